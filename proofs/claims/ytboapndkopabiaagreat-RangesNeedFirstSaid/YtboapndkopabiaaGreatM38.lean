/- Lemmas and walks (Rng16 Law1). No statement is proved here. -/
import Derived.Test.YtboapndkopabiaaGreatM37
set_option linter.unusedVariables false
set_option linter.unusedSimpArgs false
namespace Go.Proofs.YtboapndkopabiaaGreat
section
open Go.RowKit Go.Shelf
attribute [local go_sem] Oper.semAt_some
theorem Fr.keep1 {w W W' : World} {L : List (Nat × List Value)} {g : Nat} (h : Fr w W L) (hb : Below w.heap.size w W') (k : Keeps [g] W W') (hne : ∀ b vs, (b, vs) ∈ L → b ≠ g) : Fr w W' L :=
 ⟨hb, fun b vs hm i u hu => by
  have hk := k.block b (h.lt _ _ hm) (by simp; exact hne b vs hm); have := h.at_ _ _ hm i u hu
  exact ⟨by rw [← this.1]; simp only [World.cell?, hk], by rw [← this.2]; simp only [World.frozen?, hk]⟩, fun b vs hm => Nat.lt_of_lt_of_le (h.lt b vs hm) k.size, h.ge⟩
theorem own_copy {wr : World} {M : List Nat} {B : Option Addr} {m d : Nat} {l : List Rt} (hs : Sl RatR wr M B m d (l.map encQ)) (hm : m ≤ 30) (h0 : 0 < m) :
 ∃ g cap V, (Builtin.append_ #[39, 39] 39 #[.slice (some ⟨wr.heap.size, 0, none⟩) 0 0, .slice B m d]).run Tryz.prog (wr.alloc (.cells #[] 31)) = .ok (.slice (some ⟨g, 0, none⟩) m cap) V ∧
  OwnQ V M wr.heap.size (.slice (some ⟨g, 0, none⟩) m cap) m l ∧ Below wr.heap.size wr V ∧ wr.heap.size ≤ g := by
 have h0' : AS wr wr M (.slice none 0 0) 0 [] := ⟨OwnS.nil _ _ _, Below.refl _ _⟩
 have h1 := h0'.op0
 obtain ⟨v', V, r1, r2, r3, r4⟩ := h1.1.app (h1.1.sl hs) (by omega) (by omega)
 rw [Nat.zero_add, List.nil_append] at r2
 rcases OwnS.cells r2.own with ⟨-, e0⟩ | ⟨g, cap, rfl, hmc, hgb, hcells⟩
 · omega
 · exact ⟨g, cap, V, r1, r2.own, r2.bl, hgb⟩
theorem own_turn {W : World} {M : List Nat} {base g cap m a : Nat} {l : List Rt} {x : Rt} {p q : Bool} {A1 B1 : Option Addr} {n1 c1 m1 d1 : Nat} (hO : OwnQ W M base (.slice (some ⟨g, 0, none⟩) m cap) m l) (hm : m ≤ 30) (ha : a < m) (hM : ∀ k, k ∈ M → k < base) (hx : QC W (g :: M) x p q A1 n1 c1 B1 m1 d1) :
 ∃ W', (((W.setCell ⟨g, a * 4, none⟩ (.bool p)).setCell ⟨g, a * 4 + 1, none⟩ (.slice A1 n1 c1)).setCell ⟨g, a * 4 + 2, none⟩ (.bool q)).setCell ⟨g, a * 4 + 3, none⟩ (.slice B1 m1 d1) = W' ∧
  (∃ u0 u1 u2 u3, W.cell? ⟨g, a * 4, none⟩ = some u0 ∧ W.cell? ⟨g, a * 4 + 1, none⟩ = some u1 ∧ W.cell? ⟨g, a * 4 + 2, none⟩ = some u2 ∧ W.cell? ⟨g, a * 4 + 3, none⟩ = some u3) ∧ (∀ i, W.frozen? ⟨g, i, none⟩ = false) ∧
  OwnQ W' M base (.slice (some ⟨g, 0, none⟩) m cap) m (l.set a x) ∧ Keeps [g] W W' ∧ Sl RatR W' M (some ⟨g, 0, none⟩) m cap ((l.set a x).map encQ) := by
 obtain ⟨W', hW, hO2, kp⟩ := hO.setQ ha hx
 have hll : l.length = m := by have := hO.len; simpa using this
 rcases OwnS.cells hO with ⟨e0, -⟩ | ⟨g', cap', e0, hmc, hgb, hcells⟩
 · cases e0
 · cases e0
   obtain ⟨y, hy⟩ : ∃ y, (l.map encQ)[a]? = some y := ⟨_, List.getElem?_eq_getElem (by simp; omega)⟩
   obtain ⟨es, he1, he2⟩ := hcells a y hy; obtain ⟨A2, n2, c2, B2, m2, d2, rfl, -, -⟩ := rd_rat he1; have hz : Rep.sz RatR = 4 := rfl; rw [hz] at he2; obtain ⟨cs, hrow, -⟩ := hO.ex; obtain ⟨A9, c9, e9, hs9⟩ := hO2.sl (by omega) hM; cases e9; exact ⟨W', hW, ⟨_, _, _, _, he2 0 _ rfl, he2 1 _ rfl, he2 2 _ rfl, he2 3 _ rfl⟩, fun i => own_free hrow, hO2, kp, hs9⟩
theorem nlA {p : Prop} (h : p := by
 have hb1 : Below w2.heap.size w2 X1 := by rw [← hX1]; exact bel
 have hb2 : Below X1.heap.size X1 X2 := by rw [← hX2]; exact bel
 have hb3 : Below w2.heap.size w2 X2 := hb1.trans (hb2.mono hb1.size)
 have hl : Sl RatR X1 M (some ⟨lb, 0, none⟩) 1 1 [t] := by
  rw [← hX1, ← hlb]
  refine Sl.lit HI.out.1 _ (cs := [.bool p0, .slice E0 n0 c0, .bool q0, .slice F0 m0 d0]) rfl (by omega) fun i y hy => ?_
  match i, hy with
  | 0, hy =>
    cases hy; refine ⟨[.bool p0, .slice E0 n0 c0, .bool q0, .slice F0 m0 d0], ?_, fun j u hu => by simpa using hu⟩; rw [← HI.out.2.2.2.hp, ← HI.out.2.2.2.hq]; exact rat_rd HI.out.2.2.2.s1 HI.out.2.2.2.s2
 exact ⟨G2.out.go hb3, by rw [← hX2, ← hrb2]; exact heap_alloc_new X1 _, HI.out.2.1.go hb3, HI.out.2.2.1.go hb3, hl.go hb2⟩) : p := h
set_option maxRecDepth 100000 in
theorem rowsA {p : Prop} (h : p := by
 obtain ⟨A9, n9, c9, r, hr9, hcell, hsl, hn9⟩ := hN.out.at_ hm30 hk30 hlt
 have HRr := Hd hr9
 have HSL := Hd hsl
 have hi3 : (j : Int) < 3 := by omega
 clear hr9 hsl
 gi_wp2
 gi_loopw [48] (fun i wr => ∃ i0 : Nat, i0 ≤ n9 ∧ i = .int .i64 i0 ∧ Hid ((r.take i0).all ratOk = true) ∧ Hid (NL w wr M p0 q0 E0 n0 c0 F0 m0 d0 rb lb B m d D k e ins vs t) ∧ Hid (Sl RatR wr M A9 n9 c9 r)) (fun i _ => n9 - (intOf i).toNat)
 case atStart => exact ⟨0, by omega, rfl, Hd (by simp), hN, HSL⟩
 case round =>
  obtain ⟨i0, hi0, rfl, ht2, hN2, hS2⟩ := hrel; have hFo := hN2.out.fr; refine op1 hFo ?_; intros; clear hFo
  by_cases hlt2 : i0 < n9
  · obtain ⟨x, hx⟩ : ∃ x, r[i0]? = some x := ⟨_, List.getElem?_eq_getElem (by rw [hS2.out.len]; exact hlt2)⟩
    have HXK := Hd hx; obtain ⟨b, o, A1, n1, c1, A2, n2, c2, rfl, h0, h1, h2, h3, s1, s2⟩ := hS2.out.ratat hx
    obtain ⟨k1, hk1⟩ : ∃ k, ratE (ratOk ((x.1.1, x.1.2), (x.2.1, x.2.2))) = k := ⟨_, rfl⟩
    have HK1 := Hd hk1; have hk1' : ratE (ratOk x) = k1 := hk1; have HX := Hd2 s1 s2; clear hk1 s1 s2 hx; generalize x.1.1 = p1 at *; generalize x.2.1 = q1 at *
    obtain ⟨Wk, hWk⟩ : ∃ W' : World, wr.alloc (.cells #[.bool p1, .slice A1 n1 c1, .bool q1, .slice A2 n2 c2] 31) = W' := ⟨_, rfl⟩
    have bk : Below wr.heap.size wr Wk := by rw [← hWk]; exact bel
    have RK : RowV Wk wr.heap.size [.bool p1, .slice A1 n1 c1, .bool q1, .slice A2 n2 c2] 31 := by rw [← hWk]; exact heap_alloc_new wr _
    have v0 := RK.cell (k := 0) rfl; have v1 := RK.cell (k := 1) rfl; have v2 := RK.cell (k := 2) rfl; have v3 := RK.cell (k := 3) rfl; have HBK := Hd bk; clear bk RK; have r1 : ratOk x = true := List.all_eq_true.1 (List.all_eq_true.1 (rows_all.trans HR.out) r (List.mem_of_getElem? HRr.out)) x (List.mem_of_getElem? HXK.out)
    have e1 : k1 = 0 := by rw [← hk1', r1]; rfl
    subst e1; have HT := Hd (all_more (P := ratOk) ht2.out HXK.out r1); clear r1 hk1'
    gi_wp2_with (first
     | (refine ⟨trivial, ?_⟩; gi_at_call 31; have g' := G3.out; clear g'; refine Cn (must_yes _ _) ?_; rintro e w9 ⟨rfl, rfl⟩)
     | (refine Cl 32 (qcheck_any (l1 := x.1.2) (l2 := x.2.2) (M := M) (H.out.bel.le (Nat.le_trans hN2.out.fr.bl.size HBK.out.size)) (HX.out.1.go HBK.out) (HX.out.2.go HBK.out)) ?_
        rintro e w2 ⟨rfl, hb2⟩; rw [HK1.out]; have hbb := HBK.out.trans (hb2.mono HBK.out.size); have F2 := hN2.out.fr.go hbb; refine op1 F2 ?_; intros; have G3 := Hd2 (hN2.out.go hbb) (hS2.out.go hbb)
        clear hb2 F2 hbb)
     | fail)
    exact ⟨⟨i0 + 1, by omega, by go_num, HT, G3.out.1, G3.out.2⟩, by simp [intOf]; omega⟩
  · have HT := Hd (show ([ins, vs, [t]].take (j + 1)).all (fun r => r.all ratOk) = true from all_more (P := fun r => r.all ratOk) ht.out HRr.out (by
     have h1 := ht2.out
     rwa [List.take_of_length_le (by rw [hS2.out.len]; omega)] at h1))
    gi_wp2
    exact ⟨⟨j + 1, by omega, by go_num, HT, hN2⟩, by simp [intOf]; omega⟩) : p := h
set_option maxRecDepth 100000 in
theorem ascA {p : Prop} (h : p := by
 obtain ⟨i0, hi0⟩ : ∃ i, j - 1 = i := ⟨_, rfl⟩
 have k1 : IntKind.i64.wrap ((j : Int) - 1) = (i0 : Int) := by rw [IntKind.wrap_i64]; omega
 have hi0k : i0 < k := by omega
 have hji : j = i0 + 1 := by omega
 have HJI := Hd hji
 clear hji hi0
 obtain ⟨b, o, p1, q1, A1, n1, c1, B1, m1, d1, rfl, ⟨h0, h1, h2, h3⟩, qa⟩ := (HG.out.sv.go hF2.out.bl).at_ hi0k
 obtain ⟨b', o', p2, q2, A2, n2, c2, B2, m2, d2, e0, ⟨g0, g1, g2, g3⟩, qb⟩ := (HG.out.sv.go hF2.out.bl).at_ hlt
 obtain ⟨rfl, rfl⟩ : b = b' ∧ o = o' := by simpa using e0
 have oa := HG.out.aS.ref (i := (i0 : Int)) (decide_eq_true ⟨by omega, by rw [HG.out.sv.len]; omega⟩)
 have ob := HG.out.aS.ref (i := (j : Int)) (decide_eq_true ⟨by omega, by rw [HG.out.sv.len]; omega⟩)
 have v0 := stays_drew h0
 have v1 := stays_drew h1
 have v2 := stays_drew h2
 have v3 := stays_drew h3
 have v4 := stays_drew g0
 have v5 := stays_drew g1
 have v6 := stays_drew g2
 have v7 := stays_drew g3
 have X := Hd4 qa.drew qb.drew oa ob
 obtain ⟨cc, hcc⟩ : ∃ cc, decide (cmpQ (regQ (vs.map decQ) (i0 : Int)) (regQ (vs.map decQ) (j : Int)) < 0) = cc := ⟨_, rfl⟩
 have HC2 := Hd hcc
 clear h0 h1 h2 h3 g0 g1 g2 g3 qa qb oa ob e0 hcc
 gi_wp2
 refine T.region_E_tq [] 10 (by kernel_rfl) (by kernel_rfl) ?_
 refine T.E_rd 0 ?_; refine T.E_rd 1 ?_; refine T.E_rd 2 ?_; refine T.E_rd 3 ?_; refine T.E_rd 4 ?_; refine T.E_rd 5 ?_; refine T.E_rd 6 ?_; refine T.E_rd 7 ?_; refine T.E_rd 8 ?_
 refine T.E_al 9 fun K hK => ?_; gi_wp2
 refine Cm (less_any (M := M) (a := regQ (vs.map decQ) (i0 : Int)) (b := regQ (vs.map decQ) (j : Int)) (H.out.bel.le (w' := wr.drew) hF2.out.bl.size) X.out.1.qw X.out.2.1.qw X.out.2.2.1.1 X.out.2.2.2.1 (X.out.2.2.1.2.fine X.out.2.2.2.2)) ?_
 rintro e w5 ⟨rfl, hb5⟩
 rw [HC2.out]
 have F5 := hF2.out.drew.go hb5
 refine op1 F5 ?_; intros
 have G5 := Hd F5
 clear F5
 refine hK _ _ ⟨?_, ?_⟩; clear hK K
 · exact Keeps.of_below hb5 _
 refine lit ?_
 clear hb5
 refine T.E_nil 1 (by kernel_rfl) rfl ?_
 first
  | (have hc0 : cc = true := by rw [← HC2.out]; exact decide_eq_true (by rw [HJI.out]; exact ascends_at HAS.out i0 (by rw [HG.out.sv.len]; have := HJI.out; omega))
     subst hc0)
  | (cases cc
     · refine tls fun K hK K' hK' => ?_; gi_wp2
       refine Cm (must_no _ _) ?_; rintro e w9 ⟨rfl, rfl⟩; refine leavesIn_cons (f := 29) (args := #[.pointer (some ⟨w.heap.size + 1, 0, none⟩)]) (by simp) (by simp) (by simp [go_sem]) (fun _ _ => trivial) ?_; have hE := G5.out.at_ (w.heap.size + 1) [.int .i64 0] (by simp) 0 _ rfl; refine (caughtG_pan ⟨w.heap.size + 1, 0, none⟩ 200 0 [] _ hE.1 hE.2).mono ?_; rintro e u' w'' ⟨rfl, rfl, rfl⟩; have hE1 := hE.1; refine ⟨.tuple #[.int .i64 0, .bool false, .int .i64 200], ?_, by rw [HE.out.1, HE.out.2], (G5.out.bl.alloc G5.out.bl.size _).setCell (p := ⟨w.heap.size + 1, 0, none⟩) (by simp) _⟩
       simp [results, Tryz.results16, go_sem, hE1, cell_al _ hE1])
 have HT := Hd (show ∀ i, i + 1 < j + 1 → cmpQ (regQ (vs.map decQ) i) (regQ (vs.map decQ) ((i + 1 : Nat) : Int)) < 0 from fun i hi => by
  by_cases e1 : i + 1 < j
  · exact ht.out i e1
  · have e2 : i = i0 := by have := HJI.out; omega
    subst e2
    rw [← HJI.out]; exact of_decide_eq_true HC2.out)
 refine tls fun K hK K' hK' => ?_; gi_wp2
 refine Cm (must_yes _ _) ?_
 rintro e w9 ⟨rfl, rfl⟩
 refine hK' _ _ (hK _ _ ?_); clear hK' K' hK K; refine lit ?_
 refine tail_nil _ ?_
 gi_wp2
 exact ⟨⟨j + 1, by omega, .inl (by omega), by go_num, HT, G5⟩, by simp [intOf]; omega⟩) : p := h
section
variable {w : World} {M : List Nat} {A B D E0 F0 : Option Addr} {n c m d k e n0 c0 m0 d0 : Nat} {p : List InsR} {ins vs : List RatR} {t : RatR} {p0 q0 : Bool} {at_ : Int}
set_option maxRecDepth 20000 in
set_option maxHeartbeats 16000000 in
theorem gneed_at (h : NeedH w M A n c B m d D k e p ins vs t p0 q0 E0 n0 c0 F0 m0 d0) (hc : codeE p m = 0) (hr : (ins.all ratOk && vs.all ratOk && ratOk t) = true) (ha : ¬ (0 ≤ at_ ∧ at_ < m)) :
 Calls Tryz.prog 16 #[.slice A n c, .slice B m d, .int .i64 at_, .slice D k e, .agg #[.bool p0, .slice E0 n0 c0, .bool q0, .slice F0 m0 d0]] w (NeedR w p ins at_ vs t) := by
 have HE := Hd (h.eAt hc hr ha)
 have HC := Hd hc
 have HR := Hd hr
 clear hc hr
 refine wid ?_
 have hsp := h.sp.small
 have hsi := h.si.small
 have hsv := h.sv.small
 have hm30 := h.m30
 have hk30 := h.k30
 have H := Hd h
 obtain ⟨W1, hW1, F1⟩ := nam (((Fr.nil w).a w.heap.size [.bool p0, .slice E0 n0 c0, .bool q0, .slice F0 m0 d0] 31).a0 (w.heap.size + 1) 34)
 refine op1 F1 ?_; intros
 have F := Hd F1
 clear h F1
 refine entd Tryz.func16 rfl Tryz.ntmps16 ?_
 have hdk : decide ((k : Int) ≤ 1001) = true := decide_eq_true (by omega)
 gi_wp2_with (first
  | (refine ⟨trivial, ?_⟩; gi_at_call 31; have g' := G2.out; clear g'; refine Cn (must_yes _ _) ?_; rintro e w2 ⟨rfl, rfl⟩)
  | (refine Cl 30 (ccodeE_any (M := M) _ n c p (m : Int) _ (H.out.bel.le F.out.bl.size) (H.out.sp.go F.out.bl)) ?_
     rintro e w2 ⟨rfl, hb2⟩; rw [HC.out]; have F2 := F.out.go hb2; refine op1 F2 ?_; intros; have G2 := Hd F2; have HI := Hd4 (H.out.bel.le F2.bl.size) (H.out.si.go F2.bl) (H.out.sv.go F2.bl) (H.out.st.go F2.bl)
     clear hb2 F2)
  | fail)
 obtain ⟨X1, hX1⟩ : ∃ V : World, w2.alloc (.cells #[.bool p0, .slice E0 n0 c0, .bool q0, .slice F0 m0 d0] 31) = V := ⟨_, rfl⟩
 obtain ⟨lb, hlb⟩ : ∃ b, w2.heap.size = b := ⟨_, rfl⟩
 obtain ⟨rb, hrb⟩ : ∃ b, lb + 1 = b := ⟨_, rfl⟩
 have hrb2 : X1.heap.size = rb := by rw [← hX1, ← hrb, ← hlb]; simp
 obtain ⟨X2, hX2⟩ : ∃ V : World, X1.alloc (.cells #[.slice B m d, .slice D k e, .slice (some ⟨lb, 0, none⟩) 1 1] 39) = V := ⟨_, rfl⟩
 have hNL : NL w X2 M p0 q0 E0 n0 c0 F0 m0 d0 rb lb B m d D k e ins vs t := nlA
 have HNL := Hd hNL
 clear hNL
 rw [hlb, hrb, hX1, hX2]
 gi_loopw [42] (fun i wr => ∃ j : Nat, j ≤ 3 ∧ i = .int .i64 j ∧ Hid ((([ins, vs, [t]].take j).all fun r => r.all ratOk) = true) ∧ Hid (NL w wr M p0 q0 E0 n0 c0 F0 m0 d0 rb lb B m d D k e ins vs t)) (fun i _ => 3 - (intOf i).toNat)
 case atStart => exact ⟨0, by omega, rfl, Hd (by simp), HNL.out⟩
 case round =>
  obtain ⟨j, hj, rfl, ht, hN⟩ := hrel; have hFo := hN.out.fr; refine op1 hFo ?_; intros; clear hFo
  by_cases hlt : j < 3
  · exact rowsA
  · by_cases ha0 : at_ < 0
    · have hd0 : decide (0 ≤ at_) = false := decide_eq_false (by omega)
      gi_wp2_with (first
       | (refine ⟨trivial, ?_⟩; gi_at_call 31; have g' := hN.out; clear g'; refine Cn (must_no _ _) ?_; rintro e w9 ⟨rfl, rfl⟩)
       | (refine ⟨trivial, ?_⟩))
      all_goals first
       | exact (undef_no (by assumption)).elim
       | (refine leavesIn_cons (f := 29) (args := #[.pointer (some ⟨w.heap.size + 1, 0, none⟩)]) (by simp) (by simp) (by simp [go_sem]) (fun _ _ => trivial) ?_
          have hE := hN.out.fr.at_ (w.heap.size + 1) [.int .i64 0] (by simp) 0 _ rfl; refine (caughtG_pan ⟨w.heap.size + 1, 0, none⟩ 1 0 [] _ hE.1 hE.2).mono ?_; rintro e u' w'' ⟨rfl, rfl, rfl⟩; have hE1 := hE.1; refine ⟨.tuple #[.int .i64 0, .bool false, .int .i64 1], ?_, by rw [HE.out.1, HE.out.2], (hN.out.fr.bl.alloc hN.out.fr.bl.size _).setCell (p := ⟨w.heap.size + 1, 0, none⟩) (by simp) _⟩
          simp [results, Tryz.results16, go_sem, hE1, cell_al _ hE1])
    · have ham : (m : Int) ≤ at_ := by omega
      have hd0 : decide (0 ≤ at_) = true := decide_eq_true (by omega); have hd1 : decide (at_ < (m : Int)) = false := decide_eq_false (by omega)
      gi_wp2_with (first
       | (refine ⟨trivial, ?_⟩; gi_at_call 31; have g' := hN.out; clear g'; refine Cn (must_no _ _) ?_; rintro e w9 ⟨rfl, rfl⟩)
       | (refine ⟨trivial, ?_⟩))
      all_goals first
       | exact (undef_no (by assumption)).elim
       | (refine leavesIn_cons (f := 29) (args := #[.pointer (some ⟨w.heap.size + 1, 0, none⟩)]) (by simp) (by simp) (by simp [go_sem]) (fun _ _ => trivial) ?_
          have hE := hN.out.fr.at_ (w.heap.size + 1) [.int .i64 0] (by simp) 0 _ rfl; refine (caughtG_pan ⟨w.heap.size + 1, 0, none⟩ 1 0 [] _ hE.1 hE.2).mono ?_; rintro e u' w'' ⟨rfl, rfl, rfl⟩; have hE1 := hE.1; refine ⟨.tuple #[.int .i64 0, .bool false, .int .i64 1], ?_, by rw [HE.out.1, HE.out.2], (hN.out.fr.bl.alloc hN.out.fr.bl.size _).setCell (p := ⟨w.heap.size + 1, 0, none⟩) (by simp) _⟩
          simp [results, Tryz.results16, go_sem, hE1, cell_al _ hE1])
set_option maxRecDepth 20000 in
set_option maxHeartbeats 16000000 in
theorem gneed_asc {a : Nat} (h : NeedH w M A n c B m d D k e p ins vs t p0 q0 E0 n0 c0 F0 m0 d0) (hc : codeE p m = 0) (hr : (ins.all ratOk && vs.all ratOk && ratOk t) = true) (ha : a < m) (has : ascends (vs.map decQ) = false) :
 Calls Tryz.prog 16 #[.slice A n c, .slice B m d, .int .i64 (a : Int), .slice D k e, .agg #[.bool p0, .slice E0 n0 c0, .bool q0, .slice F0 m0 d0]] w (NeedR w p ins (a : Int) vs t) := by
 have HE := Hd (h.eAsc (at_ := (a : Int)) hc hr ⟨by omega, by omega⟩ has)
 have HG := Hd (h.g hc hr)
 have HC := Hd hc
 have HR := Hd hr
 have HAS := Hd has
 have hd1 : decide (a < m) = true := decide_eq_true ha
 clear hc hr has
 refine wid ?_
 have hsp := h.sp.small
 have hsi := h.si.small
 have hsv := h.sv.small
 have hm30 := h.m30
 have hk30 := h.k30
 have H := Hd h
 obtain ⟨W1, hW1, F1⟩ := nam (((Fr.nil w).a w.heap.size [.bool p0, .slice E0 n0 c0, .bool q0, .slice F0 m0 d0] 31).a0 (w.heap.size + 1) 34)
 refine op1 F1 ?_; intros
 have F := Hd F1
 clear h F1
 refine entd Tryz.func16 rfl Tryz.ntmps16 ?_
 have hdk : decide ((k : Int) ≤ 1001) = true := decide_eq_true (by omega)
 gi_wp2_with (first
  | (refine ⟨trivial, ?_⟩; gi_at_call 31; have g' := G2.out; clear g'; refine Cn (must_yes _ _) ?_; rintro e w2 ⟨rfl, rfl⟩)
  | (refine Cl 30 (ccodeE_any (M := M) _ n c p (m : Int) _ (H.out.bel.le F.out.bl.size) (H.out.sp.go F.out.bl)) ?_
     rintro e w2 ⟨rfl, hb2⟩; rw [HC.out]; have F2 := F.out.go hb2; refine op1 F2 ?_; intros; have G2 := Hd F2; have HI := Hd4 (H.out.bel.le F2.bl.size) (H.out.si.go F2.bl) (H.out.sv.go F2.bl) (H.out.st.go F2.bl)
     clear hb2 F2)
  | fail)
 obtain ⟨X1, hX1⟩ : ∃ V : World, w2.alloc (.cells #[.bool p0, .slice E0 n0 c0, .bool q0, .slice F0 m0 d0] 31) = V := ⟨_, rfl⟩
 obtain ⟨lb, hlb⟩ : ∃ b, w2.heap.size = b := ⟨_, rfl⟩
 obtain ⟨rb, hrb⟩ : ∃ b, lb + 1 = b := ⟨_, rfl⟩
 have hrb2 : X1.heap.size = rb := by rw [← hX1, ← hrb, ← hlb]; simp
 obtain ⟨X2, hX2⟩ : ∃ V : World, X1.alloc (.cells #[.slice B m d, .slice D k e, .slice (some ⟨lb, 0, none⟩) 1 1] 39) = V := ⟨_, rfl⟩
 have hNL : NL w X2 M p0 q0 E0 n0 c0 F0 m0 d0 rb lb B m d D k e ins vs t := nlA
 have HNL := Hd hNL
 clear hNL
 rw [hlb, hrb, hX1, hX2]
 gi_loopw [42] (fun i wr => ∃ j : Nat, j ≤ 3 ∧ i = .int .i64 j ∧ Hid ((([ins, vs, [t]].take j).all fun r => r.all ratOk) = true) ∧ Hid (NL w wr M p0 q0 E0 n0 c0 F0 m0 d0 rb lb B m d D k e ins vs t)) (fun i _ => 3 - (intOf i).toNat)
 case atStart => exact ⟨0, by omega, rfl, Hd (by simp), HNL.out⟩
 case round =>
  obtain ⟨j, hj, rfl, ht, hN⟩ := hrel; have hFo := hN.out.fr; refine op1 hFo ?_; intros; clear hFo
  by_cases hlt : j < 3
  · exact rowsA
  · gi_wp2_with (first
     | (refine ⟨trivial, ?_⟩; gi_at_call 31; have g' := hN.out; clear g'; refine Cn (must_yes _ _) ?_; rintro e w9 ⟨rfl, rfl⟩)
     | (refine ⟨trivial, ?_⟩))
    gi_loopw [18] (fun i wr => ∃ j : Nat, 1 ≤ j ∧ (j ≤ k ∨ j = 1) ∧ i = .int .i64 j ∧ Hid (∀ i, i + 1 < j → cmpQ (regQ (vs.map decQ) i) (regQ (vs.map decQ) ((i + 1 : Nat) : Int)) < 0) ∧ Hid (Fr w wr [(w.heap.size, [.bool p0, .slice E0 n0 c0, .bool q0, .slice F0 m0 d0]), (w.heap.size + 1, [.int .i64 0])])) (fun i _ => k - (intOf i).toNat)
    case atStart => exact ⟨1, Nat.le_refl _, .inr rfl, rfl, Hd (fun i hi => by omega), hN.out.fr⟩
    case round =>
     obtain ⟨j, hj1, hj, rfl, ht, hF2⟩ := hrel; have hFo := hF2.out; refine op1 hFo ?_; intros; clear hFo
     by_cases hlt : j < k
     · exact ascA
     · exfalso
       have h1 := ascends_of (l := vs.map decQ) (fun i hi => ht.out i (by rw [HG.out.sv.len] at hi; omega)); rw [HAS.out] at h1; cases h1
set_option maxRecDepth 20000 in
set_option maxHeartbeats 32000000 in
theorem gneed_ok {a : Nat} (h : NeedH w M A n c B m d D k e p ins vs t p0 q0 E0 n0 c0 F0 m0 d0) (hc : codeE p m = 0) (hr : (ins.all ratOk && vs.all ratOk && ratOk t) = true) (ha : a < m) (has : ascends (vs.map decQ) = true) :
 Calls Tryz.prog 16 #[.slice A n c, .slice B m d, .int .i64 (a : Int), .slice D k e, .agg #[.bool p0, .slice E0 n0 c0, .bool q0, .slice F0 m0 d0]] w (NeedR w p ins (a : Int) vs t) := by
 have HE := Hd (h.eOk (at_ := (a : Int)) hc hr ⟨by omega, by omega⟩ has)
 have HG := Hd (h.g hc hr)
 have HC := Hd hc
 have HR := Hd hr
 have HAS := Hd has
 obtain ⟨f, hf⟩ : ∃ f, enough p (ins.map decQ) (a : Int) (decQ t) = f := ⟨_, rfl⟩
 rw [hf] at HE
 have HFE := Hd (show ∀ v, f v = decide (0 ≤ cmpQ (resQ p ((ins.map decQ).set a v)) (decQ t)) from fun v => by rw [← hf]; rfl)
 have hd1 : decide (a < m) = true := decide_eq_true ha
 clear hc hr has hf
 refine wid ?_
 have hsp := h.sp.small
 have hsi := h.si.small
 have hsv := h.sv.small
 have hm30 := h.m30
 have hk30 := h.k30
 have H := Hd h
 obtain ⟨W1, hW1, F1⟩ := nam (((Fr.nil w).a w.heap.size [.bool p0, .slice E0 n0 c0, .bool q0, .slice F0 m0 d0] 31).a0 (w.heap.size + 1) 34)
 refine op1 F1 ?_; intros
 have F := Hd F1
 clear h F1
 refine entd Tryz.func16 rfl Tryz.ntmps16 ?_
 have hdk : decide ((k : Int) ≤ 1001) = true := decide_eq_true (by omega)
 gi_wp2_with (first
  | (refine ⟨trivial, ?_⟩; gi_at_call 31; have g' := G2.out; clear g'; refine Cn (must_yes _ _) ?_; rintro e w2 ⟨rfl, rfl⟩)
  | (refine Cl 30 (ccodeE_any (M := M) _ n c p (m : Int) _ (H.out.bel.le F.out.bl.size) (H.out.sp.go F.out.bl)) ?_
     rintro e w2 ⟨rfl, hb2⟩; rw [HC.out]; have F2 := F.out.go hb2; refine op1 F2 ?_; intros; have G2 := Hd F2; have HI := Hd4 (H.out.bel.le F2.bl.size) (H.out.si.go F2.bl) (H.out.sv.go F2.bl) (H.out.st.go F2.bl)
     clear hb2 F2)
  | fail)
 obtain ⟨X1, hX1⟩ : ∃ V : World, w2.alloc (.cells #[.bool p0, .slice E0 n0 c0, .bool q0, .slice F0 m0 d0] 31) = V := ⟨_, rfl⟩
 obtain ⟨lb, hlb⟩ : ∃ b, w2.heap.size = b := ⟨_, rfl⟩
 obtain ⟨rb, hrb⟩ : ∃ b, lb + 1 = b := ⟨_, rfl⟩
 have hrb2 : X1.heap.size = rb := by rw [← hX1, ← hrb, ← hlb]; simp
 obtain ⟨X2, hX2⟩ : ∃ V : World, X1.alloc (.cells #[.slice B m d, .slice D k e, .slice (some ⟨lb, 0, none⟩) 1 1] 39) = V := ⟨_, rfl⟩
 have hNL : NL w X2 M p0 q0 E0 n0 c0 F0 m0 d0 rb lb B m d D k e ins vs t := nlA
 have HNL := Hd hNL
 clear hNL
 rw [hlb, hrb, hX1, hX2]
 gi_loopw [42] (fun i wr => ∃ j : Nat, j ≤ 3 ∧ i = .int .i64 j ∧ Hid ((([ins, vs, [t]].take j).all fun r => r.all ratOk) = true) ∧ Hid (NL w wr M p0 q0 E0 n0 c0 F0 m0 d0 rb lb B m d D k e ins vs t)) (fun i _ => 3 - (intOf i).toNat)
 case atStart => exact ⟨0, by omega, rfl, Hd (by simp), HNL.out⟩
 case round =>
  obtain ⟨j, hj, rfl, ht, hN⟩ := hrel; have hFo := hN.out.fr; refine op1 hFo ?_; intros; clear hFo
  by_cases hlt : j < 3
  · exact rowsA
  · gi_wp2_with (first
     | (refine ⟨trivial, ?_⟩; gi_at_call 31; have g' := hN.out; clear g'; refine Cn (must_yes _ _) ?_; rintro e w9 ⟨rfl, rfl⟩)
     | (refine ⟨trivial, ?_⟩))
    gi_loopw [18] (fun i wr => ∃ j : Nat, 1 ≤ j ∧ (j ≤ k ∨ j = 1) ∧ i = .int .i64 j ∧ Hid (∀ i, i + 1 < j → cmpQ (regQ (vs.map decQ) i) (regQ (vs.map decQ) ((i + 1 : Nat) : Int)) < 0) ∧ Hid (Fr w wr [(w.heap.size, [.bool p0, .slice E0 n0 c0, .bool q0, .slice F0 m0 d0]), (w.heap.size + 1, [.int .i64 0])])) (fun i _ => k - (intOf i).toNat)
    case atStart => exact ⟨1, Nat.le_refl _, .inr rfl, rfl, Hd (fun i hi => by omega), hN.out.fr⟩
    case round =>
     obtain ⟨j, hj1, hj, rfl, ht, hF2⟩ := hrel; have hFo := hF2.out; refine op1 hFo ?_; intros; clear hFo
     by_cases hlt : j < k
     · exact ascA
     · obtain ⟨g, cap, V, r1, hO0, hbV, hgb⟩ := own_copy (HG.out.si.go hF2.out.bl) hm30 (by omega)
       have hL2 := hF2.out.ltn 1
       obtain ⟨base, hbase⟩ : ∃ b, wr.heap.size = b := ⟨_, rfl⟩
       rw [hbase] at hO0 hgb hL2; have HB := Hd (show w.heap.size + 1 < base ∧ base ≤ g ∧ (∀ q, q ∈ M → q < base) from ⟨hL2, hgb, fun q hq => by rw [← hbase]; exact H.out.bel.le hF2.out.bl.size q hq⟩); have RUN := Hd r1; have FV := Hd (hF2.out.go hbV); have HO := Hd hO0; clear r1 hO0 hbV hgb hL2 hbase
       gi_wp2_with (gi_at_builtin; refine wpListIn_plain rfl fun K hK' => ?_; refine wpIn_append _ _ _ rfl rfl rfl RUN.out (hK' _ _ ?_); clear hK' K)
       gi_loopw [89] (fun i wr => ∃ j : Nat, j ≤ k ∧ i = .int .i64 j ∧ Hid (firstK f j ((vs.map decQ).drop j) = firstK f 0 (vs.map decQ)) ∧ Hid (Fr w wr [(w.heap.size, [.bool p0, .slice E0 n0 c0, .bool q0, .slice F0 m0 d0]), (w.heap.size + 1, [.int .i64 0])]) ∧ Hid (∃ l, OwnQ wr M base (.slice (some ⟨g, 0, none⟩) m cap) m l ∧ ∀ x, l.set a x = (ins.map decQ).set a x)) (fun i _ => k - (intOf i).toNat)
       case atStart => exact ⟨0, Nat.zero_le _, rfl, Hd rfl, FV, Hd ⟨_, HO.out, fun _ => rfl⟩⟩
       case round =>
        obtain ⟨j, hj, rfl, ht2, hF3, hOx⟩ := hrel; have hFo := hF3.out; refine op1 hFo ?_; intros; clear hFo
        by_cases hlt : j < k
        · obtain ⟨l, hO3, hset⟩ := hOx.out
          obtain ⟨b, o, p1, q1, A1, n1, c1, B1, m1, d1, rfl, ⟨h0, h1, h2, h3⟩, qv⟩ := ((HG.out.sv.more (b := g) (by have := HB.out; omega)).go hF3.out.bl).at_ hlt; have hvl : (vs.map decQ).length = k := HG.out.sv.len
          have hv : (vs.map decQ)[j]? = some (regQ (vs.map decQ) (j : Int)) := by
           obtain ⟨x, hx⟩ : ∃ x, (vs.map decQ)[j]? = some x := ⟨_, List.getElem?_eq_getElem (by rw [hvl]; exact hlt)⟩
           rw [hx, regQ_get hx]
          have hvm := List.mem_of_getElem? hv; have hfs := firstK_step (f := f) hv; rw [HFE.out] at hfs
          obtain ⟨v, hve⟩ : ∃ v, regQ (vs.map decQ) (j : Int) = v := ⟨_, rfl⟩
          rw [hve] at hfs qv hvm
          obtain ⟨cc, hcc⟩ : ∃ cc, decide (cmpQ (resQ p ((ins.map decQ).set a v)) (decQ t) < 0) = cc := ⟨_, rfl⟩
          have HC2 := Hd hcc
          obtain ⟨Wk, hWk⟩ : ∃ W' : World, wr.alloc (.cells #[.bool p1, .slice A1 n1 c1, .bool q1, .slice B1 m1 d1] 31) = W' := ⟨_, rfl⟩
          have bk : Below wr.heap.size wr Wk := by rw [← hWk]; exact bel
          have RK : RowV Wk wr.heap.size [.bool p1, .slice A1 n1 c1, .bool q1, .slice B1 m1 d1] 31 := by rw [← hWk]; exact heap_alloc_new wr _
          have v0 := RK.cell (k := 0) rfl; have v1 := RK.cell (k := 1) rfl; have v2 := RK.cell (k := 2) rfl; have v3 := RK.cell (k := 3) rfl; obtain ⟨W, hW, ⟨u0, u1, u2, u3, y0, y1, y2, y3⟩, fz, hO5, kp, hs5⟩ := own_turn (a := a) (hO3.go bk) hm30 (by omega) HB.out.2.2 (qv.go bk); have f0 := fz (a * 4); have f1 := fz (a * 4 + 1); have f2 := fz (a * 4 + 2); have f3 := fz (a * 4 + 3)
          have FW : Fr w W [(w.heap.size, [.bool p0, .slice E0 n0 c0, .bool q0, .slice F0 m0 d0]), (w.heap.size + 1, [.int .i64 0])] := by
           have hg2 : w.heap.size ≤ g := by have := HB.out; omega
           have hFk := hF3.out.go bk; refine hFk.keep1 ?_ kp (fun b vs hm => by have := HB.out; simp at hm; omega); rw [← hW]; exact (((hFk.bl.setCell (p := ⟨g, a * 4, none⟩) hg2 _).setCell (p := ⟨g, a * 4 + 1, none⟩) hg2 _).setCell (p := ⟨g, a * 4 + 2, none⟩) hg2 _).setCell (p := ⟨g, a * 4 + 3, none⟩) hg2 _
          rw [hset v] at hs5; have HX := Hd3 FW (show RunH W M A n c (some ⟨g, 0, none⟩) m cap p ((ins.map decQ).set a v) from ⟨H.out.bel.le FW.bl.size, H.out.sp.go FW.bl, hs5, HC.out, HG.out.fw, HG.out.lp, HG.out.rg a v hvm⟩) hO5; have HSET := Hd (show ∀ x, (l.set a v).set a x = (ins.map decQ).set a x from fun x => by rw [List.set_set]; exact hset x); clear FW fz hs5 hO5 kp qv hv hvl hvm hve hcc RK bk hO3 hset; cases cc
          · have HF := Hd (show firstK f 0 (vs.map decQ) = ((j : Int), true) from ht2.out.symm.trans (hfs.trans (by rw [if_pos (decide_eq_true (by have := of_decide_eq_false HC2.out; omega))])))
            clear hfs
            gi_wp2_with (first
             | (refine ⟨trivial, ?_⟩; gi_at_call 33; have g' := G8.out; clear g'
                refine Cn (less_any (M := M) (H.out.bel.le G8.out.1.bl.size) G8.out.2.1.qw G8.out.2.2.1.qw HX.out.2.1.res_ok.1 HG.out.tS.1 (HX.out.2.1.res_ok.2.fine HG.out.tS.2)) ?_; rintro e w9 ⟨rfl, hb9⟩; rw [HC2.out]; have F9 := G8.out.1.go hb9; refine op1 F9 ?_; intros; have G9 := Hd2 F9 (HX.out.2.2.go (G8.out.2.2.2.trans (hb9.mono G8.out.2.2.2.size)))
                clear F9 hb9)
             | (refine ⟨trivial, ?_⟩; gi_at_call 31; have g' := G8.out; clear g'; refine Cn (must_yes _ _) ?_; rintro e w8 ⟨rfl, rfl⟩)
             | (refine Cl 20 (U.crun_any HX.out.2.1) ?_
                rintro e w7 ⟨u7, rfl, z7, hb7⟩; obtain ⟨p21, q21, A21, n21, c21, B21, m21, d21, rfl, qc7⟩ := QC.of z7
                obtain ⟨W8, hW8⟩ : ∃ W8 : World, w7.alloc (.cells #[.bool p21, .slice A21 n21 c21, .bool q21, .slice B21 m21 d21] 31) = W8 := ⟨_, rfl⟩
                have hb8 : Below w7.heap.size w7 W8 := by rw [← hW8]; exact bel
                have R8 : RowV W8 w7.heap.size [.bool p21, .slice A21 n21 c21, .bool q21, .slice B21 m21 d21] 31 := by rw [← hW8]; exact heap_alloc_new w7 _
                have z0 := R8.cell (k := 0) rfl; have z1 := R8.cell (k := 1) rfl; have z2 := R8.cell (k := 2) rfl; have z3 := R8.cell (k := 3) rfl; have F8 := (HX.out.1.go hb7).go hb8; refine op1 F8 ?_; intros; have G8 := Hd4 F8 (qc7.go hb8) ((H.out.st.go F8.bl).qc HG.out.ri) (hb7.trans (hb8.mono hb7.size))
                clear F8 R8 hb8 hb7 z7 qc7)
             | fail)
            have hE := (G9.out.1.cel 1 0)
            refine leavesIn_cons (f := 29) (args := #[.pointer (some ⟨w.heap.size + 1, 0, none⟩)]) (by simp) (by simp) (by simp [go_sem]) (fun _ _ => trivial) ?_; refine (caughtG_idle ⟨w.heap.size + 1, 0, none⟩ _).mono ?_; rintro e u' w'' ⟨rfl, rfl, rfl⟩; refine ⟨.tuple #[.int .i64 (j : Int), .bool true, .int .i64 0], ?_, by rw [HE.out.1, HE.out.2, HF.out], G9.out.1.bl.setCell (p := ⟨w.heap.size + 1, 0, none⟩) (by simp) _⟩
            simp [results, Tryz.results16, go_sem, hE]
          · have HF := Hd (show firstK f (j + 1) ((vs.map decQ).drop (j + 1)) = firstK f 0 (vs.map decQ) from (by rw [← ht2.out, hfs, if_neg (by have := of_decide_eq_true HC2.out; simp; omega)]))
            clear hfs
            gi_wp2_with (first
             | (refine ⟨trivial, ?_⟩; gi_at_call 33; have g' := G8.out; clear g'
                refine Cn (less_any (M := M) (H.out.bel.le G8.out.1.bl.size) G8.out.2.1.qw G8.out.2.2.1.qw HX.out.2.1.res_ok.1 HG.out.tS.1 (HX.out.2.1.res_ok.2.fine HG.out.tS.2)) ?_; rintro e w9 ⟨rfl, hb9⟩; rw [HC2.out]; have F9 := G8.out.1.go hb9; refine op1 F9 ?_; intros; have G9 := Hd2 F9 (HX.out.2.2.go (G8.out.2.2.2.trans (hb9.mono G8.out.2.2.2.size)))
                clear F9 hb9)
             | (refine ⟨trivial, ?_⟩; gi_at_call 31; have g' := G8.out; clear g'; refine Cn (must_yes _ _) ?_; rintro e w8 ⟨rfl, rfl⟩)
             | (refine Cl 20 (U.crun_any HX.out.2.1) ?_
                rintro e w7 ⟨u7, rfl, z7, hb7⟩; obtain ⟨p21, q21, A21, n21, c21, B21, m21, d21, rfl, qc7⟩ := QC.of z7
                obtain ⟨W8, hW8⟩ : ∃ W8 : World, w7.alloc (.cells #[.bool p21, .slice A21 n21 c21, .bool q21, .slice B21 m21 d21] 31) = W8 := ⟨_, rfl⟩
                have hb8 : Below w7.heap.size w7 W8 := by rw [← hW8]; exact bel
                have R8 : RowV W8 w7.heap.size [.bool p21, .slice A21 n21 c21, .bool q21, .slice B21 m21 d21] 31 := by rw [← hW8]; exact heap_alloc_new w7 _
                have z0 := R8.cell (k := 0) rfl; have z1 := R8.cell (k := 1) rfl; have z2 := R8.cell (k := 2) rfl; have z3 := R8.cell (k := 3) rfl; have F8 := (HX.out.1.go hb7).go hb8; refine op1 F8 ?_; intros; have G8 := Hd4 F8 (qc7.go hb8) ((H.out.st.go F8.bl).qc HG.out.ri) (hb7.trans (hb8.mono hb7.size))
                clear F8 R8 hb8 hb7 z7 qc7)
             | fail)
            exact ⟨⟨j + 1, by omega, by go_num, HF, Hd G9.out.1, Hd ⟨_, G9.out.2, HSET.out⟩⟩, by simp [intOf]; omega⟩
        · have HF := Hd (show firstK f 0 (vs.map decQ) = (0, false) by
           have h1 := ht2.out; rw [List.drop_of_length_le (by rw [HG.out.sv.len]; omega)] at h1
           rw [← h1]; rfl)
          gi_wp2
          have hE := (hF3.out.cel 1 0)
          refine leavesIn_cons (f := 29) (args := #[.pointer (some ⟨w.heap.size + 1, 0, none⟩)]) (by simp) (by simp) (by simp [go_sem]) (fun _ _ => trivial) ?_; refine (caughtG_idle ⟨w.heap.size + 1, 0, none⟩ _).mono ?_; rintro e u' w'' ⟨rfl, rfl, rfl⟩; refine ⟨.tuple #[.int .i64 0, .bool false, .int .i64 0], ?_, by rw [HE.out.1, HE.out.2, HF.out], hF3.out.bl.setCell (p := ⟨w.heap.size + 1, 0, none⟩) (by simp) _⟩
          simp [results, Tryz.results16, go_sem, hE]
theorem gneed_any (h : NeedH w M A n c B m d D k e p ins vs t p0 q0 E0 n0 c0 F0 m0 d0) :
 Calls Tryz.prog 16 #[.slice A n c, .slice B m d, .int .i64 at_, .slice D k e, .agg #[.bool p0, .slice E0 n0 c0, .bool q0, .slice F0 m0 d0]] w (NeedR w p ins at_ vs t) := by
 by_cases hc : codeE p m = 0
 · cases hr : (ins.all ratOk && vs.all ratOk && ratOk t)
   · exact gneed_rat h hc hr
   · by_cases ha : 0 ≤ at_ ∧ at_ < m
     · obtain ⟨a, rfl⟩ : ∃ a : Nat, at_ = a := ⟨at_.toNat, by omega⟩
       cases hs : ascends (vs.map decQ)
       · exact gneed_asc h hc hr (by omega) hs
       · exact gneed_ok h hc hr (by omega) hs
     · exact gneed_at h hc hr ha
 · exact gneed_bad h hc
end
end
section
open Go.RowKit Go.Shelf
attribute [local go_sem] Oper.semAt_some
abbrev I1 (x : Int) : Rt := ⟨x, 1⟩
theorem low_one (x : Int) : lowM x 1 = I1 x := by
 rw [low_pos (by omega)]
 simp [I1]
set_option maxHeartbeats 2000000 in
theorem ln_any {M : List Nat} {x : Int} {w : World} (hM : Bel M w) (hx : i64 x) :
 Calls Tryz.prog 24 #[.int .i64 x] w fun e w' => ∃ u, e = .returned u ∧ QW w' M u (I1 x) ∧ Below w.heap.size w w' := by
 refine wid ?_
 obtain ⟨W1, hW1, F1⟩ := nam ((Fr.nil w).a4 w.heap.size 31)
 refine op1 F1 ?_; intros
 have hM1 : Bel (w.heap.size :: M) W1 := (hM.le F1.bl.size).cons (F1.ltn 0)
 have F := Hd F1
 have X := Hd2 hM1 hx
 clear hM hx hM1 F1
 refine ent Tryz.func24 rfl Tryz.ntmps24 ?_
 gi_wp2_with (refine Cl 52 (qMake_any (M := w.heap.size :: M) (n := x) (d := 1) X.out.1 X.out.2 (by unfold i64; omega) (by omega)) ?_
              rintro e w2 ⟨u2, rfl, z2, hb2⟩; rw [low_one] at z2; obtain ⟨p9, q9, A9, n9, c9, B9, m9, d9, rfl, qc9⟩ := QC.of z2
              obtain ⟨W3, hW3⟩ : ∃ W3 : World, w2.alloc (.cells #[.bool p9, .slice A9 n9 c9, .bool q9, .slice B9 m9 d9] 31) = W3 := ⟨_, rfl⟩
              have hb3 : Below w2.heap.size w2 W3 := by rw [← hW3]; exact bel
              have R3 : RowV W3 w2.heap.size [.bool p9, .slice A9 n9 c9, .bool q9, .slice B9 m9 d9] 31 := by rw [← hW3]; exact heap_alloc_new w2 _
              have v0 := R3.cell (k := 0) rfl; have v1 := R3.cell (k := 1) rfl; have v2 := R3.cell (k := 2) rfl; have v3 := R3.cell (k := 3) rfl; have F3 := (F.out.go hb2).go hb3; refine op1 F3 ?_; intros; have G3 := Hd2 F3 (qc9.go hb3)
              clear z2 hb2 hb3 R3 F3 qc9)
 have hx := G3.out.1.nth 0
 obtain ⟨wF, hwF, t0, t1, t2, t3, hQ, bF⟩ := fin4 (M := M) (hx 0 _ rfl) (hx 1 _ rfl) (hx 2 _ rfl) (hx 3 _ rfl) (x := I1 x) G3.out.2.num.sl G3.out.2.den.sl G3.out.2.num.neg G3.out.2.den.neg G3.out.1.bl (Nat.le_refl _)
 try rw [hwF]
 exact ⟨rfl, .agg #[.bool p9, .slice A9 n9 c9, .bool q9, .slice B9 m9 d9], by simp [results, go_sem, t0, t1, t2, t3], _, rfl, hQ, bF⟩
set_option maxHeartbeats 2000000 in
theorem rint_any {M : List Nat} {x : Int} {w : World} (hM : Bel M w) (hx : i64 x) :
 Calls Tryz.prog 26 #[.int .i64 x] w fun e w' => ∃ u, e = .returned u ∧ QW w' M u (I1 x) ∧ Below w.heap.size w w' := by
 refine wid ?_
 obtain ⟨W1, hW1, F1⟩ := nam ((Fr.nil w).a4 w.heap.size 31)
 refine op1 F1 ?_; intros
 have hM1 : Bel (w.heap.size :: M) W1 := (hM.le F1.bl.size).cons (F1.ltn 0)
 have F := Hd F1
 have X := Hd2 hM1 hx
 clear hM hx hM1 F1
 refine ent Tryz.func26 rfl Tryz.ntmps26 ?_
 gi_wp2_with (first
  | (refine ⟨trivial, ?_⟩; gi_at_call 51; have g' := G2.out; clear g'
     refine Cn (rMake_any (M := w.heap.size :: M) (n := 1) (X.out.1.le G2.out.2.2) (by unfold i64; omega)) ?_; rintro e w3 ⟨u3, rfl, z3, hb3⟩; obtain ⟨q9, B9, m9, d9, rfl, zd⟩ := ZC.of z3; have F3 := G2.out.1.go hb3; refine op1 F3 ?_; intros; have G3 := Hd2 F3 (show QC w3 (w.heap.size :: M) (I1 x) p9 q9 A9 n9 c9 B9 m9 d9 from ⟨G2.out.2.1.go hb3, zd⟩)
     clear z3 hb3 F3 zd)
  | (refine Cl 51 (rMake_any (M := w.heap.size :: M) (n := x) X.out.1 X.out.2) ?_
     rintro e w2 ⟨u2, rfl, z2, hb2⟩; obtain ⟨p9, A9, n9, c9, rfl, zn⟩ := ZC.of z2; have G2 := Hd3 (F.out.go hb2) zn hb2.size
     clear z2 hb2 zn)
  | fail)
 have hx := G3.out.1.nth 0
 obtain ⟨wF, hwF, t0, t1, t2, t3, hQ, bF⟩ := fin4 (M := M) (hx 0 _ rfl) (hx 1 _ rfl) (hx 2 _ rfl) (hx 3 _ rfl) (x := I1 x) G3.out.2.num.sl G3.out.2.den.sl G3.out.2.num.neg G3.out.2.den.neg G3.out.1.bl (Nat.le_refl _)
 try rw [hwF]
 exact ⟨rfl, .agg #[.bool p9, .slice A9 n9 c9, .bool q9, .slice B9 m9 d9], by simp [results, go_sem, t0, t1, t2, t3], _, rfl, hQ, bF⟩
set_option maxHeartbeats 2000000 in
theorem lfrom_any {M : List Nat} {x y : Int} {w : World} (hM : Bel M w) (hx : i64 x) (hy : i64 y) :
 Calls Tryz.prog 27 #[.int .i64 x, .int .i64 y] w (GRet w M (I1 x, I1 y)) := by
 refine wid ?_
 obtain ⟨W1, hW1, F1⟩ := nam ((Fr.nil w).a8 w.heap.size 33)
 refine op1 F1 ?_; intros
 have hM1 : Bel (w.heap.size :: M) W1 := (hM.le F1.bl.size).cons (F1.ltn 0)
 have F := Hd F1
 have X := Hd3 hM1 hx hy
 clear hM hx hy hM1 F1
 refine ent Tryz.func27 rfl Tryz.ntmps27 ?_
 gi_wp2_with (first
  | (refine ⟨trivial, ?_⟩; gi_at_call 24; have g' := G2.out; clear g'
     refine Cn (ln_any (M := w.heap.size :: M) (X.out.1.le G2.out.2.2) X.out.2.2) ?_; rintro e w3 ⟨u3, rfl, z3, hb3⟩; obtain ⟨p8, q8, A8, n8, c8, B8, m8, d8, rfl, qc8⟩ := QC.of z3; have F3 := G2.out.1.go hb3; refine op1 F3 ?_; intros; have G3 := Hd3 F3 (G2.out.2.1.go hb3) qc8
     clear z3 hb3 F3 qc8)
  | (refine Cl 24 (ln_any (M := w.heap.size :: M) X.out.1 X.out.2.1) ?_
     rintro e w2 ⟨u2, rfl, z2, hb2⟩; obtain ⟨p9, q9, A9, n9, c9, B9, m9, d9, rfl, qc9⟩ := QC.of z2; have G2 := Hd3 (F.out.go hb2) qc9 hb2.size
     clear z2 hb2 qc9)
  | fail)
 have hz := G3.out.1.nth 0
 obtain ⟨wF, hwF, ⟨t0, t1, t2, t3⟩, ⟨t4, t5, t6, t7⟩, hG, bF⟩ := fin8 (M := M) (hz 0 _ rfl) (hz 1 _ rfl) (hz 2 _ rfl) (hz 3 _ rfl) (hz 4 _ rfl) (hz 5 _ rfl) (hz 6 _ rfl) (hz 7 _ rfl) (x := (I1 x, I1 y)) G3.out.2.1 G3.out.2.2 G3.out.1.bl (Nat.le_refl _)
 try rw [hwF]
 exact ⟨rfl, .agg #[.bool p9, .slice A9 n9 c9, .bool q9, .slice B9 m9 d9, .bool p8, .slice A8 n8 c8, .bool q8, .slice B8 m8 d8], by simp [results, go_sem, t0, t1, t2, t3, t4, t5, t6, t7], _, rfl, hG, bF⟩
set_option maxRecDepth 20000 in
set_option maxHeartbeats 4000000 in
theorem lis_yes {M : List Nat} {v : Value} {x y : Int} {w : World} (hM : Bel M w) (hv : GV w M v (encG (I1 x, I1 y))) (hx : i64 x) (hy : i64 y) :
 Calls Tryz.prog 28 #[v, .int .i64 0, .int .i64 x, .int .i64 y] w fun e w' => e = .returned (.bool true) ∧ Below w.heap.size w w' := by
 refine wid ?_
 have X := Hd4 hM hx hy hv
 obtain ⟨A1, n1, c1, B1, m1, d1, E1, i1, e1, H1, j1, f1, rfl, a1, a2, a3, a4⟩ := hv
 generalize (encG (I1 x, I1 y)).1.1.1 = p1 at *
 generalize (encG (I1 x, I1 y)).1.2.1 = q1 at *
 generalize (encG (I1 x, I1 y)).2.1.1 = p2 at *
 generalize (encG (I1 x, I1 y)).2.2.1 = q2 at *
 clear a1 a2 a3 a4 hM hx hy
 obtain ⟨W1, hW1, F1⟩ := nam ((Fr.nil w).a w.heap.size [.bool p1, .slice A1 n1 c1, .bool q1, .slice B1 m1 d1, .bool p2, .slice E1 i1 e1, .bool q2, .slice H1 j1 f1] 33)
 have hz := F1.nth 0
 have v0 := stays_drew (hz 0 _ rfl)
 have v1 := stays_drew (hz 1 _ rfl)
 have v2 := stays_drew (hz 2 _ rfl)
 have v3 := stays_drew (hz 3 _ rfl)
 have v4 := stays_drew (hz 4 _ rfl)
 have v5 := stays_drew (hz 5 _ rfl)
 have v6 := stays_drew (hz 6 _ rfl)
 have v7 := stays_drew (hz 7 _ rfl)
 have F := Hd F1
 clear hz F1
 refine ent Tryz.func28 rfl Tryz.ntmps28 ?_
 gi_wp2
 refine region_E_np [] 10 (by kernel_rfl) (by kernel_rfl) ?_
 refine E_rd 0 ?_; refine E_rd 1 ?_; refine E_rd 2 ?_; refine E_rd 3 ?_; refine E_rd 4 ?_; refine E_rd 5 ?_
 refine E_al 6 fun K hK => ?_; gi_wp2
 refine Cm (lfrom_any (M := M) (X.out.1.le (w' := W1.drew) F.out.bl.size) X.out.2.1 X.out.2.2.1) ?_
 rintro e w2 ⟨u2, rfl, z2, hb2⟩
 have HB := Hd (F.out.bl.drew.trans (hb2.mono F.out.bl.size))
 have Z := Hd z2.gv
 refine hK _ _ ⟨?_, ?_⟩; clear hK K
 · exact Keeps.of_below hb2 []
 refine lit ?_
 clear z2 hb2
 refine E_al 7 fun K hK => ?_; gi_wp2
 refine Cm (sameG_any (X.out.2.2.2.go HB.out) Z.out) ?_
 rintro e w3 ⟨rfl, hb3⟩
 rw [decide_eq_true (rfl : encG (I1 x, I1 y) = encG (I1 x, I1 y))]
 have HB3 := Hd (HB.out.trans (hb3.mono HB.out.size))
 refine hK _ _ ⟨?_, ?_⟩; clear hK K
 · exact Keeps.of_below hb3 []
 refine lit ?_
 clear hb3
 refine E_rd 8 ?_; refine E_rd 9 ?_
 refine E_nl 0 ?_; refine tail_nil _ ?_; simp only [npost]; gi_wp2
 go_ret
 exact ⟨rfl, HB3.out⟩
end
end Go.Proofs.YtboapndkopabiaaGreat
