/- Lemmas and walks (Rng15). No statement is proved here. -/
import Derived.Test.YtboapndkopabiaaGreatM36
set_option linter.unusedVariables false
set_option linter.unusedSimpArgs false
namespace Go.Proofs.YtboapndkopabiaaGreat
open Go.RowKit Go.Shelf
attribute [local go_sem] Oper.semAt_some
structure NL (w wr : World) (M : List Nat) (p0 q0 : Bool) (E0 : Option Addr) (n0 c0 : Nat) (F0 : Option Addr) (m0 d0 : Nat) (rb lb : Nat) (B : Option Addr) (m d : Nat) (D : Option Addr) (k e : Nat) (ins vs : List RatR) (t : RatR) : Prop where
 fr : Fr w wr [(w.heap.size, [.bool p0, .slice E0 n0 c0, .bool q0, .slice F0 m0 d0]), (w.heap.size + 1, [.int .i64 0])]
 row : RowV wr rb [.slice B m d, .slice D k e, .slice (some ⟨lb, 0, none⟩) 1 1] 39
 si : Sl RatR wr M B m d ins
 sv : Sl RatR wr M D k e vs
 sl : Sl RatR wr M (some ⟨lb, 0, none⟩) 1 1 [t]
theorem NL.go {w wr wr' : World} {M : List Nat} {p0 q0 : Bool} {E0 F0 B D : Option Addr} {n0 c0 m0 d0 rb lb m d k e : Nat} {ins vs : List RatR} {t : RatR} (h : NL w wr M p0 q0 E0 n0 c0 F0 m0 d0 rb lb B m d D k e ins vs t) (hb : Below wr.heap.size wr wr') : NL w wr' M p0 q0 E0 n0 c0 F0 m0 d0 rb lb B m d D k e ins vs t :=
 ⟨h.fr.go hb, h.row.go hb h.row.lt, h.si.go hb, h.sv.go hb, h.sl.go hb⟩
theorem NL.at_ {w wr : World} {M : List Nat} {p0 q0 : Bool} {E0 F0 B D : Option Addr} {n0 c0 m0 d0 rb lb m d k e : Nat} {ins vs : List RatR} {t : RatR} (h : NL w wr M p0 q0 E0 n0 c0 F0 m0 d0 rb lb B m d D k e ins vs t) (hm : m ≤ 30) (hk : k ≤ 30) {i : Nat} (hi : i < 3) :
 ∃ A n c r, [ins, vs, [t]][i]? = some r ∧ wr.cell? ⟨rb, i, none⟩ = some (.slice A n c) ∧ Sl RatR wr M A n c r ∧ n ≤ 30 := by
 have : i = 0 ∨ i = 1 ∨ i = 2 := by omega
 rcases this with rfl | rfl | rfl
 · exact ⟨_, _, _, _, rfl, h.row.cell rfl, h.si, hm⟩
 · exact ⟨_, _, _, _, rfl, h.row.cell rfl, h.sv, hk⟩
 · exact ⟨_, _, _, _, rfl, h.row.cell rfl, h.sl, by omega⟩
theorem rows_all {ins vs : List RatR} {t : RatR} : ([ins, vs, [t]].all fun r => r.all ratOk) = (ins.all ratOk && vs.all ratOk && ratOk t) := by simp [Bool.and_assoc]
section
variable {w : World} {M : List Nat} {A B D E0 F0 : Option Addr} {n c m d k e n0 c0 m0 d0 : Nat} {p : List InsR} {ins vs : List RatR} {t : RatR} {p0 q0 : Bool} {at_ : Int}
set_option maxRecDepth 20000 in
set_option maxHeartbeats 4000000 in
theorem gneed_bad (h : NeedH w M A n c B m d D k e p ins vs t p0 q0 E0 n0 c0 F0 m0 d0) (hc : codeE p m ≠ 0) :
 Calls Tryz.prog 16 #[.slice A n c, .slice B m d, .int .i64 at_, .slice D k e, .agg #[.bool p0, .slice E0 n0 c0, .bool q0, .slice F0 m0 d0]] w (NeedR w p ins at_ vs t) := by
 have HE := Hd (h.eBad (at_ := at_) hc)
 have HC := Hd (codeE_not hc)
 clear hc
 refine wid ?_
 have hsp := h.sp.small
 have hsi := h.si.small
 have hsv := h.sv.small
 have hm30 := h.m30
 have hk30 := h.k30
 have H := Hd h
 obtain ⟨W1, hW1, F1⟩ := nam (((Fr.nil w).a w.heap.size [.bool p0, .slice E0 n0 c0, .bool q0, .slice F0 m0 d0] 31).a0 (w.heap.size + 1) 34)
 refine op1 F1 ?_; intros
 have F := Hd F1
 clear h F1
 refine entd Tryz.func16 rfl Tryz.ntmps16 ?_
 gi_wp2_with (refine Cl 30 (ccodeE_any (M := M) _ n c p (m : Int) _ (H.out.bel.le F.out.bl.size) (H.out.sp.go F.out.bl)) ?_
              rintro e w2 ⟨rfl, hb2⟩; rw [HC.out]; have F2 := F.out.go hb2; refine op1 F2 ?_; intros; have G2 := Hd F2; have HI := Hd4 (H.out.bel.le F2.bl.size) (H.out.si.go F2.bl) (H.out.sv.go F2.bl) (H.out.st.go F2.bl)
              clear hb2 F2)
 have hE := (G2.out.cel 1 0)
 refine leavesIn_cons (f := 29) (args := #[.pointer (some ⟨w.heap.size + 1, 0, none⟩)]) (by simp) (by simp) (by simp [go_sem]) (fun _ _ => trivial) ?_
 refine (caughtG_idle ⟨w.heap.size + 1, 0, none⟩ _).mono ?_
 rintro e u' w'' ⟨rfl, rfl, rfl⟩
 refine ⟨.tuple #[.int .i64 0, .bool false, .int .i64 190], ?_, by rw [HE.out.1, HE.out.2], G2.out.bl.setCell (p := ⟨w.heap.size + 1, 0, none⟩) (by simp) _⟩
 simp [results, Tryz.results16, go_sem, hE]
set_option maxRecDepth 20000 in
set_option maxHeartbeats 16000000 in
theorem gneed_rat (h : NeedH w M A n c B m d D k e p ins vs t p0 q0 E0 n0 c0 F0 m0 d0) (hc : codeE p m = 0) (hr : (ins.all ratOk && vs.all ratOk && ratOk t) = false) :
 Calls Tryz.prog 16 #[.slice A n c, .slice B m d, .int .i64 at_, .slice D k e, .agg #[.bool p0, .slice E0 n0 c0, .bool q0, .slice F0 m0 d0]] w (NeedR w p ins at_ vs t) := by
 have HE := Hd (h.eRat (at_ := at_) hc hr)
 have HC := Hd hc
 have HR := Hd hr
 clear hc hr
 refine wid ?_
 have hsp := h.sp.small
 have hsi := h.si.small
 have hsv := h.sv.small
 have hm30 := h.m30
 have hk30 := h.k30
 have H := Hd h
 obtain ⟨W1, hW1, F1⟩ := nam (((Fr.nil w).a w.heap.size [.bool p0, .slice E0 n0 c0, .bool q0, .slice F0 m0 d0] 31).a0 (w.heap.size + 1) 34)
 refine op1 F1 ?_; intros
 have F := Hd F1
 clear h F1
 refine entd Tryz.func16 rfl Tryz.ntmps16 ?_
 have hdk : decide ((k : Int) ≤ 1001) = true := decide_eq_true (by omega)
 gi_wp2_with (first
  | (refine ⟨trivial, ?_⟩; gi_at_call 31; have g' := G2.out; clear g'; refine Cn (must_yes _ _) ?_; rintro e w2 ⟨rfl, rfl⟩)
  | (refine Cl 30 (ccodeE_any (M := M) _ n c p (m : Int) _ (H.out.bel.le F.out.bl.size) (H.out.sp.go F.out.bl)) ?_
     rintro e w2 ⟨rfl, hb2⟩; rw [HC.out]; have F2 := F.out.go hb2; refine op1 F2 ?_; intros; have G2 := Hd F2; have HI := Hd4 (H.out.bel.le F2.bl.size) (H.out.si.go F2.bl) (H.out.sv.go F2.bl) (H.out.st.go F2.bl)
     clear hb2 F2)
  | fail)
 obtain ⟨X1, hX1⟩ : ∃ V : World, w2.alloc (.cells #[.bool p0, .slice E0 n0 c0, .bool q0, .slice F0 m0 d0] 31) = V := ⟨_, rfl⟩
 obtain ⟨lb, hlb⟩ : ∃ b, w2.heap.size = b := ⟨_, rfl⟩
 obtain ⟨rb, hrb⟩ : ∃ b, lb + 1 = b := ⟨_, rfl⟩
 have hrb2 : X1.heap.size = rb := by rw [← hX1, ← hrb, ← hlb]; simp
 obtain ⟨X2, hX2⟩ : ∃ V : World, X1.alloc (.cells #[.slice B m d, .slice D k e, .slice (some ⟨lb, 0, none⟩) 1 1] 39) = V := ⟨_, rfl⟩
 have hNL : NL w X2 M p0 q0 E0 n0 c0 F0 m0 d0 rb lb B m d D k e ins vs t := by
  have hb1 : Below w2.heap.size w2 X1 := by rw [← hX1]; exact bel
  have hb2 : Below X1.heap.size X1 X2 := by rw [← hX2]; exact bel
  have hb3 : Below w2.heap.size w2 X2 := hb1.trans (hb2.mono hb1.size)
  have hl : Sl RatR X1 M (some ⟨lb, 0, none⟩) 1 1 [t] := by
   rw [← hX1, ← hlb]
   refine Sl.lit HI.out.1 _ (cs := [.bool p0, .slice E0 n0 c0, .bool q0, .slice F0 m0 d0]) rfl (by omega) fun i y hy => ?_
   match i, hy with
   | 0, hy =>
     cases hy; refine ⟨[.bool p0, .slice E0 n0 c0, .bool q0, .slice F0 m0 d0], ?_, fun j u hu => by simpa using hu⟩; rw [← HI.out.2.2.2.hp, ← HI.out.2.2.2.hq]; exact rat_rd HI.out.2.2.2.s1 HI.out.2.2.2.s2
  exact ⟨G2.out.go hb3, by rw [← hX2, ← hrb2]; exact heap_alloc_new X1 _, HI.out.2.1.go hb3, HI.out.2.2.1.go hb3, hl.go hb2⟩
 have HNL := Hd hNL
 clear hNL
 rw [hlb, hrb, hX1, hX2]
 gi_loopw [42] (fun i wr => ∃ j : Nat, j ≤ 3 ∧ i = .int .i64 j ∧ Hid ((([ins, vs, [t]].take j).all fun r => r.all ratOk) = true) ∧ Hid (NL w wr M p0 q0 E0 n0 c0 F0 m0 d0 rb lb B m d D k e ins vs t)) (fun i _ => 3 - (intOf i).toNat)
 case atStart => exact ⟨0, by omega, rfl, Hd (by simp), HNL.out⟩
 case round =>
  obtain ⟨j, hj, rfl, ht, hN⟩ := hrel; have hFo := hN.out.fr; refine op1 hFo ?_; intros; clear hFo
  by_cases hlt : j < 3
  · obtain ⟨A9, n9, c9, r, hr9, hcell, hsl, hn9⟩ := hN.out.at_ hm30 hk30 hlt
    have HRr := Hd hr9; have HSL := Hd hsl
    have hi3 : (j : Int) < 3 := by omega
    clear hr9 hsl; gi_wp2
    gi_loopw [48] (fun i wr => ∃ i0 : Nat, i0 ≤ n9 ∧ i = .int .i64 i0 ∧ Hid ((r.take i0).all ratOk = true) ∧ Hid (NL w wr M p0 q0 E0 n0 c0 F0 m0 d0 rb lb B m d D k e ins vs t) ∧ Hid (Sl RatR wr M A9 n9 c9 r)) (fun i _ => n9 - (intOf i).toNat)
    case atStart => exact ⟨0, by omega, rfl, Hd (by simp), hN, HSL⟩
    case round =>
     obtain ⟨i0, hi0, rfl, ht2, hN2, hS2⟩ := hrel; have hFo := hN2.out.fr; refine op1 hFo ?_; intros; clear hFo
     by_cases hlt2 : i0 < n9
     · obtain ⟨x, hx⟩ : ∃ x, r[i0]? = some x := ⟨_, List.getElem?_eq_getElem (by rw [hS2.out.len]; exact hlt2)⟩
       have HXK := Hd hx; obtain ⟨b, o, A1, n1, c1, A2, n2, c2, rfl, h0, h1, h2, h3, s1, s2⟩ := hS2.out.ratat hx
       obtain ⟨k1, hk1⟩ : ∃ k, ratE (ratOk ((x.1.1, x.1.2), (x.2.1, x.2.2))) = k := ⟨_, rfl⟩
       have HK1 := Hd hk1; have hk1' : ratE (ratOk x) = k1 := hk1; have HX := Hd2 s1 s2; clear hk1 s1 s2 hx; generalize x.1.1 = p1 at *; generalize x.2.1 = q1 at *
       obtain ⟨Wk, hWk⟩ : ∃ W' : World, wr.alloc (.cells #[.bool p1, .slice A1 n1 c1, .bool q1, .slice A2 n2 c2] 31) = W' := ⟨_, rfl⟩
       have bk : Below wr.heap.size wr Wk := by rw [← hWk]; exact bel
       have RK : RowV Wk wr.heap.size [.bool p1, .slice A1 n1 c1, .bool q1, .slice A2 n2 c2] 31 := by rw [← hWk]; exact heap_alloc_new wr _
       have v0 := RK.cell (k := 0) rfl; have v1 := RK.cell (k := 1) rfl; have v2 := RK.cell (k := 2) rfl; have v3 := RK.cell (k := 3) rfl; have HBK := Hd bk; clear bk RK
       rcases Bool.eq_false_or_eq_true (ratOk x) with r1 | r1
       rotate_left
       · have e1 : k1 = 100 := by rw [← hk1', r1]; rfl
         subst e1; clear r1 hk1'
         gi_wp2_with (first
          | (refine ⟨trivial, ?_⟩; gi_at_call 31; have g' := G3.out; clear g'; refine Cn (must_no _ _) ?_; rintro e w9 ⟨rfl, rfl⟩)
          | (refine Cl 32 (qcheck_any (l1 := x.1.2) (l2 := x.2.2) (M := M) (H.out.bel.le (Nat.le_trans hN2.out.fr.bl.size HBK.out.size)) (HX.out.1.go HBK.out) (HX.out.2.go HBK.out)) ?_
             rintro e w2 ⟨rfl, hb2⟩; rw [HK1.out]; have hbb := HBK.out.trans (hb2.mono HBK.out.size); have F2 := hN2.out.fr.go hbb; refine op1 F2 ?_; intros; have G3 := Hd2 (hN2.out.go hbb) (hS2.out.go hbb)
             clear hb2 F2 hbb)
          | fail)
         refine leavesIn_cons (f := 29) (args := #[.pointer (some ⟨w.heap.size + 1, 0, none⟩)]) (by simp) (by simp) (by simp [go_sem]) (fun _ _ => trivial) ?_; have hE := G3.out.1.fr.at_ (w.heap.size + 1) [.int .i64 0] (by simp) 0 _ rfl; refine (caughtG_pan ⟨w.heap.size + 1, 0, none⟩ 100 0 [] _ hE.1 hE.2).mono ?_; rintro e u' w'' ⟨rfl, rfl, rfl⟩; have hE1 := hE.1; refine ⟨.tuple #[.int .i64 0, .bool false, .int .i64 100], ?_, by rw [HE.out.1, HE.out.2], (G3.out.1.fr.bl.alloc G3.out.1.fr.bl.size _).setCell (p := ⟨w.heap.size + 1, 0, none⟩) (by simp) _⟩
         simp [results, Tryz.results16, go_sem, hE1, cell_al _ hE1]
       have e1 : k1 = 0 := by rw [← hk1', r1]; rfl
       subst e1; have HT := Hd (all_more (P := ratOk) ht2.out HXK.out r1); clear r1 hk1'
       gi_wp2_with (first
        | (refine ⟨trivial, ?_⟩; gi_at_call 31; have g' := G3.out; clear g'; refine Cn (must_yes _ _) ?_; rintro e w9 ⟨rfl, rfl⟩)
        | (refine Cl 32 (qcheck_any (l1 := x.1.2) (l2 := x.2.2) (M := M) (H.out.bel.le (Nat.le_trans hN2.out.fr.bl.size HBK.out.size)) (HX.out.1.go HBK.out) (HX.out.2.go HBK.out)) ?_
           rintro e w2 ⟨rfl, hb2⟩; rw [HK1.out]; have hbb := HBK.out.trans (hb2.mono HBK.out.size); have F2 := hN2.out.fr.go hbb; refine op1 F2 ?_; intros; have G3 := Hd2 (hN2.out.go hbb) (hS2.out.go hbb)
           clear hb2 F2 hbb)
        | fail)
       exact ⟨⟨i0 + 1, by omega, by go_num, HT, G3.out.1, G3.out.2⟩, by simp [intOf]; omega⟩
     · have HT := Hd (show ([ins, vs, [t]].take (j + 1)).all (fun r => r.all ratOk) = true from all_more (P := fun r => r.all ratOk) ht.out HRr.out (by
        have h1 := ht2.out
        rwa [List.take_of_length_le (by rw [hS2.out.len]; omega)] at h1))
       gi_wp2; exact ⟨⟨j + 1, by omega, by go_num, HT, hN2⟩, by simp [intOf]; omega⟩
  · exfalso
    have hkm : j = 3 := by omega
    have h1 := ht.out; rw [List.take_of_length_le (by rw [hkm]; exact Nat.le_refl _), rows_all] at h1; rw [HR.out] at h1; cases h1
end
end Go.Proofs.YtboapndkopabiaaGreat
