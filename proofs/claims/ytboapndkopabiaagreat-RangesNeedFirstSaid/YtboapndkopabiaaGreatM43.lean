/- Lemmas and walks (Spn7). No statement is proved here. -/
import Derived.Test.YtboapndkopabiaaGreatM42
set_option linter.unusedVariables false
set_option linter.unusedSimpArgs false
namespace Go.Proofs.YtboapndkopabiaaGreat.U
open Go.RowKit Go.Shelf
attribute [local go_sem] Oper.semAt_some
section
variable {w : World} {M : List Nat} {A B D E0 F0 : Option Addr} {n c m d k e n0 c0 m0 d0 : Nat} {p : List InsR} {ins vs : List RatR} {t : RatR} {p0 q0 : Bool} {at_ : Int}
theorem own_set {wr : World} {M : List Nat} {B : Option Addr} {m d a : Nat} {l : List Rt} {x : Rt} {p q : Bool} {A1 B1 : Option Addr} {n1 c1 m1 d1 : Nat} (hM : Bel M wr) (hs : Sl RatR wr M B m d (l.map encQ)) (hm : m ≤ 30) (ha : a < m) (hx : QC wr M x p q A1 n1 c1 B1 m1 d1) :
 ∃ g cap V W, (Builtin.append_ #[39, 39] 39 #[.slice (some ⟨wr.heap.size, 0, none⟩) 0 0, .slice B m d]).run Tryz.prog (wr.alloc (.cells #[] 31)) = .ok (.slice (some ⟨g, 0, none⟩) m cap) V ∧
  (∃ u0 u1 u2 u3, V.cell? ⟨g, a * 4, none⟩ = some u0 ∧ V.cell? ⟨g, a * 4 + 1, none⟩ = some u1 ∧ V.cell? ⟨g, a * 4 + 2, none⟩ = some u2 ∧ V.cell? ⟨g, a * 4 + 3, none⟩ = some u3) ∧ (∀ i, V.frozen? ⟨g, i, none⟩ = false) ∧ m ≤ cap ∧
  (((V.setCell ⟨g, a * 4, none⟩ (.bool p)).setCell ⟨g, a * 4 + 1, none⟩ (.slice A1 n1 c1)).setCell ⟨g, a * 4 + 2, none⟩ (.bool q)).setCell ⟨g, a * 4 + 3, none⟩ (.slice B1 m1 d1) = W ∧
  Sl RatR W M (some ⟨g, 0, none⟩) m cap ((l.set a x).map encQ) ∧ Below wr.heap.size wr V ∧ Below wr.heap.size wr W := by
 have h0 : AS wr wr M (.slice none 0 0) 0 [] := ⟨OwnS.nil _ _ _, Below.refl _ _⟩
 have h1 := h0.op0
 obtain ⟨v', V, r1, r2, r3, r4⟩ := h1.1.app (h1.1.sl hs) (by omega) (by omega)
 rw [Nat.zero_add, List.nil_append] at r2
 have hc := OwnS.cells r2.own
 rcases hc with ⟨-, e0⟩ | ⟨g, cap, rfl, hmc, hgb, hcells⟩
 · omega
 · have hll : l.length = m := by have := hs.len; simpa using this
   obtain ⟨y, hy⟩ : ∃ y, (l.map encQ)[a]? = some y := ⟨_, List.getElem?_eq_getElem (by simp; omega)⟩
   obtain ⟨es, he1, he2⟩ := hcells a y hy; obtain ⟨A2, n2, c2, B2, m2, d2, rfl, -, -⟩ := rd_rat he1; have hz : Rep.sz RatR = 4 := rfl; rw [hz] at he2
   have hxV : QC V (ownL (.slice (some ⟨g, 0, none⟩) m cap) ++ M) x p q A1 n1 c1 B1 m1 d1 := by
    have hge : ∀ q, q ∈ ownL (.slice (some ⟨g, 0, none⟩) m cap) → wr.heap.size ≤ q := fun q hq => r2.ge q (mem_ownL.1 hq)
    exact ⟨⟨hx.num.neg, (hx.num.sl.moreL _ hge).go r2.bl⟩, ⟨hx.den.neg, (hx.den.sl.moreL _ hge).go r2.bl⟩⟩
   have hO : OwnQ V M wr.heap.size (.slice (some ⟨g, 0, none⟩) m cap) m l := r2.own; obtain ⟨W, hW, hO2, kp⟩ := hO.setQ ha hxV; obtain ⟨A9, c9, e9, hs9⟩ := hO2.sl (by omega) hM; cases e9; obtain ⟨cs, hrow, -⟩ := r2.own.ex; refine ⟨g, cap, V, W, r1, ⟨_, _, _, _, he2 0 _ rfl, he2 1 _ rfl, he2 2 _ rfl, he2 3 _ rfl⟩, fun i => own_free hrow, hmc, hW, hs9, r2.bl, ?_⟩; rw [← hW]; exact (((r2.bl.setCell (p := ⟨g, a * 4, none⟩) hgb _).setCell (p := ⟨g, a * 4 + 1, none⟩) hgb _).setCell (p := ⟨g, a * 4 + 2, none⟩) hgb _).setCell (p := ⟨g, a * 4 + 3, none⟩) hgb _
set_option maxRecDepth 20000 in
set_option maxHeartbeats 32000000 in
theorem sneed_ok {a : Nat} (h : NeedH w M A n c B m d D k e p ins vs t p0 q0 E0 n0 c0 F0 m0 d0) (hc : codeE p m = 0) (hr : (ins.all ratOk && vs.all ratOk && ratOk t) = true) (ha : a < m) (has : ascends (vs.map decQ) = true) :
 Calls Tryz.prog 17 #[.slice A n c, .slice B m d, .int .i64 (a : Int), .slice D k e, .agg #[.bool p0, .slice E0 n0 c0, .bool q0, .slice F0 m0 d0]] w (NeedR w p ins (a : Int) vs t) := by
 have HE := Hd (h.eOk (at_ := (a : Int)) hc hr ⟨by omega, by omega⟩ has)
 have HG := Hd (h.g hc hr)
 have HC := Hd hc
 have HR := Hd hr
 have HAS := Hd has
 obtain ⟨f, hf⟩ : ∃ f, enough p (ins.map decQ) (a : Int) (decQ t) = f := ⟨_, rfl⟩
 rw [hf] at HE
 have HFE := Hd (show ∀ v, f v = decide (0 ≤ cmpQ (resQ p ((ins.map decQ).set a v)) (decQ t)) from fun v => by rw [← hf]; rfl)
 have ha1 : ¬ (a : Int) < 0 := by omega
 have ha2 : (a : Int) < m := by omega
 have hda : decide ((a : Int) < 0) = false := decide_eq_false ha1
 have hda2 : decide (m ≤ a) = false := decide_eq_false (by omega)
 have hdk : decide (1001 < (k : Int)) = false := decide_eq_false (by have := h.k30; omega)
 clear hc hr has hf
 refine wid ?_
 have hsp := h.sp.small
 have hsi := h.si.small
 have hsv := h.sv.small
 have hm30 := h.m30
 have hk30 := h.k30
 have H := Hd h
 obtain ⟨W1, hW1, F1⟩ := nam ((Fr.nil w).a w.heap.size [.bool p0, .slice E0 n0 c0, .bool q0, .slice F0 m0 d0] 31)
 refine op1 F1 ?_; intros
 have F := Hd F1
 clear h F1
 refine ent Tryz.func17 rfl Tryz.ntmps17 ?_
 gi_wp2_with (refine Cl 35 (rcodeE_any (M := M) _ n c p (m : Int) _ (H.out.bel.le F.out.bl.size) (H.out.sp.go F.out.bl)) ?_
              rintro e w2 ⟨rfl, hb2⟩; rw [HC.out]; have F2 := F.out.go hb2; refine op1 F2 ?_; intros; have G2 := Hd F2; have HI := Hd4 (H.out.bel.le F2.bl.size) (H.out.si.go F2.bl) (H.out.sv.go F2.bl) (H.out.st.go F2.bl)
              clear hb2 F2)
 obtain ⟨sb1, hsb1⟩ : ∃ s, w2.heap.size = s := ⟨_, rfl⟩
 have Hsb1 := Hd hsb1
 clear hsb1
 have htc := G2.out.nth 0
 have y0 := stays_s Hsb1.out (htc 0 _ rfl)
 have y1 := stays_s Hsb1.out (htc 1 _ rfl)
 have y2 := stays_s Hsb1.out (htc 2 _ rfl)
 have y3 := stays_s Hsb1.out (htc 3 _ rfl)
 have S := Hd (AS.start w2 M)
 clear htc
 refine region_E_np sb1 8 (by kernel_rfl) (by kernel_rfl) ?_
 refine E_rd 1 ?_
 refine E_rd 3 ?_
 refine E_rd 5 ?_
 obtain ⟨xc, hxc⟩ : ∃ V, w2.drew = V := ⟨_, rfl⟩
 rw [hxc] at S ⊢
 clear hxc
 iterate 5 (all_goals (refine E_by [0, 2, 4, 6, 7] (A_c ?_ (A_c ?_ (A_c ?_ (A_c ?_ (A_c ?_ A_n))))) <;> (first
  | exact Arm.no
  | (refine Arm.mk 0 fun K hK => ?_
     have q := S.out.op0
     obtain ⟨xc, hx, hb⟩ : ∃ V : World, xc.alloc (.cells #[] 31) = V ∧ Below xc.heap.size xc V := ⟨_, rfl, bel⟩
     rw [hx] at q; replace S := Hd q.1
     try replace L := Hd (q.2 _ _ _ _ L.out)
     gi_wp2; refine ⟨Keeps.of_below hb _, ?_⟩; refine lit ?_
     clear hb hx q)
  | (refine Arm.mk 2 fun K hK => ?_
     obtain ⟨v, xc, r, s, t, u⟩ := S.out.app (S.out.sl HI.out.2.1) (by omega) (by omega); have RN := Hd r; have kU := Keeps.of_own (s := sb1) t (fun q hq => Hsb1.out ▸ S.out.ge q hq); replace S := Hd s
     try replace L := Hd (u _ _ _ _ L.out)
     refine wpIn_append _ _ _ rfl rfl rfl RN.out (hK _ _ ⟨kU, ?_⟩); clear hK K; refine lit ?_
     clear r s t u kU RN)
  | (refine Arm.mk 4 fun K hK => ?_
     obtain ⟨v, xc, r, s, t, u⟩ := S.out.app (S.out.sl HI.out.2.2.1) (by omega) (by omega); have RN := Hd r; have kU := Keeps.of_own (s := sb1) t (fun q hq => Hsb1.out ▸ S.out.ge q hq); replace S := Hd s
     try replace L := Hd (u _ _ _ _ L.out)
     refine wpIn_append _ _ _ rfl rfl rfl RN.out (hK _ _ ⟨kU, ?_⟩); clear hK K; refine lit ?_
     clear r s t u kU RN)
  | (refine Arm.mk 6 fun K hK => ?_
     have q := S.out.lit HI.out.1 HI.out.2.2.2
     obtain ⟨xc, hx, hb⟩ : ∃ V : World, xc.alloc (.cells #[.bool p0, .slice E0 n0 c0, .bool q0, .slice F0 m0 d0] 31) = V ∧ Below xc.heap.size xc V := ⟨_, rfl, bel⟩
     rw [hx] at q; replace S := Hd q.1; have L := Hd q.2; gi_wp2; refine ⟨Keeps.of_below hb _, ?_⟩; refine lit ?_
     clear hb hx q)
  | (refine Arm.mk 7 fun K hK => ?_
     obtain ⟨v, xc, r, s, t, u⟩ := S.out.app L.out (by omega) (by omega); have RN := Hd r; have kU := Keeps.of_own (s := sb1) t (fun q hq => Hsb1.out ▸ S.out.ge q hq); replace S := Hd s; refine wpIn_append _ _ _ rfl rfl rfl RN.out (hK _ _ ⟨kU, ?_⟩); clear hK K; refine lit ?_
     clear r s t u kU RN))))
 all_goals
  obtain ⟨N, hN⟩ : ∃ N, 0 + m + k + 1 = N := ⟨_, rfl⟩
  have SN := S.out; rw [hN] at SN; rw [List.nil_append] at SN; obtain ⟨A9, c9, e9, hs9⟩ := SN.own.sl (by omega) HI.out.1; have HALL := Hd2 (G2.out.go SN.bl) hs9; have HLN := Hd2 hs9.len hN
  have hN6 : N ≤ 61 := by omega
  subst e9; clear hs9 SN hN
  refine E_nl 1 ?_; refine tls fun K hK K' hK' => ?_; gi_wp2; refine tail_nil _ ?_; simp only [npost]; gi_wp2
 all_goals
  gi_loopw [15] (fun i wr => ∃ j : Nat, j ≤ N ∧ i = .int .i64 j ∧ Hid (((ins ++ vs ++ [t]).take j).all ratOk = true) ∧ Hid (Fr w wr [(w.heap.size, [.bool p0, .slice E0 n0 c0, .bool q0, .slice F0 m0 d0])]) ∧ Hid (Sl RatR wr M A9 N c9 (ins ++ vs ++ [t]))) (fun i _ => N - (intOf i).toNat)
  case atStart => exact ⟨0, Nat.zero_le _, rfl, Hd (by simp), HALL.out.1, HALL.out.2⟩
  case round =>
   obtain ⟨j, hj, rfl, ht, hF, hS⟩ := hrel; have hFo := hF.out; refine op1 hFo ?_; intros; clear hFo
   by_cases hlt : j < N
   · obtain ⟨x, hx⟩ : ∃ x, (ins ++ vs ++ [t])[j]? = some x := ⟨_, List.getElem?_eq_getElem (by rw [HLN.out.1]; exact hlt)⟩
     have HXK := Hd hx; obtain ⟨b, o, A1, n1, c1, A2, n2, c2, rfl, h0, h1, h2, h3, s1, s2⟩ := hS.out.ratat hx; have HX := Hd2 s1 s2
     obtain ⟨k1, hk1⟩ : ∃ k, ratE (ratOk ((x.1.1, x.1.2), (x.2.1, x.2.2))) = k := ⟨_, rfl⟩
     have HK1 := Hd hk1; have hk1' : ratE (ratOk x) = k1 := hk1; clear hk1 s1 s2 hx; generalize x.1.1 = p1 at *; generalize x.2.1 = q1 at *; have r1 : ratOk x = true := List.all_eq_true.1 (show (ins ++ vs ++ [t]).all ratOk = true by rw [all_three]; exact HR.out) x (List.mem_of_getElem? HXK.out)
     have e1 : k1 = 0 := by rw [← hk1', r1]; rfl
     subst e1; have HT := Hd (all_more (P := ratOk) ht.out HXK.out r1); clear r1 hk1'
     gi_wp2_with (refine Cl 23 (rqcheck_any (l1 := x.1.2) (l2 := x.2.2) (M := M) (H.out.bel.le hF.out.bl.size) HX.out.1 HX.out.2) ?_
                  rintro e w2 ⟨rfl, hb2⟩; rw [HK1.out]; have F2 := hF.out.go hb2; refine op1 F2 ?_; intros; have G3 := Hd2 F2 (hS.out.go hb2)
                  clear hb2 F2)
     exact ⟨⟨j + 1, by omega, by go_num, HT, G3.out.1, G3.out.2⟩, by simp [intOf]; omega⟩
   · gi_wp2
     gi_loopw [16] (fun i wr => ∃ j : Nat, 1 ≤ j ∧ (j ≤ k ∨ j = 1) ∧ i = .int .i64 j ∧ Hid (∀ i, i + 1 < j → cmpQ (regQ (vs.map decQ) i) (regQ (vs.map decQ) ((i + 1 : Nat) : Int)) < 0) ∧ Hid (Fr w wr [(w.heap.size, [.bool p0, .slice E0 n0 c0, .bool q0, .slice F0 m0 d0])])) (fun i _ => k - (intOf i).toNat)
     case atStart => exact ⟨1, Nat.le_refl _, .inr rfl, rfl, Hd (fun i hi => by omega), hF⟩
     case round =>
      obtain ⟨j, hj1, hj, rfl, ht, hF2⟩ := hrel; have hFo := hF2.out; refine op1 hFo ?_; intros; clear hFo
      by_cases hlt : j < k
      · obtain ⟨i0, hi0⟩ : ∃ i, j - 1 = i := ⟨_, rfl⟩
        have k1 : IntKind.i64.wrap ((j : Int) - 1) = (i0 : Int) := by rw [IntKind.wrap_i64]; omega
        have hi0k : i0 < k := by omega
        have hji : j = i0 + 1 := by omega
        have HJI := Hd hji; clear hji hi0; obtain ⟨b, o, p1, q1, A1, n1, c1, B1, m1, d1, rfl, ⟨h0, h1, h2, h3⟩, qa⟩ := (HG.out.sv.go hF2.out.bl).at_ hi0k; obtain ⟨b', o', p2, q2, A2, n2, c2, B2, m2, d2, e0, ⟨g0, g1, g2, g3⟩, qb⟩ := (HG.out.sv.go hF2.out.bl).at_ hlt
        obtain ⟨rfl, rfl⟩ : b = b' ∧ o = o' := by simpa using e0
        have oa := HG.out.aS.ref (i := (i0 : Int)) (decide_eq_true ⟨by omega, by rw [HG.out.sv.len]; omega⟩); have ob := HG.out.aS.ref (i := (j : Int)) (decide_eq_true ⟨by omega, by rw [HG.out.sv.len]; omega⟩)
        obtain ⟨sb2, hsb2⟩ : ∃ s, wr.heap.size = s := ⟨_, rfl⟩
        have Hsb2 := Hd hsb2; clear hsb2; have v0 := stays_s Hsb2.out h0; have v1 := stays_s Hsb2.out h1; have v2 := stays_s Hsb2.out h2; have v3 := stays_s Hsb2.out h3; have v4 := stays_s Hsb2.out g0; have v5 := stays_s Hsb2.out g1; have v6 := stays_s Hsb2.out g2; have v7 := stays_s Hsb2.out g3; have X := Hd4 qa.drew qb.drew oa ob
        obtain ⟨cc, hcc⟩ : ∃ cc, cmpQ (regQ (vs.map decQ) (i0 : Int)) (regQ (vs.map decQ) (j : Int)) = cc := ⟨_, rfl⟩
        have HC2 := Hd hcc; clear h0 h1 h2 h3 g0 g1 g2 g3 qa qb oa ob e0 hcc; gi_wp2; refine region_E_np sb2 15 (by kernel_rfl) (by kernel_rfl) ?_; refine E_rd 0 ?_; refine E_rd 1 ?_; refine E_rd 2 ?_; refine E_rd 3 ?_; refine E_rd 4 ?_; refine E_rd 5 ?_; refine E_rd 6 ?_; refine E_rd 7 ?_; refine E_rd 8 ?_
        refine E_al 9 fun K hK => ?_; gi_wp2
        refine Cm (rqCmp_any (M := M) (a := regQ (vs.map decQ) (i0 : Int)) (b := regQ (vs.map decQ) (j : Int)) (H.out.bel.le (w' := wr.drew) hF2.out.bl.size) X.out.1.qw X.out.2.1.qw X.out.2.2.1.1 X.out.2.2.2.1 (X.out.2.2.1.2.fine X.out.2.2.2.2)) ?_; rintro e w5 ⟨rfl, hb5⟩; rw [HC2.out]; have F5 := hF2.out.drew.go hb5; refine op1 F5 ?_; intros; have G5 := Hd F5; clear F5; refine hK _ _ ⟨?_, ?_⟩; clear hK K
        · exact Keeps.of_below hb5 _
        refine lit ?_; clear hb5; refine E_rd 10 ?_; refine E_rd 11 ?_; refine E_rd 12 ?_; refine E_rd 13 ?_; refine E_rd 14 ?_
        have HT : cc < 0 → Hid (∀ i, i + 1 < j + 1 → cmpQ (regQ (vs.map decQ) i) (regQ (vs.map decQ) ((i + 1 : Nat) : Int)) < 0) := fun hc i hi => by
         by_cases e1 : i + 1 < j
         · exact ht.out i e1
         · have e2 : i = i0 := by have := HJI.out; omega
           subst e2; rw [← HJI.out, HC2.out]; exact hc
        have hc0 : cc < 0 := by rw [← HC2.out, HJI.out]; exact ascends_at HAS.out i0 (by rw [HG.out.sv.len]; have := HJI.out; omega)
        have HT := HT hc0; refine E_nl 0 ?_; refine tail_nil _ ?_; simp only [npost]; gi_wp2; exact ⟨⟨j + 1, by omega, .inl (by omega), by go_num, HT, G5⟩, by simp [intOf]; omega⟩
      · gi_wp2
        gi_loopw [19] (fun i wr => ∃ j : Nat, j ≤ k ∧ i = .int .i64 j ∧ Hid (firstK f j ((vs.map decQ).drop j) = firstK f 0 (vs.map decQ)) ∧ Hid (Fr w wr [(w.heap.size, [.bool p0, .slice E0 n0 c0, .bool q0, .slice F0 m0 d0])])) (fun i _ => k - (intOf i).toNat)
        case atStart => exact ⟨0, Nat.zero_le _, rfl, Hd rfl, hF2⟩
        case round =>
         obtain ⟨j, hj, rfl, ht2, hF3⟩ := hrel; have hFo := hF3.out; refine op1 hFo ?_; intros; clear hFo
         by_cases hlt : j < k
         · obtain ⟨b, o, p1, q1, A1, n1, c1, B1, m1, d1, rfl, ⟨h0, h1, h2, h3⟩, qv⟩ := (HG.out.sv.go hF3.out.bl).at_ hlt
           have hvl : (vs.map decQ).length = k := HG.out.sv.len
           have hv : (vs.map decQ)[j]? = some (regQ (vs.map decQ) (j : Int)) := by
            obtain ⟨x, hx⟩ : ∃ x, (vs.map decQ)[j]? = some x := ⟨_, List.getElem?_eq_getElem (by rw [hvl]; exact hlt)⟩
            rw [hx, regQ_get hx]
           have hvm := List.mem_of_getElem? hv; have hfs := firstK_step (f := f) hv; rw [HFE.out] at hfs
           obtain ⟨v, hve⟩ : ∃ v, regQ (vs.map decQ) (j : Int) = v := ⟨_, rfl⟩
           rw [hve] at hfs qv hvm
           obtain ⟨cc, hcc⟩ : ∃ cc, cmpQ (resQ p ((ins.map decQ).set a v)) (decQ t) = cc := ⟨_, rfl⟩
           rw [hcc] at hfs; have HC2 := Hd hcc; obtain ⟨g, cap, V, W, r1, ⟨u0, u1, u2, u3, y0, y1, y2, y3⟩, fz, hmc, hW, hsW, hbV, hbW⟩ := own_set (a := a) (H.out.bel.le hF3.out.bl.size) (HG.out.si.go hF3.out.bl) hm30 (by omega) qv; have f0 := fz (a * 4); have f1 := fz (a * 4 + 1); have f2 := fz (a * 4 + 2); have f3 := fz (a * 4 + 3); have g0 := (hbV.cell (World.block_lt_of_cell? wr _ h0)).trans h0; have g1 := (hbV.cell (World.block_lt_of_cell? wr _ h1)).trans h1; have g2 := (hbV.cell (World.block_lt_of_cell? wr _ h2)).trans h2; have g3 := (hbV.cell (World.block_lt_of_cell? wr _ h3)).trans h3; have RUN := Hd r1; have FW := hF3.out.go hbW; have HX := Hd3 FW (show RunH W M A n c (some ⟨g, 0, none⟩) m cap p ((ins.map decQ).set a v) from ⟨H.out.bel.le FW.bl.size, H.out.sp.go FW.bl, hsW, HC.out, HG.out.fw, HG.out.lp, HG.out.rg a v hvm⟩) hbW; clear FW fz hsW hbV hbW r1 qv hv hvl hvm hve hcc h0 h1 h2 h3
           by_cases hc : 0 ≤ cc
           · have HF := Hd (ht2.out.symm.trans (hfs.trans (by rw [if_pos (decide_eq_true hc)])))
             clear hfs
             gi_wp2_with (first
              | (refine ⟨trivial, ?_⟩; gi_at_call 36; have g' := G8.out; clear g'
                 refine Cn (rqCmp_any (M := M) (H.out.bel.le G8.out.1.bl.size) G8.out.2.1.qw G8.out.2.2.qw HX.out.2.1.res_ok.1 HG.out.tS.1 (HX.out.2.1.res_ok.2.fine HG.out.tS.2)) ?_; rintro e w9 ⟨rfl, hb9⟩; rw [HC2.out]; have F9 := G8.out.1.go hb9; refine op1 F9 ?_; intros; have G9 := Hd F9
                 clear F9 hb9)
              | (refine Cl 39 (rrun_any HX.out.2.1) ?_
                 rintro e w7 ⟨u7, rfl, z7, hb7⟩; obtain ⟨p21, q21, A21, n21, c21, B21, m21, d21, rfl, qc7⟩ := QC.of z7
                 obtain ⟨W8, hW8⟩ : ∃ W8 : World, w7.alloc (.cells #[.bool p21, .slice A21 n21 c21, .bool q21, .slice B21 m21 d21] 31) = W8 := ⟨_, rfl⟩
                 have hb8 : Below w7.heap.size w7 W8 := by rw [← hW8]; exact bel
                 have R8 : RowV W8 w7.heap.size [.bool p21, .slice A21 n21 c21, .bool q21, .slice B21 m21 d21] 31 := by rw [← hW8]; exact heap_alloc_new w7 _
                 have z0 := R8.cell (k := 0) rfl; have z1 := R8.cell (k := 1) rfl; have z2 := R8.cell (k := 2) rfl; have z3 := R8.cell (k := 3) rfl; have F8 := (HX.out.1.go hb7).go hb8; refine op1 F8 ?_; intros; have G8 := Hd3 F8 (qc7.go hb8) ((H.out.st.go F8.bl).qc HG.out.ri)
                 clear F8 R8 hb8 hb7 z7 qc7)
              | (gi_at_builtin; refine wpListIn_plain rfl fun K hK' => ?_; refine wpIn_append _ _ _ rfl rfl rfl RUN.out (hK' _ _ ?_); clear hK' K)
              | fail)
             exact ⟨rfl, .tuple #[.int .i64 (j : Int), .bool true, .int .i64 0], by simp [results, go_sem], by rw [HE.out.1, HE.out.2, HF.out], G9.out.bl⟩
           · have HF := Hd (show firstK f (j + 1) ((vs.map decQ).drop (j + 1)) = firstK f 0 (vs.map decQ) from (by rw [← ht2.out, hfs, if_neg (by simpa using hc)]))
             clear hfs
             gi_wp2_with (first
              | (refine ⟨trivial, ?_⟩; gi_at_call 36; have g' := G8.out; clear g'
                 refine Cn (rqCmp_any (M := M) (H.out.bel.le G8.out.1.bl.size) G8.out.2.1.qw G8.out.2.2.qw HX.out.2.1.res_ok.1 HG.out.tS.1 (HX.out.2.1.res_ok.2.fine HG.out.tS.2)) ?_; rintro e w9 ⟨rfl, hb9⟩; rw [HC2.out]; have F9 := G8.out.1.go hb9; refine op1 F9 ?_; intros; have G9 := Hd F9
                 clear F9 hb9)
              | (refine Cl 39 (rrun_any HX.out.2.1) ?_
                 rintro e w7 ⟨u7, rfl, z7, hb7⟩; obtain ⟨p21, q21, A21, n21, c21, B21, m21, d21, rfl, qc7⟩ := QC.of z7
                 obtain ⟨W8, hW8⟩ : ∃ W8 : World, w7.alloc (.cells #[.bool p21, .slice A21 n21 c21, .bool q21, .slice B21 m21 d21] 31) = W8 := ⟨_, rfl⟩
                 have hb8 : Below w7.heap.size w7 W8 := by rw [← hW8]; exact bel
                 have R8 : RowV W8 w7.heap.size [.bool p21, .slice A21 n21 c21, .bool q21, .slice B21 m21 d21] 31 := by rw [← hW8]; exact heap_alloc_new w7 _
                 have z0 := R8.cell (k := 0) rfl; have z1 := R8.cell (k := 1) rfl; have z2 := R8.cell (k := 2) rfl; have z3 := R8.cell (k := 3) rfl; have F8 := (HX.out.1.go hb7).go hb8; refine op1 F8 ?_; intros; have G8 := Hd3 F8 (qc7.go hb8) ((H.out.st.go F8.bl).qc HG.out.ri)
                 clear F8 R8 hb8 hb7 z7 qc7)
              | (gi_at_builtin; refine wpListIn_plain rfl fun K hK' => ?_; refine wpIn_append _ _ _ rfl rfl rfl RUN.out (hK' _ _ ?_); clear hK' K)
              | fail)
             exact ⟨⟨j + 1, by omega, by go_num, HF, G9⟩, by simp [intOf]; omega⟩
         · have HF := Hd (show firstK f 0 (vs.map decQ) = (0, false) by
            have h1 := ht2.out; rw [List.drop_of_length_le (by rw [HG.out.sv.len]; omega)] at h1
            rw [← h1]; rfl)
           gi_wp2; exact ⟨rfl, .tuple #[.int .i64 0, .bool false, .int .i64 0], by simp [results, go_sem], by rw [HE.out.1, HE.out.2, HF.out], hF3.out.bl⟩
theorem sneed_any (h : NeedH w M A n c B m d D k e p ins vs t p0 q0 E0 n0 c0 F0 m0 d0) :
 Calls Tryz.prog 17 #[.slice A n c, .slice B m d, .int .i64 at_, .slice D k e, .agg #[.bool p0, .slice E0 n0 c0, .bool q0, .slice F0 m0 d0]] w (NeedR w p ins at_ vs t) := by
 by_cases hc : codeE p m = 0
 · cases hr : (ins.all ratOk && vs.all ratOk && ratOk t)
   · exact sneed_rat h hc hr
   · by_cases ha : 0 ≤ at_ ∧ at_ < m
     · cases hs : ascends (vs.map decQ)
       · exact sneed_asc h hc hr ha hs
       · obtain ⟨a, rfl⟩ : ∃ a : Nat, at_ = a := ⟨at_.toNat, by omega⟩
         exact sneed_ok h hc hr (by omega) hs
     · exact sneed_at h hc hr ha
 · exact sneed_bad h hc
end
end Go.Proofs.YtboapndkopabiaaGreat.U
