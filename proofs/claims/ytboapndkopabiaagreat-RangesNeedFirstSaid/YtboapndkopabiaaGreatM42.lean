/- Lemmas and walks (RRun1 Spn6). No statement is proved here. -/
import Derived.Test.YtboapndkopabiaaGreatM36
set_option linter.unusedVariables false
set_option linter.unusedSimpArgs false
namespace Go.Proofs.YtboapndkopabiaaGreat
section
open Go.RowKit Go.Shelf
attribute [local go_sem] Oper.semAt_some
set_option maxRecDepth 100000 in
set_option maxHeartbeats 32000000 in
theorem rrun_any {M : List Nat} {A B : Option Addr} {n c m d : Nat} {p : List InsR} {ins : List Rt} {w : World} (h : RunH w M A n c B m d p ins) :
 Calls Tryz.prog 39 #[.slice A n c, .slice B m d, .int .i64 (n : Int)] w fun e w' => ∃ u, e = .returned (.tuple #[u, .int .i64 0, .int .i64 0]) ∧ QW w' M u (resQ p ins) ∧ Below w.heap.size w w' := by
 refine wid ?_
 have hsp := h.sp.small
 have hsi := h.si.small
 have hn20 := h.len
 have hn1 := h.pos
 have k1 : IntKind.i64.wrap ((n : Int) - 1) = ((n - 1 : Nat) : Int) := by rw [IntKind.wrap_i64]; omega
 have H := Hd h
 obtain ⟨W1, hW1, F1⟩ := nam ((Fr.nil w).a4 w.heap.size 31)
 refine op1 F1 ?_; intros
 have F := Hd F1
 clear h F1
 refine ent Tryz.func39 rfl Tryz.ntmps39 ?_
 gi_wp2_with (refine Cl 35 (rcodeE_any (M := M) _ n c p (m : Int) _ (H.out.bel.le F.out.bl.size) (H.out.sp.go F.out.bl)) ?_
              rintro e w2 ⟨rfl, hb2⟩; rw [H.out.ce]; have F2 := F.out.go hb2; refine op1 F2 ?_; intros; have G2 := Hd F2
              clear hb2 F2)
 gi_loopw [10] (fun i wr => ∃ k : Nat, k ≤ m ∧ i = .int .i64 k ∧ Hid (Fr w wr [(w.heap.size, zQ)])) (fun i _ => m - (intOf i).toNat)
 case atStart => exact ⟨0, Nat.zero_le _, rfl, G2.out⟩
 case round =>
  obtain ⟨k, hk, rfl, hF⟩ := hrel; have hFo := hF.out; refine op1 hFo ?_; intros; clear hFo
  by_cases hlt : k < m
  · obtain ⟨z, hz⟩ : ∃ z, ins[k]? = some z := ⟨_, List.getElem?_eq_getElem (by rw [H.out.li]; exact hlt)⟩
    obtain ⟨b, o, A1, n1, c1, A2, n2, c2, rfl, hc0, hc1, hc2, hc3, hs1, hs2⟩ := (H.out.si.go hF.out.bl).ratd (k := k) (p := zneg z.num) (l1 := ints (zmag z.num)) (q := zneg z.den) (l2 := ints (zmag z.den)) (by rw [List.getElem?_map, hz]; rfl); have S := Hd2 hs1 hs2
    have hzo : z.ok := by
     have := (H.out.regs.sh (by omega)) z (List.mem_of_getElem? hz); exact this.1
    have HK := Hd (show ratE (ratOk ((zneg z.num, ints (zmag z.num)), (zneg z.den, ints (zmag z.den)))) = 0 by rw [show ((zneg z.num, ints (zmag z.num)), (zneg z.den, ints (zmag z.den))) = encQ z from rfl, ratOk_enc hzo]; rfl); generalize zneg z.num = p1 at *; generalize zneg z.den = q1 at *; clear hs1 hs2 hz hzo
    gi_wp2_with (refine Cl 23 (rqcheck_any (l1 := ints (zmag z.num)) (l2 := ints (zmag z.den)) (M := M) (H.out.bel.le hF.out.bl.size) S.out.1 S.out.2) ?_
                 rintro e w2 ⟨rfl, hb2⟩; rw [HK.out]; have G3 := Hd (hF.out.go hb2)
                 clear hb2)
    exact ⟨⟨k + 1, by omega, by go_num, G3⟩, by simp [intOf]; omega⟩
  · have hkm : k = m := by omega
    clear hk hlt; subst hkm; gi_wp2
    gi_loopw [11, 12] (fun v0 i wr => ∃ (j : Nat) (v : Value), v = v0 ∧ j ≤ n ∧ i = .int .i64 j ∧ Hid (Fr w wr [(w.heap.size, zQ)]) ∧ Hid (OwnQ wr (w.heap.size :: M) (w.heap.size + 1) v j (runsQ ins [] (p.take j)))) (fun _ i _ => n - (intOf i).toNat)
    case atStart => exact ⟨0, _, rfl, Nat.zero_le _, rfl, hF, Hd (OwnS.nil _ _ _)⟩
    case round =>
     obtain ⟨j, v, rfl, hj, rfl, hF2, hO⟩ := hrel; obtain ⟨Av, cv, rfl, hsq⟩ := hO.out.slQ (by omega); have hfr := hF2.out; refine op1 hfr ?_; intros; clear hfr
     by_cases hlt : j < n
     · obtain ⟨x, hx⟩ : ∃ x, p[j]? = some x := ⟨_, List.getElem?_eq_getElem (by rw [H.out.lp]; exact hlt)⟩
       obtain ⟨op, xa, xb, xc, xd, r⟩ := x; have hrk := H.out.right_k hx; obtain ⟨o, rfl, ho1, ho8⟩ := right_op hrk.1
       obtain ⟨M0, hM0⟩ : ∃ M0, ownL (.slice Av j cv) ++ (w.heap.size :: M) = M0 := ⟨_, rfl⟩
       have hMe : (ownL (.slice Av j cv) ++ [w.heap.size]) ++ M = M0 := by rw [← hM0]; simp
       have hown : ∀ q, q ∈ ownL (.slice Av j cv) → w.heap.size + 1 ≤ q ∧ q < wr.heap.size := fun q hq => hO.out.lt (mem_ownL.1 hq)
       have hge : ∀ q, q ∈ ownL (.slice Av j cv) ++ [w.heap.size] → w.heap.size ≤ q := fun q hq => by
        rcases List.mem_append.1 hq with hq | hq
        · have := (hown q hq).1; omega
        · simp at hq; omega
       have hwW : w.heap.size < wr.heap.size := hF2.out.ltn 0; have hMw : Bel (w.heap.size :: M) wr := (H.out.bel.le hF2.out.bl.size).cons hwW
       have hbel : Bel M0 wr := fun q hq => by
        rw [← hM0] at hq
        rcases List.mem_append.1 hq with hq | hq
        · exact (hown q hq).2
        · exact hMw q hq
       have hsp0 : Sl InsR wr M0 A n c p := by rw [← hMe]; exact (H.out.sp.moreL _ hge).go hF2.out.bl
       have hsi0 : SlQ wr M0 B k d ins := by rw [← hMe]; exact ((SlQ.of H.out.si).moreL _ hge).go hF2.out.bl
       rw [hM0] at hsq; obtain ⟨b, o1, A1, n1, c1, A2, n2, c2, rfl, ⟨g0, g1, g2, g3, g4⟩, ⟨h5, h6, h7, h8⟩, hi64, s1, s2⟩ := hsp0.insat hx
       obtain ⟨p5, hp5⟩ : ∃ p, r.1.1 = p := ⟨_, rfl⟩
       obtain ⟨q5, hq5⟩ : ∃ q, r.2.1 = q := ⟨_, rfl⟩
       rw [hp5] at h5; rw [hq5] at h7; have XAH := Hd4 hbel hsi0 hsq (show XC wr M0 r p5 q5 A1 n1 c1 A2 n2 c2 from ⟨hp5, hq5, s1, s2⟩); have HR := Hd3 hrk.1 hrk.2 (H.out.all hj); have HXJ := Hd5 hx hM0 hown hwW hMw; clear hx hrk hMe hown hge hbel hsp0 hsi0 hsq hp5 hq5 hM0 s1 s2 hi64 hwW hMw
       gi_wp2_with (first
        | (gi_at_builtin; refine wpListIn_plain rfl fun K hK' => ?_; refine wpIn_append _ _ _ rfl rfl rfl RUN.out (hK' _ _ ?_); clear hK' K)
        | (refine Cl 83 (rstep_any (o := o) XAH.out.1 XAH.out.2.1 XAH.out.2.2.1 XAH.out.2.2.2 HR.out.1 HR.out.2.1 HR.out.2.2) ?_
           rintro e w2 ⟨u2, rfl, z2, hb2⟩; obtain ⟨p21, q21, A21, n21, c21, B21, m21, d21, rfl, qc⟩ := QC.of z2
           obtain ⟨W3, hW3⟩ : ∃ W3 : World, w2.alloc (.cells #[.bool p21, .slice A21 n21 c21, .bool q21, .slice B21 m21 d21] 31) = W3 := ⟨_, rfl⟩
           have hb23 : Below w2.heap.size w2 W3 := by rw [← hW3]; exact bel
           have hb3 : Below wr.heap.size wr W3 := hb2.trans (hb23.mono hb2.size)
           have R3 : RowV W3 w2.heap.size [.bool p21, .slice A21 n21 c21, .bool q21, .slice B21 m21 d21] 31 := by rw [← hW3]; exact heap_alloc_new w2 _
           have v0 := R3.cell (k := 0) rfl; have v1 := R3.cell (k := 1) rfl; have v2 := R3.cell (k := 2) rfl; have v3 := R3.cell (k := 3) rfl; have own3 := hO.out.go hb3
           have hq3 : QC W3 (ownL (.slice Av j cv) ++ (w.heap.size :: M)) (stepQ ins (runsQ ins [] (p.take j)) ((o : Int), xa, xb, xc, xd, r)) p21 q21 A21 n21 c21 B21 m21 d21 := by rw [HXJ.out.2.1]; exact qc.go hb23
           obtain ⟨v', wA, r1, r2, r3, -, -⟩ := app_rat own3 (by have := HXJ.out.2.2.2.1; have := hb3.size; omega) (HXJ.out.2.2.2.2.le hb3.size) hq3 (by omega)
           have FA : Fr w wA [(w.heap.size, zQ)] := (hF2.out.go hb3).grown r3 (fun q hq => by
            have h1 := (HXJ.out.2.2.1 q (mem_ownL.2 hq)).1; refine ⟨by omega, fun b vs hm => ?_⟩
            simp at hm
            omega)
           have RUN := Hd r1; have HF := Hd (show Fr w wA [(w.heap.size, zQ)] ∧ OwnQ wA (w.heap.size :: M) (w.heap.size + 1) v' (j + 1) (runsQ ins [] (p.take (j + 1))) from ⟨FA, by rw [H.out.step HXJ.out.1]; exact r2⟩)
           clear z2 hb2 hb23 hb3 R3 own3 hq3 r1 r2 r3 FA qc)
        | fail)
       exact ⟨⟨j + 1, _, rfl, by omega, by go_num, HF.out.1, HF.out.2⟩, by simp [intOf]; omega⟩
     · have hjn : j = n := by omega
       clear hj hlt; subst hjn
       obtain ⟨kk, hkk⟩ : ∃ kk, j - 1 = kk := ⟨_, rfl⟩
       have hklt : kk < j := by omega
       rw [hkk] at k1; have hres := H.out.res; rw [hkk] at hres; obtain ⟨b9, o9, p9, q9, A9, n9, c9, B9, m9, d9, rfl, ⟨i0, i1, i2, i3⟩, qc9⟩ := hsq.at_ hklt; rw [hres] at qc9
       have hx := fun i u hu => hF2.out.at_ w.heap.size zQ (by simp) i u hu
       have hls : ∀ q, q ∈ w.heap.size :: M → q ∈ ownL (.slice (some ⟨b9, o9, none⟩) j cv) ++ (w.heap.size :: M) := fun q hq => List.mem_append_right _ hq
       obtain ⟨wF, hwF, t0, t1, t2, t3, hQ, bF⟩ := fin4 (M := M) (hx 0 _ rfl).1 (hx 1 _ rfl).1 (hx 2 _ rfl).1 (hx 3 _ rfl).1 (x := resQ p ins) (qc9.num.sl.less hls) (qc9.den.sl.less hls) qc9.num.neg qc9.den.neg hF2.out.bl (Nat.le_refl _); have HW := Hd7 t0 t1 t2 t3 hQ bF hwF; clear hwF hx hls qc9 hsq hres hkk t0 t1 t2 t3 hQ bF; gi_wp2; rw [HW.out.2.2.2.2.2.2]; exact ⟨rfl, .tuple #[.agg #[.bool p9, .slice A9 n9 c9, .bool q9, .slice B9 m9 d9], .int .i64 0, .int .i64 0], by simp [results, go_sem, HW.out.1, HW.out.2.1, HW.out.2.2.1, HW.out.2.2.2.1], _, rfl, HW.out.2.2.2.2.1, HW.out.2.2.2.2.2.1⟩
end
namespace U
open Go.RowKit Go.Shelf
attribute [local go_sem] Oper.semAt_some
section
variable {w : World} {M : List Nat} {A B D E0 F0 : Option Addr} {n c m d k e n0 c0 m0 d0 : Nat} {p : List InsR} {ins vs : List RatR} {t : RatR} {p0 q0 : Bool} {at_ : Int}
set_option maxRecDepth 20000 in
set_option maxHeartbeats 4000000 in
theorem sneed_bad (h : NeedH w M A n c B m d D k e p ins vs t p0 q0 E0 n0 c0 F0 m0 d0) (hc : codeE p m ≠ 0) :
 Calls Tryz.prog 17 #[.slice A n c, .slice B m d, .int .i64 at_, .slice D k e, .agg #[.bool p0, .slice E0 n0 c0, .bool q0, .slice F0 m0 d0]] w (NeedR w p ins at_ vs t) := by
 have HE := Hd (h.eBad (at_ := at_) hc)
 have HC := Hd (codeE_not hc)
 clear hc
 refine wid ?_
 have hsp := h.sp.small
 have hsi := h.si.small
 have hsv := h.sv.small
 have hm30 := h.m30
 have hk30 := h.k30
 have H := Hd h
 obtain ⟨W1, hW1, F1⟩ := nam ((Fr.nil w).a w.heap.size [.bool p0, .slice E0 n0 c0, .bool q0, .slice F0 m0 d0] 31)
 refine op1 F1 ?_; intros
 have F := Hd F1
 clear h F1
 refine ent Tryz.func17 rfl Tryz.ntmps17 ?_
 gi_wp2_with (refine Cl 35 (rcodeE_any (M := M) _ n c p (m : Int) _ (H.out.bel.le F.out.bl.size) (H.out.sp.go F.out.bl)) ?_
              rintro e w2 ⟨rfl, hb2⟩; rw [HC.out]; have F2 := F.out.go hb2; refine op1 F2 ?_; intros; have G2 := Hd F2; have HI := Hd4 (H.out.bel.le F2.bl.size) (H.out.si.go F2.bl) (H.out.sv.go F2.bl) (H.out.st.go F2.bl)
              clear hb2 F2)
 exact ⟨rfl, .tuple #[.int .i64 0, .bool false, .int .i64 190], by simp [results, go_sem], by rw [HE.out.1, HE.out.2], G2.out.bl⟩
set_option maxRecDepth 20000 in
set_option maxHeartbeats 16000000 in
theorem sneed_rat (h : NeedH w M A n c B m d D k e p ins vs t p0 q0 E0 n0 c0 F0 m0 d0) (hc : codeE p m = 0) (hr : (ins.all ratOk && vs.all ratOk && ratOk t) = false) :
 Calls Tryz.prog 17 #[.slice A n c, .slice B m d, .int .i64 at_, .slice D k e, .agg #[.bool p0, .slice E0 n0 c0, .bool q0, .slice F0 m0 d0]] w (NeedR w p ins at_ vs t) := by
 have HE := Hd (h.eRat (at_ := at_) hc hr)
 have HC := Hd hc
 have HR := Hd hr
 clear hc hr
 refine wid ?_
 have hsp := h.sp.small
 have hsi := h.si.small
 have hsv := h.sv.small
 have hm30 := h.m30
 have hk30 := h.k30
 have H := Hd h
 obtain ⟨W1, hW1, F1⟩ := nam ((Fr.nil w).a w.heap.size [.bool p0, .slice E0 n0 c0, .bool q0, .slice F0 m0 d0] 31)
 refine op1 F1 ?_; intros
 have F := Hd F1
 clear h F1
 refine ent Tryz.func17 rfl Tryz.ntmps17 ?_
 gi_wp2_with (refine Cl 35 (rcodeE_any (M := M) _ n c p (m : Int) _ (H.out.bel.le F.out.bl.size) (H.out.sp.go F.out.bl)) ?_
              rintro e w2 ⟨rfl, hb2⟩; rw [HC.out]; have F2 := F.out.go hb2; refine op1 F2 ?_; intros; have G2 := Hd F2; have HI := Hd4 (H.out.bel.le F2.bl.size) (H.out.si.go F2.bl) (H.out.sv.go F2.bl) (H.out.st.go F2.bl)
              clear hb2 F2)
 obtain ⟨sb1, hsb1⟩ : ∃ s, w2.heap.size = s := ⟨_, rfl⟩
 have Hsb1 := Hd hsb1
 clear hsb1
 have htc := G2.out.nth 0
 have y0 := stays_s Hsb1.out (htc 0 _ rfl)
 have y1 := stays_s Hsb1.out (htc 1 _ rfl)
 have y2 := stays_s Hsb1.out (htc 2 _ rfl)
 have y3 := stays_s Hsb1.out (htc 3 _ rfl)
 have S := Hd (AS.start w2 M)
 clear htc
 refine region_E_np sb1 8 (by kernel_rfl) (by kernel_rfl) ?_
 refine E_rd 1 ?_
 refine E_rd 3 ?_
 refine E_rd 5 ?_
 obtain ⟨xc, hxc⟩ : ∃ V, w2.drew = V := ⟨_, rfl⟩
 rw [hxc] at S ⊢
 clear hxc
 iterate 5 (all_goals (refine E_by [0, 2, 4, 6, 7] (A_c ?_ (A_c ?_ (A_c ?_ (A_c ?_ (A_c ?_ A_n))))) <;> (first
  | exact Arm.no
  | (refine Arm.mk 0 fun K hK => ?_
     have q := S.out.op0
     obtain ⟨xc, hx, hb⟩ : ∃ V : World, xc.alloc (.cells #[] 31) = V ∧ Below xc.heap.size xc V := ⟨_, rfl, bel⟩
     rw [hx] at q; replace S := Hd q.1
     try replace L := Hd (q.2 _ _ _ _ L.out)
     gi_wp2; refine ⟨Keeps.of_below hb _, ?_⟩; refine lit ?_
     clear hb hx q)
  | (refine Arm.mk 2 fun K hK => ?_
     obtain ⟨v, xc, r, s, t, u⟩ := S.out.app (S.out.sl HI.out.2.1) (by omega) (by omega); have RN := Hd r; have kU := Keeps.of_own (s := sb1) t (fun q hq => Hsb1.out ▸ S.out.ge q hq); replace S := Hd s
     try replace L := Hd (u _ _ _ _ L.out)
     refine wpIn_append _ _ _ rfl rfl rfl RN.out (hK _ _ ⟨kU, ?_⟩); clear hK K; refine lit ?_
     clear r s t u kU RN)
  | (refine Arm.mk 4 fun K hK => ?_
     obtain ⟨v, xc, r, s, t, u⟩ := S.out.app (S.out.sl HI.out.2.2.1) (by omega) (by omega); have RN := Hd r; have kU := Keeps.of_own (s := sb1) t (fun q hq => Hsb1.out ▸ S.out.ge q hq); replace S := Hd s
     try replace L := Hd (u _ _ _ _ L.out)
     refine wpIn_append _ _ _ rfl rfl rfl RN.out (hK _ _ ⟨kU, ?_⟩); clear hK K; refine lit ?_
     clear r s t u kU RN)
  | (refine Arm.mk 6 fun K hK => ?_
     have q := S.out.lit HI.out.1 HI.out.2.2.2
     obtain ⟨xc, hx, hb⟩ : ∃ V : World, xc.alloc (.cells #[.bool p0, .slice E0 n0 c0, .bool q0, .slice F0 m0 d0] 31) = V ∧ Below xc.heap.size xc V := ⟨_, rfl, bel⟩
     rw [hx] at q; replace S := Hd q.1; have L := Hd q.2; gi_wp2; refine ⟨Keeps.of_below hb _, ?_⟩; refine lit ?_
     clear hb hx q)
  | (refine Arm.mk 7 fun K hK => ?_
     obtain ⟨v, xc, r, s, t, u⟩ := S.out.app L.out (by omega) (by omega); have RN := Hd r; have kU := Keeps.of_own (s := sb1) t (fun q hq => Hsb1.out ▸ S.out.ge q hq); replace S := Hd s; refine wpIn_append _ _ _ rfl rfl rfl RN.out (hK _ _ ⟨kU, ?_⟩); clear hK K; refine lit ?_
     clear r s t u kU RN))))
 all_goals
  obtain ⟨N, hN⟩ : ∃ N, 0 + m + k + 1 = N := ⟨_, rfl⟩
  have SN := S.out; rw [hN] at SN; rw [List.nil_append] at SN; obtain ⟨A9, c9, e9, hs9⟩ := SN.own.sl (by omega) HI.out.1; have HALL := Hd2 (G2.out.go SN.bl) hs9; have HLN := Hd2 hs9.len hN
  have hN6 : N ≤ 61 := by omega
  subst e9; clear hs9 SN hN
  refine E_nl 1 ?_; refine tls fun K hK K' hK' => ?_; gi_wp2; refine tail_nil _ ?_; simp only [npost]; gi_wp2
 all_goals
  gi_loopw [15] (fun i wr => ∃ j : Nat, j ≤ N ∧ i = .int .i64 j ∧ Hid (((ins ++ vs ++ [t]).take j).all ratOk = true) ∧ Hid (Fr w wr [(w.heap.size, [.bool p0, .slice E0 n0 c0, .bool q0, .slice F0 m0 d0])]) ∧ Hid (Sl RatR wr M A9 N c9 (ins ++ vs ++ [t]))) (fun i _ => N - (intOf i).toNat)
  case atStart => exact ⟨0, Nat.zero_le _, rfl, Hd (by simp), HALL.out.1, HALL.out.2⟩
  case round =>
   obtain ⟨j, hj, rfl, ht, hF, hS⟩ := hrel; have hFo := hF.out; refine op1 hFo ?_; intros; clear hFo
   by_cases hlt : j < N
   · obtain ⟨x, hx⟩ : ∃ x, (ins ++ vs ++ [t])[j]? = some x := ⟨_, List.getElem?_eq_getElem (by rw [HLN.out.1]; exact hlt)⟩
     have HXK := Hd hx; obtain ⟨b, o, A1, n1, c1, A2, n2, c2, rfl, h0, h1, h2, h3, s1, s2⟩ := hS.out.ratat hx; have HX := Hd2 s1 s2
     obtain ⟨k1, hk1⟩ : ∃ k, ratE (ratOk ((x.1.1, x.1.2), (x.2.1, x.2.2))) = k := ⟨_, rfl⟩
     have HK1 := Hd hk1; have hk1' : ratE (ratOk x) = k1 := hk1; clear hk1 s1 s2 hx; generalize x.1.1 = p1 at *; generalize x.2.1 = q1 at *
     rcases Bool.eq_false_or_eq_true (ratOk x) with r1 | r1
     rotate_left
     · have e1 : k1 = 100 := by rw [← hk1', r1]; rfl
       subst e1; clear r1 hk1'
       gi_wp2_with (refine Cl 23 (rqcheck_any (l1 := x.1.2) (l2 := x.2.2) (M := M) (H.out.bel.le hF.out.bl.size) HX.out.1 HX.out.2) ?_
                    rintro e w2 ⟨rfl, hb2⟩; rw [HK1.out]; have F2 := hF.out.go hb2; refine op1 F2 ?_; intros; have G3 := Hd2 F2 (hS.out.go hb2)
                    clear hb2 F2)
       exact ⟨rfl, .tuple #[.int .i64 0, .bool false, .int .i64 100], by simp [results, go_sem], by rw [HE.out.1, HE.out.2], G3.out.1.bl⟩
     have e1 : k1 = 0 := by rw [← hk1', r1]; rfl
     subst e1; have HT := Hd (all_more (P := ratOk) ht.out HXK.out r1); clear r1 hk1'
     gi_wp2_with (refine Cl 23 (rqcheck_any (l1 := x.1.2) (l2 := x.2.2) (M := M) (H.out.bel.le hF.out.bl.size) HX.out.1 HX.out.2) ?_
                  rintro e w2 ⟨rfl, hb2⟩; rw [HK1.out]; have F2 := hF.out.go hb2; refine op1 F2 ?_; intros; have G3 := Hd2 F2 (hS.out.go hb2)
                  clear hb2 F2)
     exact ⟨⟨j + 1, by omega, by go_num, HT, G3.out.1, G3.out.2⟩, by simp [intOf]; omega⟩
   · exfalso
     have hkm : j = N := by omega
     have h1 := ht.out; rw [List.take_of_length_le (by rw [HLN.out.1, hkm]; exact Nat.le_refl _), all_three] at h1; rw [HR.out] at h1; cases h1
set_option maxRecDepth 20000 in
set_option maxHeartbeats 16000000 in
theorem sneed_at (h : NeedH w M A n c B m d D k e p ins vs t p0 q0 E0 n0 c0 F0 m0 d0) (hc : codeE p m = 0) (hr : (ins.all ratOk && vs.all ratOk && ratOk t) = true) (ha : ¬ (0 ≤ at_ ∧ at_ < m)) :
 Calls Tryz.prog 17 #[.slice A n c, .slice B m d, .int .i64 at_, .slice D k e, .agg #[.bool p0, .slice E0 n0 c0, .bool q0, .slice F0 m0 d0]] w (NeedR w p ins at_ vs t) := by
 have HE := Hd (h.eAt hc hr ha)
 have HC := Hd hc
 have HR := Hd hr
 clear hc hr
 refine wid ?_
 have hsp := h.sp.small
 have hsi := h.si.small
 have hsv := h.sv.small
 have hm30 := h.m30
 have hk30 := h.k30
 have H := Hd h
 obtain ⟨W1, hW1, F1⟩ := nam ((Fr.nil w).a w.heap.size [.bool p0, .slice E0 n0 c0, .bool q0, .slice F0 m0 d0] 31)
 refine op1 F1 ?_; intros
 have F := Hd F1
 clear h F1
 refine ent Tryz.func17 rfl Tryz.ntmps17 ?_
 gi_wp2_with (refine Cl 35 (rcodeE_any (M := M) _ n c p (m : Int) _ (H.out.bel.le F.out.bl.size) (H.out.sp.go F.out.bl)) ?_
              rintro e w2 ⟨rfl, hb2⟩; rw [HC.out]; have F2 := F.out.go hb2; refine op1 F2 ?_; intros; have G2 := Hd F2; have HI := Hd4 (H.out.bel.le F2.bl.size) (H.out.si.go F2.bl) (H.out.sv.go F2.bl) (H.out.st.go F2.bl)
              clear hb2 F2)
 obtain ⟨sb1, hsb1⟩ : ∃ s, w2.heap.size = s := ⟨_, rfl⟩
 have Hsb1 := Hd hsb1
 clear hsb1
 have htc := G2.out.nth 0
 have y0 := stays_s Hsb1.out (htc 0 _ rfl)
 have y1 := stays_s Hsb1.out (htc 1 _ rfl)
 have y2 := stays_s Hsb1.out (htc 2 _ rfl)
 have y3 := stays_s Hsb1.out (htc 3 _ rfl)
 have S := Hd (AS.start w2 M)
 clear htc
 refine region_E_np sb1 8 (by kernel_rfl) (by kernel_rfl) ?_
 refine E_rd 1 ?_
 refine E_rd 3 ?_
 refine E_rd 5 ?_
 obtain ⟨xc, hxc⟩ : ∃ V, w2.drew = V := ⟨_, rfl⟩
 rw [hxc] at S ⊢
 clear hxc
 iterate 5 (all_goals (refine E_by [0, 2, 4, 6, 7] (A_c ?_ (A_c ?_ (A_c ?_ (A_c ?_ (A_c ?_ A_n))))) <;> (first
  | exact Arm.no
  | (refine Arm.mk 0 fun K hK => ?_
     have q := S.out.op0
     obtain ⟨xc, hx, hb⟩ : ∃ V : World, xc.alloc (.cells #[] 31) = V ∧ Below xc.heap.size xc V := ⟨_, rfl, bel⟩
     rw [hx] at q; replace S := Hd q.1
     try replace L := Hd (q.2 _ _ _ _ L.out)
     gi_wp2; refine ⟨Keeps.of_below hb _, ?_⟩; refine lit ?_
     clear hb hx q)
  | (refine Arm.mk 2 fun K hK => ?_
     obtain ⟨v, xc, r, s, t, u⟩ := S.out.app (S.out.sl HI.out.2.1) (by omega) (by omega); have RN := Hd r; have kU := Keeps.of_own (s := sb1) t (fun q hq => Hsb1.out ▸ S.out.ge q hq); replace S := Hd s
     try replace L := Hd (u _ _ _ _ L.out)
     refine wpIn_append _ _ _ rfl rfl rfl RN.out (hK _ _ ⟨kU, ?_⟩); clear hK K; refine lit ?_
     clear r s t u kU RN)
  | (refine Arm.mk 4 fun K hK => ?_
     obtain ⟨v, xc, r, s, t, u⟩ := S.out.app (S.out.sl HI.out.2.2.1) (by omega) (by omega); have RN := Hd r; have kU := Keeps.of_own (s := sb1) t (fun q hq => Hsb1.out ▸ S.out.ge q hq); replace S := Hd s
     try replace L := Hd (u _ _ _ _ L.out)
     refine wpIn_append _ _ _ rfl rfl rfl RN.out (hK _ _ ⟨kU, ?_⟩); clear hK K; refine lit ?_
     clear r s t u kU RN)
  | (refine Arm.mk 6 fun K hK => ?_
     have q := S.out.lit HI.out.1 HI.out.2.2.2
     obtain ⟨xc, hx, hb⟩ : ∃ V : World, xc.alloc (.cells #[.bool p0, .slice E0 n0 c0, .bool q0, .slice F0 m0 d0] 31) = V ∧ Below xc.heap.size xc V := ⟨_, rfl, bel⟩
     rw [hx] at q; replace S := Hd q.1; have L := Hd q.2; gi_wp2; refine ⟨Keeps.of_below hb _, ?_⟩; refine lit ?_
     clear hb hx q)
  | (refine Arm.mk 7 fun K hK => ?_
     obtain ⟨v, xc, r, s, t, u⟩ := S.out.app L.out (by omega) (by omega); have RN := Hd r; have kU := Keeps.of_own (s := sb1) t (fun q hq => Hsb1.out ▸ S.out.ge q hq); replace S := Hd s; refine wpIn_append _ _ _ rfl rfl rfl RN.out (hK _ _ ⟨kU, ?_⟩); clear hK K; refine lit ?_
     clear r s t u kU RN))))
 all_goals
  obtain ⟨N, hN⟩ : ∃ N, 0 + m + k + 1 = N := ⟨_, rfl⟩
  have SN := S.out; rw [hN] at SN; rw [List.nil_append] at SN; obtain ⟨A9, c9, e9, hs9⟩ := SN.own.sl (by omega) HI.out.1; have HALL := Hd2 (G2.out.go SN.bl) hs9; have HLN := Hd2 hs9.len hN
  have hN6 : N ≤ 61 := by omega
  subst e9; clear hs9 SN hN
  refine E_nl 1 ?_; refine tls fun K hK K' hK' => ?_; gi_wp2; refine tail_nil _ ?_; simp only [npost]; gi_wp2
 all_goals
  gi_loopw [15] (fun i wr => ∃ j : Nat, j ≤ N ∧ i = .int .i64 j ∧ Hid (((ins ++ vs ++ [t]).take j).all ratOk = true) ∧ Hid (Fr w wr [(w.heap.size, [.bool p0, .slice E0 n0 c0, .bool q0, .slice F0 m0 d0])]) ∧ Hid (Sl RatR wr M A9 N c9 (ins ++ vs ++ [t]))) (fun i _ => N - (intOf i).toNat)
  case atStart => exact ⟨0, Nat.zero_le _, rfl, Hd (by simp), HALL.out.1, HALL.out.2⟩
  case round =>
   obtain ⟨j, hj, rfl, ht, hF, hS⟩ := hrel; have hFo := hF.out; refine op1 hFo ?_; intros; clear hFo
   by_cases hlt : j < N
   · obtain ⟨x, hx⟩ : ∃ x, (ins ++ vs ++ [t])[j]? = some x := ⟨_, List.getElem?_eq_getElem (by rw [HLN.out.1]; exact hlt)⟩
     have HXK := Hd hx; obtain ⟨b, o, A1, n1, c1, A2, n2, c2, rfl, h0, h1, h2, h3, s1, s2⟩ := hS.out.ratat hx; have HX := Hd2 s1 s2
     obtain ⟨k1, hk1⟩ : ∃ k, ratE (ratOk ((x.1.1, x.1.2), (x.2.1, x.2.2))) = k := ⟨_, rfl⟩
     have HK1 := Hd hk1; have hk1' : ratE (ratOk x) = k1 := hk1; clear hk1 s1 s2 hx; generalize x.1.1 = p1 at *; generalize x.2.1 = q1 at *; have r1 : ratOk x = true := List.all_eq_true.1 (show (ins ++ vs ++ [t]).all ratOk = true by rw [all_three]; exact HR.out) x (List.mem_of_getElem? HXK.out)
     have e1 : k1 = 0 := by rw [← hk1', r1]; rfl
     subst e1; have HT := Hd (all_more (P := ratOk) ht.out HXK.out r1); clear r1 hk1'
     gi_wp2_with (refine Cl 23 (rqcheck_any (l1 := x.1.2) (l2 := x.2.2) (M := M) (H.out.bel.le hF.out.bl.size) HX.out.1 HX.out.2) ?_
                  rintro e w2 ⟨rfl, hb2⟩; rw [HK1.out]; have F2 := hF.out.go hb2; refine op1 F2 ?_; intros; have G3 := Hd2 F2 (hS.out.go hb2)
                  clear hb2 F2)
     exact ⟨⟨j + 1, by omega, by go_num, HT, G3.out.1, G3.out.2⟩, by simp [intOf]; omega⟩
   · by_cases ha0 : at_ < 0
     · gi_wp2
       all_goals first
        | exact (undef_no (by assumption)).elim
        | exact ⟨rfl, .tuple #[.int .i64 0, .bool false, .int .i64 1], by simp [results, go_sem], by rw [HE.out.1, HE.out.2], hF.out.bl⟩
     · have ham : (m : Int) ≤ at_ := by omega
       gi_wp2
       all_goals first
        | exact (undef_no (by assumption)).elim
        | exact ⟨rfl, .tuple #[.int .i64 0, .bool false, .int .i64 1], by simp [results, go_sem], by rw [HE.out.1, HE.out.2], hF.out.bl⟩
set_option maxRecDepth 20000 in
set_option maxHeartbeats 16000000 in
theorem sneed_asc (h : NeedH w M A n c B m d D k e p ins vs t p0 q0 E0 n0 c0 F0 m0 d0) (hc : codeE p m = 0) (hr : (ins.all ratOk && vs.all ratOk && ratOk t) = true) (ha : 0 ≤ at_ ∧ at_ < m) (has : ascends (vs.map decQ) = false) :
 Calls Tryz.prog 17 #[.slice A n c, .slice B m d, .int .i64 at_, .slice D k e, .agg #[.bool p0, .slice E0 n0 c0, .bool q0, .slice F0 m0 d0]] w (NeedR w p ins at_ vs t) := by
 have HE := Hd (h.eAsc hc hr ha has)
 have HG := Hd (h.g hc hr)
 have HC := Hd hc
 have HR := Hd hr
 have HAS := Hd has
 have ha1 : ¬ at_ < 0 := by omega
 have ha2 : at_ < m := ha.2
 clear hc hr has ha
 refine wid ?_
 have hsp := h.sp.small
 have hsi := h.si.small
 have hsv := h.sv.small
 have hm30 := h.m30
 have hk30 := h.k30
 have H := Hd h
 obtain ⟨W1, hW1, F1⟩ := nam ((Fr.nil w).a w.heap.size [.bool p0, .slice E0 n0 c0, .bool q0, .slice F0 m0 d0] 31)
 refine op1 F1 ?_; intros
 have F := Hd F1
 clear h F1
 refine ent Tryz.func17 rfl Tryz.ntmps17 ?_
 gi_wp2_with (refine Cl 35 (rcodeE_any (M := M) _ n c p (m : Int) _ (H.out.bel.le F.out.bl.size) (H.out.sp.go F.out.bl)) ?_
              rintro e w2 ⟨rfl, hb2⟩; rw [HC.out]; have F2 := F.out.go hb2; refine op1 F2 ?_; intros; have G2 := Hd F2; have HI := Hd4 (H.out.bel.le F2.bl.size) (H.out.si.go F2.bl) (H.out.sv.go F2.bl) (H.out.st.go F2.bl)
              clear hb2 F2)
 obtain ⟨sb1, hsb1⟩ : ∃ s, w2.heap.size = s := ⟨_, rfl⟩
 have Hsb1 := Hd hsb1
 clear hsb1
 have htc := G2.out.nth 0
 have y0 := stays_s Hsb1.out (htc 0 _ rfl)
 have y1 := stays_s Hsb1.out (htc 1 _ rfl)
 have y2 := stays_s Hsb1.out (htc 2 _ rfl)
 have y3 := stays_s Hsb1.out (htc 3 _ rfl)
 have S := Hd (AS.start w2 M)
 clear htc
 refine region_E_np sb1 8 (by kernel_rfl) (by kernel_rfl) ?_
 refine E_rd 1 ?_
 refine E_rd 3 ?_
 refine E_rd 5 ?_
 obtain ⟨xc, hxc⟩ : ∃ V, w2.drew = V := ⟨_, rfl⟩
 rw [hxc] at S ⊢
 clear hxc
 iterate 5 (all_goals (refine E_by [0, 2, 4, 6, 7] (A_c ?_ (A_c ?_ (A_c ?_ (A_c ?_ (A_c ?_ A_n))))) <;> (first
  | exact Arm.no
  | (refine Arm.mk 0 fun K hK => ?_
     have q := S.out.op0
     obtain ⟨xc, hx, hb⟩ : ∃ V : World, xc.alloc (.cells #[] 31) = V ∧ Below xc.heap.size xc V := ⟨_, rfl, bel⟩
     rw [hx] at q; replace S := Hd q.1
     try replace L := Hd (q.2 _ _ _ _ L.out)
     gi_wp2; refine ⟨Keeps.of_below hb _, ?_⟩; refine lit ?_
     clear hb hx q)
  | (refine Arm.mk 2 fun K hK => ?_
     obtain ⟨v, xc, r, s, t, u⟩ := S.out.app (S.out.sl HI.out.2.1) (by omega) (by omega); have RN := Hd r; have kU := Keeps.of_own (s := sb1) t (fun q hq => Hsb1.out ▸ S.out.ge q hq); replace S := Hd s
     try replace L := Hd (u _ _ _ _ L.out)
     refine wpIn_append _ _ _ rfl rfl rfl RN.out (hK _ _ ⟨kU, ?_⟩); clear hK K; refine lit ?_
     clear r s t u kU RN)
  | (refine Arm.mk 4 fun K hK => ?_
     obtain ⟨v, xc, r, s, t, u⟩ := S.out.app (S.out.sl HI.out.2.2.1) (by omega) (by omega); have RN := Hd r; have kU := Keeps.of_own (s := sb1) t (fun q hq => Hsb1.out ▸ S.out.ge q hq); replace S := Hd s
     try replace L := Hd (u _ _ _ _ L.out)
     refine wpIn_append _ _ _ rfl rfl rfl RN.out (hK _ _ ⟨kU, ?_⟩); clear hK K; refine lit ?_
     clear r s t u kU RN)
  | (refine Arm.mk 6 fun K hK => ?_
     have q := S.out.lit HI.out.1 HI.out.2.2.2
     obtain ⟨xc, hx, hb⟩ : ∃ V : World, xc.alloc (.cells #[.bool p0, .slice E0 n0 c0, .bool q0, .slice F0 m0 d0] 31) = V ∧ Below xc.heap.size xc V := ⟨_, rfl, bel⟩
     rw [hx] at q; replace S := Hd q.1; have L := Hd q.2; gi_wp2; refine ⟨Keeps.of_below hb _, ?_⟩; refine lit ?_
     clear hb hx q)
  | (refine Arm.mk 7 fun K hK => ?_
     obtain ⟨v, xc, r, s, t, u⟩ := S.out.app L.out (by omega) (by omega); have RN := Hd r; have kU := Keeps.of_own (s := sb1) t (fun q hq => Hsb1.out ▸ S.out.ge q hq); replace S := Hd s; refine wpIn_append _ _ _ rfl rfl rfl RN.out (hK _ _ ⟨kU, ?_⟩); clear hK K; refine lit ?_
     clear r s t u kU RN))))
 all_goals
  obtain ⟨N, hN⟩ : ∃ N, 0 + m + k + 1 = N := ⟨_, rfl⟩
  have SN := S.out; rw [hN] at SN; rw [List.nil_append] at SN; obtain ⟨A9, c9, e9, hs9⟩ := SN.own.sl (by omega) HI.out.1; have HALL := Hd2 (G2.out.go SN.bl) hs9; have HLN := Hd2 hs9.len hN
  have hN6 : N ≤ 61 := by omega
  subst e9; clear hs9 SN hN
  refine E_nl 1 ?_; refine tls fun K hK K' hK' => ?_; gi_wp2; refine tail_nil _ ?_; simp only [npost]; gi_wp2
 all_goals
  gi_loopw [15] (fun i wr => ∃ j : Nat, j ≤ N ∧ i = .int .i64 j ∧ Hid (((ins ++ vs ++ [t]).take j).all ratOk = true) ∧ Hid (Fr w wr [(w.heap.size, [.bool p0, .slice E0 n0 c0, .bool q0, .slice F0 m0 d0])]) ∧ Hid (Sl RatR wr M A9 N c9 (ins ++ vs ++ [t]))) (fun i _ => N - (intOf i).toNat)
  case atStart => exact ⟨0, Nat.zero_le _, rfl, Hd (by simp), HALL.out.1, HALL.out.2⟩
  case round =>
   obtain ⟨j, hj, rfl, ht, hF, hS⟩ := hrel; have hFo := hF.out; refine op1 hFo ?_; intros; clear hFo
   by_cases hlt : j < N
   · obtain ⟨x, hx⟩ : ∃ x, (ins ++ vs ++ [t])[j]? = some x := ⟨_, List.getElem?_eq_getElem (by rw [HLN.out.1]; exact hlt)⟩
     have HXK := Hd hx; obtain ⟨b, o, A1, n1, c1, A2, n2, c2, rfl, h0, h1, h2, h3, s1, s2⟩ := hS.out.ratat hx; have HX := Hd2 s1 s2
     obtain ⟨k1, hk1⟩ : ∃ k, ratE (ratOk ((x.1.1, x.1.2), (x.2.1, x.2.2))) = k := ⟨_, rfl⟩
     have HK1 := Hd hk1; have hk1' : ratE (ratOk x) = k1 := hk1; clear hk1 s1 s2 hx; generalize x.1.1 = p1 at *; generalize x.2.1 = q1 at *; have r1 : ratOk x = true := List.all_eq_true.1 (show (ins ++ vs ++ [t]).all ratOk = true by rw [all_three]; exact HR.out) x (List.mem_of_getElem? HXK.out)
     have e1 : k1 = 0 := by rw [← hk1', r1]; rfl
     subst e1; have HT := Hd (all_more (P := ratOk) ht.out HXK.out r1); clear r1 hk1'
     gi_wp2_with (refine Cl 23 (rqcheck_any (l1 := x.1.2) (l2 := x.2.2) (M := M) (H.out.bel.le hF.out.bl.size) HX.out.1 HX.out.2) ?_
                  rintro e w2 ⟨rfl, hb2⟩; rw [HK1.out]; have F2 := hF.out.go hb2; refine op1 F2 ?_; intros; have G3 := Hd2 F2 (hS.out.go hb2)
                  clear hb2 F2)
     exact ⟨⟨j + 1, by omega, by go_num, HT, G3.out.1, G3.out.2⟩, by simp [intOf]; omega⟩
   · gi_wp2
     gi_loopw [16] (fun i wr => ∃ j : Nat, 1 ≤ j ∧ (j ≤ k ∨ j = 1) ∧ i = .int .i64 j ∧ Hid (∀ i, i + 1 < j → cmpQ (regQ (vs.map decQ) i) (regQ (vs.map decQ) ((i + 1 : Nat) : Int)) < 0) ∧ Hid (Fr w wr [(w.heap.size, [.bool p0, .slice E0 n0 c0, .bool q0, .slice F0 m0 d0])])) (fun i _ => k - (intOf i).toNat)
     case atStart => exact ⟨1, Nat.le_refl _, .inr rfl, rfl, Hd (fun i hi => by omega), hF⟩
     case round =>
      obtain ⟨j, hj1, hj, rfl, ht, hF2⟩ := hrel; have hFo := hF2.out; refine op1 hFo ?_; intros; clear hFo
      by_cases hlt : j < k
      · obtain ⟨i0, hi0⟩ : ∃ i, j - 1 = i := ⟨_, rfl⟩
        have k1 : IntKind.i64.wrap ((j : Int) - 1) = (i0 : Int) := by rw [IntKind.wrap_i64]; omega
        have hi0k : i0 < k := by omega
        have hji : j = i0 + 1 := by omega
        have HJI := Hd hji; clear hji hi0; obtain ⟨b, o, p1, q1, A1, n1, c1, B1, m1, d1, rfl, ⟨h0, h1, h2, h3⟩, qa⟩ := (HG.out.sv.go hF2.out.bl).at_ hi0k; obtain ⟨b', o', p2, q2, A2, n2, c2, B2, m2, d2, e0, ⟨g0, g1, g2, g3⟩, qb⟩ := (HG.out.sv.go hF2.out.bl).at_ hlt
        obtain ⟨rfl, rfl⟩ : b = b' ∧ o = o' := by simpa using e0
        have oa := HG.out.aS.ref (i := (i0 : Int)) (decide_eq_true ⟨by omega, by rw [HG.out.sv.len]; omega⟩); have ob := HG.out.aS.ref (i := (j : Int)) (decide_eq_true ⟨by omega, by rw [HG.out.sv.len]; omega⟩)
        obtain ⟨sb2, hsb2⟩ : ∃ s, wr.heap.size = s := ⟨_, rfl⟩
        have Hsb2 := Hd hsb2; clear hsb2; have v0 := stays_s Hsb2.out h0; have v1 := stays_s Hsb2.out h1; have v2 := stays_s Hsb2.out h2; have v3 := stays_s Hsb2.out h3; have v4 := stays_s Hsb2.out g0; have v5 := stays_s Hsb2.out g1; have v6 := stays_s Hsb2.out g2; have v7 := stays_s Hsb2.out g3; have X := Hd4 qa.drew qb.drew oa ob
        obtain ⟨cc, hcc⟩ : ∃ cc, cmpQ (regQ (vs.map decQ) (i0 : Int)) (regQ (vs.map decQ) (j : Int)) = cc := ⟨_, rfl⟩
        have HC2 := Hd hcc; clear h0 h1 h2 h3 g0 g1 g2 g3 qa qb oa ob e0 hcc; gi_wp2; refine region_E_np sb2 15 (by kernel_rfl) (by kernel_rfl) ?_; refine E_rd 0 ?_; refine E_rd 1 ?_; refine E_rd 2 ?_; refine E_rd 3 ?_; refine E_rd 4 ?_; refine E_rd 5 ?_; refine E_rd 6 ?_; refine E_rd 7 ?_; refine E_rd 8 ?_
        refine E_al 9 fun K hK => ?_; gi_wp2
        refine Cm (rqCmp_any (M := M) (a := regQ (vs.map decQ) (i0 : Int)) (b := regQ (vs.map decQ) (j : Int)) (H.out.bel.le (w' := wr.drew) hF2.out.bl.size) X.out.1.qw X.out.2.1.qw X.out.2.2.1.1 X.out.2.2.2.1 (X.out.2.2.1.2.fine X.out.2.2.2.2)) ?_; rintro e w5 ⟨rfl, hb5⟩; rw [HC2.out]; have F5 := hF2.out.drew.go hb5; refine op1 F5 ?_; intros; have G5 := Hd F5; clear F5; refine hK _ _ ⟨?_, ?_⟩; clear hK K
        · exact Keeps.of_below hb5 _
        refine lit ?_; clear hb5; refine E_rd 10 ?_; refine E_rd 11 ?_; refine E_rd 12 ?_; refine E_rd 13 ?_; refine E_rd 14 ?_
        have HT : cc < 0 → Hid (∀ i, i + 1 < j + 1 → cmpQ (regQ (vs.map decQ) i) (regQ (vs.map decQ) ((i + 1 : Nat) : Int)) < 0) := fun hc i hi => by
         by_cases e1 : i + 1 < j
         · exact ht.out i e1
         · have e2 : i = i0 := by have := HJI.out; omega
           subst e2; rw [← HJI.out, HC2.out]; exact hc
        by_cases hc0 : cc < 0
        rotate_left
        · clear HT
          refine E_nl 0 ?_; refine tail_nil _ ?_; simp only [npost]; gi_wp2; exact ⟨rfl, .tuple #[.int .i64 0, .bool false, .int .i64 200], by simp [results, go_sem], by rw [HE.out.1, HE.out.2], G5.out.bl⟩
        have HT := HT hc0; refine E_nl 0 ?_; refine tail_nil _ ?_; simp only [npost]; gi_wp2; exact ⟨⟨j + 1, by omega, .inl (by omega), by go_num, HT, G5⟩, by simp [intOf]; omega⟩
      · exfalso
        have h1 := ascends_of (l := vs.map decQ) (fun i hi => ht.out i (by rw [HG.out.sv.len] at hi; omega)); rw [HAS.out] at h1; cases h1
end
end U
end Go.Proofs.YtboapndkopabiaaGreat
