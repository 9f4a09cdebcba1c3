/- Lemmas and walks (Law6). No statement is proved here. -/
import Derived.Test.YtboapndkopabiaaGreatM40
import Derived.Test.YtboapndkopabiaaGreatM43
set_option linter.unusedVariables false
set_option linter.unusedSimpArgs false
namespace Go.Proofs.YtboapndkopabiaaGreat
open Go.RowKit Go.Shelf
attribute [local go_sem] Oper.semAt_some
theorem NeedH.zero {w : World} {M : List Nat} {A B D E0 F0 : Option Addr} {n c m d k e n0 c0 m0 d0 : Nat} {p : List InsR} {ins vs : List RatR} {t : RatR} {p0 q0 : Bool} {at_ : Int} (h : NeedH w M A n c B m d D k e p ins vs t p0 q0 E0 n0 c0 F0 m0 d0) (h0 : needE p ins at_ vs t = 0) :
 codeE p m = 0 ∧ (ins.all ratOk && vs.all ratOk && ratOk t) = true ∧ (0 ≤ at_ ∧ at_ < m) ∧ needV p ins at_ vs t = firstK (enough p (ins.map decQ) at_ (decQ t)) 0 (vs.map decQ) := by
 by_cases hc : codeE p m = 0
 · cases hr : (ins.all ratOk && vs.all ratOk && ratOk t)
   · have := (h.eRat (at_ := at_) hc hr).1; omega
   · by_cases ha : 0 ≤ at_ ∧ at_ < m
     · cases hs : ascends (vs.map decQ)
       · have := (h.eAsc hc hr ha hs).1; omega
       · exact ⟨hc, rfl, ha, (h.eOk hc hr ha hs).2⟩
     · have := (h.eAt hc hr ha).1; omega
 · have := (h.eBad (at_ := at_) hc).1; omega
set_option maxRecDepth 100000 in
set_option maxHeartbeats 32000000 in
theorem rangesNeedFirst_true {A B D E0 F0 : Option Addr} {n c m d k e n0 c0 m0 d0 : Nat} {at_ : Int} {p : List InsR} {ins vs : List RatR} {t : RatR} {p0 q0 : Bool} {w : World} (hp : Sl InsR w [] A n c p) (hi : Sl RatR w [] B m d ins) (_hat : i64 at_) (hv : Sl RatR w [] D k e vs) (e1 : t.1.1 = p0) (e2 : t.2.1 = q0) (h1 : Sl Int w [] E0 n0 c0 t.1.2) (h2 : Sl Int w [] F0 m0 d0 t.2.2) :
 Calls Tryz.prog 7 #[.slice A n c, .slice B m d, .int .i64 at_, .slice D k e, .agg #[.bool p0, .slice E0 n0 c0, .bool q0, .slice F0 m0 d0]] w fun e w' => e = .returned (.bool true) ∧ Below w.heap.size w w' := by
 refine wid ?_
 have hsp := hp.small
 have hsv := hv.small
 have H := Hd4 hp hi hv (show RV w [] (.agg #[.bool p0, .slice E0 n0 c0, .bool q0, .slice F0 m0 d0]) t from ⟨E0, n0, c0, F0, m0, d0, by rw [e1, e2], h1, h2⟩)
 have HX := Hd (show XC w [] t p0 q0 E0 n0 c0 F0 m0 d0 from ⟨e1, e2, h1, h2⟩)
 clear hp hi hv e1 e2 h1 h2 _hat
 obtain ⟨W1, hW1, F1⟩ := nam ((Fr.nil w).a w.heap.size [.bool p0, .slice E0 n0 c0, .bool q0, .slice F0 m0 d0] 31)
 refine op1 F1 ?_; intros
 have I := Hd F1
 clear F1
 cases hf : fewPB p
 · have HFP := Hd hf
   clear hf; refine ent Tryz.func7 rfl Tryz.ntmps7 ?_
   gi_wp2_with (first
    | (refine Cl 15 (short_q (M := []) (x := t) (H.out.2.2.2.go I.out.bl)) ?_
       rintro e w2 ⟨rfl, hb2⟩; rw [HFT.out]; replace I := Hd (I.out.go hb2); have hfo := I.out; refine op1 hfo ?_; intros
       clear hb2 hfo)
      | (have g' := mI
         refine Cl 14 (fewQs_any (M := []) _ k e vs _ (H.out.2.2.1.go I.out.bl)) ?_; rintro e w2 ⟨rfl, hb2⟩; rw [HFV.out]; replace I := Hd (I.out.go hb2); have hfo := I.out; refine op1 hfo ?_; intros
         clear hb2 hfo)
      | (refine Cl 14 (fewQs_any (M := []) _ m d ins _ (H.out.2.1.go I.out.bl)) ?_
         rintro e w2 ⟨rfl, hb2⟩; rw [HFI.out]; have mI := trivial; replace I := Hd (I.out.go hb2); have hfo := I.out; refine op1 hfo ?_; intros
         clear hb2 hfo)
      | (refine Cl 9 (fewP_any (M := []) _ n c p _ (H.out.1.go I.out.bl)) ?_
         rintro e w2 ⟨rfl, hb2⟩; rw [HFP.out]; replace I := Hd (I.out.go hb2); have hfo := I.out; refine op1 hfo ?_; intros
         clear hb2 hfo)
      | (refine Cl 8 (U.sane_any _) ?_
         rintro e w2 ⟨rfl, hb2⟩; replace I := Hd (I.out.go hb2); have hfo := I.out; refine op1 hfo ?_; intros
         clear hb2 hfo)
    | (refine ⟨trivial, ?_⟩))
   all_goals first
    | exact (undef_no (by assumption)).elim
    | (go_ret; exact ⟨rfl, I.out.bl⟩)
 have HFP := Hd hf
 clear hf
 cases hf : fewQs ins
 · have HFI := Hd hf
   clear hf; refine ent Tryz.func7 rfl Tryz.ntmps7 ?_
   gi_wp2_with (first
    | (refine Cl 15 (short_q (M := []) (x := t) (H.out.2.2.2.go I.out.bl)) ?_
       rintro e w2 ⟨rfl, hb2⟩; rw [HFT.out]; replace I := Hd (I.out.go hb2); have hfo := I.out; refine op1 hfo ?_; intros
       clear hb2 hfo)
      | (have g' := mI
         refine Cl 14 (fewQs_any (M := []) _ k e vs _ (H.out.2.2.1.go I.out.bl)) ?_; rintro e w2 ⟨rfl, hb2⟩; rw [HFV.out]; replace I := Hd (I.out.go hb2); have hfo := I.out; refine op1 hfo ?_; intros
         clear hb2 hfo)
      | (refine Cl 14 (fewQs_any (M := []) _ m d ins _ (H.out.2.1.go I.out.bl)) ?_
         rintro e w2 ⟨rfl, hb2⟩; rw [HFI.out]; have mI := trivial; replace I := Hd (I.out.go hb2); have hfo := I.out; refine op1 hfo ?_; intros
         clear hb2 hfo)
      | (refine Cl 9 (fewP_any (M := []) _ n c p _ (H.out.1.go I.out.bl)) ?_
         rintro e w2 ⟨rfl, hb2⟩; rw [HFP.out]; replace I := Hd (I.out.go hb2); have hfo := I.out; refine op1 hfo ?_; intros
         clear hb2 hfo)
      | (refine Cl 8 (U.sane_any _) ?_
         rintro e w2 ⟨rfl, hb2⟩; replace I := Hd (I.out.go hb2); have hfo := I.out; refine op1 hfo ?_; intros
         clear hb2 hfo)
    | (refine ⟨trivial, ?_⟩))
   all_goals first
    | exact (undef_no (by assumption)).elim
    | (go_ret; exact ⟨rfl, I.out.bl⟩)
 have HFI := Hd hf
 clear hf
 cases hf : fewQs vs
 · have HFV := Hd hf
   clear hf; refine ent Tryz.func7 rfl Tryz.ntmps7 ?_
   gi_wp2_with (first
    | (refine Cl 15 (short_q (M := []) (x := t) (H.out.2.2.2.go I.out.bl)) ?_
       rintro e w2 ⟨rfl, hb2⟩; rw [HFT.out]; replace I := Hd (I.out.go hb2); have hfo := I.out; refine op1 hfo ?_; intros
       clear hb2 hfo)
      | (have g' := mI
         refine Cl 14 (fewQs_any (M := []) _ k e vs _ (H.out.2.2.1.go I.out.bl)) ?_; rintro e w2 ⟨rfl, hb2⟩; rw [HFV.out]; replace I := Hd (I.out.go hb2); have hfo := I.out; refine op1 hfo ?_; intros
         clear hb2 hfo)
      | (refine Cl 14 (fewQs_any (M := []) _ m d ins _ (H.out.2.1.go I.out.bl)) ?_
         rintro e w2 ⟨rfl, hb2⟩; rw [HFI.out]; have mI := trivial; replace I := Hd (I.out.go hb2); have hfo := I.out; refine op1 hfo ?_; intros
         clear hb2 hfo)
      | (refine Cl 9 (fewP_any (M := []) _ n c p _ (H.out.1.go I.out.bl)) ?_
         rintro e w2 ⟨rfl, hb2⟩; rw [HFP.out]; replace I := Hd (I.out.go hb2); have hfo := I.out; refine op1 hfo ?_; intros
         clear hb2 hfo)
      | (refine Cl 8 (U.sane_any _) ?_
         rintro e w2 ⟨rfl, hb2⟩; replace I := Hd (I.out.go hb2); have hfo := I.out; refine op1 hfo ?_; intros
         clear hb2 hfo)
    | (refine ⟨trivial, ?_⟩))
   all_goals first
    | exact (undef_no (by assumption)).elim
    | (go_ret; exact ⟨rfl, I.out.bl⟩)
 have HFV := Hd hf
 clear hf
 cases hf : shortQ t
 · have HFT := Hd hf
   clear hf; refine ent Tryz.func7 rfl Tryz.ntmps7 ?_
   gi_wp2_with (first
    | (refine Cl 15 (short_q (M := []) (x := t) (H.out.2.2.2.go I.out.bl)) ?_
       rintro e w2 ⟨rfl, hb2⟩; rw [HFT.out]; replace I := Hd (I.out.go hb2); have hfo := I.out; refine op1 hfo ?_; intros
       clear hb2 hfo)
      | (have g' := mI
         refine Cl 14 (fewQs_any (M := []) _ k e vs _ (H.out.2.2.1.go I.out.bl)) ?_; rintro e w2 ⟨rfl, hb2⟩; rw [HFV.out]; replace I := Hd (I.out.go hb2); have hfo := I.out; refine op1 hfo ?_; intros
         clear hb2 hfo)
      | (refine Cl 14 (fewQs_any (M := []) _ m d ins _ (H.out.2.1.go I.out.bl)) ?_
         rintro e w2 ⟨rfl, hb2⟩; rw [HFI.out]; have mI := trivial; replace I := Hd (I.out.go hb2); have hfo := I.out; refine op1 hfo ?_; intros
         clear hb2 hfo)
      | (refine Cl 9 (fewP_any (M := []) _ n c p _ (H.out.1.go I.out.bl)) ?_
         rintro e w2 ⟨rfl, hb2⟩; rw [HFP.out]; replace I := Hd (I.out.go hb2); have hfo := I.out; refine op1 hfo ?_; intros
         clear hb2 hfo)
      | (refine Cl 8 (U.sane_any _) ?_
         rintro e w2 ⟨rfl, hb2⟩; replace I := Hd (I.out.go hb2); have hfo := I.out; refine op1 hfo ?_; intros
         clear hb2 hfo)
    | (refine ⟨trivial, ?_⟩))
   all_goals first
    | exact (undef_no (by assumption)).elim
    | (go_ret; exact ⟨rfl, I.out.bl⟩)
 have HFT := Hd hf
 clear hf
 obtain ⟨r1, hr1⟩ : ∃ r, (needV p ins at_ vs t).1 = r := ⟨_, rfl⟩
 obtain ⟨r2, hr2⟩ : ∃ r, (needV p ins at_ vs t).2 = r := ⟨_, rfl⟩
 obtain ⟨r3, hr3⟩ : ∃ r, needE p ins at_ vs t = r := ⟨_, rfl⟩
 have HR := Hd3 hr1 hr2 hr3
 have NH := Hd (show NeedH w [] A n c B m d D k e p ins vs t p0 q0 E0 n0 c0 F0 m0 d0 from ⟨Bel.nil _, H.out.1, H.out.2.1, H.out.2.2.1, HX.out, HFP.out, HFI.out, HFV.out, HFT.out⟩)
 by_cases h30 : r3 = 0
 · subst h30
   obtain ⟨hc, hr, ⟨ha0, ham⟩, hV⟩ := NH.out.zero hr3; obtain ⟨a, rfl⟩ := Int.eq_ofNat_of_zero_le ha0
   have hr4 : firstK (enough p (ins.map decQ) (a : Int) (decQ t)) 0 (vs.map decQ) = (r1, r2) := by rw [← hV, ← hr1, ← hr2]
   have HG := Hd (NH.out.g hc hr); have HC := Hd hc; have hm30 := NH.out.m30; have hk30 := NH.out.k30
   obtain ⟨f, hf⟩ : ∃ f, enough p (ins.map decQ) (a : Int) (decQ t) = f := ⟨_, rfl⟩
   rw [hf] at hr4; have HFE := Hd (show ∀ v, f v = decide (0 ≤ cmpQ (resQ p ((ins.map decQ).set a v)) (decQ t)) from fun v => by rw [← hf]; rfl)
   have ha1 : ¬ (a : Int) < 0 := by omega
   have hda : decide ((a : Int) < 0) = false := decide_eq_false ha1; have hda2 : decide (m ≤ a) = false := decide_eq_false (by omega); clear hr1 hr2 hr3 hc hr hf hV; cases r2
   · obtain ⟨rfl, hno⟩ := firstK_none hr4
     have HN := Hd hno; clear hr4 hno; refine ent Tryz.func7 rfl Tryz.ntmps7 ?_
     gi_wp2_with (first
      | (refine Cl 16 (gneed_any (M := []) (ins := ins) (vs := vs) (t := t) (p := p) ⟨Bel.nil _, H.out.1.go I.out.bl, H.out.2.1.go I.out.bl, H.out.2.2.1.go I.out.bl, HX.out.go I.out.bl, HFP.out, HFI.out, HFV.out, HFT.out⟩) ?_
         rintro e w2 ⟨rfl, hb2⟩; rw [HR.out.1, HR.out.2.1, HR.out.2.2]; replace I := Hd (I.out.go hb2); have hfo := I.out; refine op1 hfo ?_; intros
         clear hb2 hfo)
        | (refine Cl 17 (U.sneed_any (M := []) (ins := ins) (vs := vs) (t := t) (p := p) ⟨Bel.nil _, H.out.1.go I.out.bl, H.out.2.1.go I.out.bl, H.out.2.2.1.go I.out.bl, HX.out.go I.out.bl, HFP.out, HFI.out, HFV.out, HFT.out⟩) ?_
           rintro e w2 ⟨rfl, hb2⟩; rw [HR.out.1, HR.out.2.1, HR.out.2.2]; replace I := Hd (I.out.go hb2); have hfo := I.out; refine op1 hfo ?_; intros
           clear hb2 hfo)
      | (refine Cl 15 (short_q (M := []) (x := t) (H.out.2.2.2.go I.out.bl)) ?_
         rintro e w2 ⟨rfl, hb2⟩; rw [HFT.out]; replace I := Hd (I.out.go hb2); have hfo := I.out; refine op1 hfo ?_; intros
         clear hb2 hfo)
        | (have g' := mI
           refine Cl 14 (fewQs_any (M := []) _ k e vs _ (H.out.2.2.1.go I.out.bl)) ?_; rintro e w2 ⟨rfl, hb2⟩; rw [HFV.out]; replace I := Hd (I.out.go hb2); have hfo := I.out; refine op1 hfo ?_; intros
           clear hb2 hfo)
        | (refine Cl 14 (fewQs_any (M := []) _ m d ins _ (H.out.2.1.go I.out.bl)) ?_
           rintro e w2 ⟨rfl, hb2⟩; rw [HFI.out]; have mI := trivial; replace I := Hd (I.out.go hb2); have hfo := I.out; refine op1 hfo ?_; intros
           clear hb2 hfo)
        | (refine Cl 9 (fewP_any (M := []) _ n c p _ (H.out.1.go I.out.bl)) ?_
           rintro e w2 ⟨rfl, hb2⟩; rw [HFP.out]; replace I := Hd (I.out.go hb2); have hfo := I.out; refine op1 hfo ?_; intros
           clear hb2 hfo)
        | (refine Cl 8 (U.sane_any _) ?_
           rintro e w2 ⟨rfl, hb2⟩; replace I := Hd (I.out.go hb2); have hfo := I.out; refine op1 hfo ?_; intros
           clear hb2 hfo)
      | (refine ⟨trivial, ?_⟩))
     all_goals try exact (undef_no (by assumption)).elim
     gi_loopw [92] (fun i wr => ∃ j : Nat, j ≤ k ∧ i = .int .i64 j ∧ Hid (Fr w wr [(w.heap.size, [.bool p0, .slice E0 n0 c0, .bool q0, .slice F0 m0 d0])])) (fun i _ => k - (intOf i).toNat)
     case atStart => exact ⟨0, Nat.zero_le _, rfl, I⟩
     case round =>
      obtain ⟨j, hj, rfl, hF⟩ := hrel
      by_cases hlt : j < k
      · obtain ⟨b, o, p1, q1, A1, n1, c1, B1, m1, d1, rfl, ⟨h0, h1, h2, h3⟩, qv⟩ := (HG.out.sv.go hF.out.bl).at_ hlt
        have hvl : (vs.map decQ).length = k := HG.out.sv.len
        have hv : (vs.map decQ)[j]? = some (regQ (vs.map decQ) (j : Int)) := by
         obtain ⟨x, hx⟩ : ∃ x, (vs.map decQ)[j]? = some x := ⟨_, List.getElem?_eq_getElem (by rw [hvl]; exact hlt)⟩
         rw [hx, regQ_get hx]
        have hvm := List.mem_of_getElem? hv
        obtain ⟨v, hve⟩ : ∃ v, regQ (vs.map decQ) (j : Int) = v := ⟨_, rfl⟩
        rw [hve] at qv hvm hv
        obtain ⟨cc, hcc⟩ : ∃ cc, cmpQ (resQ p ((ins.map decQ).set a v)) (decQ t) = cc := ⟨_, rfl⟩
        have HC2 := Hd hcc
        have hfv : f v = decide (0 ≤ cc) := by rw [HFE.out, hcc]
        obtain ⟨W1, hW1, hbW1, FW1⟩ := nam2 (w := wr) ((hF.out).a wr.heap.size [.bool p1, .slice A1 n1 c1, .bool q1, .slice B1 m1 d1] 31); obtain ⟨g, cap, V, W, r1, ⟨u0, u1, u2, u3, y0, y1, y2, y3⟩, fz, hmc, hW, hsW, hbV, hbW⟩ := U.own_set (a := a) (Bel.nil W1) (HG.out.si.go FW1.bl) hm30 (by omega) (qv.go hbW1); have f0 := fz (a * 4); have f1 := fz (a * 4 + 1); have f2 := fz (a * 4 + 2); have f3 := fz (a * 4 + 3); have FV := FW1.go hbV; refine op1 FV ?_; intros; have RUN := Hd r1; have FW := FW1.go hbW; have HX2 := Hd2 FW (show RunH W [] A n c (some ⟨g, 0, none⟩) m cap p ((ins.map decQ).set a v) from ⟨Bel.nil _, H.out.1.go FW.bl, hsW, HC.out, HG.out.fw, HG.out.lp, HG.out.rg a v hvm⟩); clear FW fz hsW hbV hbW r1 qv hvl hvm hve hcc FV FW1 hbW1
        have hcn : ¬ 0 ≤ cc := by
         have := HN.out v (List.mem_of_getElem? hv); rw [hfv] at this
         simpa using this
        have hcd : decide (0 ≤ cc) = false := decide_eq_false hcn
        have hcl : cc < 0 := by omega
        clear hfv hv
        gi_wp2_with (first
         | (refine Cl 22 (qCmp_any (M := []) (Bel.nil _) G8.out.2.1.qw G8.out.2.2.qw HX2.out.2.res_ok.1 HG.out.tS.1 (HX2.out.2.res_ok.2.fine HG.out.tS.2)) ?_
            rintro e w9 ⟨rfl, hb9⟩; rw [HC2.out]; have G9 := Hd ((G8.out.1.go hb9).sub (L' := [(w.heap.size, [.bool p0, .slice E0 n0 c0, .bool q0, .slice F0 m0 d0])]) (fun x hx => by simp at hx; simp [hx]))
            clear hb9)
         | (refine Cl 20 (U.crun_any HX2.out.2) ?_
            rintro e w7 ⟨u7, rfl, z7, hb7⟩; obtain ⟨p21, q21, A21, n21, c21, B21, m21, d21, rfl, qc7⟩ := QC.of z7; obtain ⟨W8, hW8, hbW8, F8⟩ := nam2 (w := w7) ((HX2.out.1.go hb7).a w7.heap.size [.bool p21, .slice A21 n21 c21, .bool q21, .slice B21 m21 d21] 31); refine op1 F8 ?_; intros; have G8 := Hd3 F8 (qc7.go hbW8) ((HX.out.go F8.bl).qc HG.out.ri)
            clear F8 hbW8 hb7 z7 qc7)
         | (gi_at_builtin; refine wpListIn_plain rfl fun K hK' => ?_; refine wpIn_append _ _ _ rfl rfl rfl RUN.out (hK' _ _ ?_); clear hK' K)
         | (refine ⟨trivial, ?_⟩))
        exact ⟨⟨j + 1, by omega, by go_num, G9⟩, by simp [intOf]; omega⟩
      · gi_wp2
        go_ret; exact ⟨rfl, hF.out.bl⟩
   · obtain ⟨i0, hi0, ⟨v0, hv0, hfv0⟩, hlow⟩ := firstK_some hr4
     rw [Nat.zero_add] at hi0; subst hi0
     have hik : i0 < k := by
      have h1 := (List.getElem?_eq_some_iff.1 hv0).1; rw [HG.out.sv.len] at h1; exact h1
     have HN := Hd3 hv0 hfv0 hlow; have hz1 : decide ((i0 : Int) < 0) = false := decide_eq_false (by omega); have hz2 : decide (k ≤ i0) = false := decide_eq_false (by omega); clear hr4 hv0 hfv0 hlow; refine ent Tryz.func7 rfl Tryz.ntmps7 ?_
     gi_wp2_with (first
      | (refine Cl 16 (gneed_any (M := []) (ins := ins) (vs := vs) (t := t) (p := p) ⟨Bel.nil _, H.out.1.go I.out.bl, H.out.2.1.go I.out.bl, H.out.2.2.1.go I.out.bl, HX.out.go I.out.bl, HFP.out, HFI.out, HFV.out, HFT.out⟩) ?_
         rintro e w2 ⟨rfl, hb2⟩; rw [HR.out.1, HR.out.2.1, HR.out.2.2]; replace I := Hd (I.out.go hb2); have hfo := I.out; refine op1 hfo ?_; intros
         clear hb2 hfo)
        | (refine Cl 17 (U.sneed_any (M := []) (ins := ins) (vs := vs) (t := t) (p := p) ⟨Bel.nil _, H.out.1.go I.out.bl, H.out.2.1.go I.out.bl, H.out.2.2.1.go I.out.bl, HX.out.go I.out.bl, HFP.out, HFI.out, HFV.out, HFT.out⟩) ?_
           rintro e w2 ⟨rfl, hb2⟩; rw [HR.out.1, HR.out.2.1, HR.out.2.2]; replace I := Hd (I.out.go hb2); have hfo := I.out; refine op1 hfo ?_; intros
           clear hb2 hfo)
      | (refine Cl 15 (short_q (M := []) (x := t) (H.out.2.2.2.go I.out.bl)) ?_
         rintro e w2 ⟨rfl, hb2⟩; rw [HFT.out]; replace I := Hd (I.out.go hb2); have hfo := I.out; refine op1 hfo ?_; intros
         clear hb2 hfo)
        | (have g' := mI
           refine Cl 14 (fewQs_any (M := []) _ k e vs _ (H.out.2.2.1.go I.out.bl)) ?_; rintro e w2 ⟨rfl, hb2⟩; rw [HFV.out]; replace I := Hd (I.out.go hb2); have hfo := I.out; refine op1 hfo ?_; intros
           clear hb2 hfo)
        | (refine Cl 14 (fewQs_any (M := []) _ m d ins _ (H.out.2.1.go I.out.bl)) ?_
           rintro e w2 ⟨rfl, hb2⟩; rw [HFI.out]; have mI := trivial; replace I := Hd (I.out.go hb2); have hfo := I.out; refine op1 hfo ?_; intros
           clear hb2 hfo)
        | (refine Cl 9 (fewP_any (M := []) _ n c p _ (H.out.1.go I.out.bl)) ?_
           rintro e w2 ⟨rfl, hb2⟩; rw [HFP.out]; replace I := Hd (I.out.go hb2); have hfo := I.out; refine op1 hfo ?_; intros
           clear hb2 hfo)
        | (refine Cl 8 (U.sane_any _) ?_
           rintro e w2 ⟨rfl, hb2⟩; replace I := Hd (I.out.go hb2); have hfo := I.out; refine op1 hfo ?_; intros
           clear hb2 hfo)
      | (refine ⟨trivial, ?_⟩))
     gi_loopw [92] (fun i wr => ∃ j : Nat, j ≤ k ∧ i = .int .i64 j ∧ Hid (Fr w wr [(w.heap.size, [.bool p0, .slice E0 n0 c0, .bool q0, .slice F0 m0 d0])])) (fun i _ => k - (intOf i).toNat)
     case atStart => exact ⟨0, Nat.zero_le _, rfl, I⟩
     case round =>
      obtain ⟨j, hj, rfl, hF⟩ := hrel
      by_cases hlt : j < k
      · by_cases hji : i0 < j
        · obtain ⟨b, o, p1, q1, A1, n1, c1, B1, m1, d1, rfl, ⟨h0, h1, h2, h3⟩, qv⟩ := (HG.out.sv.go hF.out.bl).at_ hlt
          obtain ⟨W1, hW1, hbW1, FW1⟩ := nam2 (w := wr) ((hF.out).a wr.heap.size [.bool p1, .slice A1 n1 c1, .bool q1, .slice B1 m1 d1] 31); have HB1 := Hd FW1.bl; clear qv FW1 hbW1; gi_wp2; go_ret; exact ⟨rfl, HB1.out⟩
        · obtain ⟨b, o, p1, q1, A1, n1, c1, B1, m1, d1, rfl, ⟨h0, h1, h2, h3⟩, qv⟩ := (HG.out.sv.go hF.out.bl).at_ hlt
          have hvl : (vs.map decQ).length = k := HG.out.sv.len
          have hv : (vs.map decQ)[j]? = some (regQ (vs.map decQ) (j : Int)) := by
           obtain ⟨x, hx⟩ : ∃ x, (vs.map decQ)[j]? = some x := ⟨_, List.getElem?_eq_getElem (by rw [hvl]; exact hlt)⟩
           rw [hx, regQ_get hx]
          have hvm := List.mem_of_getElem? hv
          obtain ⟨v, hve⟩ : ∃ v, regQ (vs.map decQ) (j : Int) = v := ⟨_, rfl⟩
          rw [hve] at qv hvm hv
          obtain ⟨cc, hcc⟩ : ∃ cc, cmpQ (resQ p ((ins.map decQ).set a v)) (decQ t) = cc := ⟨_, rfl⟩
          have HC2 := Hd hcc
          have hfv : f v = decide (0 ≤ cc) := by rw [HFE.out, hcc]
          obtain ⟨W1, hW1, hbW1, FW1⟩ := nam2 (w := wr) ((hF.out).a wr.heap.size [.bool p1, .slice A1 n1 c1, .bool q1, .slice B1 m1 d1] 31); obtain ⟨g, cap, V, W, r1, ⟨u0, u1, u2, u3, y0, y1, y2, y3⟩, fz, hmc, hW, hsW, hbV, hbW⟩ := U.own_set (a := a) (Bel.nil W1) (HG.out.si.go FW1.bl) hm30 (by omega) (qv.go hbW1); have f0 := fz (a * 4); have f1 := fz (a * 4 + 1); have f2 := fz (a * 4 + 2); have f3 := fz (a * 4 + 3); have FV := FW1.go hbV; refine op1 FV ?_; intros; have RUN := Hd r1; have FW := FW1.go hbW; have HX2 := Hd2 FW (show RunH W [] A n c (some ⟨g, 0, none⟩) m cap p ((ins.map decQ).set a v) from ⟨Bel.nil _, H.out.1.go FW.bl, hsW, HC.out, HG.out.fw, HG.out.lp, HG.out.rg a v hvm⟩); clear FW fz hsW hbV hbW r1 qv hvl hvm hve hcc FV FW1 hbW1
          by_cases hje : j = i0
          · subst hje
            have hcy : 0 ≤ cc := by
             have e3 := HN.out.1; rw [hv] at e3
             obtain rfl := Option.some.inj e3
             have := HN.out.2.1; rw [hfv] at this; exact of_decide_eq_true this
            have hcd : decide (0 ≤ cc) = true := decide_eq_true hcy; clear hfv hv
            gi_wp2_with (first
             | (refine Cl 22 (qCmp_any (M := []) (Bel.nil _) G8.out.2.1.qw G8.out.2.2.qw HX2.out.2.res_ok.1 HG.out.tS.1 (HX2.out.2.res_ok.2.fine HG.out.tS.2)) ?_
                rintro e w9 ⟨rfl, hb9⟩; rw [HC2.out]; have G9 := Hd ((G8.out.1.go hb9).sub (L' := [(w.heap.size, [.bool p0, .slice E0 n0 c0, .bool q0, .slice F0 m0 d0])]) (fun x hx => by simp at hx; simp [hx]))
                clear hb9)
             | (refine Cl 20 (U.crun_any HX2.out.2) ?_
                rintro e w7 ⟨u7, rfl, z7, hb7⟩; obtain ⟨p21, q21, A21, n21, c21, B21, m21, d21, rfl, qc7⟩ := QC.of z7; obtain ⟨W8, hW8, hbW8, F8⟩ := nam2 (w := w7) ((HX2.out.1.go hb7).a w7.heap.size [.bool p21, .slice A21 n21 c21, .bool q21, .slice B21 m21 d21] 31); refine op1 F8 ?_; intros; have G8 := Hd3 F8 (qc7.go hbW8) ((HX.out.go F8.bl).qc HG.out.ri)
                clear F8 hbW8 hb7 z7 qc7)
             | (gi_at_builtin; refine wpListIn_plain rfl fun K hK' => ?_; refine wpIn_append _ _ _ rfl rfl rfl RUN.out (hK' _ _ ?_); clear hK' K)
             | (refine ⟨trivial, ?_⟩))
            exact ⟨⟨j + 1, by omega, by go_num, G9⟩, by simp [intOf]; omega⟩
          · have hcn : ¬ 0 ≤ cc := by
             have := HN.out.2.2 j v (by omega) hv; rw [hfv] at this
             simpa using this
            have hcd : decide (0 ≤ cc) = false := decide_eq_false hcn
            have hcl : cc < 0 := by omega
            have hne : ((j : Int) == (i0 : Int)) = false := by rw [beq_eq_false_iff_ne]; omega
            clear hfv hv
            gi_wp2_with (first
             | (refine Cl 22 (qCmp_any (M := []) (Bel.nil _) G8.out.2.1.qw G8.out.2.2.qw HX2.out.2.res_ok.1 HG.out.tS.1 (HX2.out.2.res_ok.2.fine HG.out.tS.2)) ?_
                rintro e w9 ⟨rfl, hb9⟩; rw [HC2.out]; have G9 := Hd ((G8.out.1.go hb9).sub (L' := [(w.heap.size, [.bool p0, .slice E0 n0 c0, .bool q0, .slice F0 m0 d0])]) (fun x hx => by simp at hx; simp [hx]))
                clear hb9)
             | (refine Cl 20 (U.crun_any HX2.out.2) ?_
                rintro e w7 ⟨u7, rfl, z7, hb7⟩; obtain ⟨p21, q21, A21, n21, c21, B21, m21, d21, rfl, qc7⟩ := QC.of z7; obtain ⟨W8, hW8, hbW8, F8⟩ := nam2 (w := w7) ((HX2.out.1.go hb7).a w7.heap.size [.bool p21, .slice A21 n21 c21, .bool q21, .slice B21 m21 d21] 31); refine op1 F8 ?_; intros; have G8 := Hd3 F8 (qc7.go hbW8) ((HX.out.go F8.bl).qc HG.out.ri)
                clear F8 hbW8 hb7 z7 qc7)
             | (gi_at_builtin; refine wpListIn_plain rfl fun K hK' => ?_; refine wpIn_append _ _ _ rfl rfl rfl RUN.out (hK' _ _ ?_); clear hK' K)
             | (refine ⟨trivial, ?_⟩))
            exact ⟨⟨j + 1, by omega, by go_num, G9⟩, by simp [intOf]; omega⟩
      · gi_wp2
        go_ret; exact ⟨rfl, hF.out.bl⟩
 · clear hr1 hr2 hr3
   have h3b : (r3 == 0) = false := by rw [beq_eq_false_iff_ne]; exact h30
   refine ent Tryz.func7 rfl Tryz.ntmps7 ?_
   gi_wp2_with (first
    | (refine Cl 16 (gneed_any (M := []) (ins := ins) (vs := vs) (t := t) (p := p) ⟨Bel.nil _, H.out.1.go I.out.bl, H.out.2.1.go I.out.bl, H.out.2.2.1.go I.out.bl, HX.out.go I.out.bl, HFP.out, HFI.out, HFV.out, HFT.out⟩) ?_
       rintro e w2 ⟨rfl, hb2⟩; rw [HR.out.1, HR.out.2.1, HR.out.2.2]; replace I := Hd (I.out.go hb2); have hfo := I.out; refine op1 hfo ?_; intros
       clear hb2 hfo)
      | (refine Cl 17 (U.sneed_any (M := []) (ins := ins) (vs := vs) (t := t) (p := p) ⟨Bel.nil _, H.out.1.go I.out.bl, H.out.2.1.go I.out.bl, H.out.2.2.1.go I.out.bl, HX.out.go I.out.bl, HFP.out, HFI.out, HFV.out, HFT.out⟩) ?_
         rintro e w2 ⟨rfl, hb2⟩; rw [HR.out.1, HR.out.2.1, HR.out.2.2]; replace I := Hd (I.out.go hb2); have hfo := I.out; refine op1 hfo ?_; intros
         clear hb2 hfo)
    | (refine Cl 15 (short_q (M := []) (x := t) (H.out.2.2.2.go I.out.bl)) ?_
       rintro e w2 ⟨rfl, hb2⟩; rw [HFT.out]; replace I := Hd (I.out.go hb2); have hfo := I.out; refine op1 hfo ?_; intros
       clear hb2 hfo)
      | (have g' := mI
         refine Cl 14 (fewQs_any (M := []) _ k e vs _ (H.out.2.2.1.go I.out.bl)) ?_; rintro e w2 ⟨rfl, hb2⟩; rw [HFV.out]; replace I := Hd (I.out.go hb2); have hfo := I.out; refine op1 hfo ?_; intros
         clear hb2 hfo)
      | (refine Cl 14 (fewQs_any (M := []) _ m d ins _ (H.out.2.1.go I.out.bl)) ?_
         rintro e w2 ⟨rfl, hb2⟩; rw [HFI.out]; have mI := trivial; replace I := Hd (I.out.go hb2); have hfo := I.out; refine op1 hfo ?_; intros
         clear hb2 hfo)
      | (refine Cl 9 (fewP_any (M := []) _ n c p _ (H.out.1.go I.out.bl)) ?_
         rintro e w2 ⟨rfl, hb2⟩; rw [HFP.out]; replace I := Hd (I.out.go hb2); have hfo := I.out; refine op1 hfo ?_; intros
         clear hb2 hfo)
      | (refine Cl 8 (U.sane_any _) ?_
         rintro e w2 ⟨rfl, hb2⟩; replace I := Hd (I.out.go hb2); have hfo := I.out; refine op1 hfo ?_; intros
         clear hb2 hfo)
    | (refine ⟨trivial, ?_⟩))
   all_goals first
    | exact (undef_no (by assumption)).elim
    | (go_ret; exact ⟨rfl, I.out.bl⟩)
end Go.Proofs.YtboapndkopabiaaGreat
