/- Lemmas and walks (Law3). No statement is proved here. -/
import Derived.Test.YtboapndkopabiaaGreatM40
import Derived.Test.YtboapndkopabiaaGreatM43
set_option linter.unusedVariables false
set_option linter.unusedSimpArgs false
namespace Go.Proofs.YtboapndkopabiaaGreat
open Go.RowKit Go.Shelf
attribute [local go_sem] Oper.semAt_some
set_option maxRecDepth 20000 in
set_option maxHeartbeats 8000000 in
theorem rangesNeedSpec_true {A B D E0 F0 : Option Addr} {n c m d k e n0 c0 m0 d0 : Nat} {at_ : Int} {p : List InsR} {ins vs : List RatR} {t : RatR} {p0 q0 : Bool} {w : World} (hp : Sl InsR w [] A n c p) (hi : Sl RatR w [] B m d ins) (_hat : i64 at_) (hv : Sl RatR w [] D k e vs) (e1 : t.1.1 = p0) (e2 : t.2.1 = q0) (h1 : Sl Int w [] E0 n0 c0 t.1.2) (h2 : Sl Int w [] F0 m0 d0 t.2.2) :
 Calls Tryz.prog 4 #[.slice A n c, .slice B m d, .int .i64 at_, .slice D k e, .agg #[.bool p0, .slice E0 n0 c0, .bool q0, .slice F0 m0 d0]] w fun e w' => e = .returned (.bool true) ∧ Below w.heap.size w w' := by
 refine wid ?_
 have H := Hd4 hp hi hv (show RV w [] (.agg #[.bool p0, .slice E0 n0 c0, .bool q0, .slice F0 m0 d0]) t from ⟨E0, n0, c0, F0, m0, d0, by rw [e1, e2], h1, h2⟩)
 have HX := Hd (show XC w [] t p0 q0 E0 n0 c0 F0 m0 d0 from ⟨e1, e2, h1, h2⟩)
 clear hp hi hv e1 e2 h1 h2 _hat
 obtain ⟨W1, hW1, F1⟩ := nam ((Fr.nil w).a w.heap.size [.bool p0, .slice E0 n0 c0, .bool q0, .slice F0 m0 d0] 31)
 refine op1 F1 ?_; intros
 have F := Hd F1
 clear F1
 cases hf : fewPB p
 · have HFP := Hd hf
   clear hf; refine ent Tryz.func4 rfl Tryz.ntmps4 ?_; gi_wp2; refine Cl 8 (U.sane_any _) ?_; rintro e w1 ⟨rfl, hb1⟩; have HB := Hd (F.out.bl.trans (hb1.mono F.out.bl.size)); have HF := Hd (F.out.go hb1); clear hb1; gi_wp2; refine Cl 9 (fewP_any (M := []) _ n c p _ (H.out.1.go HB.out)) ?_; rintro e w2 ⟨rfl, hb2⟩; rw [HFP.out]; have HF := Hd (HF.out.go hb2); have HB := Hd (HB.out.trans (hb2.mono HB.out.size)); have hfo := HF.out; refine op1 hfo ?_; intros; clear hb2 hfo; gi_wp2; refine ⟨trivial, ?_⟩; gi_wp2
   all_goals first
    | exact (undef_no (by assumption)).elim
    | (refine ⟨trivial, ?_⟩
       gi_wp2; refine ⟨trivial, ?_⟩; gi_wp2
       all_goals first
        | exact (undef_no (by assumption)).elim
        | (go_ret; exact ⟨rfl, HB.out⟩))
    | all_goals first
       | exact (undef_no (by assumption)).elim
       | (go_ret; exact ⟨rfl, HB.out⟩)
 have HFP := Hd hf
 clear hf
 cases hf : fewQs ins
 · have HFI := Hd hf
   clear hf; refine ent Tryz.func4 rfl Tryz.ntmps4 ?_; gi_wp2; refine Cl 8 (U.sane_any _) ?_; rintro e w1 ⟨rfl, hb1⟩; have HB := Hd (F.out.bl.trans (hb1.mono F.out.bl.size)); have HF := Hd (F.out.go hb1); clear hb1; gi_wp2; refine Cl 9 (fewP_any (M := []) _ n c p _ (H.out.1.go HB.out)) ?_; rintro e w2 ⟨rfl, hb2⟩; rw [HFP.out]; have HF := Hd (HF.out.go hb2); have HB := Hd (HB.out.trans (hb2.mono HB.out.size)); have hfo := HF.out; refine op1 hfo ?_; intros; clear hb2 hfo; gi_wp2; refine Cl 14 (fewQs_any (M := []) _ m d ins _ (H.out.2.1.go HB.out)) ?_; rintro e w2 ⟨rfl, hb2⟩; rw [HFI.out]; have HF := Hd (HF.out.go hb2); have HB := Hd (HB.out.trans (hb2.mono HB.out.size)); have hfo := HF.out; refine op1 hfo ?_; intros; clear hb2 hfo; gi_wp2
   all_goals first
    | exact (undef_no (by assumption)).elim
    | (refine ⟨trivial, ?_⟩
       gi_wp2; refine ⟨trivial, ?_⟩; gi_wp2
       all_goals first
        | exact (undef_no (by assumption)).elim
        | (go_ret; exact ⟨rfl, HB.out⟩))
    | all_goals first
       | exact (undef_no (by assumption)).elim
       | (go_ret; exact ⟨rfl, HB.out⟩)
 have HFI := Hd hf
 clear hf
 cases hf : fewQs vs
 · have HFV := Hd hf
   clear hf; refine ent Tryz.func4 rfl Tryz.ntmps4 ?_; gi_wp2; refine Cl 8 (U.sane_any _) ?_; rintro e w1 ⟨rfl, hb1⟩; have HB := Hd (F.out.bl.trans (hb1.mono F.out.bl.size)); have HF := Hd (F.out.go hb1); clear hb1; gi_wp2; refine Cl 9 (fewP_any (M := []) _ n c p _ (H.out.1.go HB.out)) ?_; rintro e w2 ⟨rfl, hb2⟩; rw [HFP.out]; have HF := Hd (HF.out.go hb2); have HB := Hd (HB.out.trans (hb2.mono HB.out.size)); have hfo := HF.out; refine op1 hfo ?_; intros; clear hb2 hfo; gi_wp2; refine Cl 14 (fewQs_any (M := []) _ m d ins _ (H.out.2.1.go HB.out)) ?_; rintro e w2 ⟨rfl, hb2⟩; rw [HFI.out]; have HF := Hd (HF.out.go hb2); have HB := Hd (HB.out.trans (hb2.mono HB.out.size)); have hfo := HF.out; refine op1 hfo ?_; intros; clear hb2 hfo; gi_wp2; refine Cl 14 (fewQs_any (M := []) _ k e vs _ (H.out.2.2.1.go HB.out)) ?_; rintro e w2 ⟨rfl, hb2⟩; rw [HFV.out]; have HF := Hd (HF.out.go hb2); have HB := Hd (HB.out.trans (hb2.mono HB.out.size)); have hfo := HF.out; refine op1 hfo ?_; intros; clear hb2 hfo; gi_wp2
   all_goals first
    | exact (undef_no (by assumption)).elim
    | (refine ⟨trivial, ?_⟩
       gi_wp2
       all_goals first
        | exact (undef_no (by assumption)).elim
        | (go_ret; exact ⟨rfl, HB.out⟩))
    | all_goals first
       | exact (undef_no (by assumption)).elim
       | (go_ret; exact ⟨rfl, HB.out⟩)
 have HFV := Hd hf
 clear hf
 cases hf : shortQ t
 · have HFT := Hd hf
   clear hf; refine ent Tryz.func4 rfl Tryz.ntmps4 ?_; gi_wp2; refine Cl 8 (U.sane_any _) ?_; rintro e w1 ⟨rfl, hb1⟩; have HB := Hd (F.out.bl.trans (hb1.mono F.out.bl.size)); have HF := Hd (F.out.go hb1); clear hb1; gi_wp2; refine Cl 9 (fewP_any (M := []) _ n c p _ (H.out.1.go HB.out)) ?_; rintro e w2 ⟨rfl, hb2⟩; rw [HFP.out]; have HF := Hd (HF.out.go hb2); have HB := Hd (HB.out.trans (hb2.mono HB.out.size)); have hfo := HF.out; refine op1 hfo ?_; intros; clear hb2 hfo; gi_wp2; refine Cl 14 (fewQs_any (M := []) _ m d ins _ (H.out.2.1.go HB.out)) ?_; rintro e w2 ⟨rfl, hb2⟩; rw [HFI.out]; have HF := Hd (HF.out.go hb2); have HB := Hd (HB.out.trans (hb2.mono HB.out.size)); have hfo := HF.out; refine op1 hfo ?_; intros; clear hb2 hfo; gi_wp2; refine Cl 14 (fewQs_any (M := []) _ k e vs _ (H.out.2.2.1.go HB.out)) ?_; rintro e w2 ⟨rfl, hb2⟩; rw [HFV.out]; have HF := Hd (HF.out.go hb2); have HB := Hd (HB.out.trans (hb2.mono HB.out.size)); have hfo := HF.out; refine op1 hfo ?_; intros; clear hb2 hfo; gi_wp2; refine Cl 15 (short_q (M := []) (x := t) (H.out.2.2.2.go HB.out)) ?_; rintro e w2 ⟨rfl, hb2⟩; rw [HFT.out]; have HF := Hd (HF.out.go hb2); have HB := Hd (HB.out.trans (hb2.mono HB.out.size)); have hfo := HF.out; refine op1 hfo ?_; intros; clear hb2 hfo; gi_wp2
   all_goals first
    | exact (undef_no (by assumption)).elim
    | (go_ret; exact ⟨rfl, HB.out⟩)
 have HFT := Hd hf
 clear hf
 obtain ⟨r1, hr1⟩ : ∃ r, (needV p ins at_ vs t).1 = r := ⟨_, rfl⟩
 obtain ⟨r2, hr2⟩ : ∃ r, (needV p ins at_ vs t).2 = r := ⟨_, rfl⟩
 obtain ⟨r3, hr3⟩ : ∃ r, needE p ins at_ vs t = r := ⟨_, rfl⟩
 have HR := Hd3 hr1 hr2 hr3
 clear hr1 hr2 hr3
 refine ent Tryz.func4 rfl Tryz.ntmps4 ?_
 gi_wp2
 refine Cl 8 (U.sane_any _) ?_
 rintro e w1 ⟨rfl, hb1⟩
 have HB := Hd (F.out.bl.trans (hb1.mono F.out.bl.size))
 have HF := Hd (F.out.go hb1)
 clear hb1
 gi_wp2
 refine Cl 9 (fewP_any (M := []) _ n c p _ (H.out.1.go HB.out)) ?_
 rintro e w2 ⟨rfl, hb2⟩
 rw [HFP.out]
 have HF := Hd (HF.out.go hb2)
 have HB := Hd (HB.out.trans (hb2.mono HB.out.size))
 have hfo := HF.out
 refine op1 hfo ?_; intros
 clear hb2 hfo
 gi_wp2
 refine Cl 14 (fewQs_any (M := []) _ m d ins _ (H.out.2.1.go HB.out)) ?_
 rintro e w2 ⟨rfl, hb2⟩
 rw [HFI.out]
 have HF := Hd (HF.out.go hb2)
 have HB := Hd (HB.out.trans (hb2.mono HB.out.size))
 have hfo := HF.out
 refine op1 hfo ?_; intros
 clear hb2 hfo
 gi_wp2
 refine Cl 14 (fewQs_any (M := []) _ k e vs _ (H.out.2.2.1.go HB.out)) ?_
 rintro e w2 ⟨rfl, hb2⟩
 rw [HFV.out]
 have HF := Hd (HF.out.go hb2)
 have HB := Hd (HB.out.trans (hb2.mono HB.out.size))
 have hfo := HF.out
 refine op1 hfo ?_; intros
 clear hb2 hfo
 gi_wp2
 refine Cl 15 (short_q (M := []) (x := t) (H.out.2.2.2.go HB.out)) ?_
 rintro e w2 ⟨rfl, hb2⟩
 rw [HFT.out]
 have HF := Hd (HF.out.go hb2)
 have HB := Hd (HB.out.trans (hb2.mono HB.out.size))
 have hfo := HF.out
 refine op1 hfo ?_; intros
 clear hb2 hfo
 gi_wp2
 refine Cl 16 (gneed_any (M := []) (at_ := at_) (ins := ins) (vs := vs) (t := t) (p := p) ⟨Bel.nil _, H.out.1.go HB.out, H.out.2.1.go HB.out, H.out.2.2.1.go HB.out, HX.out.go HB.out, HFP.out, HFI.out, HFV.out, HFT.out⟩) ?_
 rintro e w3 ⟨rfl, hb3⟩
 rw [HR.out.1, HR.out.2.1, HR.out.2.2]
 have HF := Hd (HF.out.go hb3)
 have HB := Hd (HB.out.trans (hb3.mono HB.out.size))
 have hfo := HF.out
 refine op1 hfo ?_; intros
 clear hb3 hfo
 gi_wp2
 refine Cl 17 (U.sneed_any (M := []) (at_ := at_) (ins := ins) (vs := vs) (t := t) (p := p) ⟨Bel.nil _, H.out.1.go HB.out, H.out.2.1.go HB.out, H.out.2.2.1.go HB.out, HX.out.go HB.out, HFP.out, HFI.out, HFV.out, HFT.out⟩) ?_
 rintro e w4 ⟨rfl, hb4⟩
 rw [HR.out.1, HR.out.2.1, HR.out.2.2]
 have HB := Hd (HB.out.trans (hb4.mono HB.out.size))
 clear hb4
 gi_wp2
 all_goals first
  | exact (undef_no (by assumption)).elim
  | (go_ret; exact ⟨by first | rfl | simp, HB.out⟩)
end Go.Proofs.YtboapndkopabiaaGreat
