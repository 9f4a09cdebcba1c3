/- Lemmas and walks (Law2). No statement is proved here. -/
import Derived.Test.YtboapndkopabiaaGreatM40
set_option linter.unusedVariables false
set_option linter.unusedSimpArgs false
namespace Go.Proofs.YtboapndkopabiaaGreat
open Go.RowKit Go.Shelf
attribute [local go_sem] Oper.semAt_some
set_option maxRecDepth 20000 in
set_option maxHeartbeats 8000000 in
theorem rangesSpec_true {A B : Option Addr} {n c m d : Nat} {p : List InsR} {ins : List RngR} {w : World} (hp : Sl InsR w [] A n c p) (hi : Sl RngR w [] B m d ins) :
 Calls Tryz.prog 3 #[.slice A n c, .slice B m d] w fun e w' => e = .returned (.bool true) ∧ Below w.heap.size w w' := by
 refine wid ?_
 have H := Hd2 hp hi
 clear hp hi
 cases hf : fewPB p
 · have HFP := Hd hf
   clear hf; refine ent Tryz.func3 rfl Tryz.ntmps3 ?_; gi_wp2; refine Cl 8 (U.sane_any _) ?_; rintro e w1 ⟨rfl, hb1⟩; have HB := Hd hb1; clear hb1; gi_wp2; refine Cl 9 (fewP_any (M := []) _ n c p _ (H.out.1.go HB.out)) ?_; rintro e w2 ⟨rfl, hb2⟩; rw [HFP.out]; have HB := Hd (HB.out.trans (hb2.mono HB.out.size)); clear hb2; gi_wp2; refine ⟨trivial, ?_⟩; gi_wp2
   all_goals first
    | exact (undef_no (by assumption)).elim
    | (go_ret; exact ⟨rfl, HB.out⟩)
 · have HFP := Hd hf
   clear hf; cases hg : fewGs ins
   · have HFG := Hd hg
     clear hg; refine ent Tryz.func3 rfl Tryz.ntmps3 ?_; gi_wp2; refine Cl 8 (U.sane_any _) ?_; rintro e w1 ⟨rfl, hb1⟩; have HB := Hd hb1; clear hb1; gi_wp2; refine Cl 9 (fewP_any (M := []) _ n c p _ (H.out.1.go HB.out)) ?_; rintro e w2 ⟨rfl, hb2⟩; rw [HFP.out]; have HB := Hd (HB.out.trans (hb2.mono HB.out.size)); clear hb2; gi_wp2; refine Cl 10 (fewGs_any (M := []) _ m d ins _ (H.out.2.go HB.out)) ?_; rintro e w3 ⟨rfl, hb3⟩; rw [HFG.out]; have HB := Hd (HB.out.trans (hb3.mono HB.out.size)); clear hb3; gi_wp2; go_ret; exact ⟨rfl, HB.out⟩
   · have HFG := Hd hg
     clear hg
     obtain ⟨E, hE⟩ : ∃ E, outE p ins = E := ⟨_, rfl⟩
     have HEE := Hd hE; clear hE; refine ent Tryz.func3 rfl Tryz.ntmps3 ?_; gi_wp2; refine Cl 8 (U.sane_any _) ?_; rintro e w1 ⟨rfl, hb1⟩; have HB := Hd hb1; clear hb1; gi_wp2; refine Cl 9 (fewP_any (M := []) _ n c p _ (H.out.1.go HB.out)) ?_; rintro e w2 ⟨rfl, hb2⟩; rw [HFP.out]; have HB := Hd (HB.out.trans (hb2.mono HB.out.size)); clear hb2; gi_wp2; refine Cl 10 (fewGs_any (M := []) _ m d ins _ (H.out.2.go HB.out)) ?_; rintro e w3 ⟨rfl, hb3⟩; rw [HFG.out]; have HB := Hd (HB.out.trans (hb3.mono HB.out.size)); clear hb3; gi_wp2; refine Cl 11 (gout_any (M := []) (Bel.nil _) (H.out.1.go HB.out) (H.out.2.go HB.out) HFP.out HFG.out) ?_; rintro e w4a hR; obtain ⟨p1a, A1a, n1a, c1a, q1a, B1a, m1a, d1a, p2a, A2a, n2a, c2a, q2a, B2a, m2a, d2a, rfl, hg, hb⟩ := hR.cells; rw [HEE.out]
     obtain ⟨Va, hVa⟩ : ∃ V : World, w4a.alloc (.cells #[.bool p1a, .slice A1a n1a c1a, .bool q1a, .slice B1a m1a d1a, .bool p2a, .slice A2a n2a c2a, .bool q2a, .slice B2a m2a d2a] 33) = V := ⟨_, rfl⟩
     have hb2 : Below w4a.heap.size w4a Va := by rw [← hVa]; exact bel
     have RK : RowV Va w4a.heap.size [.bool p1a, .slice A1a n1a c1a, .bool q1a, .slice B1a m1a d1a, .bool p2a, .slice A2a n2a c2a, .bool q2a, .slice B2a m2a d2a] 33 := by rw [← hVa]; exact heap_alloc_new w4a _
     have Xa := Hd2 RK (hg.go hb2); have HBSa := Hd (hb.trans (hb2.mono hb.size)); have HB := Hd (HB.out.trans (HBSa.out.mono HB.out.size)); clear hb hb2 RK hg hR; gi_wp2; refine Cl 12 (sout_any (M := []) (Bel.nil _) (H.out.1.go HB.out) (H.out.2.go HB.out) HFP.out HFG.out) ?_; rintro e w4b hR; obtain ⟨p1b, A1b, n1b, c1b, q1b, B1b, m1b, d1b, p2b, A2b, n2b, c2b, q2b, B2b, m2b, d2b, rfl, hg, hb⟩ := hR.cells; rw [HEE.out]
     obtain ⟨Vb, hVb⟩ : ∃ V : World, w4b.alloc (.cells #[.bool p1b, .slice A1b n1b c1b, .bool q1b, .slice B1b m1b d1b, .bool p2b, .slice A2b n2b c2b, .bool q2b, .slice B2b m2b d2b] 33) = V := ⟨_, rfl⟩
     have hb2 : Below w4b.heap.size w4b Vb := by rw [← hVb]; exact bel
     have RK : RowV Vb w4b.heap.size [.bool p1b, .slice A1b n1b c1b, .bool q1b, .slice B1b m1b d1b, .bool p2b, .slice A2b n2b c2b, .bool q2b, .slice B2b m2b d2b] 33 := by rw [← hVb]; exact heap_alloc_new w4b _
     have Xb := Hd2 RK (hg.go hb2); have HBSb := Hd (hb.trans (hb2.mono hb.size)); have HB := Hd (HB.out.trans (HBSb.out.mono HB.out.size)); clear hb hb2 RK hg hR; have RA := Xa.out.1.go HBSb.out Xa.out.1.lt; have GA := Hd (Xa.out.2.go HBSb.out); have RB := Xb.out.1; have x0 := RA.cell (k := 0) rfl; have x1 := RA.cell (k := 1) rfl; have x2 := RA.cell (k := 2) rfl; have x3 := RA.cell (k := 3) rfl; have x4 := RA.cell (k := 4) rfl; have x5 := RA.cell (k := 5) rfl; have x6 := RA.cell (k := 6) rfl; have x7 := RA.cell (k := 7) rfl; have z0 := RB.cell (k := 0) rfl; have z1 := RB.cell (k := 1) rfl; have z2 := RB.cell (k := 2) rfl; have z3 := RB.cell (k := 3) rfl; have z4 := RB.cell (k := 4) rfl; have z5 := RB.cell (k := 5) rfl; have z6 := RB.cell (k := 6) rfl; have z7 := RB.cell (k := 7) rfl; clear RA RB; gi_wp2; refine Cl 13 (sameG_any GA.out Xb.out.2) ?_; rintro e w9 ⟨rfl, hb9⟩; rw [decide_eq_true (rfl : outV p ins = outV p ins)]; have HB := Hd (HB.out.trans (hb9.mono HB.out.size)); clear hb9; gi_wp2; go_ret; exact ⟨by first | rfl | simp, HB.out⟩
end Go.Proofs.YtboapndkopabiaaGreat
