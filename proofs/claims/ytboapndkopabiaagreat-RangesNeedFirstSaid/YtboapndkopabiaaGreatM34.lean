/- Lemmas and walks (Spn5). No statement is proved here. -/
import Derived.Test.YtboapndkopabiaaGreatM33
set_option linter.unusedVariables false
set_option linter.unusedSimpArgs false
namespace Go.Proofs.YtboapndkopabiaaGreat
open Go.RowKit Go.Shelf
attribute [local go_sem] Oper.semAt_some
def OutR (w : World) (M : List Nat) (p : List InsR) (ins : List RngR) (e : Ending) (w' : World) : Prop := ∃ u, e = .returned (.tuple #[u, .int .i64 (outE p ins)]) ∧ GV w' M u (outV p ins) ∧ Below w.heap.size w w'
set_option maxRecDepth 20000 in
set_option maxHeartbeats 4000000 in
theorem sout_bad {M : List Nat} {A B : Option Addr} {n c m d : Nat} {p : List InsR} {ins : List RngR} {w : World} (hM : Bel M w) (hp : Sl InsR w M A n c p) (hi : Sl RngR w M B m d ins) (hc : codeE p m ≠ 0) :
 Calls Tryz.prog 12 #[.slice A n c, .slice B m d] w (OutR w M p ins) := by
 refine wid ?_
 have hsp := hp.small
 have hsi := hi.small
 have hl : ins.length = m := hi.len
 have HE := Hd (show outE p ins = 190 by unfold outE; rw [hl, if_neg hc])
 have HV := Hd (show outV p ins = zeroG by unfold outV; rw [HE.out]; rfl)
 have HC := Hd (codeE_not hc)
 obtain ⟨W1, hW1, F1⟩ := nam ((Fr.nil w).a8 w.heap.size 33)
 refine op1 F1 ?_; intros
 have F := Hd F1
 have H := Hd2 hM hp
 clear hM hp hi hc F1 hl
 refine ent Tryz.func12 rfl Tryz.ntmps12 ?_
 gi_wp2_with (refine Cl 35 (rcodeE_any (M := M) _ n c p (m : Int) _ (H.out.1.le F.out.bl.size) (H.out.2.go F.out.bl)) ?_
              rintro e w2 ⟨rfl, hb2⟩; rw [HC.out]; have F2 := F.out.go hb2; refine op1 F2 ?_; intros; have hz := F2.nth 0; obtain ⟨wF, hwF, ⟨t0, t1, t2, t3⟩, ⟨t4, t5, t6, t7⟩, hG, bF⟩ := fin8 (M := M) (hz 0 _ rfl) (hz 1 _ rfl) (hz 2 _ rfl) (hz 3 _ rfl) (hz 4 _ rfl) (hz 5 _ rfl) (hz 6 _ rfl) (hz 7 _ rfl) (x := zR) (qc0 _ _) (qc0 _ _) F2.bl (by omega); have HW := Hd (And.intro t0 (And.intro t1 (And.intro t2 (And.intro t3 (And.intro t4 (And.intro t5 (And.intro t6 (And.intro t7 (And.intro hG.gv0 bF))))))))); clear t0 t1 t2 t3 t4 t5 t6 t7 hG bF hz
              clear hb2 F2)
 try rw [hwF]
 refine ⟨rfl, .tuple #[.agg #[.bool false, .slice none 0 0, .bool false, .slice none 0 0, .bool false, .slice none 0 0, .bool false, .slice none 0 0], .int .i64 190], by simp [results, go_sem, HW.out.1, HW.out.2.1, HW.out.2.2.1, HW.out.2.2.2.1, HW.out.2.2.2.2.1, HW.out.2.2.2.2.2.1, HW.out.2.2.2.2.2.2.1, HW.out.2.2.2.2.2.2.2.1], _, by first | (rw [HE.out]; done) | (rw [HE.out]; rfl), by rw [HV.out]; exact HW.out.2.2.2.2.2.2.2.2.1, HW.out.2.2.2.2.2.2.2.2.2⟩
set_option maxRecDepth 20000 in
set_option maxHeartbeats 8000000 in
theorem sout_rat {M : List Nat} {A B : Option Addr} {n c m d : Nat} {p : List InsR} {ins : List RngR} {w : World} (hM : Bel M w) (hp : Sl InsR w M A n c p) (hi : Sl RngR w M B m d ins) (hc : codeE p m = 0) (hr : ins.all rngOk = false) :
 Calls Tryz.prog 12 #[.slice A n c, .slice B m d] w (OutR w M p ins) := by
 refine wid ?_
 have hsp := hp.small
 have hsi := hi.small
 have hl : ins.length = m := hi.len
 have HE := Hd (show outE p ins = 100 by unfold outE; rw [hl, if_pos hc, hr]; rfl)
 have HV := Hd (show outV p ins = zeroG by unfold outV; rw [HE.out]; rfl)
 have HC := Hd hc
 have H := Hd5 hM hp hi hr hl
 clear hM hp hi hc hr hl
 obtain ⟨W1, hW1, F1⟩ := nam ((Fr.nil w).a8 w.heap.size 33)
 refine op1 F1 ?_; intros
 have F := Hd F1
 clear F1
 refine ent Tryz.func12 rfl Tryz.ntmps12 ?_
 gi_wp2_with (refine Cl 35 (rcodeE_any (M := M) _ n c p (m : Int) _ (H.out.1.le F.out.bl.size) (H.out.2.1.go F.out.bl)) ?_
              rintro e w2 ⟨rfl, hb2⟩; rw [HC.out]; have F2 := F.out.go hb2; refine op1 F2 ?_; intros; have G2 := Hd F2
              clear hb2 F2)
 gi_loopw [7] (fun i wr => ∃ k : Nat, k ≤ m ∧ i = .int .i64 k ∧ Hid ((ins.take k).all rngOk = true) ∧ Hid (Fr w wr [(w.heap.size, zG)])) (fun i _ => m - (intOf i).toNat)
 case atStart => exact ⟨0, Nat.zero_le _, rfl, Hd (by simp), G2.out⟩
 case round =>
  obtain ⟨k, hk, rfl, ht, hF⟩ := hrel; have hFo := hF.out; refine op1 hFo ?_; intros; clear hFo
  by_cases hlt : k < m
  · obtain ⟨x, hx⟩ : ∃ x, ins[k]? = some x := ⟨_, List.getElem?_eq_getElem (by rw [H.out.2.2.2.2]; exact hlt)⟩
    have HXK := Hd hx; obtain ⟨b, o, A1, n1, c1, A2, n2, c2, A3, n3, c3, A4, n4, c4, rfl, ⟨h0, h1, h2, h3⟩, ⟨h4, h5, h6, h7⟩, ⟨s1, s2⟩, s3, s4⟩ := (H.out.2.2.1.go hF.out.bl).rngat hx; have HX := Hd4 s1 s2 s3 s4
    obtain ⟨k1, hk1⟩ : ∃ k, ratE (ratOk ((x.1.1.1, x.1.1.2), (x.1.2.1, x.1.2.2))) = k := ⟨_, rfl⟩
    obtain ⟨k2, hk2⟩ : ∃ k, ratE (ratOk ((x.2.1.1, x.2.1.2), (x.2.2.1, x.2.2.2))) = k := ⟨_, rfl⟩
    have HK1 := Hd hk1; have HK2 := Hd hk2; have hk1' : ratE (ratOk x.1) = k1 := hk1; have hk2' : ratE (ratOk x.2) = k2 := hk2; clear hk1 hk2 s1 s2 s3 s4; generalize x.1.1.1 = p1 at *; generalize x.1.2.1 = q1 at *; generalize x.2.1.1 = p2 at *; generalize x.2.2.1 = q2 at *; clear hx; cases r1 : ratOk x.1
    · have e1 : k1 = 100 := by rw [← hk1', r1]; rfl
      subst e1; clear r1 hk1' hk2'
      gi_wp2_with (first
       | (refine Cl 23 (rqcheck_any (l1 := x.1.1.2) (l2 := x.1.2.2) (M := M) (H.out.1.le hF.out.bl.size) HX.out.1 HX.out.2.1) ?_
          rintro e w2 ⟨rfl, hb2⟩; rw [HK1.out]; have g0 := (hb2.cell (World.block_lt_of_cell? wr _ h4)).trans h4; have g1 := (hb2.cell (World.block_lt_of_cell? wr _ h5)).trans h5; have g2 := (hb2.cell (World.block_lt_of_cell? wr _ h6)).trans h6; have g3 := (hb2.cell (World.block_lt_of_cell? wr _ h7)).trans h7; have F2 := hF.out.go hb2; refine op1 F2 ?_; intros; have G2 := Hd2 F2 hb2
          clear hb2 F2)
       | (refine ⟨trivial, ?_⟩))
      have hz := G2.out.1.nth 0; obtain ⟨wF, hwF, ⟨t0, t1, t2, t3⟩, ⟨t4, t5, t6, t7⟩, hG, bF⟩ := fin8 (M := M) (hz 0 _ rfl) (hz 1 _ rfl) (hz 2 _ rfl) (hz 3 _ rfl) (hz 4 _ rfl) (hz 5 _ rfl) (hz 6 _ rfl) (hz 7 _ rfl) (x := zR) (qc0 _ _) (qc0 _ _) G2.out.1.bl (by omega); have HW := Hd (And.intro t0 (And.intro t1 (And.intro t2 (And.intro t3 (And.intro t4 (And.intro t5 (And.intro t6 (And.intro t7 (And.intro hG.gv0 bF))))))))); clear t0 t1 t2 t3 t4 t5 t6 t7 hG bF hz; gi_wp2
      try rw [hwF]
      refine ⟨rfl, .tuple #[.agg #[.bool false, .slice none 0 0, .bool false, .slice none 0 0, .bool false, .slice none 0 0, .bool false, .slice none 0 0], .int .i64 100], by simp [results, go_sem, HW.out.1, HW.out.2.1, HW.out.2.2.1, HW.out.2.2.2.1, HW.out.2.2.2.2.1, HW.out.2.2.2.2.2.1, HW.out.2.2.2.2.2.2.1, HW.out.2.2.2.2.2.2.2.1], _, by first | (rw [HE.out]; done) | (rw [HE.out]; rfl), by rw [HV.out]; exact HW.out.2.2.2.2.2.2.2.2.1, HW.out.2.2.2.2.2.2.2.2.2⟩
    · have e1 : k1 = 0 := by rw [← hk1', r1]; rfl
      subst e1; cases r2 : ratOk x.2
      · have e2 : k2 = 100 := by rw [← hk2', r2]; rfl
        subst e2; clear r1 r2 hk1' hk2'
        gi_wp2_with (first
         | (refine ⟨trivial, ?_⟩; gi_at_call 23; have g' := G2.out; clear g'
            refine Cn (rqcheck_any (l1 := x.2.1.2) (l2 := x.2.2.2) (M := M) (H.out.1.le G2.out.1.bl.size) (HX.out.2.2.1.go G2.out.2) (HX.out.2.2.2.go G2.out.2)) ?_; rintro e w3 ⟨rfl, hb3⟩; rw [HK2.out]; have F3 := G2.out.1.go hb3; refine op1 F3 ?_; intros; have G3 := Hd F3
            clear hb3 F3)
         | (refine Cl 23 (rqcheck_any (l1 := x.1.1.2) (l2 := x.1.2.2) (M := M) (H.out.1.le hF.out.bl.size) HX.out.1 HX.out.2.1) ?_
            rintro e w2 ⟨rfl, hb2⟩; rw [HK1.out]; have g0 := (hb2.cell (World.block_lt_of_cell? wr _ h4)).trans h4; have g1 := (hb2.cell (World.block_lt_of_cell? wr _ h5)).trans h5; have g2 := (hb2.cell (World.block_lt_of_cell? wr _ h6)).trans h6; have g3 := (hb2.cell (World.block_lt_of_cell? wr _ h7)).trans h7; have F2 := hF.out.go hb2; refine op1 F2 ?_; intros; have G2 := Hd2 F2 hb2
            clear hb2 F2)
         | fail)
        have hz := G3.out.nth 0; obtain ⟨wF, hwF, ⟨t0, t1, t2, t3⟩, ⟨t4, t5, t6, t7⟩, hG, bF⟩ := fin8 (M := M) (hz 0 _ rfl) (hz 1 _ rfl) (hz 2 _ rfl) (hz 3 _ rfl) (hz 4 _ rfl) (hz 5 _ rfl) (hz 6 _ rfl) (hz 7 _ rfl) (x := zR) (qc0 _ _) (qc0 _ _) G3.out.bl (by omega); have HW := Hd (And.intro t0 (And.intro t1 (And.intro t2 (And.intro t3 (And.intro t4 (And.intro t5 (And.intro t6 (And.intro t7 (And.intro hG.gv0 bF))))))))); clear t0 t1 t2 t3 t4 t5 t6 t7 hG bF hz; gi_wp2
        try rw [hwF]
        refine ⟨rfl, .tuple #[.agg #[.bool false, .slice none 0 0, .bool false, .slice none 0 0, .bool false, .slice none 0 0, .bool false, .slice none 0 0], .int .i64 100], by simp [results, go_sem, HW.out.1, HW.out.2.1, HW.out.2.2.1, HW.out.2.2.2.1, HW.out.2.2.2.2.1, HW.out.2.2.2.2.2.1, HW.out.2.2.2.2.2.2.1, HW.out.2.2.2.2.2.2.2.1], _, by first | (rw [HE.out]; done) | (rw [HE.out]; rfl), by rw [HV.out]; exact HW.out.2.2.2.2.2.2.2.2.1, HW.out.2.2.2.2.2.2.2.2.2⟩
      · have e2 : k2 = 0 := by rw [← hk2', r2]; rfl
        subst e2; have HT := Hd (all_more (P := rngOk) ht.out HXK.out (by unfold rngOk; rw [r1, r2]; rfl)); clear r1 r2 hk1' hk2'
        gi_wp2_with (first
         | (refine ⟨trivial, ?_⟩; gi_at_call 23; have g' := G2.out; clear g'
            refine Cn (rqcheck_any (l1 := x.2.1.2) (l2 := x.2.2.2) (M := M) (H.out.1.le G2.out.1.bl.size) (HX.out.2.2.1.go G2.out.2) (HX.out.2.2.2.go G2.out.2)) ?_; rintro e w3 ⟨rfl, hb3⟩; rw [HK2.out]; have F3 := G2.out.1.go hb3; refine op1 F3 ?_; intros; have G3 := Hd F3
            clear hb3 F3)
         | (refine Cl 23 (rqcheck_any (l1 := x.1.1.2) (l2 := x.1.2.2) (M := M) (H.out.1.le hF.out.bl.size) HX.out.1 HX.out.2.1) ?_
            rintro e w2 ⟨rfl, hb2⟩; rw [HK1.out]; have g0 := (hb2.cell (World.block_lt_of_cell? wr _ h4)).trans h4; have g1 := (hb2.cell (World.block_lt_of_cell? wr _ h5)).trans h5; have g2 := (hb2.cell (World.block_lt_of_cell? wr _ h6)).trans h6; have g3 := (hb2.cell (World.block_lt_of_cell? wr _ h7)).trans h7; have F2 := hF.out.go hb2; refine op1 F2 ?_; intros; have G2 := Hd2 F2 hb2
            clear hb2 F2)
         | fail)
        exact ⟨⟨k + 1, by omega, by go_num, HT, G3⟩, by simp [intOf]; omega⟩
  · exfalso
    have hkm : k = m := by omega
    have h1 := ht.out; rw [List.take_of_length_le (by rw [H.out.2.2.2.2, hkm]; exact Nat.le_refl _)] at h1; rw [H.out.2.2.2.1] at h1; exact absurd h1 (by simp)
set_option maxRecDepth 20000 in
set_option maxHeartbeats 8000000 in
theorem sout_under {M : List Nat} {A B : Option Addr} {n c m d : Nat} {p : List InsR} {l : List Rg} {w : World} (h : OutH w M A n c B m d p l) (hu : l.any underG = true) :
 Calls Tryz.prog 12 #[.slice A n c, .slice B m d] w (OutR w M p (l.map encG)) := by
 refine wid ?_
 have hsp := h.sp.small
 have hsi := h.si.small
 have HE := Hd (show outE p (l.map encG) = 200 by rw [h.outE, hu]; rfl)
 have HV := Hd (show outV p (l.map encG) = zeroG by unfold outV; rw [HE.out]; rfl)
 have H := Hd h
 have HU := Hd hu
 clear h hu
 obtain ⟨W1, hW1, F1⟩ := nam ((Fr.nil w).a8 w.heap.size 33)
 refine op1 F1 ?_; intros
 have F := Hd F1
 clear F1
 refine ent Tryz.func12 rfl Tryz.ntmps12 ?_
 gi_wp2_with (refine Cl 35 (rcodeE_any (M := M) _ n c p (m : Int) _ (H.out.bel.le F.out.bl.size) (H.out.sp.go F.out.bl)) ?_
              rintro e w2 ⟨rfl, hb2⟩; rw [H.out.ce]; have F2 := F.out.go hb2; refine op1 F2 ?_; intros; have G2 := Hd F2
              clear hb2 F2)
 gi_loopw [7] (fun i wr => ∃ k : Nat, k ≤ m ∧ i = .int .i64 k ∧ Hid (Fr w wr [(w.heap.size, zG)])) (fun i _ => m - (intOf i).toNat)
 case atStart => exact ⟨0, Nat.zero_le _, rfl, G2.out⟩
 case round =>
  obtain ⟨k, hk, rfl, hF⟩ := hrel; have hFo := hF.out; refine op1 hFo ?_; intros; clear hFo
  by_cases hlt : k < m
  · obtain ⟨y, hy⟩ : ∃ y, l[k]? = some y := ⟨_, List.getElem?_eq_getElem (by rw [H.out.li]; exact hlt)⟩
    obtain ⟨x, hxy⟩ : ∃ x, encG y = x := ⟨_, rfl⟩
    have hx : (l.map encG)[k]? = some x := by rw [List.getElem?_map, hy, ← hxy]; rfl
    have hok := mem_ends (List.mem_of_getElem? hy)
    have r1 : ratOk x.1 = true := by rw [← hxy]; exact ratOk_enc (H.out.ins _ hok.1).1
    have r2 : ratOk x.2 = true := by rw [← hxy]; exact ratOk_enc (H.out.ins _ hok.2).1
    obtain ⟨b, o, A1, n1, c1, A2, n2, c2, A3, n3, c3, A4, n4, c4, rfl, ⟨h0, h1, h2, h3⟩, ⟨h4, h5, h6, h7⟩, ⟨s1, s2⟩, s3, s4⟩ := (H.out.si.go hF.out.bl).rngat hx; have HX := Hd4 s1 s2 s3 s4
    obtain ⟨k1, hk1⟩ : ∃ k, ratE (ratOk ((x.1.1.1, x.1.1.2), (x.1.2.1, x.1.2.2))) = k := ⟨_, rfl⟩
    obtain ⟨k2, hk2⟩ : ∃ k, ratE (ratOk ((x.2.1.1, x.2.1.2), (x.2.2.1, x.2.2.2))) = k := ⟨_, rfl⟩
    have HK1 := Hd hk1; have HK2 := Hd hk2; have hk1' : ratE (ratOk x.1) = k1 := hk1; have hk2' : ratE (ratOk x.2) = k2 := hk2; clear hk1 hk2 s1 s2 s3 s4; generalize x.1.1.1 = p1 at *; generalize x.1.2.1 = q1 at *; generalize x.2.1.1 = p2 at *; generalize x.2.2.1 = q2 at *
    have e1 : k1 = 0 := by rw [← hk1', r1]; rfl
    subst e1
    have e2 : k2 = 0 := by rw [← hk2', r2]; rfl
    subst e2; clear hx hxy hy hok r1 r2 hk1' hk2'
    gi_wp2_with (first
     | (refine ⟨trivial, ?_⟩; gi_at_call 23; have g' := G2.out; clear g'
        refine Cn (rqcheck_any (l1 := x.2.1.2) (l2 := x.2.2.2) (M := M) (H.out.bel.le G2.out.1.bl.size) (HX.out.2.2.1.go G2.out.2) (HX.out.2.2.2.go G2.out.2)) ?_; rintro e w3 ⟨rfl, hb3⟩; rw [HK2.out]; have F3 := G2.out.1.go hb3; refine op1 F3 ?_; intros; have G3 := Hd F3
        clear hb3 F3)
     | (refine Cl 23 (rqcheck_any (l1 := x.1.1.2) (l2 := x.1.2.2) (M := M) (H.out.bel.le hF.out.bl.size) HX.out.1 HX.out.2.1) ?_
        rintro e w2 ⟨rfl, hb2⟩; rw [HK1.out]; have g0 := (hb2.cell (World.block_lt_of_cell? wr _ h4)).trans h4; have g1 := (hb2.cell (World.block_lt_of_cell? wr _ h5)).trans h5; have g2 := (hb2.cell (World.block_lt_of_cell? wr _ h6)).trans h6; have g3 := (hb2.cell (World.block_lt_of_cell? wr _ h7)).trans h7; have F2 := hF.out.go hb2; refine op1 F2 ?_; intros; have G2 := Hd2 F2 hb2
        clear hb2 F2)
     | fail)
    exact ⟨⟨k + 1, by omega, by go_num, G3⟩, by simp [intOf]; omega⟩
  · gi_wp2
    clear hk hlt
    gi_loopw [8] (fun i wr => ∃ k : Nat, k ≤ m ∧ i = .int .i64 k ∧ Hid ((l.take k).any underG = false) ∧ Hid (Fr w wr [(w.heap.size, zG)])) (fun i _ => m - (intOf i).toNat)
    case atStart => exact ⟨0, Nat.zero_le _, rfl, Hd (by simp), hF⟩
    case round =>
     obtain ⟨k, hk, rfl, ht, hF2⟩ := hrel; have hFo := hF2.out; refine op1 hFo ?_; intros; clear hFo
     by_cases hlt : k < m
     · obtain ⟨b, o, p1, q1, A1, n1, c1, B1, m1, d1, p2, q2, A2, n2, c2, B2, m2, d2, rfl, ⟨h0, h1, h2, h3⟩, ⟨h4, h5, h6, h7⟩, qlo, qhi⟩ := ((SlG.of H.out.si).go hF2.out.bl).at_ hlt
       have hok := H.out.in_k hlt; have v0 := stays_drew h0; have v1 := stays_drew h1; have v2 := stays_drew h2; have v3 := stays_drew h3; have v4 := stays_drew h4; have v5 := stays_drew h5; have v6 := stays_drew h6; have v7 := stays_drew h7; have X := Hd3 qlo.drew qhi.drew hok
       obtain ⟨cc, hcc⟩ : ∃ cc, cmpQ (regG l k).2 (regG l k).1 = cc := ⟨_, rfl⟩
       have HC := Hd hcc; clear h0 h1 h2 h3 h4 h5 h6 h7 qlo qhi hok; gi_wp2; refine region_E_np [] 16 (by kernel_rfl) (by kernel_rfl) ?_; refine E_rd 0 ?_; refine E_rd 1 ?_; refine E_rd 2 ?_; refine E_rd 3 ?_; refine E_rd 4 ?_; refine E_rd 5 ?_; refine E_rd 6 ?_; refine E_rd 7 ?_; refine E_rd 8 ?_; refine E_rd 9 ?_
       refine E_al 10 fun K hK => ?_; gi_wp2
       refine Cm (rqCmp_any (M := M) (a := (regG l k).2) (b := (regG l k).1) (H.out.bel.le (w' := wr.drew) hF2.out.bl.size) X.out.2.1.qw X.out.1.qw X.out.2.2.2.1 X.out.2.2.1.1 (X.out.2.2.2.2.fine X.out.2.2.1.2)) ?_; rintro e w5 ⟨rfl, hb5⟩; rw [HC.out]; have F5 := hF2.out.drew.go hb5; refine op1 F5 ?_; intros; have G5 := Hd F5; clear F5; refine hK _ _ ⟨?_, ?_⟩; clear hK K
       · exact Keeps.of_below hb5 []
       refine lit ?_; clear hb5; refine E_rd 11 ?_; refine E_rd 12 ?_; refine E_rd 13 ?_; refine E_rd 14 ?_; refine E_rd 15 ?_
       by_cases hc : cc < 0
       · refine E_nl 0 ?_; refine tail_nil _ ?_; simp only [npost]; gi_wp2
         have hz := G5.out.nth 0; obtain ⟨wF, hwF, ⟨t0, t1, t2, t3⟩, ⟨t4, t5, t6, t7⟩, hG, bF⟩ := fin8 (M := M) (hz 0 _ rfl) (hz 1 _ rfl) (hz 2 _ rfl) (hz 3 _ rfl) (hz 4 _ rfl) (hz 5 _ rfl) (hz 6 _ rfl) (hz 7 _ rfl) (x := zR) (qc0 _ _) (qc0 _ _) G5.out.bl (by omega); have HW := Hd (And.intro t0 (And.intro t1 (And.intro t2 (And.intro t3 (And.intro t4 (And.intro t5 (And.intro t6 (And.intro t7 (And.intro hG.gv0 bF))))))))); clear t0 t1 t2 t3 t4 t5 t6 t7 hG bF hz; gi_wp2
         try rw [hwF]
         refine ⟨rfl, .tuple #[.agg #[.bool false, .slice none 0 0, .bool false, .slice none 0 0, .bool false, .slice none 0 0, .bool false, .slice none 0 0], .int .i64 200], by simp [results, go_sem, HW.out.1, HW.out.2.1, HW.out.2.2.1, HW.out.2.2.2.1, HW.out.2.2.2.2.1, HW.out.2.2.2.2.2.1, HW.out.2.2.2.2.2.2.1, HW.out.2.2.2.2.2.2.2.1], _, by first | (rw [HE.out]; done) | (rw [HE.out]; rfl), by rw [HV.out]; exact HW.out.2.2.2.2.2.2.2.2.1, HW.out.2.2.2.2.2.2.2.2.2⟩
       · have HT := Hd (show (l.take (k + 1)).any underG = false by
          obtain ⟨y, hy⟩ : ∃ y, l[k]? = some y := ⟨_, List.getElem?_eq_getElem (by rw [H.out.li]; exact hlt)⟩
          rw [take_snoc hy, List.any_append, ht.out]; rw [regG_get hy] at HC; simp only [List.any_cons, List.any_nil, Bool.or_false, Bool.false_or]; unfold underG; rw [HC.out]
          exact decide_eq_false hc)
         refine E_nl 0 ?_; refine tail_nil _ ?_; simp only [npost]; gi_wp2; exact ⟨⟨k + 1, by omega, by go_num, HT, G5⟩, by simp [intOf]; omega⟩
     · exfalso
       have hkm : k = m := by omega
       have h1 := ht.out; rw [List.take_of_length_le (by rw [H.out.li, hkm]; exact Nat.le_refl _)] at h1; rw [HU.out] at h1; cases h1
set_option maxRecDepth 100000 in
set_option maxHeartbeats 32000000 in
theorem sout_ok {M : List Nat} {A B : Option Addr} {n c m d : Nat} {p : List InsR} {l : List Rg} {w : World} (h : OutH w M A n c B m d p l) (hu : l.any underG = false) :
 Calls Tryz.prog 12 #[.slice A n c, .slice B m d] w (OutR w M p (l.map encG)) := by
 refine wid ?_
 have hsp := h.sp.small
 have hsi := h.si.small
 have hn20 := h.len
 have hn1 := h.pos
 have k0 : IntKind.i64.wrap ((n : Int) - 1) = ((n - 1 : Nat) : Int) := by rw [IntKind.wrap_i64]; omega
 have HE := Hd (show outE p (l.map encG) = 0 by rw [h.outE, hu]; rfl)
 have HV := Hd (h.outV hu)
 have H := Hd h
 have HU := Hd hu
 clear h hu
 obtain ⟨W1, hW1, F1⟩ := nam ((Fr.nil w).a8 w.heap.size 33)
 refine op1 F1 ?_; intros
 have F := Hd F1
 clear F1
 refine ent Tryz.func12 rfl Tryz.ntmps12 ?_
 gi_wp2_with (refine Cl 35 (rcodeE_any (M := M) _ n c p (m : Int) _ (H.out.bel.le F.out.bl.size) (H.out.sp.go F.out.bl)) ?_
              rintro e w2 ⟨rfl, hb2⟩; rw [H.out.ce]; have F2 := F.out.go hb2; refine op1 F2 ?_; intros; have G2 := Hd F2
              clear hb2 F2)
 gi_loopw [7] (fun i wr => ∃ k : Nat, k ≤ m ∧ i = .int .i64 k ∧ Hid (Fr w wr [(w.heap.size, zG)])) (fun i _ => m - (intOf i).toNat)
 case atStart => exact ⟨0, Nat.zero_le _, rfl, G2.out⟩
 case round =>
  obtain ⟨k, hk, rfl, hF⟩ := hrel; have hFo := hF.out; refine op1 hFo ?_; intros; clear hFo
  by_cases hlt : k < m
  · obtain ⟨y, hy⟩ : ∃ y, l[k]? = some y := ⟨_, List.getElem?_eq_getElem (by rw [H.out.li]; exact hlt)⟩
    obtain ⟨x, hxy⟩ : ∃ x, encG y = x := ⟨_, rfl⟩
    have hx : (l.map encG)[k]? = some x := by rw [List.getElem?_map, hy, ← hxy]; rfl
    have hok := mem_ends (List.mem_of_getElem? hy)
    have r1 : ratOk x.1 = true := by rw [← hxy]; exact ratOk_enc (H.out.ins _ hok.1).1
    have r2 : ratOk x.2 = true := by rw [← hxy]; exact ratOk_enc (H.out.ins _ hok.2).1
    obtain ⟨b, o, A1, n1, c1, A2, n2, c2, A3, n3, c3, A4, n4, c4, rfl, ⟨h0, h1, h2, h3⟩, ⟨h4, h5, h6, h7⟩, ⟨s1, s2⟩, s3, s4⟩ := (H.out.si.go hF.out.bl).rngat hx; have HX := Hd4 s1 s2 s3 s4
    obtain ⟨k1, hk1⟩ : ∃ k, ratE (ratOk ((x.1.1.1, x.1.1.2), (x.1.2.1, x.1.2.2))) = k := ⟨_, rfl⟩
    obtain ⟨k2, hk2⟩ : ∃ k, ratE (ratOk ((x.2.1.1, x.2.1.2), (x.2.2.1, x.2.2.2))) = k := ⟨_, rfl⟩
    have HK1 := Hd hk1; have HK2 := Hd hk2; have hk1' : ratE (ratOk x.1) = k1 := hk1; have hk2' : ratE (ratOk x.2) = k2 := hk2; clear hk1 hk2 s1 s2 s3 s4; generalize x.1.1.1 = p1 at *; generalize x.1.2.1 = q1 at *; generalize x.2.1.1 = p2 at *; generalize x.2.2.1 = q2 at *
    have e1 : k1 = 0 := by rw [← hk1', r1]; rfl
    subst e1
    have e2 : k2 = 0 := by rw [← hk2', r2]; rfl
    subst e2; clear hx hxy hy hok r1 r2 hk1' hk2'
    gi_wp2_with (first
     | (refine ⟨trivial, ?_⟩; gi_at_call 23; have g' := G2.out; clear g'
        refine Cn (rqcheck_any (l1 := x.2.1.2) (l2 := x.2.2.2) (M := M) (H.out.bel.le G2.out.1.bl.size) (HX.out.2.2.1.go G2.out.2) (HX.out.2.2.2.go G2.out.2)) ?_; rintro e w3 ⟨rfl, hb3⟩; rw [HK2.out]; have F3 := G2.out.1.go hb3; refine op1 F3 ?_; intros; have G3 := Hd F3
        clear hb3 F3)
     | (refine Cl 23 (rqcheck_any (l1 := x.1.1.2) (l2 := x.1.2.2) (M := M) (H.out.bel.le hF.out.bl.size) HX.out.1 HX.out.2.1) ?_
        rintro e w2 ⟨rfl, hb2⟩; rw [HK1.out]; have g0 := (hb2.cell (World.block_lt_of_cell? wr _ h4)).trans h4; have g1 := (hb2.cell (World.block_lt_of_cell? wr _ h5)).trans h5; have g2 := (hb2.cell (World.block_lt_of_cell? wr _ h6)).trans h6; have g3 := (hb2.cell (World.block_lt_of_cell? wr _ h7)).trans h7; have F2 := hF.out.go hb2; refine op1 F2 ?_; intros; have G2 := Hd2 F2 hb2
        clear hb2 F2)
     | fail)
    exact ⟨⟨k + 1, by omega, by go_num, G3⟩, by simp [intOf]; omega⟩
  · gi_wp2
    clear hk hlt
    gi_loopw [8] (fun i wr => ∃ k : Nat, k ≤ m ∧ i = .int .i64 k ∧ Hid (Fr w wr [(w.heap.size, zG)])) (fun i _ => m - (intOf i).toNat)
    case atStart => exact ⟨0, Nat.zero_le _, rfl, hF⟩
    case round =>
     obtain ⟨k, hk, rfl, hF2⟩ := hrel; have hFo := hF2.out; refine op1 hFo ?_; intros; clear hFo
     by_cases hlt : k < m
     · obtain ⟨b, o, p1, q1, A1, n1, c1, B1, m1, d1, p2, q2, A2, n2, c2, B2, m2, d2, rfl, ⟨h0, h1, h2, h3⟩, ⟨h4, h5, h6, h7⟩, qlo, qhi⟩ := ((SlG.of H.out.si).go hF2.out.bl).at_ hlt
       have hok := H.out.in_k hlt; have v0 := stays_drew h0; have v1 := stays_drew h1; have v2 := stays_drew h2; have v3 := stays_drew h3; have v4 := stays_drew h4; have v5 := stays_drew h5; have v6 := stays_drew h6; have v7 := stays_drew h7; have X := Hd3 qlo.drew qhi.drew hok
       obtain ⟨cc, hcc⟩ : ∃ cc, cmpQ (regG l k).2 (regG l k).1 = cc := ⟨_, rfl⟩
       have HC := Hd hcc; clear h0 h1 h2 h3 h4 h5 h6 h7 qlo qhi hok; gi_wp2; refine region_E_np [] 16 (by kernel_rfl) (by kernel_rfl) ?_; refine E_rd 0 ?_; refine E_rd 1 ?_; refine E_rd 2 ?_; refine E_rd 3 ?_; refine E_rd 4 ?_; refine E_rd 5 ?_; refine E_rd 6 ?_; refine E_rd 7 ?_; refine E_rd 8 ?_; refine E_rd 9 ?_
       refine E_al 10 fun K hK => ?_; gi_wp2
       refine Cm (rqCmp_any (M := M) (a := (regG l k).2) (b := (regG l k).1) (H.out.bel.le (w' := wr.drew) hF2.out.bl.size) X.out.2.1.qw X.out.1.qw X.out.2.2.2.1 X.out.2.2.1.1 (X.out.2.2.2.2.fine X.out.2.2.1.2)) ?_; rintro e w5 ⟨rfl, hb5⟩; rw [HC.out]; have F5 := hF2.out.drew.go hb5; refine op1 F5 ?_; intros; have G5 := Hd F5; clear F5; refine hK _ _ ⟨?_, ?_⟩; clear hK K
       · exact Keeps.of_below hb5 []
       refine lit ?_; clear hb5; refine E_rd 11 ?_; refine E_rd 12 ?_; refine E_rd 13 ?_; refine E_rd 14 ?_; refine E_rd 15 ?_
       have hc : ¬ cc < 0 := fun hc => by
        obtain ⟨y, hy⟩ : ∃ y, l[k]? = some y := ⟨_, List.getElem?_eq_getElem (by rw [H.out.li]; exact hlt)⟩
        have h1 := List.any_eq_false.1 HU.out y (List.mem_of_getElem? hy); rw [regG_get hy] at HC; apply h1; unfold underG; rw [HC.out]; exact decide_eq_true hc
       refine E_nl 0 ?_; refine tail_nil _ ?_; simp only [npost]; gi_wp2; exact ⟨⟨k + 1, by omega, by go_num, G5⟩, by simp [intOf]; omega⟩
     · gi_wp2
       clear hk hlt
       gi_loopw [11, 12] (fun v0 i wr => ∃ (j : Nat) (v : Value), v = v0 ∧ j ≤ n ∧ i = .int .i64 j ∧ Hid (Fr w wr [(w.heap.size, zG)]) ∧ Hid (OwnG wr (w.heap.size :: M) (w.heap.size + 1) v j (runsG l [] (p.take j)))) (fun _ i _ => n - (intOf i).toNat)
       case atStart => exact ⟨0, _, rfl, Nat.zero_le _, rfl, hF2.out.go (by exact bel), Hd (OwnS.lit _ _ (by have := hF2.out.ltn 0; omega))⟩
       case round =>
        obtain ⟨j, v, rfl, hj, rfl, hF3, hO⟩ := hrel; obtain ⟨Av, cv, rfl, hsq⟩ := hO.out.slG (by omega); have hfr := hF3.out; refine op1 hfr ?_; intros; clear hfr
        by_cases hlt : j < n
        · obtain ⟨x, hx⟩ : ∃ x, p[j]? = some x := ⟨_, List.getElem?_eq_getElem (by rw [H.out.lp]; exact hlt)⟩
          obtain ⟨op, xa, xb, xc, xd, r⟩ := x; have hrk := H.out.right_k hx; obtain ⟨o, rfl, ho1, ho8⟩ := right_op hrk.1
          obtain ⟨M0, hM0⟩ : ∃ M0, ownL (.slice Av j cv) ++ (w.heap.size :: M) = M0 := ⟨_, rfl⟩
          have hMe : (ownL (.slice Av j cv) ++ [w.heap.size]) ++ M = M0 := by rw [← hM0]; simp
          have hown : ∀ q, q ∈ ownL (.slice Av j cv) → w.heap.size + 1 ≤ q ∧ q < wr.heap.size := fun q hq => hO.out.lt (mem_ownL.1 hq)
          have hge : ∀ q, q ∈ ownL (.slice Av j cv) ++ [w.heap.size] → w.heap.size ≤ q := fun q hq => by
           rcases List.mem_append.1 hq with hq | hq
           · have := (hown q hq).1; omega
           · simp at hq; omega
          have hwW : w.heap.size < wr.heap.size := hF3.out.ltn 0; have hMw : Bel (w.heap.size :: M) wr := (H.out.bel.le hF3.out.bl.size).cons hwW
          have hbel : Bel M0 wr := fun q hq => by
           rw [← hM0] at hq
           rcases List.mem_append.1 hq with hq | hq
           · exact (hown q hq).2
           · exact hMw q hq
          have hsp0 : Sl InsR wr M0 A n c p := by rw [← hMe]; exact (H.out.sp.moreL _ hge).go hF3.out.bl
          have hsi0 : SlG wr M0 B m d l := by rw [← hMe]; exact ((SlG.of H.out.si).moreL _ hge).go hF3.out.bl
          rw [hM0] at hsq; obtain ⟨b, o1, A1, n1, c1, A2, n2, c2, rfl, ⟨g0, g1, g2, g3, g4⟩, ⟨h5, h6, h7, h8⟩, hi64, s1, s2⟩ := hsp0.insat hx
          obtain ⟨p5, hp5⟩ : ∃ p, r.1.1 = p := ⟨_, rfl⟩
          obtain ⟨q5, hq5⟩ : ∃ q, r.2.1 = q := ⟨_, rfl⟩
          rw [hp5] at h5; rw [hq5] at h7; have XAH := Hd4 hbel hsi0 hsq (show XC wr M0 r p5 q5 A1 n1 c1 A2 n2 c2 from ⟨hp5, hq5, s1, s2⟩); have HR := Hd3 hrk.1 hrk.2 (H.out.all hj); have HXJ := Hd5 hx hM0 hown hwW hMw; clear hx hrk hMe hown hge hbel hsp0 hsi0 hsq hp5 hq5 hM0 s1 s2 hi64 hwW hMw
          gi_wp2_with (first
           | (gi_at_builtin; refine wpListIn_plain rfl fun K hK' => ?_; refine wpIn_append _ _ _ rfl rfl rfl RUN.out (hK' _ _ ?_); clear hK' K)
           | (refine Cl 37 (sstep_any (o := o) XAH.out.1 XAH.out.2.1 XAH.out.2.2.1 XAH.out.2.2.2 HR.out.1 HR.out.2.1 HR.out.2.2) ?_
              rintro e w2 ⟨u2, rfl, ⟨p8, q8, A8, n8, c8, B8, m8, d8, p9, q9, A9, n9, c9, B9, m9, d9, rfl, qlo, qhi⟩, hb2⟩
              obtain ⟨W3, hW3⟩ : ∃ W3 : World, w2.alloc (.cells #[.bool p8, .slice A8 n8 c8, .bool q8, .slice B8 m8 d8, .bool p9, .slice A9 n9 c9, .bool q9, .slice B9 m9 d9] 33) = W3 := ⟨_, rfl⟩
              have hb23 : Below w2.heap.size w2 W3 := by rw [← hW3]; exact bel
              have hb3 : Below wr.heap.size wr W3 := hb2.trans (hb23.mono hb2.size)
              have R3 : RowV W3 w2.heap.size [.bool p8, .slice A8 n8 c8, .bool q8, .slice B8 m8 d8, .bool p9, .slice A9 n9 c9, .bool q9, .slice B9 m9 d9] 33 := by rw [← hW3]; exact heap_alloc_new w2 _
              have v0 := R3.cell (k := 0) rfl; have v1 := R3.cell (k := 1) rfl; have v2 := R3.cell (k := 2) rfl; have v3 := R3.cell (k := 3) rfl; have v4 := R3.cell (k := 4) rfl; have v5 := R3.cell (k := 5) rfl; have v6 := R3.cell (k := 6) rfl; have v7 := R3.cell (k := 7) rfl; have own3 := hO.out.go hb3; rw [← HXJ.out.2.1] at qlo qhi; obtain ⟨v', wA, r1, r2, r3, -, -⟩ := app_rng own3 (by have := HXJ.out.2.2.2.1; have := hb3.size; omega) (HXJ.out.2.2.2.2.le hb3.size) (qlo.go hb23) (qhi.go hb23) (by omega)
              have FA : Fr w wA [(w.heap.size, zG)] := (hF3.out.go hb3).grown r3 (fun q hq => by
               have h1 := (HXJ.out.2.2.1 q (mem_ownL.2 hq)).1; refine ⟨by omega, fun b vs hm => ?_⟩
               simp at hm
               omega)
              have RUN := Hd r1; have HF := Hd (show Fr w wA [(w.heap.size, zG)] ∧ OwnG wA (w.heap.size :: M) (w.heap.size + 1) v' (j + 1) (runsG l [] (p.take (j + 1))) from ⟨FA, by rw [H.out.step HXJ.out.1]; exact r2⟩)
              clear hb2 hb23 hb3 R3 own3 r1 r2 r3 FA qlo qhi)
           | fail)
          exact ⟨⟨j + 1, _, rfl, by omega, by go_num, HF.out.1, HF.out.2⟩, by simp [intOf]; omega⟩
        · have hjn : j = n := by omega
          clear hj hlt; subst hjn
          obtain ⟨kk, hkk⟩ : ∃ kk, j - 1 = kk := ⟨_, rfl⟩
          have hklt : kk < j := by omega
          rw [hkk] at k0; have hres := H.out.res; rw [hkk] at hres; obtain ⟨b9, o9, p8, q8, A8, n8, c8, B8, m8, d8, p9, q9, A9, n9, c9, B9, m9, d9, rfl, ⟨i0, i1, i2, i3⟩, ⟨i4, i5, i6, i7⟩, qlo, qhi⟩ := hsq.at_ hklt; rw [hres] at qlo qhi; have hz := hF3.out.nth 0
          have hls : ∀ q, q ∈ w.heap.size :: M → q ∈ ownL (.slice (some ⟨b9, o9, none⟩) j cv) ++ (w.heap.size :: M) := fun q hq => List.mem_append_right _ hq
          obtain ⟨wF, hwF, ⟨t0, t1, t2, t3⟩, ⟨t4, t5, t6, t7⟩, hG, bF⟩ := fin8 (M := M) (hz 0 _ rfl) (hz 1 _ rfl) (hz 2 _ rfl) (hz 3 _ rfl) (hz 4 _ rfl) (hz 5 _ rfl) (hz 6 _ rfl) (hz 7 _ rfl) (x := outG p l) (qlo.less hls) (qhi.less hls) hF3.out.bl (by omega); have HW := Hd (And.intro t0 (And.intro t1 (And.intro t2 (And.intro t3 (And.intro t4 (And.intro t5 (And.intro t6 (And.intro t7 (And.intro hG.gv bF))))))))); clear hz hls qlo qhi hsq hres hkk t0 t1 t2 t3 t4 t5 t6 t7 hG bF; gi_wp2
          try rw [hwF]
          exact ⟨rfl, .tuple #[.agg #[.bool p8, .slice A8 n8 c8, .bool q8, .slice B8 m8 d8, .bool p9, .slice A9 n9 c9, .bool q9, .slice B9 m9 d9], .int .i64 0], by simp [results, go_sem, HW.out.1, HW.out.2.1, HW.out.2.2.1, HW.out.2.2.2.1, HW.out.2.2.2.2.1, HW.out.2.2.2.2.2.1, HW.out.2.2.2.2.2.2.1, HW.out.2.2.2.2.2.2.2.1], _, by first | (rw [HE.out]; done) | (rw [HE.out]; rfl), by rw [HV.out]; exact HW.out.2.2.2.2.2.2.2.2.1, HW.out.2.2.2.2.2.2.2.2.2⟩
theorem sout_any {M : List Nat} {A B : Option Addr} {n c m d : Nat} {p : List InsR} {ins : List RngR} {w : World} (hM : Bel M w) (hp : Sl InsR w M A n c p) (hi : Sl RngR w M B m d ins) (hf : fewPB p = true) (hg : fewGs ins = true) :
 Calls Tryz.prog 12 #[.slice A n c, .slice B m d] w (OutR w M p ins) := by
 by_cases hc : codeE p m = 0
 · cases hr : ins.all rngOk
   · exact sout_rat hM hp hi hc hr
   · have e := enc_decGs hr
     have hfp := fewP_of hf hc
     have h : OutH w M A n c B m d p (ins.map decG) := ⟨hM, hp, by rw [e]; exact hi, hc, hfp.2.1, by rw [← hp.len]; exact hfp.1, regs_gs hg hr⟩
     rw [← e]; cases hu : (ins.map decG).any underG
     · exact sout_ok h hu
     · exact sout_under h hu
 · exact sout_bad hM hp hi hc
end Go.Proofs.YtboapndkopabiaaGreat
