/- Lemmas and walks (Ref12 Ref13 Cod5). No statement is proved here. -/
import Derived.Test.YtboapndkopabiaaGreatM21
set_option linter.unusedVariables false
set_option linter.unusedSimpArgs false
namespace Go.Proofs.YtboapndkopabiaaGreat
section
open Go.RowKit Go.Shelf
attribute [local go_sem] Oper.semAt_some
def fewPB (p : List InsR) : Bool := !(decide (20 < p.length) && decide (p.length ≤ 4096)) && !decide (5000 < p.length) && p.all fun x => shortQ x.2.2.2.2.2
def fewQs (l : List RatR) : Bool := decide (l.length ≤ 30) && (l.take 30).all shortQ
def fewGs (l : List RngR) : Bool := decide (l.length ≤ 15) && (l.take 15).all fun x => shortQ x.1 && shortQ x.2
theorem all_bad {α : Type} {P : α → Bool} {l : List α} {k : Nat} {x : α} (h : l[k]? = some x) (hx : P x = false) : l.all P = false := by
 rw [List.all_eq_false]
 exact ⟨x, List.mem_of_getElem? h, by simp [hx]⟩
theorem all_bad_take {α : Type} {P : α → Bool} {l : List α} {k m : Nat} {x : α} (h : l[k]? = some x) (hk : k < m) (hx : P x = false) : (l.take m).all P = false :=
 all_bad (k := k) (by rw [List.getElem?_take_of_lt hk]; exact h) hx
theorem all_more {α : Type} {P : α → Bool} {l : List α} {k : Nat} {x : α} (h : (l.take k).all P = true) (hk : l[k]? = some x) (hx : P x = true) : (l.take (k + 1)).all P = true := by
 rw [take_snoc hk, List.all_append, h]; simp [hx]
set_option maxHeartbeats 2000000 in
theorem fewQs_any {M : List Nat} (A : Option Addr) (n c : Nat) (l : List RatR) (w : World) (hx : Sl RatR w M A n c l) :
 Calls Tryz.prog 14 #[.slice A n c] w fun e w' => e = .returned (.bool (fewQs l)) ∧ Below w.heap.size w w' := by
 refine wid ?_
 have hs := hx.small
 have H := Hd2 hx hx.len
 clear hx
 refine ent Tryz.func14 rfl Tryz.ntmps14 ?_
 gi_wp2
 gi_loopw [3] (fun i wr => ∃ k : Nat, k ≤ n ∧ k ≤ 30 ∧ i = .int .i64 k ∧ Hid ((l.take k).all shortQ = true) ∧ Below w.heap.size w wr) (fun i _ => n - (intOf i).toNat)
 case atStart => exact ⟨0, Nat.zero_le _, by omega, rfl, Hd (by simp), Below.refl _ _⟩
 case round =>
  obtain ⟨k, hk, hk2, rfl, ht, hb⟩ := hrel
  by_cases hlt : k < n
  · by_cases h30 : k < 30
    · obtain ⟨x, hx⟩ : ∃ x, l[k]? = some x := ⟨_, List.getElem?_eq_getElem (by rw [H.out.2]; exact hlt)⟩
      obtain ⟨b, o, A1, n1, c1, A2, n2, c2, rfl, h0, h1, h2, h3, s1, s2⟩ := (H.out.1.go hb).ratat hx; have HX := Hd2 (show RV wr M (.agg #[.bool x.1.1, .slice A1 n1 c1, .bool x.2.1, .slice A2 n2 c2]) x from ⟨_, _, _, _, _, _, rfl, s1, s2⟩) hx; clear s1 s2 hx; generalize x.1.1 = p at *; generalize x.2.1 = q at *; cases hq : shortQ x
      · have HQ := Hd hq
        have HE := Hd (show fewQs l = false by unfold fewQs; rw [all_bad_take HX.out.2 h30 hq]; simp); clear hq
        gi_wp2_with (refine Cl 15 (short_q HX.out.1) ?_; rintro e w2 ⟨rfl, hb2⟩; rw [HQ.out]; have G2 := Hd (hb.trans (hb2.mono hb.size)); clear hb2)
        go_ret; exact ⟨by first | (rw [HE.out]; done) | (rw [HE.out]; rfl), G2.out⟩
      · have HQ := Hd hq
        have HT := Hd (all_more ht.out HX.out.2 hq); clear hq
        gi_wp2_with (refine Cl 15 (short_q HX.out.1) ?_; rintro e w2 ⟨rfl, hb2⟩; rw [HQ.out]; have G2 := Hd (hb.trans (hb2.mono hb.size)); clear hb2)
        exact ⟨⟨k + 1, by omega, by omega, by go_num, HT, G2.out⟩, by simp [intOf]; omega⟩
    · have hn : ¬ n ≤ 30 := by omega
      have HE := Hd (show fewQs l = false by unfold fewQs; rw [H.out.2, decide_eq_false hn]; rfl); gi_wp2; go_ret; exact ⟨by first | (rw [HE.out]; done) | (rw [HE.out]; rfl) | (rw [HE.out]; simp; omega), hb⟩
  · obtain rfl : k = n := by omega
    have HE := Hd (show fewQs l = true by
     unfold fewQs; have := ht.out; rw [List.take_of_length_le (by rw [H.out.2]; exact Nat.le_refl _)] at this
     rw [H.out.2, decide_eq_true hk2, List.take_of_length_le (by rw [H.out.2]; exact hk2), this]; rfl)
    gi_wp2; go_ret; exact ⟨by first | (rw [HE.out]; done) | (rw [HE.out]; rfl) | (rw [HE.out]; simp; omega), hb⟩
set_option maxHeartbeats 2000000 in
theorem fewGs_any {M : List Nat} (A : Option Addr) (n c : Nat) (l : List RngR) (w : World) (hx : Sl RngR w M A n c l) :
 Calls Tryz.prog 10 #[.slice A n c] w fun e w' => e = .returned (.bool (fewGs l)) ∧ Below w.heap.size w w' := by
 refine wid ?_
 have hs := hx.small
 have H := Hd2 hx hx.len
 clear hx
 refine ent Tryz.func10 rfl Tryz.ntmps10 ?_
 gi_wp2
 gi_loopw [3] (fun i wr => ∃ k : Nat, k ≤ n ∧ k ≤ 15 ∧ i = .int .i64 k ∧ Hid ((l.take k).all (fun x => shortQ x.1 && shortQ x.2) = true) ∧ Below w.heap.size w wr) (fun i _ => n - (intOf i).toNat)
 case atStart => exact ⟨0, Nat.zero_le _, by omega, rfl, Hd (by simp), Below.refl _ _⟩
 case round =>
  obtain ⟨k, hk, hk2, rfl, ht, hb⟩ := hrel
  by_cases hlt : k < n
  · by_cases h30 : k < 15
    · obtain ⟨x, hx⟩ : ∃ x, l[k]? = some x := ⟨_, List.getElem?_eq_getElem (by rw [H.out.2]; exact hlt)⟩
      obtain ⟨b, o, A1, n1, c1, A2, n2, c2, A3, n3, c3, A4, n4, c4, rfl, ⟨h0, h1, h2, h3⟩, ⟨h4, h5, h6, h7⟩, ⟨s1, s2⟩, s3, s4⟩ := (H.out.1.go hb).rngat hx; have HX := Hd3 (show RV wr M (.agg #[.bool x.1.1.1, .slice A1 n1 c1, .bool x.1.2.1, .slice A2 n2 c2]) x.1 from ⟨_, _, _, _, _, _, rfl, s1, s2⟩) (show RV wr M (.agg #[.bool x.2.1.1, .slice A3 n3 c3, .bool x.2.2.1, .slice A4 n4 c4]) x.2 from ⟨_, _, _, _, _, _, rfl, s3, s4⟩) hx; clear s1 s2 s3 s4 hx; generalize x.1.1.1 = p at *; generalize x.1.2.1 = q at *; generalize x.2.1.1 = r at *; generalize x.2.2.1 = t at *; cases hq1 : shortQ x.1
      · have HQ1 := Hd hq1
        have HE := Hd (show fewGs l = false by unfold fewGs; rw [all_bad_take HX.out.2.2 h30 (by simp [hq1])]; simp); clear hq1
        gi_wp2_with (first
         | (refine Cl 15 (short_q HX.out.1) ?_
            rintro e w2 ⟨rfl, hb2⟩; rw [HQ1.out]; have g0 := (hb2.cell (World.block_lt_of_cell? wr _ h4)).trans h4; have g1 := (hb2.cell (World.block_lt_of_cell? wr _ h5)).trans h5; have g2 := (hb2.cell (World.block_lt_of_cell? wr _ h6)).trans h6; have g3 := (hb2.cell (World.block_lt_of_cell? wr _ h7)).trans h7; have G2 := Hd hb2
            clear hb2)
         | (refine ⟨trivial, ?_⟩))
        go_ret; exact ⟨by first | (rw [HE.out]; done) | (rw [HE.out]; rfl), hb.trans (G2.out.mono hb.size)⟩
      · cases hq2 : shortQ x.2
        · have HQ1 := Hd hq1
          have HQ2 := Hd hq2; have HE := Hd (show fewGs l = false by unfold fewGs; rw [all_bad_take HX.out.2.2 h30 (by simp [hq2])]; simp); clear hq1 hq2
          gi_wp2_with (first
           | (refine ⟨trivial, ?_⟩; gi_at_call 15; have g' := G2.out; clear g'
              refine Cn (short_q (HX.out.2.1.go G2.out)) ?_; rintro e w3 ⟨rfl, hb3⟩; rw [HQ2.out]; have G3 := Hd (hb.trans ((G2.out.trans (hb3.mono G2.out.size)).mono hb.size))
              clear hb3)
           | (refine Cl 15 (short_q HX.out.1) ?_
              rintro e w2 ⟨rfl, hb2⟩; rw [HQ1.out]; have g0 := (hb2.cell (World.block_lt_of_cell? wr _ h4)).trans h4; have g1 := (hb2.cell (World.block_lt_of_cell? wr _ h5)).trans h5; have g2 := (hb2.cell (World.block_lt_of_cell? wr _ h6)).trans h6; have g3 := (hb2.cell (World.block_lt_of_cell? wr _ h7)).trans h7; have G2 := Hd hb2
              clear hb2)
           | fail)
          go_ret; exact ⟨by first | (rw [HE.out]; done) | (rw [HE.out]; rfl), G3.out⟩
        · have HQ1 := Hd hq1
          have HQ2 := Hd hq2; have HT := Hd (all_more (P := fun x => shortQ x.1 && shortQ x.2) ht.out HX.out.2.2 (by simp [hq1, hq2])); clear hq1 hq2
          gi_wp2_with (first
           | (refine ⟨trivial, ?_⟩; gi_at_call 15; have g' := G2.out; clear g'
              refine Cn (short_q (HX.out.2.1.go G2.out)) ?_; rintro e w3 ⟨rfl, hb3⟩; rw [HQ2.out]; have G3 := Hd (hb.trans ((G2.out.trans (hb3.mono G2.out.size)).mono hb.size))
              clear hb3)
           | (refine Cl 15 (short_q HX.out.1) ?_
              rintro e w2 ⟨rfl, hb2⟩; rw [HQ1.out]; have g0 := (hb2.cell (World.block_lt_of_cell? wr _ h4)).trans h4; have g1 := (hb2.cell (World.block_lt_of_cell? wr _ h5)).trans h5; have g2 := (hb2.cell (World.block_lt_of_cell? wr _ h6)).trans h6; have g3 := (hb2.cell (World.block_lt_of_cell? wr _ h7)).trans h7; have G2 := Hd hb2
              clear hb2)
           | fail)
          exact ⟨⟨k + 1, by omega, by omega, by go_num, HT, G3.out⟩, by simp [intOf]; omega⟩
    · have hn : ¬ n ≤ 15 := by omega
      have HE := Hd (show fewGs l = false by unfold fewGs; rw [H.out.2, decide_eq_false hn]; rfl); gi_wp2; go_ret; exact ⟨by first | (rw [HE.out]; done) | (rw [HE.out]; rfl) | (rw [HE.out]; simp; omega), hb⟩
  · obtain rfl : k = n := by omega
    have HE := Hd (show fewGs l = true by
     unfold fewGs; have := ht.out; rw [List.take_of_length_le (by rw [H.out.2]; exact Nat.le_refl _)] at this
     rw [H.out.2, decide_eq_true hk2, List.take_of_length_le (by rw [H.out.2]; exact hk2), this]; rfl)
    gi_wp2; go_ret; exact ⟨by first | (rw [HE.out]; done) | (rw [HE.out]; rfl) | (rw [HE.out]; simp; omega), hb⟩
set_option maxHeartbeats 2000000 in
theorem fewP_any {M : List Nat} (A : Option Addr) (n c : Nat) (l : List InsR) (w : World) (hx : Sl InsR w M A n c l) :
 Calls Tryz.prog 9 #[.slice A n c] w fun e w' => e = .returned (.bool (fewPB l)) ∧ Below w.heap.size w w' := by
 refine wid ?_
 have hs := hx.small
 have H := Hd2 hx hx.len
 have HD := Hd (show fewPB l = (!(decide (20 < n) && decide (n ≤ 4096)) && !decide (5000 < n) && l.all fun x => shortQ x.2.2.2.2.2) by unfold fewPB; rw [hx.len])
 clear hx
 by_cases h20 : 20 < n
 · by_cases h40 : n ≤ 4096
   · have HE := Hd (show fewPB l = false by rw [HD.out, decide_eq_true h20, decide_eq_true h40]; rfl)
     refine ent Tryz.func9 rfl Tryz.ntmps9 ?_; gi_wp2; go_ret; exact ⟨by first | (rw [HE.out]; done) | (rw [HE.out]; rfl), Below.refl _ _⟩
   · by_cases h50 : 5000 < n
     · have HE := Hd (show fewPB l = false by rw [HD.out, decide_eq_true h50]; simp)
       refine ent Tryz.func9 rfl Tryz.ntmps9 ?_; gi_wp2; go_ret; exact ⟨by first | (rw [HE.out]; done) | (rw [HE.out]; rfl), Below.refl _ _⟩
     · have HE := Hd (show fewPB l = l.all fun x => shortQ x.2.2.2.2.2 by rw [HD.out, decide_eq_false h40, decide_eq_false h50]; simp)
       refine ent Tryz.func9 rfl Tryz.ntmps9 ?_; gi_wp2
       gi_loopw [3] (fun i wr => ∃ k : Nat, k ≤ n ∧ i = .int .i64 k ∧ Hid ((l.take k).all (fun x => shortQ x.2.2.2.2.2) = true) ∧ Below w.heap.size w wr) (fun i _ => n - (intOf i).toNat)
       case atStart => exact ⟨0, Nat.zero_le _, rfl, Hd (by simp), Below.refl _ _⟩
       case round =>
        obtain ⟨k, hk, rfl, ht, hb⟩ := hrel
        by_cases hlt : k < n
        · obtain ⟨x, hx⟩ : ∃ x, l[k]? = some x := ⟨_, List.getElem?_eq_getElem (by rw [H.out.2]; exact hlt)⟩
          obtain ⟨op, xa, xb, xc, xd, r⟩ := x; obtain ⟨b, o, A1, n1, c1, A2, n2, c2, rfl, -, ⟨h0, h1, h2, h3⟩, -, s1, s2⟩ := (H.out.1.go hb).insat hx; have HX := Hd2 (show RV wr M (.agg #[.bool r.1.1, .slice A1 n1 c1, .bool r.2.1, .slice A2 n2 c2]) r from ⟨_, _, _, _, _, _, rfl, s1, s2⟩) hx; clear s1 s2 hx; generalize r.1.1 = p at *; generalize r.2.1 = q at *; cases hq : shortQ r
          · have HQ := Hd hq
            have HF := Hd (HE.out.trans (all_bad (P := fun x : InsR => shortQ x.2.2.2.2.2) HX.out.2 hq)); clear hq
            gi_wp2_with (refine Cl 15 (short_q HX.out.1) ?_; rintro e w2 ⟨rfl, hb2⟩; rw [HQ.out]; have G2 := Hd (hb.trans (hb2.mono hb.size)); clear hb2)
            go_ret; exact ⟨by first | (rw [HF.out]; done) | (rw [HF.out]; rfl), G2.out⟩
          · have HQ := Hd hq
            have HT := Hd (all_more (P := fun x : InsR => shortQ x.2.2.2.2.2) ht.out HX.out.2 hq); clear hq
            gi_wp2_with (refine Cl 15 (short_q HX.out.1) ?_; rintro e w2 ⟨rfl, hb2⟩; rw [HQ.out]; have G2 := Hd (hb.trans (hb2.mono hb.size)); clear hb2)
            exact ⟨⟨k + 1, by omega, by go_num, HT, G2.out⟩, by simp [intOf]; omega⟩
        · obtain rfl : k = n := by omega
          have HF := Hd (show fewPB l = true by
           have := ht.out; rw [List.take_of_length_le (by rw [H.out.2]; exact Nat.le_refl _)] at this
           rw [HE.out, this])
          gi_wp2; go_ret; exact ⟨by first | (rw [HF.out]; done) | (rw [HF.out]; rfl), hb⟩
 · have h50 : ¬ 5000 < n := by omega
   have HE := Hd (show fewPB l = l.all fun x => shortQ x.2.2.2.2.2 by rw [HD.out, decide_eq_false h20, decide_eq_false h50]; simp); refine ent Tryz.func9 rfl Tryz.ntmps9 ?_; gi_wp2
   gi_loopw [3] (fun i wr => ∃ k : Nat, k ≤ n ∧ i = .int .i64 k ∧ Hid ((l.take k).all (fun x => shortQ x.2.2.2.2.2) = true) ∧ Below w.heap.size w wr) (fun i _ => n - (intOf i).toNat)
   case atStart => exact ⟨0, Nat.zero_le _, rfl, Hd (by simp), Below.refl _ _⟩
   case round =>
    obtain ⟨k, hk, rfl, ht, hb⟩ := hrel
    by_cases hlt : k < n
    · obtain ⟨x, hx⟩ : ∃ x, l[k]? = some x := ⟨_, List.getElem?_eq_getElem (by rw [H.out.2]; exact hlt)⟩
      obtain ⟨op, xa, xb, xc, xd, r⟩ := x; obtain ⟨b, o, A1, n1, c1, A2, n2, c2, rfl, -, ⟨h0, h1, h2, h3⟩, -, s1, s2⟩ := (H.out.1.go hb).insat hx; have HX := Hd2 (show RV wr M (.agg #[.bool r.1.1, .slice A1 n1 c1, .bool r.2.1, .slice A2 n2 c2]) r from ⟨_, _, _, _, _, _, rfl, s1, s2⟩) hx; clear s1 s2 hx; generalize r.1.1 = p at *; generalize r.2.1 = q at *; cases hq : shortQ r
      · have HQ := Hd hq
        have HF := Hd (HE.out.trans (all_bad (P := fun x : InsR => shortQ x.2.2.2.2.2) HX.out.2 hq)); clear hq
        gi_wp2_with (refine Cl 15 (short_q HX.out.1) ?_; rintro e w2 ⟨rfl, hb2⟩; rw [HQ.out]; have G2 := Hd (hb.trans (hb2.mono hb.size)); clear hb2)
        go_ret; exact ⟨by first | (rw [HF.out]; done) | (rw [HF.out]; rfl), G2.out⟩
      · have HQ := Hd hq
        have HT := Hd (all_more (P := fun x : InsR => shortQ x.2.2.2.2.2) ht.out HX.out.2 hq); clear hq
        gi_wp2_with (refine Cl 15 (short_q HX.out.1) ?_; rintro e w2 ⟨rfl, hb2⟩; rw [HQ.out]; have G2 := Hd (hb.trans (hb2.mono hb.size)); clear hb2)
        exact ⟨⟨k + 1, by omega, by go_num, HT, G2.out⟩, by simp [intOf]; omega⟩
    · obtain rfl : k = n := by omega
      have HF := Hd (show fewPB l = true by
       have := ht.out; rw [List.take_of_length_le (by rw [H.out.2]; exact Nat.le_refl _)] at this
       rw [HE.out, this])
      gi_wp2; go_ret; exact ⟨by first | (rw [HF.out]; done) | (rw [HF.out]; rfl), hb⟩
end
section
open Go.RowKit Go.Shelf
attribute [local go_sem] Oper.semAt_some
theorem undef_no {b : Bool} (h : some undef = some (Value.bool b)) : False := by simp [undef] at h
theorem below_any (n most : Int) (w : World) : Calls Tryz.prog 112 #[.int .i64 n, .int .i64 most] w fun e w' => e = .returned (.bool (belowB n most)) ∧ w' = w := by
 refine wid ?_
 by_cases h1 : 0 ≤ n
 · by_cases h2 : n < most
   · have HE := Hd (show belowB n most = true from decide_eq_true ⟨h1, h2⟩)
     refine ent Tryz.func112 rfl Tryz.ntmps112 ?_; gi_wp2; go_ret; exact ⟨by first | (rw [HE.out]; done) | (rw [HE.out]; rfl), rfl⟩
   · have HE := Hd (show belowB n most = false from decide_eq_false (fun h => h2 h.2))
     refine ent Tryz.func112 rfl Tryz.ntmps112 ?_; gi_wp2; go_ret; exact ⟨by first | (rw [HE.out]; done) | (rw [HE.out]; rfl) | (rw [HE.out]; simp; omega), rfl⟩
 · have HE := Hd (show belowB n most = false from decide_eq_false (fun h => h1 h.1))
   refine ent Tryz.func112 rfl Tryz.ntmps112 ?_; gi_wp2; go_ret; exact ⟨by first | (rw [HE.out]; done) | (rw [HE.out]; rfl), rfl⟩
theorem zeroR_eq (r : RatR) : zeroR r = decide (r = ((false, []), (false, []))) := by
 unfold zeroR
 by_cases h : r = ((false, []), (false, []))
 · rw [h]; rfl
 · rw [decide_eq_false h]; simp [h]
set_option maxHeartbeats 1000000 in
theorem rzeroR_any {M : List Nat} {v : Value} {r : RatR} {w : World} (hx : RV w M v r) : Calls Tryz.prog 113 #[v] w fun e w' => e = .returned (.bool (zeroR r)) ∧ Below w.heap.size w w' := by
 refine wid ?_
 obtain ⟨A, n, c, B, m, d, rfl, a1, a2⟩ := hx
 obtain ⟨⟨p, l⟩, ⟨q, k⟩⟩ := r
 simp only at a1 a2 ⊢
 obtain ⟨V, hV⟩ : ∃ V, zeroR ((p, l), (q, k)) = V := ⟨_, rfl⟩
 rw [hV]
 have HV := Hd ((zeroR_eq _).symm.trans hV)
 obtain ⟨W1, hW1, F1⟩ := nam ((Fr.nil w).a w.heap.size [.bool p, .slice A n c, .bool q, .slice B m d] 31)
 refine op1 F1 ?_; intros
 have X := Hd2 (show RV W1 M (.agg #[.bool p, .slice A n c, .bool q, .slice B m d]) ((p, l), (q, k)) from ⟨_, _, _, _, _, _, rfl, a1.go F1.bl, a2.go F1.bl⟩) (show RV W1 M (.agg #[.bool false, .slice none 0 0, .bool false, .slice none 0 0]) ((false, []), (false, [])) from ⟨_, _, _, _, _, _, rfl, Sl.nil0, Sl.nil0⟩)
 have F := Hd F1
 clear a1 a2 F1 hV
 refine ent Tryz.func113 rfl Tryz.ntmps113 ?_
 gi_wp2_with (refine Cl 129 (equalQ_any X.out.1 X.out.2) ?_; rintro e w2 ⟨rfl, hb2⟩; rw [HV.out]; have G2 := Hd (F.out.go hb2); clear hb2)
 go_ret
 exact ⟨rfl, G2.out.bl⟩
theorem walk13 {p : Prop} (h : p := by
 refine ent Tryz.func73 rfl Tryz.ntmps73 ?_
 gi_wp2_with (first
  | (refine Cl 112 (below_any _ _ _) ?_; rintro e wb ⟨rfl, rfl⟩)
  | (refine Cl 113 (rzeroR_any X.out.1) ?_; rintro e w2 ⟨rfl, hb2⟩; have G2 := Hd (F.out.go hb2); clear hb2)
  | (refine Cl 23 (rqcheck_any (M := M) (l1 := r.1.2) (l2 := r.2.2) X.out.2.2.2 X.out.2.1 X.out.2.2.1) ?_
     rintro e w2 ⟨rfl, hb2⟩; rw [HK.out]; have F2 := F.out.go hb2; refine op1 F2 ?_; intros; have G2 := Hd F2
     clear hb2 F2)
  | (refine ⟨trivial, ?_⟩))
 all_goals first
  | exact (undef_no (by assumption)).elim
  | (go_ret; exact ⟨by first | (rw [HE.out]; done) | (rw [HE.out]; rfl) | (rw [HE.out]; simp; assumption), by first | exact G2.out.bl | exact F.out.bl⟩)) : p := h
set_option maxRecDepth 100000 in
set_option maxHeartbeats 8000000 in
theorem rright_any {M : List Nat} {op a b c d i m : Int} {r : RatR} {A B : Option Addr} {n1 c1 n2 c2 : Nat} {p q : Bool} {w : World} (hM : Bel M w) (hp : r.1.1 = p) (hq : r.2.1 = q) (h1 : Sl Int w M A n1 c1 r.1.2) (h2 : Sl Int w M B n2 c2 r.2.2) :
 Calls Tryz.prog 73 #[.agg #[.int .i64 op, .int .i64 a, .int .i64 b, .int .i64 c, .int .i64 d, .bool p, .slice A n1 c1, .bool q, .slice B n2 c2], .int .i64 i, .int .i64 m] w fun e w' => e = .returned (.bool (rightI i m (op, a, b, c, d, r))) ∧ Below w.heap.size w w' := by
 refine wid ?_
 obtain ⟨W1, hW1, F1⟩ := nam ((Fr.nil w).a w.heap.size [.int .i64 op, .int .i64 a, .int .i64 b, .int .i64 c, .int .i64 d, .bool p, .slice A n1 c1, .bool q, .slice B n2 c2] 55)
 refine op1 F1 ?_; intros
 have X := Hd4 (show RV W1 M (.agg #[.bool p, .slice A n1 c1, .bool q, .slice B n2 c2]) r from ⟨A, n1, c1, B, n2, c2, by rw [hp, hq], h1.go F1.bl, h2.go F1.bl⟩) (h1.go F1.bl) (h2.go F1.bl) (hM.le F1.bl.size)
 have F := Hd F1
 have HR := Hd (show ((p, r.1.2), (q, r.2.2)) = r by rw [← hp, ← hq])
 clear h1 h2 hM F1 hp hq
 by_cases ho1 : op = 1
 · subst ho1
   cases hr : ratOk r
   · have HE := Hd (show rightI i m (1, a, b, c, d, r) = false by simp [rightI, hr])
     have HK := Hd (show ratE (ratOk ((p, r.1.2), (q, r.2.2))) = 100 by rw [HR.out, hr]; rfl); exact walk13
   · skip
     have HK := Hd (show ratE (ratOk ((p, r.1.2), (q, r.2.2))) = 0 by rw [HR.out, hr]; rfl)
     by_cases ha : a = 0
     · subst ha
       by_cases hb : b = 0
       · subst hb
         by_cases hc : c = 0
         · subst hc
           by_cases hd : d = 0
           · subst hd
             have HE := Hd (show rightI i m (1, 0, 0, 0, 0, r) = true by simp [rightI, hr]); exact walk13
           · have HE := Hd (show rightI i m (1, 0, 0, 0, d, r) = false by simp [rightI, hr, hd])
             exact walk13
         · have HE := Hd (show rightI i m (1, 0, 0, c, d, r) = false by simp [rightI, hr, hc])
           exact walk13
       · have HE := Hd (show rightI i m (1, 0, b, c, d, r) = false by simp [rightI, hr, hb])
         exact walk13
     · have HE := Hd (show rightI i m (1, a, b, c, d, r) = false by simp [rightI, hr, ha])
       exact walk13
 by_cases ho2 : op = 2
 · subst ho2
   cases ha : belowB a m
   · have HE := Hd (show rightI i m (2, a, b, c, d, r) = false by simp [rightI, ha])
     exact walk13
   · skip
     by_cases hb : b = 0
     · subst hb
       by_cases hc : c = 0
       · subst hc
         by_cases hd : d = 0
         · subst hd
           cases hz : zeroR r
           · have HE := Hd (show rightI i m (2, a, 0, 0, 0, r) = false by simp [rightI, ha, hz])
             exact walk13
           · skip
             have HE := Hd (show rightI i m (2, a, 0, 0, 0, r) = true by simp [rightI, ha, hz]); exact walk13
         · have HE := Hd (show rightI i m (2, a, 0, 0, d, r) = false by simp [rightI, ha, hd])
           exact walk13
       · have HE := Hd (show rightI i m (2, a, 0, c, d, r) = false by simp [rightI, ha, hc])
         exact walk13
     · have HE := Hd (show rightI i m (2, a, b, c, d, r) = false by simp [rightI, ha, hb])
       exact walk13
 by_cases ho3 : op = 3
 · subst ho3
   cases ha : belowB a i
   · have HE := Hd (show rightI i m (3, a, b, c, d, r) = false by simp [rightI, ha])
     exact walk13
   · skip
     cases hb : belowB b i
     · have HE := Hd (show rightI i m (3, a, b, c, d, r) = false by simp [rightI, ha, hb])
       exact walk13
     · skip
       by_cases hc : c = 0
       · subst hc
         by_cases hd : d = 0
         · subst hd
           cases hz : zeroR r
           · have HE := Hd (show rightI i m (3, a, b, 0, 0, r) = false by simp [rightI, ha, hb, hz])
             exact walk13
           · skip
             have HE := Hd (show rightI i m (3, a, b, 0, 0, r) = true by simp [rightI, ha, hb, hz]); exact walk13
         · have HE := Hd (show rightI i m (3, a, b, 0, d, r) = false by simp [rightI, ha, hb, hd])
           exact walk13
       · have HE := Hd (show rightI i m (3, a, b, c, d, r) = false by simp [rightI, ha, hb, hc])
         exact walk13
 by_cases ho4 : op = 4
 · subst ho4
   cases ha : belowB a i
   · have HE := Hd (show rightI i m (4, a, b, c, d, r) = false by simp [rightI, ha])
     exact walk13
   · skip
     cases hb : belowB b i
     · have HE := Hd (show rightI i m (4, a, b, c, d, r) = false by simp [rightI, ha, hb])
       exact walk13
     · skip
       by_cases hc : c = 0
       · subst hc
         by_cases hd : d = 0
         · subst hd
           cases hz : zeroR r
           · have HE := Hd (show rightI i m (4, a, b, 0, 0, r) = false by simp [rightI, ha, hb, hz])
             exact walk13
           · skip
             have HE := Hd (show rightI i m (4, a, b, 0, 0, r) = true by simp [rightI, ha, hb, hz]); exact walk13
         · have HE := Hd (show rightI i m (4, a, b, 0, d, r) = false by simp [rightI, ha, hb, hd])
           exact walk13
       · have HE := Hd (show rightI i m (4, a, b, c, d, r) = false by simp [rightI, ha, hb, hc])
         exact walk13
 by_cases ho6 : op = 6
 · subst ho6
   cases ha : belowB a i
   · have HE := Hd (show rightI i m (6, a, b, c, d, r) = false by simp [rightI, ha])
     exact walk13
   · skip
     cases hb : belowB b i
     · have HE := Hd (show rightI i m (6, a, b, c, d, r) = false by simp [rightI, ha, hb])
       exact walk13
     · skip
       by_cases hc : c = 0
       · subst hc
         by_cases hd : d = 0
         · subst hd
           cases hz : zeroR r
           · have HE := Hd (show rightI i m (6, a, b, 0, 0, r) = false by simp [rightI, ha, hb, hz])
             exact walk13
           · skip
             have HE := Hd (show rightI i m (6, a, b, 0, 0, r) = true by simp [rightI, ha, hb, hz]); exact walk13
         · have HE := Hd (show rightI i m (6, a, b, 0, d, r) = false by simp [rightI, ha, hb, hd])
           exact walk13
       · have HE := Hd (show rightI i m (6, a, b, c, d, r) = false by simp [rightI, ha, hb, hc])
         exact walk13
 by_cases ho7 : op = 7
 · subst ho7
   cases ha : belowB a i
   · have HE := Hd (show rightI i m (7, a, b, c, d, r) = false by simp [rightI, ha])
     exact walk13
   · skip
     cases hb : belowB b i
     · have HE := Hd (show rightI i m (7, a, b, c, d, r) = false by simp [rightI, ha, hb])
       exact walk13
     · skip
       by_cases hc : c = 0
       · subst hc
         by_cases hd : d = 0
         · subst hd
           cases hz : zeroR r
           · have HE := Hd (show rightI i m (7, a, b, 0, 0, r) = false by simp [rightI, ha, hb, hz])
             exact walk13
           · skip
             have HE := Hd (show rightI i m (7, a, b, 0, 0, r) = true by simp [rightI, ha, hb, hz]); exact walk13
         · have HE := Hd (show rightI i m (7, a, b, 0, d, r) = false by simp [rightI, ha, hb, hd])
           exact walk13
       · have HE := Hd (show rightI i m (7, a, b, c, d, r) = false by simp [rightI, ha, hb, hc])
         exact walk13
 by_cases ho5 : op = 5
 · subst ho5
   cases ha : belowB a i
   · have HE := Hd (show rightI i m (5, a, b, c, d, r) = false by simp [rightI, ha])
     exact walk13
   · skip
     by_cases hb : b = 0
     · subst hb
       by_cases hc : c = 0
       · subst hc
         by_cases hd : d = 0
         · subst hd
           cases hr : ratOk r
           · have HE := Hd (show rightI i m (5, a, 0, 0, 0, r) = false by simp [rightI, ha, hr])
             have HK := Hd (show ratE (ratOk ((p, r.1.2), (q, r.2.2))) = 100 by rw [HR.out, hr]; rfl); exact walk13
           · skip
             have HK := Hd (show ratE (ratOk ((p, r.1.2), (q, r.2.2))) = 0 by rw [HR.out, hr]; rfl); have HE := Hd (show rightI i m (5, a, 0, 0, 0, r) = true by simp [rightI, ha, hr]); exact walk13
         · have HE := Hd (show rightI i m (5, a, 0, 0, d, r) = false by simp [rightI, ha, hd])
           exact walk13
       · have HE := Hd (show rightI i m (5, a, 0, c, d, r) = false by simp [rightI, ha, hc])
         exact walk13
     · have HE := Hd (show rightI i m (5, a, b, c, d, r) = false by simp [rightI, ha, hb])
       exact walk13
 by_cases ho8 : op = 8
 · subst ho8
   cases ha : belowB a i
   · have HE := Hd (show rightI i m (8, a, b, c, d, r) = false by simp [rightI, ha])
     exact walk13
   · skip
     cases hb : belowB b i
     · have HE := Hd (show rightI i m (8, a, b, c, d, r) = false by simp [rightI, ha, hb])
       exact walk13
     · skip
       cases hc : belowB c i
       · have HE := Hd (show rightI i m (8, a, b, c, d, r) = false by simp [rightI, ha, hb, hc])
         exact walk13
       · skip
         cases hd : belowB d i
         · have HE := Hd (show rightI i m (8, a, b, c, d, r) = false by simp [rightI, ha, hb, hc, hd])
           exact walk13
         · skip
           cases hz : zeroR r
           · have HE := Hd (show rightI i m (8, a, b, c, d, r) = false by simp [rightI, ha, hb, hc, hd, hz])
             exact walk13
           · skip
             have HE := Hd (show rightI i m (8, a, b, c, d, r) = true by simp [rightI, ha, hb, hc, hd, hz]); exact walk13
 have HE := Hd (show rightI i m (op, a, b, c, d, r) = false by simp [rightI, ho1, ho2, ho3, ho4, ho5, ho6, ho7, ho8])
 exact walk13
end
section
open Go.RowKit Go.Shelf
attribute [local go_sem] Oper.semAt_some
structure SlQ (w : World) (M : List Nat) (A : Option Addr) (n c : Nat) (l : List Rt) : Prop where
 len : l.length = n
 small : n ≤ 140737488355328
 at_ : ∀ {k : Nat}, k < n → ∃ b o p q A1 n1 c1 A2 n2 c2, A = some ⟨b, o, none⟩ ∧ (w.cell? ⟨b, o + k * 4, none⟩ = some (.bool p) ∧ w.cell? ⟨b, o + k * 4 + 1, none⟩ = some (.slice A1 n1 c1) ∧ w.cell? ⟨b, o + k * 4 + 2, none⟩ = some (.bool q) ∧ w.cell? ⟨b, o + k * 4 + 3, none⟩ = some (.slice A2 n2 c2)) ∧ QC w M (regQ l k) p q A1 n1 c1 A2 n2 c2
theorem SlQ.of {w : World} {M : List Nat} {A : Option Addr} {n c : Nat} {l : List Rt} (h : Sl RatR w M A n c (l.map encQ)) : SlQ w M A n c l := by
 have hn := h.len
 simp at hn
 refine ⟨hn, h.small, fun {k} hk => ?_⟩
 obtain ⟨x, hx⟩ : ∃ x, l[k]? = some x := ⟨_, List.getElem?_eq_getElem (by omega)⟩
 have he : regQ l k = x := by simp [regQ, hx]
 obtain ⟨b, o, A1, n1, c1, A2, n2, c2, rfl, h0, h1, h2, h3, s1, s2⟩ := h.ratat (k := k) (x := encQ x) (by rw [List.getElem?_map, hx]; rfl)
 rw [he]
 exact ⟨b, o, _, _, A1, n1, c1, A2, n2, c2, rfl, ⟨h0, h1, h2, h3⟩, ⟨rfl, s1⟩, ⟨rfl, s2⟩⟩
theorem SlQ.go {w w' : World} {M : List Nat} {A : Option Addr} {n c : Nat} {l : List Rt} (h : SlQ w M A n c l) (hb : Below w.heap.size w w') : SlQ w' M A n c l := ⟨h.len, h.small, fun {k} hk => by
 obtain ⟨b, o, p, q, A1, n1, c1, A2, n2, c2, rfl, ⟨h0, h1, h2, h3⟩, qc⟩ := h.at_ hk
 have hl : b < w.heap.size := World.block_lt_of_cell? w _ h0
 exact ⟨b, o, p, q, A1, n1, c1, A2, n2, c2, rfl, ⟨(hb.cell (p := ⟨b, _, none⟩) hl).trans h0, (hb.cell (p := ⟨b, _, none⟩) hl).trans h1, (hb.cell (p := ⟨b, _, none⟩) hl).trans h2, (hb.cell (p := ⟨b, _, none⟩) hl).trans h3⟩, qc.go hb⟩⟩
theorem SlQ.more {w : World} {M : List Nat} {A : Option Addr} {n c b : Nat} {l : List Rt} (h : SlQ w M A n c l) (hb : w.heap.size ≤ b) : SlQ w (b :: M) A n c l := ⟨h.len, h.small, fun {k} hk => by
 obtain ⟨b', o, p, q, A1, n1, c1, A2, n2, c2, rfl, hc, qc⟩ := h.at_ hk
 exact ⟨b', o, p, q, A1, n1, c1, A2, n2, c2, rfl, hc, qc.more hb⟩⟩
theorem SlQ.drew {w : World} {M : List Nat} {A : Option Addr} {n c : Nat} {l : List Rt} (h : SlQ w M A n c l) : SlQ w.drew M A n c l := ⟨h.len, h.small, fun {k} hk => by
 obtain ⟨b', o, p, q, A1, n1, c1, A2, n2, c2, rfl, hc, qc⟩ := h.at_ hk
 exact ⟨b', o, p, q, A1, n1, c1, A2, n2, c2, rfl, hc, ⟨qc.num.drew, qc.den.drew⟩⟩⟩
structure Mach (w : World) (M : List Nat) (mb : Nat) (A : Option Addr) (n c : Nat) (B : Option Addr) (m d : Nat) (ins regs : List Rt) : Prop where
 c0 : w.cell? ⟨mb, 0, none⟩ = some (.slice A n c)
 c1 : w.cell? ⟨mb, 1, none⟩ = some (.slice B m d)
 si : SlQ w M A n c ins
 sr : SlQ w M B m d regs
theorem Mach.lt {w : World} {M : List Nat} {mb : Nat} {A B : Option Addr} {n c m d : Nat} {ins regs : List Rt} (h : Mach w M mb A n c B m d ins regs) : mb < w.heap.size := World.block_lt_of_cell? w _ h.c0
theorem Mach.go {w w' : World} {M : List Nat} {mb : Nat} {A B : Option Addr} {n c m d : Nat} {ins regs : List Rt} (h : Mach w M mb A n c B m d ins regs) (hb : Below w.heap.size w w') : Mach w' M mb A n c B m d ins regs :=
 ⟨(hb.cell (p := ⟨mb, 0, none⟩) h.lt).trans h.c0, (hb.cell (p := ⟨mb, 1, none⟩) h.lt).trans h.c1, h.si.go hb, h.sr.go hb⟩
theorem Mach.drew {w : World} {M : List Nat} {mb : Nat} {A B : Option Addr} {n c m d : Nat} {ins regs : List Rt} (h : Mach w M mb A n c B m d ins regs) : Mach w.drew M mb A n c B m d ins regs :=
 ⟨h.c0, h.c1, h.si.drew, h.sr.drew⟩
theorem Mach.more {w : World} {M : List Nat} {mb k : Nat} {A B : Option Addr} {n c m d : Nat} {ins regs : List Rt} (h : Mach w M mb A n c B m d ins regs) (hk : w.heap.size ≤ k) : Mach w (k :: M) mb A n c B m d ins regs := ⟨h.c0, h.c1, h.si.more hk, h.sr.more hk⟩
set_option maxRecDepth 20000 in
set_option maxHeartbeats 8000000 in
theorem cpick_any {M : List Nat} {mb : Nat} {A B : Option Addr} {n c m d : Nat} {ins regs : List Rt} {a b y z : Nat} {w : World} (hM : Bel M w) (hm : Mach w M mb A n c B m d ins regs) (ha : a < m) (hb : b < m) (hy : y < m) (hz : z < m) (oa : (regQ regs a).ok) (ob : (regQ regs b).ok) (hf : Fine (regQ regs a) (regQ regs b)) :
 Calls Tryz.prog 90 #[.pointer (some ⟨mb, 0, none⟩), .int .i64 (a : Int), .int .i64 (b : Int), .int .i64 (y : Int), .int .i64 (z : Int)] w (QR w M (if cmpQ (regQ regs a) (regQ regs b) ≤ 0 then regQ regs y else regQ regs z)) := by
 refine wid ?_
 obtain ⟨W1, hW1, F1⟩ := nam ((Fr.nil w).a4 w.heap.size 31)
 have FO := F1
 refine op1 FO ?_; intros
 have hm1 := (hm.more (k := w.heap.size) (Nat.le_refl _)).go F1.bl
 have hM1 : Bel (w.heap.size :: M) W1 := (hM.le F1.bl.size).cons (F1.ltn 0)
 have hsm := hm1.sr.small
 obtain ⟨b1, o1, p1, q1, A1, n1, c1, B1, m1, d1, rfl, ⟨h0, h1, h2, h3⟩, qc1⟩ := hm1.sr.at_ ha
 obtain ⟨b2, o2, p2, q2, A2, n2, c2, B2, m2, d2, e0, ⟨k0, k1, k2, k3⟩, qc2⟩ := hm1.sr.at_ hb
 obtain ⟨rfl, rfl⟩ : b1 = b2 ∧ o1 = o2 := by simpa using e0
 have v0 := stays_drew h0
 have v1 := stays_drew h1
 have v2 := stays_drew h2
 have v3 := stays_drew h3
 have v4 := stays_drew k0
 have v5 := stays_drew k1
 have v6 := stays_drew k2
 have v7 := stays_drew k3
 have v8 := stays_drew hm1.c1
 have X := Hd7 qc1 qc2 hm1 hM1 oa ob hf
 have F := Hd F1
 obtain ⟨cc, hcc⟩ : ∃ cc, cmpQ (regQ regs a) (regQ regs b) = cc := ⟨_, rfl⟩
 rw [hcc]
 have HC := Hd hcc
 clear hm hm1 hM hM1 qc1 qc2 oa ob hf F1 FO e0 h0 h1 h2 h3 k0 k1 k2 k3 hcc
 by_cases hc : cc ≤ 0
 all_goals (
 refine ent Tryz.func90 rfl Tryz.ntmps90 ?_
 gi_wp2
 refine region_E_np [] 20 (by kernel_rfl) (by kernel_rfl) ?_
 refine E_rd 0 ?_; refine E_rd 1 ?_; refine E_rd 2 ?_; refine E_rd 3 ?_; refine E_rd 4 ?_; refine E_rd 5 ?_; refine E_rd 6 ?_; refine E_rd 7 ?_; refine E_rd 8 ?_; refine E_rd 9 ?_; refine E_rd 10 ?_; refine E_rd 11 ?_; refine E_rd 12 ?_; refine E_rd 13 ?_
 refine E_al 14 fun K hK => ?_; gi_wp2
 refine Cm (qCmp_any (M := w.heap.size :: M) (a := regQ regs a) (b := regQ regs b) (X.out.2.2.2.1.le (w' := W1.drew) (Nat.le_refl _)) (show QW W1.drew _ _ _ from (show QC W1.drew _ _ _ _ _ _ _ _ _ _ from ⟨X.out.1.num.drew, X.out.1.den.drew⟩).qw) (show QW W1.drew _ _ _ from (show QC W1.drew _ _ _ _ _ _ _ _ _ _ from ⟨X.out.2.1.num.drew, X.out.2.1.den.drew⟩).qw) X.out.2.2.2.2.1 X.out.2.2.2.2.2.1 X.out.2.2.2.2.2.2) ?_
 rintro e w5 ⟨rfl, hb5⟩
 rw [HC.out]
 have F5 := F.out.drew.go hb5
 refine op1 F5 ?_; intros
 have M5 := X.out.2.2.1.drew.go hb5
 have mc1 := M5.c1
 have G5 := Hd2 F5 M5
 clear F5 M5
 refine hK _ _ ⟨?_, ?_⟩; clear hK K
 · exact Keeps.of_below hb5 []
 refine lit ?_
 clear hb5
 refine E_rd 15 ?_; refine E_rd 16 ?_; refine E_rd 17 ?_; refine E_rd 18 ?_; refine E_rd 19 ?_
 obtain ⟨b8, o8, p8, q8, A8, n8, c8, B8, m8, d8, e8, ⟨i0, i1, i2, i3⟩, qc8⟩ := G5.out.2.sr.at_ hy
 obtain ⟨b9, o9, p9, q9, A9, n9, c9, B9, m9, d9, e9, ⟨j0, j1, j2, j3⟩, qc9⟩ := G5.out.2.sr.at_ hz
 obtain ⟨rfl, rfl⟩ : b1 = b8 ∧ o1 = o8 := by simpa using e8
 obtain ⟨rfl, rfl⟩ : b1 = b9 ∧ o1 = o9 := by simpa using e9
 have HQ := Hd2 qc8 qc9
 clear qc8 qc9 e8 e9
 refine E_nl 0 ?_; refine tail_nil _ ?_; simp only [npost]; gi_wp2
 have hx := G5.out.1.nth 0
 first
  | (obtain ⟨wF, hwF, t0, t1, t2, t3, hQ, bF⟩ := fin4 (M := M) (hx 0 _ rfl) (hx 1 _ rfl) (hx 2 _ rfl) (hx 3 _ rfl) (x := regQ regs y) HQ.out.1.num.sl HQ.out.1.den.sl HQ.out.1.num.neg HQ.out.1.den.neg G5.out.1.bl (Nat.le_refl _)
     rw [hwF]
     refine ⟨rfl, .tuple #[.agg #[.bool p8, .slice A8 n8 c8, .bool q8, .slice B8 m8 d8], .int .i64 0], by simp [results, go_sem, t0, t1, t2, t3], _, rfl, by (first | exact hQ | (rw [if_pos hc]; exact hQ)), bF⟩)
  | (obtain ⟨wF, hwF, t0, t1, t2, t3, hQ, bF⟩ := fin4 (M := M) (hx 0 _ rfl) (hx 1 _ rfl) (hx 2 _ rfl) (hx 3 _ rfl) (x := regQ regs z) HQ.out.2.num.sl HQ.out.2.den.sl HQ.out.2.num.neg HQ.out.2.den.neg G5.out.1.bl (Nat.le_refl _)
     rw [hwF]
     refine ⟨rfl, .tuple #[.agg #[.bool p9, .slice A9 n9 c9, .bool q9, .slice B9 m9 d9], .int .i64 0], by simp [results, go_sem, t0, t1, t2, t3], _, rfl, by (first | exact hQ | (rw [if_neg (by omega)]; exact hQ)), bF⟩))
end
end Go.Proofs.YtboapndkopabiaaGreat
