/- Lemmas and walks (Rat4 Rat5 Rat6 Rat7 Ref1 Few1). No statement is proved here. -/
import Derived.Test.YtboapndkopabiaaGreatM13
set_option linter.unusedVariables false
set_option linter.unusedSimpArgs false
namespace Go.Proofs.YtboapndkopabiaaGreat
section
open Go.RowKit Go.Shelf
attribute [local go_sem] Oper.semAt_some
structure Bx (w W : World) (q1 q2 : Bool) (v1 v2 : Value) : Prop where
 a0 : W.cell? ⟨w.heap.size, 0, none⟩ = some (.bool q1)
 a1 : W.cell? ⟨w.heap.size, 1, none⟩ = some v1
 a2 : W.cell? ⟨w.heap.size, 2, none⟩ = some (.bool q2)
 a3 : W.cell? ⟨w.heap.size, 3, none⟩ = some v2
 bl : Below w.heap.size w W
 sz : w.heap.size + 1 ≤ W.heap.size
theorem Bx.go {w W W' : World} {q1 q2 : Bool} {v1 v2 : Value} (h : Bx w W q1 q2 v1 v2) (hb : Below W.heap.size W W') : Bx w W' q1 q2 v1 v2 := by
 have hs := h.sz
 have c : ∀ (o : Nat) (u : Value), W.cell? ⟨w.heap.size, o, none⟩ = some u → W'.cell? ⟨w.heap.size, o, none⟩ = some u := fun o u hu => (hb.cell (p := ⟨w.heap.size, o, none⟩) (show w.heap.size < _ by omega)).trans hu
 exact ⟨c _ _ h.a0, c _ _ h.a1, c _ _ h.a2, c _ _ h.a3, h.bl.trans (hb.mono h.bl.size), by have := hb.size; omega⟩
theorem Bx.start (w : World) (q1 q2 : Bool) (v1 v2 : Value) : Bx w (w.alloc (.cells #[.bool q1, v1, .bool q2, v2] 31)) q1 q2 v1 v2 :=
 ⟨by simp [go_sem], by simp [go_sem], by simp [go_sem], by simp [go_sem], by exact bel, by simp⟩
def ratE (b : Bool) : Int := if b then 0 else 100
theorem one_dig {g : Nat} {A : Option Addr} {n c : Nat} {M : List Nat} {w : World} (h : Sl Int w M A n c (ints (dig g))) (h1 : n = 1) : ∃ (b o d : Nat), A = some ⟨b, o, none⟩ ∧ w.cell? ⟨b, o, none⟩ = some (.int .i64 (d : Int)) ∧ d = g := by
 obtain ⟨b, o, d, rfl, hc, -, hd, -⟩ := h.digd (good_dig g) (k := 0) (by omega)
 have hl := h.dlen
 rw [h1] at hl
 refine ⟨b, o, d, rfl, hc, ?_⟩
 have e : dig g = [d] := by
  match hg : dig g, hl, hd with
  | [x], _, hd => exact congrArg (fun y => [y]) (Option.some.inj hd)
 rw [← val_dig g, e]
 simp [val]
set_option maxHeartbeats 2000000 in
theorem qcheck_any {M : List Nat} {A B : Option Addr} {n c m d : Nat} {p q : Bool} {l1 l2 : List Int} {w : World} (hM : Bel M w) (hx : Sl Int w M A n c l1) (hy : Sl Int w M B m d l2) :
 Calls Tryz.prog 32 #[.agg #[.bool p, .slice A n c, .bool q, .slice B m d]] w fun e w' => e = .returned (.int .i64 (ratE (ratOk ((p, l1), (q, l2))))) ∧ Below w.heap.size w w' := by
 refine wid ?_
 obtain ⟨W1, hW1⟩ : ∃ W1 : World, w.alloc (.cells #[.bool p, .slice A n c, .bool q, .slice B m d] 31) = W1 := ⟨_, rfl⟩
 have F1 : Bx w W1 p q (.slice A n c) (.slice B m d) := by rw [← hW1]; exact Bx.start w _ _ _ _
 have F := Hd F1
 have e0 := F1.a0
 have e1 := F1.a1
 have e2 := F1.a2
 have e3 := F1.a3
 have X := Hd3 hx hy hM
 clear hx hy hM F1
 by_cases hk1 : natOk (p, l1) = true
 · have HK1 := Hd (show okE (natOk (p, l1)) = 0 by rw [hk1]; rfl)
   by_cases hk2 : natOk (q, l2) = true
   · have HK2 := Hd (show okE (natOk (q, l2)) = 0 by rw [hk2]; rfl)
     obtain ⟨z1, ez1, fz1⟩ := (natOk_iff _).1 hk1; obtain ⟨z2, ez2, fz2⟩ := (natOk_iff _).1 hk2; have ep : zneg z1 = p := (congrArg Prod.fst ez1).symm; have eq : zneg z2 = q := (congrArg Prod.fst ez2).symm; have el1 : ints (zmag z1) = l1 := (congrArg Prod.snd ez1).symm; have el2 : ints (zmag z2) = l2 := (congrArg Prod.snd ez2).symm
     have hd1 : decB (p, l1) = z1 := by rw [ez1, dec_enc]
     have hd2 : decB (q, l2) = z2 := by rw [ez2, dec_enc]
     have hgf := gcd_fits fz1 fz2; have HG := Hd2 (limI_ok hgf) (limZ_ok hgf); have HFZ := Hd2 fz1 fz2; have HE := Hd4 ep eq el1 el2; have HD := Hd2 hd1 hd2
     have hrat : ratOk ((p, l1), (q, l2)) = (decide (0 < z2) && decide (Int.gcd z1 z2 = 1)) := by simp [ratOk, hk1, hk2, hd1, hd2]
     have HRT := Hd hrat; clear hrat fz1 fz2 hgf ez1 ez2 ep eq el1 el2 hd1 hd2
     by_cases hp : 0 < z2
     · have HP := Hd (show decide (0 < z2) = true from decide_eq_true hp)
       have HL0 := Hd (show zmag (Int.gcd z1 z2 : Int) = dig (Int.gcd z1 z2) by simp [zmag])
       by_cases hg1 : Int.gcd z1 z2 = 1
       · have HR := Hd (show ratE (ratOk ((p, l1), (q, l2))) = 0 by rw [HRT.out, HP.out, hg1]; rfl)
         have HL := Hd (show (zmag (Int.gcd z1 z2 : Int)).length = 1 by rw [HL0.out, hg1, dig_pos (by omega), show 1 / BB = 0 from rfl, dig_zero]; rfl); have HG1 := Hd hg1; clear hg1; refine ent Tryz.func32 rfl Tryz.ntmps32 ?_
         gi_wp2_with (first
          | (refine Cl 56 (positive_any (z := z2) (M := M) ⟨B, m, d, by rw [HE.out.2.1], by rw [HE.out.2.2.2]; exact ((X.out.2.1.go F.out.bl).go G2.out.2).go G3.out.2⟩) ?_; rintro e w4 ⟨rfl, hb4⟩; rw [HP.out]; have F4 := G3.out.1.go hb4; have o0 := F4.a0; have o1 := F4.a1; have o2 := F4.a2; have o3 := F4.a3; have G4 := Hd2 F4 hb4; clear F4 hb4)
          | (refine ⟨trivial, ?_⟩; gi_at_call 55; have g := G2.out; clear g; refine Cn (ncheck_any B m d q l2 _ ((X.out.2.1.go F.out.bl).go G2.out.2)) ?_; rintro e w3 ⟨rfl, hb3⟩; rw [HK2.out]; have F3 := G2.out.1.go hb3; have y0 := F3.a0; have y1 := F3.a1; have y2 := F3.a2; have y3 := F3.a3; have G3 := Hd2 F3 hb3; clear hb3 F3)
          | (refine Cl 55 (ncheck_any A n c p l1 _ (X.out.1.go F.out.bl)) ?_; rintro e w2 ⟨rfl, hb2⟩; rw [HK1.out]; have F2 := F.out.go hb2; have u0 := F2.a0; have u1 := F2.a1; have u2 := F2.a2; have u3 := F2.a3; have G2 := Hd2 F2 hb2; clear F2 hb2)
          | (refine Cl 57 (nGcd_any (a := z1) (b := z2) (fun k hk => Nat.lt_of_lt_of_le (X.out.2.2 k hk) G4.out.1.bl.size) ⟨A, n, c, by rw [HE.out.1], by rw [HE.out.2.2.1]; exact X.out.1.go G4.out.1.bl⟩ ⟨B, m, d, by rw [HE.out.2.1], by rw [HE.out.2.2.2]; exact X.out.2.1.go G4.out.1.bl⟩ HFZ.out.1 HFZ.out.2) ?_
             rintro e w5 ⟨u5, rfl, hz5, hb5⟩; rw [HG.out.1]; rw [HG.out.2] at hz5; obtain ⟨Ag, ng, cg, rfl, hs5⟩ := hz5; rw [show zneg (Int.gcd z1 z2 : Int) = false from decide_eq_false (by omega)]
             have hng : ng = 1 := by rw [← hs5.dlen]; exact HL.out
             obtain ⟨bg, og, dg, rfl, hcg, hdg⟩ := one_dig (g := Int.gcd z1 z2) (by have h := hs5; rw [HL0.out] at h; exact h) hng; subst hng; have hcg6 : (w5.alloc (.cells #[.bool false, .slice (some ⟨bg, og, none⟩) 1 cg] 29)).cell? ⟨bg, og, none⟩ = some (.int .i64 (dg : Int)) := (((Below.refl w5.heap.size w5).alloc (Nat.le_refl _) _).cell (World.block_lt_of_cell? w5 _ hcg)).trans hcg
             obtain rfl : dg = 1 := hdg.trans HG1.out
             clear hdg hs5; have G5 := Hd (G4.out.1.go hb5)
             clear hb5))
         go_ret; exact ⟨by rw [HR.out]; rfl, G5.out.bl.alloc G5.out.bl.size _⟩
       · have HR := Hd (show ratE (ratOk ((p, l1), (q, l2))) = 100 by rw [HRT.out, HP.out, decide_eq_false hg1]; rfl)
         by_cases hL : (zmag (Int.gcd z1 z2 : Int)).length = 1
         · have HL := Hd hL
           have HG1 := Hd hg1; clear hg1 hL; refine ent Tryz.func32 rfl Tryz.ntmps32 ?_
           gi_wp2_with (first
            | (refine Cl 56 (positive_any (z := z2) (M := M) ⟨B, m, d, by rw [HE.out.2.1], by rw [HE.out.2.2.2]; exact ((X.out.2.1.go F.out.bl).go G2.out.2).go G3.out.2⟩) ?_; rintro e w4 ⟨rfl, hb4⟩; rw [HP.out]; have F4 := G3.out.1.go hb4; have o0 := F4.a0; have o1 := F4.a1; have o2 := F4.a2; have o3 := F4.a3; have G4 := Hd2 F4 hb4; clear F4 hb4)
            | (refine ⟨trivial, ?_⟩; gi_at_call 55; have g := G2.out; clear g; refine Cn (ncheck_any B m d q l2 _ ((X.out.2.1.go F.out.bl).go G2.out.2)) ?_; rintro e w3 ⟨rfl, hb3⟩; rw [HK2.out]; have F3 := G2.out.1.go hb3; have y0 := F3.a0; have y1 := F3.a1; have y2 := F3.a2; have y3 := F3.a3; have G3 := Hd2 F3 hb3; clear hb3 F3)
            | (refine Cl 55 (ncheck_any A n c p l1 _ (X.out.1.go F.out.bl)) ?_; rintro e w2 ⟨rfl, hb2⟩; rw [HK1.out]; have F2 := F.out.go hb2; have u0 := F2.a0; have u1 := F2.a1; have u2 := F2.a2; have u3 := F2.a3; have G2 := Hd2 F2 hb2; clear F2 hb2)
            | (refine Cl 57 (nGcd_any (a := z1) (b := z2) (fun k hk => Nat.lt_of_lt_of_le (X.out.2.2 k hk) G4.out.1.bl.size) ⟨A, n, c, by rw [HE.out.1], by rw [HE.out.2.2.1]; exact X.out.1.go G4.out.1.bl⟩ ⟨B, m, d, by rw [HE.out.2.1], by rw [HE.out.2.2.2]; exact X.out.2.1.go G4.out.1.bl⟩ HFZ.out.1 HFZ.out.2) ?_
               rintro e w5 ⟨u5, rfl, hz5, hb5⟩; rw [HG.out.1]; rw [HG.out.2] at hz5; obtain ⟨Ag, ng, cg, rfl, hs5⟩ := hz5; rw [show zneg (Int.gcd z1 z2 : Int) = false from decide_eq_false (by omega)]
               have hng : ng = 1 := by rw [← hs5.dlen]; exact HL.out
               obtain ⟨bg, og, dg, rfl, hcg, hdg⟩ := one_dig (g := Int.gcd z1 z2) (by have h := hs5; rw [HL0.out] at h; exact h) hng; subst hng; have hcg6 : (w5.alloc (.cells #[.bool false, .slice (some ⟨bg, og, none⟩) 1 cg] 29)).cell? ⟨bg, og, none⟩ = some (.int .i64 (dg : Int)) := (((Below.refl w5.heap.size w5).alloc (Nat.le_refl _) _).cell (World.block_lt_of_cell? w5 _ hcg)).trans hcg
               have hdx : ¬ dg = 1 := fun e => HG1.out (hdg.symm.trans e)
               clear hdg hs5; have G5 := Hd (G4.out.1.go hb5)
               clear hb5))
           go_ret; exact ⟨by rw [HR.out]; rfl, G5.out.bl.alloc G5.out.bl.size _⟩
         · have HL := Hd hL
           clear hg1 hL; refine ent Tryz.func32 rfl Tryz.ntmps32 ?_
           gi_wp2_with (first
            | (refine Cl 56 (positive_any (z := z2) (M := M) ⟨B, m, d, by rw [HE.out.2.1], by rw [HE.out.2.2.2]; exact ((X.out.2.1.go F.out.bl).go G2.out.2).go G3.out.2⟩) ?_; rintro e w4 ⟨rfl, hb4⟩; rw [HP.out]; have F4 := G3.out.1.go hb4; have o0 := F4.a0; have o1 := F4.a1; have o2 := F4.a2; have o3 := F4.a3; have G4 := Hd2 F4 hb4; clear F4 hb4)
            | (refine ⟨trivial, ?_⟩; gi_at_call 55; have g := G2.out; clear g; refine Cn (ncheck_any B m d q l2 _ ((X.out.2.1.go F.out.bl).go G2.out.2)) ?_; rintro e w3 ⟨rfl, hb3⟩; rw [HK2.out]; have F3 := G2.out.1.go hb3; have y0 := F3.a0; have y1 := F3.a1; have y2 := F3.a2; have y3 := F3.a3; have G3 := Hd2 F3 hb3; clear hb3 F3)
            | (refine Cl 55 (ncheck_any A n c p l1 _ (X.out.1.go F.out.bl)) ?_; rintro e w2 ⟨rfl, hb2⟩; rw [HK1.out]; have F2 := F.out.go hb2; have u0 := F2.a0; have u1 := F2.a1; have u2 := F2.a2; have u3 := F2.a3; have G2 := Hd2 F2 hb2; clear F2 hb2)
            | (refine Cl 57 (nGcd_any (a := z1) (b := z2) (fun k hk => Nat.lt_of_lt_of_le (X.out.2.2 k hk) G4.out.1.bl.size) ⟨A, n, c, by rw [HE.out.1], by rw [HE.out.2.2.1]; exact X.out.1.go G4.out.1.bl⟩ ⟨B, m, d, by rw [HE.out.2.1], by rw [HE.out.2.2.2]; exact X.out.2.1.go G4.out.1.bl⟩ HFZ.out.1 HFZ.out.2) ?_
               rintro e w5 ⟨u5, rfl, hz5, hb5⟩; rw [HG.out.1]; rw [HG.out.2] at hz5; obtain ⟨Ag, ng, cg, rfl, hs5⟩ := hz5; rw [show zneg (Int.gcd z1 z2 : Int) = false from decide_eq_false (by omega)]
               have hng : ¬ ng = 1 := fun e => HL.out (by rw [hs5.dlen, e])
               clear hs5; have G5 := Hd (G4.out.1.go hb5)
               clear hb5))
           go_ret; exact ⟨by rw [HR.out]; rfl, G5.out.bl.alloc G5.out.bl.size _⟩
     · have HP := Hd (show decide (0 < z2) = false from decide_eq_false hp)
       have HR := Hd (show ratE (ratOk ((p, l1), (q, l2))) = 100 by rw [HRT.out, HP.out]; rfl); refine ent Tryz.func32 rfl Tryz.ntmps32 ?_
       gi_wp2_with (first
        | (refine Cl 56 (positive_any (z := z2) (M := M) ⟨B, m, d, by rw [HE.out.2.1], by rw [HE.out.2.2.2]; exact ((X.out.2.1.go F.out.bl).go G2.out.2).go G3.out.2⟩) ?_; rintro e w4 ⟨rfl, hb4⟩; rw [HP.out]; have F4 := G3.out.1.go hb4; have o0 := F4.a0; have o1 := F4.a1; have o2 := F4.a2; have o3 := F4.a3; have G4 := Hd2 F4 hb4; clear F4 hb4)
        | (refine ⟨trivial, ?_⟩; gi_at_call 55; have g := G2.out; clear g; refine Cn (ncheck_any B m d q l2 _ ((X.out.2.1.go F.out.bl).go G2.out.2)) ?_; rintro e w3 ⟨rfl, hb3⟩; rw [HK2.out]; have F3 := G2.out.1.go hb3; have y0 := F3.a0; have y1 := F3.a1; have y2 := F3.a2; have y3 := F3.a3; have G3 := Hd2 F3 hb3; clear hb3 F3)
        | (refine Cl 55 (ncheck_any A n c p l1 _ (X.out.1.go F.out.bl)) ?_; rintro e w2 ⟨rfl, hb2⟩; rw [HK1.out]; have F2 := F.out.go hb2; have u0 := F2.a0; have u1 := F2.a1; have u2 := F2.a2; have u3 := F2.a3; have G2 := Hd2 F2 hb2; clear F2 hb2)
        | (refine ⟨trivial, ?_⟩))
       go_ret; exact ⟨by rw [HR.out]; rfl, G4.out.1.bl⟩
   · have HK2 := Hd (show okE (natOk (q, l2)) = 90 by simp [hk2, okE])
     have HR := Hd (show ratE (ratOk ((p, l1), (q, l2))) = 100 by simp [ratOk, hk2, ratE]); refine ent Tryz.func32 rfl Tryz.ntmps32 ?_
     gi_wp2_with (first
      | (refine ⟨trivial, ?_⟩; gi_at_call 55; have g := G2.out; clear g; refine Cn (ncheck_any B m d q l2 _ ((X.out.2.1.go F.out.bl).go G2.out.2)) ?_; rintro e w3 ⟨rfl, hb3⟩; rw [HK2.out]; have G3 := Hd (G2.out.1.go hb3); clear hb3)
      | (refine Cl 55 (ncheck_any A n c p l1 _ (X.out.1.go F.out.bl)) ?_; rintro e w2 ⟨rfl, hb2⟩; rw [HK1.out]; have F2 := F.out.go hb2; have u0 := F2.a0; have u1 := F2.a1; have u2 := F2.a2; have u3 := F2.a3; have G2 := Hd2 F2 hb2; clear F2 hb2)
      | (refine ⟨trivial, ?_⟩))
     go_ret; exact ⟨by rw [HR.out]; rfl, G3.out.bl⟩
 · have HK1 := Hd (show okE (natOk (p, l1)) = 90 by simp [hk1, okE])
   have HR := Hd (show ratE (ratOk ((p, l1), (q, l2))) = 100 by simp [ratOk, hk1, ratE]); refine ent Tryz.func32 rfl Tryz.ntmps32 ?_
   gi_wp2_with (first
    | (refine Cl 55 (ncheck_any A n c p l1 _ (X.out.1.go F.out.bl)) ?_; rintro e w2 ⟨rfl, hb2⟩; rw [HK1.out]; have F2 := F.out.go hb2; have u0 := F2.a0; have u1 := F2.a1; have u2 := F2.a2; have u3 := F2.a3; have G2 := Hd2 F2 hb2; clear F2 hb2)
    | (refine ⟨trivial, ?_⟩))
   go_ret; exact ⟨by rw [HR.out]; rfl, G2.out.1.bl⟩
end
section
open Go.RowKit Go.Shelf
attribute [local go_sem] Oper.semAt_some
theorem Sl.ratd {w : World} {M : List Nat} {A : Option Addr} {n c : Nat} {xs : List RatR} (h : Sl RatR w M A n c xs) {k : Nat} {p q : Bool} {l1 l2 : List Int} (hk : xs[k]? = some ((p, l1), (q, l2))) :
 ∃ b o A1 n1 c1 A2 n2 c2, A = some ⟨b, o, none⟩ ∧ w.cell? ⟨b, o + k * 4, none⟩ = some (.bool p) ∧ w.cell? ⟨b, o + k * 4 + 1, none⟩ = some (.slice A1 n1 c1) ∧ w.cell? ⟨b, o + k * 4 + 2, none⟩ = some (.bool q) ∧ w.cell? ⟨b, o + k * 4 + 3, none⟩ = some (.slice A2 n2 c2) ∧
  Sl Int w M A1 n1 c1 l1 ∧ Sl Int w M A2 n2 c2 l2 := by
 obtain ⟨b, o, es, rfl, h1, h2⟩ := h.get hk
 obtain ⟨ds, fs, rfl, ⟨ds1, fs1, rfl, h3, A1, n1, c1, rfl, h4⟩, ⟨ds2, fs2, rfl, h5, A2, n2, c2, rfl, h6⟩⟩ := h1
 have h3 : ds1 = [.bool p] := h3
 have h5 : ds2 = [.bool q] := h5
 subst h3
 subst h5
 refine ⟨b, o, A1, n1, c1, A2, n2, c2, rfl, ?_, ?_, ?_, ?_, h4, h6⟩
 · have := h2.2 0 (.bool p) rfl; exact this
 · have := h2.2 1 (.slice A1 n1 c1) rfl; exact this
 · have := h2.2 2 (.bool q) rfl; exact this
 · have := h2.2 3 (.slice A2 n2 c2) rfl; exact this
theorem ratOk_enc {r : Rt} (h : r.ok) : ratOk (encQ r) = true := (ratOk_iff _).2 ⟨r, h, rfl⟩
set_option maxHeartbeats 1000000 in
theorem valid_any {M : List Nat} (A : Option Addr) (n c : Nat) (zs : List Rt) (w : World) (hM : Bel M w) (hx : Sl RatR w M A n c (zs.map encQ)) (hz : ∀ z, z ∈ zs → z.ok) :
 Calls Tryz.prog 43 #[.slice A n c] w fun e w' => e = .returned (.tuple #[]) ∧ Below w.heap.size w w' := by
 refine wid ?_
 have hs := hx.small
 have hl : zs.length = n := by have := hx.len; simpa using this
 have H := Hd hx
 have HZ := Hd hz
 have HL := Hd hl
 have HM := Hd hM
 clear hx hz hl hM
 refine ent Tryz.func43 rfl Tryz.ntmps43 ?_
 gi_wp2
 gi_loopw [6] (fun i wr => ∃ k : Nat, k ≤ n ∧ i = .int .i64 k ∧ Below w.heap.size w wr) (fun i _ => n - (intOf i).toNat)
 case atStart => exact ⟨0, Nat.zero_le _, rfl, Below.refl _ _⟩
 case round =>
  obtain ⟨k, hk, rfl, hb⟩ := hrel
  by_cases hlt : k < n
  · obtain ⟨z, hz⟩ : ∃ z, zs[k]? = some z := ⟨_, List.getElem?_eq_getElem (by rw [HL.out]; exact hlt)⟩
    obtain ⟨b, o, A1, n1, c1, A2, n2, c2, rfl, hc0, hc1, hc2, hc3, hs1, hs2⟩ := (H.out.keep (Keeps.of_below hb M)).ratd (k := k) (p := zneg z.num) (l1 := ints (zmag z.num)) (q := zneg z.den) (l2 := ints (zmag z.den)) (by rw [List.getElem?_map, hz]; rfl); have S := Hd2 hs1 hs2; have HK := Hd (show ratE (ratOk ((zneg z.num, ints (zmag z.num)), (zneg z.den, ints (zmag z.den)))) = 0 by rw [show ((zneg z.num, ints (zmag z.num)), (zneg z.den, ints (zmag z.den))) = encQ z from rfl, ratOk_enc (HZ.out z (List.mem_of_getElem? hz))]; rfl); generalize zneg z.num = p at *; generalize zneg z.den = q at *; clear hs1 hs2 hz
    gi_wp2_with (first
     | (refine Cl 93 (need_yes _ _) ?_; rintro e w3 ⟨rfl, rfl⟩)
     | (refine Cl 32 (qcheck_any (l1 := ints (zmag z.num)) (l2 := ints (zmag z.den)) (M := M) (fun j hj => by have := HM.out j hj; have := hb.size; simp; omega) (S.out.1.go (by exact bel)) (S.out.2.go (by exact bel))) ?_; rintro e w2 ⟨rfl, hb2⟩; rw [HK.out]; have HB2 := Hd hb2; clear hb2)
     | fail)
    have hb3 : Below w.heap.size w w3 := (hb.alloc hb.size _).trans (HB2.out.mono (by simp; have := hb.size; omega)); exact ⟨⟨k + 1, by omega, by go_num, hb3⟩, by simp [intOf]; omega⟩
  · gi_wp2
    go_end0
    exact ⟨rfl, hb⟩
end
section
open Go.RowKit Go.Shelf
attribute [local go_sem] Oper.semAt_some
theorem fin5 {w V : World} {M MM : List Nat} {b be s : Nat} {A B : Option Addr} {n c m d : Nat} {q r : Bool} {x : Rt} {u0 u1 u2 u3 u4 : Value} (h0 : V.cell? ⟨b, 0, none⟩ = some u0) (h1 : V.cell? ⟨b, 1, none⟩ = some u1) (h2 : V.cell? ⟨b, 2, none⟩ = some u2) (h3 : V.cell? ⟨b, 3, none⟩ = some u3) (h4 : V.cell? ⟨be, 0, none⟩ = some u4)
 (hQ : QW V MM (.agg #[.bool q, .slice A n c, .bool r, .slice B m d]) x) (hm : ∀ k, k ∈ M → k ∈ MM) (hbm : b ∈ MM) (hem : be ∈ MM) (hne : be ≠ b) (hb : Below s w V) (hsb : s ≤ b) (hse : s ≤ be) :
 ∃ wF, ((((V.setCell ⟨b, 0, none⟩ (.bool q)).setCell ⟨b, 1, none⟩ (.slice A n c)).setCell ⟨b, 2, none⟩ (.bool r)).setCell ⟨b, 3, none⟩ (.slice B m d)).setCell ⟨be, 0, none⟩ (.int .i64 0) = wF ∧
  wF.cell? ⟨b, 0, none⟩ = some (.bool q) ∧ wF.cell? ⟨b, 1, none⟩ = some (.slice A n c) ∧ wF.cell? ⟨b, 2, none⟩ = some (.bool r) ∧ wF.cell? ⟨b, 3, none⟩ = some (.slice B m d) ∧ wF.cell? ⟨be, 0, none⟩ = some (.int .i64 0) ∧
  QW wF M (.agg #[.bool q, .slice A n c, .bool r, .slice B m d]) x ∧ Below s w wF := by
 have kp := (((((Keeps.refl MM V).setCell (p := ⟨b, 0, none⟩) (.inl hbm) (.bool q)).setCell (p := ⟨b, 1, none⟩) (.inl hbm) (.slice A n c)).setCell (p := ⟨b, 2, none⟩) (.inl hbm) (.bool r)).setCell (p := ⟨b, 3, none⟩) (.inl hbm) (.slice B m d)).setCell (p := ⟨be, 0, none⟩) (.inl hem) (.int .i64 0)
 have hne2 : ¬ b = be := fun e => hne e.symm
 have hne3 : ¬ be = b := hne
 refine ⟨_, rfl, ?_, ?_, ?_, ?_, ?_, ?_, ?_⟩
 · simp [go_sem, h0, h1, h2, h3, h4, hne2, hne3]
 · simp [go_sem, h0, h1, h2, h3, h4, hne2, hne3]
 · simp [go_sem, h0, h1, h2, h3, h4, hne2, hne3]
 · simp [go_sem, h0, h1, h2, h3, h4, hne2, hne3]
 · simp [go_sem, h0, h1, h2, h3, h4, hne2, hne3]
 · obtain ⟨A', n', c', B', m', d', e, hs, ht⟩ := hQ
   exact ⟨A', n', c', B', m', d', e, (hs.keep kp).less hm, (ht.keep kp).less hm⟩
 · exact ((((hb.setCell (p := ⟨b, 0, none⟩) hsb _).setCell (p := ⟨b, 1, none⟩) hsb _).setCell (p := ⟨b, 2, none⟩) hsb _).setCell (p := ⟨b, 3, none⟩) hsb _).setCell (p := ⟨be, 0, none⟩) hse _
structure F7 (w W : World) (q1 q2 : Bool) (v1 v2 : Value) : Prop where
 a0 : W.cell? ⟨w.heap.size, 0, none⟩ = some (.bool q1)
 a1 : W.cell? ⟨w.heap.size, 1, none⟩ = some v1
 a2 : W.cell? ⟨w.heap.size + 1, 0, none⟩ = some (.bool q2)
 a3 : W.cell? ⟨w.heap.size + 1, 1, none⟩ = some v2
 b0 : W.cell? ⟨w.heap.size + 1 + 1, 0, none⟩ = some (.bool false)
 b1 : W.cell? ⟨w.heap.size + 1 + 1, 1, none⟩ = some (.slice none 0 0)
 b2 : W.cell? ⟨w.heap.size + 1 + 1, 2, none⟩ = some (.bool false)
 b3 : W.cell? ⟨w.heap.size + 1 + 1, 3, none⟩ = some (.slice none 0 0)
 e0 : W.cell? ⟨w.heap.size + 1 + 1 + 1, 0, none⟩ = some (.int .i64 0)
 f0 : W.frozen? ⟨w.heap.size + 1 + 1, 0, none⟩ = false
 f1 : W.frozen? ⟨w.heap.size + 1 + 1, 1, none⟩ = false
 f2 : W.frozen? ⟨w.heap.size + 1 + 1, 2, none⟩ = false
 f3 : W.frozen? ⟨w.heap.size + 1 + 1, 3, none⟩ = false
 fe : W.frozen? ⟨w.heap.size + 1 + 1 + 1, 0, none⟩ = false
 bl : Below w.heap.size w W
 sz : w.heap.size + 4 ≤ W.heap.size
theorem F7.go {w W W' : World} {q1 q2 : Bool} {v1 v2 : Value} (h : F7 w W q1 q2 v1 v2) (hb : Below W.heap.size W W') : F7 w W' q1 q2 v1 v2 := by
 have hs := h.sz
 have c : ∀ (k o : Nat) (u : Value), k < w.heap.size + 4 → W.cell? ⟨k, o, none⟩ = some u → W'.cell? ⟨k, o, none⟩ = some u := fun k o u hk hu => (hb.cell (p := ⟨k, o, none⟩) (show k < _ by omega)).trans hu
 have f : ∀ (k o : Nat), k < w.heap.size + 4 → W.frozen? ⟨k, o, none⟩ = false → W'.frozen? ⟨k, o, none⟩ = false := fun k o hk hu => (hb.frozen (p := ⟨k, o, none⟩) (show k < _ by omega)).trans hu
 exact ⟨c _ _ _ (by omega) h.a0, c _ _ _ (by omega) h.a1, c _ _ _ (by omega) h.a2, c _ _ _ (by omega) h.a3, c _ _ _ (by omega) h.b0, c _ _ _ (by omega) h.b1, c _ _ _ (by omega) h.b2, c _ _ _ (by omega) h.b3, c _ _ _ (by omega) h.e0,
  f _ _ (by omega) h.f0, f _ _ (by omega) h.f1, f _ _ (by omega) h.f2, f _ _ (by omega) h.f3, f _ _ (by omega) h.fe, h.bl.trans (hb.mono h.bl.size), by have := hb.size; omega⟩
theorem F7.start (w : World) (q1 q2 : Bool) (v1 v2 : Value) :
 F7 w ((((w.alloc (.cells #[.bool q1, v1] 29)).alloc (.cells #[.bool q2, v2] 29)).alloc (.cells #[.bool false, .slice none 0 0, .bool false, .slice none 0 0] 31)).alloc (.cells #[.int .i64 0] 34)) q1 q2 v1 v2 :=
 ⟨by simp [go_sem], by simp [go_sem], by simp [go_sem], by simp [go_sem], by simp [go_sem], by simp [go_sem], by simp [go_sem], by simp [go_sem], by simp [go_sem], by simp [go_sem], by simp [go_sem], by simp [go_sem], by simp [go_sem], by simp [go_sem], by exact bel, by simp⟩
set_option maxRecDepth 20000 in
set_option maxHeartbeats 2000000 in
theorem of_rat {M : List Nat} {v1 v2 : Value} {n d : Int} {w : World} (hM : Bel M w) (hn : ZV w M v1 n) (hd : ZV w M v2 d) (fn : fits n = true) (fd : fits d = true) (h0 : d ≠ 0) :
 Calls Tryz.prog 103 #[v1, v2] w fun e w' => ∃ u, e = .returned (.tuple #[u, .int .i64 0]) ∧ QW w' M u (lowM n d) ∧ Below w.heap.size w w' := by
 refine wid ?_
 obtain ⟨A, k1, c1, rfl, hx⟩ := hn
 obtain ⟨B, k2, c2, rfl, hy⟩ := hd
 have hk2 : 0 < k2 := by
  have hl := hy.dlen
  have : (zmag d).length ≠ 0 := by
   intro e; have := dig_nil.1 (List.length_eq_zero_iff.1 e); omega
  omega
 have HK1 := Hd (show okE (natOk (zneg n, ints (zmag n))) = 0 by rw [show (zneg n, ints (zmag n)) = encB n from rfl, natOk_enc n fn]; rfl)
 have HK2 := Hd (show okE (natOk (zneg d, ints (zmag d))) = 0 by rw [show (zneg d, ints (zmag d)) = encB d from rfl, natOk_enc d fd]; rfl)
 have HLW := Hd (fun (W : World) (hb : Below w.heap.size w W) (hs : w.heap.size + 4 ≤ W.heap.size) => lowest_any (w := W) (M := (w.heap.size + 1 + 1) :: (w.heap.size + 1 + 1 + 1) :: M) (n := n) (d := d) (A := A) (B := B) (k1 := k1) (k2 := k2) (c1 := c1) (c2 := c2)
  (by
    intro k hk; simp only [List.mem_cons] at hk
    rcases hk with rfl | rfl | hk
    · omega
    · omega
    · have := hM k hk; omega)
  (((hx.more (b := w.heap.size + 1 + 1 + 1) (by omega)).more (b := w.heap.size + 1 + 1) (by omega)).keep (Keeps.of_below hb _))
  (((hy.more (b := w.heap.size + 1 + 1 + 1) (by omega)).more (b := w.heap.size + 1 + 1) (by omega)).keep (Keeps.of_below hb _)) fn fd h0)
 have X := Hd2 hx hy
 generalize zneg n = q1 at *
 generalize zneg d = q2 at *
 obtain ⟨W1, hW1⟩ : ∃ W1 : World, (((w.alloc (.cells #[.bool q1, .slice A k1 c1] 29)).alloc (.cells #[.bool q2, .slice B k2 c2] 29)).alloc (.cells #[.bool false, .slice none 0 0, .bool false, .slice none 0 0] 31)).alloc (.cells #[.int .i64 0] 34) = W1 := ⟨_, rfl⟩
 have F1 : F7 w W1 q1 q2 (.slice A k1 c1) (.slice B k2 c2) := by rw [← hW1]; exact F7.start w _ _ _ _
 have F := Hd F1
 have e0 := F1.a0
 have e1 := F1.a1
 have e2 := F1.a2
 have e3 := F1.a3
 clear hx hy hM F1 fn fd h0
 cases q1 <;> cases q2
 all_goals (
 refine entd Tryz.func103 rfl Tryz.ntmps103 ?_
 gi_wp2_with (first
  | (refine Cl 111 (HLW.out _ G3.out.bl G3.out.sz) ?_
     rintro e w4 ⟨u4, rfl, ⟨A4, n4, c4, B4, m4, d4, rfl, hq1, hq2⟩, hb4⟩; have F4 := G3.out.go hb4
     obtain ⟨q4, hq4⟩ : ∃ q, zneg (lowM n d).num = q := ⟨_, rfl⟩
     obtain ⟨r4, hr4⟩ : ∃ q, zneg (lowM n d).den = q := ⟨_, rfl⟩
     rw [hq4, hr4]; have HQ := Hd (show QW w4 _ (.agg #[.bool q4, .slice A4 n4 c4, .bool r4, .slice B4 m4 d4]) (lowM n d) from ⟨A4, n4, c4, B4, m4, d4, by rw [hq4, hr4], hq1, hq2⟩); have r0 := F4.b0; have r1 := F4.b1; have r2 := F4.b2; have r3 := F4.b3; have r5 := F4.e0; have x0 := F4.f0; have x1 := F4.f1; have x2 := F4.f2; have x3 := F4.f3; have x5 := F4.fe; have G4 := Hd F4
     clear hq1 hq2 hb4 F4 hq4 hr4)
  | (refine Cl 93 (need_yes _ _) ?_; rintro e wn ⟨rfl, rfl⟩)
  | (refine ⟨trivial, ?_⟩; gi_at_call 55; have g := G2.out; clear g; refine Cn (ncheck_any B k2 c2 _ (ints (zmag d)) _ ((X.out.2.go F.out.bl).go G2.out.2)) ?_; rintro e w3 ⟨rfl, hb3⟩; rw [HK2.out]; have F3 := G2.out.1.go hb3; have y0 := F3.a0; have y1 := F3.a1; have y2 := F3.a2; have y3 := F3.a3; have G3 := Hd F3; clear hb3 F3)
  | (refine Cl 55 (ncheck_any A k1 c1 _ (ints (zmag n)) _ (X.out.1.go F.out.bl)) ?_; rintro e w2 ⟨rfl, hb2⟩; rw [HK1.out]; have F2 := F.out.go hb2; have u0 := F2.a0; have u1 := F2.a1; have u2 := F2.a2; have u3 := F2.a3; have G2 := Hd2 F2 hb2; clear F2 hb2)
  | fail)
 obtain ⟨wF, hwF, t0, t1, t2, t3, t5, hQ, bF⟩ := fin5 (M := M) r0 r1 r2 r3 r5 HQ.out (fun k hk => by simp [hk]) (by simp) (by simp) (by omega) G4.out.bl (by omega) (by omega)
 refine leavesIn_cons (f := 42) (args := #[.pointer (some ⟨w.heap.size + 1 + 1 + 1, 0, none⟩)]) (by simp) (by simp) (by simp [go_sem]) (fun _ _ => trivial) ?_
 rw [hwF]
 refine (caughtQ_idle ⟨w.heap.size + 1 + 1 + 1, 0, none⟩ _).mono ?_
 rintro e u' w'' ⟨rfl, rfl, rfl⟩
 refine ⟨.tuple #[.agg #[.bool q4, .slice A4 n4 c4, .bool r4, .slice B4 m4 d4], .int .i64 0], ?_, _, rfl, hQ, bF⟩
 simp [results, Tryz.results103, go_sem, t0, t1, t2, t3, t5])
end
section
open Go.RowKit Go.Shelf
attribute [local go_sem] Oper.semAt_some
theorem fits_i64 {n : Int} (h : i64 n) : fits n = true := by
 have h3 : (dig n.natAbs).length ≤ 3 := dig_low (by unfold i64 at h; omega)
 exact decide_eq_true (Nat.le_trans h3 (by omega))
structure F8 (w W : World) : Prop where
 b0 : W.cell? ⟨w.heap.size, 0, none⟩ = some (.bool false)
 b1 : W.cell? ⟨w.heap.size, 1, none⟩ = some (.slice none 0 0)
 b2 : W.cell? ⟨w.heap.size, 2, none⟩ = some (.bool false)
 b3 : W.cell? ⟨w.heap.size, 3, none⟩ = some (.slice none 0 0)
 f0 : W.frozen? ⟨w.heap.size, 0, none⟩ = false
 f1 : W.frozen? ⟨w.heap.size, 1, none⟩ = false
 f2 : W.frozen? ⟨w.heap.size, 2, none⟩ = false
 f3 : W.frozen? ⟨w.heap.size, 3, none⟩ = false
 bl : Below w.heap.size w W
 sz : w.heap.size + 1 ≤ W.heap.size
theorem F8.go {w W W' : World} (h : F8 w W) (hb : Below W.heap.size W W') : F8 w W' := by
 have hs := h.sz
 have c : ∀ (o : Nat) (u : Value), W.cell? ⟨w.heap.size, o, none⟩ = some u → W'.cell? ⟨w.heap.size, o, none⟩ = some u := fun o u hu => (hb.cell (p := ⟨w.heap.size, o, none⟩) (show w.heap.size < _ by omega)).trans hu
 have f : ∀ (o : Nat), W.frozen? ⟨w.heap.size, o, none⟩ = false → W'.frozen? ⟨w.heap.size, o, none⟩ = false := fun o hu => (hb.frozen (p := ⟨w.heap.size, o, none⟩) (show w.heap.size < _ by omega)).trans hu
 exact ⟨c _ _ h.b0, c _ _ h.b1, c _ _ h.b2, c _ _ h.b3, f _ h.f0, f _ h.f1, f _ h.f2, f _ h.f3, h.bl.trans (hb.mono h.bl.size), by have := hb.size; omega⟩
theorem F8.start (w : World) : F8 w (w.alloc (.cells #[.bool false, .slice none 0 0, .bool false, .slice none 0 0] 31)) :=
 ⟨by simp [go_sem], by simp [go_sem], by simp [go_sem], by simp [go_sem], by simp [go_sem], by simp [go_sem], by simp [go_sem], by simp [go_sem], by exact bel, by simp⟩
set_option maxHeartbeats 1000000 in
theorem qMake_any {M : List Nat} {n d : Int} {w : World} (hM : Bel M w) (hn : i64 n) (hd : i64 d) (h0 : d ≠ 0) :
 Calls Tryz.prog 52 #[.int .i64 n, .int .i64 d] w fun e w' => ∃ u, e = .returned (.tuple #[u, .int .i64 0]) ∧ QW w' M u (lowM n d) ∧ Below w.heap.size w w' := by
 refine wid ?_
 obtain ⟨W1, hW1⟩ : ∃ W1 : World, w.alloc (.cells #[.bool false, .slice none 0 0, .bool false, .slice none 0 0] 31) = W1 := ⟨_, rfl⟩
 have F1 : F8 w W1 := by rw [← hW1]; exact F8.start w
 have hM1 : Bel (w.heap.size :: M) W1 := by
  intro k hk; have := F1.sz
  rcases List.mem_cons.1 hk with rfl | hk
  · omega
  · have := hM k hk; omega
 have H := Hd4 hM1 hn hd h0
 have F := Hd F1
 clear hM hM1 hn hd h0 F1
 refine ent Tryz.func52 rfl Tryz.ntmps52 ?_
 gi_wp2_with (first
  | (refine Cl 103 (of_rat (M := w.heap.size :: M) (n := n) (d := d) ((H.out.1.le G2.out.2.size).le G3.out.2.size) (ZV.go G2.out.1 G3.out.2) G3.out.1 (fits_i64 H.out.2.1) (fits_i64 H.out.2.2.1) H.out.2.2.2) ?_
     rintro e w4 ⟨u4, rfl, ⟨A4, n4, c4, B4, m4, d4, rfl, hq1, hq2⟩, hb4⟩; have F4 := ((F.out.go G2.out.2).go G3.out.2).go hb4
     obtain ⟨q4, hq4⟩ : ∃ q, zneg (lowM n d).num = q := ⟨_, rfl⟩
     obtain ⟨r4, hr4⟩ : ∃ q, zneg (lowM n d).den = q := ⟨_, rfl⟩
     rw [hq4, hr4]; have HQ := Hd4 hq1 hq2 hq4 hr4; have r0 := F4.b0; have r1 := F4.b1; have r2 := F4.b2; have r3 := F4.b3; have x0 := F4.f0; have x1 := F4.f1; have x2 := F4.f2; have x3 := F4.f3; have G4 := Hd F4
     clear hq1 hq2 hb4 F4 hq4 hr4)
  | (refine ⟨trivial, ?_⟩; gi_at_call 104; have g := G2.out; clear g; refine Cn (nMake_any (M := w.heap.size :: M) (H.out.1.le G2.out.2.size) H.out.2.2.1) ?_; rintro e w3 ⟨u3, rfl, hz3, hb3⟩; have G3 := Hd2 hz3 hb3; clear hz3 hb3)
  | (refine Cl 104 (nMake_any (M := w.heap.size :: M) H.out.1 H.out.2.1) ?_; rintro e w2 ⟨u2, rfl, hz2, hb2⟩; have G2 := Hd2 hz2 hb2; clear hz2 hb2)
  | fail)
 obtain ⟨wF, hwF, t0, t1, t2, t3, hQ, bF⟩ := fin4 r0 r1 r2 r3 HQ.out.1 HQ.out.2.1 HQ.out.2.2.1 HQ.out.2.2.2 G4.out.bl (Nat.le_refl _)
 rw [hwF]
 refine ⟨rfl, .tuple #[.agg #[.bool q4, .slice A4 n4 c4, .bool r4, .slice B4 m4 d4], .int .i64 0], ?_, _, rfl, hQ, bF⟩
 simp [results, go_sem, t0, t1, t2, t3]
end
section
open Go.RowKit Go.Shelf
attribute [local go_sem] Oper.semAt_some
set_option maxHeartbeats 1000000 in
theorem rneg_any {M : List Nat} {v : Value} {z : Int} {w : World} (hM : Bel M w) (h : ZV w M v z) : Calls Tryz.prog 132 #[v] w fun e w' => ∃ u, e = .returned u ∧ ZV w' M u (-z) ∧ Below w.heap.size w w' := by
 refine wid ?_
 obtain ⟨A, n, c, rfl, hs⟩ := h
 have hng := neg_len hs.dlen
 have S := Hd hs
 have hb : ∀ u : Value, Below w.heap.size w ((w.alloc (.cells #[.bool (zneg z), .slice A n c] 29)).alloc (.cells #[u, .slice A n c] 29)) := fun u => by exact bel
 clear hs
 obtain ⟨b, hbz⟩ : ∃ b, zneg z = b := ⟨_, rfl⟩
 rw [hbz] at hng hb ⊢
 have HB := Hd hb
 clear hb hbz
 cases b
 all_goals (
 have HN := Hd hng
 clear hng
 refine ent Tryz.func132 rfl Tryz.ntmps132 ?_
 gi_wp2
 refine ⟨rfl, _, by simp [results, go_sem]; rfl, _, rfl, ⟨A, n, c, by rw [HN.out]; first | rfl | simp, by rw [zmag_neg]; exact S.out.go (by exact bel)⟩, by exact bel⟩)
set_option maxHeartbeats 1000000 in
theorem two_any {M : List Nat} {v1 v2 : Value} {a b : Int} {w : World} (ha : ZV w M v1 a) (hb : ZV w M v2 b) (fa : fits a = true) (fb : fits b = true) :
 Calls Tryz.prog 99 #[v1, v2] w fun e w' => e = .returned (.int .i64 0) ∧ Below w.heap.size w w' := by
 refine wid ?_
 obtain ⟨A, k1, c1, rfl, hx⟩ := ha
 obtain ⟨B, k2, c2, rfl, hy⟩ := hb
 have HK1 := Hd (show okE (natOk (zneg a, ints (zmag a))) = 0 by rw [show (zneg a, ints (zmag a)) = encB a from rfl, natOk_enc a fa]; rfl)
 have HK2 := Hd (show okE (natOk (zneg b, ints (zmag b))) = 0 by rw [show (zneg b, ints (zmag b)) = encB b from rfl, natOk_enc b fb]; rfl)
 have X := Hd2 hx hy
 generalize zneg a = q1 at *
 generalize zneg b = q2 at *
 obtain ⟨W1, hW1⟩ : ∃ W1 : World, (w.alloc (.cells #[.bool q1, .slice A k1 c1] 29)).alloc (.cells #[.bool q2, .slice B k2 c2] 29) = W1 := ⟨_, rfl⟩
 have b1 : Below w.heap.size w W1 := by rw [← hW1]; exact bel
 have s1 : w.heap.size + 1 < W1.heap.size := by rw [← hW1]; simp
 have e0 : W1.cell? ⟨w.heap.size, 0, none⟩ = some (.bool q1) := by rw [← hW1]; simp [go_sem]
 have e1 : W1.cell? ⟨w.heap.size, 1, none⟩ = some (.slice A k1 c1) := by rw [← hW1]; simp [go_sem]
 have e2 : W1.cell? ⟨w.heap.size + 1, 0, none⟩ = some (.bool q2) := by rw [← hW1]; simp [go_sem]
 have e3 : W1.cell? ⟨w.heap.size + 1, 1, none⟩ = some (.slice B k2 c2) := by rw [← hW1]; simp [go_sem]
 have F := Hd4 b1 s1 e2 e3
 clear hx hy fa fb b1 s1 e2 e3
 refine ent Tryz.func99 rfl Tryz.ntmps99 ?_
 gi_wp2_with (first
  | (refine ⟨trivial, ?_⟩; gi_at_call 47; have g := G2.out; clear g; refine Cn (rcheck_any B k2 c2 _ (ints (zmag b)) _ ((X.out.2.go F.out.1).go G2.out)) ?_; rintro e w3 ⟨rfl, hb3⟩; rw [HK2.out]; have G3 := Hd hb3; clear hb3)
  | (refine Cl 47 (rcheck_any A k1 c1 _ (ints (zmag a)) _ (X.out.1.go F.out.1)) ?_; rintro e w2 ⟨rfl, hb2⟩; rw [HK1.out]; have u2 := (hb2.cell (p := ⟨w.heap.size + 1, 0, none⟩) F.out.2.1).trans F.out.2.2.1; have u3 := (hb2.cell (p := ⟨w.heap.size + 1, 1, none⟩) F.out.2.1).trans F.out.2.2.2; have G2 := Hd hb2; clear hb2)
  | fail)
 go_ret
 have h2 := F.out.1.trans (G2.out.mono F.out.1.size)
 exact ⟨rfl, h2.trans (G3.out.mono h2.size)⟩
end
section
def addQ (a b : Rt) : Rt := lowM (a.num * b.den + b.num * a.den) (a.den * b.den)
def subQ (a b : Rt) : Rt := lowM (a.num * b.den - b.num * a.den) (a.den * b.den)
def mulQ (a b : Rt) : Rt := lowM (a.num * b.num) (a.den * b.den)
def cmpQ (a b : Rt) : Int := if a.num * b.den < b.num * a.den then -1 else if b.num * a.den < a.num * b.den then 1 else 0
theorem pow_BB {a b : Nat} (h : a ≤ b) : BB ^ a ≤ BB ^ b := Nat.pow_le_pow_right BB_pos h
theorem fits_of {z : Int} {k : Nat} (h : z.natAbs < BB ^ k) (hk : k ≤ 2048) : fits z = true := decide_eq_true (Nat.le_trans ((dig_len _ k).1 h) hk)
def shK : Nat := 600
structure Sh (x : Rt) : Prop where
 num : x.num.natAbs < BB ^ shK
 den : x.den.natAbs < BB ^ shK
theorem mul_lt_pow {a b : Int} {i j : Nat} (ha : a.natAbs < BB ^ i) (hb : b.natAbs < BB ^ j) : (a * b).natAbs < BB ^ (i + j) := by
 rw [Int.natAbs_mul, Nat.pow_add]
 exact Nat.mul_lt_mul'' ha hb
theorem add_lt_pow {a b : Int} {i : Nat} (ha : a.natAbs < BB ^ i) (hb : b.natAbs < BB ^ i) : (a + b).natAbs < BB ^ (i + 1) := by
 have h1 := Int.natAbs_add_le a b
 have h2 := BB_two
 rw [Nat.pow_succ]
 have h3 : BB ^ i * 2 ≤ BB ^ i * BB := Nat.mul_le_mul_left _ h2
 omega
theorem sub_lt_pow {a b : Int} {i : Nat} (ha : a.natAbs < BB ^ i) (hb : b.natAbs < BB ^ i) : (a - b).natAbs < BB ^ (i + 1) := by
 rw [Int.sub_eq_add_neg]
 exact add_lt_pow ha (by rwa [Int.natAbs_neg])
structure Fine (a b : Rt) : Prop where
 nd : fits (a.num * b.den) = true
 dn : fits (b.num * a.den) = true
 dd : fits (a.den * b.den) = true
 nn : fits (a.num * b.num) = true
 ad : fits (a.num * b.den + b.num * a.den) = true
 sb : fits (a.num * b.den - b.num * a.den) = true
theorem Sh.fine {a b : Rt} (ha : Sh a) (hb : Sh b) : Fine a b :=
 ⟨fits_of (mul_lt_pow ha.num hb.den) (by unfold shK; omega), fits_of (mul_lt_pow hb.num ha.den) (by unfold shK; omega), fits_of (mul_lt_pow ha.den hb.den) (by unfold shK; omega), fits_of (mul_lt_pow ha.num hb.num) (by unfold shK; omega),
  fits_of (add_lt_pow (mul_lt_pow ha.num hb.den) (mul_lt_pow hb.num ha.den)) (by unfold shK; omega), fits_of (sub_lt_pow (mul_lt_pow ha.num hb.den) (mul_lt_pow hb.num ha.den)) (by unfold shK; omega)⟩
theorem addQ_ok {a b : Rt} (ha : a.ok) (hb : b.ok) (h : Fine a b) : (addQ a b).ok := low_ok (Int.mul_pos ha.pos hb.pos) h.ad h.dd
theorem subQ_ok {a b : Rt} (ha : a.ok) (hb : b.ok) (h : Fine a b) : (subQ a b).ok := low_ok (Int.mul_pos ha.pos hb.pos) h.sb h.dd
theorem mulQ_ok {a b : Rt} (ha : a.ok) (hb : b.ok) (h : Fine a b) : (mulQ a b).ok := low_ok (Int.mul_pos ha.pos hb.pos) h.nn h.dd
theorem addQ_some {a b : Rt} (h : Fine a b) : addR a b = some (addQ a b) := by simp [addR, addQ, h.nd, h.dn, h.dd, h.ad]
theorem mulQ_some {a b : Rt} (h : Fine a b) : mulR a b = some (mulQ a b) := by simp [mulR, mulQ, h.dd, h.nn]
theorem subQ_neg (a b : Rt) : subQ a b = addQ a (negR b) := by
 unfold subQ addQ negR
 simp only [Int.neg_mul, Int.sub_eq_add_neg]
theorem Fine.neg {a b : Rt} (h : Fine a b) : Fine a (negR b) := by
 have e1 : (negR b).num = -b.num := rfl
 have e2 : (negR b).den = b.den := rfl
 refine ⟨h.nd, ?_, h.dd, ?_, ?_, ?_⟩
 · rw [e1, Int.neg_mul]; exact fits_neg h.dn
 · rw [e1, Int.mul_neg]; exact fits_neg h.nn
 · rw [e1, e2, Int.neg_mul, ← Int.sub_eq_add_neg]; exact h.sb
 · rw [e1, e2, Int.neg_mul, Int.sub_neg]; exact h.ad
theorem subQ_some {a b : Rt} (h : Fine a b) : subR a b = some (subQ a b) := by rw [subR, subQ_neg, addQ_some h.neg]
theorem cmpQ_some {a b : Rt} (h : Fine a b) : cmpR a b = some (cmpQ a b) := by simp [cmpR, cmpQ, h.nd, h.dn]
theorem cmpQ_swap (a b : Rt) : cmpQ b a = -cmpQ a b := by
 unfold cmpQ
 generalize a.num * b.den = x
 generalize b.num * a.den = y
 repeat' split
 all_goals omega
theorem cmpQ_self (a : Rt) : cmpQ a a = 0 := by simp [cmpQ]
theorem cmpQ_range (a b : Rt) : cmpQ a b = -1 ∨ cmpQ a b = 0 ∨ cmpQ a b = 1 := by
 unfold cmpQ
 repeat' split
 all_goals simp
theorem low_abs {n d : Int} (hd : 0 < d) {K : Nat} (h : n.natAbs ≤ K * d.natAbs) : (lowM n d).num.natAbs ≤ K * (lowM n d).den.natAbs := by
 have h1 := congrArg Int.natAbs (low_same (n := n) hd)
 rw [Int.natAbs_mul, Int.natAbs_mul] at h1
 have hp : 0 < d.natAbs := by omega
 refine Nat.le_of_mul_le_mul_right ?_ hp
 rw [h1]
 calc n.natAbs * (lowM n d).den.natAbs ≤ K * d.natAbs * (lowM n d).den.natAbs := Nat.mul_le_mul_right _ h
  _ = K * (lowM n d).den.natAbs * d.natAbs := by rw [Nat.mul_right_comm]
theorem low_dvd {n d Z : Int} (hd : 0 < d) (hn : fits n = true) (hf : fits d = true) (h : d ∣ n * Z) : (lowM n d).den ∣ Z := by
 obtain ⟨K, hK⟩ := h
 have h1 := low_same (n := n) hd
 have h2 := (low_ok hd hn hf).low
 refine dvd_low (y := (lowM n d).num) ⟨K, ?_⟩ h2
 refine Int.eq_of_mul_eq_mul_left (show d ≠ 0 by omega) ?_
 calc d * ((lowM n d).num * Z) = (lowM n d).num * d * Z := by rw [← Int.mul_assoc, Int.mul_comm d]
  _ = n * (lowM n d).den * Z := by rw [h1]
  _ = n * Z * (lowM n d).den := by rw [Int.mul_right_comm]
  _ = d * K * (lowM n d).den := by rw [hK]
  _ = d * ((lowM n d).den * K) := by rw [Int.mul_assoc, Int.mul_comm K]
structure Bd (D A : Nat) (x : Rt) : Prop where
 ok : x.ok
 dv : x.den ∣ (D : Int)
 le : x.num.natAbs ≤ A * x.den.natAbs
theorem Bd.up {D D' A A' : Nat} {x : Rt} (h : Bd D A x) (hD : D ∣ D') (hA : A ≤ A') : Bd D' A' x :=
 ⟨h.ok, Int.dvd_trans h.dv (Int.natCast_dvd_natCast.2 hD), Nat.le_trans h.le (Nat.mul_le_mul_right _ hA)⟩
theorem Bd.sh {D A : Nat} {x : Rt} (h : Bd D A x) {i j : Nat} (h0 : 0 < D) (hD : D < BB ^ i) (hA : A ≤ BB ^ j) (hi : i + j ≤ 600) : Sh x := by
 have h1 : x.den.natAbs ≤ D := by
  have := Int.natAbs_dvd_natAbs.2 h.dv; rw [Int.natAbs_natCast] at this; exact Nat.le_of_dvd h0 this
 have hp := h.ok.pos
 have h2 : x.den.natAbs < BB ^ i := by omega
 refine ⟨?_, Nat.lt_of_lt_of_le h2 (pow_BB (by unfold shK; omega))⟩
 have h3 : A * x.den.natAbs ≤ BB ^ j * x.den.natAbs := Nat.mul_le_mul_right _ hA
 have h4 : BB ^ j * x.den.natAbs < BB ^ j * BB ^ i := Nat.mul_lt_mul_of_pos_left h2 (Nat.pow_pos BB_pos)
 rw [← Nat.pow_add] at h4
 exact Nat.lt_of_le_of_lt (Nat.le_trans h.le h3) (Nat.lt_of_lt_of_le h4 (pow_BB (by unfold shK; omega)))
theorem abs_cross {a b : Rt} {A : Nat} (ha : a.num.natAbs ≤ A * a.den.natAbs) : (a.num * b.den).natAbs ≤ A * (a.den * b.den).natAbs := by
 rw [Int.natAbs_mul, Int.natAbs_mul, ← Nat.mul_assoc]
 exact Nat.mul_le_mul_right _ ha
theorem Bd.sum {D A : Nat} {a b : Rt} (ha : Bd D A a) (hb : Bd D A b) (hf : Fine a b) : Bd D (2 * A) (addQ a b) := by
 have hp := Int.mul_pos ha.ok.pos hb.ok.pos
 refine ⟨addQ_ok ha.ok hb.ok hf, low_dvd hp hf.ad hf.dd ?_, low_abs hp ?_⟩
 · obtain ⟨u, hu⟩ := ha.dv
   obtain ⟨v, hv⟩ := hb.dv; refine ⟨a.num * u + b.num * v, ?_⟩; rw [Int.add_mul, Int.mul_add]
   congr 1
   · rw [hu]
     simp only [Int.mul_left_comm, Int.mul_comm]
   · rw [hv]
     simp only [Int.mul_left_comm, Int.mul_comm]
 · have h1 := Int.natAbs_add_le (a.num * b.den) (b.num * a.den)
   have h2 := abs_cross (b := b) ha.le; have h3 := abs_cross (b := a) hb.le; rw [Int.mul_comm b.den a.den] at h3; rw [Nat.mul_assoc]; omega
theorem Bd.neg {D A : Nat} {a : Rt} (ha : Bd D A a) : Bd D A (negR a) := ⟨neg_ok ha.ok, ha.dv, by show (-a.num).natAbs ≤ _; rw [Int.natAbs_neg]; exact ha.le⟩
theorem Bd.diff {D A : Nat} {a b : Rt} (ha : Bd D A a) (hb : Bd D A b) (hf : Fine a b) : Bd D (2 * A) (subQ a b) := by
 rw [subQ_neg]
 exact ha.sum hb.neg hf.neg
theorem Bd.prod {D E A C : Nat} {a r : Rt} (ha : Bd D A a) (hr : Bd E C r) (hf : Fine a r) : Bd (D * E) (A * C) (mulQ a r) := by
 have hp := Int.mul_pos ha.ok.pos hr.ok.pos
 refine ⟨mulQ_ok ha.ok hr.ok hf, low_dvd hp hf.nn hf.dd ?_, low_abs hp ?_⟩
 · obtain ⟨u, hu⟩ := ha.dv
   obtain ⟨v, hv⟩ := hr.dv; refine ⟨a.num * r.num * (u * v), ?_⟩; rw [Int.natCast_mul, hu, hv]; simp only [Int.mul_left_comm, Int.mul_comm]
 · rw [Int.natAbs_mul, Int.natAbs_mul]
   calc a.num.natAbs * r.num.natAbs ≤ (A * a.den.natAbs) * (C * r.den.natAbs) := Nat.mul_le_mul ha.le hr.le
    _ = A * C * (a.den.natAbs * r.den.natAbs) := by simp only [Nat.mul_assoc, Nat.mul_left_comm]
end
end Go.Proofs.YtboapndkopabiaaGreat
