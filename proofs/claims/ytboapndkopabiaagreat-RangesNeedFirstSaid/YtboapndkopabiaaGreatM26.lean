/- Lemmas and walks (Rng4 Rng5 Rng6 RegB Rng7 Rng8). No statement is proved here. -/
import Derived.Test.YtboapndkopabiaaGreatM25
set_option linter.unusedVariables false
set_option linter.unusedSimpArgs false
namespace Go.Proofs.YtboapndkopabiaaGreat
section
open Go.RowKit Go.Shelf
attribute [local go_sem] Oper.semAt_some
theorem Fr.put8 {w W : World} {L : List (Nat × List Value)} {y : Nat} {a0 a1 a2 a3 a4 a5 a6 a7 : Value} (h : Fr w W (L ++ [(y, [a0, a1, a2, a3, a4, a5, a6, a7])])) (hL : ∀ b vs, (b, vs) ∈ L → b ≠ y) (v0 v1 v2 v3 v4 v5 v6 v7 : Value) :
 ∃ W', ((((((((W.setCell ⟨y, 0, none⟩ v0).setCell ⟨y, 1, none⟩ v1).setCell ⟨y, 2, none⟩ v2).setCell ⟨y, 3, none⟩ v3).setCell ⟨y, 4, none⟩ v4).setCell ⟨y, 5, none⟩ v5).setCell ⟨y, 6, none⟩ v6).setCell ⟨y, 7, none⟩ v7) = W' ∧ Fr w W' (L ++ [(y, [v0, v1, v2, v3, v4, v5, v6, v7])]) ∧ (∀ s W0, s ≤ y → Below s W0 W → Below s W0 W') ∧ Keeps [y] W W' := by
 have hy : (y, [a0, a1, a2, a3, a4, a5, a6, a7]) ∈ L ++ [(y, [a0, a1, a2, a3, a4, a5, a6, a7])] := by simp
 have g := h.at_ _ _ hy
 have g0 := g 0 _ rfl
 have g1 := g 1 _ rfl
 have g2 := g 2 _ rfl
 have g3 := g 3 _ rfl
 have g4 := g 4 _ rfl
 have g5 := g 5 _ rfl
 have g6 := g 6 _ rfl
 have g7 := g 7 _ rfl
 have kp := (((((((((Keeps.refl [y] W).setCell (p := ⟨y, 0, none⟩) (.inl (by simp)) v0).setCell (p := ⟨y, 1, none⟩) (.inl (by simp)) v1).setCell (p := ⟨y, 2, none⟩) (.inl (by simp)) v2).setCell (p := ⟨y, 3, none⟩) (.inl (by simp)) v3).setCell (p := ⟨y, 4, none⟩) (.inl (by simp)) v4).setCell (p := ⟨y, 5, none⟩) (.inl (by simp)) v5).setCell (p := ⟨y, 6, none⟩) (.inl (by simp)) v6).setCell (p := ⟨y, 7, none⟩) (.inl (by simp)) v7)
 have hB : ∀ s W0, s ≤ y → Below s W0 W → Below s W0 ((((((((W.setCell ⟨y, 0, none⟩ v0).setCell ⟨y, 1, none⟩ v1).setCell ⟨y, 2, none⟩ v2).setCell ⟨y, 3, none⟩ v3).setCell ⟨y, 4, none⟩ v4).setCell ⟨y, 5, none⟩ v5).setCell ⟨y, 6, none⟩ v6).setCell ⟨y, 7, none⟩ v7) := fun s W0 hs hb => ((((((((hb.setCell (p := ⟨y, 0, none⟩) hs v0).setCell (p := ⟨y, 1, none⟩) hs v1).setCell (p := ⟨y, 2, none⟩) hs v2).setCell (p := ⟨y, 3, none⟩) hs v3).setCell (p := ⟨y, 4, none⟩) hs v4).setCell (p := ⟨y, 5, none⟩) hs v5).setCell (p := ⟨y, 6, none⟩) hs v6).setCell (p := ⟨y, 7, none⟩) hs v7)
 have hown : ∀ i u, [v0, v1, v2, v3, v4, v5, v6, v7][i]? = some u → ((((((((W.setCell ⟨y, 0, none⟩ v0).setCell ⟨y, 1, none⟩ v1).setCell ⟨y, 2, none⟩ v2).setCell ⟨y, 3, none⟩ v3).setCell ⟨y, 4, none⟩ v4).setCell ⟨y, 5, none⟩ v5).setCell ⟨y, 6, none⟩ v6).setCell ⟨y, 7, none⟩ v7).cell? ⟨y, i, none⟩ = some u ∧ ((((((((W.setCell ⟨y, 0, none⟩ v0).setCell ⟨y, 1, none⟩ v1).setCell ⟨y, 2, none⟩ v2).setCell ⟨y, 3, none⟩ v3).setCell ⟨y, 4, none⟩ v4).setCell ⟨y, 5, none⟩ v5).setCell ⟨y, 6, none⟩ v6).setCell ⟨y, 7, none⟩ v7).frozen? ⟨y, i, none⟩ = false := by
  intro i u hu
  match i, hu with
  | 0, hu => simp only [List.getElem?_cons_zero, List.getElem?_cons_succ, Option.some.injEq] at hu; subst hu; exact ⟨by simp [go_sem, g0.1, g1.1, g2.1, g3.1, g4.1, g5.1, g6.1, g7.1], by simp [go_sem, g0.2, g1.2, g2.2, g3.2, g4.2, g5.2, g6.2, g7.2]⟩
  | 1, hu => simp only [List.getElem?_cons_zero, List.getElem?_cons_succ, Option.some.injEq] at hu; subst hu; exact ⟨by simp [go_sem, g0.1, g1.1, g2.1, g3.1, g4.1, g5.1, g6.1, g7.1], by simp [go_sem, g0.2, g1.2, g2.2, g3.2, g4.2, g5.2, g6.2, g7.2]⟩
  | 2, hu => simp only [List.getElem?_cons_zero, List.getElem?_cons_succ, Option.some.injEq] at hu; subst hu; exact ⟨by simp [go_sem, g0.1, g1.1, g2.1, g3.1, g4.1, g5.1, g6.1, g7.1], by simp [go_sem, g0.2, g1.2, g2.2, g3.2, g4.2, g5.2, g6.2, g7.2]⟩
  | 3, hu => simp only [List.getElem?_cons_zero, List.getElem?_cons_succ, Option.some.injEq] at hu; subst hu; exact ⟨by simp [go_sem, g0.1, g1.1, g2.1, g3.1, g4.1, g5.1, g6.1, g7.1], by simp [go_sem, g0.2, g1.2, g2.2, g3.2, g4.2, g5.2, g6.2, g7.2]⟩
  | 4, hu => simp only [List.getElem?_cons_zero, List.getElem?_cons_succ, Option.some.injEq] at hu; subst hu; exact ⟨by simp [go_sem, g0.1, g1.1, g2.1, g3.1, g4.1, g5.1, g6.1, g7.1], by simp [go_sem, g0.2, g1.2, g2.2, g3.2, g4.2, g5.2, g6.2, g7.2]⟩
  | 5, hu => simp only [List.getElem?_cons_zero, List.getElem?_cons_succ, Option.some.injEq] at hu; subst hu; exact ⟨by simp [go_sem, g0.1, g1.1, g2.1, g3.1, g4.1, g5.1, g6.1, g7.1], by simp [go_sem, g0.2, g1.2, g2.2, g3.2, g4.2, g5.2, g6.2, g7.2]⟩
  | 6, hu => simp only [List.getElem?_cons_zero, List.getElem?_cons_succ, Option.some.injEq] at hu; subst hu; exact ⟨by simp [go_sem, g0.1, g1.1, g2.1, g3.1, g4.1, g5.1, g6.1, g7.1], by simp [go_sem, g0.2, g1.2, g2.2, g3.2, g4.2, g5.2, g6.2, g7.2]⟩
  | 7, hu => simp only [List.getElem?_cons_zero, List.getElem?_cons_succ, Option.some.injEq] at hu; subst hu; exact ⟨by simp [go_sem, g0.1, g1.1, g2.1, g3.1, g4.1, g5.1, g6.1, g7.1], by simp [go_sem, g0.2, g1.2, g2.2, g3.2, g4.2, g5.2, g6.2, g7.2]⟩
  | i + 8, hu => simp at hu
 generalize ((((((((W.setCell ⟨y, 0, none⟩ v0).setCell ⟨y, 1, none⟩ v1).setCell ⟨y, 2, none⟩ v2).setCell ⟨y, 3, none⟩ v3).setCell ⟨y, 4, none⟩ v4).setCell ⟨y, 5, none⟩ v5).setCell ⟨y, 6, none⟩ v6).setCell ⟨y, 7, none⟩ v7) = W' at kp hB hown
 have hge := h.ge _ _ hy
 refine ⟨W', rfl, ⟨hB _ _ hge h.bl, fun b vs hm i u hu => ?_, fun b vs hm => ?_, fun b vs hm => ?_⟩, hB, kp⟩
 · rcases List.mem_append.1 hm with hm | hm
   · have hm' : (b, vs) ∈ L ++ [(y, [a0, a1, a2, a3, a4, a5, a6, a7])] := List.mem_append_left _ hm
     have hk := kp.block b (h.lt _ _ hm') (by simp [hL _ _ hm]); have := h.at_ _ _ hm' i u hu; exact ⟨by rw [← this.1]; simp only [World.cell?, hk], by rw [← this.2]; simp only [World.frozen?, hk]⟩
   · simp only [List.mem_singleton, Prod.mk.injEq] at hm
     obtain ⟨rfl, rfl⟩ := hm; exact hown i u hu
 · refine Nat.lt_of_lt_of_le ?_ kp.size
   rcases List.mem_append.1 hm with hm | hm
   · exact h.lt _ _ (List.mem_append_left _ hm)
   · simp only [List.mem_singleton, Prod.mk.injEq] at hm
     obtain ⟨rfl, rfl⟩ := hm; exact h.lt _ _ hy
 · rcases List.mem_append.1 hm with hm | hm
   · exact h.ge _ _ (List.mem_append_left _ hm)
   · simp only [List.mem_singleton, Prod.mk.injEq] at hm
     obtain ⟨rfl, rfl⟩ := hm; exact hge
end
section
open Go.RowKit Go.Shelf
attribute [local go_sem] Oper.semAt_some
structure MS (w V : World) (M : List Nat) (L : List (Nat × List Value)) (va vl vh : Value) (x lo hi : Rt) : Prop where
 fr : Fr w V L
 bel : Bel M V
 qr : QW V M va x
 ql : QW V M vl lo
 qh : QW V M vh hi
 sz : w.heap.size + 2 ≤ V.heap.size
theorem MS.go {w V V' : World} {M : List Nat} {L : List (Nat × List Value)} {va vl vh : Value} {x lo hi : Rt} (h : MS w V M L va vl vh x lo hi) (hb : Below V.heap.size V V') : MS w V' M L va vl vh x lo hi :=
 ⟨h.fr.go hb, h.bel.le hb.size, h.qr.go hb, h.ql.go hb, h.qh.go hb, Nat.le_trans h.sz hb.size⟩
theorem QW.more {w : World} {M : List Nat} {v : Value} {r : Rt} {b : Nat} (h : QW w M v r) (hb : w.heap.size ≤ b) : QW w (b :: M) v r := by
 obtain ⟨A, n, c, B, m, d, rfl, h1, h2⟩ := h
 exact ⟨A, n, c, B, m, d, rfl, h1.more hb, h2.more hb⟩
theorem MS.al {w V V' : World} {M : List Nat} {L L' : List (Nat × List Value)} {va vl vh : Value} {x lo hi : Rt} {y : Nat} (h : MS w V M L va vl vh x lo hi) (hb : Below V.heap.size V V') (hf : Fr w V' L') (hy : y = V.heap.size) (hl : y < V'.heap.size) : MS w V' (y :: M) L' va vl vh x lo hi := by
 subst hy
 exact ⟨hf, (h.bel.le hb.size).cons hl, (h.qr.more (Nat.le_refl _)).go hb, (h.ql.more (Nat.le_refl _)).go hb, (h.qh.more (Nat.le_refl _)).go hb, Nat.le_trans h.sz hb.size⟩
theorem QC.keepY {V V' : World} {M : List Nat} {y : Nat} {r : Rt} {p q : Bool} {A B : Option Addr} {n c m d : Nat} (h : QC V (y :: M) r p q A n c B m d) (k : Keeps [y] V V') : QC V' M r p q A n c B m d := by
 have k' : Keeps (y :: M) V V' := k.mono (fun x hx => by simp at hx; simp [hx])
 have hl : ∀ k, k ∈ M → k ∈ y :: M := fun k hk => List.mem_cons_of_mem _ hk
 exact ⟨⟨h.num.neg, (h.num.sl.keep k').less hl⟩, ⟨h.den.neg, (h.den.sl.keep k').less hl⟩⟩
theorem walk5 {p : Prop} (h : p := by
 have hl1 : SlG W1 ((w.heap.size + 1) :: M) B m l regs := (hl.more (b := w.heap.size + 1) (by omega)).go F.out.bl
 have hsm := hl1.small
 clear hl
 obtain ⟨b3, o3, p3, q3, A3, n3, c3, B3, m3, d3, p4, q4, A4, n4, c4, B4, m4, d4, rfl, ⟨h0, h1, h2, h3⟩, ⟨h4, h5, h6, h7⟩, alo, ahi⟩ := hl1.at_ hka
 have hst : MS w W1.drew ((w.heap.size + 1) :: M) _ _ _ _ _ _ _ := ⟨F.out.drew, hM1.le (w' := W1.drew) (Nat.le_refl _), (hx1.qc hr).drew.qw, alo.drew.qw, ahi.drew.qw, by show w.heap.size + 2 ≤ W1.heap.size; have := F.out.ltn 1; omega⟩
 have GS := Hd hst
 have HO := Hd3 oa (decQ_ok hr) sr
 have v0 := stays_drew h0
 have v1 := stays_drew h1
 have v2 := stays_drew h2
 have v3 := stays_drew h3
 have v4 := stays_drew h4
 have v5 := stays_drew h5
 have v6 := stays_drew h6
 have v7 := stays_drew h7
 have v9 := stays_drew (hins 1 _ rfl)
 have v10 := stays_drew (hins 5 _ rfl)
 have v11 := stays_drew (hins 6 _ rfl)
 have v12 := stays_drew (hins 7 _ rfl)
 have v13 := stays_drew (hins 8 _ rfl)
 clear hx1 hM1 alo ahi h0 h1 h2 h3 h4 h5 h6 h7 oa hins hz hl1 sr hr hst
 refine ent Tryz.func66 rfl Tryz.ntmps66 ?_
 gi_wp2
 refine region_E_np [] 26 (by kernel_rfl) (by kernel_rfl) ?_
 refine E_rd 0 ?_; refine E_rd 1 ?_; refine E_rd 2 ?_; refine E_rd 3 ?_; refine E_rd 4 ?_; refine E_rd 5 ?_; refine E_rd 6 ?_; refine E_rd 7 ?_
 refine E_rd 12 ?_; refine E_rd 13 ?_; refine E_rd 14 ?_; refine E_rd 15 ?_; refine E_rd 16 ?_; refine E_rd 17 ?_; refine E_rd 18 ?_; refine E_rd 19 ?_
 clear v0 v1 v2 v3 v4 v5 v6 v7 v9 v10 v11 v12 v13
 obtain ⟨wc, hwc⟩ : ∃ V, W1.drew = V := ⟨_, rfl⟩
 rw [hwc] at GS ⊢
 clear hwc
 iterate 5 (all_goals (refine E_by [8, 11, 20, 23, 25] (A_c ?_ (A_c ?_ (A_c ?_ (A_c ?_ (A_c ?_ A_n))))) <;> (first
  | exact Arm.no
  | (refine Arm.mk 8 fun K hK => ?_
     gi_wp2; refine Cm (qMul_any (a := decQ r) (b := (regG regs ka).1) GS.out.bel GS.out.qr GS.out.ql HO.out.2.1 HO.out.1.1.1 (HO.out.2.2.fine HO.out.1.1.2)) ?_; rintro e wc ⟨v, rfl, z, hb⟩; replace GS := Hd (GS.out.go hb); have RA := Hd z; refine hK _ _ ⟨?_, ?_⟩; clear hK K
     · exact Keeps.of_below hb _
     refine lit ?_; clear z hb
     refine E_rd 9 ?_; refine E_rd 10 ?_)
  | (refine Arm.mk 11 fun K hK => ?_
     gi_wp2; refine Cm (getQ_yes GS.out.bel RA.out) ?_; rintro e wc ⟨v, rfl, z, hb⟩; replace GS := Hd (GS.out.go hb); obtain ⟨p7, q7, A7, n7, c7, B7, m7, d7, rfl, qc⟩ := QC.of z; replace RA := Hd qc; clear qc; refine hK _ _ ⟨?_, ?_⟩; clear hK K
     · exact Keeps.of_below hb _
     refine lit ?_
     clear z hb)
  | (refine Arm.mk 20 fun K hK => ?_
     gi_wp2; refine Cm (qMul_any (a := decQ r) (b := (regG regs ka).2) GS.out.bel GS.out.qr GS.out.qh HO.out.2.1 HO.out.1.2.1 (HO.out.2.2.fine HO.out.1.2.2)) ?_; rintro e wc ⟨v, rfl, z, hb⟩; replace GS := Hd (GS.out.go hb); replace RA := Hd (RA.out.go hb); have RB := Hd z; refine hK _ _ ⟨?_, ?_⟩; clear hK K
     · exact Keeps.of_below hb _
     refine lit ?_; clear z hb
     refine E_rd 21 ?_; refine E_rd 22 ?_)
  | (refine Arm.mk 23 fun K hK => ?_
     gi_wp2; refine Cm (getQ_yes GS.out.bel RB.out) ?_; rintro e wc ⟨v, rfl, z, hb⟩; replace GS := Hd (GS.out.go hb); replace RA := Hd (RA.out.go hb); obtain ⟨p8, q8, A8, n8, c8, B8, m8, d8, rfl, qc⟩ := QC.of z; replace RB := Hd qc; clear qc; refine hK _ _ ⟨?_, ?_⟩; clear hK K
     · exact Keeps.of_below hb _
     refine lit ?_; clear z hb
     refine E_rd 24 ?_)
  | (refine Arm.mk 25 fun K hK => ?_
     obtain ⟨y, hy⟩ : ∃ y, wc.heap.size = y := ⟨_, rfl⟩
     obtain ⟨wc, hV, hb, FV⟩ := nam2 (w := wc) (GS.out.fr.a8 y 33 hy.symm); have hle := Nat.le_of_eq hy; have HY := Hd (hy ▸ GS.out.sz); replace GS := Hd (GS.out.al hb FV hy.symm FV.lst)
     try replace RA := Hd ((RA.out.more hle).go hb)
     try replace RB := Hd ((RB.out.more hle).go hb)
     gi_wp2; refine ⟨Keeps.of_below hb _, ?_⟩; refine lit ?_
     try rw [hy]
     clear FV hV hb hle hy))))
 all_goals
  have FV := GS.out.fr; refine op1 FV ?_; intros; obtain ⟨W6, hW6, F6, hB6, kp6⟩ := Fr.put8 (y := y) FV (by intro b vs hm; have := HY.out; simp at hm; omega) (.bool p7) (.slice A7 n7 c7) (.bool q7) (.slice B7 m7 d7) (.bool p8) (.slice A8 n8 c8) (.bool q8) (.slice B8 m8 d8); refine op1 F6 ?_; intros
  first
   | (have hn := HNEG
      obtain ⟨W7, hW7, F7, hB7, kp7⟩ := Fr.put8 (y := y) F6 (by intro b vs hm; have := HY.out; simp at hm; omega) (.bool p8) (.slice A8 n8 c8) (.bool q8) (.slice B8 m8 d8) (.bool p7) (.slice A7 n7 c7) (.bool q7) (.slice B7 m7 d7); refine op1 F7 ?_; intros; have GF := Hd F7; have HK := Hd (kp6.trans kp7); clear FV F6 hB6 kp6 F7 hB7 kp7
      refine E_nl 1 ?_; refine tls fun K hK K' hK' => ?_; gi_wp2; refine tail_nil _ ?_; simp only [npost]; gi_wp2
      have hz := GF.out.nth 1; obtain ⟨wF, hwF, ⟨t0, t1, t2, t3⟩, ⟨t4, t5, t6, t7⟩, hG, bF⟩ := fin8 (M := M) (hz 0 _ rfl) (hz 1 _ rfl) (hz 2 _ rfl) (hz 3 _ rfl) (hz 4 _ rfl) (hz 5 _ rfl) (hz 6 _ rfl) (hz 7 _ rfl) (x := (_, _)) (RB.out.keepY HK.out) (RA.out.keepY HK.out) GF.out.bl (by omega); rw [hwF]; rw [HE.out]
      exact ⟨rfl, .agg #[.bool p8, .slice A8 n8 c8, .bool q8, .slice B8 m8 d8, .bool p7, .slice A7 n7 c7, .bool q7, .slice B7 m7 d7], by simp [results, go_sem, t0, t1, t2, t3, t4, t5, t6, t7], _, rfl, hG, bF⟩)
   | (skip
      have GF := Hd F6; have HK := Hd kp6; clear FV F6 hB6 kp6
      refine E_nl 1 ?_; refine tls fun K hK K' hK' => ?_; gi_wp2; refine tail_nil _ ?_; simp only [npost]; gi_wp2
      have hz := GF.out.nth 1; obtain ⟨wF, hwF, ⟨t0, t1, t2, t3⟩, ⟨t4, t5, t6, t7⟩, hG, bF⟩ := fin8 (M := M) (hz 0 _ rfl) (hz 1 _ rfl) (hz 2 _ rfl) (hz 3 _ rfl) (hz 4 _ rfl) (hz 5 _ rfl) (hz 6 _ rfl) (hz 7 _ rfl) (x := (_, _)) (RA.out.keepY HK.out) (RB.out.keepY HK.out) GF.out.bl (by omega); rw [hwF]; rw [HE.out]
      exact ⟨rfl, .agg #[.bool p7, .slice A7 n7 c7, .bool q7, .slice B7 m7 d7, .bool p8, .slice A8 n8 c8, .bool q8, .slice B8 m8 d8], by simp [results, go_sem, t0, t1, t2, t3, t4, t5, t6, t7], _, rfl, hG, bF⟩)) : p := h
section
variable {M : List Nat} {A B A1 A2 : Option Addr} {n c m l n1 c1 n2 c2 : Nat} {ins regs : List Rg} {op a b x3 x4 : Int} {r : RatR} {p q : Bool} {w : World}
set_option maxRecDepth 20000 in
set_option maxHeartbeats 16000000 in
theorem stp5_pos {ka : Nat} (hM : Bel M w) (hx : XC w M r false q A1 n1 c1 A2 n2 c2) (hr : ratOk r = true) (sr : Sh (decQ r)) (hl : SlG w M B m l regs) (hka : ka < m) (oa : OkG (regG regs ka)) :
 Calls Tryz.prog 66 #[.agg #[.int .i64 op, .int .i64 (ka : Int), .int .i64 b, .int .i64 x3, .int .i64 x4, .bool false, .slice A1 n1 c1, .bool q, .slice A2 n2 c2], .slice B m l] w (GRet w M (mulG (decQ r) (regG regs ka))) := by
 refine wid ?_
 have hneg : zneg (decQ r).num = false := (hx.qc hr).num.neg
 have HE := Hd (show mulG (decQ r) (regG regs ka) = (mulQ (decQ r) (regG regs ka).1, mulQ (decQ r) (regG regs ka).2) by
  unfold mulG
  rw [if_neg (by simp [zneg] at hneg; omega), mulQ_comm (regG regs ka).1, mulQ_comm (regG regs ka).2])
 obtain ⟨W1, hW1, F1⟩ := nam (((Fr.nil w).a w.heap.size [.int .i64 op, .int .i64 (ka : Int), .int .i64 b, .int .i64 x3, .int .i64 x4, .bool false, .slice A1 n1 c1, .bool q, .slice A2 n2 c2] 55).a8 (w.heap.size + 1) 33)
 have FO := F1
 refine op1 FO ?_; intros
 have hx1 := (hx.more (k := w.heap.size + 1) (by omega)).go F1.bl
 have hM1 : Bel ((w.heap.size + 1) :: M) W1 := (hM.le F1.bl.size).cons (F1.ltn 1)
 have F := Hd F1
 have hins := F1.nth 0
 have hz := F1.nth 1
 clear hx hM F1 FO
 clear hneg
 exact walk5
set_option maxRecDepth 20000 in
set_option maxHeartbeats 16000000 in
theorem stp5_neg {ka : Nat} (hM : Bel M w) (hx : XC w M r true q A1 n1 c1 A2 n2 c2) (hr : ratOk r = true) (sr : Sh (decQ r)) (hl : SlG w M B m l regs) (hka : ka < m) (oa : OkG (regG regs ka)) :
 Calls Tryz.prog 66 #[.agg #[.int .i64 op, .int .i64 (ka : Int), .int .i64 b, .int .i64 x3, .int .i64 x4, .bool true, .slice A1 n1 c1, .bool q, .slice A2 n2 c2], .slice B m l] w (GRet w M (mulG (decQ r) (regG regs ka))) := by
 refine wid ?_
 have hneg : zneg (decQ r).num = true := (hx.qc hr).num.neg
 have HE := Hd (show mulG (decQ r) (regG regs ka) = (mulQ (decQ r) (regG regs ka).2, mulQ (decQ r) (regG regs ka).1) by
  unfold mulG
  rw [if_pos (by simp [zneg] at hneg; omega), mulQ_comm (regG regs ka).1, mulQ_comm (regG regs ka).2])
 obtain ⟨W1, hW1, F1⟩ := nam (((Fr.nil w).a w.heap.size [.int .i64 op, .int .i64 (ka : Int), .int .i64 b, .int .i64 x3, .int .i64 x4, .bool true, .slice A1 n1 c1, .bool q, .slice A2 n2 c2] 55).a8 (w.heap.size + 1) 33)
 have FO := F1
 refine op1 FO ?_; intros
 have hx1 := (hx.more (k := w.heap.size + 1) (by omega)).go F1.bl
 have hM1 : Bel ((w.heap.size + 1) :: M) W1 := (hM.le F1.bl.size).cons (F1.ltn 1)
 have F := Hd F1
 have hins := F1.nth 0
 have hz := F1.nth 1
 clear hx hM F1 FO
 have HNEG := True.intro
 clear hneg
 exact walk5
end
end
section
open Go.RowKit Go.Shelf
theorem Fr.sub {w W : World} {L L' : List (Nat × List Value)} (h : Fr w W L) (hs : ∀ x, x ∈ L' → x ∈ L) : Fr w W L' :=
 ⟨h.bl, fun b vs hm => h.at_ b vs (hs _ hm), fun b vs hm => h.lt b vs (hs _ hm), fun b vs hm => h.ge b vs (hs _ hm)⟩
structure C8 (W : World) (b o : Nat) (v0 v1 v2 v3 v4 v5 v6 v7 : Value) : Prop where
 c0 : W.cell? ⟨b, o, none⟩ = some v0
 c1 : W.cell? ⟨b, o + 1, none⟩ = some v1
 c2 : W.cell? ⟨b, o + 2, none⟩ = some v2
 c3 : W.cell? ⟨b, o + 3, none⟩ = some v3
 c4 : W.cell? ⟨b, o + 4, none⟩ = some v4
 c5 : W.cell? ⟨b, o + 5, none⟩ = some v5
 c6 : W.cell? ⟨b, o + 6, none⟩ = some v6
 c7 : W.cell? ⟨b, o + 7, none⟩ = some v7
theorem C8.lt {W : World} {b o : Nat} {v0 v1 v2 v3 v4 v5 v6 v7 : Value} (h : C8 W b o v0 v1 v2 v3 v4 v5 v6 v7) : b < W.heap.size := World.block_lt_of_cell? W _ h.c0
theorem C8.go {W W' : World} {b o : Nat} {v0 v1 v2 v3 v4 v5 v6 v7 : Value} (h : C8 W b o v0 v1 v2 v3 v4 v5 v6 v7) (hb : Below W.heap.size W W') : C8 W' b o v0 v1 v2 v3 v4 v5 v6 v7 := by
 have hl := h.lt
 exact ⟨(hb.cell (p := ⟨b, o, none⟩) hl).trans h.c0, (hb.cell (p := ⟨b, o + 1, none⟩) hl).trans h.c1, (hb.cell (p := ⟨b, o + 2, none⟩) hl).trans h.c2, (hb.cell (p := ⟨b, o + 3, none⟩) hl).trans h.c3, (hb.cell (p := ⟨b, o + 4, none⟩) hl).trans h.c4, (hb.cell (p := ⟨b, o + 5, none⟩) hl).trans h.c5, (hb.cell (p := ⟨b, o + 6, none⟩) hl).trans h.c6, (hb.cell (p := ⟨b, o + 7, none⟩) hl).trans h.c7⟩
theorem C8.drew {W : World} {b o : Nat} {v0 v1 v2 v3 v4 v5 v6 v7 : Value} (h : C8 W b o v0 v1 v2 v3 v4 v5 v6 v7) : C8 W.drew b o v0 v1 v2 v3 v4 v5 v6 v7 := ⟨h.c0, h.c1, h.c2, h.c3, h.c4, h.c5, h.c6, h.c7⟩
section
variable {M : List Nat} {A B A1 A2 : Option Addr} {n c m l n1 c1 n2 c2 : Nat} {ins regs : List Rg} {op a b x3 x4 : Int} {r : RatR} {p q : Bool} {w : World}
theorem stp5_any (hM : Bel M w) (hx : XC w M r p q A1 n1 c1 A2 n2 c2) (hr : ratOk r = true) (sr : Sh (decQ r)) (hl : SlG w M B m l regs) (ha : belowB a m = true) (oa : OkG (regG regs a)) :
 Calls Tryz.prog 66 #[.agg #[.int .i64 op, .int .i64 a, .int .i64 b, .int .i64 x3, .int .i64 x4, .bool p, .slice A1 n1 c1, .bool q, .slice A2 n2 c2], .slice B m l] w (GRet w M (mulG (decQ r) (regG regs a))) := by
 obtain ⟨ka, rfl, hka⟩ := below_nat ha
 cases p
 · exact stp5_pos hM hx hr sr hl hka oa
 · exact stp5_neg hM hx hr sr hl hka oa
end
end
section
theorem Fr.swap {w W : World} {L : List (Nat × List Value)} {a b : Nat × List Value} (h : Fr w W (L ++ [a] ++ [b])) : Fr w W (L ++ [b] ++ [a]) :=
 h.sub (by intro x hx; simp at hx ⊢; rcases hx with h | rfl | rfl <;> simp [*])
theorem swp (y : Nat) {w W : World} {L : List (Nat × List Value)} {v : List Value} {b : Nat × List Value} (h : Fr w W (L ++ [(y, v)] ++ [b])) : Fr w W (L ++ [b] ++ [(y, v)]) := h.swap
theorem U.C8.st {W : World} {b o s : Nat} {v0 v1 v2 v3 v4 v5 v6 v7 : Value} (h : C8 W b o v0 v1 v2 v3 v4 v5 v6 v7) (hs : W.heap.size = s) :
 (∀ w', U.Keeps s W.drew w' → w'.cell? ⟨b, o, none⟩ = some v0) ∧ (∀ w', U.Keeps s W.drew w' → w'.cell? ⟨b, o + 1, none⟩ = some v1) ∧ (∀ w', U.Keeps s W.drew w' → w'.cell? ⟨b, o + 2, none⟩ = some v2) ∧ (∀ w', U.Keeps s W.drew w' → w'.cell? ⟨b, o + 3, none⟩ = some v3) ∧
 (∀ w', U.Keeps s W.drew w' → w'.cell? ⟨b, o + 4, none⟩ = some v4) ∧ (∀ w', U.Keeps s W.drew w' → w'.cell? ⟨b, o + 5, none⟩ = some v5) ∧ (∀ w', U.Keeps s W.drew w' → w'.cell? ⟨b, o + 6, none⟩ = some v6) ∧ (∀ w', U.Keeps s W.drew w' → w'.cell? ⟨b, o + 7, none⟩ = some v7) :=
 ⟨U.stays_s hs h.c0, U.stays_s hs h.c1, U.stays_s hs h.c2, U.stays_s hs h.c3, U.stays_s hs h.c4, U.stays_s hs h.c5, U.stays_s hs h.c6, U.stays_s hs h.c7⟩
end
namespace U
open Go.RowKit Go.Shelf
attribute [local go_sem] Oper.semAt_some
set_option maxRecDepth 100000 in
theorem walk8 {p : Prop} (h : p := by
 obtain ⟨W1, hW1, F1⟩ := nam (((Fr.nil w).a w.heap.size [.int .i64 op, .int .i64 (ka : Int), .int .i64 (kb : Int), .int .i64 (ky : Int), .int .i64 (kz : Int), .bool p, .slice A1 n1 c1, .bool q, .slice A2 n2 c2] 55).a8 (w.heap.size + 1) 33)
 have FO := F1
 refine op1 FO ?_; intros
 have hx1 := (hx.more (k := w.heap.size + 1) (by omega)).go F1.bl
 have hM1 : Bel ((w.heap.size + 1) :: M) W1 := (hM.le F1.bl.size).cons (F1.ltn 1)
 have F := Hd F1
 have hins := F1.nth 0
 have hz := F1.nth 1
 clear hx hM F1 FO
 have hl1 : SlG W1 ((w.heap.size + 1) :: M) B m l regs := (hl.more (b := w.heap.size + 1) (by omega)).go F.out.bl
 have hsm := hl1.small
 clear hl
 obtain ⟨b3, o3, p3, q3, A3, n3, c3, B3, m3, d3, p4, q4, A4, n4, c4, B4, m4, d4, rfl, ⟨ha0, ha1, ha2, ha3⟩, ⟨ha4, ha5, ha6, ha7⟩, alo, ahi⟩ := hl1.at_ hka
 obtain ⟨b5, o5, p5, q5, A5, n5, c5, B5, m5, d5, p6, q6, A6, n6, c6, B6, m6, d6, e5, ⟨hb0, hb1, hb2, hb3⟩, ⟨hb4, hb5, hb6, hb7⟩, blo, bhi⟩ := hl1.at_ hkb
 obtain ⟨rfl, rfl⟩ : b3 = b5 ∧ o3 = o5 := by simpa using e5
 obtain ⟨b7, o7, p7, q7, A7, n7, c7, B7, m7, d7, p8, q8, A8, n8, c8, B8, m8, d8, e7, ⟨hy0, hy1, hy2, hy3⟩, ⟨hy4, hy5, hy6, hy7⟩, ylo, yhi⟩ := hl1.at_ hky
 obtain ⟨rfl, rfl⟩ : b3 = b7 ∧ o3 = o7 := by simpa using e7
 obtain ⟨b9, o9, p9, q9, A9, n9, c9, B9, m9, d9, p10, q10, A10, n10, c10, B10, m10, d10, e9, ⟨hz0, hz1, hz2, hz3⟩, ⟨hz4, hz5, hz6, hz7⟩, zlo, zhi⟩ := hl1.at_ hkz
 obtain ⟨rfl, rfl⟩ : b3 = b9 ∧ o3 = o9 := by simpa using e9
 have X := Hd7 (And.intro alo ahi) (And.intro blo bhi) (And.intro ylo yhi) (And.intro zlo zhi) (show C8 W1 b3 (o3 + ky * 8) _ _ _ _ _ _ _ _ from ⟨hy0, hy1, hy2, hy3, hy4, hy5, hy6, hy7⟩) (show C8 W1 b3 (o3 + kz * 8) _ _ _ _ _ _ _ _ from ⟨hz0, hz1, hz2, hz3, hz4, hz5, hz6, hz7⟩) hM1
 have HO := Hd4 oa ob oy oz
 obtain ⟨sb1, hsb1⟩ : ∃ s, W1.heap.size = s := ⟨_, rfl⟩
 have Hsb1 := Hd hsb1
 clear hsb1
 obtain ⟨v0, v1, v2, v3, v4, v5, v6, v7⟩ := C8.st (show C8 W1 b3 (o3 + ka * 8) _ _ _ _ _ _ _ _ from ⟨ha0, ha1, ha2, ha3, ha4, ha5, ha6, ha7⟩) Hsb1.out
 obtain ⟨x0', x1', x2', x3', x4', x5', x6', x7'⟩ := C8.st (show C8 W1 b3 (o3 + kb * 8) _ _ _ _ _ _ _ _ from ⟨hb0, hb1, hb2, hb3, hb4, hb5, hb6, hb7⟩) Hsb1.out
 have v8 := stays_s Hsb1.out (hins 1 _ rfl)
 have v9 := stays_s Hsb1.out (hins 2 _ rfl)
 have HSW := Hd (F.out.ltn 1)
 clear hx1 hM1 alo ahi blo bhi ylo yhi zlo zhi hins hz hl1 oa ob oy oz e5 e7 e9 ha0 ha1 ha2 ha3 ha4 ha5 ha6 ha7 hb0 hb1 hb2 hb3 hb4 hb5 hb6 hb7 hy0 hy1 hy2 hy3 hy4 hy5 hy6 hy7 hz0 hz1 hz2 hz3 hz4 hz5 hz6 hz7
 refine ent Tryz.func72 rfl Tryz.ntmps72 ?_
 gi_wp2
 refine region_E_np sb1 13 (by kernel_rfl) (by kernel_rfl) ?_
 refine E_rd 0 ?_; refine E_rd 1 ?_; refine E_rd 2 ?_; refine E_rd 3 ?_; refine E_rd 4 ?_; refine E_rd 5 ?_; refine E_rd 6 ?_; refine E_rd 7 ?_; refine E_rd 8 ?_; refine E_rd 9 ?_
 clear v0 v1 v2 v3 v4 v5 v6 v7 x0' x1' x2' x3' x4' x5' x6' x7' v8 v9
 obtain ⟨wc, hwc⟩ : ∃ V, W1.drew = V := ⟨_, rfl⟩
 have FC := Hd (hwc ▸ F.out.drew)
 have BC := Hd (show Below W1.heap.size W1 wc by rw [← hwc]; exact (Below.refl _ _).drew)
 rw [hwc]
 clear hwc
 iterate 2 (all_goals (refine E_by [10, 11] (A_c ?_ (A_c ?_ A_n)) <;> (first
  | exact Arm.no
  | (refine Arm.mk 10 fun K hK => ?_
     obtain ⟨ya, hy⟩ : ∃ y, wc.heap.size = y := ⟨_, rfl⟩
     have HYya := Hd (hy ▸ BC.out.size)
     try have HN := Hd (show ya ≠ yb from Nat.ne_of_gt (hy ▸ HL.out))
     obtain ⟨wc, hV, hb2, FV⟩ := nam2 (w := wc) (FC.out.a8 ya 33 hy.symm); have HL := Hd FV.lst; replace FC := Hd FV; replace BC := Hd (BC.out.trans (hb2.mono BC.out.size)); gi_wp2; refine ⟨Keeps.of_below hb2 _, ?_⟩; refine lit ?_
     try rw [hy]
     clear FV hV hy hb2)
  | (refine Arm.mk 11 fun K hK => ?_
     obtain ⟨yb, hy⟩ : ∃ y, wc.heap.size = y := ⟨_, rfl⟩
     have HYyb := Hd (hy ▸ BC.out.size)
     try have HN := Hd (show ya ≠ yb from Nat.ne_of_lt (hy ▸ HL.out))
     obtain ⟨wc, hV, hb2, FV⟩ := nam2 (w := wc) (FC.out.a8 yb 33 hy.symm); have HL := Hd FV.lst; replace FC := Hd FV; replace BC := Hd (BC.out.trans (hb2.mono BC.out.size)); gi_wp2; refine ⟨Keeps.of_below hb2 _, ?_⟩; refine lit ?_
     try rw [hy]
     clear FV hV hy hb2))))
 all_goals
  try replace FC := Hd (swp ya FC.out)
  have FC1 := FC.out; refine op1 FC1 ?_; intros; obtain ⟨W3, hW3, F3, hB3, kp3⟩ := Fr.put8 (y := ya) FC.out (by intro b vs hm; have := HSW.out; have := HYya.out; have := HN.out; simp at hm; omega) (.bool p3) (.slice A3 n3 c3) (.bool q3) (.slice B3 m3 d3) (.bool p4) (.slice A4 n4 c4) (.bool q4) (.slice B4 m4 d4); have k3 := Keeps.of_one (s := sb1) kp3 (Hsb1.out ▸ HYya.out); have hcW3 := hB3 W1.heap.size W1 HYya.out BC.out; clear FC1
  refine E_al 12 fun K hK => ?_; gi_wp2
  refine ⟨k3, ?_⟩; refine lit ?_; clear k3 hB3 kp3; have FB := F3.swap; refine op1 FB ?_; intros; obtain ⟨W4, hW4, F4, hB4, kp4⟩ := Fr.put8 (y := yb) FB (by intro b vs hm; have := HSW.out; have := HYyb.out; have := HN.out; simp at hm; omega) (.bool p5) (.slice A5 n5 c5) (.bool q5) (.slice B5 m5 d5) (.bool p6) (.slice A6 n6 c6) (.bool q6) (.slice B6 m6 d6); refine op1 F4 ?_; intros; have K4 := Hd (hB4 W1.heap.size W1 HYyb.out hcW3); have H4 := Hd F4; clear FB F4 hB4 kp4 F3 hcW3
  refine E_nl 1 ?_; refine tls fun K hK K' hK' => ?_; gi_wp2; refine tail_nil _ ?_; simp only [npost]; gi_wp2
  refine Cl 33 (less_any (X.out.2.2.2.2.2.2.le K4.out.size) (X.out.2.1.1.go K4.out).qw (X.out.1.2.go K4.out).qw HO.out.2.1.1.1 HO.out.1.2.1 (HO.out.2.1.1.2.fine HO.out.1.2.2)) ?_; rintro e w5 ⟨he, hbV⟩; rw [HD1.out] at he; subst he; have K5 := Hd (K4.out.trans (hbV.mono K4.out.size)); have H5 := Hd (H4.out.go hbV); refine op1 H5.out ?_; intros; clear hbV
  first
   | (have hn := HD2.out
      clear hn; gi_wp2; refine Cl 33 (less_any (X.out.2.2.2.2.2.2.le K5.out.size) (X.out.2.1.2.go K5.out).qw (X.out.1.1.go K5.out).qw HO.out.2.1.2.1 HO.out.1.1.1 (HO.out.2.1.2.2.fine HO.out.1.1.2)) ?_; rintro e w6 ⟨he, hbV⟩; rw [HD2.out] at he; subst he; have K6 := Hd (K5.out.trans (hbV.mono K5.out.size)); have H6 := Hd (H5.out.go hbV); refine op1 H6.out ?_; intros; clear hbV
      first
       | (have hn : _ = true := HD2.out
          clear hn; obtain ⟨y0, y1, y2, y3, y4, y5, y6, y7⟩ := X.out.2.2.2.2.2.1.go K6.out; have hz := H6.out.nth 1; obtain ⟨wF, hwF, ⟨t0, t1, t2, t3⟩, ⟨t4, t5, t6, t7⟩, hG, bF⟩ := fin8 (M := M) (hz 0 _ rfl) (hz 1 _ rfl) (hz 2 _ rfl) (hz 3 _ rfl) (hz 4 _ rfl) (hz 5 _ rfl) (hz 6 _ rfl) (hz 7 _ rfl) (x := regG regs kz) (X.out.2.2.2.1.1.go K6.out) (X.out.2.2.2.1.2.go K6.out) H6.out.bl (by omega); gi_wp2
          try rw [hwF]
          rw [HE.out]
          exact ⟨rfl, .agg #[.bool p9, .slice A9 n9 c9, .bool q9, .slice B9 m9 d9, .bool p10, .slice A10 n10 c10, .bool q10, .slice B10 m10 d10], by simp [results, go_sem, t0, t1, t2, t3, t4, t5, t6, t7], _, rfl, hG, bF⟩)
       | (obtain ⟨v0, v1, v2, v3, v4, v5, v6, v7⟩ := C8.st (X.out.2.2.2.2.1.go K6.out) rfl
          obtain ⟨x0', x1', x2', x3', x4', x5', x6', x7'⟩ := C8.st (X.out.2.2.2.2.2.1.go K6.out) rfl; have hins := H6.out.nth 0; have v8 := stays_s rfl (hins 3 _ rfl); have v9 := stays_s rfl (hins 4 _ rfl); clear hins; gi_wp2; refine region_E_np w6.heap.size 27 (by kernel_rfl) (by kernel_rfl) ?_; refine E_rd 0 ?_; refine E_rd 1 ?_; refine E_rd 2 ?_; refine E_rd 3 ?_; refine E_rd 4 ?_; refine E_rd 5 ?_; refine E_rd 6 ?_; refine E_rd 7 ?_; refine E_rd 8 ?_; refine E_rd 9 ?_; refine E_rd 10 ?_; refine E_rd 11 ?_; refine E_rd 13 ?_; refine E_rd 14 ?_; refine E_rd 15 ?_; refine E_rd 16 ?_; refine E_rd 17 ?_; refine E_rd 18 ?_; refine E_rd 19 ?_; refine E_rd 20 ?_; refine E_rd 21 ?_; refine E_rd 22 ?_; refine E_rd 23 ?_; refine E_rd 24 ?_
          refine E_al 12 fun K hK => ?_; gi_wp2
          refine Cm (first_less (X.out.2.2.2.2.2.2.le (w' := w6.drew) K6.out.size) (X.out.2.2.1.1.go K6.out).drew.qw (X.out.2.2.2.1.1.go K6.out).drew.qw HO.out.2.2.1.1.1 HO.out.2.2.2.1.1 (HO.out.2.2.1.1.2.fine HO.out.2.2.2.1.2)) ?_; rintro e w7 ⟨u7, rfl, z7, hb7⟩; obtain ⟨p11, q11, A11, n11, c11, B11, m11, d11, rfl, qc7⟩ := QC.of z7; have G7 := Hd2 qc7 hb7; refine hK _ _ ⟨?_, ?_⟩; clear hK K
          · exact Keeps.of_below hb7 _
          refine lit ?_; clear z7 hb7 qc7
          refine E_al 25 fun K hK => ?_; gi_wp2
          refine Cm (first_more ((X.out.2.2.2.2.2.2.le (w' := w6.drew) K6.out.size).le G7.out.2.size) ((X.out.2.2.1.2.go K6.out).drew.go G7.out.2).qw ((X.out.2.2.2.1.2.go K6.out).drew.go G7.out.2).qw HO.out.2.2.1.2.1 HO.out.2.2.2.2.1 (HO.out.2.2.1.2.2.fine HO.out.2.2.2.2.2)) ?_; rintro e w8 ⟨u8, rfl, z8, hb8⟩; obtain ⟨p12, q12, A12, n12, c12, B12, m12, d12, rfl, qc8⟩ := QC.of z8; have F8 := H6.out.drew.go (G7.out.2.trans (hb8.mono G7.out.2.size)); refine op1 F8 ?_; intros; have G8 := Hd3 F8 (G7.out.1.go hb8) qc8; refine hK _ _ ⟨?_, ?_⟩; clear hK K
          · exact Keeps.of_below hb8 _
          refine lit ?_; clear z8 hb8 qc8 F8; refine E_rd 26 ?_
          refine E_nl 1 ?_; refine tls fun K hK K' hK' => ?_; gi_wp2; refine tail_nil _ ?_; simp only [npost]; gi_wp2
          have hz := G8.out.1.nth 1; obtain ⟨wF, hwF, ⟨t0, t1, t2, t3⟩, ⟨t4, t5, t6, t7⟩, hG, bF⟩ := fin8 (M := M) (hz 0 _ rfl) (hz 1 _ rfl) (hz 2 _ rfl) (hz 3 _ rfl) (hz 4 _ rfl) (hz 5 _ rfl) (hz 6 _ rfl) (hz 7 _ rfl) (x := (_, _)) G8.out.2.1 G8.out.2.2 G8.out.1.bl (by omega); rw [hwF]; rw [HE.out]
          exact ⟨rfl, .agg #[.bool p11, .slice A11 n11 c11, .bool q11, .slice B11 m11 d11, .bool p12, .slice A12 n12 c12, .bool q12, .slice B12 m12 d12], by simp [results, go_sem, t0, t1, t2, t3, t4, t5, t6, t7], _, rfl, hG, bF⟩))
   | (skip
      obtain ⟨y0, y1, y2, y3, y4, y5, y6, y7⟩ := X.out.2.2.2.2.1.go K5.out; have hz := H5.out.nth 1; obtain ⟨wF, hwF, ⟨t0, t1, t2, t3⟩, ⟨t4, t5, t6, t7⟩, hG, bF⟩ := fin8 (M := M) (hz 0 _ rfl) (hz 1 _ rfl) (hz 2 _ rfl) (hz 3 _ rfl) (hz 4 _ rfl) (hz 5 _ rfl) (hz 6 _ rfl) (hz 7 _ rfl) (x := regG regs ky) (X.out.2.2.1.1.go K5.out) (X.out.2.2.1.2.go K5.out) H5.out.bl (by omega); gi_wp2
      try rw [hwF]
      rw [HE.out]
      exact ⟨rfl, .agg #[.bool p7, .slice A7 n7 c7, .bool q7, .slice B7 m7 d7, .bool p8, .slice A8 n8 c8, .bool q8, .slice B8 m8 d8], by simp [results, go_sem, t0, t1, t2, t3, t4, t5, t6, t7], _, rfl, hG, bF⟩)) : p := h
section
variable {M : List Nat} {A B A1 A2 : Option Addr} {n c m l n1 c1 n2 c2 : Nat} {ins regs : List Rg} {op a b x3 x4 : Int} {r : RatR} {p q : Bool} {w : World}
set_option maxRecDepth 20000 in
set_option maxHeartbeats 16000000 in
theorem stp8_1 {ka kb ky kz : Nat} (hM : Bel M w) (hx : XC w M r p q A1 n1 c1 A2 n2 c2) (hl : SlG w M B m l regs) (hka : ka < m) (hkb : kb < m) (hky : ky < m) (hkz : kz < m) (oa : OkG (regG regs ka)) (ob : OkG (regG regs kb)) (oy : OkG (regG regs ky)) (oz : OkG (regG regs kz)) (g1 : ¬ cmpQ (regG regs kb).1 (regG regs ka).2 < 0) :
 Calls Tryz.prog 72 #[.agg #[.int .i64 op, .int .i64 (ka : Int), .int .i64 (kb : Int), .int .i64 (ky : Int), .int .i64 (kz : Int), .bool p, .slice A1 n1 c1, .bool q, .slice A2 n2 c2], .slice B m l] w (GRet w M (selG (regG regs ka) (regG regs kb) (regG regs ky) (regG regs kz))) := by
 refine wid ?_
 have HE := Hd (show selG (regG regs ka) (regG regs kb) (regG regs ky) (regG regs kz) = regG regs ky by unfold selG; rw [if_pos g1])
 have HD1 := Hd (decide_eq_false g1)
 clear g1
 exact walk8
set_option maxRecDepth 20000 in
set_option maxHeartbeats 16000000 in
theorem stp8_2 {ka kb ky kz : Nat} (hM : Bel M w) (hx : XC w M r p q A1 n1 c1 A2 n2 c2) (hl : SlG w M B m l regs) (hka : ka < m) (hkb : kb < m) (hky : ky < m) (hkz : kz < m) (oa : OkG (regG regs ka)) (ob : OkG (regG regs kb)) (oy : OkG (regG regs ky)) (oz : OkG (regG regs kz)) (g1 : cmpQ (regG regs kb).1 (regG regs ka).2 < 0) (g2 : cmpQ (regG regs kb).2 (regG regs ka).1 < 0) :
 Calls Tryz.prog 72 #[.agg #[.int .i64 op, .int .i64 (ka : Int), .int .i64 (kb : Int), .int .i64 (ky : Int), .int .i64 (kz : Int), .bool p, .slice A1 n1 c1, .bool q, .slice A2 n2 c2], .slice B m l] w (GRet w M (selG (regG regs ka) (regG regs kb) (regG regs ky) (regG regs kz))) := by
 refine wid ?_
 have HE := Hd (show selG (regG regs ka) (regG regs kb) (regG regs ky) (regG regs kz) = regG regs kz by unfold selG; rw [if_neg (fun h => h g1), if_pos g2])
 have HD1 := Hd (decide_eq_true g1)
 have HD2 := Hd (decide_eq_true g2)
 clear g1 g2
 exact walk8
set_option maxRecDepth 20000 in
set_option maxHeartbeats 16000000 in
theorem stp8_3 {ka kb ky kz : Nat} (hM : Bel M w) (hx : XC w M r p q A1 n1 c1 A2 n2 c2) (hl : SlG w M B m l regs) (hka : ka < m) (hkb : kb < m) (hky : ky < m) (hkz : kz < m) (oa : OkG (regG regs ka)) (ob : OkG (regG regs kb)) (oy : OkG (regG regs ky)) (oz : OkG (regG regs kz)) (g1 : cmpQ (regG regs kb).1 (regG regs ka).2 < 0) (g2 : ¬ cmpQ (regG regs kb).2 (regG regs ka).1 < 0) :
 Calls Tryz.prog 72 #[.agg #[.int .i64 op, .int .i64 (ka : Int), .int .i64 (kb : Int), .int .i64 (ky : Int), .int .i64 (kz : Int), .bool p, .slice A1 n1 c1, .bool q, .slice A2 n2 c2], .slice B m l] w (GRet w M (selG (regG regs ka) (regG regs kb) (regG regs ky) (regG regs kz))) := by
 refine wid ?_
 have HE := Hd (show selG (regG regs ka) (regG regs kb) (regG regs ky) (regG regs kz) = (minT (regG regs ky).1 (regG regs kz).1, maxT (regG regs ky).2 (regG regs kz).2) by unfold selG; rw [if_neg (fun h => h g1), if_neg g2])
 have HD1 := Hd (decide_eq_true g1)
 have HD2 := Hd (decide_eq_false g2)
 clear g1 g2
 exact walk8
end
end U
section
open Go.RowKit Go.Shelf
section
variable {M : List Nat} {A B A1 A2 : Option Addr} {n c m l n1 c1 n2 c2 : Nat} {ins regs : List Rg} {op a b x3 x4 : Int} {r : RatR} {p q : Bool} {w : World}
theorem stp8_any (hM : Bel M w) (hx : XC w M r p q A1 n1 c1 A2 n2 c2) (hl : SlG w M B m l regs) (ha : belowB a m = true) (hb : belowB b m = true) (hy : belowB x3 m = true) (hz : belowB x4 m = true) (oa : OkG (regG regs a)) (ob : OkG (regG regs b)) (oy : OkG (regG regs x3)) (oz : OkG (regG regs x4)) :
 Calls Tryz.prog 72 #[.agg #[.int .i64 op, .int .i64 a, .int .i64 b, .int .i64 x3, .int .i64 x4, .bool p, .slice A1 n1 c1, .bool q, .slice A2 n2 c2], .slice B m l] w (GRet w M (selG (regG regs a) (regG regs b) (regG regs x3) (regG regs x4))) := by
 obtain ⟨ka, rfl, hka⟩ := below_nat ha
 obtain ⟨kb, rfl, hkb⟩ := below_nat hb
 obtain ⟨ky, rfl, hky⟩ := below_nat hy
 obtain ⟨kz, rfl, hkz⟩ := below_nat hz
 by_cases g1 : cmpQ (regG regs kb).1 (regG regs ka).2 < 0
 · by_cases g2 : cmpQ (regG regs kb).2 (regG regs ka).1 < 0
   · exact U.stp8_2 hM hx hl hka hkb hky hkz oa ob oy oz g1 g2
   · exact U.stp8_3 hM hx hl hka hkb hky hkz oa ob oy oz g1 g2
 · exact U.stp8_1 hM hx hl hka hkb hky hkz oa ob oy oz g1
end
end
end Go.Proofs.YtboapndkopabiaaGreat
