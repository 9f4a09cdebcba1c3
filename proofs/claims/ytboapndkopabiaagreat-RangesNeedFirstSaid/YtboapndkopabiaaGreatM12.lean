/- Lemmas and walks (Nat15 Nat16 Nat19). No statement is proved here. -/
import Derived.Test.YtboapndkopabiaaGreatM11
set_option linter.unusedVariables false
set_option linter.unusedSimpArgs false
namespace Go.Proofs.YtboapndkopabiaaGreat
section
open Go.RowKit Go.Shelf
attribute [local go_sem] Oper.semAt_some
structure F4 (w W : World) (na nb : Bool) (va vb : Value) : Prop where
 a0 : W.cell? ⟨w.heap.size, 0, none⟩ = some (.bool na)
 a1 : W.cell? ⟨w.heap.size, 1, none⟩ = some va
 b0 : W.cell? ⟨w.heap.size + 1, 0, none⟩ = some (.bool nb)
 b1 : W.cell? ⟨w.heap.size + 1, 1, none⟩ = some vb
 x0 : W.cell? ⟨w.heap.size + 1 + 1, 0, none⟩ = some (.bool false)
 x1 : W.cell? ⟨w.heap.size + 1 + 1, 1, none⟩ = some (.slice none 0 0)
 e0 : W.cell? ⟨w.heap.size + 1 + 1 + 1, 0, none⟩ = some (.int .i64 0)
 f0 : W.frozen? ⟨w.heap.size + 1 + 1, 0, none⟩ = false
 f1 : W.frozen? ⟨w.heap.size + 1 + 1, 1, none⟩ = false
 fe : W.frozen? ⟨w.heap.size + 1 + 1 + 1, 0, none⟩ = false
 bl : Below w.heap.size w W
 sz : w.heap.size + 4 ≤ W.heap.size
theorem F4.go {w W W' : World} {na nb : Bool} {va vb : Value} (h : F4 w W na nb va vb) (hb : Below W.heap.size W W') : F4 w W' na nb va vb := by
 have hs := h.sz
 have c : ∀ (k o : Nat) (u : Value), k < w.heap.size + 4 → W.cell? ⟨k, o, none⟩ = some u → W'.cell? ⟨k, o, none⟩ = some u := fun k o u hk hu => (hb.cell (p := ⟨k, o, none⟩) (show k < _ by omega)).trans hu
 have f : ∀ (k o : Nat), k < w.heap.size + 4 → W.frozen? ⟨k, o, none⟩ = false → W'.frozen? ⟨k, o, none⟩ = false := fun k o hk hu => (hb.frozen (p := ⟨k, o, none⟩) (show k < _ by omega)).trans hu
 exact ⟨c _ _ _ (by omega) h.a0, c _ _ _ (by omega) h.a1, c _ _ _ (by omega) h.b0, c _ _ _ (by omega) h.b1, c _ _ _ (by omega) h.x0, c _ _ _ (by omega) h.x1, c _ _ _ (by omega) h.e0, f _ _ (by omega) h.f0, f _ _ (by omega) h.f1, f _ _ (by omega) h.fe, h.bl.trans (hb.mono h.bl.size), by have := hb.size; omega⟩
theorem F4.start (w : World) (na nb : Bool) (va vb : Value) (ha : va.cells = #[va]) (hb : vb.cells = #[vb]) :
 F4 w ((((w.alloc (.cells #[.bool na, va] 29)).alloc (.cells #[.bool nb, vb] 29)).alloc (.cells #[.bool false, .slice none 0 0] 29)).alloc (.cells #[.int .i64 0] 34)) na nb va vb := by
 refine ⟨by simp [go_sem], by simp [go_sem], by simp [go_sem], by simp [go_sem], by simp [go_sem], by simp [go_sem], by simp [go_sem], by simp [go_sem], by simp [go_sem], by simp [go_sem], by exact bel, by simp⟩
theorem Sl.bigs2 {w : World} {M : List Nat} (hM : Bel M w) {A B : Option Addr} {n c m d : Nat} {na nb : Bool} {la lb : List Int} (h1 : Sl Int w M A n c la) (h2 : Sl Int w M B m d lb) :
 Sl BigR (w.alloc (.cells #[.bool na, .slice A n c, .bool nb, .slice B m d] 29)) M (some ⟨w.heap.size, 0, none⟩) 2 2 [(na, la), (nb, lb)] := by
 have hb : Below w.heap.size w (w.alloc (.cells #[.bool na, .slice A n c, .bool nb, .slice B m d] 29)) := by exact bel
 have hm : w.heap.size ∉ M := fun e => by have := hM _ e; omega
 refine ⟨rfl, Nat.le_refl _, by simp [capOk], by omega, .inr ⟨w.heap.size, 0, rfl, fun k x hk => ?_⟩⟩
 match k, hk with
 | 0, hk =>
   cases hk
   exact ⟨[.bool na, .slice A n c], ⟨[.bool na], [.slice A n c], rfl, rfl, A, n, c, rfl, h1.keep (Keeps.of_below hb M)⟩, hm, fun j u hu => by
    match j, hu with
    | 0, hu => cases hu; simp [go_sem]
    | 1, hu => cases hu; simp [go_sem]⟩
 | 1, hk =>
   cases hk
   exact ⟨[.bool nb, .slice B m d], ⟨[.bool nb], [.slice B m d], rfl, rfl, B, m, d, rfl, h2.keep (Keeps.of_below hb M)⟩, hm, fun j u hu => by
    match j, hu with
    | 0, hu => cases hu; simp [go_sem, show Rep.sz BigR = 2 from rfl]
    | 1, hu => cases hu; simp [go_sem, show Rep.sz BigR = 2 from rfl]⟩
set_option maxHeartbeats 2000000 in
theorem nMul_any {M : List Nat} {va vb : Value} {a b : Int} {w : World} (hM : Bel M w) (ha : ZV w M va a) (hb : ZV w M vb b) (fa : fits a = true) (fb : fits b = true) :
 Calls Tryz.prog 95 #[va, vb] w (ZR w M (a * b)) := by
 refine wid ?_
 obtain ⟨A, n, c, rfl, hx⟩ := ha
 obtain ⟨B, m, d, rfl, hy⟩ := hb
 have hn : n ≤ 2048 := by have h := of_decide_eq_true fa; rw [hx.dlen] at h; exact h
 have hm : m ≤ 2048 := by have h := of_decide_eq_true fb; rw [hy.dlen] at h; exact h
 obtain ⟨na, hna⟩ : ∃ na, zneg a = na := ⟨_, rfl⟩
 obtain ⟨nb, hnb⟩ : ∃ nb, zneg b = nb := ⟨_, rfl⟩
 have hres : bigM (na != nb) (a.natAbs * b.natAbs) = a * b := by rw [← hna, ← hnb]; exact mul_big a b
 rw [hna, hnb]
 obtain ⟨W1, hW1⟩ : ∃ W1 : World, (((w.alloc (.cells #[.bool na, .slice A n c] 29)).alloc (.cells #[.bool nb, .slice B m d] 29)).alloc (.cells #[.bool false, .slice none 0 0] 29)).alloc (.cells #[.int .i64 0] 34) = W1 := ⟨_, rfl⟩
 have F1 : F4 w W1 na nb (.slice A n c) (.slice B m d) := by rw [← hW1]; exact F4.start w na nb _ _ rfl rfl
 have hx2 := ((hx.more (b := w.heap.size + 1 + 1 + 1) (by omega)).more (b := w.heap.size + 1 + 1) (by omega)).keep (Keeps.of_below F1.bl _)
 have hy2 := ((hy.more (b := w.heap.size + 1 + 1 + 1) (by omega)).more (b := w.heap.size + 1 + 1) (by omega)).keep (Keeps.of_below F1.bl _)
 have hM2 : Bel ((w.heap.size + 1 + 1) :: (w.heap.size + 1 + 1 + 1) :: M) W1 := fun k hk => by
  have := F1.sz; simp only [List.mem_cons] at hk
  rcases hk with rfl | rfl | hk
  · omega
  · omega
  · have := hM k hk; omega
 have X := Hd3 hx2 hy2 hM2
 have F := Hd F1
 have HZ := Hd2 hna hnb
 have HF := Hd2 fa fb
 have e0 := F1.a0
 have e1 := F1.a1
 have e2 := F1.b0
 have e3 := F1.b1
 have SB : Sl BigR (W1.alloc (.cells #[.bool na, .slice A n c, .bool nb, .slice B m d] 29)) ((w.heap.size + 1 + 1) :: (w.heap.size + 1 + 1 + 1) :: M) (some ⟨W1.heap.size, 0, none⟩) 2 2 ([a, b].map encB) := by
  have e : [a, b].map encB = [(na, ints (zmag a)), (nb, ints (zmag b))] := by simp [encB, hna, hnb]
  rw [e]; exact Sl.bigs2 hM2 hx2 hy2
 have HSB := Hd SB
 clear hx hy hM hx2 hy2 hM2 F1 hna hnb fa fb SB
 refine entd Tryz.func95 rfl Tryz.ntmps95 ?_
 gi_wp2_with (refine Cl 97 (checks_any _ 2 2 [a, b] _ HSB.out (by simp [HF.out.1, HF.out.2])) ?_; rintro e w2 ⟨rfl, hb2⟩; have hb3 : Below W1.heap.size W1 w2 := ((Below.refl W1.heap.size W1).alloc (Nat.le_refl _) (.cells #[.bool na, .slice A n c, .bool nb, .slice B m d] 29)).trans (hb2.mono (by simp)); have F2 := F.out.go hb3; have v0 := stays_drew F2.a0; have v1 := stays_drew F2.a1; have v2 := stays_drew F2.b0; have v3 := stays_drew F2.b1; have G2 := Hd2 F2 hb3; clear hb2 hb3 F2)
 refine wpIn_region_tq [] 10 3 [0,1,2,3,4,5,6,7,8,9] (by kernel_rfl) (by kernel_rfl) rfl ?_
 repeat ((first | refine ord_rd ?_ | refine ord_sk ?_ | refine ord_cs ?_))
 refine ord_step fun K hK => ordStep_call rfl rfl wy fun K' hK' => ?_; gi_wp2
 refine Cm (nmul_any (x := a.natAbs) (y := b.natAbs) (X.out.2.2.le (w' := w2.drew) G2.out.2.size) ((X.out.1.go G2.out.2).keep (Keeps.refl _ _).drew) ((X.out.2.1.go G2.out.2).keep (Keeps.refl _ _).drew) (by omega) (by omega)) ?_
 rintro e w3 ⟨A3, n3, c3, rfl, hs3, hb3⟩
 have G3 := Hd2 hs3 hb3
 clear hs3
 refine hK' _ _ ⟨?_, hK _ _ ?_⟩; clear hK' K' hK K
 · exact Keeps.of_below hb3 []
 refine lit ?_
 clear hb3 v0 v1 v2 v3
 refine ord_nil ?_
 have F3 := (show F4 w w2.drew na nb (.slice A n c) (.slice B m d) from ⟨G2.out.1.a0, G2.out.1.a1, G2.out.1.b0, G2.out.1.b1, G2.out.1.x0, G2.out.1.x1, G2.out.1.e0, G2.out.1.f0, G2.out.1.f1, G2.out.1.fe, G2.out.1.bl.drew, G2.out.1.sz⟩).go G3.out.2
 have HF3 := Hd F3
 have hM3 : Bel ((w.heap.size + 1 + 1) :: (w.heap.size + 1 + 1 + 1) :: M) w3 := X.out.2.2.le (Nat.le_trans G2.out.2.size G3.out.2.size)
 clear F3
 cases hf : fits (a * b)
 · have Z := Hd2 (limI_no hf) (limZ_no hf)
   refine tail_step fun K hK => ?_
   refine tailStep_op rfl ?_ (fun K' hK' => ?_)
   (focus exact wy)
   gi_wp2; rw [show (!na == nb) = (na != nb) from by cases na <;> cases nb <;> rfl]; refine Cm (big_lim (v := a.natAbs * b.natAbs) G3.out.1 (good_dig _) (val_dig _) (by rw [hres]; exact hf)) ?_; rintro e w4 ⟨rfl, hb4⟩; have F4' := HF3.out.go hb4; refine leavesIn_cons (f := 96) (args := #[.pointer (some ⟨w.heap.size + 1 + 1 + 1, 0, none⟩)]) (by simp) (by simp) (by simp [go_sem]) (fun _ _ => trivial) ?_; refine (caught_pan ⟨w.heap.size + 1 + 1 + 1, 0, none⟩ 2 0 [] _ F4'.e0 F4'.fe).mono ?_; rintro e u' w'' ⟨rfl, rfl, rfl⟩; have c0 := F4'.x0; have c1 := F4'.x1; have c2 := F4'.e0; refine ⟨.tuple #[.agg #[.bool false, .slice none 0 0], .int .i64 2], ?_, .agg #[.bool false, .slice none 0 0], by rw [Z.out.1], by rw [Z.out.2]; exact ZV.zero _ _, F4'.bl.setCell (p := ⟨w.heap.size + 1 + 1 + 1, 0, none⟩) (by simp; omega) _⟩
   simp [results, Tryz.results95, go_sem, c0, c1, c2]
 · have Z := Hd2 (limI_ok hf) (limZ_ok hf)
   refine tail_step fun K hK => ?_
   refine tailStep_op rfl ?_ (fun K' hK' => ?_)
   (focus exact wy)
   gi_wp2; rw [show (!na == nb) = (na != nb) from by cases na <;> cases nb <;> rfl]; refine Cm (big_ok (v := a.natAbs * b.natAbs) hM3 G3.out.1 (good_dig _) (val_dig _) (by rw [hres]; exact hf)) ?_; rintro e w4 ⟨u, rfl, ⟨A4, n4, c4, rfl, hs4⟩, hb4⟩; rw [hres] at hs4 ⊢; have F4' := HF3.out.go hb4; have H4 := Hd2 hs4 F4'; have c0 := F4'.x0; have c1 := F4'.x1; have c2 := F4'.e0; have d0 := F4'.f0; have d1 := F4'.f1; have d2 := F4'.fe; clear hs4 F4' hb4; refine hK' _ _ (hK _ _ ?_); clear hK' K' hK K; refine lit ?_
   refine tls fun K hK K' hK' => ?_; gi_wp2
   refine tls fun K hK K' hK' => ?_; gi_wp2
   refine tail_nil _ ?_; gi_wp2
   obtain ⟨wF, hwF⟩ : ∃ wF : World, ((w4.setCell ⟨w.heap.size + 1 + 1, 0, none⟩ (.bool (zneg (a * b)))).setCell ⟨w.heap.size + 1 + 1, 1, none⟩ (.slice A4 n4 c4)).setCell ⟨w.heap.size + 1 + 1 + 1, 0, none⟩ (.int .i64 0) = wF := ⟨_, rfl⟩
   have kF : Keeps ((w.heap.size + 1 + 1) :: (w.heap.size + 1 + 1 + 1) :: M) w4 wF := by
    rw [← hwF]; exact (((Keeps.refl _ _).setCell (p := ⟨w.heap.size + 1 + 1, 0, none⟩) (.inl (by simp)) _).setCell (p := ⟨w.heap.size + 1 + 1, 1, none⟩) (.inl (by simp)) _).setCell (p := ⟨w.heap.size + 1 + 1 + 1, 0, none⟩) (.inl (by simp)) _
   have bF : Below w.heap.size w wF := by
    rw [← hwF]; exact ((H4.out.2.bl.setCell (p := ⟨w.heap.size + 1 + 1, 0, none⟩) (by simp; omega) _).setCell (p := ⟨w.heap.size + 1 + 1, 1, none⟩) (by simp; omega) _).setCell (p := ⟨w.heap.size + 1 + 1 + 1, 0, none⟩) (by simp; omega) _
   have r0 : wF.cell? ⟨w.heap.size + 1 + 1, 0, none⟩ = some (.bool (zneg (a * b))) := by rw [← hwF]; simp [go_sem, c0, c1, c2]
   have r1 : wF.cell? ⟨w.heap.size + 1 + 1, 1, none⟩ = some (.slice A4 n4 c4) := by rw [← hwF]; simp [go_sem, c0, c1, c2]
   have r2 : wF.cell? ⟨w.heap.size + 1 + 1 + 1, 0, none⟩ = some (.int .i64 0) := by rw [← hwF]; simp [go_sem, c0, c1, c2]
   refine leavesIn_cons (f := 96) (args := #[.pointer (some ⟨w.heap.size + 1 + 1 + 1, 0, none⟩)]) (by simp) (by simp) (by simp [go_sem]) (fun _ _ => trivial) ?_; rw [hwF]; refine (caught_idle ⟨w.heap.size + 1 + 1 + 1, 0, none⟩ _).mono ?_; rintro e u' w'' ⟨rfl, rfl, rfl⟩; refine ⟨.tuple #[.agg #[.bool (zneg (a * b)), .slice A4 n4 c4], .int .i64 0], ?_, _, by rw [Z.out.1], by rw [Z.out.2]; exact ⟨A4, n4, c4, rfl, (H4.out.1.keep kF).less (fun k hk => by simp [hk])⟩, bF⟩
   simp [results, Tryz.results95, go_sem, r0, r1, r2]
end
section
open Go.RowKit Go.Shelf
attribute [local go_sem] Oper.semAt_some
structure F1 (w W : World) : Prop where
 x0 : W.cell? ⟨w.heap.size, 0, none⟩ = some (.bool false)
 x1 : W.cell? ⟨w.heap.size, 1, none⟩ = some (.slice none 0 0)
 f0 : W.frozen? ⟨w.heap.size, 0, none⟩ = false
 f1 : W.frozen? ⟨w.heap.size, 1, none⟩ = false
 bl : Below w.heap.size w W
 sz : w.heap.size + 1 ≤ W.heap.size
theorem F1.go {w W W' : World} (h : F1 w W) (hb : Below W.heap.size W W') : F1 w W' := by
 have hs := h.sz
 exact ⟨(hb.cell (p := ⟨w.heap.size, 0, none⟩) (show w.heap.size < _ by omega)).trans h.x0, (hb.cell (p := ⟨w.heap.size, 1, none⟩) (show w.heap.size < _ by omega)).trans h.x1, (hb.frozen (p := ⟨w.heap.size, 0, none⟩) (show w.heap.size < _ by omega)).trans h.f0, (hb.frozen (p := ⟨w.heap.size, 1, none⟩) (show w.heap.size < _ by omega)).trans h.f1, h.bl.trans (hb.mono h.bl.size), by have := hb.size; omega⟩
theorem F1.start (w : World) : F1 w (w.alloc (.cells #[.bool false, .slice none 0 0] 29)) := ⟨by simp [go_sem], by simp [go_sem], by simp [go_sem], by simp [go_sem], by exact bel, by simp⟩
theorem F1.fin {w W : World} {M : List Nat} (h : F1 w W) {q : Bool} {A : Option Addr} {n c : Nat} {z : Int} (hz : ZV W (w.heap.size :: M) (.agg #[.bool q, .slice A n c]) z) :
 ZV ((W.setCell ⟨w.heap.size, 0, none⟩ (.bool q)).setCell ⟨w.heap.size, 1, none⟩ (.slice A n c)) M (.agg #[.bool q, .slice A n c]) z ∧ Below w.heap.size w ((W.setCell ⟨w.heap.size, 0, none⟩ (.bool q)).setCell ⟨w.heap.size, 1, none⟩ (.slice A n c)) := by
 obtain ⟨A', n', c', e, hs⟩ := hz
 refine ⟨⟨A', n', c', e, (hs.keep (((Keeps.refl _ W).setCell (p := ⟨w.heap.size, 0, none⟩) (.inl (by simp)) _).setCell (p := ⟨w.heap.size, 1, none⟩) (.inl (by simp)) _)).less (fun k hk => List.mem_cons_of_mem _ hk)⟩, ?_⟩
 exact (h.bl.setCell (p := ⟨w.heap.size, 0, none⟩) (Nat.le_refl _) _).setCell (p := ⟨w.heap.size, 1, none⟩) (Nat.le_refl _) _
theorem sum_less {a b : Int} (h : zneg a ≠ zneg b) (fa : fits a = true) (fb : fits b = true) : fits (a + b) = true := by
 have h2 : ¬ ((a < 0) ↔ (b < 0)) := fun e => h (decide_eq_decide.2 e)
 rcases Int.lt_or_le a.natAbs b.natAbs with c | c
 · exact fits_mono (show (a + b).natAbs ≤ b.natAbs by omega) fb
 · exact fits_mono (show (a + b).natAbs ≤ a.natAbs by omega) fa
theorem big_at {M : List Nat} {A : Option Addr} {n c v : Nat} {neg : Bool} {z : Int} {w : World} (hM : Bel M w) (hx : Sl Int w M A n c (ints (dig v))) (hz : bigM neg v = z) (hf : fits z = true) :
 Calls Tryz.prog 109 #[.bool neg, .slice A n c] w fun e w' => ∃ q A4 n4 c4, e = .returned (.agg #[.bool q, .slice A4 n4 c4]) ∧ ZV w' M (.agg #[.bool q, .slice A4 n4 c4]) z ∧ Below w.heap.size w w' := by
 subst hz
 refine (big_ok hM hx (good_dig _) (val_dig _) hf).mono ?_
 rintro e w' ⟨u, rfl, ⟨A4, n4, c4, rfl, hs⟩, hb⟩
 exact ⟨_, A4, n4, c4, rfl, ⟨A4, n4, c4, rfl, hs⟩, hb⟩
theorem big_no {M : List Nat} {A : Option Addr} {n c v : Nat} {neg : Bool} {z : Int} {w : World} (hx : Sl Int w M A n c (ints (dig v))) (hz : bigM neg v = z) (hf : fits z = false) :
 Calls Tryz.prog 109 #[.bool neg, .slice A n c] w fun e w' => e = panE 2 ∧ Below w.heap.size w w' := by
 subst hz
 exact big_lim hx (good_dig _) (val_dig _) hf
set_option maxHeartbeats 2000000 in
theorem signed_any {M : List Nat} {A B : Option Addr} {n c m d : Nat} {a b : Int} {w : World} (hM : Bel M w) (hx : Sl Int w M A n c (ints (zmag a))) (hy : Sl Int w M B m d (ints (zmag b))) (fa : fits a = true) (fb : fits b = true) :
 Calls Tryz.prog 127 #[.bool (zneg a), .slice A n c, .bool (zneg b), .slice B m d] w fun e w' => (fits (a + b) = true → ∃ q A4 n4 c4, e = .returned (.agg #[.bool q, .slice A4 n4 c4]) ∧ ZV w' M (.agg #[.bool q, .slice A4 n4 c4]) (a + b)) ∧ (fits (a + b) = false → e = panE 2) ∧ Below w.heap.size w w' := by
 refine wid ?_
 have hn : n ≤ 2048 := by have h := of_decide_eq_true fa; rw [hx.dlen] at h; exact h
 have hm : m ≤ 2048 := by have h := of_decide_eq_true fb; rw [hy.dlen] at h; exact h
 have hM2 : Bel (w.heap.size :: M) (w.alloc (.cells #[.bool false, .slice none 0 0] 29)) := fun k hk => by
  simp only [List.mem_cons] at hk
  rcases hk with rfl | hk
  · simp
  · have := hM k hk; simp; omega
 obtain ⟨W1, hW1⟩ : ∃ W1 : World, w.alloc (.cells #[.bool false, .slice none 0 0] 29) = W1 := ⟨_, rfl⟩
 have f1 : F1 w W1 := by rw [← hW1]; exact F1.start w
 rw [hW1] at hM2
 have X := Hd4 ((hx.more (b := w.heap.size) (Nat.le_refl _)).keep (Keeps.of_below f1.bl _)) ((hy.more (b := w.heap.size) (Nat.le_refl _)).keep (Keeps.of_below f1.bl _)) hM2 f1
 have HF := Hd2 fa fb
 clear hx hy hM hM2 f1
 by_cases hs : zneg a = zneg b
 · have hr := add_same hs
   rw [← hs]
   obtain ⟨na, hna⟩ : ∃ na, zneg a = na := ⟨_, rfl⟩
   rw [hna] at hr ⊢
   have hq : (na == na) = true := by simp
   clear hs hna fa fb; cases hf : fits (a + b)
   · have HFF := Hd hf
     clear hf; refine entm Tryz.func127 rfl Tryz.ntmps127 ?_; simp only [List.length_cons]
     gi_wp2_with (first
      | (refine Cl 109 (big_no (v := a.natAbs + b.natAbs) G.out.1 hr HFF.out) ?_; rintro e w3 ⟨rfl, hb3⟩; have G3 := Hd (G.out.2.go hb3); clear hb3)
      | (refine Cl 137 (nadd_any (x := a.natAbs) (y := b.natAbs) X.out.2.2.1 X.out.1 X.out.2.1 (by omega) (by omega)) ?_; rintro e w2 ⟨A2, n2, c2, rfl, hs2, hb2⟩; have G := Hd2 hs2 (X.out.2.2.2.go hb2); clear hs2 hb2)
      | fail)
     exact ⟨(fun h => by cases h), fun _ => rfl, G3.out.bl⟩
   · have HFF := Hd hf
     clear hf; refine entm Tryz.func127 rfl Tryz.ntmps127 ?_; simp only [List.length_cons]
     gi_wp2_with (first
      | (refine Cl 109 (big_at (v := a.natAbs + b.natAbs) (X.out.2.2.1.le G.out.2.2.size) G.out.1 hr HFF.out) ?_; rintro e w3 ⟨q, A4, n4, c4, rfl, hz4, hb3⟩; have G3 := Hd2 (G.out.2.1.go hb3) hz4; have c0 := G3.out.1.x0; have c1 := G3.out.1.x1; have d0 := G3.out.1.f0; have d1 := G3.out.1.f1; clear hb3 hz4)
      | (refine Cl 137 (nadd_any (x := a.natAbs) (y := b.natAbs) X.out.2.2.1 X.out.1 X.out.2.1 (by omega) (by omega)) ?_; rintro e w2 ⟨A2, n2, c2, rfl, hs2, hb2⟩; have G := Hd3 hs2 (X.out.2.2.2.go hb2) hb2; clear hs2 hb2)
      | fail)
     obtain ⟨z1, z2⟩ := G3.out.1.fin G3.out.2; exact ⟨.agg #[.bool q, .slice A4 n4 c4], by simp [results, go_sem, c0, c1], fun _ => ⟨q, A4, n4, c4, rfl, z1⟩, (fun h => by cases h), z2⟩
 · have hf := sum_less hs fa fb
   rw [hf]; have HFF := Hd hf
   obtain ⟨na, hna⟩ : ∃ na, zneg a = na := ⟨_, rfl⟩
   obtain ⟨nb, hnb⟩ : ∃ nb, zneg b = nb := ⟨_, rfl⟩
   have hs2 : zneg b ≠ zneg a := fun e => hs e.symm
   have hr1 : b.natAbs ≤ a.natAbs → bigM na (a.natAbs - b.natAbs) = a + b := fun h => by rw [← hna]; exact add_other hs h
   have hr2 : a.natAbs ≤ b.natAbs → bigM nb (b.natAbs - a.natAbs) = a + b := fun h => by rw [← hnb, Int.add_comm]; exact add_other hs2 h
   rw [hna, hnb] at hs ⊢
   have hq : (na == nb) = false := by simpa using hs
   clear hs hna hnb fa fb hs2 hf
   obtain ⟨cz, hcz⟩ : ∃ cz, cmpZ a.natAbs b.natAbs = cz := ⟨_, rfl⟩
   have HC := Hd hcz
   by_cases hle : b.natAbs ≤ a.natAbs
   · have hr := hr1 hle
     have hcn : 0 ≤ cz := by
      rw [← hcz]
      rcases Nat.lt_or_ge b.natAbs a.natAbs with h | h
      · rw [cmpZ_gt h]; decide
      · rw [cmpZ_eq (by omega)]; decide
     clear hcz hr1 hr2; refine entm Tryz.func127 rfl Tryz.ntmps127 ?_; simp only [List.length_cons]
     gi_wp2_with (first
      | (refine Cl 109 (big_at (v := a.natAbs - b.natAbs) (X.out.2.2.1.le G.out.2.2.size) G.out.1 hr HFF.out) ?_; rintro e w3 ⟨q, A4, n4, c4, rfl, hz4, hb3⟩; have G3 := Hd2 (G.out.2.1.go hb3) hz4; have c0 := G3.out.1.x0; have c1 := G3.out.1.x1; have d0 := G3.out.1.f0; have d1 := G3.out.1.f1; clear hb3 hz4)
      | (refine Cl 138 (nsub_any (x := a.natAbs) (y := b.natAbs) (X.out.2.2.1.le HB.out.size) (X.out.1.go HB.out) (X.out.2.1.go HB.out) (by omega) hle) ?_; rintro e w2 ⟨A2, n2, c2, rfl, hs2, hb2⟩; have G := Hd3 hs2 ((X.out.2.2.2.go HB.out).go hb2) (HB.out.trans (hb2.mono HB.out.size)); clear hs2 hb2)
      | (refine Cl 98 (compare_any A B n c m d a.natAbs b.natAbs _ X.out.1 X.out.2.1) ?_; rintro e w1 ⟨rfl, hb1⟩; rw [HC.out]; have HB := Hd hb1; clear hb1)
      | fail)
     obtain ⟨z1, z2⟩ := G3.out.1.fin G3.out.2; exact ⟨.agg #[.bool q, .slice A4 n4 c4], by simp [results, go_sem, c0, c1], fun _ => ⟨q, A4, n4, c4, rfl, z1⟩, (fun h => by cases h), z2⟩
   · have hr := hr2 (by omega)
     have hcn : ¬ 0 ≤ cz := by
      rw [← hcz, cmpZ_lt (by omega)]; decide
     clear hcz hr1 hr2; refine entm Tryz.func127 rfl Tryz.ntmps127 ?_; simp only [List.length_cons]
     gi_wp2_with (first
      | (refine Cl 109 (big_at (v := b.natAbs - a.natAbs) (X.out.2.2.1.le G.out.2.2.size) G.out.1 hr HFF.out) ?_; rintro e w3 ⟨q, A4, n4, c4, rfl, hz4, hb3⟩; have G3 := Hd2 (G.out.2.1.go hb3) hz4; have c0 := G3.out.1.x0; have c1 := G3.out.1.x1; have d0 := G3.out.1.f0; have d1 := G3.out.1.f1; clear hb3 hz4)
      | (refine Cl 138 (nsub_any (x := b.natAbs) (y := a.natAbs) (X.out.2.2.1.le HB.out.size) (X.out.2.1.go HB.out) (X.out.1.go HB.out) (by omega) (by omega)) ?_; rintro e w2 ⟨A2, n2, c2, rfl, hs2, hb2⟩; have G := Hd3 hs2 ((X.out.2.2.2.go HB.out).go hb2) (HB.out.trans (hb2.mono HB.out.size)); clear hs2 hb2)
      | (refine Cl 98 (compare_any A B n c m d a.natAbs b.natAbs _ X.out.1 X.out.2.1) ?_; rintro e w1 ⟨rfl, hb1⟩; rw [HC.out]; have HB := Hd hb1; clear hb1)
      | fail)
     obtain ⟨z1, z2⟩ := G3.out.1.fin G3.out.2; exact ⟨.agg #[.bool q, .slice A4 n4 c4], by simp [results, go_sem, c0, c1], fun _ => ⟨q, A4, n4, c4, rfl, z1⟩, (fun h => by cases h), z2⟩
theorem two_start {M : List Nat} {A B : Option Addr} {n c m d : Nat} {a b : Int} {w : World} (hM : Bel M w) (hx : Sl Int w M A n c (ints (zmag a))) (hy : Sl Int w M B m d (ints (zmag b))) :
 ∃ W1 : World, (((w.alloc (.cells #[.bool (zneg a), .slice A n c] 29)).alloc (.cells #[.bool (zneg b), .slice B m d] 29)).alloc (.cells #[.bool false, .slice none 0 0] 29)).alloc (.cells #[.int .i64 0] 34) = W1 ∧
  F4 w W1 (zneg a) (zneg b) (.slice A n c) (.slice B m d) ∧ Sl Int W1 ((w.heap.size + 1 + 1) :: (w.heap.size + 1 + 1 + 1) :: M) A n c (ints (zmag a)) ∧ Sl Int W1 ((w.heap.size + 1 + 1) :: (w.heap.size + 1 + 1 + 1) :: M) B m d (ints (zmag b)) ∧
  Bel ((w.heap.size + 1 + 1) :: (w.heap.size + 1 + 1 + 1) :: M) W1 ∧ Sl BigR (W1.alloc (.cells #[.bool (zneg a), .slice A n c, .bool (zneg b), .slice B m d] 29)) ((w.heap.size + 1 + 1) :: (w.heap.size + 1 + 1 + 1) :: M) (some ⟨W1.heap.size, 0, none⟩) 2 2 ([a, b].map encB) := by
 obtain ⟨W1, hW1⟩ : ∃ W1 : World, (((w.alloc (.cells #[.bool (zneg a), .slice A n c] 29)).alloc (.cells #[.bool (zneg b), .slice B m d] 29)).alloc (.cells #[.bool false, .slice none 0 0] 29)).alloc (.cells #[.int .i64 0] 34) = W1 := ⟨_, rfl⟩
 have F1 : F4 w W1 (zneg a) (zneg b) (.slice A n c) (.slice B m d) := by rw [← hW1]; exact F4.start w _ _ _ _ rfl rfl
 have hx2 := ((hx.more (b := w.heap.size + 1 + 1 + 1) (by omega)).more (b := w.heap.size + 1 + 1) (by omega)).keep (Keeps.of_below F1.bl _)
 have hy2 := ((hy.more (b := w.heap.size + 1 + 1 + 1) (by omega)).more (b := w.heap.size + 1 + 1) (by omega)).keep (Keeps.of_below F1.bl _)
 have hM2 : Bel ((w.heap.size + 1 + 1) :: (w.heap.size + 1 + 1 + 1) :: M) W1 := fun k hk => by
  have := F1.sz; simp only [List.mem_cons] at hk
  rcases hk with rfl | rfl | hk
  · omega
  · omega
  · have := hM k hk; omega
 exact ⟨W1, hW1, F1, hx2, hy2, hM2, Sl.bigs2 hM2 hx2 hy2⟩
theorem F4.fin {w w4 : World} {M : List Nat} {na nb : Bool} {va vb : Value} (h : F4 w w4 na nb va vb) {q : Bool} {A : Option Addr} {n c : Nat} {z : Int} (hz : ZV w4 ((w.heap.size + 1 + 1) :: (w.heap.size + 1 + 1 + 1) :: M) (.agg #[.bool q, .slice A n c]) z) :
 ∃ wF, ((w4.setCell ⟨w.heap.size + 1 + 1, 0, none⟩ (.bool q)).setCell ⟨w.heap.size + 1 + 1, 1, none⟩ (.slice A n c)).setCell ⟨w.heap.size + 1 + 1 + 1, 0, none⟩ (.int .i64 0) = wF ∧ wF.cell? ⟨w.heap.size + 1 + 1, 0, none⟩ = some (.bool q) ∧ wF.cell? ⟨w.heap.size + 1 + 1, 1, none⟩ = some (.slice A n c) ∧
  wF.cell? ⟨w.heap.size + 1 + 1 + 1, 0, none⟩ = some (.int .i64 0) ∧ ZV wF M (.agg #[.bool q, .slice A n c]) z ∧ Below w.heap.size w wF := by
 refine ⟨_, rfl, ?_, ?_, ?_, ?_, ?_⟩
 · have c0 := h.x0; have c1 := h.x1; have c2 := h.e0; simp [go_sem, c0, c1, c2]
 · have c0 := h.x0; have c1 := h.x1; have c2 := h.e0; simp [go_sem, c0, c1, c2]
 · have c0 := h.x0; have c1 := h.x1; have c2 := h.e0; simp [go_sem, c0, c1, c2]
 · obtain ⟨A', n', c', e, hs⟩ := hz
   exact ⟨A', n', c', e, (hs.keep ((((Keeps.refl _ _).setCell (p := ⟨w.heap.size + 1 + 1, 0, none⟩) (.inl (by simp)) _).setCell (p := ⟨w.heap.size + 1 + 1, 1, none⟩) (.inl (by simp)) _).setCell (p := ⟨w.heap.size + 1 + 1 + 1, 0, none⟩) (.inl (by simp)) _)).less (fun k hk => by simp [hk])⟩
 · exact ((h.bl.setCell (p := ⟨w.heap.size + 1 + 1, 0, none⟩) (by simp; omega) _).setCell (p := ⟨w.heap.size + 1 + 1, 1, none⟩) (by simp; omega) _).setCell (p := ⟨w.heap.size + 1 + 1 + 1, 0, none⟩) (by simp; omega) _
set_option maxHeartbeats 2000000 in
theorem nAdd_any {M : List Nat} {va vb : Value} {a b : Int} {w : World} (hM : Bel M w) (ha : ZV w M va a) (hb : ZV w M vb b) (fa : fits a = true) (fb : fits b = true) :
 Calls Tryz.prog 110 #[va, vb] w (ZR w M (a + b)) := by
 refine wid ?_
 obtain ⟨A, n, c, rfl, hx⟩ := ha
 obtain ⟨B, m, d, rfl, hy⟩ := hb
 obtain ⟨W1, hW1, F1, hx2, hy2, hM2, SB⟩ := two_start hM hx hy
 have X := Hd3 hx2 hy2 hM2
 have F := Hd F1
 have HF := Hd2 fa fb
 have e0 := F1.a0
 have e1 := F1.a1
 have e2 := F1.b0
 have e3 := F1.b1
 have HSB := Hd SB
 clear hx hy hM hx2 hy2 hM2 F1 fa fb SB
 cases hf : fits (a + b)
 · have Z := Hd2 (limI_no hf) (limZ_no hf)
   have HFF := Hd hf; clear hf; refine entd Tryz.func110 rfl Tryz.ntmps110 ?_
   gi_wp2_with (first
    | (refine Cl 127 (signed_any (X.out.2.2.le G2.out.2.size) (X.out.1.go G2.out.2) (X.out.2.1.go G2.out.2) HF.out.1 HF.out.2) ?_; rintro e w3 ⟨-, h2, hb3⟩; obtain rfl := h2 HFF.out; have G3 := Hd (G2.out.1.go hb3); clear hb3 h2)
    | (refine Cl 97 (checks_any _ 2 2 [a, b] _ HSB.out (by simp [HF.out.1, HF.out.2])) ?_; rintro e w2 ⟨rfl, hb2⟩; have hb3 : Below W1.heap.size W1 w2 := ((Below.refl W1.heap.size W1).alloc (Nat.le_refl _) (.cells #[.bool (zneg a), .slice A n c, .bool (zneg b), .slice B m d] 29)).trans (hb2.mono (by simp)); have F2 := F.out.go hb3; have v0 := F2.a0; have v1 := F2.a1; have v2 := F2.b0; have v3 := F2.b1; have G2 := Hd2 F2 hb3; clear hb2 hb3 F2)
    | fail)
   refine leavesIn_cons (f := 96) (args := #[.pointer (some ⟨w.heap.size + 1 + 1 + 1, 0, none⟩)]) (by simp) (by simp) (by simp [go_sem]) (fun _ _ => trivial) ?_; refine (caught_pan ⟨w.heap.size + 1 + 1 + 1, 0, none⟩ 2 0 [] _ G3.out.e0 G3.out.fe).mono ?_; rintro e u' w'' ⟨rfl, rfl, rfl⟩; have c0 := G3.out.x0; have c1 := G3.out.x1; have c2 := G3.out.e0; refine ⟨.tuple #[.agg #[.bool false, .slice none 0 0], .int .i64 2], ?_, .agg #[.bool false, .slice none 0 0], by rw [Z.out.1], by rw [Z.out.2]; exact ZV.zero _ _, G3.out.bl.setCell (p := ⟨w.heap.size + 1 + 1 + 1, 0, none⟩) (by simp; omega) _⟩
   simp [results, Tryz.results110, go_sem, c0, c1, c2]
 · have Z := Hd2 (limI_ok hf) (limZ_ok hf)
   have HFF := Hd hf; clear hf; refine entd Tryz.func110 rfl Tryz.ntmps110 ?_
   gi_wp2_with (first
    | (refine Cl 127 (signed_any (X.out.2.2.le G2.out.2.size) (X.out.1.go G2.out.2) (X.out.2.1.go G2.out.2) HF.out.1 HF.out.2) ?_; rintro e w3 ⟨h1, -, hb3⟩; obtain ⟨q, A4, n4, c4, rfl, hz4⟩ := h1 HFF.out; have G3 := Hd2 (G2.out.1.go hb3) hz4; have c0 := G3.out.1.x0; have c1 := G3.out.1.x1; have c2 := G3.out.1.e0; have d0 := G3.out.1.f0; have d1 := G3.out.1.f1; have d2 := G3.out.1.fe; clear hb3 h1 hz4)
    | (refine Cl 97 (checks_any _ 2 2 [a, b] _ HSB.out (by simp [HF.out.1, HF.out.2])) ?_; rintro e w2 ⟨rfl, hb2⟩; have hb3 : Below W1.heap.size W1 w2 := ((Below.refl W1.heap.size W1).alloc (Nat.le_refl _) (.cells #[.bool (zneg a), .slice A n c, .bool (zneg b), .slice B m d] 29)).trans (hb2.mono (by simp)); have F2 := F.out.go hb3; have v0 := F2.a0; have v1 := F2.a1; have v2 := F2.b0; have v3 := F2.b1; have G2 := Hd2 F2 hb3; clear hb2 hb3 F2)
    | fail)
   obtain ⟨wF, hwF, r0, r1, r2, hzF, bF⟩ := G3.out.1.fin G3.out.2; refine leavesIn_cons (f := 96) (args := #[.pointer (some ⟨w.heap.size + 1 + 1 + 1, 0, none⟩)]) (by simp) (by simp) (by simp [go_sem]) (fun _ _ => trivial) ?_; rw [hwF]; refine (caught_idle ⟨w.heap.size + 1 + 1 + 1, 0, none⟩ _).mono ?_; rintro e u' w'' ⟨rfl, rfl, rfl⟩; refine ⟨.tuple #[.agg #[.bool q, .slice A4 n4 c4], .int .i64 0], ?_, .agg #[.bool q, .slice A4 n4 c4], by rw [Z.out.1], by rw [Z.out.2]; exact hzF, bF⟩
   simp [results, Tryz.results110, go_sem, r0, r1, r2]
end
section
open Go.RowKit Go.Shelf
attribute [local go_sem] Oper.semAt_some
theorem div1_idle {n : Nat} (pe pq pr : Addr) (u : FrameMode) (w : World) (hc : w.cell? pe = some (.int .i64 0)) :
 CallsDIn Fence.wide n Tryz.prog 139 #[.pointer (some pe), .pointer (some pq), .pointer (some pr)] u w fun e u' w' => u' = u ∧ (e = .returned (.tuple #[]) ∧ w' = w) := by
 refine callsDIn_of_wp Tryz.func139 rfl trivial ?_
 simp only [Tryz.ntmps139, List.size_toArray, List.length_cons, List.length_nil, Nat.reduceAdd, Nat.reduceSub, Array.replicate_succ, Array.replicate_zero, List.push_toArray, List.append_toArray, List.nil_append, List.cons_append]
 gi_wp2
 go_end0
 exact ⟨rfl, rfl⟩
structure F5 (w W : World) (na nb : Bool) (va vb : Value) : Prop where
 a0 : W.cell? ⟨w.heap.size, 0, none⟩ = some (.bool na)
 a1 : W.cell? ⟨w.heap.size, 1, none⟩ = some va
 b0 : W.cell? ⟨w.heap.size + 1, 0, none⟩ = some (.bool nb)
 b1 : W.cell? ⟨w.heap.size + 1, 1, none⟩ = some vb
 x0 : W.cell? ⟨w.heap.size + 1 + 1, 0, none⟩ = some (.bool false)
 x1 : W.cell? ⟨w.heap.size + 1 + 1, 1, none⟩ = some (.slice none 0 0)
 y0 : W.cell? ⟨w.heap.size + 1 + 1 + 1, 0, none⟩ = some (.bool false)
 y1 : W.cell? ⟨w.heap.size + 1 + 1 + 1, 1, none⟩ = some (.slice none 0 0)
 e0 : W.cell? ⟨w.heap.size + 1 + 1 + 1 + 1, 0, none⟩ = some (.int .i64 0)
 f0 : W.frozen? ⟨w.heap.size + 1 + 1, 0, none⟩ = false
 f1 : W.frozen? ⟨w.heap.size + 1 + 1, 1, none⟩ = false
 g0 : W.frozen? ⟨w.heap.size + 1 + 1 + 1, 0, none⟩ = false
 g1 : W.frozen? ⟨w.heap.size + 1 + 1 + 1, 1, none⟩ = false
 fe : W.frozen? ⟨w.heap.size + 1 + 1 + 1 + 1, 0, none⟩ = false
 bl : Below w.heap.size w W
 sz : w.heap.size + 5 ≤ W.heap.size
theorem F5.go {w W W' : World} {na nb : Bool} {va vb : Value} (h : F5 w W na nb va vb) (hb : Below W.heap.size W W') : F5 w W' na nb va vb := by
 have hs := h.sz
 have c : ∀ (k o : Nat) (u : Value), k < w.heap.size + 5 → W.cell? ⟨k, o, none⟩ = some u → W'.cell? ⟨k, o, none⟩ = some u := fun k o u hk hu => (hb.cell (p := ⟨k, o, none⟩) (show k < _ by omega)).trans hu
 have f : ∀ (k o : Nat), k < w.heap.size + 5 → W.frozen? ⟨k, o, none⟩ = false → W'.frozen? ⟨k, o, none⟩ = false := fun k o hk hu => (hb.frozen (p := ⟨k, o, none⟩) (show k < _ by omega)).trans hu
 exact ⟨c _ _ _ (by omega) h.a0, c _ _ _ (by omega) h.a1, c _ _ _ (by omega) h.b0, c _ _ _ (by omega) h.b1, c _ _ _ (by omega) h.x0, c _ _ _ (by omega) h.x1, c _ _ _ (by omega) h.y0, c _ _ _ (by omega) h.y1, c _ _ _ (by omega) h.e0,
  f _ _ (by omega) h.f0, f _ _ (by omega) h.f1, f _ _ (by omega) h.g0, f _ _ (by omega) h.g1, f _ _ (by omega) h.fe, h.bl.trans (hb.mono h.bl.size), by have := hb.size; omega⟩
theorem F5.start (w : World) (na nb : Bool) (va vb : Value) (ha : va.cells = #[va]) (hb : vb.cells = #[vb]) :
 F5 w (((((w.alloc (.cells #[.bool na, va] 29)).alloc (.cells #[.bool nb, vb] 29)).alloc (.cells #[.bool false, .slice none 0 0] 29)).alloc (.cells #[.bool false, .slice none 0 0] 29)).alloc (.cells #[.int .i64 0] 34)) na nb va vb :=
 ⟨by simp [go_sem], by simp [go_sem], by simp [go_sem], by simp [go_sem], by simp [go_sem], by simp [go_sem], by simp [go_sem], by simp [go_sem], by simp [go_sem], by simp [go_sem], by simp [go_sem], by simp [go_sem], by simp [go_sem], by simp [go_sem], by exact bel, by simp⟩
theorem fits_zero : fits 0 = true := by simp [fits, zmag, dig_zero]
theorem F5.fin {w w4 : World} {M MM : List Nat} {na nb : Bool} {va vb : Value} (h : F5 w w4 na nb va vb) {q r : Bool} {A B : Option Addr} {n c m d : Nat} {z y : Int} (hz : ZV w4 MM (.agg #[.bool q, .slice A n c]) z) (hy : ZV w4 MM (.agg #[.bool r, .slice B m d]) y)
 (hM : ∀ k, k ∈ M → k ∈ MM) (hX : w.heap.size + 1 + 1 ∈ MM ∧ w.heap.size + 1 + 1 + 1 ∈ MM ∧ w.heap.size + 1 + 1 + 1 + 1 ∈ MM) :
 ∃ wF, ((((w4.setCell ⟨w.heap.size + 1 + 1, 0, none⟩ (.bool q)).setCell ⟨w.heap.size + 1 + 1, 1, none⟩ (.slice A n c)).setCell ⟨w.heap.size + 1 + 1 + 1, 0, none⟩ (.bool r)).setCell ⟨w.heap.size + 1 + 1 + 1, 1, none⟩ (.slice B m d)).setCell ⟨w.heap.size + 1 + 1 + 1 + 1, 0, none⟩ (.int .i64 0) = wF ∧
  wF.cell? ⟨w.heap.size + 1 + 1, 0, none⟩ = some (.bool q) ∧ wF.cell? ⟨w.heap.size + 1 + 1, 1, none⟩ = some (.slice A n c) ∧ wF.cell? ⟨w.heap.size + 1 + 1 + 1, 0, none⟩ = some (.bool r) ∧ wF.cell? ⟨w.heap.size + 1 + 1 + 1, 1, none⟩ = some (.slice B m d) ∧
  wF.cell? ⟨w.heap.size + 1 + 1 + 1 + 1, 0, none⟩ = some (.int .i64 0) ∧ ZV wF M (.agg #[.bool q, .slice A n c]) z ∧ ZV wF M (.agg #[.bool r, .slice B m d]) y ∧ Below w.heap.size w wF := by
 have c0 := h.x0; have c1 := h.x1; have c2 := h.y0; have c3 := h.y1; have c4 := h.e0
 have kp := ((((((Keeps.refl MM w4).setCell (p := ⟨w.heap.size + 1 + 1, 0, none⟩) (.inl hX.1) (.bool q)).setCell (p := ⟨w.heap.size + 1 + 1, 1, none⟩) (.inl hX.1) (.slice A n c)).setCell (p := ⟨w.heap.size + 1 + 1 + 1, 0, none⟩) (.inl hX.2.1) (.bool r)).setCell (p := ⟨w.heap.size + 1 + 1 + 1, 1, none⟩) (.inl hX.2.1) (.slice B m d)).setCell (p := ⟨w.heap.size + 1 + 1 + 1 + 1, 0, none⟩) (.inl hX.2.2) (.int .i64 0))
 refine ⟨_, rfl, ?_, ?_, ?_, ?_, ?_, ?_, ?_, ?_⟩
 · simp [go_sem, c0, c1, c2, c3, c4]
 · simp [go_sem, c0, c1, c2, c3, c4]
 · simp [go_sem, c0, c1, c2, c3, c4]
 · simp [go_sem, c0, c1, c2, c3, c4]
 · simp [go_sem, c0, c1, c2, c3, c4]
 · obtain ⟨A', n', c', e, hs⟩ := hz
   exact ⟨A', n', c', e, (hs.keep kp).less hM⟩
 · obtain ⟨A', n', c', e, hs⟩ := hy
   exact ⟨A', n', c', e, (hs.keep kp).less hM⟩
 · have b := h.bl
   exact ((((b.setCell (p := ⟨w.heap.size + 1 + 1, 0, none⟩) (by simp; omega) _).setCell (p := ⟨w.heap.size + 1 + 1, 1, none⟩) (by simp; omega) _).setCell (p := ⟨w.heap.size + 1 + 1 + 1, 0, none⟩) (by simp; omega) _).setCell (p := ⟨w.heap.size + 1 + 1 + 1, 1, none⟩) (by simp; omega) _).setCell (p := ⟨w.heap.size + 1 + 1 + 1 + 1, 0, none⟩) (by simp; omega) _
set_option maxRecDepth 20000 in
set_option maxHeartbeats 2000000 in
theorem nDiv_any {M : List Nat} {va vb : Value} {a b : Int} {w : World} (hM : Bel M w) (ha : ZV w M va a) (hb : ZV w M vb b) (fa : fits a = true) (fb : fits b = true) (hp : 0 < b) (h0 : a.natAbs % b.natAbs = 0) :
 Calls Tryz.prog 128 #[va, vb] w fun e w' => ∃ u v, e = .returned (.tuple #[u, v, .int .i64 0]) ∧ ZV w' M u (a / b) ∧ ZV w' M v 0 ∧ Below w.heap.size w w' := by
 refine wid ?_
 obtain ⟨A, n, c, rfl, hx⟩ := ha
 obtain ⟨B, m, d, rfl, hy⟩ := hb
 have hn : n ≤ 2048 := by have h := of_decide_eq_true fa; rw [hx.dlen] at h; exact h
 have hm1 := hy.dlen
 have hm0 : m ≠ 0 := by
  intro e; rw [e] at hm1; have := dig_nil.1 (List.length_eq_zero_iff.1 hm1); omega
 have hzb : zneg b = false := decide_eq_false (by omega)
 have hr := (div_exact (a := a) (b := b) (.inl h0) (by omega)).1
 have hf : fits (a / b) = true := by
  refine fits_mono ?_ fa; rw [← hr]
  have : (bigM (zneg a != zneg b) (a.natAbs / b.natAbs)).natAbs = a.natAbs / b.natAbs := by
   generalize a.natAbs / b.natAbs = k
   unfold bigM; split <;> omega
  rw [this]; exact Nat.div_le_self _ _
 rw [hzb] at hr
 have hy0 : 0 < b.natAbs := by omega
 let MM := (w.heap.size + 1 + 1) :: (w.heap.size + 1 + 1 + 1) :: (w.heap.size + 1 + 1 + 1 + 1) :: M
 obtain ⟨W1, hW1⟩ : ∃ W1 : World, ((((w.alloc (.cells #[.bool (zneg a), .slice A n c] 29)).alloc (.cells #[.bool false, .slice B m d] 29)).alloc (.cells #[.bool false, .slice none 0 0] 29)).alloc (.cells #[.bool false, .slice none 0 0] 29)).alloc (.cells #[.int .i64 0] 34) = W1 := ⟨_, rfl⟩
 have F1 : F5 w W1 (zneg a) false (.slice A n c) (.slice B m d) := by rw [← hW1]; exact F5.start w _ _ _ _ rfl rfl
 have hx2 : Sl Int W1 MM A n c (ints (zmag a)) := (((hx.more (b := w.heap.size + 1 + 1 + 1 + 1) (by omega)).more (b := w.heap.size + 1 + 1 + 1) (by omega)).more (b := w.heap.size + 1 + 1) (by omega)).keep (Keeps.of_below F1.bl _)
 have hy2 : Sl Int W1 MM B m d (ints (zmag b)) := (((hy.more (b := w.heap.size + 1 + 1 + 1 + 1) (by omega)).more (b := w.heap.size + 1 + 1 + 1) (by omega)).more (b := w.heap.size + 1 + 1) (by omega)).keep (Keeps.of_below F1.bl _)
 have hM2 : Bel MM W1 := fun k hk => by
  have := F1.sz; simp only [MM, List.mem_cons] at hk
  rcases hk with rfl | rfl | rfl | hk
  · omega
  · omega
  · omega
  · have := hM k hk; omega
 have SB := Sl.bigs2 (na := zneg a) (nb := false) hM2 hx2 hy2
 have HSB : Hid (Sl BigR (W1.alloc (.cells #[.bool (zneg a), .slice A n c, .bool false, .slice B m d] 29)) MM (some ⟨W1.heap.size, 0, none⟩) 2 2 ([a, b].map encB)) := by
  have e : [a, b].map encB = [(zneg a, ints (zmag a)), (false, ints (zmag b))] := by simp [encB, hzb]
  rw [e]; exact SB
 have X := Hd3 hx2 hy2 hM2
 have F := Hd F1
 have HF := Hd5 fa fb hf hr h0
 have HMM := Hd (show ∀ k, k ∈ M → k ∈ MM from fun k hk => by simp [MM, hk])
 have HMX := Hd (show w.heap.size + 1 + 1 ∈ MM ∧ w.heap.size + 1 + 1 + 1 ∈ MM ∧ w.heap.size + 1 + 1 + 1 + 1 ∈ MM from by simp [MM])
 have e0 := F1.a0
 have e1 := F1.a1
 have e2 := F1.b0
 have e3 := F1.b1
 have hmf : ∀ (fn : Fn) (first cap : Array Value) (w : World), (Instr.makeFunc fn first cap).run Tryz.prog w = .ok (.func fn first cap) w := fun _ _ _ _ => rfl
 clear_value MM
 rw [hzb]
 clear hx hy hM hx2 hy2 hM2 F1 fa fb SB hf hr h0 hzb hm1
 generalize hna : zneg a = na at *
 have hr2 : bigM na (a.natAbs / b.natAbs) = a / b := by have := HF.out.2.2.2.1; rwa [show (na != false) = na from by cases na <;> rfl] at this
 have HR := Hd hr2
 have FZ := Hd fits_zero
 clear hr2 hna
 cases na
 all_goals (
 refine entd Tryz.func128 rfl Tryz.ntmps128 ?_
 gi_wp2_with (first
  | (refine ⟨trivial, ?_⟩; gi_at_call 109; have g := G4.out; clear g; refine Cn (big_at (z := 0) (v := 0) (neg := false) ((X.out.2.2.le G3.out.2.2.2.size).le G4.out.2.2.size) (G3.out.2.2.1.go G4.out.2.2) rfl FZ.out) ?_; rintro e w5 ⟨q5, A5, n5, c5, rfl, hz5, hb5⟩; have F5' := G4.out.1.go hb5; have k0 := F5'.x0; have k1 := F5'.x1; have k2 := F5'.y0; have k3 := F5'.y1; have k4 := F5'.e0; have d0 := F5'.f0; have d1 := F5'.f1; have d2 := F5'.g0; have d3 := F5'.g1; have d4 := F5'.fe; have G5 := Hd3 F5' (G4.out.2.1.go hb5) hz5; clear hz5 hb5 F5')
  | (refine Cl 109 (big_at (v := a.natAbs / b.natAbs) (X.out.2.2.le G3.out.2.2.2.size) G3.out.2.1 HR.out HF.out.2.2.1) ?_; rintro e w4 ⟨q4, A4, n4, c4, rfl, hz4, hb4⟩; have F4' := G3.out.1.go hb4; have G4 := Hd3 F4' hz4 hb4; clear hz4 hb4 F4')
  | (refine Cl 108 (ndiv_any (x := a.natAbs) (y := b.natAbs) (X.out.2.2.le G2.out.2.size) (X.out.1.go G2.out.2) (X.out.2.1.go G2.out.2) (by omega) hy0) ?_; rintro e w3 ⟨O, q, cO, O2, q2, cO2, rfl, h1, h2, hb3⟩
     have hq0 : q2 = 0 := by
      have hl := h2.dlen; rw [HF.out.2.2.2.2, dig_zero] at hl; exact hl.symm
     rw [HF.out.2.2.2.2] at h2; subst hq0; have F3 := G2.out.1.go hb3; have u0 := F3.a0; have u1 := F3.b0; have G3 := Hd4 F3 h1 h2 (G2.out.2.trans (hb3.mono G2.out.2.size))
     clear h1 h2 hb3 F3)
  | (refine Cl 97 (checks_any _ 2 2 [a, b] _ HSB.out (by simp [HF.out.1, HF.out.2.1])) ?_; rintro e w2 ⟨rfl, hb2⟩; have hb3 : Below W1.heap.size W1 w2 := ((Below.refl W1.heap.size W1).alloc (Nat.le_refl _) _).trans (hb2.mono (by simp)); have F2 := F.out.go hb3; have v0 := F2.a0; have v1 := F2.a1; have v2 := F2.b0; have v3 := F2.b1; have G2 := Hd2 F2 hb3; clear hb2 hb3 F2)
  | fail)
 clear k0 k1 k2 k3 k4 d0 d1 d2 d3 d4
 obtain ⟨wF, hwF, r0, r1, r2, r3, r4, hzF, hyF, bF⟩ := G5.out.1.fin G5.out.2.1 G5.out.2.2 HMM.out HMX.out
 refine leavesIn_cons (f := 96) (args := #[.pointer (some ⟨w.heap.size + 1 + 1 + 1 + 1, 0, none⟩)]) (by simp) (by simp) (by simp [go_sem]) (fun _ _ => trivial) ?_
 rw [hwF]
 refine (caught_idle ⟨w.heap.size + 1 + 1 + 1 + 1, 0, none⟩ _).mono ?_
 rintro e u' w'' ⟨rfl, rfl, rfl⟩
 refine leavesIn_cons (f := 139) (args := #[.pointer (some ⟨w.heap.size + 1 + 1 + 1 + 1, 0, none⟩), .pointer (some ⟨w.heap.size + 1 + 1, 0, none⟩), .pointer (some ⟨w.heap.size + 1 + 1 + 1, 0, none⟩)]) (by simp [settle]) (by simp [settle]) (by simp [go_sem]) (fun _ _ => trivial) ?_
 refine (div1_idle _ _ _ _ _ r4).mono ?_
 rintro e u' w'' ⟨rfl, rfl, rfl⟩
 refine ⟨.tuple #[.agg #[.bool q4, .slice A4 n4 c4], .agg #[.bool q5, .slice A5 n5 c5], .int .i64 0], ?_, _, _, rfl, hzF, hyF, bF⟩
 simp [results, Tryz.results128, go_sem, r0, r1, r2, r3, r4])
end
end Go.Proofs.YtboapndkopabiaaGreat
