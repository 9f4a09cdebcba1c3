/- Lemmas and walks (Cod4 Run0 Run1). No statement is proved here. -/
import Derived.Test.YtboapndkopabiaaGreatM28
import Derived.Test.YtboapndkopabiaaGreatM29
set_option linter.unusedVariables false
set_option linter.unusedSimpArgs false
namespace Go.Proofs.YtboapndkopabiaaGreat
section
open Go.RowKit Go.Shelf
attribute [local go_sem] Oper.semAt_some
attribute [-go_sem] Instr.storeAt
theorem alloc_setRow (w : World) (cs ds : Array Value) (ty : TypeId) : (w.alloc (.cells cs ty)).setRow w.heap.size ds = w.alloc (.cells ds ty) := by
 have h1 := heap_alloc_new w (.cells cs ty)
 have h2 := setRow_heap (w.alloc (.cells cs ty)) w.heap.size cs ds ty (0, 0) h1
 have h3 := heap_alloc_new w (.cells ds ty)
 have e : ((w.alloc (.cells cs ty)).setRow w.heap.size ds).heap = (w.alloc (.cells ds ty)).heap := by
  apply Array.ext_getElem?; intro i
  by_cases hi : i = w.heap.size
  · subst hi; rw [h2, h3]
  · rw [setRow_other _ _ i _ hi]
    rcases Nat.lt_or_gt_of_ne hi with hl | hl
    · rw [Below.heap_alloc w _ i hl, Below.heap_alloc w _ i hl]
    · rw [Array.getElem?_eq_none (by simp; omega), Array.getElem?_eq_none (by simp; omega)]
 generalize hA : (w.alloc (.cells cs ty)).setRow w.heap.size ds = A at *
 generalize hB : w.alloc (.cells ds ty) = B at *
 have o1 : A.os = B.os := by rw [← hA, ← hB]; rfl
 have o2 : A.output = B.output := by rw [← hA, ← hB]; rfl
 have o3 : A.tape = B.tape := by rw [← hA, ← hB]; rfl
 have o4 : A.drawn = B.drawn := by rw [← hA, ← hB]; rfl
 cases A
 cases B
 simp only at e o1 o2 o3 o4
 subst e o1 o2 o3 o4
 rfl
theorem fill_run {w : World} {ty : TypeId} {cs ds : Array Value} (hi : (Tryz.prog.info? ty).map (·.size) = some ds.size) (hs : cs.size = ds.size) (h1 : ds.all (·.oneCell') = true) :
 (Instr.storeAt ty (.pointer (some ⟨w.heap.size, 0, none⟩)) (.agg ds)).run Tryz.prog (w.alloc (.cells cs ty)) = .ok () (w.alloc (.cells ds ty)) := by
 show (storeVar _ _ _).run _ _ = _
 rw [run_storeVar_row (w.alloc (.cells cs ty)) w.heap.size ty ty cs ds (heap_alloc_new w _) hi hs h1, alloc_setRow]
theorem ins_size : (Tryz.prog.info? 55).map (fun i => i.size) = some 9 := by kernel_rfl
theorem belowB_one (n : Int) : belowB n 1 = (n == 0) := by
 by_cases h : n = 0
 · subst h; rfl
 · have : ¬ (0 ≤ n ∧ n < 1) := by omega
   simp [belowB, this, h]
theorem rightU_I1 (i m a b c d : Int) (r : RatR) : rightI i m (1, a, b, c, d, r) = rightU 0 false true i m (1, a, b, c, d, r) := by
 first
  | (simp [rightI, rightU, okU, mostU, atU, belowB_one, Bool.and_assoc]; done)
  | (simp [rightI, rightU, okU, mostU, atU, belowB_one, Bool.and_assoc]; cases ratOk r <;> simp)
theorem rightU_I2 (i m a b c d : Int) (r : RatR) : rightI i m (2, a, b, c, d, r) = rightU 0 true false i m (2, a, b, c, d, r) := by
 first
  | (simp [rightI, rightU, okU, mostU, atU, belowB_one, Bool.and_assoc]; done)
  | (simp [rightI, rightU, okU, mostU, atU, belowB_one, Bool.and_assoc]; cases ratOk r <;> simp)
theorem rightU_I3 (i m a b c d : Int) (r : RatR) : rightI i m (3, a, b, c, d, r) = rightU 2 false false i m (3, a, b, c, d, r) := by
 first
  | (simp [rightI, rightU, okU, mostU, atU, belowB_one, Bool.and_assoc]; done)
  | (simp [rightI, rightU, okU, mostU, atU, belowB_one, Bool.and_assoc]; cases ratOk r <;> simp)
theorem rightU_I4 (i m a b c d : Int) (r : RatR) : rightI i m (4, a, b, c, d, r) = rightU 2 false false i m (4, a, b, c, d, r) := by
 first
  | (simp [rightI, rightU, okU, mostU, atU, belowB_one, Bool.and_assoc]; done)
  | (simp [rightI, rightU, okU, mostU, atU, belowB_one, Bool.and_assoc]; cases ratOk r <;> simp)
theorem rightU_I5 (i m a b c d : Int) (r : RatR) : rightI i m (5, a, b, c, d, r) = rightU 1 false true i m (5, a, b, c, d, r) := by
 first
  | (simp [rightI, rightU, okU, mostU, atU, belowB_one, Bool.and_assoc]; done)
  | (simp [rightI, rightU, okU, mostU, atU, belowB_one, Bool.and_assoc]; cases ratOk r <;> simp)
theorem rightU_I6 (i m a b c d : Int) (r : RatR) : rightI i m (6, a, b, c, d, r) = rightU 2 false false i m (6, a, b, c, d, r) := by
 first
  | (simp [rightI, rightU, okU, mostU, atU, belowB_one, Bool.and_assoc]; done)
  | (simp [rightI, rightU, okU, mostU, atU, belowB_one, Bool.and_assoc]; cases ratOk r <;> simp)
theorem rightU_I7 (i m a b c d : Int) (r : RatR) : rightI i m (7, a, b, c, d, r) = rightU 2 false false i m (7, a, b, c, d, r) := by
 first
  | (simp [rightI, rightU, okU, mostU, atU, belowB_one, Bool.and_assoc]; done)
  | (simp [rightI, rightU, okU, mostU, atU, belowB_one, Bool.and_assoc]; cases ratOk r <;> simp)
theorem rightU_I8 (i m a b c d : Int) (r : RatR) : rightI i m (8, a, b, c, d, r) = rightU 4 false false i m (8, a, b, c, d, r) := by
 first
  | (simp [rightI, rightU, okU, mostU, atU, belowB_one, Bool.and_assoc]; done)
  | (simp [rightI, rightU, okU, mostU, atU, belowB_one, Bool.and_assoc]; cases ratOk r <;> simp)
set_option maxRecDepth 100000 in
theorem walkC {p : Prop} (h : p := by
 have HR := Hd (HU.out ▸ hr)
 have HRI := Hd hr
 clear hr
 gi_wp2
 refine wpIn_region_all [] (List.range 20) (by kernel_rfl) (by kernel_rfl) ?_
 simp only [show List.range 20 = [0,1,2,3,4,5,6,7,8,9,10,11,12,13,14,15,16,17,18,19] from rfl]
 repeat ((first | refine ord_rd ?_ | refine ord_sk ?_ | refine ord_cs ?_))
 refine ord_step fun K hK => ordStep_call rfl rfl wy fun K' hK' => ?_; gi_wp2
 refine Cm (cright_any (r := r) (H.out.2.2.le (w' := W6.drew) (Nat.le_trans hb.size HX.out.2.2.2.2.2.size)) HX.out.2.2.1 HX.out.2.2.2.1 (HX.out.1.keep (Keeps.refl _ _).drew) (HX.out.2.1.keep (Keeps.refl _ _).drew)) ?_
 rintro e w8 ⟨rfl, hb8⟩
 rw [HR.out]
 have B8 := Hd (show Below w.heap.size w w8 from (hb.trans (HX.out.2.2.2.2.2.mono hb.size)).drew.trans (hb8.mono (Nat.le_trans hb.size HX.out.2.2.2.2.2.size)))
 have RO8 := Hd (RO6.drew.go hb8 RO6.lt)
 refine hK' _ _ ⟨?_, hK _ _ ?_⟩; clear hK' K' hK K
 · exact Keeps.of_below hb8 []
 refine lit ?_
 clear hb8
 repeat ((first | refine ord_rd ?_ | refine ord_sk ?_ | refine ord_cs ?_))
 refine ord_nil ?_; refine lit ?_
 gi_wp2
 first
  | (have z : _ = false := HRI.out
     have HF := Hd (show codeE l m = 190 by rw [HE.out, rights_bad HX.out.2.2.2.2.1 HRI.out]; rfl); go_ret
     exact ⟨by first | (rw [HF.out]; done) | (rw [HF.out]; rfl), B8.out⟩)
  | (exact ⟨⟨k + 1, by omega, by go_num, Hd (fun j y hj hy => by
      by_cases e : j = k
      · subst e; rw [HX.out.2.2.2.2.1] at hy; cases hy; exact HRI.out
      · exact ht.out j y (by omega) hy), RO8, B8.out⟩, by simp [intOf]; omega⟩)) : p := h
set_option maxRecDepth 100000 in
set_option maxHeartbeats 16000000 in
theorem ccodeE_any {M : List Nat} (A : Option Addr) (n c : Nat) (l : List InsR) (m : Int) (w : World) (hM : Bel M w) (hx : Sl InsR w M A n c l) :
 Calls Tryz.prog 30 #[.slice A n c, .int .i64 m] w fun e w' => e = .returned (.int .i64 (codeE l m)) ∧ Below w.heap.size w w' := by
 refine wid ?_
 have hs := hx.small
 have H := Hd3 hx hx.len hM
 have HD := Hd (show codeE l m = if n < 1 ∨ 4096 < n then 190 else if rightsI m 0 l then 0 else 190 by unfold codeE; rw [hx.len])
 clear hx hM
 by_cases h1 : n < 1
 · have HE := Hd (show codeE l m = 190 by rw [HD.out, if_pos (.inl h1)])
   refine ent Tryz.func30 rfl Tryz.ntmps30 ?_; gi_wp2; go_ret; exact ⟨by first | (rw [HE.out]; done) | (rw [HE.out]; rfl), Below.refl _ _⟩
 by_cases h2 : 4096 < n
 · have HE := Hd (show codeE l m = 190 by rw [HD.out, if_pos (.inr h2)])
   refine ent Tryz.func30 rfl Tryz.ntmps30 ?_; gi_wp2; go_ret; exact ⟨by first | (rw [HE.out]; done) | (rw [HE.out]; rfl), Below.refl _ _⟩
 have HE := Hd (show codeE l m = if rightsI m 0 l then 0 else 190 by rw [HD.out, if_neg (by omega)])
 clear HD
 obtain ⟨OV, hOV⟩ : ∃ OV : Array Value, opsL.toArray = OV := ⟨_, rfl⟩
 refine ent Tryz.func30 rfl Tryz.ntmps30 ?_
 gi_wp2_with (refine Cl 41 (operations_any _) ?_
              rintro e w2 ⟨rfl, hb2⟩; rw [hOV]
              obtain ⟨W3, hW3⟩ : ∃ W3 : World, w2.alloc (.cells OV 78) = W3 := ⟨_, rfl⟩
              have hst : (Instr.storeAt 78 (.pointer (some ⟨w2.heap.size, 0, none⟩)) (.agg OV)).run Tryz.prog (w2.alloc (.cells #[.int .i64 0, .bool false, .bool false, .nilFunc, .int .i64 0, .bool false, .bool false, .nilFunc, .int .i64 0, .bool false, .bool false, .nilFunc, .int .i64 0, .bool false, .bool false, .nilFunc, .int .i64 0, .bool false, .bool false, .nilFunc, .int .i64 0, .bool false, .bool false, .nilFunc, .int .i64 0, .bool false, .bool false, .nilFunc, .int .i64 0, .bool false, .bool false, .nilFunc, .int .i64 0, .bool false, .bool false, .nilFunc] 78)) = .ok () W3 := by
               rw [← hW3, ← hOV]; exact fill_run ops_size rfl (by simp [opsL, Value.oneCell'])
              have R3 : Hid (RowV W3 w2.heap.size opsL 78) := by rw [← hW3, ← hOV]; exact heap_alloc_new w2 _
              have B3 : Hid (Below w.heap.size w W3) := by rw [← hW3]; exact hb2.alloc hb2.size _
              clear hb2)
 obtain ⟨bo, hbo⟩ : ∃ bo, w2.heap.size = bo := ⟨_, rfl⟩
 rw [hbo] at R3 ⊢
 clear hst hW3 hOV
 gi_loopw [19] (fun i wr => ∃ k : Nat, k ≤ n ∧ i = .int .i64 k ∧ Hid (∀ (j : Nat) (x : InsR), j < k → l[j]? = some x → rightI j m x = true) ∧ Hid (RowV wr bo opsL 78) ∧ Below w.heap.size w wr) (fun i _ => n - (intOf i).toNat)
 case atStart => exact ⟨0, Nat.zero_le _, rfl, Hd (fun j x hj => by omega), R3, B3.out⟩
 case round =>
  obtain ⟨k, hk, rfl, ht, hRO, hb⟩ := hrel
  by_cases hlt : k < n
  · obtain ⟨x, hx⟩ : ∃ x, l[k]? = some x := ⟨_, List.getElem?_eq_getElem (by rw [H.out.2.1]; exact hlt)⟩
    obtain ⟨op, xa, xb, xc, xd, r⟩ := x; obtain ⟨b, o, A1, n1, c1, A2, n2, c2, rfl, ⟨g0, g1, g2, g3, g4⟩, ⟨h5, h6, h7, h8⟩, hi64, s1, s2⟩ := (H.out.1.go hb).insat hx
    obtain ⟨p, hp⟩ : ∃ p, r.1.1 = p := ⟨_, rfl⟩
    obtain ⟨q, hq⟩ : ∃ q, r.2.1 = q := ⟨_, rfl⟩
    rw [hp] at h5; rw [hq] at h7
    obtain ⟨W6, hW6⟩ : ∃ W6 : World, wr.alloc (.cells #[.int .i64 op, .int .i64 xa, .int .i64 xb, .int .i64 xc, .int .i64 xd, .bool p, .slice A1 n1 c1, .bool q, .slice A2 n2 c2] 55) = W6 := ⟨_, rfl⟩
    have hfi : (Instr.storeAt 55 (.pointer (some ⟨wr.heap.size, 0, none⟩)) (.agg #[.int .i64 op, .int .i64 xa, .int .i64 xb, .int .i64 xc, .int .i64 xd, .bool p, .slice A1 n1 c1, .bool q, .slice A2 n2 c2])).run Tryz.prog (wr.alloc (.cells #[.int .i64 0, .int .i64 0, .int .i64 0, .int .i64 0, .int .i64 0, .bool false, .slice none 0 0, .bool false, .slice none 0 0] 55)) = .ok () W6 := by rw [← hW6]; exact fill_run ins_size rfl (by simp [Value.oneCell'])
    have b6 : Below wr.heap.size wr W6 := by rw [← hW6]; exact bel
    have R6 : RowV W6 wr.heap.size [.int .i64 op, .int .i64 xa, .int .i64 xb, .int .i64 xc, .int .i64 xd, .bool p, .slice A1 n1 c1, .bool q, .slice A2 n2 c2] 55 := by rw [← hW6]; exact heap_alloc_new wr _
    have RO6 : RowV W6 bo opsL 78 := hRO.out.go b6 hRO.out.lt; have HX := Hd6 (s1.go b6) (s2.go b6) hp hq hx b6; have v0 := stays_drew (R6.cell (k := 0) rfl); have v1 := stays_drew (R6.cell (k := 1) rfl); have v2 := stays_drew (R6.cell (k := 2) rfl); have v3 := stays_drew (R6.cell (k := 3) rfl); have v4 := stays_drew (R6.cell (k := 4) rfl); have v5 := stays_drew (R6.cell (k := 5) rfl); have v6 := stays_drew (R6.cell (k := 6) rfl); have v7 := stays_drew (R6.cell (k := 7) rfl); have v8 := stays_drew (R6.cell (k := 8) rfl); clear s1 s2 hx hp hq b6 R6
    by_cases ho1 : op < 1
    · have HRI := Hd (show rightI k m (op, xa, xb, xc, xd, r) = false by simp [rightI, show ¬ op = 1 by omega, show ¬ op = 2 by omega, show ¬ op = 3 by omega, show ¬ op = 4 by omega, show ¬ op = 5 by omega, show ¬ op = 6 by omega, show ¬ op = 7 by omega, show ¬ op = 8 by omega])
      have HF := Hd (show codeE l m = 190 by rw [HE.out, rights_bad HX.out.2.2.2.2.1 HRI.out]; rfl); gi_wp2; refine wpIn_region_all [] (List.range 20) (by kernel_rfl) (by kernel_rfl) ?_; simp only [show List.range 20 = [0,1,2,3,4,5,6,7,8,9,10,11,12,13,14,15,16,17,18,19] from rfl]
      repeat ((first | refine ord_rd ?_ | refine ord_sk ?_ | refine ord_cs ?_))
      refine ord_nil ?_; refine lit ?_; gi_wp2; go_ret; exact ⟨by first | (rw [HF.out]; done) | (rw [HF.out]; rfl), (hb.trans (HX.out.2.2.2.2.2.mono hb.size)).drew⟩
    have hd1 : decide (op < 1) = false := decide_eq_false ho1
    by_cases ho8 : 8 < op
    · have hd8 : decide (8 < op) = true := decide_eq_true ho8
      have HRI := Hd (show rightI k m (op, xa, xb, xc, xd, r) = false by simp [rightI, show ¬ op = 1 by omega, show ¬ op = 2 by omega, show ¬ op = 3 by omega, show ¬ op = 4 by omega, show ¬ op = 5 by omega, show ¬ op = 6 by omega, show ¬ op = 7 by omega, show ¬ op = 8 by omega]); have HF := Hd (show codeE l m = 190 by rw [HE.out, rights_bad HX.out.2.2.2.2.1 HRI.out]; rfl); gi_wp2; refine wpIn_region_all [] (List.range 20) (by kernel_rfl) (by kernel_rfl) ?_; simp only [show List.range 20 = [0,1,2,3,4,5,6,7,8,9,10,11,12,13,14,15,16,17,18,19] from rfl]
      repeat ((first | refine ord_rd ?_ | refine ord_sk ?_ | refine ord_cs ?_))
      refine ord_nil ?_; refine lit ?_; gi_wp2; go_ret; exact ⟨by first | (rw [HF.out]; done) | (rw [HF.out]; rfl), (hb.trans (HX.out.2.2.2.2.2.mono hb.size)).drew⟩
    have hop : op = 1 ∨ op = 2 ∨ op = 3 ∨ op = 4 ∨ op = 5 ∨ op = 6 ∨ op = 7 ∨ op = 8 := by omega
    clear ho1 ho8 hd1
    rcases hop with rfl | rfl | rfl | rfl | rfl | rfl | rfl | rfl
    · have y0 := stays_drew (RO6.cell (k := 4) (x := .int .i64 0) rfl)
      have y1 := stays_drew (RO6.cell (k := 4 + 1) (x := .bool false) rfl); have y2 := stays_drew (RO6.cell (k := 4 + 2) (x := .bool true) rfl); have HU := Hd (rightU_I1 k m xa xb xc xd r)
      cases hr : rightI k m (1, xa, xb, xc, xd, r) <;> exact walkC
    · have y0 := stays_drew (RO6.cell (k := 8) (x := .int .i64 0) rfl)
      have y1 := stays_drew (RO6.cell (k := 8 + 1) (x := .bool true) rfl); have y2 := stays_drew (RO6.cell (k := 8 + 2) (x := .bool false) rfl); have HU := Hd (rightU_I2 k m xa xb xc xd r)
      cases hr : rightI k m (2, xa, xb, xc, xd, r) <;> exact walkC
    · have y0 := stays_drew (RO6.cell (k := 12) (x := .int .i64 2) rfl)
      have y1 := stays_drew (RO6.cell (k := 12 + 1) (x := .bool false) rfl); have y2 := stays_drew (RO6.cell (k := 12 + 2) (x := .bool false) rfl); have HU := Hd (rightU_I3 k m xa xb xc xd r)
      cases hr : rightI k m (3, xa, xb, xc, xd, r) <;> exact walkC
    · have y0 := stays_drew (RO6.cell (k := 16) (x := .int .i64 2) rfl)
      have y1 := stays_drew (RO6.cell (k := 16 + 1) (x := .bool false) rfl); have y2 := stays_drew (RO6.cell (k := 16 + 2) (x := .bool false) rfl); have HU := Hd (rightU_I4 k m xa xb xc xd r)
      cases hr : rightI k m (4, xa, xb, xc, xd, r) <;> exact walkC
    · have y0 := stays_drew (RO6.cell (k := 20) (x := .int .i64 1) rfl)
      have y1 := stays_drew (RO6.cell (k := 20 + 1) (x := .bool false) rfl); have y2 := stays_drew (RO6.cell (k := 20 + 2) (x := .bool true) rfl); have HU := Hd (rightU_I5 k m xa xb xc xd r)
      cases hr : rightI k m (5, xa, xb, xc, xd, r) <;> exact walkC
    · have y0 := stays_drew (RO6.cell (k := 24) (x := .int .i64 2) rfl)
      have y1 := stays_drew (RO6.cell (k := 24 + 1) (x := .bool false) rfl); have y2 := stays_drew (RO6.cell (k := 24 + 2) (x := .bool false) rfl); have HU := Hd (rightU_I6 k m xa xb xc xd r)
      cases hr : rightI k m (6, xa, xb, xc, xd, r) <;> exact walkC
    · have y0 := stays_drew (RO6.cell (k := 28) (x := .int .i64 2) rfl)
      have y1 := stays_drew (RO6.cell (k := 28 + 1) (x := .bool false) rfl); have y2 := stays_drew (RO6.cell (k := 28 + 2) (x := .bool false) rfl); have HU := Hd (rightU_I7 k m xa xb xc xd r)
      cases hr : rightI k m (7, xa, xb, xc, xd, r) <;> exact walkC
    · have y0 := stays_drew (RO6.cell (k := 32) (x := .int .i64 4) rfl)
      have y1 := stays_drew (RO6.cell (k := 32 + 1) (x := .bool false) rfl); have y2 := stays_drew (RO6.cell (k := 32 + 2) (x := .bool false) rfl); have HU := Hd (rightU_I8 k m xa xb xc xd r)
      cases hr : rightI k m (8, xa, xb, xc, xd, r) <;> exact walkC
  · obtain rfl : k = n := by omega
    have HF := Hd (show codeE l m = 0 by
     rw [HE.out, rights_all (fun j y hy => by rw [Int.zero_add]; exact ht.out j y (by rw [← H.out.2.1]; exact (List.getElem?_eq_some_iff.1 hy).1) hy)]; rfl)
    gi_wp2; go_ret; exact ⟨by first | (rw [HF.out]; done) | (rw [HF.out]; rfl), hb⟩
end
section
open Go.RowKit Go.Shelf
attribute [local go_sem] Oper.semAt_some
theorem rat_size : (Tryz.prog.info? 31).map (fun i => i.size) = some 4 := by kernel_rfl
theorem store4_run {W : World} {y : Nat} {a0 a1 a2 a3 : Value} (h0 : W.cell? ⟨y, 0, none⟩ = some a0) (h1 : W.cell? ⟨y, 1, none⟩ = some a1) (h2 : W.cell? ⟨y, 2, none⟩ = some a2) (h3 : W.cell? ⟨y, 3, none⟩ = some a3) (f0 : W.frozen? ⟨y, 0, none⟩ = false) (f1 : W.frozen? ⟨y, 1, none⟩ = false) (f2 : W.frozen? ⟨y, 2, none⟩ = false) (f3 : W.frozen? ⟨y, 3, none⟩ = false) (p q : Bool) (A B : Option Addr) (n c m d : Nat) :
 (Instr.storeAt 31 (.pointer (some ⟨y, 0, none⟩)) (.agg #[.bool p, .slice A n c, .bool q, .slice B m d])).run Tryz.prog W = .ok () ((((W.setCell ⟨y, 0, none⟩ (.bool p)).setCell ⟨y, 1, none⟩ (.slice A n c)).setCell ⟨y, 2, none⟩ (.bool q)).setCell ⟨y, 3, none⟩ (.slice B m d)) := by
 go_simp
theorem store1_run {W : World} {y : Nat} {a : Value} (h0 : W.cell? ⟨y, 1, none⟩ = some a) (f0 : W.frozen? ⟨y, 1, none⟩ = false) (A : Option Addr) (n c : Nat) :
 (Instr.storeAt 39 (.pointer (some ⟨y, 1, none⟩)) (.slice A n c)).run Tryz.prog W = .ok () (W.setCell ⟨y, 1, none⟩ (.slice A n c)) := by
 go_simp
theorem Fr.put2 {w W : World} {L : List (Nat × List Value)} {y : Nat} {a0 a1 : Value} (h : Fr w W (L ++ [(y, [a0, a1])])) (hL : ∀ b vs, (b, vs) ∈ L → b ≠ y) (v1 : Value) :
 ∃ W', W.setCell ⟨y, 1, none⟩ v1 = W' ∧ Fr w W' (L ++ [(y, [a0, v1])]) ∧ (∀ s W0, s ≤ y → Below s W0 W → Below s W0 W') ∧ Keeps [y] W W' := by
 have hy : (y, [a0, a1]) ∈ L ++ [(y, [a0, a1])] := by simp
 have g := h.at_ _ _ hy
 have g0 := g 0 _ rfl
 have g1 := g 1 _ rfl
 have kp := (Keeps.refl [y] W).setCell (p := ⟨y, 1, none⟩) (.inl (by simp)) v1
 have hB : ∀ s W0, s ≤ y → Below s W0 W → Below s W0 (W.setCell ⟨y, 1, none⟩ v1) := fun s W0 hs hb => hb.setCell (p := ⟨y, 1, none⟩) hs v1
 have hown : ∀ i u, [a0, v1][i]? = some u → (W.setCell ⟨y, 1, none⟩ v1).cell? ⟨y, i, none⟩ = some u ∧ (W.setCell ⟨y, 1, none⟩ v1).frozen? ⟨y, i, none⟩ = false := by
  intro i u hu
  match i, hu with
  | 0, hu => simp only [List.getElem?_cons_zero, List.getElem?_cons_succ, Option.some.injEq] at hu; subst hu; exact ⟨by simp [go_sem, g0.1, g1.1], by simp [go_sem, g0.2, g1.2]⟩
  | 1, hu => simp only [List.getElem?_cons_zero, List.getElem?_cons_succ, Option.some.injEq] at hu; subst hu; exact ⟨by simp [go_sem, g0.1, g1.1], by simp [go_sem, g0.2, g1.2]⟩
  | i + 2, hu => simp at hu
 generalize W.setCell ⟨y, 1, none⟩ v1 = W' at kp hB hown
 have hge := h.ge _ _ hy
 refine ⟨W', rfl, ⟨hB _ _ hge h.bl, fun b vs hm i u hu => ?_, fun b vs hm => ?_, fun b vs hm => ?_⟩, hB, kp⟩
 · rcases List.mem_append.1 hm with hm | hm
   · have hm' : (b, vs) ∈ L ++ [(y, [a0, a1])] := List.mem_append_left _ hm
     have hk := kp.block b (h.lt _ _ hm') (by simp [hL _ _ hm]); have := h.at_ _ _ hm' i u hu; exact ⟨by rw [← this.1]; simp only [World.cell?, hk], by rw [← this.2]; simp only [World.frozen?, hk]⟩
   · simp only [List.mem_singleton, Prod.mk.injEq] at hm
     obtain ⟨rfl, rfl⟩ := hm; exact hown i u hu
 · refine Nat.lt_of_lt_of_le ?_ kp.size
   rcases List.mem_append.1 hm with hm | hm
   · exact h.lt _ _ (List.mem_append_left _ hm)
   · simp only [List.mem_singleton, Prod.mk.injEq] at hm
     obtain ⟨rfl, rfl⟩ := hm; exact h.lt _ _ hy
 · rcases List.mem_append.1 hm with hm | hm
   · exact h.ge _ _ (List.mem_append_left _ hm)
   · simp only [List.mem_singleton, Prod.mk.injEq] at hm
     obtain ⟨rfl, rfl⟩ := hm; exact hge
theorem RowV.keep {w w' : World} {b : Nat} {cs : List Value} {ty : TypeId} {K : List Nat} (h : RowV w b cs ty) (k : Keeps K w w') (hb : b ∉ K) : RowV w' b cs ty := by unfold RowV at *; rw [k.block b (by exact (Array.getElem?_eq_some_iff.1 h).1) hb]; exact h
theorem RowV.grown {w w' : World} {b : Nat} {cs : List Value} {ty : TypeId} {row : Option Nat} (h : RowV w b cs ty) (hg : w.grownBy w' row) (hb : row ≠ some b) : RowV w' b cs ty := by unfold RowV at *; rw [hg.block b (by exact (Array.getElem?_eq_some_iff.1 h).1) (fun e => hb e.symm)]; exact h
structure CArgs (W : World) (M : List Nat) (mb : Nat) (A : Option Addr) (n c : Nat) (B : Option Addr) (m d : Nat) (ins regs : List Rt) (r : RatR) (p q : Bool) (A1 : Option Addr) (n1 c1 : Nat) (B1 : Option Addr) (m1 d1 : Nat) : Prop where
 bel : Bel M W
 mach : Mach W M mb A n c B m d ins regs
 xc : XC W M r p q A1 n1 c1 B1 m1 d1
section
variable {W V : World} {M : List Nat} {mb y : Nat} {A B A1 B1 : Option Addr} {n c m d n1 c1 m1 d1 : Nat} {ins regs : List Rt} {r : RatR} {p q : Bool}
theorem XC.drew (h : XC W M r p q A n c B m d) : XC W.drew M r p q A n c B m d := ⟨h.hp, h.hq, h.s1.keep (Keeps.refl _ _).drew, h.s2.keep (Keeps.refl _ _).drew⟩
theorem CArgs.drew (h : CArgs W M mb A n c B m d ins regs r p q A1 n1 c1 B1 m1 d1) : CArgs W.drew M mb A n c B m d ins regs r p q A1 n1 c1 B1 m1 d1 := ⟨h.bel, h.mach.drew, h.xc.drew⟩
theorem CArgs.turn (h : CArgs W M mb A n c B m d ins regs r p q A1 n1 c1 B1 m1 d1) (hb : Below W.drew.heap.size W.drew V) (hy : W.heap.size = y) (hl : y < V.heap.size) : CArgs V (y :: M) mb A n c B m d ins regs r p q A1 n1 c1 B1 m1 d1 :=
 ⟨(h.bel.le hb.size).cons hl, (h.mach.more (Nat.le_of_eq hy)).drew.go hb, (h.xc.more (Nat.le_of_eq hy)).drew.go hb⟩
end
theorem mk_rats (n : Nat) (hn : n ≤ 1000) (w : World) : ∃ cur : Array Value, cur.size = n * 4 ∧ (Instr.makeSlice 39 (.int .i64 0) (.int .i64 (n : Int))).run Tryz.prog w = .ok (.slice (some ⟨w.heap.size, 0, none⟩) 0 n) (w.alloc (.cells cur 31)) := by
 obtain ⟨i, hi, hz, hs, hb⟩ := info_parts rat_info
 have := run_make (P := Tryz.prog) w 39 31 i _ Tryz.underlying39 hi hz .i64 .i64 0 (n : Int) (Int.le_refl _) (by omega) (by rw [hb]; omega) (by omega)
 refine ⟨_, ?_, this⟩
 rw [size_madeCells, hs, Int.toNat_natCast]
theorem right_op {i m : Int} {op a b c d : Int} {r : RatR} (h : rightI i m (op, a, b, c, d, r) = true) : ∃ o : Nat, op = o ∧ 1 ≤ o ∧ o ≤ 8 := by
 refine ⟨op.toNat, ?_⟩
 rcases right_at h with ⟨rfl, _⟩ | ⟨rfl, _⟩ | ⟨h3, _⟩ | ⟨rfl, _⟩ | ⟨rfl, _⟩
 · decide
 · decide
 · rcases h3 with rfl | rfl | rfl | rfl <;> decide
 · decide
 · decide
theorem ops_at {o : Nat} (h1 : 1 ≤ o) (h8 : o ≤ 8) : opsL[o * 4 + 3]? = some (.func (.func (opF o)) #[] #[]) := by
 have : o = 1 ∨ o = 2 ∨ o = 3 ∨ o = 4 ∨ o = 5 ∨ o = 6 ∨ o = 7 ∨ o = 8 := by omega
 rcases this with rfl | rfl | rfl | rfl | rfl | rfl | rfl | rfl <;> rfl
end
section
open Go.RowKit Go.Shelf
attribute [local go_sem] Oper.semAt_some
theorem callF {o : Nat} (h1 : 1 ≤ o) (h8 : o ≤ 8) (args : Array Value) (w : World) : (callFunc (opF o) args).run Tryz.prog w = .ok (.enter (opF o) args) w := by
 have : o = 1 ∨ o = 2 ∨ o = 3 ∨ o = 4 ∨ o = 5 ∨ o = 6 ∨ o = 7 ∨ o = 8 := by omega
 rcases this with rfl | rfl | rfl | rfl | rfl | rfl | rfl | rfl <;> simp [opF]
theorem callG {o : Nat} (h1 : 1 ≤ o) (h8 : o ≤ 8) (args : Array Value) (w : World) : (callFunc (opG o) args).run Tryz.prog w = .ok (.enter (opG o) args) w := by
 have : o = 1 ∨ o = 2 ∨ o = 3 ∨ o = 4 ∨ o = 5 ∨ o = 6 ∨ o = 7 ∨ o = 8 := by omega
 rcases this with rfl | rfl | rfl | rfl | rfl | rfl | rfl | rfl <;> simp [opG]
end
end Go.Proofs.YtboapndkopabiaaGreat
