/- sheets.Agrees: what it computes. No statement is proved here. -/
import Derived.Test.YthbbefkmnahnlaaRead2
import Derived.Test.YthbbefkmnahnlaaSh2
namespace Go.Proofs.Ythbbefkmnahnlaa
open Go.RowKit Go.Shelf
attribute [local go_sem] Oper.semAt_some

theorem read_any {M M2 : List Nat} (A : Option Addr) (n cp : Nat) (c : List Crit) (no rd en ju : Int) (B : Option Addr) (m d : Nat) (bs : List (List Int)) (w : World) (hx : Sl Crit w M A n cp c) (hy : Sl (List Int) w M2 B m d bs) :
    Calls Try.prog 10 #[.slice A n cp, .agg #[.int .i64 no, .int .i64 rd, .int .i64 en, .int .i64 ju, .slice B m d]] w (ReadR w (readM c ⟨no, rd, en, ju, bs⟩)) := by
  by_cases h : checkM c ⟨no, rd, en, ju, bs⟩ = 0
  · exact read_ok A n cp c no rd en ju B m d bs w hx hy h
  · exact read_err A n cp c no rd en ju B m d bs w hx hy h

/-- The marks that are read are the marks, and each class is ClearX or NoneX. -/
def matchM : List Int → List Int → List Int → Bool
  | m :: a, x :: b, k :: c => (m == k && (decide (0 ≤ x) && decide (x ≤ 1))) && matchM a b c
  | _, _, _ => true

def agreesM (c : List Crit) (s : Sheet) (marks : List Int) : Bool × Int :=
  if (readM c s).2.2 ≠ 0 then (false, (readM c s).2.2) else if scaledM c marks then (matchM (readM c s).1 (readM c s).2.1 marks, 0) else (false, 540)

set_option maxHeartbeats 1000000 in
theorem agrees_err {M M2 : List Nat} (A : Option Addr) (n cp : Nat) (c : List Crit) (no rd en ju : Int) (B : Option Addr) (m d : Nat) (bs : List (List Int)) (C : Option Addr) (k cq : Nat) (w : World) (hx : Sl Crit w M A n cp c) (hy : Sl (List Int) w M2 B m d bs)
    (he : (readM c ⟨no, rd, en, ju, bs⟩).2.2 ≠ 0) :
    Calls Try.prog 11 #[.slice A n cp, .agg #[.int .i64 no, .int .i64 rd, .int .i64 en, .int .i64 ju, .slice B m d], .slice C k cq] w fun e w' => e = .returned (.tuple #[.bool false, .int .i64 (readM c ⟨no, rd, en, ju, bs⟩).2.2]) ∧ Below w.heap.size w w' := by
  refine (callsIn_wide (n := 10)).1 ?_
  have H := Lib.hid hx
  have G := Lib.hid hy
  have hq1 : ((readM c ⟨no, rd, en, ju, bs⟩).2.2 != 0) = true := by simpa using he
  clear hx hy he
  generalize hq : (readM c ⟨no, rd, en, ju, bs⟩) = q at *
  have HQ := Lib.hid hq
  clear hq
  refine callsIn_of_wp_marks Try.func11 rfl trivial ?_ rfl; simp only [Try.ntmps11, List.size_toArray, List.length_cons, List.length_nil, Nat.reduceAdd, Nat.reduceSub, Array.replicate_succ, Array.replicate_zero, List.push_toArray, List.append_toArray, List.nil_append, List.cons_append]
  gi_wp2_with (refine ⟨trivial, ?_⟩; gi_at_call 10; refine (callsIn_wide.2 (read_any A n cp c no rd en ju B m d bs _ ((((H.out.less (M' := []) (by simp)).keep ((Keeps.refl _ _).alloc _)).keep ((Keeps.refl _ _).alloc _)).keep ((Keeps.refl _ _).alloc _)) ((((G.out.less (M' := []) (by simp)).keep ((Keeps.refl _ _).alloc _)).keep ((Keeps.refl _ _).alloc _)).keep ((Keeps.refl _ _).alloc _)))).mono ?_; rintro e w1 ⟨A1, n1, c1, A2, n2, c2, rfl, -, hb1⟩; rw [HQ.out]; have d1 : w1.cell? ⟨w.heap.size + 1, 0, none⟩ = some (.bool false) := (hb1.cell (p := ⟨w.heap.size + 1, 0, none⟩) (by simp)).trans (by simp [go_sem]); have d2 : w1.cell? ⟨w.heap.size + 1 + 1, 0, none⟩ = some (.int .i64 0) := (hb1.cell (p := ⟨w.heap.size + 1 + 1, 0, none⟩) (by simp)).trans (by simp [go_sem]); have f1 : w1.frozen? ⟨w.heap.size + 1, 0, none⟩ = false := (hb1.frozen (p := ⟨w.heap.size + 1, 0, none⟩) (by simp)).trans (by simp [go_sem]); have f2 : w1.frozen? ⟨w.heap.size + 1 + 1, 0, none⟩ = false := (hb1.frozen (p := ⟨w.heap.size + 1 + 1, 0, none⟩) (by simp)).trans (by simp [go_sem]); have hbb := Lib.hid ((((Below.refl w.heap.size w).alloc (Nat.le_refl _) _).alloc (by simp) _).alloc (by simp; omega) _ |>.trans (hb1.mono (by simp; omega))))
  obtain ⟨W2, hW2⟩ : ∃ W2 : World, w1.setCell ⟨w.heap.size + 1 + 1, 0, none⟩ (.int .i64 q.2.2) = W2 := ⟨_, rfl⟩
  rw [hW2]
  have e1 : W2.cell? ⟨w.heap.size + 1, 0, none⟩ = some (.bool false) := by rw [← hW2, World.cell?_setCell_other]; exact d1; intro e; injection e with e; omega
  have e2 : W2.cell? ⟨w.heap.size + 1 + 1, 0, none⟩ = some (.int .i64 q.2.2) := by rw [← hW2]; exact cell_same d2
  have g1 : W2.frozen? ⟨w.heap.size + 1, 0, none⟩ = false := by rw [← hW2]; simp [f1]
  have g2 : W2.frozen? ⟨w.heap.size + 1 + 1, 0, none⟩ = false := by rw [← hW2]; simp [f2]
  have hb2 : Below w.heap.size w W2 := by rw [← hW2]; exact hbb.out.setCell (p := ⟨w.heap.size + 1 + 1, 0, none⟩) (by simp; omega) _
  clear hW2
  have r2 := stays_m (Mr := [w.heap.size + 1]) (by simp) e2
  refine region_E_np [w.heap.size + 1] 2 (by kernel_rfl) (by kernel_rfl) ?_
  refine E_read 0 (by kernel_rfl) rfl rfl ?_ np_panic ?_; (focus (first | exact wanted_none rfl | (refine wanted_yes rfl ?_; (focus (simp [yielded]; done))))); apply Exists.intro; refine ⟨fun w' hk Z hZ => ?_, ?_⟩; (focus (simp only [execOp]; (repeat conv in Act.eval _ _ => whnf); (try go_simp); exact hZ)); (try simp only [Act.put, List.setIfInBounds_toArray, List.set_cons_succ, List.set_cons_zero])
  refine E_all 1 [] (by kernel_rfl) (AllE_cons (by decide) rfl ?_ (fun K hK => ?_) AllE_nil); (focus (first | exact wanted_none rfl | (refine wanted_yes rfl ?_; (focus (simp [yielded]; done))))); gi_wp2
  refine ⟨?_, ?_⟩
  · exact ((Keeps.refl _ _).setCell (p := ⟨w.heap.size + 1, 0, none⟩) (.inl (by simp)) _)
  refine E_nil 1 (by kernel_rfl) rfl ?_
  refine tail_step fun K hK => ?_; refine tailStep_op rfl ?_ (fun K' hK' => ?_); (focus (first | exact wanted_none rfl | (refine wanted_yes rfl ?_; (focus (simp [yielded]; done))))); gi_wp2
  refine tail_nil _ ?_
  simp only [npost]
  gi_wp2
  refine ⟨.tuple #[.bool false, .int .i64 q.2.2], ?_, rfl, ((hb2.setCell (p := ⟨w.heap.size + 1, 0, none⟩) (by simp) _).setCell (p := ⟨w.heap.size + 1 + 1, 0, none⟩) (by simp; omega) _).drew⟩
  simp [results, go_sem, e1, e2]

theorem check_zero {c : List Crit} {s : Sheet} (h : checkM c s = 0) : c.all rightB = true ∧ c.length ≤ 64 ∧ s.boxes.length = c.length ∧ boxesOk c s.boxes = true := by
  unfold checkM errM at h
  by_cases g1 : 64 < c.length
  · simp [g1] at h
  · by_cases g2 : c.all rightB = true
    · simp only [g1, g2, if_false, if_true, ne_eq, not_true_eq_false] at h
      by_cases g3 : (headOk c.length s && boxesOk c s.boxes) = true
      · simp only [Bool.and_eq_true] at g3
        refine ⟨g2, by omega, ?_, g3.2⟩
        have := g3.1
        simp only [headOk, Bool.and_eq_true, decide_eq_true_eq] at this
        omega
      · simp [g3] at h
    · simp [g1, g2] at h

theorem readM_zero {c : List Crit} {s : Sheet} (h : (readM c s).2.2 = 0) : checkM c s = 0 := by
  unfold readM at h
  split at h
  · assumption
  · exact h

theorem readM_len {c : List Crit} {s : Sheet} (h : (readM c s).2.2 = 0) : (readM c s).1.length = c.length ∧ (readM c s).2.1.length = c.length := by
  have hc := readM_zero h
  obtain ⟨_, _, h3, _⟩ := check_zero hc
  simp [readM, hc, marksM, classesM, h3]

theorem better_mark {c : Crit} {m : Int} (hc : rightB c = true) : (betterM c m).2 = if onB c m then 0 else 160 := by
  unfold betterM; rw [hc]; by_cases h : onB c m = true <;> simp [h]

theorem cell_other {w : World} {B : Nat} {u v x : Value} (_ : w.cell? ⟨B + 1, 0, none⟩ = some u) (h : w.cell? ⟨B + 1 + 1, 0, none⟩ = some v) : (w.setCell ⟨B + 1, 0, none⟩ x).cell? ⟨B + 1 + 1, 0, none⟩ = some v := by
  rw [World.cell?_setCell_other]; exact h; intro e; injection e with e; omega
theorem cell_same' {w : World} {B : Nat} {u v x y : Value} (h : w.cell? ⟨B + 1, 0, none⟩ = some u) (_ : w.cell? ⟨B + 1 + 1, 0, none⟩ = some v) : ((w.setCell ⟨B + 1, 0, none⟩ x).setCell ⟨B + 1 + 1, 0, none⟩ y).cell? ⟨B + 1, 0, none⟩ = some x := by
  rw [World.cell?_setCell_other]; exact cell_same h; intro e; injection e with e; omega

set_option maxHeartbeats 4000000 in
theorem agrees_ok {M M2 M3 : List Nat} (A : Option Addr) (n cp : Nat) (c : List Crit) (no rd en ju : Int) (B : Option Addr) (m d : Nat) (bs : List (List Int)) (C : Option Addr) (k cq : Nat) (ks : List Int) (w : World) (hx : Sl Crit w M A n cp c) (hy : Sl (List Int) w M2 B m d bs) (hz : Sl Int w M3 C k cq ks)
    (he : (readM c ⟨no, rd, en, ju, bs⟩).2.2 = 0) :
    Calls Try.prog 11 #[.slice A n cp, .agg #[.int .i64 no, .int .i64 rd, .int .i64 en, .int .i64 ju, .slice B m d], .slice C k cq] w fun e w' => e = .returned (.tuple #[.bool (agreesM c ⟨no, rd, en, ju, bs⟩ ks).1, .int .i64 (agreesM c ⟨no, rd, en, ju, bs⟩ ks).2]) ∧ Below w.heap.size w w' := by
  refine (callsIn_wide (n := 10)).1 ?_
  have H := Lib.hid hx
  have G := Lib.hid hy
  have Z := Lib.hid hz
  have hc0 := readM_zero he
  obtain ⟨ha, hn64, hmn, hbo⟩ := check_zero hc0
  simp only at hmn hbo
  have hl1 := hx.len
  have hl2 := hy.len
  have hl3 := hz.len
  obtain ⟨hle1, hle2⟩ := readM_len he
  have hag : agreesM c ⟨no, rd, en, ju, bs⟩ ks = if scaledM c ks then (matchM (readM c ⟨no, rd, en, ju, bs⟩).1 (readM c ⟨no, rd, en, ju, bs⟩).2.1 ks, 0) else (false, 540) := by simp [agreesM, he]
  rw [hag]
  obtain rfl : n = m := by omega
  have hn : n ≤ 64 := by omega
  generalize hq : (readM c ⟨no, rd, en, ju, bs⟩) = q at *
  obtain ⟨ms, xs, qe⟩ := q
  simp only at he hle1 hle2 hag ⊢
  subst he
  have HQ := Lib.hid hq
  have HA := Lib.hid ha
  rw [hl1] at hle1 hle2
  have HM1 := Lib.hid hle1
  have HM2 := Lib.hid hle2
  generalize hr : (if scaledM c ks then (matchM ms xs ks, (0 : Int)) else (false, 540)) = r at *
  obtain ⟨rb, re⟩ := r
  simp only
  have HR := Lib.hid hr
  have HL1 := Lib.hid hl1
  have HL3 := Lib.hid hl3
  clear hx hy hz hq ha hc0 hn64 hmn hbo hag hr hl1 hl2 hl3 hle1 hle2
  have stepA : ∀ w1 : World, Below (((w.alloc (.cells #[.int .i64 no, .int .i64 rd, .int .i64 en, .int .i64 ju, .slice B n d] 29)).alloc (.cells #[.bool false] 4)).alloc (.cells #[.int .i64 0] 30)).heap.size (((w.alloc (.cells #[.int .i64 no, .int .i64 rd, .int .i64 en, .int .i64 ju, .slice B n d] 29)).alloc (.cells #[.bool false] 4)).alloc (.cells #[.int .i64 0] 30)) w1 →
      Below w.heap.size w w1 ∧ w.heap.size + 3 ≤ w1.heap.size ∧ (w1.cell? ⟨w.heap.size + 1, 0, none⟩ = some (.bool false) ∧ w1.frozen? ⟨w.heap.size + 1, 0, none⟩ = false) ∧ (w1.cell? ⟨w.heap.size + 1 + 1, 0, none⟩ = some (.int .i64 0) ∧ w1.frozen? ⟨w.heap.size + 1 + 1, 0, none⟩ = false) := by
    intro w1 hb1
    refine ⟨(((Below.refl w.heap.size w).alloc (Nat.le_refl _) _).alloc (by simp) _).alloc (by simp; omega) _ |>.trans (hb1.mono (by simp; omega)), by have := hb1.size; simpa using this, ⟨(hb1.cell (p := ⟨w.heap.size + 1, 0, none⟩) (by simp)).trans (by simp [go_sem]), (hb1.frozen (p := ⟨w.heap.size + 1, 0, none⟩) (by simp)).trans (by simp [go_sem])⟩,
      ⟨(hb1.cell (p := ⟨w.heap.size + 1 + 1, 0, none⟩) (by simp)).trans (by simp [go_sem]), (hb1.frozen (p := ⟨w.heap.size + 1 + 1, 0, none⟩) (by simp)).trans (by simp [go_sem])⟩⟩
  have HSA := Lib.hid stepA
  clear stepA
  refine callsIn_of_wp_marks Try.func11 rfl trivial ?_ rfl; simp only [Try.ntmps11, List.size_toArray, List.length_cons, List.length_nil, Nat.reduceAdd, Nat.reduceSub, Array.replicate_succ, Array.replicate_zero, List.push_toArray, List.append_toArray, List.nil_append, List.cons_append]
  by_cases hkn : k = n
  · obtain rfl : n = k := hkn.symm
    clear hkn
    gi_wp2_with (first
      | (refine ⟨trivial, ?_⟩; gi_at_call 10; refine (callsIn_wide.2 (read_any A n cp c no rd en ju B n d bs _ ((((H.out.less (M' := []) (by simp)).keep ((Keeps.refl _ _).alloc _)).keep ((Keeps.refl _ _).alloc _)).keep ((Keeps.refl _ _).alloc _)) ((((G.out.less (M' := []) (by simp)).keep ((Keeps.refl _ _).alloc _)).keep ((Keeps.refl _ _).alloc _)).keep ((Keeps.refl _ _).alloc _)))).mono ?_; rw [HQ.out]; rintro e w1 ⟨A1, n1, c1, A2, n2, c2, rfl, hsl, hb1⟩; obtain ⟨hbb, hsz1, ⟨d1, f1⟩, ⟨d2, f2⟩⟩ := HSA.out w1 hb1; have HSL := Lib.hid hsl; clear hsl hb1)
      | (refine ⟨trivial, ?_⟩; gi_at_call 23; refine (callsIn_wide.2 (zipI_any _ _ _ _ _ _ _)).mono ?_; rintro e w2 ⟨rfl, rfl⟩))
    obtain ⟨W2, hW2⟩ : ∃ W2 : World, ((w1.setCell ⟨w.heap.size + 1 + 1, 0, none⟩ (.int .i64 0)).alloc (.cells #[.slice A n cp] 22)).alloc (.cells #[.slice C n cq] 23) = W2 := ⟨_, rfl⟩
    rw [hW2]
    have hs2 : W2.heap.size = w1.heap.size + 2 := by rw [← hW2]; simp
    have b2 : Below w.heap.size w W2 := by rw [← hW2]; exact ((hbb.setCell (p := ⟨w.heap.size + 1 + 1, 0, none⟩) (by simp; omega) _).alloc (by simp; omega) _).alloc (by simp; omega) _
    have z1 : W2.cell? ⟨w1.heap.size, 0, none⟩ = some (.slice A n cp) := by rw [← hW2]; simp [go_sem]
    have z2 : W2.cell? ⟨w1.heap.size + 1, 0, none⟩ = some (.slice C n cq) := by rw [← hW2]; simp [go_sem]
    have hset : (w1.setCell ⟨w.heap.size + 1 + 1, 0, none⟩ (.int .i64 0)).cell? ⟨w.heap.size + 1, 0, none⟩ = some (.bool false) := by rw [World.cell?_setCell_other]; exact d1; intro e; injection e with e; omega
    have hset2 : (w1.setCell ⟨w.heap.size + 1 + 1, 0, none⟩ (.int .i64 0)).cell? ⟨w.heap.size + 1 + 1, 0, none⟩ = some (.int .i64 0) := cell_same d2
    have e1 : W2.cell? ⟨w.heap.size + 1, 0, none⟩ = some (.bool false) := by rw [← hW2]; exact cell_al _ (cell_al _ hset)
    have e2 : W2.cell? ⟨w.heap.size + 1 + 1, 0, none⟩ = some (.int .i64 0) := by rw [← hW2]; exact cell_al _ (cell_al _ hset2)
    have g1 : W2.frozen? ⟨w.heap.size + 1, 0, none⟩ = false := by rw [← hW2]; exact free_al _ (cell_al _ hset) (free_al _ hset (by simp [f1]))
    have g2 : W2.frozen? ⟨w.heap.size + 1 + 1, 0, none⟩ = false := by rw [← hW2]; exact free_al _ (cell_al _ hset2) (free_al _ hset2 (by simp [f2]))
    have HSL2 : Hid (∀ M : List Nat, (∀ k, k ∈ M → k < w.heap.size + 3 ∧ (k = w.heap.size + 1 + 1 → True)) → True) := fun _ _ => trivial
    have kk : Keeps [w.heap.size + 1 + 1] w1 W2 := by rw [← hW2]; exact (((Keeps.refl _ w1).setCell (p := ⟨w.heap.size + 1 + 1, 0, none⟩) (.inl (by simp)) _).alloc _).alloc _
    clear HSL2
    have SA := ((HSL.out [w.heap.size + 1, w.heap.size + 1 + 1] (by simp)).1.keep (kk.mono (by simp)))
    have SB := ((HSL.out [w.heap.size + 1, w.heap.size + 1 + 1] (by simp)).2.keep (kk.mono (by simp)))
    have HSA2 := Lib.hid SA
    have HSB2 := Lib.hid SB
    clear hW2 SA SB kk hset hset2
    have HS2 := Lib.hid hs2
    have X2 : Sl Crit W2 [w.heap.size + 1, w.heap.size + 1 + 1] A n cp c := (((H.out.less (M' := []) (by simp)).more (b := w.heap.size + 1 + 1) (by omega)).more (b := w.heap.size + 1) (by omega)).keep (Keeps.of_below b2 _)
    have Y2 : Sl Int W2 [w.heap.size + 1, w.heap.size + 1 + 1] C n cq ks := (((Z.out.less (M' := []) (by simp)).more (b := w.heap.size + 1 + 1) (by omega)).more (b := w.heap.size + 1) (by omega)).keep (Keeps.of_below b2 _)
    obtain ⟨us, U2, UU⟩ := Y2.rowV rfl
    clear hs2
    refine wp_rangeFunc (M := [w.heap.size + 1, w.heap.size + 1 + 1]) (w0 := W2) rfl rfl trivial (enters_of Try.func29 (by kernel_rfl) rfl)
      (zip1I_yields z1 (by simp; omega) z2 (by simp; omega) X2 U2 ?hus (by omega) (by omega)) (Keeps.refl _ _) ?hM ?hps
      (fun _ rest W => ((∃ k : Nat, k ≤ n ∧ rest = (zipV c us).drop k ∧ scaledM (c.drop k) (ks.drop k) = scaledM c ks) ∧ Below w.heap.size w W) ∧ ((W.cell? ⟨w.heap.size + 1, 0, none⟩ = some (.bool false) ∧ W.frozen? ⟨w.heap.size + 1, 0, none⟩ = false) ∧ (W.cell? ⟨w.heap.size + 1 + 1, 0, none⟩ = some (.int .i64 0) ∧ W.frozen? ⟨w.heap.size + 1 + 1, 0, none⟩ = false)) ∧ KeepsTo W2.heap.size [w.heap.size + 1, w.heap.size + 1 + 1] W2 W)
      (fun j W => ((j = .ret ∧ scaledM c ks = false) ∧ Below w.heap.size w W) ∧ ((W.cell? ⟨w.heap.size + 1, 0, none⟩ = some (.bool false) ∧ W.frozen? ⟨w.heap.size + 1, 0, none⟩ = false) ∧ (W.cell? ⟨w.heap.size + 1 + 1, 0, none⟩ = some (.int .i64 540) ∧ W.frozen? ⟨w.heap.size + 1 + 1, 0, none⟩ = false)))
      (fun _ _ => ((stab_pure _ _).and (stab_below (Nat.le_refl _) (by rw [HS2.out]; omega))).and (((stab_free _ _ _).and (stab_free _ _ _)).and (stab_keepsTo (Nat.le_refl _) (Nat.le_refl _))))
      (fun _ => ((stab_pure _ _).and (stab_below (Nat.le_refl _) (by rw [HS2.out]; omega))).and ((stab_free _ _ _).and (stab_free _ _ _)))
      (fun _ _ => ⟨⟨⟨0, by omega, rfl, rfl⟩, b2⟩, ⟨⟨e1, g1⟩, ⟨e2, g2⟩⟩, KeepsTo.refl _ _ _⟩) ?round ?done ?stop
    case hM =>
      intro q hq
      have : q = w.heap.size + 1 ∨ q = w.heap.size + 1 + 1 := by simpa using hq
      rw [HS2.out]
      omega
    case hus =>
      intro u hu
      obtain ⟨j, hj⟩ := List.getElem?_of_mem hu
      have hjl : j < ks.length := by
        have h1 := U2.len
        have h2 := HL3.out
        rcases Nat.lt_or_ge j us.length with h' | h'
        · omega
        · rw [List.getElem?_eq_none h'] at hj; cases hj
      obtain ⟨v, hv, he, _⟩ := UU j _ (List.getElem?_eq_getElem hjl)
      rw [hj] at hv
      cases hv
      injection he with he
      exact ⟨_, he⟩
    case hps =>
      intro x hx
      obtain ⟨j, hj⟩ := List.getElem?_of_mem hx
      simp only [zipV, List.getElem?_zipWith] at hj
      split at hj
      · cases hj; rfl
      · cases hj
    case stop =>
      rintro D j W hD ⟨⟨⟨rfl, hbx⟩, hbW⟩, ⟨hec, hef⟩, ⟨hec2, hef2⟩⟩ hdef
      have HBX := Lib.hid hbx
      clear hbx
      gi_wp2
      refine ⟨by simp, .inl ⟨_, _, rfl, run_takeDeferred (by assumption), ?_⟩⟩
      have hrr := HR.out
      rw [HBX.out] at hrr
      cases hrr
      exact ⟨.tuple #[.bool false, .int .i64 540], by simp [results, go_sem, mark_cell hec hdef, mark_cell hec2 hdef], rfl, mark_below hbW (by have := HS2.out; omega) (Nat.le_refl _)⟩
    case round =>
      rintro l s x rest W ⟨pre, hpre⟩ hl hls hsW hrec hkW ⟨⟨⟨k', hk', hrest, hbx⟩, hbW⟩, ⟨⟨hec, hef⟩, ⟨hec2, hef2⟩⟩, hkt⟩
      have hkn : k' < n := by
        rcases Nat.lt_or_ge k' n with h' | h'
        · exact h'
        · rw [List.drop_of_length_le (by simp only [zipV, List.length_zipWith, HL1.out]; omega)] at hrest; cases hrest
      have hlx : k' < c.length := by rw [HL1.out]; exact hkn
      have hlu : k' < us.length := by rw [U2.len]; omega
      have hlb : k' < ks.length := by rw [HL3.out]; omega
      rw [zipV_drop c us hlx hlu] at hrest
      injection hrest with hx hr'
      obtain ⟨v, hv, he, -⟩ := UU k' _ (List.getElem?_eq_getElem hlb)
      rw [List.getElem?_eq_getElem hlu] at hv
      injection hv with hv
      injection he with he
      rw [hv, he] at hx
      subst hx
      rw [List.drop_eq_getElem_cons hlx, List.drop_eq_getElem_cons hlb, scaledM] at hbx
      have hRx : rightB c[k'] = true := (List.all_eq_true.1 HA.out) _ (List.getElem_mem hlx)
      generalize c[k'] = cx at *
      generalize ks[k'] = y at *
      have hbm := better_mark (m := y) hRx
      obtain ⟨s0, lo, hi, st, how, tr, rv⟩ := cx
      have HBM := Lib.hid hbm
      have HBX := Lib.hid hbx
      have HR' := Lib.hid hr'
      have HHE := Lib.hid he
      clear hbx hr' hRx he hv hpre hbm
      have hlW : l < W.heap.size := by omega
      gi_wp2
      refine ⟨((Keeps.refl _ W).alloc _).to hsW, fun W'' =>
        ((W''.cell? ⟨W.heap.size, 0, none⟩ = some (.string s0) ∧ W''.cell? ⟨W.heap.size, 1, none⟩ = some (.int .i64 lo) ∧ W''.cell? ⟨W.heap.size, 2, none⟩ = some (.int .i64 hi) ∧ W''.cell? ⟨W.heap.size, 3, none⟩ = some (.int .i64 st) ∧
          W''.cell? ⟨W.heap.size, 4, none⟩ = some (.int .i64 how) ∧ W''.cell? ⟨W.heap.size, 5, none⟩ = some (.int .i64 tr) ∧ W''.cell? ⟨W.heap.size, 6, none⟩ = some (.bool rv)) ∧
         ((W''.cell? ⟨w.heap.size + 1, 0, none⟩ = some (.bool false) ∧ W''.frozen? ⟨w.heap.size + 1, 0, none⟩ = false) ∧ (W''.cell? ⟨w.heap.size + 1 + 1, 0, none⟩ = some (.int .i64 0) ∧ W''.frozen? ⟨w.heap.size + 1 + 1, 0, none⟩ = false))) ∧ Below w.heap.size w W'' ∧ KeepsTo W2.heap.size [w.heap.size + 1, w.heap.size + 1 + 1] W2 W'', ?_, ?_, ?_⟩
      · exact (((stab_cell _ _ _).and ((stab_cell _ _ _).and ((stab_cell _ _ _).and ((stab_cell _ _ _).and ((stab_cell _ _ _).and ((stab_cell _ _ _).and (stab_cell _ _ _))))))).and ((stab_free _ _ _).and (stab_free _ _ _))).and ((stab_below (Nat.le_refl _) (by rw [HS2.out]; omega)).and
          (stab_keepsTo (Nat.le_refl _) (Nat.le_refl _)))
      · exact ⟨⟨⟨by simp [go_sem], by simp [go_sem], by simp [go_sem], by simp [go_sem], by simp [go_sem], by simp [go_sem], by simp [go_sem]⟩, ⟨cell_al _ hec, free_al _ hec hef⟩, ⟨cell_al _ hec2, free_al _ hec2 hef2⟩⟩, hbW.alloc hbW.size _, hkt.alloc hkt.size _⟩
      · rintro W'' xl hxl hsz'' ⟨⟨⟨x0, x1, x2, x3, x4, x5, x6⟩, ⟨hec2, hef2⟩, ⟨hec3, hef3⟩⟩, hbW2, hkt2⟩
        have HXL := Lib.hid hxl
        have HSZ := Lib.hid hsz''
        have hws : w.heap.size + 3 ≤ W''.heap.size := by rw [HSZ.out]; simp; have := HS2.out; have := hkt.size; omega
        clear hxl hsz'' hec hef
        have callP : ∀ w1, Below W''.heap.size W'' w1 → (((w1.cell? ⟨w.heap.size + 1, 0, none⟩ = some (.bool false) ∧ w1.frozen? ⟨w.heap.size + 1, 0, none⟩ = false) ∧ (w1.cell? ⟨w.heap.size + 1 + 1, 0, none⟩ = some (.int .i64 0) ∧ w1.frozen? ⟨w.heap.size + 1 + 1, 0, none⟩ = false)) ∧ Below w.heap.size w w1 ∧ KeepsTo W2.heap.size [w.heap.size + 1, w.heap.size + 1 + 1] W2 w1) := by
          intro w1 hb1
          exact ⟨⟨⟨(hb1.cell (by simp; omega)).trans hec2, (hb1.frozen (by simp; omega)).trans hef2⟩, ⟨(hb1.cell (by simp; omega)).trans hec3, (hb1.frozen (by simp; omega)).trans hef3⟩⟩, hbW2.trans (hb1.mono hbW2.size), hkt2.trans ((Keeps.of_below hb1 _).to hkt2.size)⟩
        have HCP := Lib.hid callP
        clear callP
        cases hO : onB ⟨s0, lo, hi, st, how, tr, rv⟩ y
        · have HB2 := Lib.hid (HBM.out.trans (show _ = (160 : Int) by rw [hO]; rfl))
          have HOO := Lib.hid hO
          clear hO
          by_cases hy1 : y = -1
          · subst hy1
            gi_wp2_with (refine ⟨trivial, ?_⟩; gi_at_call 24; refine ((callsIn_wide.2 (better_any s0 lo hi st how tr rv (-1) _)).inRound l).mono ?_; rintro e w1 ⟨rfl, hb1⟩; rw [HB2.out]; have HC2 := Lib.hid (HCP.out w1 hb1); have HKK := Lib.hid ((Keeps.of_below hb1 ([w.heap.size + 1, w.heap.size + 1 + 1])).to (by rw [HSZ.out]; omega : s ≤ W''.heap.size)); clear hb1)
            refine ⟨HKK.out, ⟨⟨k' + 1, by omega, HR'.out, ?_⟩, HC2.out.2.1⟩, HC2.out.1, HC2.out.2.2⟩
            rw [← HBX.out]; rfl
          · have hy2 : (y != -1) = true := by simpa using hy1
            have hy3 : (y == -1) = false := by simpa using hy1
            have HY3 := Lib.hid hy3
            clear hy3
            gi_wp2_with (refine ⟨trivial, ?_⟩; gi_at_call 24; refine ((callsIn_wide.2 (better_any s0 lo hi st how tr rv y _)).inRound l).mono ?_; rintro e w1 ⟨rfl, hb1⟩; rw [HB2.out]; have HC2 := Lib.hid (HCP.out w1 hb1); have HKK := Lib.hid ((Keeps.of_below hb1 ([w.heap.size + 1, w.heap.size + 1 + 1])).to (by rw [HSZ.out]; omega : s ≤ W''.heap.size)); clear hb1; obtain ⟨⟨⟨q1, q2⟩, ⟨q3, q4⟩⟩, hbb2, hkk2⟩ := HC2.out)
            refine ⟨HKK.out.trans ((((Keeps.refl [w.heap.size + 1, w.heap.size + 1 + 1] w1).setCell (p := ⟨w.heap.size + 1, 0, none⟩) (.inl (by simp)) _).setCell (p := ⟨w.heap.size + 1 + 1, 0, none⟩) (.inl (by simp)) _).to ?_), ⟨⟨rfl, ?_⟩, (hbb2.setCell (p := ⟨w.heap.size + 1, 0, none⟩) (by simp) _).setCell (p := ⟨w.heap.size + 1 + 1, 0, none⟩) (by simp; omega) _⟩, ⟨?_, ?_⟩, ?_, ?_⟩
            · exact Nat.le_trans (by rw [HSZ.out]; omega) HKK.out.size
            · rw [← HBX.out, HY3.out, HOO.out]; rfl
            · rw [World.cell?_setCell_other]; exact cell_same q1; intro e; injection e with e; omega
            · simp [q2]
            · exact cell_same (by rw [World.cell?_setCell_other]; exact q3; intro e; injection e with e; omega)
            · simp [q4]
        · have HB2 := Lib.hid (HBM.out.trans (show _ = (0 : Int) by rw [hO]; rfl))
          have HOO := Lib.hid hO
          clear hO
          gi_wp2_with (refine ⟨trivial, ?_⟩; gi_at_call 24; refine ((callsIn_wide.2 (better_any s0 lo hi st how tr rv y _)).inRound l).mono ?_; rintro e w1 ⟨rfl, hb1⟩; rw [HB2.out]; have HC2 := Lib.hid (HCP.out w1 hb1); have HKK := Lib.hid ((Keeps.of_below hb1 ([w.heap.size + 1, w.heap.size + 1 + 1])).to (by rw [HSZ.out]; omega : s ≤ W''.heap.size)); clear hb1)
          refine ⟨HKK.out, ⟨⟨k' + 1, by omega, HR'.out, ?_⟩, HC2.out.2.1⟩, HC2.out.1, HC2.out.2.2⟩
          rw [← HBX.out, HOO.out]; simp
    case done =>
      rintro D s W hD hDs ⟨⟨⟨k', hk', hrest, hbx⟩, hbW⟩, ⟨⟨hec, hef⟩, ⟨hec2, hef2⟩⟩, hkt⟩ hdef
      have hwD : w.heap.size ≤ D := Nat.le_trans b2.size hD
      have hl1 := HL1.out
      have hl2 := HL3.out
      have hl3 := U2.len
      have hkn : n ≤ k' := by
        have := congrArg List.length hrest
        simp only [zipV, List.length_drop, List.length_zipWith, List.length_nil] at this
        omega
      rw [List.drop_of_length_le (by omega), List.drop_of_length_le (by omega), scaledM] at hbx
      have hrr := HR.out
      rw [← hbx] at hrr
      simp only [if_true, Prod.mk.injEq] at hrr
      obtain ⟨hrb, rfl⟩ := hrr
      have KW : Keeps [w.heap.size + 1, w.heap.size + 1 + 1] W2 W := ⟨hkt.size, hkt.block⟩
      have SA := HSA2.out.keep KW
      have SB := HSB2.out.keep KW
      have SC := Y2.keep KW
      obtain rfl : n1 = n := by have := SA.len; have := HM1.out; omega
      obtain rfl : n2 = n1 := by have := SB.len; have := HM2.out; omega
      have XA := Lib.hid SA
      have XB := Lib.hid SB
      have XC := Lib.hid SC
      have HRB := Lib.hid hrb
      clear hrest hbx hl1 hl2 hl3 SA SB SC KW hrb
      gi_wp2
      gi_loopw [49] (fun i wr => ∃ k : Nat, k ≤ n2 ∧ i = .int .i64 k ∧ Hid (matchM (ms.drop k) (xs.drop k) (ks.drop k) = matchM ms xs ks) ∧ Keeps [] W wr ∧ Below w.heap.size w wr) (fun i _ => n2 - (intOf i).toNat)
      case atStart => exact ⟨0, by omega, rfl, rfl, Keeps.refl _ _, hbW⟩
      case round =>
        obtain ⟨k, hk, rfl, hr, hb, hbB⟩ := hrel
        have q1 : wr.cell? ⟨w.heap.size + 1, 0, none⟩ = some (.bool false) := hb.cell (by simp) hec
        have q2 : wr.frozen? ⟨w.heap.size + 1, 0, none⟩ = false := by rw [World.frozen?_of_block (w := W) (hb.block _ (World.block_lt_of_cell? W (a := ⟨w.heap.size + 1, 0, none⟩) hec) (by simp))]; exact hef
        have q3 : wr.cell? ⟨w.heap.size + 1 + 1, 0, none⟩ = some (.int .i64 0) := hb.cell (by simp) hec2
        have q4 : wr.frozen? ⟨w.heap.size + 1 + 1, 0, none⟩ = false := by rw [World.frozen?_of_block (w := W) (hb.block _ (World.block_lt_of_cell? W (a := ⟨w.heap.size + 1 + 1, 0, none⟩) hec2) (by simp))]; exact hef2
        have q5 : wr.heap[D]? = some (.deferred (some [])) := by rw [hb.block D (Array.getElem?_eq_some_iff.1 hdef).1 (by simp)]; exact hdef
        by_cases hlt : k < n2
        · obtain ⟨b1, o1, y1, rfl, hd1, _, he1, hx1⟩ := (XA.out.keep (hb.mono (by simp))).intd hlt
          obtain ⟨b2, o2, y2, rfl, hd2, _, he2, hx2⟩ := (XB.out.keep (hb.mono (by simp))).intd hlt
          obtain ⟨b3, o3, y3, rfl, hd3, _, he3, hx3⟩ := (XC.out.keep (hb.mono (by simp))).intd hlt
          have hr2 := hr.out
          rw [he1, he2, he3, matchM] at hr2
          have HR3 := Lib.hid hr2
          have hsD : W.heap.size ≤ wr.heap.size := hb.size
          clear hr2 he1 he2 he3 hx1 hx2 hx3 hec hec2 hef hef2 e1 e2 g1 g2 z1 z2
          have r1 := stays_drew hd1
          have r2 := stays_drew hd2
          have r3 := stays_drew hd3
          clear hd1 hd2 hd3
          by_cases hq : y1 = y3
          · subst hq
            have z1 : wr.drew.cell? ⟨w.heap.size + 1, 0, none⟩ = some (.bool false) := q1
            have z2 : wr.drew.frozen? ⟨w.heap.size + 1, 0, none⟩ = false := q2
            have z3 : wr.drew.cell? ⟨w.heap.size + 1 + 1, 0, none⟩ = some (.int .i64 0) := q3
            have z4 : wr.drew.frozen? ⟨w.heap.size + 1 + 1, 0, none⟩ = false := q4
            have z5 : wr.drew.heap[D]? = some (.deferred (some [])) := q5
            have zB : Below w.heap.size w wr.drew := hbB.drew
            have ZZ := Lib.hid (And.intro z1 (And.intro z2 (And.intro z3 (And.intro z4 z5))))
            clear z1 z2 z3 z4 z5
            gi_wp2
            refine wpIn_region_all [] (List.range 17) (by kernel_rfl) (by kernel_rfl) ?_
            simp only [show List.range 17 = [0,1,2,3,4,5,6,7,8,9,10,11,12,13,14,15,16] from rfl]
            repeat (refine ord_step fun K hK => ?_; (first | (refine ordStep_read rfl rfl ?_ ?_; (focus (first | exact wanted_none rfl | (refine wanted_yes rfl ?_; (focus (simp [yielded]; done))))); apply Exists.intro; refine ⟨fun w' hk Z hZ => ?_, hK _ _ ?_⟩; (focus (simp only [execOp]; (repeat conv in Act.eval _ _ => whnf); (try go_simp); exact hZ))) | (refine ordStep_skip rfl rfl ?_ (hK _ _ ?_); (focus (first | (refine wanted_no rfl ?_; (focus (simp [yielded]; done))) | (refine wanted_un rfl ?_; (focus (simp [yielded]; done)))))) | (refine ordStep_callskip rfl rfl ?_ (fun _ => trivial) (hK _ _ ?_); (focus (first | (refine wanted_no rfl ?_; (focus (simp [yielded]; done))) | (refine wanted_un rfl ?_; (focus (simp [yielded]; done))))))); clear hK K; (try simp only [Act.put, List.setIfInBounds_toArray, List.set_cons_succ, List.set_cons_zero]))
            refine ord_step fun K hK => ?_; refine ordStep_call rfl rfl ?_ (fun K' hK' => ?_); (focus (first | exact wanted_none rfl | (refine wanted_yes rfl ?_; (focus (simp [yielded]; done))))); gi_wp2
            refine ⟨trivial, (callsIn_wide.2 (between_any _ _ _ _)).mono ?_⟩
            rintro e w1 ⟨rfl, rfl⟩
            refine hK' _ _ ⟨?_, hK _ _ ?_⟩; clear hK' K' hK K
            · exact Keeps.refl _ _
            (try simp only [Act.put, List.setIfInBounds_toArray, List.set_cons_succ, List.set_cons_zero])
            have hr4 := HR3.out
            rw [show (y1 == y1) = true by simp, Bool.true_and] at hr4
            clear r1 r2 r3
            cases hbt : (decide (0 ≤ y2) && decide (y2 ≤ 1))
            · rw [hbt, Bool.false_and] at hr4
              have HR4 := Lib.hid hr4.symm
              clear hr4
              repeat (refine ord_step fun K hK => ?_; (first | (refine ordStep_read rfl rfl ?_ ?_; (focus (first | exact wanted_none rfl | (refine wanted_yes rfl ?_; (focus (simp [yielded]; done))))); apply Exists.intro; refine ⟨fun w' hk Z hZ => ?_, hK _ _ ?_⟩; (focus (simp only [execOp]; (repeat conv in Act.eval _ _ => whnf); (try go_simp); exact hZ))) | (refine ordStep_skip rfl rfl ?_ (hK _ _ ?_); (focus (first | (refine wanted_no rfl ?_; (focus (simp [yielded]; done))) | (refine wanted_un rfl ?_; (focus (simp [yielded]; done)))))) | (refine ordStep_callskip rfl rfl ?_ (fun _ => trivial) (hK _ _ ?_); (focus (first | (refine wanted_no rfl ?_; (focus (simp [yielded]; done))) | (refine wanted_un rfl ?_; (focus (simp [yielded]; done))))))); clear hK K; (try simp only [Act.put, List.setIfInBounds_toArray, List.set_cons_succ, List.set_cons_zero]))
              refine ord_nil ?_; (try simp only [Act.put, List.setIfInBounds_toArray, List.set_cons_succ, List.set_cons_zero])
              gi_wp2
              obtain ⟨z1, z2, z3, z4, z5⟩ := ZZ.out
              have m1 := mark_cell (W := ((wr.setCell ⟨w.heap.size + 1, 0, none⟩ (.bool false)).setCell ⟨w.heap.size + 1 + 1, 0, none⟩ (.int .i64 0)).drew) (D := D) (cell_same' z1 z3) (set_deferred (set_deferred z5))
              have m2 := mark_cell (W := ((wr.setCell ⟨w.heap.size + 1, 0, none⟩ (.bool false)).setCell ⟨w.heap.size + 1 + 1, 0, none⟩ (.int .i64 0)).drew) (D := D) (cell_same (cell_other z1 z3)) (set_deferred (set_deferred z5))
              refine ⟨by simp, .inl ⟨_, _, rfl, run_takeDeferred (set_deferred (set_deferred z5)), ?_⟩⟩
              refine ⟨.tuple #[.bool false, .int .i64 0], by simp [results, go_sem, m1, m2], ?_, mark_below ((zB.setCell (p := ⟨w.heap.size + 1, 0, none⟩) (by simp) _).setCell (p := ⟨w.heap.size + 1 + 1, 0, none⟩) (by simp; omega) _) hwD (Nat.le_refl _)⟩
              rw [← HRB.out, HR4.out]
            · rw [hbt, Bool.true_and] at hr4
              have HR4 := Lib.hid hr4
              clear hr4
              repeat (refine ord_step fun K hK => ?_; (first | (refine ordStep_read rfl rfl ?_ ?_; (focus (first | exact wanted_none rfl | (refine wanted_yes rfl ?_; (focus (simp [yielded]; done))))); apply Exists.intro; refine ⟨fun w' hk Z hZ => ?_, hK _ _ ?_⟩; (focus (simp only [execOp]; (repeat conv in Act.eval _ _ => whnf); (try go_simp); exact hZ))) | (refine ordStep_skip rfl rfl ?_ (hK _ _ ?_); (focus (first | (refine wanted_no rfl ?_; (focus (simp [yielded]; done))) | (refine wanted_un rfl ?_; (focus (simp [yielded]; done)))))) | (refine ordStep_callskip rfl rfl ?_ (fun _ => trivial) (hK _ _ ?_); (focus (first | (refine wanted_no rfl ?_; (focus (simp [yielded]; done))) | (refine wanted_un rfl ?_; (focus (simp [yielded]; done))))))); clear hK K; (try simp only [Act.put, List.setIfInBounds_toArray, List.set_cons_succ, List.set_cons_zero]))
              refine ord_nil ?_; (try simp only [Act.put, List.setIfInBounds_toArray, List.set_cons_succ, List.set_cons_zero])
              gi_wp2
              go_roundw
              case rel => exact ⟨k + 1, by omega, by go_num, HR4.out, hb.drew, zB⟩
              case measure => simp [intOf]; omega
          · have hq2 : (y1 != y3) = true := by simpa using hq
            have hq3 : (y1 == y3) = false := by simpa using hq
            have HR4 := Lib.hid (HR3.out.symm.trans (by rw [hq3, Bool.false_and, Bool.false_and]))
            clear hq3
            have z1 : wr.drew.cell? ⟨w.heap.size + 1, 0, none⟩ = some (.bool false) := q1
            have z2 : wr.drew.frozen? ⟨w.heap.size + 1, 0, none⟩ = false := q2
            have z3 : wr.drew.cell? ⟨w.heap.size + 1 + 1, 0, none⟩ = some (.int .i64 0) := q3
            have z4 : wr.drew.frozen? ⟨w.heap.size + 1 + 1, 0, none⟩ = false := q4
            have z5 : wr.drew.heap[D]? = some (.deferred (some [])) := q5
            have zB : Below w.heap.size w wr.drew := hbB.drew
            have ZZ := Lib.hid (And.intro z1 (And.intro z2 (And.intro z3 (And.intro z4 z5))))
            clear z1 z2 z3 z4 z5
            gi_wp2
            refine wpIn_region_all [] (List.range 17) (by kernel_rfl) (by kernel_rfl) ?_
            simp only [show List.range 17 = [0,1,2,3,4,5,6,7,8,9,10,11,12,13,14,15,16] from rfl]
            repeat (refine ord_step fun K hK => ?_; (first | (refine ordStep_read rfl rfl ?_ ?_; (focus (first | exact wanted_none rfl | (refine wanted_yes rfl ?_; (focus (simp [yielded]; done))))); apply Exists.intro; refine ⟨fun w' hk Z hZ => ?_, hK _ _ ?_⟩; (focus (simp only [execOp]; (repeat conv in Act.eval _ _ => whnf); (try go_simp); exact hZ))) | (refine ordStep_skip rfl rfl ?_ (hK _ _ ?_); (focus (first | (refine wanted_no rfl ?_; (focus (simp [yielded]; done))) | (refine wanted_un rfl ?_; (focus (simp [yielded]; done)))))) | (refine ordStep_callskip rfl rfl ?_ (fun _ => trivial) (hK _ _ ?_); (focus (first | (refine wanted_no rfl ?_; (focus (simp [yielded]; done))) | (refine wanted_un rfl ?_; (focus (simp [yielded]; done))))))); clear hK K; (try simp only [Act.put, List.setIfInBounds_toArray, List.set_cons_succ, List.set_cons_zero]))
            refine ord_nil ?_; (try simp only [Act.put, List.setIfInBounds_toArray, List.set_cons_succ, List.set_cons_zero])
            gi_wp2
            obtain ⟨z1, z2, z3, z4, z5⟩ := ZZ.out
            have m1 := mark_cell (W := ((wr.setCell ⟨w.heap.size + 1, 0, none⟩ (.bool false)).setCell ⟨w.heap.size + 1 + 1, 0, none⟩ (.int .i64 0)).drew) (D := D) (cell_same' z1 z3) (set_deferred (set_deferred z5))
            have m2 := mark_cell (W := ((wr.setCell ⟨w.heap.size + 1, 0, none⟩ (.bool false)).setCell ⟨w.heap.size + 1 + 1, 0, none⟩ (.int .i64 0)).drew) (D := D) (cell_same (cell_other z1 z3)) (set_deferred (set_deferred z5))
            refine ⟨by simp, .inl ⟨_, _, rfl, run_takeDeferred (set_deferred (set_deferred z5)), ?_⟩⟩
            refine ⟨.tuple #[.bool false, .int .i64 0], by simp [results, go_sem, m1, m2], ?_, mark_below ((zB.setCell (p := ⟨w.heap.size + 1, 0, none⟩) (by simp) _).setCell (p := ⟨w.heap.size + 1 + 1, 0, none⟩) (by simp; omega) _) hwD (Nat.le_refl _)⟩
            rw [← HRB.out, HR4.out]
        · have hr2 := hr.out
          rw [List.drop_of_length_le (by rw [XA.out.len]; omega), List.drop_of_length_le (by rw [XB.out.len]; omega), List.drop_of_length_le (by rw [XC.out.len]; omega), show matchM [] [] [] = true from rfl] at hr2
          have HR4 := Lib.hid hr2.symm
          have qB := hbB
          clear hr2
          gi_wp2
          refine ⟨by simp, .inl ⟨_, _, rfl, run_takeDeferred (set_deferred (set_deferred q5)), ?_⟩⟩
          refine ⟨.tuple #[.bool true, .int .i64 0], by simp [results, go_sem, mark_cell (cell_same' q1 q3) (set_deferred (set_deferred q5)), mark_cell (cell_same (cell_other q1 q3)) (set_deferred (set_deferred q5))], ?_, mark_below ((qB.setCell (p := ⟨w.heap.size + 1, 0, none⟩) (by simp) _).setCell (p := ⟨w.heap.size + 1 + 1, 0, none⟩) (by simp; omega) _) hwD (Nat.le_refl _)⟩
          rw [← HRB.out, HR4.out]
  · have hkn1 : ((k : Int) != n) = true := by simp; omega
    gi_wp2_with (refine ⟨trivial, ?_⟩; gi_at_call 10; refine (callsIn_wide.2 (read_any A n cp c no rd en ju B n d bs _ ((((H.out.less (M' := []) (by simp)).keep ((Keeps.refl _ _).alloc _)).keep ((Keeps.refl _ _).alloc _)).keep ((Keeps.refl _ _).alloc _)) ((((G.out.less (M' := []) (by simp)).keep ((Keeps.refl _ _).alloc _)).keep ((Keeps.refl _ _).alloc _)).keep ((Keeps.refl _ _).alloc _)))).mono ?_; rw [HQ.out]; rintro e w1 ⟨A1, n1, c1, A2, n2, c2, rfl, hsl, hb1⟩; obtain ⟨hbb, hsz1, ⟨d1, f1⟩, ⟨d2, f2⟩⟩ := HSA.out w1 hb1; have HSL := Lib.hid hsl; clear hsl hb1)
    refine ⟨.tuple #[.bool false, .int .i64 540], by simp [results, go_sem, d1, d2], ?_, ((hbb.setCell (p := ⟨w.heap.size + 1 + 1, 0, none⟩) (by simp; omega) _).setCell (p := ⟨w.heap.size + 1, 0, none⟩) (by simp) _).setCell (p := ⟨w.heap.size + 1 + 1, 0, none⟩) (by simp; omega) _⟩
    have hrr := HR.out
    rw [scaledM_len (by rw [HL1.out, HL3.out]; omega)] at hrr
    cases hrr
    rfl

theorem agrees_any {M M2 M3 : List Nat} (A : Option Addr) (n cp : Nat) (c : List Crit) (no rd en ju : Int) (B : Option Addr) (m d : Nat) (bs : List (List Int)) (C : Option Addr) (k cq : Nat) (ks : List Int) (w : World) (hx : Sl Crit w M A n cp c) (hy : Sl (List Int) w M2 B m d bs) (hz : Sl Int w M3 C k cq ks) :
    Calls Try.prog 11 #[.slice A n cp, .agg #[.int .i64 no, .int .i64 rd, .int .i64 en, .int .i64 ju, .slice B m d], .slice C k cq] w fun e w' => e = .returned (.tuple #[.bool (agreesM c ⟨no, rd, en, ju, bs⟩ ks).1, .int .i64 (agreesM c ⟨no, rd, en, ju, bs⟩ ks).2]) ∧ Below w.heap.size w w' := by
  by_cases h : (readM c ⟨no, rd, en, ju, bs⟩).2.2 = 0
  · exact agrees_ok A n cp c no rd en ju B m d bs C k cq ks w hx hy hz h
  · have := agrees_err A n cp c no rd en ju B m d bs C k cq w hx hy h
    rw [show agreesM c ⟨no, rd, en, ju, bs⟩ ks = (false, (readM c ⟨no, rd, en, ju, bs⟩).2.2) by simp [agreesM, h]]
    exact this
end Go.Proofs.Ythbbefkmnahnlaa
