/- sheets.Check: what it computes. No statement is proved here. -/
import Derived.Test.YthbbefkmnahnlaaZip
import Derived.Test.YthbbefkmnahnlaaRef54
namespace Go.Proofs.Ythbbefkmnahnlaa
open Go.RowKit Go.Shelf
attribute [local go_sem] Oper.semAt_some

def boxOk (c : Crit) (bs : List Int) : Bool := decide ((bs.length : Int) = (c.hi - c.lo) / c.st + 1) && bs.all (fun b => decide (0 ≤ b ∧ b ≤ 2))
def boxesOk : List Crit → List (List Int) → Bool
  | [], [] => true
  | c :: a, b :: l => boxOk c b && boxesOk a l
  | _, _ => false

structure Sheet where
  no : Int
  rd : Int
  en : Int
  ju : Int
  boxes : List (List Int)

def headOk (n : Nat) (s : Sheet) : Bool :=
  decide (0 ≤ s.no ∧ s.no ≤ 1048576) && decide (0 ≤ s.rd ∧ s.rd ≤ 7) && decide (0 ≤ s.en ∧ s.en ≤ 4095) && decide (0 ≤ s.ju ∧ s.ju ≤ 255) && decide (s.boxes.length = n)

def checkM (c : List Crit) (s : Sheet) : Int :=
  if errM c ≠ 0 then errM c else if headOk c.length s && boxesOk c s.boxes then 0 else 540

theorem len_iff {n h st : Int} (hs : 1 ≤ st) (hm : h % st = 0) : (n - 1) * st = h ↔ n = h / st + 1 := by
  have e : h / st * st = h := by have := Int.emod_add_mul_ediv h st; rw [hm, Int.zero_add, Int.mul_comm] at this; exact this
  constructor
  · intro g
    have : (n - 1) * st = h / st * st := by rw [g, e]
    have := Int.eq_of_mul_eq_mul_right (by omega) this
    omega
  · intro g
    rw [g, show h / st + 1 - 1 = h / st by omega, e]

theorem better_lo (c : Crit) : (betterM c c.lo).2 = if rightB c then 0 else 150 := by
  unfold betterM
  cases h : rightB c
  · simp
  · have := rightB_facts h
    have ho : onB c c.lo = true := by simp [onB]; omega
    simp [ho]

set_option maxHeartbeats 400000 in
theorem check_long (A : Option Addr) (n cp : Nat) (no rd en ju : Int) (B : Option Addr) (m d : Nat) (w : World) (h : 64 < n) (hn : n ≤ 140737488355328) :
    Calls Try.prog 18 #[.slice A n cp, .agg #[.int .i64 no, .int .i64 rd, .int .i64 en, .int .i64 ju, .slice B m d]] w fun e w' => e = .returned (.int .i64 2) ∧ Below w.heap.size w w' := by
  refine (callsIn_wide (n := 10)).1 ?_
  refine callsIn_of_wp_marks Try.func18 rfl trivial ?_ rfl; simp only [Try.ntmps18, List.size_toArray, List.length_cons, List.length_nil, Nat.reduceAdd, Nat.reduceSub, Array.replicate_succ, Array.replicate_zero, List.push_toArray, List.append_toArray, List.nil_append, List.cons_append]
  gi_wp2
  exact ⟨_, by simp [results, go_sem], rfl, ((Below.refl _ _).alloc (Nat.le_refl _) _).alloc (by simp) _⟩

set_option maxHeartbeats 1000000 in
theorem check_wrong {M : List Nat} (A : Option Addr) (n cp : Nat) (c : List Crit) (no rd en ju : Int) (B : Option Addr) (m d : Nat) (w : World) (hx : Sl Crit w M A n cp c) (h : n ≤ 64) (hall : c.all rightB = false) :
    Calls Try.prog 18 #[.slice A n cp, .agg #[.int .i64 no, .int .i64 rd, .int .i64 en, .int .i64 ju, .slice B m d]] w fun e w' => e = .returned (.int .i64 150) ∧ Below w.heap.size w w' := by
  refine (callsIn_wide (n := 10)).1 ?_
  have H := Lib.hid hx
  have HA := Lib.hid hall
  clear hx hall
  refine callsIn_of_wp_marks Try.func18 rfl trivial ?_ rfl; simp only [Try.ntmps18, List.size_toArray, List.length_cons, List.length_nil, Nat.reduceAdd, Nat.reduceSub, Array.replicate_succ, Array.replicate_zero, List.push_toArray, List.append_toArray, List.nil_append, List.cons_append]
  gi_wp2
  obtain ⟨W1, hW1⟩ : ∃ W1 : World, (w.alloc (.cells #[.int .i64 no, .int .i64 rd, .int .i64 en, .int .i64 ju, .slice B m d] 29)).alloc (.cells #[.int .i64 0] 30) = W1 := ⟨_, rfl⟩
  rw [hW1]
  have HB1 : Below w.heap.size w W1 := by rw [← hW1]; exact ((Below.refl _ _).alloc (Nat.le_refl _) _).alloc (by simp) _
  have HC1 : W1.cell? ⟨w.heap.size + 1, 0, none⟩ = some (.int .i64 0) := by rw [← hW1]; simp [go_sem]
  have HF1 : W1.frozen? ⟨w.heap.size + 1, 0, none⟩ = false := by rw [← hW1]; simp [go_sem]
  have HS1 := Lib.hid (show W1.heap.size = w.heap.size + 2 by rw [← hW1]; simp)
  clear hW1
  gi_loopw [18] (fun i wr => ∃ k : Nat, k ≤ n ∧ i = .int .i64 k ∧ Hid ((c.drop k).all rightB = c.all rightB) ∧ Below (w.heap.size + 2) W1 wr) (fun i _ => n - (intOf i).toNat)
  case atStart => exact ⟨0, by omega, rfl, rfl, Below.refl _ _⟩
  case round =>
    obtain ⟨k, hk, rfl, hr1, hbw⟩ := hrel
    by_cases hlt : k < n
    · have hbw0 : Below w.heap.size w wr := HB1.trans (hbw.mono (by omega))
      obtain ⟨b, o, s, lo, hi, st, how, tr, rv, rfl, -, hd, -, c0, c1, c2, c3, c4, c5, c6⟩ := (H.out.keep (Keeps.of_below hbw0 M)).critd hlt
      have hr2 := hr1.out
      rw [hd, List.all_cons] at hr2
      have hr3 := Lib.hid hr2
      have hsz : w.heap.size + 2 ≤ wr.heap.size := by have := hbw.size; rw [HS1.out] at this; exact this
      have hc := (hbw.cell (p := ⟨w.heap.size + 1, 0, none⟩) (by simp)).trans HC1
      have hf := (hbw.frozen (p := ⟨w.heap.size + 1, 0, none⟩) (by simp)).trans HF1
      have hbl := better_lo ⟨s, lo, hi, st, how, tr, rv⟩
      simp only at hbl
      cases hB : rightB ⟨s, lo, hi, st, how, tr, rv⟩
      · rw [hB] at hbl
        have HBL := Lib.hid hbl
        clear hr2 hd hbl
        gi_wp2_with (refine ⟨trivial, ?_⟩; gi_at_call 24; refine (callsIn_wide.2 (better_any s lo hi st how tr rv lo _)).mono ?_; rintro e w1 ⟨rfl, hb1⟩; rw [HBL.out]; have hb2 : Below (w.heap.size + 2) W1 w1 := ((hbw.alloc hsz _).trans (hb1.mono (by simp; omega))); have hc2 := (hb2.cell (p := ⟨w.heap.size + 1, 0, none⟩) (by simp)).trans HC1; have hf2 := (hb2.frozen (p := ⟨w.heap.size + 1, 0, none⟩) (by simp)).trans HF1)
        refine ⟨_, by simp [results, go_sem, hc2], rfl, (HB1.trans (hb2.mono (by omega))).setCell (p := ⟨w.heap.size + 1, 0, none⟩) (by simp) _⟩
      · rw [hB] at hbl hr3
        have HBL := Lib.hid hbl
        rw [Bool.true_and] at hr3
        clear hr2 hd hbl
        gi_wp2_with (refine ⟨trivial, ?_⟩; gi_at_call 24; refine (callsIn_wide.2 (better_any s lo hi st how tr rv lo _)).mono ?_; rintro e w1 ⟨rfl, hb1⟩; rw [HBL.out]; have hb2 : Below (w.heap.size + 2) W1 w1 := ((hbw.alloc hsz _).trans (hb1.mono (by simp; omega))); have hc2 := (hb2.cell (p := ⟨w.heap.size + 1, 0, none⟩) (by simp)).trans HC1; have hf2 := (hb2.frozen (p := ⟨w.heap.size + 1, 0, none⟩) (by simp)).trans HF1)
        go_roundw
        case rel => exact ⟨k + 1, by omega, by go_num, hr3.out, hb2⟩
        case measure => simp [intOf]; omega
    · have hr2 := hr1.out
      rw [List.drop_of_length_le (by rw [H.out.len]; omega), HA.out] at hr2
      cases hr2

set_option maxHeartbeats 1000000 in
theorem check_main {M M2 : List Nat} (A : Option Addr) (n cp : Nat) (c : List Crit) (no rd en ju : Int) (B : Option Addr) (m d : Nat) (bs : List (List Int)) (w : World) (hx : Sl Crit w M A n cp c) (hy : Sl (List Int) w M2 B m d bs) (h : n ≤ 64) (hall : c.all rightB = true) :
    Calls Try.prog 18 #[.slice A n cp, .agg #[.int .i64 no, .int .i64 rd, .int .i64 en, .int .i64 ju, .slice B m d]] w fun e w' =>
      e = .returned (.int .i64 (if headOk n ⟨no, rd, en, ju, bs⟩ && boxesOk c bs then 0 else 540)) ∧ Below w.heap.size w w' := by
  refine (callsIn_wide (n := 10)).1 ?_
  have H := Lib.hid hx
  have G := Lib.hid hy
  have HA := Lib.hid hall
  clear hx hall hy
  generalize hrr : (if headOk n ⟨no, rd, en, ju, bs⟩ && boxesOk c bs then (0 : Int) else 540) = r
  have HRR := Lib.hid hrr
  clear hrr
  refine callsIn_of_wp_marks Try.func18 rfl trivial ?_ rfl; simp only [Try.ntmps18, List.size_toArray, List.length_cons, List.length_nil, Nat.reduceAdd, Nat.reduceSub, Array.replicate_succ, Array.replicate_zero, List.push_toArray, List.append_toArray, List.nil_append, List.cons_append]
  gi_wp2
  obtain ⟨W1, hW1⟩ : ∃ W1 : World, (w.alloc (.cells #[.int .i64 no, .int .i64 rd, .int .i64 en, .int .i64 ju, .slice B m d] 29)).alloc (.cells #[.int .i64 0] 30) = W1 := ⟨_, rfl⟩
  rw [hW1]
  have HB1 : Below w.heap.size w W1 := by rw [← hW1]; exact ((Below.refl _ _).alloc (Nat.le_refl _) _).alloc (by simp) _
  have HC1 : W1.cell? ⟨w.heap.size + 1, 0, none⟩ = some (.int .i64 0) := by rw [← hW1]; simp [go_sem]
  have HF1 : W1.frozen? ⟨w.heap.size + 1, 0, none⟩ = false := by rw [← hW1]; simp [go_sem]
  have HE0 : W1.cell? ⟨w.heap.size, 0, none⟩ = some (.int .i64 no) := by rw [← hW1]; simp [go_sem]
  have HE1 : W1.cell? ⟨w.heap.size, 1, none⟩ = some (.int .i64 rd) := by rw [← hW1]; simp [go_sem]
  have HE2 : W1.cell? ⟨w.heap.size, 2, none⟩ = some (.int .i64 en) := by rw [← hW1]; simp [go_sem]
  have HE3 : W1.cell? ⟨w.heap.size, 3, none⟩ = some (.int .i64 ju) := by rw [← hW1]; simp [go_sem]
  have HE4 : W1.cell? ⟨w.heap.size, 4, none⟩ = some (.slice B m d) := by rw [← hW1]; simp [go_sem]
  have HS1 := Lib.hid (show W1.heap.size = w.heap.size + 2 by rw [← hW1]; simp)
  clear hW1
  gi_loopw [18] (fun i wr => ∃ k : Nat, k ≤ n ∧ i = .int .i64 k ∧ Below (w.heap.size + 2) W1 wr) (fun i _ => n - (intOf i).toNat)
  case atStart => exact ⟨0, by omega, rfl, Below.refl _ _⟩
  case round =>
    obtain ⟨k, hk, rfl, hbw⟩ := hrel
    have hsz : w.heap.size + 2 ≤ wr.heap.size := by have := hbw.size; rw [HS1.out] at this; exact this
    by_cases hlt : k < n
    · have hbw0 : Below w.heap.size w wr := HB1.trans (hbw.mono (by omega))
      obtain ⟨b, o, s, lo, hi, st, how, tr, rv, rfl, hkx, hd, -, c0, c1, c2, c3, c4, c5, c6⟩ := (H.out.keep (Keeps.of_below hbw0 M)).critd hlt
      have hbl := better_lo ⟨s, lo, hi, st, how, tr, rv⟩
      rw [(List.all_eq_true.1 HA.out) _ (List.mem_of_getElem? hkx)] at hbl
      simp only [if_true] at hbl
      have HBL := Lib.hid hbl
      clear hd hbl hkx
      gi_wp2_with (refine ⟨trivial, ?_⟩; gi_at_call 24; refine (callsIn_wide.2 (better_any s lo hi st how tr rv lo _)).mono ?_; rintro e w1 ⟨rfl, hb1⟩; rw [HBL.out]; have hb2 : Below (w.heap.size + 2) W1 w1 := ((hbw.alloc hsz _).trans (hb1.mono (by simp; omega))))
      go_roundw
      case rel => exact ⟨k + 1, by omega, by go_num, hb2⟩
      case measure => simp [intOf]; omega
    · have hc := (hbw.cell (p := ⟨w.heap.size + 1, 0, none⟩) (by simp)).trans HC1
      have hf := (hbw.frozen (p := ⟨w.heap.size + 1, 0, none⟩) (by simp)).trans HF1
      have he0 := (hbw.cell (p := ⟨w.heap.size, 0, none⟩) (by simp)).trans HE0
      have he1 := (hbw.cell (p := ⟨w.heap.size, 1, none⟩) (by simp)).trans HE1
      have he2 := (hbw.cell (p := ⟨w.heap.size, 2, none⟩) (by simp)).trans HE2
      have he3 := (hbw.cell (p := ⟨w.heap.size, 3, none⟩) (by simp)).trans HE3
      have he4 := (hbw.cell (p := ⟨w.heap.size, 4, none⟩) (by simp)).trans HE4
      have hbw0 : Below w.heap.size w wr := HB1.trans (hbw.mono (by omega))
      gi_wp2_with (first
        | (refine ⟨trivial, ?_⟩; gi_at_call 25; refine (callsIn_wide.2 (between_any _ _ _ _)).mono ?_; rintro e w1 ⟨rfl, rfl⟩)
        | (refine ⟨trivial, ?_⟩; go_at_K)
        | (refine ⟨trivial, ?_⟩; gi_at_call 21; refine (callsIn_wide.2 (zipL_any _ _ _ _ _ _ _)).mono ?_; rintro e w1 ⟨rfl, rfl⟩))
      any_goals (
        refine ⟨.int .i64 540, ?_, ret_int ?_, hbw0.setCell (p := ⟨w.heap.size + 1, 0, none⟩) ?_ _⟩
        · simp [results, go_sem, hc]
        · rw [← HRR.out]
          have hh : headOk n ⟨no, rd, en, ju, bs⟩ = false := by
            have := G.out.len
            grind [headOk]
          rw [hh]; rfl
        · simp)
      have hw2 := HRR
      obtain ⟨W2, hW2⟩ : ∃ W2 : World, (wr.alloc (.cells #[.slice A n cp] 22)).alloc (.cells #[.slice B m d] 26) = W2 := ⟨_, rfl⟩
      rw [hW2]
      have hs2 : W2.heap.size = wr.heap.size + 2 := by rw [← hW2]; simp
      have k2 : Keeps [] wr W2 := by rw [← hW2]; exact ((Keeps.refl [] wr).alloc _).alloc _
      have b2 : Below w.heap.size w W2 := by rw [← hW2]; exact (hbw0.alloc (by omega) _).alloc (by simp; omega) _
      have z1 : W2.cell? ⟨wr.heap.size, 0, none⟩ = some (.slice A n cp) := by rw [← hW2]; simp [go_sem]
      have z2 : W2.cell? ⟨wr.heap.size + 1, 0, none⟩ = some (.slice B m d) := by rw [← hW2]; simp [go_sem]
      have e2 : W2.cell? ⟨w.heap.size + 1, 0, none⟩ = some (.int .i64 0) := k2.cell (by simp) hc
      have f2 : W2.frozen? ⟨w.heap.size + 1, 0, none⟩ = false := (Below.frozen (B := wr.heap.size) (w := wr) (p := ⟨w.heap.size + 1, 0, none⟩) (by rw [← hW2]; exact ((Below.refl _ _).alloc (Nat.le_refl _) _).alloc (by simp) _) (by simp; omega)).trans hf
      have hw2' := Lib.hid hW2
      clear hW2
      have hh : headOk n ⟨no, rd, en, ju, bs⟩ = true := by
        have := G.out.len
        grind [headOk]
      have HH := Lib.hid hh
      have hmn : m = n := by
        have := G.out.len
        simp only [headOk, Bool.and_eq_true, decide_eq_true_eq] at hh
        omega
      clear hh
      have HS2 := Lib.hid hs2
      have X2 : Sl Crit W2 [w.heap.size + 1] A n cp c := ((H.out.less (M' := []) (by simp)).more (b := w.heap.size + 1) (by omega)).keep (Keeps.of_below b2 _)
      have Y2 : Sl (List Int) W2 [w.heap.size + 1] B m d bs := ((G.out.less (M' := []) (by simp)).more (b := w.heap.size + 1) (by omega)).keep (Keeps.of_below b2 _)
      obtain ⟨us, U2, UU⟩ := Y2.rowV rfl
      refine wp_rangeFunc (M := [w.heap.size + 1]) (w0 := W2) rfl rfl trivial (enters_of Try.func28 (by kernel_rfl) rfl)
        (zip1L_yields z1 (by simp; omega) z2 (by simp; omega) X2 U2 ?hus (by omega) (by omega)) (Keeps.refl _ _) ?hM ?hps
        (fun _ rest W => ((∃ k : Nat, k ≤ n ∧ rest = (zipV c us).drop k ∧ boxesOk (c.drop k) (bs.drop k) = boxesOk c bs) ∧ Below w.heap.size w W) ∧ W.cell? ⟨w.heap.size + 1, 0, none⟩ = some (.int .i64 0) ∧ W.frozen? ⟨w.heap.size + 1, 0, none⟩ = false)
        (fun j W => ((j = .ret ∧ boxesOk c bs = false) ∧ Below w.heap.size w W) ∧ W.cell? ⟨w.heap.size + 1, 0, none⟩ = some (.int .i64 540) ∧ W.frozen? ⟨w.heap.size + 1, 0, none⟩ = false)
        (fun _ _ => ((stab_pure _ _).and (stab_below (Nat.le_refl _) (by omega))).and (stab_free _ _ _))
        (fun _ => ((stab_pure _ _).and (stab_below (Nat.le_refl _) (by omega))).and (stab_free _ _ _))
        (fun _ _ => ⟨⟨⟨0, by omega, rfl, rfl⟩, b2⟩, e2, f2⟩) ?round ?done ?stop
      case hM =>
        intro q hq
        have : q = w.heap.size + 1 := by simpa using hq
        omega
      case hus =>
        intro u hu
        obtain ⟨j, hj⟩ := List.getElem?_of_mem hu
        have hjl : j < bs.length := by
          have h1 := U2.len
          have h2 := G.out.len
          rcases Nat.lt_or_ge j us.length with h' | h'
          · omega
          · rw [List.getElem?_eq_none h'] at hj; cases hj
        obtain ⟨v, hv, A', n', c', he, _⟩ := UU j _ (List.getElem?_eq_getElem hjl)
        rw [hj] at hv
        cases hv
        injection he with he
        exact ⟨A', n', c', he⟩
      case hps =>
        intro x hx
        obtain ⟨j, hj⟩ := List.getElem?_of_mem hx
        simp only [zipV, List.getElem?_zipWith] at hj
        split at hj
        · cases hj; rfl
        · cases hj
      case round =>
        rintro l s x rest W ⟨pre, hpre⟩ hl hls hsW hrec hkW ⟨⟨⟨k', hk', hrest, hbx⟩, hbW⟩, hec, hef⟩
        have hkn : k' < n := by
          rcases Nat.lt_or_ge k' n with h' | h'
          · exact h'
          · rw [List.drop_of_length_le (by simp only [zipV, List.length_zipWith, H.out.len]; omega)] at hrest; cases hrest
        have hlx : k' < c.length := by rw [H.out.len]; exact hkn
        have hlu : k' < us.length := by rw [U2.len]; omega
        have hlb : k' < bs.length := by rw [G.out.len]; omega
        rw [zipV_drop c us hlx hlu] at hrest
        injection hrest with hx hr'
        obtain ⟨v, hv, A', n', c', he, hsl⟩ := UU k' _ (List.getElem?_eq_getElem hlb)
        rw [List.getElem?_eq_getElem hlu] at hv
        injection hv with hv
        injection he with he
        rw [hv, he] at hx
        subst hx
        rw [List.drop_eq_getElem_cons hlx, List.drop_eq_getElem_cons hlb, boxesOk] at hbx
        have hRx : rightB c[k'] = true := (List.all_eq_true.1 HA.out) _ (List.getElem_mem hlx)
        have hsl := hsl.keep hkW
        generalize c[k'] = cx at *
        generalize bs[k'] = bx at *
        obtain ⟨s0, lo, hi, st, how, tr, rv⟩ := cx
        have HBX := Lib.hid hbx
        have HR' := Lib.hid hr'
        have HSL := Lib.hid hsl
        have HRX := Lib.hid hRx
        have HHE := Lib.hid he
        clear hbx hr' hsl hRx he hv hpre
        have hlW : l < W.heap.size := by omega
        gi_wp2
        refine ⟨((Keeps.refl _ W).alloc _).to hsW, fun W'' =>
          ((W''.cell? ⟨W.heap.size, 0, none⟩ = some (.string s0) ∧ W''.cell? ⟨W.heap.size, 1, none⟩ = some (.int .i64 lo) ∧ W''.cell? ⟨W.heap.size, 2, none⟩ = some (.int .i64 hi) ∧ W''.cell? ⟨W.heap.size, 3, none⟩ = some (.int .i64 st)) ∧
           W''.cell? ⟨w.heap.size + 1, 0, none⟩ = some (.int .i64 0) ∧ W''.frozen? ⟨w.heap.size + 1, 0, none⟩ = false) ∧ Below w.heap.size w W'' ∧ (∀ (j : Nat) (y : Int), bx[j]? = some y → ∃ b o, A' = some ⟨b, o, none⟩ ∧ W''.cell? ⟨b, o + j, none⟩ = some (.int .i64 y)), ?_, ?_, ?_⟩
        · exact (((stab_cell _ _ _).and ((stab_cell _ _ _).and ((stab_cell _ _ _).and (stab_cell _ _ _)))).and (stab_free _ _ _)).and ((stab_below (Nat.le_refl _) (by omega)).and
            (fun A A' row hs hg hr => fun j y hy => by obtain ⟨b, o, h1, h2⟩ := hs j y hy; exact ⟨b, o, h1, cell_kept h2 hg (fun r e => (hr r e).2)⟩))
        · refine ⟨⟨⟨by simp [go_sem], by simp [go_sem], by simp [go_sem], by simp [go_sem]⟩, cell_al _ hec, free_al _ hec hef⟩, hbW.alloc hbW.size _, ?_⟩
          intro j y hy
          obtain ⟨b, o, y', h1, h2, -, -, h3⟩ := HSL.out.intd (k := j) (by rw [← HSL.out.len]; exact (List.getElem?_eq_some_iff.1 hy).1)
          rw [hy] at h3
          cases h3
          exact ⟨b, o, h1, cell_al _ h2⟩
        · rintro W'' xl hxl hsz'' ⟨⟨⟨x0, x1, x2, x3⟩, hec2, hef2⟩, hbW2, hel⟩
          have HEL := Lib.hid hel
          have HXL := Lib.hid hxl
          have HSZ := Lib.hid hsz''
          have hn1 : n' ≤ 140737488355328 := HSL.out.small
          obtain ⟨⟨g1, g2, g3⟩, g4, -, -, -, g5⟩ := rightB_facts HRX.out
          simp only at g1 g2 g3 g4 g5
          have G5 := Lib.hid g5
          have HLN := Lib.hid HSL.out.len
          clear hel hxl hsz'' g5 hec hef
          have hst : st ≤ 1000 := by
            have := Int.le_of_dvd (by omega) (Int.dvd_of_emod_eq_zero G5.out)
            omega
          have hp1 : -1000 ≤ ((n' : Int) - 1) * st := by
            rcases Nat.eq_zero_or_pos n' with h0 | h0
            · subst h0; simp; omega
            · have : 0 ≤ ((n' : Int) - 1) * st := Int.mul_nonneg (by omega) (by omega)
              omega
          have hp2 : ((n' : Int) - 1) * st ≤ 140737488355328000 := by
            have h1 : ((n' : Int) - 1) * st ≤ 140737488355328 * st := Int.mul_le_mul_of_nonneg_right (by omega) (by omega)
            omega
          have hiff := len_iff (n := (n' : Int)) g4 G5.out
          by_cases hq : ((n' : Int) - 1) * st = hi - lo
          · have hbo : decide ((bx.length : Int) = (hi - lo) / st + 1) = true := by rw [HLN.out]; exact decide_eq_true (hiff.1 hq)
            have HBO := Lib.hid hbo
            have hq1 : (((n' : Int) - 1) * st != hi - lo) = false := by simpa using hq
            clear hq hiff hbo
            gi_wp2
            gi_loop [82] (fun i => ∃ q : Nat, q ≤ n' ∧ i = .int .i64 q ∧ Hid ((bx.drop q).all (fun b => decide (0 ≤ b ∧ b ≤ 2)) = bx.all (fun b => decide (0 ≤ b ∧ b ≤ 2)))) (fun i => n' - (intOf i).toNat)
            case atStart => exact ⟨0, by omega, rfl, rfl⟩
            case round =>
              obtain ⟨q, hqn, rfl, hal⟩ := hrel
              by_cases hlt2 : q < n'
              · have hqx : q < bx.length := by rw [HLN.out]; exact hlt2
                obtain ⟨b', o', hA', hcq⟩ := HEL.out q _ (List.getElem?_eq_getElem hqx)
                have hal2 := hal.out
                rw [List.drop_eq_getElem_cons hqx, List.all_cons] at hal2
                have HAL := Lib.hid hal2
                clear hal2
                generalize bx[q] = y at *
                subst hA'
                by_cases hy : 0 ≤ y ∧ y ≤ 2
                · obtain ⟨hy1, hy2⟩ := hy
                  gi_wp2_with (refine ⟨trivial, ?_⟩; gi_at_call 25; refine ((callsIn_wide.2 (between_any _ _ _ _)).inRound l).mono ?_; rintro e w1 ⟨rfl, rfl⟩)
                  go_round
                  case rel => exact ⟨q + 1, by omega, by go_num, by have := HAL.out; rw [decide_eq_true (⟨hy1, hy2⟩ : 0 ≤ y ∧ y ≤ 2), Bool.true_and] at this; exact this⟩
                  case measure => simp [intOf]; omega
                · have hyb : (decide (0 ≤ y) && decide (y ≤ 2)) = false := by simpa using hy
                  have HYB := Lib.hid (show decide (0 ≤ y ∧ y ≤ 2) = false by simpa using hy)
                  gi_wp2_with (refine ⟨trivial, ?_⟩; gi_at_call 25; refine ((callsIn_wide.2 (between_any _ _ _ _)).inRound l).mono ?_; rintro e w1 ⟨rfl, rfl⟩; rw [hyb])
                  refine ⟨((Keeps.refl [w.heap.size + 1] W'').setCell (p := ⟨w.heap.size + 1, 0, none⟩) (.inl (by simp)) _).to (by rw [HSZ.out]; omega), ⟨⟨rfl, ?_⟩, hbW2.setCell (p := ⟨w.heap.size + 1, 0, none⟩) (by simp) _⟩, cell_same hec2, by simp [hef2]⟩
                  rw [← HBX.out]
                  have h1 := HAL.out
                  rw [HYB.out, Bool.false_and] at h1
                  have hb : boxOk ⟨s0, lo, hi, st, how, tr, rv⟩ bx = false := by unfold boxOk; rw [← h1, Bool.and_false]
                  rw [hb, Bool.false_and]
              · have h1 := hal.out
                rw [List.drop_of_length_le (by rw [HLN.out]; omega)] at h1
                have HAL := Lib.hid h1
                clear h1
                gi_wp2
                refine ⟨KeepsTo.refl _ _ _, ⟨⟨k' + 1, by omega, HR'.out, ?_⟩, hbW2⟩, hec2, hef2⟩
                rw [← HBX.out, boxOk, HBO.out, ← HAL.out]; simp
          · have hbo : decide ((bx.length : Int) = (hi - lo) / st + 1) = false := by rw [HLN.out]; exact decide_eq_false (fun e => hq (hiff.2 e))
            have HBO := Lib.hid hbo
            have hq1 : (((n' : Int) - 1) * st != hi - lo) = true := by simpa using hq
            clear hq hiff hbo
            gi_wp2
            refine ⟨((Keeps.refl [w.heap.size + 1] W'').setCell (p := ⟨w.heap.size + 1, 0, none⟩) (.inl (by simp)) _).to (by rw [HSZ.out]; omega), ⟨⟨rfl, ?_⟩, hbW2.setCell (p := ⟨w.heap.size + 1, 0, none⟩) (by simp) _⟩, cell_same hec2, by simp [hef2]⟩
            rw [← HBX.out]
            simp [boxOk, HBO.out]
      case done =>
        rintro D s W hD hDs ⟨⟨⟨k', hk', hrest, hbx⟩, hbW⟩, hec, hef⟩ hdef
        have hl1 := H.out.len
        have hl2 := G.out.len
        have hl3 := U2.len
        have hkn : n ≤ k' := by
          have := congrArg List.length hrest
          simp only [zipV, List.length_drop, List.length_zipWith, List.length_nil] at this
          omega
        rw [List.drop_of_length_le (by omega), List.drop_of_length_le (by omega), boxesOk] at hbx
        have HBX := Lib.hid hbx
        clear hrest hbx hl1 hl2 hl3
        gi_wp2
        refine ⟨by simp, .inl ⟨_, _, rfl, run_takeDeferred (set_deferred hdef), ?_⟩⟩
        refine ⟨.int .i64 0, by simp [results, go_sem, mark_cell (cell_same hec) (set_deferred hdef)], ret_int ?_, mark_below (hbW.setCell (p := ⟨w.heap.size + 1, 0, none⟩) (by simp) _) (by omega) (Nat.le_refl _)⟩
        rw [← HRR.out, ← HBX.out, HH.out]; simp
      case stop =>
        rintro D j W hD ⟨⟨⟨rfl, hbx⟩, hbW⟩, hec, hef⟩ hdef
        have HBX := Lib.hid hbx
        clear hbx
        gi_wp2
        refine ⟨by simp, .inl ⟨_, _, rfl, run_takeDeferred (by assumption), ?_⟩⟩
        refine ⟨.int .i64 540, by simp [results, go_sem, mark_cell hec hdef], ret_int ?_, mark_below hbW (by omega) (Nat.le_refl _)⟩
        rw [← HRR.out, HBX.out]; simp
end Go.Proofs.Ythbbefkmnahnlaa
