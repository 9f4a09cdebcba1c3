/- Lemmas and walks (Nat11 Nat12 Nat13 Nat14 Reg2). No statement is proved here. -/
import Derived.RecoverIn
import Derived.Test.YtboapndkopabiaaGreatM10
set_option linter.unusedVariables false
set_option linter.unusedSimpArgs false
namespace Go.Proofs.YtboapndkopabiaaGreat
section
open Go.RowKit Go.Shelf
attribute [local go_sem] Oper.semAt_some
def oddI (d : Int) : Bool := decide (d < 0) || decide (1073741823 < d)
theorem any_odd (l : List Int) : l.any oddI = !(l.all fun d => decide (0 ≤ d ∧ d < (BB : Int))) := by
 induction l with
 | nil => rfl
 | cons d r ih =>
   rw [List.any_cons, List.all_cons, ih, Bool.not_and]
   congr 1
   unfold oddI; rw [← BBi]
   by_cases h1 : d < 0
   · have : ¬ (0 ≤ d ∧ d < 1073741824) := by omega
     rw [decide_eq_false this, decide_eq_true h1]; rfl
   · by_cases h2 : 1073741823 < d
     · have : ¬ (0 ≤ d ∧ d < 1073741824) := by omega
       rw [decide_eq_false this, decide_eq_true h2, Bool.or_true]; rfl
     · have : 0 ≤ d ∧ d < 1073741824 := by omega
       rw [decide_eq_true this, decide_eq_false h2, decide_eq_false h1]; rfl
theorem check1_any (d : Int) (w : World) : Calls Tryz.prog 106 #[.int .i64 d] w fun e w' => e = .returned (.bool (oddI d)) ∧ w = w' := by
 refine wid ?_
 by_cases h1 : d < 0
 · have h2 : oddI d = true := by simp [oddI, h1]
   rw [h2]; clear h2; refine ent Tryz.func106 rfl Tryz.ntmps106 ?_; gi_wp2; go_ret; exact ⟨rfl, rfl⟩
 · by_cases h3 : 1073741823 < d
   · have h2 : oddI d = true := by simp [oddI, h3]
     rw [h2]; clear h2; refine ent Tryz.func106 rfl Tryz.ntmps106 ?_; gi_wp2; go_ret; exact ⟨rfl, rfl⟩
   · have h2 : oddI d = false := by simp [oddI, h1, h3]
     rw [h2]; clear h2; refine ent Tryz.func106 rfl Tryz.ntmps106 ?_; gi_wp2; go_ret; exact ⟨rfl, rfl⟩
set_option maxHeartbeats 400000 in
theorem indexFunc_any {M : List Nat} (A : Option Addr) (n c : Nat) (l : List Int) (w : World) (hx : Sl Int w M A n c l) :
 Calls Tryz.prog 123 #[.slice A n c, .func (.func 106) #[] #[]] w fun e w' => ∃ i : Int, e = .returned (.int .i64 i) ∧ decide (0 ≤ i) = l.any oddI ∧ w = w' := by
 refine wid ?_
 have hs := hx.small
 have hl := hx.len
 have H := Hd hx
 have HL := Hd hl
 have eg := enters_of (P := Tryz.prog) Tryz.func106 (by kernel_rfl) rfl
 clear hx hl
 refine ent Tryz.func123 rfl Tryz.ntmps123 ?_
 gi_wp2
 gi_loop [8] (fun i => ∃ k : Nat, k ≤ n ∧ i = .int .i64 k ∧ Hid ((l.drop k).any oddI = l.any oddI)) (fun i => n - (intOf i).toNat)
 case atStart => exact ⟨0, Nat.zero_le _, rfl, rfl⟩
 case round =>
  obtain ⟨k, hk, rfl, hr⟩ := hrel
  by_cases hlt : k < n
  · obtain ⟨b, o, x, rfl, hc, -, hd, -⟩ := H.out.intd hlt
    have hr2 := hr.out; rw [hd, List.any_cons] at hr2; generalize hox : oddI x = ox at *; have HO := Hd hox; have HR := Hd hr2; clear hox hr2 hd; cases ox
    · gi_wp2_with (refine Cl 106 (check1_any x _) ?_; rintro e w1 ⟨rfl, rfl⟩; rw [HO.out])
      go_round
      case rel => exact ⟨k + 1, by omega, by go_num, by have := HR.out; rwa [Bool.false_or] at this⟩
      case measure => simp [intOf]; omega
    · gi_wp2_with (refine Cl 106 (check1_any x _) ?_; rintro e w1 ⟨rfl, rfl⟩; rw [HO.out])
      go_ret; exact ⟨k, rfl, by rw [← HR.out, Bool.true_or]; simp, rfl⟩
  · have hr2 := hr.out
    rw [List.drop_of_length_le (by rw [HL.out]; omega)] at hr2; have HR := Hd hr2; clear hr2; gi_wp2; go_ret; exact ⟨-1, rfl, by rw [← HR.out]; rfl, rfl⟩
theorem containsFunc_any {M : List Nat} (A : Option Addr) (n c : Nat) (l : List Int) (w : World) (hx : Sl Int w M A n c l) :
 Calls Tryz.prog 107 #[.slice A n c, .func (.func 106) #[] #[]] w fun e w' => e = .returned (.bool (l.any oddI)) ∧ w = w' := by
 refine wid ?_
 have H := Hd hx
 clear hx
 refine ent Tryz.func107 rfl Tryz.ntmps107 ?_
 gi_wp2_with (refine Cl 123 (indexFunc_any A n c l _ H.out) ?_; rintro e w1 ⟨i, rfl, hi, rfl⟩; have HI := Hd hi; clear hi)
 go_ret
 exact ⟨by rw [← HI.out]; rfl, rfl⟩
theorem natOk_of {neg : Bool} {l : List Int} {n : Nat} (hl : l.length = n) : natOk (neg, l) = (decide (n ≤ 2048) && !(decide (n = 0) && neg) && (l.getLast?.all fun d => d != 0) && !l.any oddI) := by
 unfold natOk bigOk
 rw [any_odd, Bool.not_not, hl]
 congr 4
 cases l with
 | nil => simp at hl; subst hl; rfl
 | cons a r => simp at hl; simp; intro e; omega
def okE (b : Bool) : Int := if b then 0 else 90
set_option maxHeartbeats 1000000 in
theorem ncheck_any {M : List Nat} (A : Option Addr) (n c : Nat) (neg : Bool) (l : List Int) (w : World) (hx : Sl Int w M A n c l) :
 Calls Tryz.prog 55 #[.agg #[.bool neg, .slice A n c]] w fun e w' => e = .returned (.int .i64 (okE (natOk (neg, l)))) ∧ Below w.heap.size w w' := by
 refine wid ?_
 have hs := hx.small
 have hl := hx.len
 have H := Hd hx
 have hz := natOk_of (neg := neg) hl
 obtain ⟨W1, hW1⟩ : ∃ W1 : World, w.alloc (.cells #[.bool neg, .slice A n c] 29) = W1 := ⟨_, rfl⟩
 have b1 : Below w.heap.size w W1 := by rw [← hW1]; exact bel
 have c0 : W1.cell? ⟨w.heap.size, 0, none⟩ = some (.bool neg) := by rw [← hW1]; simp [go_sem]
 have c1 : W1.cell? ⟨w.heap.size, 1, none⟩ = some (.slice A n c) := by rw [← hW1]; simp [go_sem]
 have B1 := Hd b1
 have H1 := Hd (hx.keep (Keeps.of_below b1 M))
 generalize natOk (neg, l) = z at *
 clear b1 hx
 by_cases h1 : 2048 < n
 · have hz1 : z = false := by rw [hz, decide_eq_false (show ¬ n ≤ 2048 by omega)]; rfl
   subst hz1; clear hz hl; refine ent Tryz.func55 rfl Tryz.ntmps55 ?_
   gi_wp2_with (refine ⟨trivial, ?_⟩)
   go_ret; exact ⟨rfl, B1.out⟩
 · rw [decide_eq_true (show n ≤ 2048 by omega), Bool.true_and] at hz
   rcases Nat.eq_zero_or_pos n with h0 | h0
   · subst h0
     have hl0 : l = [] := List.length_eq_zero_iff.1 hl; subst hl0
     have hz1 : z = !neg := by rw [hz]; simp
     subst hz1; clear hz hl; cases neg
     · refine ent Tryz.func55 rfl Tryz.ntmps55 ?_
       gi_wp2_with (first | (refine Cl 107 (containsFunc_any A _ c [] _ H1.out) ?_; rintro e w2 ⟨rfl, rfl⟩) | (refine ⟨trivial, ?_⟩))
       go_ret; exact ⟨rfl, B1.out⟩
     · refine ent Tryz.func55 rfl Tryz.ntmps55 ?_
       gi_wp2_with (refine ⟨trivial, ?_⟩)
       go_ret; exact ⟨rfl, B1.out⟩
   · obtain ⟨b, o, x, rfl, hc, -, -, hlx⟩ := H1.out.intd (show n - 1 < n by omega)
     have hlast : l.getLast? = some x := by rw [List.getLast?_eq_getElem?, hl]; exact hlx
     rw [hlast, decide_eq_false (show ¬ n = 0 by omega)] at hz; simp only [Bool.false_and, Bool.not_false, Bool.true_and, Option.all_some] at hz
     have kw : IntKind.i64.wrap ((n : Int) - 1) = ((n - 1 : Nat) : Int) := by rw [IntKind.wrap_i64]; omega
     have kj : n - 1 < n := by omega
     by_cases hx0 : x = 0
     · subst hx0
       have hz1 : z = false := by rw [hz]; rfl
       subst hz1; clear hz hl hlast hlx; refine ent Tryz.func55 rfl Tryz.ntmps55 ?_
       gi_wp2_with (refine ⟨trivial, ?_⟩)
       go_ret; exact ⟨rfl, B1.out⟩
     · have hx1 : (x == 0) = false := by simpa using hx0
       rw [show (x != 0) = true by simpa using hx0, Bool.true_and] at hz
       obtain ⟨q, hq⟩ : ∃ q, l.any oddI = q := ⟨_, rfl⟩
       have HQ := Hd hq; rw [hq] at hz; subst hz; clear hl hlast hlx hq; cases q
       · refine ent Tryz.func55 rfl Tryz.ntmps55 ?_
         gi_wp2_with (first | (refine Cl 107 (containsFunc_any _ _ c l _ H1.out) ?_; rintro e w2 ⟨rfl, rfl⟩; rw [HQ.out]) | (refine ⟨trivial, ?_⟩))
         go_ret; exact ⟨rfl, B1.out⟩
       · refine ent Tryz.func55 rfl Tryz.ntmps55 ?_
         gi_wp2_with (first | (refine Cl 107 (containsFunc_any _ _ c l _ H1.out) ?_; rintro e w2 ⟨rfl, rfl⟩; rw [HQ.out]) | (refine ⟨trivial, ?_⟩))
         go_ret; exact ⟨rfl, B1.out⟩
end
section
open Go.RowKit Go.Shelf
attribute [local go_sem] Oper.semAt_some
set_option maxHeartbeats 2000000 in
theorem rcheck_any {M : List Nat} (A : Option Addr) (n c : Nat) (neg : Bool) (l : List Int) (w : World) (hx : Sl Int w M A n c l) :
 Calls Tryz.prog 47 #[.agg #[.bool neg, .slice A n c]] w fun e w' => e = .returned (.int .i64 (okE (natOk (neg, l)))) ∧ Below w.heap.size w w' := by
 refine wid ?_
 have hs := hx.small
 have hl := hx.len
 have H := Hd hx
 have hz := natOk_of (neg := neg) hl
 obtain ⟨W1, hW1⟩ : ∃ W1 : World, w.alloc (.cells #[.bool neg, .slice A n c] 29) = W1 := ⟨_, rfl⟩
 have b1 : Below w.heap.size w W1 := by rw [← hW1]; exact bel
 have c0 : W1.cell? ⟨w.heap.size, 0, none⟩ = some (.bool neg) := by rw [← hW1]; simp [go_sem]
 have c1 : W1.cell? ⟨w.heap.size, 1, none⟩ = some (.slice A n c) := by rw [← hW1]; simp [go_sem]
 have B1 := Hd b1
 have H1 := Hd (hx.keep (Keeps.of_below b1 M))
 have HL := Hd hl
 generalize natOk (neg, l) = z at *
 clear b1 hx
 by_cases h1 : 2048 < n
 · have hz1 : z = false := by rw [hz, decide_eq_false (show ¬ n ≤ 2048 by omega)]; rfl
   subst hz1; clear hz hl; refine ent Tryz.func47 rfl Tryz.ntmps47 ?_; gi_wp2; go_ret; exact ⟨rfl, B1.out⟩
 · rw [decide_eq_true (show n ≤ 2048 by omega), Bool.true_and] at hz
   rcases Nat.eq_zero_or_pos n with h0 | h0
   · subst h0
     have hl0 : l = [] := List.length_eq_zero_iff.1 hl; subst hl0
     have hz1 : z = !neg := by rw [hz]; simp
     subst hz1; clear hz hl; cases neg
     · refine ent Tryz.func47 rfl Tryz.ntmps47 ?_
       gi_wp2
       gi_loop [4] (fun i => i = .int .i64 0) (fun _ => 0)
       case atStart => rfl
       case round =>
        subst hrel; gi_wp2; go_ret; exact ⟨rfl, B1.out⟩
     · refine ent Tryz.func47 rfl Tryz.ntmps47 ?_
       gi_wp2; go_ret; exact ⟨rfl, B1.out⟩
   · obtain ⟨b, o, x, rfl, hc, -, -, hlx⟩ := H1.out.intd (show n - 1 < n by omega)
     have hlast : l.getLast? = some x := by rw [List.getLast?_eq_getElem?, hl]; exact hlx
     rw [hlast, decide_eq_false (show ¬ n = 0 by omega)] at hz; simp only [Bool.false_and, Bool.not_false, Bool.true_and, Option.all_some] at hz
     have kw : IntKind.i64.wrap ((n : Int) - 1) = ((n - 1 : Nat) : Int) := by rw [IntKind.wrap_i64]; omega
     have kj : n - 1 < n := by omega
     by_cases hx0 : x = 0
     · subst hx0
       have hz1 : z = false := by rw [hz]; rfl
       subst hz1; clear hz hl hlast hlx; refine ent Tryz.func47 rfl Tryz.ntmps47 ?_; gi_wp2; go_ret; exact ⟨rfl, B1.out⟩
     · have hx1 : (x == 0) = false := by simpa using hx0
       rw [show (x != 0) = true by simpa using hx0, Bool.true_and] at hz; have HZ := Hd hz; clear hl hlast hlx hz; refine ent Tryz.func47 rfl Tryz.ntmps47 ?_; gi_wp2
       gi_loop [4] (fun i => ∃ k : Nat, k ≤ n ∧ i = .int .i64 k ∧ Hid ((l.drop k).any oddI = l.any oddI)) (fun i => n - (intOf i).toNat)
       case atStart => exact ⟨0, Nat.zero_le _, rfl, rfl⟩
       case round =>
        obtain ⟨k, hk, rfl, hr⟩ := hrel
        by_cases hlt : k < n
        · obtain ⟨b', o', y, e', hcy, -, hd, -⟩ := H1.out.intd hlt
          cases e'; have hr2 := hr.out; rw [hd, List.any_cons] at hr2; have HR := Hd hr2; clear hr2 hd
          by_cases hy1 : y < 0
          · have HO := Hd (show oddI y = true by simp [oddI, hy1])
            gi_wp2; go_ret; exact ⟨by rw [HZ.out, ← HR.out, HO.out]; rfl, B1.out⟩
          · by_cases hy2 : 1073741824 ≤ y
            · have HO := Hd (show oddI y = true by simp [oddI]; omega)
              gi_wp2; go_ret; exact ⟨by rw [HZ.out, ← HR.out, HO.out]; rfl, B1.out⟩
            · have HO := Hd (show oddI y = false by simp [oddI]; omega)
              gi_wp2
              go_round
              case rel => exact ⟨k + 1, by omega, by go_num, by have := HR.out; rwa [HO.out, Bool.false_or] at this⟩
              case measure => simp [intOf]; omega
        · have hr2 := hr.out
          rw [List.drop_of_length_le (by rw [HL.out]; omega)] at hr2; have HR := Hd hr2; clear hr2; gi_wp2; go_ret; exact ⟨by rw [HZ.out, ← HR.out]; rfl, B1.out⟩
theorem Sl.bigd {w : World} {M : List Nat} {A : Option Addr} {n c : Nat} {xs : List BigR} (h : Sl BigR w M A n c xs) {k : Nat} {neg : Bool} {l : List Int} (hk : xs[k]? = some (neg, l)) :
 ∃ b o A' n' c', A = some ⟨b, o, none⟩ ∧ w.cell? ⟨b, o + k * 2, none⟩ = some (.bool neg) ∧ w.cell? ⟨b, o + k * 2 + 1, none⟩ = some (.slice A' n' c') ∧ Sl Int w M A' n' c' l := by
 obtain ⟨b, o, es, rfl, h1, h2⟩ := h.get hk
 obtain ⟨ds, fs, rfl, h3, A', n', c', rfl, h4⟩ := h1
 have h3 : ds = [.bool neg] := h3
 subst h3
 refine ⟨b, o, A', n', c', rfl, ?_, ?_, h4⟩
 · have := h2.2 0 (.bool neg) rfl; exact this
 · have := h2.2 1 (.slice A' n' c') rfl; exact this
set_option maxHeartbeats 400000 in
theorem checks_any {M : List Nat} (A : Option Addr) (n c : Nat) (zs : List Int) (w : World) (hx : Sl BigR w M A n c (zs.map encB)) (hz : ∀ z, z ∈ zs → fits z = true) :
 Calls Tryz.prog 97 #[.slice A n c] w fun e w' => e = .returned (.tuple #[]) ∧ Below w.heap.size w w' := by
 refine wid ?_
 have hs := hx.small
 have hl : zs.length = n := by have := hx.len; simpa using this
 have H := Hd hx
 have HZ := Hd hz
 have HL := Hd hl
 clear hx hz hl
 refine ent Tryz.func97 rfl Tryz.ntmps97 ?_
 gi_wp2
 gi_loopw [7] (fun i wr => ∃ k : Nat, k ≤ n ∧ i = .int .i64 k ∧ Below w.heap.size w wr) (fun i _ => n - (intOf i).toNat)
 case atStart => exact ⟨0, Nat.zero_le _, rfl, Below.refl _ _⟩
 case round =>
  obtain ⟨k, hk, rfl, hb⟩ := hrel
  by_cases hlt : k < n
  · obtain ⟨z, hz⟩ : ∃ z, zs[k]? = some z := ⟨_, List.getElem?_eq_getElem (by rw [HL.out]; exact hlt)⟩
    obtain ⟨b, o, A', n', c', rfl, hc0, hc1, hsl⟩ := (H.out.keep (Keeps.of_below hb M)).bigd (k := k) (neg := zneg z) (l := ints (zmag z)) (by rw [List.getElem?_map, hz]; rfl); have hok := natOk_enc z (HZ.out z (List.mem_of_getElem? hz)); have S := Hd hsl; have HK := Hd (show okE (natOk (zneg z, ints (zmag z))) = 0 by rw [show (zneg z, ints (zmag z)) = encB z from rfl, hok]; rfl); clear hsl hok hz
    gi_wp2_with (refine Cl 55 (ncheck_any A' n' c' (zneg z) (ints (zmag z)) _ (S.out.go (by exact bel))) ?_; rintro e w2 ⟨rfl, hb2⟩; rw [HK.out]; have HB2 := Hd hb2; clear hb2)
    have hb3 : Below w.heap.size w w2 := (hb.alloc hb.size _).trans (HB2.out.mono (by simp; have := hb.size; omega)); exact ⟨⟨k + 1, by omega, by go_num, hb3⟩, by simp [intOf]; omega⟩
  · gi_wp2
    go_end0
    exact ⟨rfl, hb⟩
abbrev errV (x : Int) : Value := .iface 34 (.int .i64 x)
theorem assert_err (x : Int) (w : World) : (Instr.typeAssert (errV x) 20 34 true).run Tryz.prog w = .ok (.tuple #[.int .i64 x, .bool true]) w := by kernel_rfl
set_option maxRecDepth 20000 in
theorem caught_pan {n : Nat} (p : Addr) (x y : Int) (older : List PanicEntry) (w : World) (hc : w.cell? p = some (.int .i64 y)) (hf : w.frozen? p = false) :
 CallsDIn Fence.wide n Tryz.prog 96 #[.pointer (some p)] (.panicking ({ v := errV x, recovered := false } :: older)) w fun e u' w' =>
  e = .returned (.tuple #[]) ∧ u' = .panicking ({ v := errV x, recovered := true } :: older) ∧ w' = w.setCell p (.int .i64 x) := by
 refine callsDIn_of_wpSIn Tryz.func96 rfl trivial fun c₀ cs hu => ?_
 apply wpSIn_seq
 apply wpSIn_region
 simp [wpOpsSIn, go_sem, recoverD, hu, Tryz.ntmps96, Exit.thenS]
 refine wpSIn_of_wpIn rfl ?_
 refine Go.wpIn_mono (Q := fun e a' w' => e = .normal ∧ a'.defers = [] ∧ w' = w.setCell p (.int .i64 x)) ?_ ?_
 rotate_left
 · rintro e a' w' ⟨rfl, hd, rfl⟩
   simp [bodyPostS, results, Tryz.results96, hd]
 clear hu
 have hta := assert_err x
 simp only [Array.replicate_succ, Array.replicate_zero, List.push_toArray, List.append_toArray, List.nil_append, List.cons_append, List.setIfInBounds_toArray, List.set_cons_succ, List.set_cons_zero]
 gi_wp2
theorem caught_idle {n : Nat} (p : Addr) (w : World) :
 CallsDIn Fence.wide n Tryz.prog 96 #[.pointer (some p)] .returning w fun e u' w' => e = .returned (.tuple #[]) ∧ u' = .returning ∧ w' = w := by
 refine callsDIn_of_wpSIn Tryz.func96 rfl trivial fun c₀ cs hu => ?_
 apply wpSIn_seq
 apply wpSIn_region
 simp [wpOpsSIn, go_sem, recoverD, hu, Tryz.ntmps96, Exit.thenS]
 refine wpSIn_of_wpIn rfl ?_
 refine Go.wpIn_mono (Q := fun e a' w' => e = .normal ∧ a'.defers = [] ∧ w' = w) ?_ ?_
 rotate_left
 · rintro e a' w' ⟨rfl, hd, rfl⟩
   cases c₀
   simp_all [bodyPostS, results, Tryz.results96, hd]
 clear hu
 simp only [Array.replicate_succ, Array.replicate_zero, List.push_toArray, List.append_toArray, List.nil_append, List.cons_append, List.setIfInBounds_toArray, List.set_cons_succ, List.set_cons_zero]
 gi_wp2
theorem big_fits {neg : Bool} {v : Nat} : fits (bigM neg v) = decide ((dig v).length ≤ 2048) := by unfold fits; rw [zmag_big]
theorem ZV.less {w : World} {M M' : List Nat} {v : Value} {z : Int} (h : ZV w M v z) (hs : ∀ k, k ∈ M' → k ∈ M) : ZV w M' v z := by
 obtain ⟨A, n, c, rfl, h⟩ := h
 exact ⟨A, n, c, rfl, h.less hs⟩
theorem ZV.of_trim {wr w2 : World} {M : List Nat} {O : Option Addr} {k cO q v : Nat} {neg : Bool} {l : List Nat} (hs : Sl Int wr M O k cO (ints l)) (hq : q ≤ k) (ht : l.take q = dig (val l)) (hv : val l = v) (hb2 : Keeps M wr w2) :
 ZV w2 M (.agg #[.bool (neg && decide (0 < q)), .slice O q cO]) (bigM neg v) := by
 have h := (hs.keep hb2).cutTo hq
 rw [ints_take, ht, hv] at h
 have hl := h.len
 rw [ints_len] at hl
 refine ⟨O, q, cO, ?_, ?_⟩
 · rw [zneg_big, hl]
 · rw [zmag_big]; exact h
set_option maxHeartbeats 1000000 in
theorem big_ok {M : List Nat} {A : Option Addr} {n c v : Nat} {neg : Bool} {l : List Nat} {w : World} (hM : Bel M w) (hx : Sl Int w M A n c (ints l)) (hg : Good l) (hv : val l = v) (hf : fits (bigM neg v) = true) :
 Calls Tryz.prog 109 #[.bool neg, .slice A n c] w fun e w' => ∃ u, e = .returned u ∧ ZV w' M u (bigM neg v) ∧ Below w.heap.size w w' := by
 refine wid ?_
 have hs := hx.small
 obtain ⟨W1, hW1⟩ : ∃ W1 : World, w.alloc (.cells #[.bool false, .slice none 0 0] 29) = W1 := ⟨_, rfl⟩
 have b1 : Below w.heap.size w W1 := by rw [← hW1]; exact bel
 have s1 : W1.heap.size = w.heap.size + 1 := by rw [← hW1]; simp
 have c0 : W1.cell? ⟨w.heap.size, 0, none⟩ = some (.bool false) := by rw [← hW1]; simp [go_sem]
 have c1 : W1.cell? ⟨w.heap.size, 1, none⟩ = some (.slice none 0 0) := by rw [← hW1]; simp [go_sem]
 have f0 : W1.frozen? ⟨w.heap.size, 0, none⟩ = false := by rw [← hW1]; simp [go_sem]
 have f1 : W1.frozen? ⟨w.heap.size, 1, none⟩ = false := by rw [← hW1]; simp [go_sem]
 rw [big_fits] at hf
 have hf2 := of_decide_eq_true hf
 have S := Hd4 ((hx.more (b := w.heap.size) (Nat.le_refl _)).keep (Keeps.of_below b1 _)) hg hv hM
 have B := Hd6 b1 s1 c0 c1 f0 f1
 have HF := Hd hf2
 have HL := Hd hx.dlen
 clear hx hg hv hM b1 s1 c0 c1 f0 f1 hf hf2
 have fin : ∀ (w2 : World) (q : Nat), q ≤ n → l.take q = dig (val l) → Below W1.heap.size W1 w2 → ∀ (u : Value), ZV ((w2.setCell ⟨w.heap.size, 0, none⟩ u).setCell ⟨w.heap.size, 1, none⟩ (.slice A q c)) M (.agg #[.bool (neg && decide (0 < q)), .slice A q c]) (bigM neg v) ∧ Below w.heap.size w ((w2.setCell ⟨w.heap.size, 0, none⟩ u).setCell ⟨w.heap.size, 1, none⟩ (.slice A q c)) := by
  intro w2 q hq ht hb2 u; refine ⟨(ZV.of_trim S.out.1 hq ht S.out.2.2.1 ((Keeps.of_below hb2 _).trans (((Keeps.refl _ _).setCell (p := ⟨w.heap.size, 0, none⟩) (.inl (by simp)) _).setCell (p := ⟨w.heap.size, 1, none⟩) (.inl (by simp)) _))).less (fun k hk => List.mem_cons_of_mem _ hk), ?_⟩; exact ((B.out.1.trans (hb2.mono (by rw [B.out.2.1]; omega))).setCell (p := ⟨w.heap.size, 0, none⟩) (Nat.le_refl _) _).setCell (p := ⟨w.heap.size, 1, none⟩) (Nat.le_refl _) _
 have FIN := Hd fin
 clear fin
 cases neg
 · refine entm Tryz.func109 rfl Tryz.ntmps109 ?_
   gi_wp2_with (refine Cl 125 (trimN_any A n c l _ S.out.1 S.out.2.1) ?_; rintro e w2 ⟨q, rfl, hq, ht, hb2⟩; have hq2 : q ≤ 2048 := (by have h := HF.out; rw [← S.out.2.2.1, ← ht, List.length_take, HL.out] at h; omega); obtain ⟨b1, s1, c0, c1, f0, f1⟩ := B.out; have c0' : w2.cell? ⟨w.heap.size, 0, none⟩ = some (.bool false) := (hb2.cell (p := ⟨w.heap.size, 0, none⟩) (by simp; omega)).trans c0; have c1' : w2.cell? ⟨w.heap.size, 1, none⟩ = some (.slice none 0 0) := (hb2.cell (p := ⟨w.heap.size, 1, none⟩) (by simp; omega)).trans c1; have f0' : w2.frozen? ⟨w.heap.size, 0, none⟩ = false := (hb2.frozen (p := ⟨w.heap.size, 0, none⟩) (by simp; omega)).trans f0; have f1' : w2.frozen? ⟨w.heap.size, 1, none⟩ = false := (hb2.frozen (p := ⟨w.heap.size, 1, none⟩) (by simp; omega)).trans f1; have HT := Hd3 ht hq hb2; clear ht hq hb2 b1 s1 c0 c1 f0 f1)
   obtain ⟨z1, z2⟩ := FIN.out w2 q HT.out.2.1 HT.out.1 HT.out.2.2 (.bool false); rw [Bool.false_and] at z1; exact ⟨.agg #[.bool false, .slice A q c], by simp [results, go_sem, c0', c1'], _, rfl, z1, z2⟩
 · refine entm Tryz.func109 rfl Tryz.ntmps109 ?_
   gi_wp2_with (refine Cl 125 (trimN_any A n c l _ S.out.1 S.out.2.1) ?_; rintro e w2 ⟨q, rfl, hq, ht, hb2⟩; have hq2 : q ≤ 2048 := (by have h := HF.out; rw [← S.out.2.2.1, ← ht, List.length_take, HL.out] at h; omega); obtain ⟨b1, s1, c0, c1, f0, f1⟩ := B.out; have c0' : w2.cell? ⟨w.heap.size, 0, none⟩ = some (.bool false) := (hb2.cell (p := ⟨w.heap.size, 0, none⟩) (by simp; omega)).trans c0; have c1' : w2.cell? ⟨w.heap.size, 1, none⟩ = some (.slice none 0 0) := (hb2.cell (p := ⟨w.heap.size, 1, none⟩) (by simp; omega)).trans c1; have f0' : w2.frozen? ⟨w.heap.size, 0, none⟩ = false := (hb2.frozen (p := ⟨w.heap.size, 0, none⟩) (by simp; omega)).trans f0; have f1' : w2.frozen? ⟨w.heap.size, 1, none⟩ = false := (hb2.frozen (p := ⟨w.heap.size, 1, none⟩) (by simp; omega)).trans f1; have HT := Hd3 ht hq hb2; clear ht hq hb2 b1 s1 c0 c1 f0 f1)
   obtain ⟨z1, z2⟩ := FIN.out w2 q HT.out.2.1 HT.out.1 HT.out.2.2 (.bool (decide (0 < q))); rw [Bool.true_and] at z1; exact ⟨.agg #[.bool (decide (0 < q)), .slice A q c], by simp [results, go_sem, c0', c1'], _, rfl, z1, z2⟩
abbrev panE (x : Int) : Ending := .panicked [{ v := errV x, recovered := false }]
set_option maxHeartbeats 1000000 in
theorem big_lim {M : List Nat} {A : Option Addr} {n c v : Nat} {neg : Bool} {l : List Nat} {w : World} (hx : Sl Int w M A n c (ints l)) (hg : Good l) (hv : val l = v) (hf : fits (bigM neg v) = false) :
 Calls Tryz.prog 109 #[.bool neg, .slice A n c] w fun e w' => e = panE 2 ∧ Below w.heap.size w w' := by
 refine wid ?_
 have hs := hx.small
 rw [big_fits] at hf
 have hf2 := of_decide_eq_false hf
 have S := Hd3 hx hg hv
 have HF := Hd hf2
 have HL := Hd hx.dlen
 clear hx hg hv hf hf2
 refine entm Tryz.func109 rfl Tryz.ntmps109 ?_
 gi_wp2_with (refine Cl 125 (trimN_any A n c l _ (S.out.1.go (by exact bel)) S.out.2.1) ?_; rintro e w2 ⟨q, rfl, hq, ht, hb2⟩; have hq2 : 2048 < q := (by have h := HF.out; rw [← S.out.2.2, ← ht, List.length_take, HL.out] at h; omega); have HB := Hd hb2; clear ht hq hb2)
 have hb : Below w.heap.size w w2 := ((Below.refl w.heap.size w).alloc (Nat.le_refl _) (.cells #[.bool false, .slice none 0 0] 29)).trans (HB.out.mono (by simp))
 first
  | exact ⟨rfl, hb⟩
  | exact ⟨rfl, rfl, hb⟩
  | exact ⟨rfl, .inl ⟨rfl, hb⟩⟩
end
section
open Go.RowKit Go.Shelf
attribute [local go_sem] Oper.semAt_some
def limI (z : Int) : Int := if fits z then 0 else 2
def limZ (z : Int) : Int := if fits z then z else 0
theorem limI_ok {z : Int} (h : fits z = true) : limI z = 0 := by simp [limI, h]
theorem limI_no {z : Int} (h : fits z = false) : limI z = 2 := by simp [limI, h]
theorem limZ_ok {z : Int} (h : fits z = true) : limZ z = z := by simp [limZ, h]
theorem limZ_no {z : Int} (h : fits z = false) : limZ z = 0 := by simp [limZ, h]
def ZR (w : World) (M : List Nat) (z : Int) (e : Ending) (w' : World) : Prop := ∃ u, e = .returned (.tuple #[u, .int .i64 (limI z)]) ∧ ZV w' M u (limZ z) ∧ Below w.heap.size w w'
set_option maxHeartbeats 1000000 in
theorem of_any {M : List Nat} {A : Option Addr} {n c v : Nat} {neg : Bool} {l : List Nat} {w : World} (hM : Bel M w) (hx : Sl Int w M A n c (ints l)) (hg : Good l) (hv : val l = v) :
 Calls Tryz.prog 101 #[.bool neg, .slice A n c] w (ZR w M (bigM neg v)) := by
 refine wid ?_
 have hs := hx.small
 obtain ⟨W1, hW1⟩ : ∃ W1 : World, w.alloc (.cells #[.bool false, .slice none 0 0] 29) = W1 := ⟨_, rfl⟩
 have b1 : Below w.heap.size w W1 := by rw [← hW1]; exact bel
 have s1 : W1.heap.size = w.heap.size + 1 := by rw [← hW1]; simp
 have c0 : W1.cell? ⟨w.heap.size, 0, none⟩ = some (.bool false) := by rw [← hW1]; simp [go_sem]
 have c1 : W1.cell? ⟨w.heap.size, 1, none⟩ = some (.slice none 0 0) := by rw [← hW1]; simp [go_sem]
 have f0 : W1.frozen? ⟨w.heap.size, 0, none⟩ = false := by rw [← hW1]; simp [go_sem]
 have f1 : W1.frozen? ⟨w.heap.size, 1, none⟩ = false := by rw [← hW1]; simp [go_sem]
 have S := Hd4 ((hx.more (b := w.heap.size) (Nat.le_refl _)).keep (Keeps.of_below b1 _)) hg hv hM
 have B := Hd6 b1 s1 c0 c1 f0 f1
 have HL := Hd hx.dlen
 clear hx hg hv hM b1 s1 c0 c1 f0 f1
 have fin : ∀ (w2 : World) (q : Nat), q ≤ n → l.take q = dig (val l) → Below W1.heap.size W1 w2 → ∀ (u : Value), ZV ((w2.setCell ⟨w.heap.size, 0, none⟩ u).setCell ⟨w.heap.size, 1, none⟩ (.slice A q c)) M (.agg #[.bool (neg && decide (0 < q)), .slice A q c]) (bigM neg v) ∧ Below w.heap.size w ((w2.setCell ⟨w.heap.size, 0, none⟩ u).setCell ⟨w.heap.size, 1, none⟩ (.slice A q c)) := by
  intro w2 q hq ht hb2 u; refine ⟨(ZV.of_trim S.out.1 hq ht S.out.2.2.1 ((Keeps.of_below hb2 _).trans (((Keeps.refl _ _).setCell (p := ⟨w.heap.size, 0, none⟩) (.inl (by simp)) _).setCell (p := ⟨w.heap.size, 1, none⟩) (.inl (by simp)) _))).less (fun k hk => List.mem_cons_of_mem _ hk), ?_⟩; exact ((B.out.1.trans (hb2.mono (by rw [B.out.2.1]; omega))).setCell (p := ⟨w.heap.size, 0, none⟩) (Nat.le_refl _) _).setCell (p := ⟨w.heap.size, 1, none⟩) (Nat.le_refl _) _
 have FIN := Hd fin
 clear fin
 cases hf : fits (bigM neg v)
 · have Z := Hd2 (limI_no hf) (limZ_no hf)
   rw [big_fits] at hf; have HF := Hd (of_decide_eq_false hf); clear hf; refine entm Tryz.func101 rfl Tryz.ntmps101 ?_
   gi_wp2_with (refine Cl 120 (trimR_any A n c l _ S.out.1 S.out.2.1) ?_; rintro e w2 ⟨q, rfl, hq, ht, hb2⟩; have hq2 : 2048 < q := (by have h := HF.out; rw [← S.out.2.2.1, ← ht, List.length_take, HL.out] at h; omega); obtain ⟨b1, s1, c0, c1, f0, f1⟩ := B.out; have c0' : w2.cell? ⟨w.heap.size, 0, none⟩ = some (.bool false) := (hb2.cell (p := ⟨w.heap.size, 0, none⟩) (by simp; omega)).trans c0; have c1' : w2.cell? ⟨w.heap.size, 1, none⟩ = some (.slice none 0 0) := (hb2.cell (p := ⟨w.heap.size, 1, none⟩) (by simp; omega)).trans c1; have f0' : w2.frozen? ⟨w.heap.size, 0, none⟩ = false := (hb2.frozen (p := ⟨w.heap.size, 0, none⟩) (by simp; omega)).trans f0; have f1' : w2.frozen? ⟨w.heap.size, 1, none⟩ = false := (hb2.frozen (p := ⟨w.heap.size, 1, none⟩) (by simp; omega)).trans f1; have HT := Hd3 ht hq hb2; clear ht hq hb2 b1 s1 c0 c1 f0 f1)
   refine ⟨.tuple #[.agg #[.bool false, .slice none 0 0], .int .i64 2], by simp [results, go_sem, c0', c1'], .agg #[.bool false, .slice none 0 0], by rw [Z.out.1], ?_, ?_⟩
   · rw [Z.out.2]; exact ZV.zero _ _
   · exact ((B.out.1.trans (HT.out.2.2.mono (by rw [B.out.2.1]; omega))).setCell (p := ⟨w.heap.size, 0, none⟩) (Nat.le_refl _) _).setCell (p := ⟨w.heap.size, 1, none⟩) (Nat.le_refl _) _
 · have Z := Hd2 (limI_ok hf) (limZ_ok hf)
   rw [big_fits] at hf; have HF := Hd (of_decide_eq_true hf); clear hf; cases neg
   · refine entm Tryz.func101 rfl Tryz.ntmps101 ?_
     gi_wp2_with (refine Cl 120 (trimR_any A n c l _ S.out.1 S.out.2.1) ?_; rintro e w2 ⟨q, rfl, hq, ht, hb2⟩; have hq2 : q ≤ 2048 := (by have h := HF.out; rw [← S.out.2.2.1, ← ht, List.length_take, HL.out] at h; omega); obtain ⟨b1, s1, c0, c1, f0, f1⟩ := B.out; have c0' : w2.cell? ⟨w.heap.size, 0, none⟩ = some (.bool false) := (hb2.cell (p := ⟨w.heap.size, 0, none⟩) (by simp; omega)).trans c0; have c1' : w2.cell? ⟨w.heap.size, 1, none⟩ = some (.slice none 0 0) := (hb2.cell (p := ⟨w.heap.size, 1, none⟩) (by simp; omega)).trans c1; have f0' : w2.frozen? ⟨w.heap.size, 0, none⟩ = false := (hb2.frozen (p := ⟨w.heap.size, 0, none⟩) (by simp; omega)).trans f0; have f1' : w2.frozen? ⟨w.heap.size, 1, none⟩ = false := (hb2.frozen (p := ⟨w.heap.size, 1, none⟩) (by simp; omega)).trans f1; have HT := Hd3 ht hq hb2; clear ht hq hb2 b1 s1 c0 c1 f0 f1)
     obtain ⟨z1, z2⟩ := FIN.out w2 q HT.out.2.1 HT.out.1 HT.out.2.2 (.bool false); rw [Bool.false_and] at z1; refine ⟨.tuple #[.agg #[.bool false, .slice A q c], .int .i64 0], by simp [results, go_sem, c0', c1'], .agg #[.bool false, .slice A q c], by rw [Z.out.1], by rw [Z.out.2]; exact z1, z2⟩
   · refine entm Tryz.func101 rfl Tryz.ntmps101 ?_
     gi_wp2_with (refine Cl 120 (trimR_any A n c l _ S.out.1 S.out.2.1) ?_; rintro e w2 ⟨q, rfl, hq, ht, hb2⟩; have hq2 : q ≤ 2048 := (by have h := HF.out; rw [← S.out.2.2.1, ← ht, List.length_take, HL.out] at h; omega); obtain ⟨b1, s1, c0, c1, f0, f1⟩ := B.out; have c0' : w2.cell? ⟨w.heap.size, 0, none⟩ = some (.bool false) := (hb2.cell (p := ⟨w.heap.size, 0, none⟩) (by simp; omega)).trans c0; have c1' : w2.cell? ⟨w.heap.size, 1, none⟩ = some (.slice none 0 0) := (hb2.cell (p := ⟨w.heap.size, 1, none⟩) (by simp; omega)).trans c1; have f0' : w2.frozen? ⟨w.heap.size, 0, none⟩ = false := (hb2.frozen (p := ⟨w.heap.size, 0, none⟩) (by simp; omega)).trans f0; have f1' : w2.frozen? ⟨w.heap.size, 1, none⟩ = false := (hb2.frozen (p := ⟨w.heap.size, 1, none⟩) (by simp; omega)).trans f1; have HT := Hd3 ht hq hb2; clear ht hq hb2 b1 s1 c0 c1 f0 f1)
     obtain ⟨z1, z2⟩ := FIN.out w2 q HT.out.2.1 HT.out.1 HT.out.2.2 (.bool (decide (0 < q))); rw [Bool.true_and] at z1; refine ⟨.tuple #[.agg #[.bool (decide (0 < q)), .slice A q c], .int .i64 0], by simp [results, go_sem, c0', c1'], .agg #[.bool (decide (0 < q)), .slice A q c], by rw [Z.out.1], by rw [Z.out.2]; exact z1, z2⟩
end
section
open Go.RowKit Go.Shelf
attribute [local go_sem] Oper.semAt_some
def DR2 (w : World) (M : List Nat) (x y : Nat) (e : Ending) (w' : World) : Prop := ∃ O q cO O2 q2 cO2, e = .returned (.tuple #[.slice O q cO, .slice O2 q2 cO2]) ∧ Sl Int w' M O q cO (ints (dig x)) ∧ Sl Int w' M O2 q2 cO2 (ints (dig y)) ∧ Below w.heap.size w w'
theorem dig_one {y : Nat} (h : (dig y).length = 1) : dig y = [y] ∧ 0 < y ∧ y ≤ 1073741823 := by
 have h0 : y ≠ 0 := by
  intro e; rw [e, dig_zero] at h; simp at h
 have h1 : y < BB ^ 1 := (dig_len y 1).2 (by omega)
 rw [Nat.pow_one] at h1
 refine ⟨?_, by omega, BB_le h1⟩
 rw [dig_pos h0, Nat.mod_eq_of_lt h1, Nat.div_eq_of_lt h1, dig_zero]
set_option maxHeartbeats 1000000 in
theorem ndiv_any {M : List Nat} {A B : Option Addr} {n c m d x y : Nat} {w : World} (hM : Bel M w) (hx : Sl Int w M A n c (ints (dig x))) (hy : Sl Int w M B m d (ints (dig y))) (hn : n ≤ 4990) (hy0 : 0 < y) :
 Calls Tryz.prog 108 #[.slice A n c, .slice B m d] w (DR2 w M (x / y) (x % y)) := by
 refine wid ?_
 have l1 := hx.dlen
 have l2 := hy.dlen
 have hs2 := hy.small
 have H := Hd hx
 have G := Hd hy
 have HM := Hd hM
 by_cases hlt : x < y
 · have hc := Hd (cmpZ_lt hlt)
   have hq := Hd2 (Nat.div_eq_of_lt hlt) (Nat.mod_eq_of_lt hlt); clear hx hy hM l1 l2; refine ent Tryz.func108 rfl Tryz.ntmps108 ?_
   gi_wp2_with (refine Cl 98 (compare_any A B n c m d x y _ H.out G.out) ?_; rintro e w1 ⟨rfl, hb⟩; rw [hc.out]; have HB := Hd hb; clear hb)
   go_ret2; rw [hq.out.1, hq.out.2]; exact ⟨none, 0, 0, A, n, c, rfl, by rw [dig_zero]; exact Sl.nil0, H.out.go HB.out, HB.out⟩
 · have hmn : m ≤ n := by rw [← l1, ← l2]; exact dig_mono (Nat.le_of_not_lt hlt)
   have hcz : cmpZ x y = 0 ∨ cmpZ x y = 1 := by
    rcases Nat.lt_or_ge y x with h | h
    · exact .inr (cmpZ_gt h)
    · exact .inl (cmpZ_eq (by omega))
   obtain ⟨cz, hcz'⟩ : ∃ cz, cmpZ x y = cz := ⟨_, rfl⟩
   rw [hcz'] at hcz; have HC := Hd hcz'; clear hcz'
   have hcn : ¬ cz < 0 := by omega
   have hm0 : m ≠ 0 := by
    intro e; rw [e] at l2; have := dig_nil.1 (List.length_eq_zero_iff.1 l2); omega
   by_cases hm1 : m = 1
   · subst hm1
     obtain ⟨d1, d2, d3⟩ := dig_one l2; obtain ⟨b0, o0, dt, rfl, hct, hdt, hdl, -⟩ := hy.digd (good_dig y) (show 0 < 1 by omega); rw [d1] at hdl
     obtain rfl : y = dt := by simpa using hdl
     rw [Nat.add_zero] at hct; have hmod := Nat.mod_lt x d2; clear hx hy hM l1 l2 d1 hdl hcz; refine ent Tryz.func108 rfl Tryz.ntmps108 ?_
     gi_wp2_with (first
      | (refine Cl 125 (trimN_any (M := M) _ _ _ [x % y] _ TR.out.1 TR.out.2) ?_; rintro e w3 ⟨q3, rfl, hq3, ht3, hb3⟩; have H3 := Hd3 hq3 ht3 hb3; clear hq3 ht3 hb3)
      | (refine Cl 124 (short_any (x := x) (d := y) (HM.out.le H1.out.size) (H.out.go H1.out) (by omega) d2 (by omega)) ?_; rintro e w2 ⟨O2, q2, c2, rfl, hs2, hb2⟩; have H2 := Hd2 hs2 hb2; clear hs2 hb2
         have TR : Hid (Sl Int (w2.alloc (.cells #[.int .i64 ((x % y : Nat) : Int)] 3)) M (some ⟨w2.heap.size, 0, none⟩) 1 1 (ints [x % y]) ∧ Good [x % y]) := by
          have hg : Good [x % y] := good_cons (lt_BB (by omega)) good_nil; have hr : Row (w2.alloc (.cells #[.int .i64 ((x % y : Nat) : Int)] 3)) w2.heap.size (ints [x % y]) := heap_alloc_new w2 _
          exact ⟨hr.sl (fun e => by have := HM.out _ e; have := H1.out.size; have := H2.out.2.size; omega) rfl (by omega) (ints_i64 hg), hg⟩)
      | (refine Cl 98 (compare_any A _ n c 1 d x y _ H.out G.out) ?_; rintro e w1 ⟨rfl, hb⟩; rw [HC.out]; have H1 := Hd hb; clear hb; have hct1 : w1.cell? ⟨b0, o0, none⟩ = some (.int .i64 (y : Int)) := (H1.out.cell (World.block_lt_of_cell? w _ hct)).trans hct)
      | fail)
     have hv1 : val [x % y] = x % y := by simp [val]
     have h3 := (TR.out.1.go H3.out.2.2).cutTo H3.out.1; rw [ints_take, H3.out.2.1, hv1] at h3; have bA : Below w2.heap.size w2 w3 := ((Below.refl w2.heap.size w2).alloc (Nat.le_refl _) (.cells #[.int .i64 ((x % y : Nat) : Int)] 3)).trans (H3.out.2.2.mono (by simp)); go_ret2; exact ⟨O2, q2, c2, _, q3, 1, rfl, H2.out.1.go bA, h3, H1.out.trans ((H2.out.2.trans (bA.mono H2.out.2.size)).mono H1.out.size)⟩
   · clear hx hy hM l1 l2 hcz
     refine ent Tryz.func108 rfl Tryz.ntmps108 ?_
     gi_wp2_with (first
      | (refine Cl 126 (long_any (x := x) (y := y) (HM.out.le H1.out.size) (H.out.go H1.out) (G.out.go H1.out) hn (by omega) hmn) ?_; rintro e w2 ⟨O, q, cO, O2, q2, c2, rfl, hs1, hs2, hb2⟩; have H2 := Hd3 hs1 hs2 (H1.out.trans (hb2.mono H1.out.size)); clear hs1 hs2 hb2)
      | (refine Cl 98 (compare_any A B n c m d x y _ H.out G.out) ?_; rintro e w1 ⟨rfl, hb⟩; rw [HC.out]; have H1 := Hd hb; clear hb)
      | fail)
     go_ret2; exact ⟨O, q, cO, O2, q2, c2, rfl, H2.out.1, H2.out.2.1, H2.out.2.2⟩
end
section
open Go.RowKit Go.Shelf
section
variable {F : Fence} {n : Nat} {P : Program} {Mr : List Nat} {md : Region.Mode} {ops : Array Oper} {Q Q' : Exit → Act → World → Prop}
theorem wpOpIn_monoQ {i : Nat} {K : Act → World → Prop} {a : Act} {w : World} (hq : ∀ e a w, Q e a w → Q' e a w) (hh : wpOpIn F n P ops Q i K a w) : wpOpIn F n P ops Q' i K a w := by
 have hl : LetsOut Q → LetsOut Q' := fun ⟨a, w, h⟩ => ⟨a, w, hq _ _ _ h⟩
 unfold wpOpIn at *
 split
 · simpa [*] using hh
 · rename_i o ho
   simp only [ho] at hh
   split
   · rename_i hw
     simp only [hw, if_true] at hh; unfold Oper.wpIn at *; refine ⟨hh.1, ?_⟩; have hh := hh.2; generalize (o.semAt F.round a.eval).run P w = r at *
     cases r with
     | ok x w' =>
       cases x <;> simp only [Oper.uponIn] at hh ⊢ <;> first
        | exact hh
        | exact ⟨hh.1, CallsIn.mono hh.2 (fun e w'' he => by cases e <;> first | exact he | exact hq _ _ _ he | exact hl he)⟩
        | exact ⟨hh.1, RoundIn.mono hh.2 (fun e w'' he => by cases e <;> first | exact he | exact hq _ _ _ he | exact hl he)⟩
     | halt x w' =>
       cases x <;> simp only [Oper.uponIn] at hh ⊢ <;> first | exact hh | exact hq _ _ _ hh
   · rename_i hw; simp only [hw] at hh; exact hh
theorem wpAnyE_monoQ {n0 : Nat} {L : Array Bool → Act → World → Prop} (hq : ∀ e a w, Q e a w → Q' e a w) : ∀ (f : Nat) (listed : Array Bool) (a : Act) (w : World), wpAnyE F n P Mr md ops Q n0 L f listed a w → wpAnyE F n P Mr md ops Q' n0 L f listed a w
 | 0, listed, a, w, h => h
 | f + 1, listed, a, w, h => ⟨h.1, fun i hi => ⟨(h.2 i hi).1, wpOpIn_monoQ hq (wpOpIn_mono (fun a' w' h' => ⟨h'.1, wpAnyE_monoQ hq f _ a' w' h'.2⟩) (h.2 i hi).2)⟩⟩
theorem npost_to {Q : Exit → Act → World → Prop} : ∀ e a w, npost Q e a w → Q e a w := fun e a w h => by cases e <;> first | exact h | exact h.elim
theorem wpIn_region_tq (Mr : List Nat) {id : Nat} {a : Act} {w : World} (n0 g : Nat) (ord : List Nat) (hm : P.follows .mixedOrders = true) (hok : regOk ops n0 ord = true) (hg : ops.size - n0 = g)
 (h : wpOrd F n P Mr ops (npost Q) (fun a' w' => wpOpsIn F n P ops Q (List.range' n0 g) a' w') ord a w.drew) : (Code.region id ops true).wpIn F n P Q a w := by
 subst hg
 simp only [regOk, Bool.and_eq_true, decide_eq_true_eq] at hok
 obtain ⟨⟨⟨⟨⟨⟨h1, h2⟩, h3⟩, h4⟩, h5⟩, h6⟩, h7⟩ := hok
 have inv : HeadInv .any ops n0 (Array.replicate ops.size false) :=
  ⟨by simp, fun j oj _ hl => (by rw [getD_replicate_false] at hl; cases hl), fun t _ ht => by simp [ht]⟩
 have hE := wpAnyE_of_ord (F := F) (n := n) (P := P) (md := .any) (Q := npost Q) h1 h2 (fun d v c a w h => np_panic d v c a w h) h3 ord _ a _ inv h4 h
 rw [h5] at hE
 refine wpIn_region_any hm ?_
 have := wpAnyIn_of_E (g := ops.size - n0) (fun l a w hl => by obtain ⟨rfl, hL⟩ := hl; exact wpAnyIn_of_tail _ _ _ a w h7 hL) _ _ _ _ (wpAnyE_monoQ npost_to _ _ _ _ hE)
 rwa [show n0 + (ops.size - n0) = ops.size by omega] at this
end
end
end Go.Proofs.YtboapndkopabiaaGreat
