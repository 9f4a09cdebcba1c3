/- Lemmas and walks (Nat9). No statement is proved here. -/
import Derived.Lib.ItoaNum
import Derived.Test.YtboapndkopabiaaGreatM07
import Derived.Test.YtboapndkopabiaaGreatM08
set_option linter.unusedVariables false
set_option linter.unusedSimpArgs false
namespace Go.Proofs.YtboapndkopabiaaGreat
open Go.RowKit Go.Shelf
attribute [local go_sem] Oper.semAt_some
def Rw (w : World) (g N cap : Nat) (l : List Int) : Prop := w.ownsRow 0 3 1 (.slice (some ⟨g, 0, none⟩) N cap) N (l.map (Value.int .i64))
section
variable {w w' : World} {g N cap : Nat} {l : List Int}
theorem Rw.len (h : Rw w g N cap l) : l.length = N := by simpa using h.1
theorem Rw.lt (h : Rw w g N cap l) : g < w.heap.size := (World.ownsRow.lt h g rfl).2
theorem Rw.cell (h : Rw w g N cap l) {k : Nat} {x : Int} (hk : l[k]? = some x) : w.cell? ⟨g, k, none⟩ = some (.int .i64 x) := by
 have hl : k < N := by rw [← h.len]; exact (List.getElem?_eq_some_iff.1 hk).1
 rw [World.ownsRow.cellAt h k (by omega), List.getElem?_map, hk]; rfl
theorem Rw.free (h : Rw w g N cap l) (k : Nat) : w.frozen? ⟨g, k, none⟩ = false := World.ownsRow.frozenAt h k
theorem Rw.put (h : Rw w g N cap l) (k : Nat) (x : Int) : Rw (w.setCell ⟨g, k, none⟩ (.int .i64 x)) g N cap (l.set k x) := by
 unfold Rw
 rw [List.map_set]
 exact (World.ownsRow.stored h k _).1
theorem Rw.drew (h : Rw w g N cap l) : Rw w.drew g N cap l := h
theorem Rw.put_other (h : Rw w g N cap l) {b : Nat} (hb : g ≠ b) (k : Nat) (u : Value) : Rw (w.setCell ⟨b, k, none⟩ u) g N cap l := own_stay h (fun q hq _ => by
 have e : g = q := Option.some.inj hq
 subst e
 exact Below.heap_setCell w _ _ g hb)
theorem Rw.go (h : Rw w g N cap l) (hb : Below w.heap.size w w') : Rw w' g N cap l := own_stay h (fun q _ hl => hb.block q hl)
theorem Rw.sl (h : Rw w g N cap l) {M : List Nat} (hM : g ∉ M) (hs : N ≤ 1000000) (hi : ∀ x, x ∈ l → i64 x) : Sl Int w M (some ⟨g, 0, none⟩) N cap l := by
 rcases h.2 with ⟨e, _⟩ | ⟨g', cap', cur, e, -, -, hnc, hcm, -, -⟩
 · cases e
 · cases e
   refine ⟨h.len, hnc, by simpa [capOk, maxLen] using hcm, by omega, .inr ⟨g, 0, rfl, fun k x hk => ⟨_, ⟨rfl, hi x (List.mem_of_getElem? hk)⟩, hM, fun j u hu => ?_⟩⟩⟩
   match j, hu with
   | 0, hu =>
     cases hu
     simpa [show Rep.sz Int = 1 from rfl] using h.cell hk
theorem Rw.cut {v : Value} {n m : Nat} {xs : List Int} {base : Nat} (h : w.ownsRow base 3 1 v n (xs.map (Value.int .i64))) (hv : v = .slice (some ⟨g, 0, none⟩) n cap) (hm : m ≤ n) : Rw w g m cap (xs.take m) := by
 rcases h.2 with ⟨e, _⟩ | ⟨g', cap', cur, e, hb, hh, hnc, hcm, hsz, htk⟩
 · rw [e] at hv; cases hv
 · rw [e] at hv
   cases hv; refine ⟨?_, .inr ⟨g, cap, cur, rfl, Nat.zero_le _, hh, by omega, hcm, hsz, ?_⟩⟩
   · rw [List.length_map, List.length_take]
     have := h.1; rw [List.length_map] at this; omega
   · rw [List.map_take, ← htk, List.take_take, Nat.mul_one, Nat.mul_one, Nat.min_eq_left hm]
end
theorem lz_facts {d : Nat} (h0 : 0 < d) (h1 : d ≤ 1073741823) : ∃ s : Nat, s ≤ 29 ∧ (64 - (Lib.bitLen d : Int)) - 34 = (s : Int) ∧ (d + 1) * 2 ^ s ≤ BB ∧ 1 ≤ Lib.bitLen d ∧ Lib.bitLen d ≤ 30 := by
 have hb := Lib.bitLenAux_bounds 64 d (by omega) (by omega)
 have hle := Lib.bitLen_le d 30 (by omega) (by omega)
 have e : Lib.bitLen d = Lib.bitLenAux 64 d := rfl
 rw [e] at hle ⊢
 generalize Lib.bitLenAux 64 d = L at *
 refine ⟨30 - L, by omega, by omega, ?_, hb.1, hle⟩
 have h2 : (d + 1) * 2 ^ (30 - L) ≤ 2 ^ L * 2 ^ (30 - L) := Nat.mul_le_mul_right _ hb.2.2
 rw [← Nat.pow_add, show L + (30 - L) = 30 by omega] at h2
 exact h2
theorem moved_len {y k s d : Nat} (hk : (dig y).length = k) (hk0 : 0 < k) (hd : (dig y)[k - 1]? = some d) (hs : (d + 1) * 2 ^ s ≤ BB) : (dig (y * 2 ^ s)).length = k := by
 have h1 : (dig (y * 2 ^ s)).length ≤ k := by
  rw [← dig_len]; have e := val_take_succ hd; rw [show k - 1 + 1 = k by omega, List.take_of_length_le (by omega), val_dig] at e; have h2 := val_lt _ (good_take (good_dig y) (k - 1)); rw [List.length_take, Nat.min_eq_left (by omega)] at h2
  have h3 : y < BB ^ (k - 1) * (d + 1) := by rw [Nat.mul_add, Nat.mul_one]; omega
  have h4 : y * 2 ^ s < BB ^ (k - 1) * (d + 1) * 2 ^ s := Nat.mul_lt_mul_of_pos_right h3 (Nat.pow_pos (by decide)); have h5 : BB ^ (k - 1) * ((d + 1) * 2 ^ s) ≤ BB ^ (k - 1) * BB := Nat.mul_le_mul_left _ hs; rw [← Nat.pow_succ, show (k - 1).succ = k by omega, ← Nat.mul_assoc] at h5; omega
 have h2 : (dig y).length ≤ (dig (y * 2 ^ s)).length := dig_mono (Nat.le_mul_of_pos_right _ (Nat.pow_pos (by decide)))
 omega
theorem moved_len2 {x n s : Nat} (hn : (dig x).length = n) (hs : s ≤ 29) : n ≤ (dig (x * 2 ^ s)).length ∧ (dig (x * 2 ^ s)).length ≤ n + 1 := by
 constructor
 · rw [← hn]; exact dig_mono (Nat.le_mul_of_pos_right _ (Nat.pow_pos (by decide)))
 · rw [← dig_len, Nat.pow_succ]
   have h1 : x < BB ^ n := (dig_len x n).2 (by omega); exact Nat.mul_lt_mul_of_lt_of_le h1 (two_BB hs) BB_pos
theorem snoc_two {W : World} {base : Nat} {v : Value} {n : Nat} {xs : List Int} (h : W.ownsRow base 3 1 v n (xs.map (Value.int .i64))) (hb : base ≤ W.heap.size) (hn : n ≤ 1000000000) :
 ∃ g cc W', (Builtin.append_ #[124, 124] 124 #[v, .slice (some ⟨W.heap.size, 0, none⟩) 2 2]).run Tryz.prog (W.alloc (.cells #[.int .i64 0, .int .i64 0] 3)) = .ok (.slice (some ⟨g, 0, none⟩) (n + 2) cc) W' ∧
  W'.ownsRow base 3 1 (.slice (some ⟨g, 0, none⟩) (n + 2) cc) (n + 2) ((xs ++ [0, 0]).map (Value.int .i64)) ∧ Below base W W' ∧ (∀ b, b < W.heap.size → v.ownBlock ≠ some b → W'.heap[b]? = W.heap[b]?) ∧ (v.ownBlock = some g ∨ W.heap.size < g) ∧ n + 2 ≤ cc := by
 obtain ⟨i0, hi, hz0, hz1, hz2⟩ := info_parts int_info
 obtain ⟨v', w', h1, h2, h3, _, h5⟩ := run_append_own_at (P := Tryz.prog) (W.alloc (.cells #[.int .i64 0, .int .i64 0] 3)) base 124 124 3 i0 (.int .i64 0) 1 8 Tryz.underlying124 hi hz0 hz1 hz2 rfl (by decide) v n _ (h.alloc _) ⟨W.heap.size, 0, none⟩ 2 2 [.int .i64 0, .int .i64 0] rfl
  (by intro j u hu; match j, hu with | 0, hu => (cases hu; simp [go_sem, Addr.add]) | 1, hu => (cases hu; simp [go_sem, Addr.add])) (by simp [Value.oneCell']) (by unfold maxLen; omega) (by omega) (by simp; omega)
 obtain ⟨g, cc, rfl⟩ := ownsRow_succ (k := n + 1) h2
 have h2' : w'.ownsRow base 3 1 (.slice (some ⟨g, 0, none⟩) (n + 2) cc) (n + 2) ((xs ++ [0, 0]).map (Value.int .i64)) := by rw [List.map_append]; exact h2
 refine ⟨g, cc, w', h1, h2', ((Below.refl base W).alloc hb _).grown h3 (by simp; omega) (fun k hk => (h.lt k hk).1), fun b hb' hne => ?_, ?_, ?_⟩
 · exact (h3.block b (by simp; omega) (fun e => hne e.symm)).trans (Below.heap_alloc W _ b hb')
 · rcases h5 with e | e
   · left; rw [← e]; rfl
   · right
     have e2 : g = (W.alloc (.cells #[.int .i64 0, .int .i64 0] 3)).heap.size := Option.some.inj e; rw [e2]; simp
 · rcases h2.2 with ⟨e, _⟩ | ⟨g', cap', cur, e, -, -, hnc, -⟩
   · cases e
   · cases e; exact hnc
theorem BB_eq : BB = 1073741824 := rfl
theorem head_facts {t u1 v1 : Nat} (ht : t ≤ 1073741823) (hu : u1 ≤ 1073741823) : ∃ hd dq g0 : Nat, (hd = t * BB + u1 ∧ dq = hd / v1 ∧ g0 = min (hd / v1) (BB - 1)) ∧ bits .or .i64 ((t : Int) * 1073741824) (u1 : Int) = (hd : Int) ∧ hd ≤ 1152921504606846975 ∧
 min (dq : Int) 1073741823 = (g0 : Int) ∧ IntKind.i64.wrap (dq : Int) = (dq : Int) ∧ ((hd : Int)).tdiv (v1 : Int) = (dq : Int) ∧ IntKind.i64.wrap ((t : Int) * 1073741824) = (t : Int) * 1073741824 := by
 refine ⟨t * 1073741824 + u1, (t * 1073741824 + u1) / v1, min ((t * 1073741824 + u1) / v1) 1073741823, ⟨rfl, rfl, rfl⟩, ?_, by omega, ?_, ?_, (Int.ofNat_tdiv _ _).symm, ?_⟩
 · rw [or_join ht hu]; omega
 · omega
 · have h := Nat.div_le_self (t * 1073741824 + u1) v1
   have h2 : t * 1073741824 + u1 ≤ 1152921504606846975 := by omega
   generalize (t * 1073741824 + u1) / v1 = q at *; generalize t * 1073741824 + u1 = r at *; rw [IntKind.wrap_i64]; omega
 · rw [IntKind.wrap_i64]; omega
theorem test_facts {hd g v1 v2 u2 : Nat} (hh : hd ≤ 1152921504606846975) (hg : g ≤ 1073741823) (h1 : v1 ≤ 1073741823) (h2 : v2 ≤ 1073741823) (hu : u2 ≤ 1073741823) (hle : g * v1 ≤ hd) : ∃ (X : Nat) (Y : Int), X = hd - g * v1 ∧ IntKind.i64.wrap ((hd : Int) - (g : Int) * (v1 : Int)) = (X : Int) ∧
 IntKind.i64.wrap ((g : Int) * (v1 : Int)) = (g : Int) * (v1 : Int) ∧ IntKind.i64.wrap ((g : Int) * (v2 : Int)) = (g : Int) * (v2 : Int) ∧ bits .or .i64 (IntKind.i64.wrap ((X : Int) * 1073741824)) (u2 : Int) = Y ∧ (X ≤ 1073741823 → Y = ((X * BB + u2 : Nat) : Int)) := by
 have a1 : g * v1 ≤ 1073741823 * 1073741823 := Nat.mul_le_mul hg h1
 have a2 : g * v2 ≤ 1073741823 * 1073741823 := Nat.mul_le_mul hg h2
 have e1 : (g : Int) * (v1 : Int) = ((g * v1 : Nat) : Int) := (Int.natCast_mul ..).symm
 have e2 : (g : Int) * (v2 : Int) = ((g * v2 : Nat) : Int) := (Int.natCast_mul ..).symm
 rw [e1, e2]
 generalize g * v1 = p at *
 generalize g * v2 = q at *
 refine ⟨hd - p, _, rfl, ?_, ?_, ?_, rfl, fun hX => ?_⟩
 · rw [IntKind.wrap_i64]; omega
 · rw [IntKind.wrap_i64]; omega
 · rw [IntKind.wrap_i64]; omega
 · generalize hd - p = X at *
   have hw : IntKind.i64.wrap ((X : Int) * 1073741824) = (X : Int) * 1073741824 := by rw [IntKind.wrap_i64]; omega
   rw [hw, or_join hX hu, BB_eq]; omega
structure GS (us vs : List Nat) (k t u1 u2 v1 v2 : Nat) : Prop where
 gu : Good us
 gv : Good vs
 a2 : us[k - 2]? = some u2
 a1 : us[k - 1]? = some u1
 a0 : us[k]? = some t
 lu : us.length = k + 1
 b2 : vs[k - 2]? = some v2
 b1 : vs[k - 1]? = some v1
 lv : vs.length = k
 pv : 0 < v1
 V0 : 0 < val vs
 lt : val us < BB * val vs
 k2 : 2 ≤ k
section
variable {us vs : List Nat} {k t u1 u2 v1 v2 : Nat}
theorem GS.start (h : GS us vs k t u1 u2 v1 v2) : GuessOk us vs (min ((t * BB + u1) / v1) (BB - 1)) ∧ min ((t * BB + u1) / v1) (BB - 1) * v1 ≤ t * BB + u1 := by
 have hk := h.k2
 refine ⟨guess_start (j := k - 2) h.gu h.gv (by rw [show k - 2 + 1 = k - 1 by omega]; exact h.a1) (by rw [show k - 2 + 2 = k by omega]; exact h.a0) (by rw [h.lu]; omega) (by rw [show k - 2 + 1 = k - 1 by omega]; exact h.b1) (by rw [h.lv]; omega) h.pv h.lt, ?_⟩
 exact Nat.le_trans (Nat.mul_le_mul_right _ (Nat.min_le_left _ _)) (Nat.div_mul_le_self _ _)
theorem GS.less (h : GS us vs k t u1 u2 v1 v2) {g X : Nat} (hg : GuessOk us vs g) (hle : g * v1 ≤ t * BB + u1) (hX : X = t * BB + u1 - g * v1) (ht : X * BB + u2 < g * v2) : 1 ≤ g ∧ GuessOk us vs (g - 1) ∧ (g - 1) * v1 ≤ t * BB + u1 := by
 have hk := h.k2
 subst hX
 have h1 := (guess_test (v2 := v2) (u2 := u2) hle).1 ht
 refine ⟨?_, guess_less (j := k - 2) h.gu h.gv h.a2 (by rw [show k - 2 + 1 = k - 1 by omega]; exact h.a1) (by rw [show k - 2 + 2 = k by omega]; exact h.a0) (by rw [h.lu]; omega) h.b2 (by rw [show k - 2 + 1 = k - 1 by omega]; exact h.b1) (by rw [h.lv]; omega) h.V0 hg h1, ?_⟩
 · rcases Nat.eq_zero_or_pos g with e | e
   · subst e; simp at ht
   · exact e
 · exact Nat.le_trans (Nat.mul_le_mul_right _ (Nat.sub_le _ _)) hle
theorem GS.done (h : GS us vs k t u1 u2 v1 v2) {g X : Nat} (hg : GuessOk us vs g) (hle : g * v1 ≤ t * BB + u1) (hX : X = t * BB + u1 - g * v1) (ht : BB - 1 < X ∨ g * v2 ≤ X * BB + u2) : g * val vs ≤ val us + val vs := by
 have hk := h.k2
 subst hX
 refine guess_done (j := k - 2) h.gu h.gv h.a2 (by rw [show k - 2 + 1 = k - 1 by omega]; exact h.a1) (by rw [show k - 2 + 2 = k by omega]; exact h.a0) (by rw [h.lu]; omega) h.b2 (by rw [show k - 2 + 1 = k - 1 by omega]; exact h.b1) (by rw [h.lv]; omega) h.pv hg ?_
 rcases ht with ht | ht
 · exact guess_far hg.small (h.gv v2 (List.mem_of_getElem? h.b2)) hle ht
 · exact Nat.not_lt.1 (fun e => absurd ((guess_test (v2 := v2) (u2 := u2) hle).2 e) (Nat.not_lt.2 ht))
end
theorem owed_facts {g w v : Nat} {o : Int} (hg : g ≤ 1073741823) (hw : w ≤ 1073741823) (hv : v ≤ 1073741823) (h1 : -8589934592 ≤ o) (h2 : o ≤ 8589934592) : IntKind.i64.wrap ((g : Int) * (v : Int)) = (g : Int) * (v : Int) ∧ IntKind.i64.wrap ((w : Int) - (g : Int) * (v : Int)) = (w : Int) - (g : Int) * (v : Int) ∧
 IntKind.i64.wrap ((w : Int) - (g : Int) * (v : Int) + o) = (w : Int) - (g : Int) * (v : Int) + o ∧ -8589934592 ≤ ((w : Int) - (g : Int) * (v : Int) + o) / 1073741824 ∧ ((w : Int) - (g : Int) * (v : Int) + o) / 1073741824 ≤ 8589934592 := by
 have a1 : g * v ≤ 1073741823 * 1073741823 := Nat.mul_le_mul hg hv
 have e1 : (g : Int) * (v : Int) = ((g * v : Nat) : Int) := (Int.natCast_mul ..).symm
 rw [e1]
 generalize g * v = p at *
 refine ⟨?_, ?_, ?_, by omega, by omega⟩
 · rw [IntKind.wrap_i64]; omega
 · rw [IntKind.wrap_i64]; omega
 · rw [IntKind.wrap_i64]; omega
theorem back_facts {w v : Nat} {o : Int} (hw : w ≤ 1073741823) (hv : v ≤ 1073741823) (h1 : -8589934592 ≤ o) (h2 : o ≤ 8589934592) : IntKind.i64.wrap ((w : Int) + (v : Int)) = (w : Int) + (v : Int) ∧ IntKind.i64.wrap ((w : Int) + (v : Int) + o) = (w : Int) + (v : Int) + o ∧
 -8589934592 ≤ ((w : Int) + (v : Int) + o) / 1073741824 ∧ ((w : Int) + (v : Int) + o) / 1073741824 ≤ 8589934592 := by
 refine ⟨?_, ?_, by omega, by omega⟩
 · rw [IntKind.wrap_i64]; omega
 · rw [IntKind.wrap_i64]; omega
theorem set_mid {ms ws : List Nat} {m : Nat} (hm : ms.length = m) (hw : m < ws.length) (d : Nat) : (ms ++ ws.drop m).set m d = (ms ++ [d]) ++ ws.drop (m + 1) := by
 subst hm
 rw [List.set_append_right _ _ (Nat.le_refl _), Nat.sub_self, List.drop_eq_getElem_cons hw, List.set_cons_zero]
 simp
end Go.Proofs.YtboapndkopabiaaGreat
