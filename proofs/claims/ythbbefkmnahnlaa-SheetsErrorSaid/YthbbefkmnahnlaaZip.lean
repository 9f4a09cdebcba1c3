/- sheets.zip: the iterator over two lists. No statement is proved here. -/
import Derived.Test.YthbbefkmnahnlaaReg
import Derived.Test.YthbbefkmnahnlaaCrit
namespace Go.Proofs.Ythbbefkmnahnlaa
open Go.RowKit Go.Shelf
attribute [local go_sem] Oper.semAt_some

abbrev Crit.val (c : Crit) : Value := .agg #[.string c.name, .int .i64 c.lo, .int .i64 c.hi, .int .i64 c.st, .int .i64 c.how, .int .i64 c.tr, .bool c.rev]

/-- One cell an element: the values us lie at B. -/
structure RowV (w : World) (M : List Nat) (B : Option Addr) (m : Nat) (us : List Value) : Prop where
  len : us.length = m
  at_ : ∀ (k : Nat) (u : Value), us[k]? = some u → ∃ b o, B = some ⟨b, o, none⟩ ∧ b ∉ M ∧ w.cell? ⟨b, o + k, none⟩ = some u
theorem RowV.keep {w w' : World} {M : List Nat} {B : Option Addr} {m : Nat} {us : List Value} (h : RowV w M B m us) (k : Keeps M w w') : RowV w' M B m us :=
  ⟨h.len, fun j u hu => by obtain ⟨b, o, h1, h2, h3⟩ := h.at_ j u hu; exact ⟨b, o, h1, h2, k.cell h2 h3⟩⟩

/-- A slice of one-cell values as a row of values. -/
theorem Sl.rowV {α : Type} [Rep α] (h1 : Rep.sz α = 1) {w : World} {M : List Nat} {B : Option Addr} {m d : Nat} {ys : List α} (h : Sl α w M B m d ys) :
    ∃ us : List Value, RowV w M B m us ∧ ∀ (k : Nat) (y : α), ys[k]? = some y → ∃ u, us[k]? = some u ∧ Rep.rd w M y [u] := by
  rcases h.at_ with g | ⟨b, o, rfl, g⟩
  · subst g
    have hl := h.len
    exact ⟨[], ⟨hl, fun k u hu => by simp at hu⟩, fun k y hy => by simp at hy⟩
  · have one : ∀ (k : Nat) (y : α), ys[k]? = some y → ∃ u, w.cell? ⟨b, o + k, none⟩ = some u ∧ b ∉ M ∧ Rep.rd w M y [u] := by
      intro k y hy
      obtain ⟨es, h2, h3⟩ := g k y hy
      have hl := Rep.len h2
      rw [h1] at hl h3
      match es, hl with
      | [u], _ => exact ⟨u, by have := h3.c0 rfl; rwa [Nat.mul_one] at this, h3.1, h2⟩
    refine ⟨(List.range m).map (fun k => (w.cell? ⟨b, o + k, none⟩).getD undef), ⟨by simp, ?_⟩, ?_⟩
    · intro k u hu
      have hk : k < m := by
        rcases Nat.lt_or_ge k m with h' | h'
        · exact h'
        · rw [List.getElem?_eq_none (by simpa using h')] at hu; cases hu
      have hky : k < ys.length := by rw [h.len]; exact hk
      obtain ⟨v, hv, hm, _⟩ := one k _ (List.getElem?_eq_getElem hky)
      refine ⟨b, o, rfl, hm, ?_⟩
      simp [hk, hv] at hu
      rw [hv, hu]
    · intro k y hy
      obtain ⟨v, hv, hm, hr⟩ := one k y hy
      have hk : k < m := by
        rw [← h.len]
        rcases Nat.lt_or_ge k ys.length with h' | h'
        · exact h'
        · rw [List.getElem?_eq_none h'] at hy; cases hy
      exact ⟨v, by simp [hk, hv], hr⟩

def zipV (xs : List Crit) (us : List Value) : List (Array Value) := List.zipWith (fun (c : Crit) (u : Value) => #[c.val, u]) xs us

theorem zipV_drop (xs : List Crit) (us : List Value) {k : Nat} (h1 : k < xs.length) (h2 : k < us.length) : (zipV xs us).drop k = #[(xs[k]).val, us[k]] :: (zipV xs us).drop (k + 1) := by
  have h : k < (zipV xs us).length := by simp [zipV]; omega
  rw [List.drop_eq_getElem_cons h]
  simp [zipV]

set_option maxHeartbeats 1000000 in
theorem zip1L_yields {w0 : World} {M : List Nat} {A B : Option Addr} {n c m d b1 b2 : Nat} {xs : List Crit} {us : List Value} (h1 : w0.cell? ⟨b1, 0, none⟩ = some (.slice A n c)) (m1 : b1 ∉ M)
    (h2 : w0.cell? ⟨b2, 0, none⟩ = some (.slice B m d)) (m2 : b2 ∉ M) (hx : Sl Crit w0 M A n c xs) (hu : RowV w0 M B m us) (hs : ∀ u, u ∈ us → ∃ A' n' c', u = .slice A' n' c') (hn : n ≤ 1000000) (hm : m ≤ 1000000) :
    Yields Wd Try.prog 28 #[.pointer (some ⟨b1, 0, none⟩), .pointer (some ⟨b2, 0, none⟩)] w0 M (zipV xs us) := by
  intro l J Jx Jp W hkW hJ hJx hJ0 hround
  have HX := Lib.hid hx
  have HU := Lib.hid hu
  have HS := Lib.hid hs
  have HR := Lib.hid hround
  have HJ0 := Lib.hid (hJ0 W.heap.size (Nat.le_refl _))
  have e1 := hkW.cell m1 h1
  have e2 := hkW.cell m2 h2
  clear hx hu hs hround hJ0 h1 h2
  rcases Nat.lt_or_ge m n with hmn | hmn
  · simp only [List.append_toArray, List.cons_append, List.nil_append]
    refine callsIn_of_wp Try.func28 rfl trivial ?_ rfl; simp only [Try.ntmps28, List.size_toArray, List.length_cons, List.length_nil, Nat.reduceAdd, Nat.reduceSub, Array.replicate_succ, Array.replicate_zero, List.push_toArray, List.append_toArray, List.nil_append, List.cons_append]
    gi_wp2
    gi_loopw [10] (fun i wr => ∃ k : Nat, k ≤ m ∧ i = .int .i64 k ∧ Hid (J W.heap.size ((zipV xs us).drop k) wr) ∧ Hid (KeepsTo W.heap.size M W wr)) (fun i _ => m - (intOf i).toNat)
    case atStart => exact ⟨0, by omega, rfl, HJ0.out, KeepsTo.refl _ _ _⟩
    case round =>
      obtain ⟨k, hk, rfl, hj, hkt⟩ := hrel
      by_cases hlt : k < m
      · have hlx : k < xs.length := by rw [HX.out.len]; omega
        have hlu : k < us.length := by rw [HU.out.len]; omega
        have hkw := hkW.andTo hkt.out hkW.size
        obtain ⟨b, o, s, lo, hi, st, how, tr, rv, rfl, hkx, hd, -, c0, c1, c2, c3, c4, c5, c6⟩ := (HX.out.keep hkw).critd (show k < n by omega)
        obtain ⟨b2', o2, rfl, -, cu⟩ := (HU.out.keep hkw).at_ k us[k] (List.getElem?_eq_getElem hlu)
        obtain ⟨A', n', c', hux⟩ := HS.out us[k] (List.getElem_mem hlu)
        have hxk : xs[k] = ⟨s, lo, hi, st, how, tr, rv⟩ := by rw [List.getElem?_eq_getElem hlx] at hkx; exact Option.some.inj hkx
        have hz := zipV_drop xs us hlx hlu
        rw [hux, hxk] at hz
        rw [hux] at cu
        have e1 := (hkt.out.cellTo (by have := World.block_lt_of_cell? W _ e1; exact this) m1 e1)
        have e2 := (hkt.out.cellTo (by have := World.block_lt_of_cell? W _ e2; exact this) m2 e2)
        have HZ := Lib.hid hz
        have HKW := Lib.hid hkw
        have hj2 := hj.out
        rw [hz] at hj2
        have hpre : ∃ pre, zipV xs us = pre ++ #[(⟨s, lo, hi, st, how, tr, rv⟩ : Crit).val, .slice A' n' c'] :: (zipV xs us).drop (k + 1) := ⟨(zipV xs us).take k, by rw [← hz, List.take_append_drop]⟩
        obtain ⟨fn, tmps, assign, body, hy, hR⟩ := HR.out W.heap.size _ _ wr.drew hpre (Nat.le_refl _) hkt.out.size (hkt.out.drew) ((hJ _ _).drew hj2)
        have HRR := Lib.hid hR
        clear hR hj2 hpre hz hkx hxk hux hd hkw
        dsimp only [Crit.val] at hy
        have d0 := stays_drew c0
        have d1 := stays_drew c1
        have d2 := stays_drew c2
        have d3 := stays_drew c3
        have d4 := stays_drew c4
        have d5 := stays_drew c5
        have d6 := stays_drew c6
        have d7 := stays_drew cu
        have f1 := stays_drew e1
        have hkn : k < n := by omega
        have hkm : k < m := by omega
        have f2 := stays_drew e2
        gi_wp2
        refine wpIn_region_tail [] 9 2 [0,1,2,3,4,5,6,7,8] (by kernel_rfl) (by kernel_rfl) rfl (fun d _ _ _ _ h => by cases d <;> exact h) ?_
        repeat (refine ord_step fun K hK => ?_; (first | (refine ordStep_read rfl rfl ?_ ?_; (focus (first | exact wanted_none rfl | (refine wanted_yes rfl ?_; (focus (simp [yielded]; done))))); apply Exists.intro; refine ⟨fun w' hk Z hZ => ?_, hK _ _ ?_⟩; (focus (simp only [execOp]; (repeat conv in Act.eval _ _ => whnf); (try go_simp); exact hZ))) | (refine ordStep_skip rfl rfl ?_ (hK _ _ ?_); (focus (first | (refine wanted_no rfl ?_; (focus (simp [yielded]; done))) | (refine wanted_un rfl ?_; (focus (simp [yielded]; done)))))) | (refine ordStep_callskip rfl rfl ?_ (fun _ => trivial) (hK _ _ ?_); (focus (first | (refine wanted_no rfl ?_; (focus (simp [yielded]; done))) | (refine wanted_un rfl ?_; (focus (simp [yielded]; done))))))); clear hK K; (try simp only [Act.put, List.setIfInBounds_toArray, List.set_cons_succ, List.set_cons_zero]))
        refine ord_nil ?_
        refine tail_step fun K hK => ?_; refine tailStep_op rfl ?_ (fun K' hK' => ?_); (focus (first | exact wanted_none rfl | (refine wanted_yes rfl ?_; (focus (simp [yielded]; done))))); gi_wp2
        refine HRR.out.mono ?_
        rintro e W3 (⟨rfl, hJ3, hk3⟩ | ⟨rfl, hx3⟩ | ⟨ch, rfl, hp3⟩)
        · refine hK' _ _ (hK _ _ ?_); clear hK' K' hK K; (try simp only [Act.put, List.setIfInBounds_toArray, List.set_cons_succ, List.set_cons_zero])
          refine tail_step fun K hK => ?_; refine tailStep_op rfl ?_ (fun K' hK' => ?_); (focus (first | exact wanted_none rfl | (refine wanted_yes rfl ?_; (focus (simp [yielded]; done))))); gi_wp2
          refine tail_nil _ ?_
          gi_wp2
          go_roundw
          case rel => exact ⟨k + 1, by omega, by go_num, hJ3, (hkt.out.drew).trans hk3⟩
          case measure => simp [intOf]; omega
        · refine hK' _ _ (hK _ _ ?_); clear hK' K' hK K; (try simp only [Act.put, List.setIfInBounds_toArray, List.set_cons_succ, List.set_cons_zero])
          refine tail_step fun K hK => ?_; refine tailStep_op rfl ?_ (fun K' hK' => ?_); (focus (first | exact wanted_none rfl | (refine wanted_yes rfl ?_; (focus (simp [yielded]; done))))); gi_wp2
          refine tail_nil _ ?_
          gi_wp2
          refine bodyPost_ret (results_none rfl _ _ _) rfl ?_
          exact .inl ⟨⟨_, rfl⟩, .inr hx3⟩
        · exact ⟨rfl, .inr ⟨ch, rfl, hp3⟩⟩
      · have hj2 := hj.out
        rw [List.drop_of_length_le (by simp only [zipV, List.length_zipWith, HX.out.len, HU.out.len]; omega)] at hj2
        have HJ2 := Lib.hid hj2
        clear hj2
        gi_wp2
        go_end0
        exact .inl ⟨⟨_, rfl⟩, .inl ⟨_, Nat.le_refl _, HJ2.out⟩⟩
  · have hmn' : ¬ m < n := by omega
    simp only [List.append_toArray, List.cons_append, List.nil_append]
    refine callsIn_of_wp Try.func28 rfl trivial ?_ rfl; simp only [Try.ntmps28, List.size_toArray, List.length_cons, List.length_nil, Nat.reduceAdd, Nat.reduceSub, Array.replicate_succ, Array.replicate_zero, List.push_toArray, List.append_toArray, List.nil_append, List.cons_append]
    gi_wp2
    gi_loopw [10] (fun i wr => ∃ k : Nat, k ≤ n ∧ i = .int .i64 k ∧ Hid (J W.heap.size ((zipV xs us).drop k) wr) ∧ Hid (KeepsTo W.heap.size M W wr)) (fun i _ => n - (intOf i).toNat)
    case atStart => exact ⟨0, by omega, rfl, HJ0.out, KeepsTo.refl _ _ _⟩
    case round =>
      obtain ⟨k, hk, rfl, hj, hkt⟩ := hrel
      by_cases hlt : k < n
      · have hlx : k < xs.length := by rw [HX.out.len]; omega
        have hlu : k < us.length := by rw [HU.out.len]; omega
        have hkw := hkW.andTo hkt.out hkW.size
        obtain ⟨b, o, s, lo, hi, st, how, tr, rv, rfl, hkx, hd, -, c0, c1, c2, c3, c4, c5, c6⟩ := (HX.out.keep hkw).critd (show k < n by omega)
        obtain ⟨b2', o2, rfl, -, cu⟩ := (HU.out.keep hkw).at_ k us[k] (List.getElem?_eq_getElem hlu)
        obtain ⟨A', n', c', hux⟩ := HS.out us[k] (List.getElem_mem hlu)
        have hxk : xs[k] = ⟨s, lo, hi, st, how, tr, rv⟩ := by rw [List.getElem?_eq_getElem hlx] at hkx; exact Option.some.inj hkx
        have hz := zipV_drop xs us hlx hlu
        rw [hux, hxk] at hz
        rw [hux] at cu
        have e1 := (hkt.out.cellTo (by have := World.block_lt_of_cell? W _ e1; exact this) m1 e1)
        have e2 := (hkt.out.cellTo (by have := World.block_lt_of_cell? W _ e2; exact this) m2 e2)
        have HZ := Lib.hid hz
        have HKW := Lib.hid hkw
        have hj2 := hj.out
        rw [hz] at hj2
        have hpre : ∃ pre, zipV xs us = pre ++ #[(⟨s, lo, hi, st, how, tr, rv⟩ : Crit).val, .slice A' n' c'] :: (zipV xs us).drop (k + 1) := ⟨(zipV xs us).take k, by rw [← hz, List.take_append_drop]⟩
        obtain ⟨fn, tmps, assign, body, hy, hR⟩ := HR.out W.heap.size _ _ wr.drew hpre (Nat.le_refl _) hkt.out.size (hkt.out.drew) ((hJ _ _).drew hj2)
        have HRR := Lib.hid hR
        clear hR hj2 hpre hz hkx hxk hux hd hkw
        dsimp only [Crit.val] at hy
        have d0 := stays_drew c0
        have d1 := stays_drew c1
        have d2 := stays_drew c2
        have d3 := stays_drew c3
        have d4 := stays_drew c4
        have d5 := stays_drew c5
        have d6 := stays_drew c6
        have d7 := stays_drew cu
        have f1 := stays_drew e1
        have hkn : k < n := by omega
        have hkm : k < m := by omega
        have f2 := stays_drew e2
        gi_wp2
        refine wpIn_region_tail [] 9 2 [0,1,2,3,4,5,6,7,8] (by kernel_rfl) (by kernel_rfl) rfl (fun d _ _ _ _ h => by cases d <;> exact h) ?_
        repeat (refine ord_step fun K hK => ?_; (first | (refine ordStep_read rfl rfl ?_ ?_; (focus (first | exact wanted_none rfl | (refine wanted_yes rfl ?_; (focus (simp [yielded]; done))))); apply Exists.intro; refine ⟨fun w' hk Z hZ => ?_, hK _ _ ?_⟩; (focus (simp only [execOp]; (repeat conv in Act.eval _ _ => whnf); (try go_simp); exact hZ))) | (refine ordStep_skip rfl rfl ?_ (hK _ _ ?_); (focus (first | (refine wanted_no rfl ?_; (focus (simp [yielded]; done))) | (refine wanted_un rfl ?_; (focus (simp [yielded]; done)))))) | (refine ordStep_callskip rfl rfl ?_ (fun _ => trivial) (hK _ _ ?_); (focus (first | (refine wanted_no rfl ?_; (focus (simp [yielded]; done))) | (refine wanted_un rfl ?_; (focus (simp [yielded]; done))))))); clear hK K; (try simp only [Act.put, List.setIfInBounds_toArray, List.set_cons_succ, List.set_cons_zero]))
        refine ord_nil ?_
        refine tail_step fun K hK => ?_; refine tailStep_op rfl ?_ (fun K' hK' => ?_); (focus (first | exact wanted_none rfl | (refine wanted_yes rfl ?_; (focus (simp [yielded]; done))))); gi_wp2
        refine HRR.out.mono ?_
        rintro e W3 (⟨rfl, hJ3, hk3⟩ | ⟨rfl, hx3⟩ | ⟨ch, rfl, hp3⟩)
        · refine hK' _ _ (hK _ _ ?_); clear hK' K' hK K; (try simp only [Act.put, List.setIfInBounds_toArray, List.set_cons_succ, List.set_cons_zero])
          refine tail_step fun K hK => ?_; refine tailStep_op rfl ?_ (fun K' hK' => ?_); (focus (first | exact wanted_none rfl | (refine wanted_yes rfl ?_; (focus (simp [yielded]; done))))); gi_wp2
          refine tail_nil _ ?_
          gi_wp2
          go_roundw
          case rel => exact ⟨k + 1, by omega, by go_num, hJ3, (hkt.out.drew).trans hk3⟩
          case measure => simp [intOf]; omega
        · refine hK' _ _ (hK _ _ ?_); clear hK' K' hK K; (try simp only [Act.put, List.setIfInBounds_toArray, List.set_cons_succ, List.set_cons_zero])
          refine tail_step fun K hK => ?_; refine tailStep_op rfl ?_ (fun K' hK' => ?_); (focus (first | exact wanted_none rfl | (refine wanted_yes rfl ?_; (focus (simp [yielded]; done))))); gi_wp2
          refine tail_nil _ ?_
          gi_wp2
          refine bodyPost_ret (results_none rfl _ _ _) rfl ?_
          exact .inl ⟨⟨_, rfl⟩, .inr hx3⟩
        · exact ⟨rfl, .inr ⟨ch, rfl, hp3⟩⟩
      · have hj2 := hj.out
        rw [List.drop_of_length_le (by simp only [zipV, List.length_zipWith, HX.out.len, HU.out.len]; omega)] at hj2
        have HJ2 := Lib.hid hj2
        clear hj2
        gi_wp2
        go_end0
        exact .inl ⟨⟨_, rfl⟩, .inl ⟨_, Nat.le_refl _, HJ2.out⟩⟩

set_option maxHeartbeats 1000000 in
theorem zip1I_yields {w0 : World} {M : List Nat} {A B : Option Addr} {n c m d b1 b2 : Nat} {xs : List Crit} {us : List Value} (h1 : w0.cell? ⟨b1, 0, none⟩ = some (.slice A n c)) (m1 : b1 ∉ M)
    (h2 : w0.cell? ⟨b2, 0, none⟩ = some (.slice B m d)) (m2 : b2 ∉ M) (hx : Sl Crit w0 M A n c xs) (hu : RowV w0 M B m us) (hs : ∀ u, u ∈ us → ∃ y', u = .int .i64 y') (hn : n ≤ 1000000) (hm : m ≤ 1000000) :
    Yields Wd Try.prog 29 #[.pointer (some ⟨b1, 0, none⟩), .pointer (some ⟨b2, 0, none⟩)] w0 M (zipV xs us) := by
  intro l J Jx Jp W hkW hJ hJx hJ0 hround
  have HX := Lib.hid hx
  have HU := Lib.hid hu
  have HS := Lib.hid hs
  have HR := Lib.hid hround
  have HJ0 := Lib.hid (hJ0 W.heap.size (Nat.le_refl _))
  have e1 := hkW.cell m1 h1
  have e2 := hkW.cell m2 h2
  clear hx hu hs hround hJ0 h1 h2
  rcases Nat.lt_or_ge m n with hmn | hmn
  · simp only [List.append_toArray, List.cons_append, List.nil_append]
    refine callsIn_of_wp Try.func29 rfl trivial ?_ rfl; simp only [Try.ntmps29, List.size_toArray, List.length_cons, List.length_nil, Nat.reduceAdd, Nat.reduceSub, Array.replicate_succ, Array.replicate_zero, List.push_toArray, List.append_toArray, List.nil_append, List.cons_append]
    gi_wp2
    gi_loopw [10] (fun i wr => ∃ k : Nat, k ≤ m ∧ i = .int .i64 k ∧ Hid (J W.heap.size ((zipV xs us).drop k) wr) ∧ Hid (KeepsTo W.heap.size M W wr)) (fun i _ => m - (intOf i).toNat)
    case atStart => exact ⟨0, by omega, rfl, HJ0.out, KeepsTo.refl _ _ _⟩
    case round =>
      obtain ⟨k, hk, rfl, hj, hkt⟩ := hrel
      by_cases hlt : k < m
      · have hlx : k < xs.length := by rw [HX.out.len]; omega
        have hlu : k < us.length := by rw [HU.out.len]; omega
        have hkw := hkW.andTo hkt.out hkW.size
        obtain ⟨b, o, s, lo, hi, st, how, tr, rv, rfl, hkx, hd, -, c0, c1, c2, c3, c4, c5, c6⟩ := (HX.out.keep hkw).critd (show k < n by omega)
        obtain ⟨b2', o2, rfl, -, cu⟩ := (HU.out.keep hkw).at_ k us[k] (List.getElem?_eq_getElem hlu)
        obtain ⟨y', hux⟩ := HS.out us[k] (List.getElem_mem hlu)
        have hxk : xs[k] = ⟨s, lo, hi, st, how, tr, rv⟩ := by rw [List.getElem?_eq_getElem hlx] at hkx; exact Option.some.inj hkx
        have hz := zipV_drop xs us hlx hlu
        rw [hux, hxk] at hz
        rw [hux] at cu
        have e1 := (hkt.out.cellTo (by have := World.block_lt_of_cell? W _ e1; exact this) m1 e1)
        have e2 := (hkt.out.cellTo (by have := World.block_lt_of_cell? W _ e2; exact this) m2 e2)
        have HZ := Lib.hid hz
        have HKW := Lib.hid hkw
        have hj2 := hj.out
        rw [hz] at hj2
        have hpre : ∃ pre, zipV xs us = pre ++ #[(⟨s, lo, hi, st, how, tr, rv⟩ : Crit).val, .int .i64 y'] :: (zipV xs us).drop (k + 1) := ⟨(zipV xs us).take k, by rw [← hz, List.take_append_drop]⟩
        obtain ⟨fn, tmps, assign, body, hy, hR⟩ := HR.out W.heap.size _ _ wr.drew hpre (Nat.le_refl _) hkt.out.size (hkt.out.drew) ((hJ _ _).drew hj2)
        have HRR := Lib.hid hR
        clear hR hj2 hpre hz hkx hxk hux hd hkw
        dsimp only [Crit.val] at hy
        have d0 := stays_drew c0
        have d1 := stays_drew c1
        have d2 := stays_drew c2
        have d3 := stays_drew c3
        have d4 := stays_drew c4
        have d5 := stays_drew c5
        have d6 := stays_drew c6
        have d7 := stays_drew cu
        have f1 := stays_drew e1
        have hkn : k < n := by omega
        have hkm : k < m := by omega
        have f2 := stays_drew e2
        gi_wp2
        refine wpIn_region_tail [] 9 2 [0,1,2,3,4,5,6,7,8] (by kernel_rfl) (by kernel_rfl) rfl (fun d _ _ _ _ h => by cases d <;> exact h) ?_
        repeat (refine ord_step fun K hK => ?_; (first | (refine ordStep_read rfl rfl ?_ ?_; (focus (first | exact wanted_none rfl | (refine wanted_yes rfl ?_; (focus (simp [yielded]; done))))); apply Exists.intro; refine ⟨fun w' hk Z hZ => ?_, hK _ _ ?_⟩; (focus (simp only [execOp]; (repeat conv in Act.eval _ _ => whnf); (try go_simp); exact hZ))) | (refine ordStep_skip rfl rfl ?_ (hK _ _ ?_); (focus (first | (refine wanted_no rfl ?_; (focus (simp [yielded]; done))) | (refine wanted_un rfl ?_; (focus (simp [yielded]; done)))))) | (refine ordStep_callskip rfl rfl ?_ (fun _ => trivial) (hK _ _ ?_); (focus (first | (refine wanted_no rfl ?_; (focus (simp [yielded]; done))) | (refine wanted_un rfl ?_; (focus (simp [yielded]; done))))))); clear hK K; (try simp only [Act.put, List.setIfInBounds_toArray, List.set_cons_succ, List.set_cons_zero]))
        refine ord_nil ?_
        refine tail_step fun K hK => ?_; refine tailStep_op rfl ?_ (fun K' hK' => ?_); (focus (first | exact wanted_none rfl | (refine wanted_yes rfl ?_; (focus (simp [yielded]; done))))); gi_wp2
        refine HRR.out.mono ?_
        rintro e W3 (⟨rfl, hJ3, hk3⟩ | ⟨rfl, hx3⟩ | ⟨ch, rfl, hp3⟩)
        · refine hK' _ _ (hK _ _ ?_); clear hK' K' hK K; (try simp only [Act.put, List.setIfInBounds_toArray, List.set_cons_succ, List.set_cons_zero])
          refine tail_step fun K hK => ?_; refine tailStep_op rfl ?_ (fun K' hK' => ?_); (focus (first | exact wanted_none rfl | (refine wanted_yes rfl ?_; (focus (simp [yielded]; done))))); gi_wp2
          refine tail_nil _ ?_
          gi_wp2
          go_roundw
          case rel => exact ⟨k + 1, by omega, by go_num, hJ3, (hkt.out.drew).trans hk3⟩
          case measure => simp [intOf]; omega
        · refine hK' _ _ (hK _ _ ?_); clear hK' K' hK K; (try simp only [Act.put, List.setIfInBounds_toArray, List.set_cons_succ, List.set_cons_zero])
          refine tail_step fun K hK => ?_; refine tailStep_op rfl ?_ (fun K' hK' => ?_); (focus (first | exact wanted_none rfl | (refine wanted_yes rfl ?_; (focus (simp [yielded]; done))))); gi_wp2
          refine tail_nil _ ?_
          gi_wp2
          refine bodyPost_ret (results_none rfl _ _ _) rfl ?_
          exact .inl ⟨⟨_, rfl⟩, .inr hx3⟩
        · exact ⟨rfl, .inr ⟨ch, rfl, hp3⟩⟩
      · have hj2 := hj.out
        rw [List.drop_of_length_le (by simp only [zipV, List.length_zipWith, HX.out.len, HU.out.len]; omega)] at hj2
        have HJ2 := Lib.hid hj2
        clear hj2
        gi_wp2
        go_end0
        exact .inl ⟨⟨_, rfl⟩, .inl ⟨_, Nat.le_refl _, HJ2.out⟩⟩
  · have hmn' : ¬ m < n := by omega
    simp only [List.append_toArray, List.cons_append, List.nil_append]
    refine callsIn_of_wp Try.func29 rfl trivial ?_ rfl; simp only [Try.ntmps29, List.size_toArray, List.length_cons, List.length_nil, Nat.reduceAdd, Nat.reduceSub, Array.replicate_succ, Array.replicate_zero, List.push_toArray, List.append_toArray, List.nil_append, List.cons_append]
    gi_wp2
    gi_loopw [10] (fun i wr => ∃ k : Nat, k ≤ n ∧ i = .int .i64 k ∧ Hid (J W.heap.size ((zipV xs us).drop k) wr) ∧ Hid (KeepsTo W.heap.size M W wr)) (fun i _ => n - (intOf i).toNat)
    case atStart => exact ⟨0, by omega, rfl, HJ0.out, KeepsTo.refl _ _ _⟩
    case round =>
      obtain ⟨k, hk, rfl, hj, hkt⟩ := hrel
      by_cases hlt : k < n
      · have hlx : k < xs.length := by rw [HX.out.len]; omega
        have hlu : k < us.length := by rw [HU.out.len]; omega
        have hkw := hkW.andTo hkt.out hkW.size
        obtain ⟨b, o, s, lo, hi, st, how, tr, rv, rfl, hkx, hd, -, c0, c1, c2, c3, c4, c5, c6⟩ := (HX.out.keep hkw).critd (show k < n by omega)
        obtain ⟨b2', o2, rfl, -, cu⟩ := (HU.out.keep hkw).at_ k us[k] (List.getElem?_eq_getElem hlu)
        obtain ⟨y', hux⟩ := HS.out us[k] (List.getElem_mem hlu)
        have hxk : xs[k] = ⟨s, lo, hi, st, how, tr, rv⟩ := by rw [List.getElem?_eq_getElem hlx] at hkx; exact Option.some.inj hkx
        have hz := zipV_drop xs us hlx hlu
        rw [hux, hxk] at hz
        rw [hux] at cu
        have e1 := (hkt.out.cellTo (by have := World.block_lt_of_cell? W _ e1; exact this) m1 e1)
        have e2 := (hkt.out.cellTo (by have := World.block_lt_of_cell? W _ e2; exact this) m2 e2)
        have HZ := Lib.hid hz
        have HKW := Lib.hid hkw
        have hj2 := hj.out
        rw [hz] at hj2
        have hpre : ∃ pre, zipV xs us = pre ++ #[(⟨s, lo, hi, st, how, tr, rv⟩ : Crit).val, .int .i64 y'] :: (zipV xs us).drop (k + 1) := ⟨(zipV xs us).take k, by rw [← hz, List.take_append_drop]⟩
        obtain ⟨fn, tmps, assign, body, hy, hR⟩ := HR.out W.heap.size _ _ wr.drew hpre (Nat.le_refl _) hkt.out.size (hkt.out.drew) ((hJ _ _).drew hj2)
        have HRR := Lib.hid hR
        clear hR hj2 hpre hz hkx hxk hux hd hkw
        dsimp only [Crit.val] at hy
        have d0 := stays_drew c0
        have d1 := stays_drew c1
        have d2 := stays_drew c2
        have d3 := stays_drew c3
        have d4 := stays_drew c4
        have d5 := stays_drew c5
        have d6 := stays_drew c6
        have d7 := stays_drew cu
        have f1 := stays_drew e1
        have hkn : k < n := by omega
        have hkm : k < m := by omega
        have f2 := stays_drew e2
        gi_wp2
        refine wpIn_region_tail [] 9 2 [0,1,2,3,4,5,6,7,8] (by kernel_rfl) (by kernel_rfl) rfl (fun d _ _ _ _ h => by cases d <;> exact h) ?_
        repeat (refine ord_step fun K hK => ?_; (first | (refine ordStep_read rfl rfl ?_ ?_; (focus (first | exact wanted_none rfl | (refine wanted_yes rfl ?_; (focus (simp [yielded]; done))))); apply Exists.intro; refine ⟨fun w' hk Z hZ => ?_, hK _ _ ?_⟩; (focus (simp only [execOp]; (repeat conv in Act.eval _ _ => whnf); (try go_simp); exact hZ))) | (refine ordStep_skip rfl rfl ?_ (hK _ _ ?_); (focus (first | (refine wanted_no rfl ?_; (focus (simp [yielded]; done))) | (refine wanted_un rfl ?_; (focus (simp [yielded]; done)))))) | (refine ordStep_callskip rfl rfl ?_ (fun _ => trivial) (hK _ _ ?_); (focus (first | (refine wanted_no rfl ?_; (focus (simp [yielded]; done))) | (refine wanted_un rfl ?_; (focus (simp [yielded]; done))))))); clear hK K; (try simp only [Act.put, List.setIfInBounds_toArray, List.set_cons_succ, List.set_cons_zero]))
        refine ord_nil ?_
        refine tail_step fun K hK => ?_; refine tailStep_op rfl ?_ (fun K' hK' => ?_); (focus (first | exact wanted_none rfl | (refine wanted_yes rfl ?_; (focus (simp [yielded]; done))))); gi_wp2
        refine HRR.out.mono ?_
        rintro e W3 (⟨rfl, hJ3, hk3⟩ | ⟨rfl, hx3⟩ | ⟨ch, rfl, hp3⟩)
        · refine hK' _ _ (hK _ _ ?_); clear hK' K' hK K; (try simp only [Act.put, List.setIfInBounds_toArray, List.set_cons_succ, List.set_cons_zero])
          refine tail_step fun K hK => ?_; refine tailStep_op rfl ?_ (fun K' hK' => ?_); (focus (first | exact wanted_none rfl | (refine wanted_yes rfl ?_; (focus (simp [yielded]; done))))); gi_wp2
          refine tail_nil _ ?_
          gi_wp2
          go_roundw
          case rel => exact ⟨k + 1, by omega, by go_num, hJ3, (hkt.out.drew).trans hk3⟩
          case measure => simp [intOf]; omega
        · refine hK' _ _ (hK _ _ ?_); clear hK' K' hK K; (try simp only [Act.put, List.setIfInBounds_toArray, List.set_cons_succ, List.set_cons_zero])
          refine tail_step fun K hK => ?_; refine tailStep_op rfl ?_ (fun K' hK' => ?_); (focus (first | exact wanted_none rfl | (refine wanted_yes rfl ?_; (focus (simp [yielded]; done))))); gi_wp2
          refine tail_nil _ ?_
          gi_wp2
          refine bodyPost_ret (results_none rfl _ _ _) rfl ?_
          exact .inl ⟨⟨_, rfl⟩, .inr hx3⟩
        · exact ⟨rfl, .inr ⟨ch, rfl, hp3⟩⟩
      · have hj2 := hj.out
        rw [List.drop_of_length_le (by simp only [zipV, List.length_zipWith, HX.out.len, HU.out.len]; omega)] at hj2
        have HJ2 := Lib.hid hj2
        clear hj2
        gi_wp2
        go_end0
        exact .inl ⟨⟨_, rfl⟩, .inl ⟨_, Nat.le_refl _, HJ2.out⟩⟩

set_option maxHeartbeats 400000 in
theorem zipL_any (A B : Option Addr) (n c m d : Nat) (w : World) :
    Calls Try.prog 21 #[.slice A n c, .slice B m d] w fun e w' =>
      e = .returned (.func (.func 28) #[] #[.pointer (some ⟨w.heap.size, 0, none⟩), .pointer (some ⟨w.heap.size + 1, 0, none⟩)]) ∧
      (w.alloc (.cells #[.slice A n c] 22)).alloc (.cells #[.slice B m d] 26) = w' := by
  go_enter Try.func21, Try.ntmps21
  go_wp2
  go_ret
  exact ⟨rfl, rfl⟩

set_option maxHeartbeats 400000 in
theorem zipI_any (A B : Option Addr) (n c m d : Nat) (w : World) :
    Calls Try.prog 23 #[.slice A n c, .slice B m d] w fun e w' =>
      e = .returned (.func (.func 29) #[] #[.pointer (some ⟨w.heap.size, 0, none⟩), .pointer (some ⟨w.heap.size + 1, 0, none⟩)]) ∧
      (w.alloc (.cells #[.slice A n c] 22)).alloc (.cells #[.slice B m d] 23) = w' := by
  go_enter Try.func23, Try.ntmps23
  go_wp2
  go_ret
  exact ⟨rfl, rfl⟩
end Go.Proofs.Ythbbefkmnahnlaa
