/- Lemmas and walks (San1 San2). No statement is proved here. -/
import Derived.Test.YtboapndkopabiaaGreatM38
set_option linter.unusedVariables false
set_option linter.unusedSimpArgs false
namespace Go.Proofs.YtboapndkopabiaaGreat
section
open Go.RowKit Go.Shelf
def putAll : List Nat → (Nat → Value) → Act → Act
 | [], _, a => a
 | d :: ds, f, a => putAll ds f (a.put (some d) (f d))
theorem region_merge {F : Fence} {n : Nat} {P : Program} {Q : Exit → Act → World → Prop} {c : Code} {a : Act} {w : World} (ds : List Nat) (R : (Nat → Value) → World → Prop)
 (h1 : c.wpIn F n P (fun e a' w' => e = .normal ∧ ∃ f, a' = putAll ds f a ∧ R f w') a w) (h2 : ∀ f w', R f w' → Q .normal (putAll ds f a) w') : c.wpIn F n P Q a w :=
 wpIn_mono h1 (by rintro e a' w' ⟨rfl, f, rfl, hR⟩; exact h2 f w' hR)
theorem merge_leaf {A a : Act} {ds : List Nat} {R : (Nat → Value) → World → Prop} {w' : World} (hA : A = putAll ds (fun d => A.tmps.toList.getD d undef) a) (hR : R (fun d => A.tmps.toList.getD d undef) w') : ∃ f, A = putAll ds f a ∧ R f w' := ⟨_, hA, hR⟩
def iF : InsR := (2, 0, 0, 0, 0, zeroQ)
def iS : InsR := (2, 1, 0, 0, 0, zeroQ)
def iSel : InsR := (8, 0, 1, 0, 1, zeroQ)
def iMul : InsR := (5, 0, 0, 0, 0, encQ (I1 (-2)))
def iSub : InsR := (4, 0, 0, 0, 0, zeroQ)
def iAdd : InsR := (3, 0, 1, 0, 0, zeroQ)
theorem one_ok (x : Int) (hx : x.natAbs < 1000) : (I1 x).ok := ⟨show (0 : Int) < 1 by decide, by simp [I1], fits_of (k := 1) (Nat.lt_of_lt_of_le hx (by decide)) (by omega), fits_of (k := 1) (show (1 : Int).natAbs < BB ^ 1 by decide) (by omega)⟩
theorem mul_one1 (a b : Int) : mulQ (I1 a) (I1 b) = I1 (a * b) := by show lowM (a * b) (1 * 1) = _; rw [Int.one_mul, low_one]
theorem add_one1 (a b : Int) : addQ (I1 a) (I1 b) = I1 (a + b) := by show lowM (a * 1 + b * 1) (1 * 1) = _; rw [Int.one_mul, Int.mul_one, Int.mul_one, low_one]
theorem sub_one1 (a b : Int) : subQ (I1 a) (I1 b) = I1 (a - b) := by show lowM (a * 1 - b * 1) (1 * 1) = _; rw [Int.one_mul, Int.mul_one, Int.mul_one, low_one]
theorem cmp_one1 (a b : Int) : cmpQ (I1 a) (I1 b) = if a < b then -1 else if b < a then 1 else 0 := by show (if a * 1 < b * 1 then (-1 : Int) else if b * 1 < a * 1 then 1 else 0) = _; rw [Int.mul_one, Int.mul_one]
theorem zz : zeroR zeroQ = true := by decide
theorem ok2 : ratOk (encQ (I1 (-2))) = true := ratOk_enc (one_ok _ (by decide))
theorem codes : codeE [iF] 1 = 0 ∧ codeE [iF, iMul] 1 = 0 ∧ codeE [iF, iS, iSel] 2 = 0 ∧ codeE [iF, iSub] 1 = 0 ∧ codeE [iF, iS, iAdd] 2 = 0 := by
 refine ⟨?_, ?_, ?_, ?_, ?_⟩ <;> simp [codeE, rightsI, rightI, iF, iS, iSel, iMul, iSub, iAdd, zz, ok2, belowB]
theorem rng_ok (a b : Int) (ha : a.natAbs < 1000) (hb : b.natAbs < 1000) : rngOk (encG (I1 a, I1 b)) = true := by
 unfold rngOk encG
 rw [ratOk_enc (one_ok a ha), ratOk_enc (one_ok b hb)]
 rfl
theorem und (a b : Int) : under (encG (I1 a, I1 b)) = decide (b < a) := by
 rw [under_enc]
 unfold underG
 rw [cmp_one1]
 by_cases h : b < a
 · simp [h]
 · by_cases h2 : a < b <;> simp [h, h2]
theorem out1 : outE [] [] = 190 := by decide
theorem out2 : outE [iF] [encG (I1 3, I1 1)] = 200 := by
 unfold outE
 simp [codes.1, rng_ok, und]
theorem out3 : outE [iF] [zeroG] = 100 := by
 have h0 : rngOk zeroG = false := by decide +kernel
 unfold outE
 simp [codes.1, h0]
theorem out4 : outE [iF, iMul] [encG (I1 1, I1 3)] = 0 := by
 unfold outE
 simp [codes.2.1, rng_ok, und]
theorem out5 : outE [iF, iS, iSel] [encG (I1 0, I1 5), encG (I1 3, I1 4)] = 0 := by
 unfold outE
 simp [codes.2.2.1, rng_ok, und]
theorem out6 : outE [iF, iS, iSel] [encG (I1 0, I1 2), encG (I1 3, I1 4)] = 0 := by
 unfold outE
 simp [codes.2.2.1, rng_ok, und]
theorem out7 : outE [iF, iSub] [encG (I1 1, I1 3)] = 0 := by
 unfold outE
 simp [codes.2.2.2.1, rng_ok, und]
theorem out4v : outV [iF, iMul] [encG (I1 1, I1 3)] = encG (I1 (-6), I1 (-2)) := by
 unfold outV
 rw [out4, if_pos rfl]
 simp [outG, runsG, stepG, iF, iMul, regG, decG_enc, decQ_enc, mulG, mul_one1]
theorem out5v : outV [iF, iS, iSel] [encG (I1 0, I1 5), encG (I1 3, I1 4)] = encG (I1 0, I1 5) := by
 unfold outV
 rw [out5, if_pos rfl]
 simp [outG, runsG, stepG, iF, iS, iSel, regG, decG_enc, selG, cmp_one1, minT, maxT]
theorem out6v : outV [iF, iS, iSel] [encG (I1 0, I1 2), encG (I1 3, I1 4)] = encG (I1 0, I1 2) := by
 unfold outV
 rw [out6, if_pos rfl]
 simp [outG, runsG, stepG, iF, iS, iSel, regG, decG_enc, selG, cmp_one1, minT, maxT]
theorem out7v : outV [iF, iSub] [encG (I1 1, I1 3)] = encG (I1 (-2), I1 2) := by
 unfold outV
 rw [out7, if_pos rfl]
 simp [outG, runsG, stepG, iF, iSub, regG, decG_enc, subG, sub_one1]
theorem all_one (l : List Int) (h : ∀ x, x ∈ l → x.natAbs < 1000) : (l.map fun x => encQ (I1 x)).all ratOk = true := by
 rw [List.all_eq_true]
 intro y hy
 obtain ⟨x, hx, rfl⟩ := List.mem_map.1 hy
 exact ratOk_enc (one_ok x (h x hx))
abbrev sumP : List InsR := [iF, iS, iAdd]
abbrev in04 : List RatR := [encQ (I1 0), encQ (I1 4)]
abbrev v138 : List RatR := [encQ (I1 1), encQ (I1 3), encQ (I1 8)]
theorem need_e (t : Int) (vs : List Int) (at_ : Int) (hv : ∀ x, x ∈ vs → x.natAbs < 1000) (ht : t.natAbs < 1000) : needE sumP in04 at_ (vs.map fun x => encQ (I1 x)) (encQ (I1 t)) = if 0 ≤ at_ ∧ at_ < 2 then (if ascends (vs.map I1) then 0 else 200) else 1 := by
 unfold needE
 have h1 : in04.all ratOk = true := all_one [0, 4] (by simp)
 rw [h1, all_one vs hv, ratOk_enc (one_ok t ht)]
 have e : (vs.map fun x => encQ (I1 x)).map decQ = vs.map I1 := by
  rw [List.map_map]
  exact List.map_congr_left fun x _ => decQ_enc _
 rw [e]
 simp [codes.2.2.2.2]
theorem res_sum (v : Int) : resQ sumP [I1 v, I1 4] = I1 (v + 4) := by
 simp [resQ, runsQ, stepQ, iF, iS, iAdd, regQ, add_one1]
theorem need1 : needE sumP in04 0 v138 (encQ (I1 7)) = 0 ∧ needV sumP in04 0 v138 (encQ (I1 7)) = (1, true) := by
 have h := need_e 7 [1, 3, 8] 0 (by simp) (by decide)
 have e : needE sumP in04 0 v138 (encQ (I1 7)) = 0 := by
  refine h.trans ?_
  simp [ascends, cmp_one1]
 refine ⟨e, ?_⟩
 unfold needV
 rw [e, if_pos rfl]
 simp [firstK, enough, decQ_enc, res_sum, cmp_one1]
theorem need2 : needE sumP in04 0 v138 (encQ (I1 13)) = 0 ∧ needV sumP in04 0 v138 (encQ (I1 13)) = (0, false) := by
 have h := need_e 13 [1, 3, 8] 0 (by simp) (by decide)
 have e : needE sumP in04 0 v138 (encQ (I1 13)) = 0 := by
  refine h.trans ?_
  simp [ascends, cmp_one1]
 refine ⟨e, ?_⟩
 unfold needV
 rw [e, if_pos rfl]
 simp [firstK, enough, decQ_enc, res_sum, cmp_one1]
theorem need3 : needE sumP in04 2 v138 (encQ (I1 13)) = 1 := by
 refine (need_e 13 [1, 3, 8] 2 (by simp) (by decide)).trans ?_
 simp
theorem need4 : needE sumP in04 0 [encQ (I1 1), encQ (I1 1)] (encQ (I1 13)) = 200 := by
 refine (need_e 13 [1, 1] 0 (by simp) (by decide)).trans ?_
 simp [ascends, cmp_one1]
end
section
open Go.RowKit Go.Shelf
section
variable {α : Type} [Rep1 α] {w : World} {M : List Nat}
theorem lit1 (hM : Bel M w) (e : TypeId) {x : α} {cs : List Value} (h : Rep.rd w M x cs) : Sl α (w.alloc (.cells cs.toArray e)) M (some ⟨w.heap.size, 0, none⟩) 1 1 [x] :=
 Sl.lit hM e (cs := cs) rfl (by omega) fun k y hk => by
  match k, hk with
  | 0, hk => cases hk; exact ⟨cs, h, fun j u hu => by simpa using hu⟩
theorem lit2 (hM : Bel M w) (e : TypeId) {x y : α} {cs ds : List Value} (h : Rep.rd w M x cs) (h2 : Rep.rd w M y ds) : Sl α (w.alloc (.cells (cs ++ ds).toArray e)) M (some ⟨w.heap.size, 0, none⟩) 2 2 [x, y] :=
 Sl.lit hM e (cs := cs ++ ds) rfl (by omega) fun k z hk => by
  have l1 := Rep.len h
  match k, hk with
  | 0, hk => cases hk; exact ⟨cs, h, fun j u hu => by rw [Nat.zero_mul, Nat.zero_add, List.getElem?_append_left (List.getElem?_eq_some_iff.1 hu).1]; exact hu⟩
  | 1, hk => cases hk; exact ⟨ds, h2, fun j u hu => by rw [Nat.one_mul, ← l1, List.getElem?_append_right (by omega), Nat.add_sub_cancel_left]; exact hu⟩
theorem lit3 (hM : Bel M w) (e : TypeId) {x y z : α} {cs ds es : List Value} (h : Rep.rd w M x cs) (h2 : Rep.rd w M y ds) (h3 : Rep.rd w M z es) : Sl α (w.alloc (.cells (cs ++ ds ++ es).toArray e)) M (some ⟨w.heap.size, 0, none⟩) 3 3 [x, y, z] :=
 Sl.lit hM e (cs := cs ++ ds ++ es) rfl (by omega) fun k v hk => by
  have l1 := Rep.len h; have l2 := Rep.len h2
  match k, hk with
  | 0, hk =>
    cases hk; refine ⟨cs, h, fun j u hu => ?_⟩; have := (List.getElem?_eq_some_iff.1 hu).1; rw [Nat.zero_mul, Nat.zero_add, List.getElem?_append_left (by rw [List.length_append]; omega), List.getElem?_append_left this]; exact hu
  | 1, hk =>
    cases hk; refine ⟨ds, h2, fun j u hu => ?_⟩; have := (List.getElem?_eq_some_iff.1 hu).1; rw [Nat.one_mul, ← l1, List.getElem?_append_left (by rw [List.length_append]; omega), List.getElem?_append_right (by omega), Nat.add_sub_cancel_left]; exact hu
  | 2, hk =>
    cases hk; refine ⟨es, h3, fun j u hu => ?_⟩; rw [List.getElem?_append_right (by rw [List.length_append]; omega), List.length_append, show 2 * Rep.sz α + j - (cs.length + ds.length) = j by omega]; exact hu
end
section
variable {w : World} {M : List Nat}
abbrev insC (op a b c d : Int) : List Value := [.int .i64 op, .int .i64 a, .int .i64 b, .int .i64 c, .int .i64 d, .bool false, .slice none 0 0, .bool false, .slice none 0 0]
theorem rd_ins0 {op a b c d : Int} (h : i64 op ∧ i64 a ∧ i64 b ∧ i64 c ∧ i64 d) : Rep.rd w M ((op, a, b, c, d, zeroQ) : InsR) (insC op a b c d) := ins_rd (r := zeroQ) h Sl.nil0 Sl.nil0
theorem rd_iF : Rep.rd w M iF (insC 2 0 0 0 0) := rd_ins0 (by unfold i64; omega)
theorem rd_iS : Rep.rd w M iS (insC 2 1 0 0 0) := rd_ins0 (by unfold i64; omega)
theorem rd_iSel : Rep.rd w M iSel (insC 8 0 1 0 1) := rd_ins0 (by unfold i64; omega)
theorem rd_iSub : Rep.rd w M iSub (insC 4 0 0 0 0) := rd_ins0 (by unfold i64; omega)
theorem rd_iAdd : Rep.rd w M iAdd (insC 3 0 1 0 0) := rd_ins0 (by unfold i64; omega)
theorem rd_iMul {p q : Bool} {A B : Option Addr} {n c m d : Nat} (h : QC w M (I1 (-2)) p q A n c B m d) : Rep.rd w M iMul [.int .i64 5, .int .i64 0, .int .i64 0, .int .i64 0, .int .i64 0, .bool p, .slice A n c, .bool q, .slice B m d] := by
 have e1 : (encQ (I1 (-2))).1.1 = p := h.num.neg
 have e2 : (encQ (I1 (-2))).2.1 = q := h.den.neg
 rw [← e1, ← e2]
 exact ins_rd (r := encQ (I1 (-2))) (by unfold i64; omega) h.num.sl h.den.sl
theorem QC.rd {x : Rt} {p q : Bool} {A B : Option Addr} {n c m d : Nat} (h : QC w M x p q A n c B m d) : Rep.rd w M (encQ x) [.bool p, .slice A n c, .bool q, .slice B m d] := by
 have e1 : (encQ x).1.1 = p := h.num.neg
 have e2 : (encQ x).2.1 = q := h.den.neg
 rw [← e1, ← e2]
 exact rat_rd (x := encQ x) h.num.sl h.den.sl
theorem QC.xc {x : Rt} {p q : Bool} {A B : Option Addr} {n c m d : Nat} (h : QC w M x p q A n c B m d) : XC w M (encQ x) p q A n c B m d := ⟨h.num.neg, h.den.neg, h.num.sl, h.den.sl⟩
theorem rd_G {x : Rg} {p1 q1 p2 q2 : Bool} {A1 B1 A2 B2 : Option Addr} {n1 c1 m1 d1 n2 c2 m2 d2 : Nat} (lo : QC w M x.1 p1 q1 A1 n1 c1 B1 m1 d1) (hi : QC w M x.2 p2 q2 A2 n2 c2 B2 m2 d2) : Rep.rd w M (encG x) [.bool p1, .slice A1 n1 c1, .bool q1, .slice B1 m1 d1, .bool p2, .slice A2 n2 c2, .bool q2, .slice B2 m2 d2] := by
 have e1 : (encG x).1.1.1 = p1 := lo.num.neg
 have e2 : (encG x).1.2.1 = q1 := lo.den.neg
 have e3 : (encG x).2.1.1 = p2 := hi.num.neg
 have e4 : (encG x).2.2.1 = q2 := hi.den.neg
 rw [← e1, ← e2, ← e3, ← e4]
 exact rng_rd (x := encG x) lo.num.sl lo.den.sl hi.num.sl hi.den.sl
theorem rd_G0 : Rep.rd w M zeroG [.bool false, .slice none 0 0, .bool false, .slice none 0 0, .bool false, .slice none 0 0, .bool false, .slice none 0 0] := by
 rw [← enc_zR]
 exact rd_G (x := zR) (qc0 _ _) (qc0 _ _)
theorem OutR.cells {p : List InsR} {ins : List RngR} {e : Ending} {w' : World} (h : OutR w M p ins e w') :
 ∃ p1 A1 n1 c1 q1 B1 m1 d1 p2 A2 n2 c2 q2 B2 m2 d2, e = .returned (.tuple #[.agg #[.bool p1, .slice A1 n1 c1, .bool q1, .slice B1 m1 d1, .bool p2, .slice A2 n2 c2, .bool q2, .slice B2 m2 d2], .int .i64 (outE p ins)]) ∧
  GV w' M (.agg #[.bool p1, .slice A1 n1 c1, .bool q1, .slice B1 m1 d1, .bool p2, .slice A2 n2 c2, .bool q2, .slice B2 m2 d2]) (outV p ins) ∧ Below w.heap.size w w' := by
 obtain ⟨u, rfl, hg, hb⟩ := h
 have hg2 := hg
 obtain ⟨A, n, c, B, m, d, E, i, e, F, j, f, rfl, -⟩ := hg
 exact ⟨_, _, _, _, _, _, _, _, _, _, _, _, _, _, _, _, rfl, hg2, hb⟩
theorem GV.less {v : Value} {x : RngR} {M' : List Nat} (h : GV w M v x) (hs : ∀ k, k ∈ M' → k ∈ M) : GV w M' v x := by
 obtain ⟨A, n, c, B, m, d, E, i, e, F, j, f, rfl, h1, h2, h3, h4⟩ := h
 exact ⟨A, n, c, B, m, d, E, i, e, F, j, f, rfl, h1.less hs, h2.less hs, h3.less hs, h4.less hs⟩
theorem GV.keep {v : Value} {x : RngR} {w' : World} (h : GV w M v x) (k : Keeps M w w') : GV w' M v x := by
 obtain ⟨A, n, c, B, m, d, E, i, e, F, j, f, rfl, h1, h2, h3, h4⟩ := h
 exact ⟨A, n, c, B, m, d, E, i, e, F, j, f, rfl, h1.keep k, h2.keep k, h3.keep k, h4.keep k⟩
theorem GV.more {v : Value} {x : RngR} {b : Nat} (h : GV w M v x) (hb : w.heap.size ≤ b) : GV w (b :: M) v x := by
 obtain ⟨A, n, c, B, m, d, E, i, e, F, j, f, rfl, h1, h2, h3, h4⟩ := h
 exact ⟨A, n, c, B, m, d, E, i, e, F, j, f, rfl, h1.more hb, h2.more hb, h3.more hb, h4.more hb⟩
end
theorem short_one (x : Int) (hx : x.natAbs < 1000) : shortQ (encQ (I1 x)) = true := by
 have h : ∀ z : Int, z.natAbs < 1000 → fewB (encB z).2 = true := fun z hz => by
  have h1 := (dig_len z.natAbs 1).1 (Nat.lt_of_lt_of_le hz (by decide))
  have h2 : (encB z).2.length ≤ 1 := by simpa [encB, ints, zmag] using h1
  unfold fewB; rw [decide_eq_true (by omega : (encB z).2.length ≤ 3)]
  rfl
 unfold shortQ encQ
 rw [h x hx, h 1 (by decide)]
 rfl
theorem short_0 : shortQ zeroQ = true := by decide
theorem fewp : fewPB [] = true ∧ fewPB [iF] = true ∧ fewPB [iF, iMul] = true ∧ fewPB [iF, iS, iSel] = true ∧ fewPB [iF, iSub] = true ∧ fewPB sumP = true := by
 refine ⟨?_, ?_, ?_, ?_, ?_, ?_⟩ <;> simp [fewPB, iF, iS, iSel, iMul, iSub, iAdd, short_0, short_one]
theorem fewg1 (a b : Int) (ha : a.natAbs < 1000) (hb : b.natAbs < 1000) : fewGs [encG (I1 a, I1 b)] = true := by simp [fewGs, encG, short_one, ha, hb]
theorem fewg2 (a b c d : Int) (ha : a.natAbs < 1000) (hb : b.natAbs < 1000) (hc : c.natAbs < 1000) (hd : d.natAbs < 1000) : fewGs [encG (I1 a, I1 b), encG (I1 c, I1 d)] = true := by simp [fewGs, encG, short_one, ha, hb, hc, hd]
theorem fewg0 : fewGs [] = true ∧ fewGs [zeroG] = true := by constructor <;> decide
theorem fewq (l : List Int) (h : ∀ x, x ∈ l → x.natAbs < 1000) (hl : l.length ≤ 30) : fewQs (l.map fun x => encQ (I1 x)) = true := by
 simp only [fewQs, Bool.and_eq_true, decide_eq_true_eq, List.all_eq_true]
 refine ⟨by simpa using hl, fun y hy => ?_⟩
 obtain ⟨x, hx, rfl⟩ := List.mem_map.1 (List.mem_of_mem_take hy)
 exact short_one x (h x hx)
structure SF (w V : World) (sb : Nat) : Prop where
 rf : RowV V w.heap.size (insC 2 0 0 0 0) 55
 rs : RowV V (w.heap.size + 1) (insC 2 1 0 0 0) 55
 sel : Sl InsR V [] (some ⟨sb, 0, none⟩) 3 3 [iF, iS, iSel]
 bl : Below w.heap.size w V
theorem SF.go {w V V' : World} {sb : Nat} (h : SF w V sb) (hb : Below V.heap.size V V') : SF w V' sb := ⟨h.rf.go hb h.rf.lt, h.rs.go hb h.rs.lt, h.sel.go hb, h.bl.trans (hb.mono h.bl.size)⟩
def Var8 (w : World) (y : Nat) (v : RngR) : Prop := ∃ p1 A1 n1 c1 q1 B1 m1 d1 p2 A2 n2 c2 q2 B2 m2 d2,
 C8 w y 0 (.bool p1) (.slice A1 n1 c1) (.bool q1) (.slice B1 m1 d1) (.bool p2) (.slice A2 n2 c2) (.bool q2) (.slice B2 m2 d2) ∧ GV w [] (.agg #[.bool p1, .slice A1 n1 c1, .bool q1, .slice B1 m1 d1, .bool p2, .slice A2 n2 c2, .bool q2, .slice B2 m2 d2]) v
theorem Var8.go {w w' : World} {y : Nat} {v : RngR} (h : Var8 w y v) (hb : Below w.heap.size w w') : Var8 w' y v := by
 obtain ⟨p1, A1, n1, c1, q1, B1, m1, d1, p2, A2, n2, c2, q2, B2, m2, d2, h1, h2⟩ := h
 exact ⟨p1, A1, n1, c1, q1, B1, m1, d1, p2, A2, n2, c2, q2, B2, m2, d2, h1.go hb, h2.go hb⟩
theorem Var8.cells {w : World} {y : Nat} {v : RngR} (h : Var8 w y v) : ∃ p1 A1 n1 c1 q1 B1 m1 d1 p2 A2 n2 c2 q2 B2 m2 d2,
 (w.cell? ⟨y, 0, none⟩ = some (.bool p1) ∧ w.cell? ⟨y, 1, none⟩ = some (.slice A1 n1 c1) ∧ w.cell? ⟨y, 2, none⟩ = some (.bool q1) ∧ w.cell? ⟨y, 3, none⟩ = some (.slice B1 m1 d1) ∧ w.cell? ⟨y, 4, none⟩ = some (.bool p2) ∧ w.cell? ⟨y, 5, none⟩ = some (.slice A2 n2 c2) ∧ w.cell? ⟨y, 6, none⟩ = some (.bool q2) ∧ w.cell? ⟨y, 7, none⟩ = some (.slice B2 m2 d2)) ∧
 GV w [] (.agg #[.bool p1, .slice A1 n1 c1, .bool q1, .slice B1 m1 d1, .bool p2, .slice A2 n2 c2, .bool q2, .slice B2 m2 d2]) v := by
 obtain ⟨p1, A1, n1, c1, q1, B1, m1, d1, p2, A2, n2, c2, q2, B2, m2, d2, h1, h2⟩ := h
 exact ⟨p1, A1, n1, c1, q1, B1, m1, d1, p2, A2, n2, c2, q2, B2, m2, d2, ⟨h1.c0, h1.c1, h1.c2, h1.c3, h1.c4, h1.c5, h1.c6, h1.c7⟩, h2⟩
theorem lit1x {α : Type} [Rep1 α] {w V : World} {M : List Nat} {x : α} {cs : List Value} {e : TypeId} (hM : Bel M w) (h : Rep.rd w M x cs) (hx : w.alloc (.cells cs.toArray e) = V) : Sl α V M (some ⟨w.heap.size, 0, none⟩) 1 1 [x] := hx ▸ lit1 hM e h
theorem lit2x {α : Type} [Rep1 α] {w V : World} {M : List Nat} {x y : α} {cs ds : List Value} {e : TypeId} (hM : Bel M w) (h : Rep.rd w M x cs) (h2 : Rep.rd w M y ds) (hx : w.alloc (.cells (cs ++ ds).toArray e) = V) : Sl α V M (some ⟨w.heap.size, 0, none⟩) 2 2 [x, y] := hx ▸ lit2 hM e h h2
theorem Fr.lt1 {w W : World} {y : Nat} {vs : List Value} (h : Fr w W ([] ++ [(y, vs)])) : y < W.heap.size := h.lt y vs (by simp)
theorem Fr.ge1 {w W : World} {y : Nat} {vs : List Value} (h : Fr w W ([] ++ [(y, vs)])) : w.heap.size ≤ y := h.ge y vs (by simp)
theorem Fr.st8 {w W : World} {y : Nat} {a0 a1 a2 a3 a4 a5 a6 a7 : Value} (h : Fr w W ([] ++ [(y, [a0, a1, a2, a3, a4, a5, a6, a7])])) (p q r s : Bool) (A B C D : Option Addr) (n c m d i e j f : Nat) :
 ∃ W', (Instr.storeAt 33 (.pointer (some ⟨y, 0, none⟩)) (.agg #[.bool p, .slice A n c, .bool q, .slice B m d, .bool r, .slice C i e, .bool s, .slice D j f])).run Tryz.prog W = .ok () W' ∧ Fr w W' ([] ++ [(y, [.bool p, .slice A n c, .bool q, .slice B m d, .bool r, .slice C i e, .bool s, .slice D j f])]) ∧ Keeps [y] W W' := by
 obtain ⟨x, hx, F, -, kp⟩ := Fr.put8 (L := []) (y := y) h (by simp) (.bool p) (.slice A n c) (.bool q) (.slice B m d) (.bool r) (.slice C i e) (.bool s) (.slice D j f)
 exact ⟨x, (store8_run (h.at_ y [a0, a1, a2, a3, a4, a5, a6, a7] (by simp)) p q r s A B C D n c m d i e j f).trans (by rw [hx]), F, kp⟩
theorem Fr.var8 {w W : World} {y : Nat} {v : RngR} {p q r s : Bool} {A B C D : Option Addr} {n c m d i e j f : Nat} (h : Fr w W ([] ++ [(y, [.bool p, .slice A n c, .bool q, .slice B m d, .bool r, .slice C i e, .bool s, .slice D j f])])) (g : GV W [] (.agg #[.bool p, .slice A n c, .bool q, .slice B m d, .bool r, .slice C i e, .bool s, .slice D j f]) v) : Var8 W y v := by
 have hz := fun k u hu => (h.at_ y [.bool p, .slice A n c, .bool q, .slice B m d, .bool r, .slice C i e, .bool s, .slice D j f] (by simp) k u hu).1
 exact ⟨_, _, _, _, _, _, _, _, _, _, _, _, _, _, _, _, ⟨hz 0 _ rfl, hz 1 _ rfl, hz 2 _ rfl, hz 3 _ rfl, hz 4 _ rfl, hz 5 _ rfl, hz 6 _ rfl, hz 7 _ rfl⟩, g⟩
end
end Go.Proofs.YtboapndkopabiaaGreat
