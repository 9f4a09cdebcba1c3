/- Lemmas and walks (Code4 RSt1 Stp). No statement is proved here. -/
import Derived.Test.YtboapndkopabiaaGreatM27
set_option linter.unusedVariables false
set_option linter.unusedSimpArgs false
namespace Go.Proofs.YtboapndkopabiaaGreat
section
theorem fewB_len {x : BigR} (h : fewB x.2 = true) (hn : natOk x = true) : x.2.length ≤ 3 := by
 simp only [natOk, bigOk, Bool.and_eq_true, decide_eq_true_eq] at hn
 simp only [fewB, Bool.or_eq_true, Bool.and_eq_true, decide_eq_true_eq] at h
 have := hn.1.1.1
 omega
theorem few3_of {r : RatR} (h : shortQ r = true) (hr : ratOk r = true ∨ zeroR r = true) : Few3 r := by
 simp only [shortQ, Bool.and_eq_true] at h
 rcases hr with hr | hr
 · simp only [ratOk, Bool.and_eq_true] at hr
   exact ⟨fewB_len h.1 hr.1.1.1, fewB_len h.2 hr.1.1.2⟩
 · unfold zeroR at hr
   have e := eq_of_beq hr; subst e; exact ⟨by simp, by simp⟩
theorem right_const {i m : Int} {op a b c d : Int} {r : RatR} (h : rightI i m (op, a, b, c, d, r) = true) : ratOk r = true ∨ zeroR r = true := by
 unfold rightI at h
 by_cases h1 : op = 1
 · simp [h1] at h; exact .inl h.1.1.1.1
 by_cases h2 : op = 2
 · simp [h2] at h; exact .inr h.2
 by_cases h3 : op = 3 ∨ op = 4 ∨ op = 6 ∨ op = 7
 · simp only [h1, h2, h3, if_true, if_false, Bool.and_eq_true] at h; exact .inr h.2
 by_cases h5 : op = 5
 · simp [h5] at h; exact .inl h.2
 by_cases h8 : op = 8
 · simp [h8] at h; exact .inr h.2
 · simp [h1, h2, h3, h5, h8] at h
theorem fewP_of {p : List InsR} {m : Int} (h : fewPB p = true) (hc : codeE p m = 0) : p.length ≤ 20 ∧ FewP p ∧ rightsI m 0 p = true := by
 obtain ⟨⟨h1, h2⟩, h3⟩ := (codeE_iff p m).1 hc
 simp only [fewPB, Bool.and_eq_true, Bool.not_eq_true', Bool.and_eq_false_iff, decide_eq_false_iff_not, List.all_eq_true] at h
 refine ⟨by omega, fun x hx => ?_, h3⟩
 obtain ⟨k, hk⟩ := List.getElem?_of_mem hx
 have h4 := rights_at h3 hk
 obtain ⟨op, a, b, c, d, r⟩ := x
 exact few3_of (h.2 _ hx) (right_const h4)
theorem few3_lt {r : RatR} (hr : ratOk r = true) (h : Few3 r) : (decQ r).ok ∧ (decQ r).num.natAbs < BB ^ 3 ∧ (decQ r).den.natAbs < BB ^ 3 := by
 obtain ⟨x, hx, rfl⟩ := (ratOk_iff r).1 hr
 rw [decQ_enc]
 have h1 : (zmag x.num).length ≤ 3 := by have := h.1; simpa [encQ, encB, ints] using this
 have h2 : (zmag x.den).length ≤ 3 := by have := h.2; simpa [encQ, encB, ints] using this
 exact ⟨hx, (dig_len x.num.natAbs 3).2 h1, (dig_len x.den.natAbs 3).2 h2⟩
theorem all_of_take {α : Type} {P : α → Bool} {l : List α} {k : Nat} (hl : l.length ≤ k) (h : (l.take k).all P = true) : l.all P = true := by rwa [List.take_of_length_le hl] at h
theorem regs_of_few {l : List Rt} (hl : l.length ≤ 100) (h : ∀ x, x ∈ l → x.ok ∧ x.num.natAbs < BB ^ 3 ∧ x.den.natAbs < BB ^ 3) : Regs 0 l :=
 regs_few (j := 3) (fun x hx => ⟨(h x hx).1, Nat.lt_of_lt_of_le (h x hx).2.1 (pow_BB (by omega)), (h x hx).2.2⟩) (by omega)
theorem few_lt {l : List RatR} (hf : fewQs l = true) (ho : l.all ratOk = true) : l.length ≤ 30 ∧ ∀ x, x ∈ l.map decQ → x.ok ∧ x.num.natAbs < BB ^ 3 ∧ x.den.natAbs < BB ^ 3 := by
 simp only [fewQs, Bool.and_eq_true, decide_eq_true_eq] at hf
 have h2 := List.all_eq_true.1 (all_of_take hf.1 hf.2)
 have h3 := List.all_eq_true.1 ho
 refine ⟨hf.1, fun x hx => ?_⟩
 obtain ⟨y, hy, rfl⟩ := List.mem_map.1 hx
 exact few3_lt (h3 y hy) (few3_of (h2 y hy) (.inl (h3 y hy)))
theorem regs_qs {l : List RatR} (hf : fewQs l = true) (ho : l.all ratOk = true) : Regs 0 (l.map decQ) := by
 have h := few_lt hf ho
 exact regs_of_few (by simp; omega) h.2
theorem ends_len : ∀ l : List Rg, (ends l).length = 2 * l.length
 | [] => rfl
 | x :: l => by simp [ends, ends_len l]; omega
theorem mem_ends_of {x : Rt} : ∀ {l : List Rg}, x ∈ ends l → ∃ y, y ∈ l ∧ (x = y.1 ∨ x = y.2)
 | y :: l, h => by
   simp only [ends, List.mem_cons] at h
   rcases h with rfl | rfl | h
   · exact ⟨y, by simp, .inl rfl⟩
   · exact ⟨y, by simp, .inr rfl⟩
   · obtain ⟨z, h1, h2⟩ := mem_ends_of h
     exact ⟨z, List.mem_cons_of_mem _ h1, h2⟩
theorem few_ltG {l : List RngR} (hf : fewGs l = true) (ho : l.all rngOk = true) : l.length ≤ 15 ∧ ∀ x, x ∈ ends (l.map decG) → x.ok ∧ x.num.natAbs < BB ^ 3 ∧ x.den.natAbs < BB ^ 3 := by
 simp only [fewGs, Bool.and_eq_true, decide_eq_true_eq] at hf
 have h2 := List.all_eq_true.1 (all_of_take hf.1 hf.2)
 have h3 := List.all_eq_true.1 ho
 refine ⟨hf.1, fun x hx => ?_⟩
 obtain ⟨z, hz, hx⟩ := mem_ends_of hx
 obtain ⟨y, hy, rfl⟩ := List.mem_map.1 hz
 have g2 := h2 y hy
 have g3 := h3 y hy
 simp only [rngOk, Bool.and_eq_true] at g2 g3
 rcases hx with rfl | rfl
 · exact few3_lt g3.1 (few3_of g2.1 (.inl g3.1))
 · exact few3_lt g3.2 (few3_of g2.2 (.inl g3.2))
theorem regs_gs {l : List RngR} (hf : fewGs l = true) (ho : l.all rngOk = true) : Regs 0 (ends (l.map decG)) := by
 have h := few_ltG hf ho
 exact regs_of_few (by rw [ends_len]; simp; omega) h.2
theorem enc_decQ {r : RatR} (h : ratOk r = true) : encQ (decQ r) = r := by
 obtain ⟨x, hx, rfl⟩ := (ratOk_iff r).1 h
 rw [decQ_enc]
theorem enc_decs {l : List RatR} (h : l.all ratOk = true) : (l.map decQ).map encQ = l := by
 rw [List.map_map]
 conv => rhs; rw [← List.map_id l]
 exact List.map_congr_left fun x hx => enc_decQ (List.all_eq_true.1 h x hx)
theorem enc_decG {r : RngR} (h : rngOk r = true) : encG (decG r) = r := by
 simp only [rngOk, Bool.and_eq_true] at h
 exact Prod.ext (enc_decQ h.1) (enc_decQ h.2)
theorem enc_decGs {l : List RngR} (h : l.all rngOk = true) : (l.map decG).map encG = l := by
 rw [List.map_map]
 conv => rhs; rw [← List.map_id l]
 exact List.map_congr_left fun x hx => enc_decG (List.all_eq_true.1 h x hx)
end
section
open Go.RowKit Go.Shelf
attribute [local go_sem] Oper.semAt_some
theorem c4go {W W' : World} {b o : Nat} {v0 v1 v2 v3 : Value} (h : W.cell? ⟨b, o, none⟩ = some v0 ∧ W.cell? ⟨b, o + 1, none⟩ = some v1 ∧ W.cell? ⟨b, o + 2, none⟩ = some v2 ∧ W.cell? ⟨b, o + 3, none⟩ = some v3) (hb : Below W.drew.heap.size W.drew W') (hl : b < W.heap.size) :
 W'.cell? ⟨b, o, none⟩ = some v0 ∧ W'.cell? ⟨b, o + 1, none⟩ = some v1 ∧ W'.cell? ⟨b, o + 2, none⟩ = some v2 ∧ W'.cell? ⟨b, o + 3, none⟩ = some v3 :=
 ⟨(hb.cell (p := ⟨b, o, none⟩) hl).trans h.1, (hb.cell (p := ⟨b, o + 1, none⟩) hl).trans h.2.1, (hb.cell (p := ⟨b, o + 2, none⟩) hl).trans h.2.2.1, (hb.cell (p := ⟨b, o + 3, none⟩) hl).trans h.2.2.2⟩
set_option maxRecDepth 100000 in
theorem walkM {p : Prop} (h : p := by
 refine ent Tryz.func83 rfl Tryz.ntmps83 ?_
 gi_wp2
 refine region_E_np [] 16 (by kernel_rfl) (by kernel_rfl) ?_
 refine E_rd 0 ?_; refine E_rd 1 ?_; refine E_rd 2 ?_; refine E_rd 3 ?_; refine E_rd 4 ?_; refine E_rd 5 ?_; refine E_rd 6 ?_; refine E_rd 7 ?_; refine E_rd 8 ?_; refine E_rd 9 ?_
 refine E_al 10 fun K hK => ?_; gi_wp2
 refine Cm (rqCmp_any (M := (w.heap.size + 1) :: M) (a := regQ regs ka) (b := regQ regs kb) (X.out.2.2.1.le (w' := W1.drew) (Nat.le_refl _)) X.out.1.qw X.out.2.1.qw X.out.2.2.2.1 X.out.2.2.2.2.1 X.out.2.2.2.2.2) ?_
 rintro e w5 ⟨rfl, hb5⟩
 rw [HC.out]
 have F5 := F.out.drew.go hb5
 refine op1 F5 ?_; intros
 obtain ⟨i0, i1, i2, i3⟩ := c4go HI.out hb5 HB8.out
 obtain ⟨j0, j1, j2, j3⟩ := c4go HJ.out hb5 HB8.out
 have G5 := Hd3 F5 (HQ.out.1.go hb5) (HQ.out.2.go hb5)
 clear F5
 refine hK _ _ ⟨?_, ?_⟩; clear hK K
 · exact Keeps.of_below hb5 []
 refine lit ?_
 clear hb5
 refine E_rd 11 ?_; refine E_rd 12 ?_; refine E_rd 13 ?_; refine E_rd 14 ?_; refine E_rd 15 ?_
 refine E_nl 0 ?_; refine tail_nil _ ?_; simp only [npost]; gi_wp2
 have hx := G5.out.1.nth 1
 first
  | (obtain ⟨wF, hwF, t0, t1, t2, t3, hQ, bF⟩ := fin4 (M := M) (hx 0 _ rfl) (hx 1 _ rfl) (hx 2 _ rfl) (hx 3 _ rfl) G5.out.2.1.num.sl G5.out.2.1.den.sl G5.out.2.1.num.neg G5.out.2.1.den.neg G5.out.1.bl (by omega)
     rw [hwF]
     exact ⟨rfl, .tuple #[.agg #[.bool p8, .slice A8 n8 c8, .bool q8, .slice B8 m8 d8], .int .i64 0], by simp [results, go_sem, t0, t1, t2, t3], _, rfl, (by rw [HR.out]; exact hQ), bF⟩)
  | (obtain ⟨wF, hwF, t0, t1, t2, t3, hQ, bF⟩ := fin4 (M := M) (hx 0 _ rfl) (hx 1 _ rfl) (hx 2 _ rfl) (hx 3 _ rfl) G5.out.2.2.num.sl G5.out.2.2.den.sl G5.out.2.2.num.neg G5.out.2.2.den.neg G5.out.1.bl (by omega)
     rw [hwF]
     exact ⟨rfl, .tuple #[.agg #[.bool p7, .slice A7 n7 c7, .bool q7, .slice B7 m7 d7], .int .i64 0], by simp [results, go_sem, t0, t1, t2, t3], _, rfl, (by rw [HR.out]; exact hQ), bF⟩)) : p := h
section
variable {M : List Nat} {A B A1 A2 : Option Addr} {n c m l n1 c1 n2 c2 : Nat} {ins regs : List Rt} {a b x3 x4 : Int} {r : RatR} {p q : Bool} {w : World}
set_option maxRecDepth 20000 in
set_option maxHeartbeats 4000000 in
theorem rstp1_any (hM : Bel M w) (hx : XC w M r p q A1 n1 c1 A2 n2 c2) (hr : ratOk r = true) :
 Calls Tryz.prog 83 #[.agg #[.int .i64 1, .int .i64 a, .int .i64 b, .int .i64 x3, .int .i64 x4, .bool p, .slice A1 n1 c1, .bool q, .slice A2 n2 c2], .slice A n c, .slice B m l] w (QR w M (decQ r)) := by
 refine wid ?_
 obtain ⟨W1, hW1, F1⟩ := nam (((Fr.nil w).a w.heap.size [.int .i64 1, .int .i64 a, .int .i64 b, .int .i64 x3, .int .i64 x4, .bool p, .slice A1 n1 c1, .bool q, .slice A2 n2 c2] 55).a4 (w.heap.size + 1) 31)
 have FO := F1
 refine op1 FO ?_; intros
 have hx1 := (hx.more (k := w.heap.size + 1) (by omega)).go F1.bl
 have hM1 : Bel ((w.heap.size + 1) :: M) W1 := (hM.le F1.bl.size).cons (F1.ltn 1)
 have F := Hd F1
 have hins := F1.nth 0
 clear hx hM F1 FO
 have G9 := Hd2 F.out (hx1.qc hr)
 have qc := hx1.qc hr
 clear hx1 hM1 hins
 have hx := G9.out.1.nth 1
 obtain ⟨wF, hwF, t0, t1, t2, t3, hQ, bF⟩ := fin4 (M := M) (hx 0 _ rfl) (hx 1 _ rfl) (hx 2 _ rfl) (hx 3 _ rfl) (x := decQ r) qc.num.sl qc.den.sl qc.num.neg qc.den.neg F.out.bl (by omega)
 have HW := Hd7 hwF t0 t1 t2 t3 hQ bF
 clear hx qc hwF t0 t1 t2 t3 hQ bF hr
 refine ent Tryz.func83 rfl Tryz.ntmps83 ?_
 gi_wp2
 rw [HW.out.1]
 exact ⟨rfl, .tuple #[.agg #[.bool p, .slice A1 n1 c1, .bool q, .slice A2 n2 c2], .int .i64 0], by simp [results, go_sem, HW.out.2.1, HW.out.2.2.1, HW.out.2.2.2.1, HW.out.2.2.2.2.1], _, rfl, HW.out.2.2.2.2.2.1, HW.out.2.2.2.2.2.2⟩
set_option maxRecDepth 20000 in
set_option maxHeartbeats 4000000 in
theorem rstp2_any (hM : Bel M w) (hx : XC w M r p q A1 n1 c1 A2 n2 c2) (hi : SlQ w M A n c ins) (ha : belowB a n = true) :
 Calls Tryz.prog 83 #[.agg #[.int .i64 2, .int .i64 a, .int .i64 b, .int .i64 x3, .int .i64 x4, .bool p, .slice A1 n1 c1, .bool q, .slice A2 n2 c2], .slice A n c, .slice B m l] w (QR w M (regQ ins a)) := by
 refine wid ?_
 obtain ⟨ka, rfl, hka⟩ := below_nat ha
 obtain ⟨W1, hW1, F1⟩ := nam (((Fr.nil w).a w.heap.size [.int .i64 2, .int .i64 (ka : Int), .int .i64 b, .int .i64 x3, .int .i64 x4, .bool p, .slice A1 n1 c1, .bool q, .slice A2 n2 c2] 55).a4 (w.heap.size + 1) 31)
 have FO := F1
 refine op1 FO ?_; intros
 have hx1 := (hx.more (k := w.heap.size + 1) (by omega)).go F1.bl
 have hM1 : Bel ((w.heap.size + 1) :: M) W1 := (hM.le F1.bl.size).cons (F1.ltn 1)
 have F := Hd F1
 have hins := F1.nth 0
 clear hx hM F1 FO
 have hl1 : SlQ W1 ((w.heap.size + 1) :: M) A n c ins := (hi.more (b := w.heap.size + 1) (by omega)).go F.out.bl
 have hsm := hl1.small
 obtain ⟨b9, o9, p9, q9, A9, n9, c9, B9, m9, d9, rfl, ⟨h0, h1, h2, h3⟩, qc⟩ := hl1.at_ hka
 have hx := F.out.nth 1
 obtain ⟨wF, hwF, t0, t1, t2, t3, hQ, bF⟩ := fin4 (M := M) (hx 0 _ rfl) (hx 1 _ rfl) (hx 2 _ rfl) (hx 3 _ rfl) (x := regQ ins ka) qc.num.sl qc.den.sl qc.num.neg qc.den.neg F.out.bl (by omega)
 have HW := Hd7 hwF t0 t1 t2 t3 hQ bF
 clear hx qc hwF t0 t1 t2 t3 hQ bF hi hl1 hx1 hM1 hins ha
 refine ent Tryz.func83 rfl Tryz.ntmps83 ?_
 gi_wp2
 rw [HW.out.1]
 exact ⟨rfl, .tuple #[.agg #[.bool p9, .slice A9 n9 c9, .bool q9, .slice B9 m9 d9], .int .i64 0], by simp [results, go_sem, HW.out.2.1, HW.out.2.2.1, HW.out.2.2.2.1, HW.out.2.2.2.2.1], _, rfl, HW.out.2.2.2.2.2.1, HW.out.2.2.2.2.2.2⟩
set_option maxRecDepth 20000 in
set_option maxHeartbeats 4000000 in
theorem rstp3_any (hM : Bel M w) (hx : XC w M r p q A1 n1 c1 A2 n2 c2) (hl : SlQ w M B m l regs) (ha : belowB a m = true) (hb : belowB b m = true) (oa : (regQ regs a).ok) (ob : (regQ regs b).ok) (hf : Fine (regQ regs a) (regQ regs b)) :
 Calls Tryz.prog 83 #[.agg #[.int .i64 3, .int .i64 a, .int .i64 b, .int .i64 x3, .int .i64 x4, .bool p, .slice A1 n1 c1, .bool q, .slice A2 n2 c2], .slice A n c, .slice B m l] w (QR w M (addQ (regQ regs a) (regQ regs b))) := by
 refine wid ?_
 obtain ⟨ka, rfl, hka⟩ := below_nat ha
 obtain ⟨kb, rfl, hkb⟩ := below_nat hb
 obtain ⟨W1, hW1, F1⟩ := nam (((Fr.nil w).a w.heap.size [.int .i64 3, .int .i64 (ka : Int), .int .i64 (kb : Int), .int .i64 x3, .int .i64 x4, .bool p, .slice A1 n1 c1, .bool q, .slice A2 n2 c2] 55).a4 (w.heap.size + 1) 31)
 have FO := F1
 refine op1 FO ?_; intros
 have hx1 := (hx.more (k := w.heap.size + 1) (by omega)).go F1.bl
 have hM1 : Bel ((w.heap.size + 1) :: M) W1 := (hM.le F1.bl.size).cons (F1.ltn 1)
 have F := Hd F1
 have hins := F1.nth 0
 clear hx hM F1 FO
 have hl1 : SlQ W1 ((w.heap.size + 1) :: M) B m l regs := (hl.more (b := w.heap.size + 1) (by omega)).go F.out.bl
 have hsm := hl1.small
 clear hl
 obtain ⟨b3, o3, p3, q3, A3, n3, c3, B3, m3, d3, rfl, ⟨h0, h1, h2, h3⟩, qc3⟩ := hl1.at_ hka
 obtain ⟨b4, o4, p4, q4, A4, n4, c4, B4, m4, d4, e0, ⟨k0, k1, k2, k3⟩, qc4⟩ := hl1.at_ hkb
 obtain ⟨rfl, rfl⟩ : b3 = b4 ∧ o3 = o4 := by simpa using e0
 have X := Hd6 qc3.drew qc4.drew hM1 oa ob hf
 have v0 := stays_drew h0
 have v1 := stays_drew h1
 have v2 := stays_drew h2
 have v3 := stays_drew h3
 have v4 := stays_drew k0
 have v5 := stays_drew k1
 have v6 := stays_drew k2
 have v7 := stays_drew k3
 have v9 := stays_drew (hins 1 _ rfl)
 have v10 := stays_drew (hins 2 _ rfl)
 clear hx1 hM1 qc3 qc4 h0 h1 h2 h3 k0 k1 k2 k3 e0 oa ob hf hins ha hb hl1
 refine ent Tryz.func83 rfl Tryz.ntmps83 ?_
 gi_wp2
 refine region_E_np [] 13 (by kernel_rfl) (by kernel_rfl) ?_
 refine E_rd 0 ?_; refine E_rd 1 ?_; refine E_rd 2 ?_; refine E_rd 3 ?_; refine E_rd 4 ?_; refine E_rd 5 ?_; refine E_rd 6 ?_; refine E_rd 7 ?_; refine E_rd 8 ?_; refine E_rd 9 ?_
 refine E_al 10 fun K hK => ?_; gi_wp2
 refine Cm (rqAdd_any (M := (w.heap.size + 1) :: M) (a := regQ regs ka) (b := regQ regs kb) (X.out.2.2.1.le (w' := W1.drew) (Nat.le_refl _)) X.out.1.qw X.out.2.1.qw X.out.2.2.2.1 X.out.2.2.2.2.1 X.out.2.2.2.2.2) ?_
 rintro e w9 ⟨u9, rfl, z9, hb9⟩
 obtain ⟨p9, q9, A9, n9, c9, B9, m9, d9, rfl, qc9⟩ := QC.of z9
 have F9 := F.out.drew.go hb9
 refine op1 F9 ?_; intros
 have G9 := Hd2 F9 qc9
 clear z9 qc9 F9
 refine hK _ _ ⟨?_, ?_⟩; clear hK K
 · exact Keeps.of_below hb9 []
 refine lit ?_
 clear hb9
 refine E_rd 11 ?_; refine E_rd 12 ?_
 refine E_nl 2 ?_; refine tls fun K hK K' hK' => ?_; gi_wp2; refine tls fun K hK K' hK' => ?_; gi_wp2; refine tail_nil _ ?_; simp only [npost]; gi_wp2
 have hx := G9.out.1.nth 1
 obtain ⟨wF, hwF, t0, t1, t2, t3, hQ, bF⟩ := fin4 (M := M) (hx 0 _ rfl) (hx 1 _ rfl) (hx 2 _ rfl) (hx 3 _ rfl) (x := addQ (regQ regs ka) (regQ regs kb)) G9.out.2.num.sl G9.out.2.den.sl G9.out.2.num.neg G9.out.2.den.neg G9.out.1.bl (by omega)
 rw [hwF]
 refine ⟨rfl, .tuple #[.agg #[.bool p9, .slice A9 n9 c9, .bool q9, .slice B9 m9 d9], .int .i64 0], by simp [results, go_sem, t0, t1, t2, t3], _, rfl, hQ, bF⟩
set_option maxRecDepth 20000 in
set_option maxHeartbeats 4000000 in
theorem rstp4_any (hM : Bel M w) (hx : XC w M r p q A1 n1 c1 A2 n2 c2) (hl : SlQ w M B m l regs) (ha : belowB a m = true) (hb : belowB b m = true) (oa : (regQ regs a).ok) (ob : (regQ regs b).ok) (hf : Fine (regQ regs a) (regQ regs b)) :
 Calls Tryz.prog 83 #[.agg #[.int .i64 4, .int .i64 a, .int .i64 b, .int .i64 x3, .int .i64 x4, .bool p, .slice A1 n1 c1, .bool q, .slice A2 n2 c2], .slice A n c, .slice B m l] w (QR w M (subQ (regQ regs a) (regQ regs b))) := by
 refine wid ?_
 obtain ⟨ka, rfl, hka⟩ := below_nat ha
 obtain ⟨kb, rfl, hkb⟩ := below_nat hb
 obtain ⟨W1, hW1, F1⟩ := nam (((Fr.nil w).a w.heap.size [.int .i64 4, .int .i64 (ka : Int), .int .i64 (kb : Int), .int .i64 x3, .int .i64 x4, .bool p, .slice A1 n1 c1, .bool q, .slice A2 n2 c2] 55).a4 (w.heap.size + 1) 31)
 have FO := F1
 refine op1 FO ?_; intros
 have hx1 := (hx.more (k := w.heap.size + 1) (by omega)).go F1.bl
 have hM1 : Bel ((w.heap.size + 1) :: M) W1 := (hM.le F1.bl.size).cons (F1.ltn 1)
 have F := Hd F1
 have hins := F1.nth 0
 clear hx hM F1 FO
 have hl1 : SlQ W1 ((w.heap.size + 1) :: M) B m l regs := (hl.more (b := w.heap.size + 1) (by omega)).go F.out.bl
 have hsm := hl1.small
 clear hl
 obtain ⟨b3, o3, p3, q3, A3, n3, c3, B3, m3, d3, rfl, ⟨h0, h1, h2, h3⟩, qc3⟩ := hl1.at_ hka
 obtain ⟨b4, o4, p4, q4, A4, n4, c4, B4, m4, d4, e0, ⟨k0, k1, k2, k3⟩, qc4⟩ := hl1.at_ hkb
 obtain ⟨rfl, rfl⟩ : b3 = b4 ∧ o3 = o4 := by simpa using e0
 have X := Hd6 qc3.drew qc4.drew hM1 oa ob hf
 have v0 := stays_drew h0
 have v1 := stays_drew h1
 have v2 := stays_drew h2
 have v3 := stays_drew h3
 have v4 := stays_drew k0
 have v5 := stays_drew k1
 have v6 := stays_drew k2
 have v7 := stays_drew k3
 have v9 := stays_drew (hins 1 _ rfl)
 have v10 := stays_drew (hins 2 _ rfl)
 clear hx1 hM1 qc3 qc4 h0 h1 h2 h3 k0 k1 k2 k3 e0 oa ob hf hins ha hb hl1
 refine ent Tryz.func83 rfl Tryz.ntmps83 ?_
 gi_wp2
 refine region_E_np [] 13 (by kernel_rfl) (by kernel_rfl) ?_
 refine E_rd 0 ?_; refine E_rd 1 ?_; refine E_rd 2 ?_; refine E_rd 3 ?_; refine E_rd 4 ?_; refine E_rd 5 ?_; refine E_rd 6 ?_; refine E_rd 7 ?_; refine E_rd 8 ?_; refine E_rd 9 ?_
 refine E_al 10 fun K hK => ?_; gi_wp2
 refine Cm (rqSub_any (M := (w.heap.size + 1) :: M) (a := regQ regs ka) (b := regQ regs kb) (X.out.2.2.1.le (w' := W1.drew) (Nat.le_refl _)) X.out.1.qw X.out.2.1.qw X.out.2.2.2.1 X.out.2.2.2.2.1 X.out.2.2.2.2.2) ?_
 rintro e w9 ⟨u9, rfl, z9, hb9⟩
 obtain ⟨p9, q9, A9, n9, c9, B9, m9, d9, rfl, qc9⟩ := QC.of z9
 have F9 := F.out.drew.go hb9
 refine op1 F9 ?_; intros
 have G9 := Hd2 F9 qc9
 clear z9 qc9 F9
 refine hK _ _ ⟨?_, ?_⟩; clear hK K
 · exact Keeps.of_below hb9 []
 refine lit ?_
 clear hb9
 refine E_rd 11 ?_; refine E_rd 12 ?_
 refine E_nl 2 ?_; refine tls fun K hK K' hK' => ?_; gi_wp2; refine tls fun K hK K' hK' => ?_; gi_wp2; refine tail_nil _ ?_; simp only [npost]; gi_wp2
 have hx := G9.out.1.nth 1
 obtain ⟨wF, hwF, t0, t1, t2, t3, hQ, bF⟩ := fin4 (M := M) (hx 0 _ rfl) (hx 1 _ rfl) (hx 2 _ rfl) (hx 3 _ rfl) (x := subQ (regQ regs ka) (regQ regs kb)) G9.out.2.num.sl G9.out.2.den.sl G9.out.2.num.neg G9.out.2.den.neg G9.out.1.bl (by omega)
 rw [hwF]
 refine ⟨rfl, .tuple #[.agg #[.bool p9, .slice A9 n9 c9, .bool q9, .slice B9 m9 d9], .int .i64 0], by simp [results, go_sem, t0, t1, t2, t3], _, rfl, hQ, bF⟩
set_option maxRecDepth 20000 in
set_option maxHeartbeats 4000000 in
theorem rstp5_any (hM : Bel M w) (hx : XC w M r p q A1 n1 c1 A2 n2 c2) (hr : ratOk r = true) (hl : SlQ w M B m l regs) (ha : belowB a m = true) (oa : (regQ regs a).ok) (hf : Fine (regQ regs a) (decQ r)) :
 Calls Tryz.prog 83 #[.agg #[.int .i64 5, .int .i64 a, .int .i64 b, .int .i64 x3, .int .i64 x4, .bool p, .slice A1 n1 c1, .bool q, .slice A2 n2 c2], .slice A n c, .slice B m l] w (QR w M (mulQ (regQ regs a) (decQ r))) := by
 refine wid ?_
 obtain ⟨ka, rfl, hka⟩ := below_nat ha
 obtain ⟨W1, hW1, F1⟩ := nam (((Fr.nil w).a w.heap.size [.int .i64 5, .int .i64 (ka : Int), .int .i64 b, .int .i64 x3, .int .i64 x4, .bool p, .slice A1 n1 c1, .bool q, .slice A2 n2 c2] 55).a4 (w.heap.size + 1) 31)
 have FO := F1
 refine op1 FO ?_; intros
 have hx1 := (hx.more (k := w.heap.size + 1) (by omega)).go F1.bl
 have hM1 : Bel ((w.heap.size + 1) :: M) W1 := (hM.le F1.bl.size).cons (F1.ltn 1)
 have F := Hd F1
 have hins := F1.nth 0
 clear hx hM F1 FO
 have hl1 : SlQ W1 ((w.heap.size + 1) :: M) B m l regs := (hl.more (b := w.heap.size + 1) (by omega)).go F.out.bl
 have hsm := hl1.small
 clear hl
 obtain ⟨b3, o3, p3, q3, A3, n3, c3, B3, m3, d3, rfl, ⟨h0, h1, h2, h3⟩, qc3⟩ := hl1.at_ hka
 have qc4 := hx1.qc hr
 have X := Hd6 qc3.drew qc4.drew hM1 oa (decQ_ok hr) hf
 have v0 := stays_drew h0
 have v1 := stays_drew h1
 have v2 := stays_drew h2
 have v3 := stays_drew h3
 have v9 := stays_drew (hins 1 _ rfl)
 have v10 := stays_drew (hins 5 _ rfl)
 have v11 := stays_drew (hins 6 _ rfl)
 have v12 := stays_drew (hins 7 _ rfl)
 have v13 := stays_drew (hins 8 _ rfl)
 clear hx1 hM1 qc3 qc4 h0 h1 h2 h3 oa hf hins ha hr hl1
 refine ent Tryz.func83 rfl Tryz.ntmps83 ?_
 gi_wp2
 refine region_E_np [] 10 (by kernel_rfl) (by kernel_rfl) ?_
 refine E_rd 0 ?_; refine E_rd 1 ?_; refine E_rd 2 ?_; refine E_rd 3 ?_; refine E_rd 4 ?_; refine E_rd 5 ?_; refine E_rd 6 ?_
 refine E_al 7 fun K hK => ?_; gi_wp2
 refine Cm (rqMul_any (M := (w.heap.size + 1) :: M) (a := regQ regs ka) (b := decQ r) (X.out.2.2.1.le (w' := W1.drew) (Nat.le_refl _)) X.out.1.qw X.out.2.1.qw X.out.2.2.2.1 X.out.2.2.2.2.1 X.out.2.2.2.2.2) ?_
 rintro e w9 ⟨u9, rfl, z9, hb9⟩
 obtain ⟨p9, q9, A9, n9, c9, B9, m9, d9, rfl, qc9⟩ := QC.of z9
 have F9 := F.out.drew.go hb9
 refine op1 F9 ?_; intros
 have G9 := Hd2 F9 qc9
 clear z9 qc9 F9
 refine hK _ _ ⟨?_, ?_⟩; clear hK K
 · exact Keeps.of_below hb9 []
 refine lit ?_
 clear hb9
 refine E_rd 8 ?_; refine E_rd 9 ?_
 refine E_nl 2 ?_; refine tls fun K hK K' hK' => ?_; gi_wp2; refine tls fun K hK K' hK' => ?_; gi_wp2; refine tail_nil _ ?_; simp only [npost]; gi_wp2
 have hx := G9.out.1.nth 1
 obtain ⟨wF, hwF, t0, t1, t2, t3, hQ, bF⟩ := fin4 (M := M) (hx 0 _ rfl) (hx 1 _ rfl) (hx 2 _ rfl) (hx 3 _ rfl) (x := mulQ (regQ regs ka) (decQ r)) G9.out.2.num.sl G9.out.2.den.sl G9.out.2.num.neg G9.out.2.den.neg G9.out.1.bl (by omega)
 rw [hwF]
 refine ⟨rfl, .tuple #[.agg #[.bool p9, .slice A9 n9 c9, .bool q9, .slice B9 m9 d9], .int .i64 0], by simp [results, go_sem, t0, t1, t2, t3], _, rfl, hQ, bF⟩
set_option maxRecDepth 20000 in
set_option maxHeartbeats 4000000 in
theorem rstp6_any (hM : Bel M w) (hx : XC w M r p q A1 n1 c1 A2 n2 c2) (hl : SlQ w M B m l regs) (ha : belowB a m = true) (hb : belowB b m = true) (oa : (regQ regs a).ok) (ob : (regQ regs b).ok) (hf : Fine (regQ regs a) (regQ regs b)) :
 Calls Tryz.prog 83 #[.agg #[.int .i64 6, .int .i64 a, .int .i64 b, .int .i64 x3, .int .i64 x4, .bool p, .slice A1 n1 c1, .bool q, .slice A2 n2 c2], .slice A n c, .slice B m l] w (QR w M (minT (regQ regs a) (regQ regs b))) := by
 refine wid ?_
 first
  | rw [← min_pick]
  | rw [← min_pick (regQ regs a) (regQ regs b)]
 obtain ⟨ka, rfl, hka⟩ := below_nat ha
 obtain ⟨kb, rfl, hkb⟩ := below_nat hb
 obtain ⟨W1, hW1, F1⟩ := nam (((Fr.nil w).a w.heap.size [.int .i64 6, .int .i64 (ka : Int), .int .i64 (kb : Int), .int .i64 x3, .int .i64 x4, .bool p, .slice A1 n1 c1, .bool q, .slice A2 n2 c2] 55).a4 (w.heap.size + 1) 31)
 have FO := F1
 refine op1 FO ?_; intros
 have hx1 := (hx.more (k := w.heap.size + 1) (by omega)).go F1.bl
 have hM1 : Bel ((w.heap.size + 1) :: M) W1 := (hM.le F1.bl.size).cons (F1.ltn 1)
 have F := Hd F1
 have hins := F1.nth 0
 clear hx hM F1 FO
 have hl1 : SlQ W1 ((w.heap.size + 1) :: M) B m l regs := (hl.more (b := w.heap.size + 1) (by omega)).go F.out.bl
 have hsm := hl1.small
 clear hl
 obtain ⟨b3, o3, p3, q3, A3, n3, c3, B3, m3, d3, rfl, ⟨h0, h1, h2, h3⟩, qc3⟩ := hl1.at_ hka
 obtain ⟨b4, o4, p4, q4, A4, n4, c4, B4, m4, d4, e0, ⟨k0, k1, k2, k3⟩, qc4⟩ := hl1.at_ hkb
 obtain ⟨rfl, rfl⟩ : b3 = b4 ∧ o3 = o4 := by simpa using e0
 have X := Hd6 qc3.drew qc4.drew hM1 oa ob hf
 have v0 := stays_drew h0
 have v1 := stays_drew h1
 have v2 := stays_drew h2
 have v3 := stays_drew h3
 have v4 := stays_drew k0
 have v5 := stays_drew k1
 have v6 := stays_drew k2
 have v7 := stays_drew k3
 have v9 := stays_drew (hins 1 _ rfl)
 have v10 := stays_drew (hins 2 _ rfl)
 obtain ⟨b8, o8, p8, q8, A8, n8, c8, B8, m8, d8, e8, hi8, qc8⟩ := hl1.at_ hka
 obtain ⟨rfl, rfl⟩ : b3 = b8 ∧ o3 = o8 := by simpa using e8
 obtain ⟨b7, o7, p7, q7, A7, n7, c7, B7, m7, d7, e7, hi7, qc7⟩ := hl1.at_ hkb
 obtain ⟨rfl, rfl⟩ : b3 = b7 ∧ o3 = o7 := by simpa using e7
 have HI := Hd hi8
 have HJ := Hd hi7
 have HQ := Hd2 qc8.drew qc7.drew
 have HB8 := Hd (World.block_lt_of_cell? W1 _ hi8.1)
 obtain ⟨cc, hcc⟩ : ∃ cc, cmpQ (regQ regs ka) (regQ regs kb) = cc := ⟨_, rfl⟩
 have HC := Hd hcc
 obtain ⟨R, hR⟩ : ∃ R, (if cmpQ (regQ regs (ka : Int)) (regQ regs (kb : Int)) ≤ 0 then regQ regs (ka : Int) else regQ regs (kb : Int)) = R := ⟨_, rfl⟩
 rw [hR]
 rw [hcc] at hR
 clear hx1 hM1 qc3 qc4 qc7 qc8 h0 h1 h2 h3 k0 k1 k2 k3 e0 e7 e8 hi7 hi8 oa ob hf hins ha hb hl1 hcc
 by_cases hc : cc ≤ 0
 · have HR := Hd (hR.symm.trans (if_pos hc))
   have hd : decide (cc ≤ 0) = true := decide_eq_true hc; clear hR; exact walkM
 · have HR := Hd (hR.symm.trans (if_neg hc))
   have hd : decide (cc ≤ 0) = false := decide_eq_false hc; clear hR; exact walkM
set_option maxRecDepth 20000 in
set_option maxHeartbeats 4000000 in
theorem rstp7_any (hM : Bel M w) (hx : XC w M r p q A1 n1 c1 A2 n2 c2) (hl : SlQ w M B m l regs) (ha : belowB a m = true) (hb : belowB b m = true) (oa : (regQ regs a).ok) (ob : (regQ regs b).ok) (hf : Fine (regQ regs a) (regQ regs b)) :
 Calls Tryz.prog 83 #[.agg #[.int .i64 7, .int .i64 a, .int .i64 b, .int .i64 x3, .int .i64 x4, .bool p, .slice A1 n1 c1, .bool q, .slice A2 n2 c2], .slice A n c, .slice B m l] w (QR w M (maxT (regQ regs a) (regQ regs b))) := by
 refine wid ?_
 first
  | rw [← max_pick oa ob]
  | rw [← max_pick oa ob (regQ regs a) (regQ regs b)]
 obtain ⟨ka, rfl, hka⟩ := below_nat ha
 obtain ⟨kb, rfl, hkb⟩ := below_nat hb
 obtain ⟨W1, hW1, F1⟩ := nam (((Fr.nil w).a w.heap.size [.int .i64 7, .int .i64 (ka : Int), .int .i64 (kb : Int), .int .i64 x3, .int .i64 x4, .bool p, .slice A1 n1 c1, .bool q, .slice A2 n2 c2] 55).a4 (w.heap.size + 1) 31)
 have FO := F1
 refine op1 FO ?_; intros
 have hx1 := (hx.more (k := w.heap.size + 1) (by omega)).go F1.bl
 have hM1 : Bel ((w.heap.size + 1) :: M) W1 := (hM.le F1.bl.size).cons (F1.ltn 1)
 have F := Hd F1
 have hins := F1.nth 0
 clear hx hM F1 FO
 have hl1 : SlQ W1 ((w.heap.size + 1) :: M) B m l regs := (hl.more (b := w.heap.size + 1) (by omega)).go F.out.bl
 have hsm := hl1.small
 clear hl
 obtain ⟨b3, o3, p3, q3, A3, n3, c3, B3, m3, d3, rfl, ⟨h0, h1, h2, h3⟩, qc3⟩ := hl1.at_ hka
 obtain ⟨b4, o4, p4, q4, A4, n4, c4, B4, m4, d4, e0, ⟨k0, k1, k2, k3⟩, qc4⟩ := hl1.at_ hkb
 obtain ⟨rfl, rfl⟩ : b3 = b4 ∧ o3 = o4 := by simpa using e0
 have X := Hd6 qc3.drew qc4.drew hM1 oa ob hf
 have v0 := stays_drew h0
 have v1 := stays_drew h1
 have v2 := stays_drew h2
 have v3 := stays_drew h3
 have v4 := stays_drew k0
 have v5 := stays_drew k1
 have v6 := stays_drew k2
 have v7 := stays_drew k3
 have v9 := stays_drew (hins 1 _ rfl)
 have v10 := stays_drew (hins 2 _ rfl)
 obtain ⟨b8, o8, p8, q8, A8, n8, c8, B8, m8, d8, e8, hi8, qc8⟩ := hl1.at_ hkb
 obtain ⟨rfl, rfl⟩ : b3 = b8 ∧ o3 = o8 := by simpa using e8
 obtain ⟨b7, o7, p7, q7, A7, n7, c7, B7, m7, d7, e7, hi7, qc7⟩ := hl1.at_ hka
 obtain ⟨rfl, rfl⟩ : b3 = b7 ∧ o3 = o7 := by simpa using e7
 have HI := Hd hi8
 have HJ := Hd hi7
 have HQ := Hd2 qc8.drew qc7.drew
 have HB8 := Hd (World.block_lt_of_cell? W1 _ hi8.1)
 obtain ⟨cc, hcc⟩ : ∃ cc, cmpQ (regQ regs ka) (regQ regs kb) = cc := ⟨_, rfl⟩
 have HC := Hd hcc
 obtain ⟨R, hR⟩ : ∃ R, (if cmpQ (regQ regs (ka : Int)) (regQ regs (kb : Int)) ≤ 0 then regQ regs (kb : Int) else regQ regs (ka : Int)) = R := ⟨_, rfl⟩
 rw [hR]
 rw [hcc] at hR
 clear hx1 hM1 qc3 qc4 qc7 qc8 h0 h1 h2 h3 k0 k1 k2 k3 e0 e7 e8 hi7 hi8 oa ob hf hins ha hb hl1 hcc
 by_cases hc : cc ≤ 0
 · have HR := Hd (hR.symm.trans (if_pos hc))
   have hd : decide (cc ≤ 0) = true := decide_eq_true hc; clear hR; exact walkM
 · have HR := Hd (hR.symm.trans (if_neg hc))
   have hd : decide (cc ≤ 0) = false := decide_eq_false hc; clear hR; exact walkM
set_option maxRecDepth 20000 in
set_option maxHeartbeats 4000000 in
theorem rstp8_any (hM : Bel M w) (hx : XC w M r p q A1 n1 c1 A2 n2 c2) (hl : SlQ w M B m l regs) (ha : belowB a m = true) (hb : belowB b m = true) (hy : belowB x3 m = true) (hz : belowB x4 m = true) (oa : (regQ regs a).ok) (ob : (regQ regs b).ok) (hf : Fine (regQ regs a) (regQ regs b)) :
 Calls Tryz.prog 83 #[.agg #[.int .i64 8, .int .i64 a, .int .i64 b, .int .i64 x3, .int .i64 x4, .bool p, .slice A1 n1 c1, .bool q, .slice A2 n2 c2], .slice A n c, .slice B m l] w (QR w M (if cmpQ (regQ regs a) (regQ regs b) ≤ 0 then regQ regs x3 else regQ regs x4)) := by
 refine wid ?_
 obtain ⟨ka, rfl, hka⟩ := below_nat ha
 obtain ⟨kb, rfl, hkb⟩ := below_nat hb
 obtain ⟨ky, rfl, hky⟩ := below_nat hy
 obtain ⟨kz, rfl, hkz⟩ := below_nat hz
 obtain ⟨W1, hW1, F1⟩ := nam (((Fr.nil w).a w.heap.size [.int .i64 8, .int .i64 (ka : Int), .int .i64 (kb : Int), .int .i64 (ky : Int), .int .i64 (kz : Int), .bool p, .slice A1 n1 c1, .bool q, .slice A2 n2 c2] 55).a4 (w.heap.size + 1) 31)
 have FO := F1
 refine op1 FO ?_; intros
 have hx1 := (hx.more (k := w.heap.size + 1) (by omega)).go F1.bl
 have hM1 : Bel ((w.heap.size + 1) :: M) W1 := (hM.le F1.bl.size).cons (F1.ltn 1)
 have F := Hd F1
 have hins := F1.nth 0
 clear hx hM F1 FO
 have hl1 : SlQ W1 ((w.heap.size + 1) :: M) B m l regs := (hl.more (b := w.heap.size + 1) (by omega)).go F.out.bl
 have hsm := hl1.small
 clear hl
 obtain ⟨b3, o3, p3, q3, A3, n3, c3, B3, m3, d3, rfl, ⟨h0, h1, h2, h3⟩, qc3⟩ := hl1.at_ hka
 obtain ⟨b4, o4, p4, q4, A4, n4, c4, B4, m4, d4, e0, ⟨k0, k1, k2, k3⟩, qc4⟩ := hl1.at_ hkb
 obtain ⟨rfl, rfl⟩ : b3 = b4 ∧ o3 = o4 := by simpa using e0
 have X := Hd6 qc3.drew qc4.drew hM1 oa ob hf
 have v0 := stays_drew h0
 have v1 := stays_drew h1
 have v2 := stays_drew h2
 have v3 := stays_drew h3
 have v4 := stays_drew k0
 have v5 := stays_drew k1
 have v6 := stays_drew k2
 have v7 := stays_drew k3
 have v9 := stays_drew (hins 1 _ rfl)
 have v10 := stays_drew (hins 2 _ rfl)
 obtain ⟨b8, o8, p8, q8, A8, n8, c8, B8, m8, d8, e8, hi8, qc8⟩ := hl1.at_ hky
 obtain ⟨rfl, rfl⟩ : b3 = b8 ∧ o3 = o8 := by simpa using e8
 obtain ⟨b7, o7, p7, q7, A7, n7, c7, B7, m7, d7, e7, hi7, qc7⟩ := hl1.at_ hkz
 obtain ⟨rfl, rfl⟩ : b3 = b7 ∧ o3 = o7 := by simpa using e7
 have HI := Hd hi8
 have HJ := Hd hi7
 have HQ := Hd2 qc8.drew qc7.drew
 have HB8 := Hd (World.block_lt_of_cell? W1 _ hi8.1)
 obtain ⟨cc, hcc⟩ : ∃ cc, cmpQ (regQ regs ka) (regQ regs kb) = cc := ⟨_, rfl⟩
 have HC := Hd hcc
 obtain ⟨R, hR⟩ : ∃ R, (if cmpQ (regQ regs (ka : Int)) (regQ regs (kb : Int)) ≤ 0 then regQ regs (ky : Int) else regQ regs (kz : Int)) = R := ⟨_, rfl⟩
 rw [hR]
 rw [hcc] at hR
 clear hx1 hM1 qc3 qc4 qc7 qc8 h0 h1 h2 h3 k0 k1 k2 k3 e0 e7 e8 hi7 hi8 oa ob hf hins ha hb hl1 hcc
 clear hy hz
 by_cases hc : cc ≤ 0
 · have HR := Hd (hR.symm.trans (if_pos hc))
   have hd : decide (cc ≤ 0) = true := decide_eq_true hc; clear hR; exact walkM
 · have HR := Hd (hR.symm.trans (if_neg hc))
   have hd : decide (cc ≤ 0) = false := decide_eq_false hc; clear hR; exact walkM
end
end
section
open Go.RowKit Go.Shelf
theorem AllS.fine {l : List Rt} (h : AllS l) {a b : Int} (ha : belowB a l.length = true) (hb : belowB b l.length = true) : Fine (regQ l a) (regQ l b) := (h.ref ha).2.fine (h.ref hb).2
theorem few3_right {r : RatR} (hr : ratOk r = true) (h : Few3 r) : Sh (decQ r) := (few3_sh hr h).2
def opF (o : Nat) : Nat := if o = 1 then 84 else if o = 2 then 85 else if o = 3 then 86 else if o = 4 then 87 else if o = 5 then 88 else if o = 6 then 89 else if o = 7 then 91 else 92
def opG (o : Nat) : Nat := if o = 1 then 59 else if o = 2 then 60 else if o = 3 then 61 else if o = 4 then 64 else if o = 5 then 66 else if o = 6 then 68 else if o = 7 then 70 else 72
section
variable {M : List Nat} {A B A1 A2 : Option Addr} {n c m l n1 c1 n2 c2 : Nat} {a b x3 x4 : Int} {r : RatR} {p q : Bool} {w : World}
theorem cstep_any {mb o : Nat} {ins regs : List Rt} (hM : Bel M w) (hm : Mach w M mb A n c B m l ins regs) (hx : XC w M r p q A1 n1 c1 A2 n2 c2) (hr : rightI m n ((o : Int), a, b, x3, x4, r) = true) (hf : Few3 r) (hs : AllS regs) :
 Calls Tryz.prog (opF o) #[.pointer (some ⟨mb, 0, none⟩), .agg #[.int .i64 (o : Int), .int .i64 a, .int .i64 b, .int .i64 x3, .int .i64 x4, .bool p, .slice A1 n1 c1, .bool q, .slice A2 n2 c2]] w (QR w M (stepQ ins regs ((o : Int), a, b, x3, x4, r))) := by
 have hl : regs.length = m := hm.sr.len
 have hn : ins.length = n := hm.si.len
 have up : ∀ {i : Int}, belowB i (m : Int) = true → belowB i regs.length = true := fun h => by rw [hl]; exact h
 rcases right_at hr with ⟨e, h1⟩ | ⟨e, h1⟩ | ⟨h3, h1, h2⟩ | ⟨e, h1, h2⟩ | ⟨e, h1, h2, h4, h5⟩
 · obtain rfl : o = 1 := by omega
   exact cop1_any hM hm hx h1
 · obtain rfl : o = 2 := by omega
   exact cop2_any hM hm hx h1
 · have h3' : o = 3 ∨ o = 4 ∨ o = 6 ∨ o = 7 := by omega
   have oa := (hs.ref (up h1)).1; have ob := (hs.ref (up h2)).1; have hf := hs.fine (up h1) (up h2)
   rcases h3' with rfl | rfl | rfl | rfl
   · exact cop3_any hM hm hx h1 h2 oa ob hf
   · exact cop4_any hM hm hx h1 h2 oa ob hf
   · exact cop6_any hM hm hx h1 h2 oa ob hf
   · exact cop7_any hM hm hx h1 h2 oa ob hf
 · obtain rfl : o = 5 := by omega
   exact cop5_any hM hm hx h2 h1 (hs.ref (up h1)).1 ((hs.ref (up h1)).2.fine (few3_right h2 hf))
 · obtain rfl : o = 8 := by omega
   exact cop8_any hM hm hx h1 h2 h4 h5 (hs.ref (up h1)).1 (hs.ref (up h2)).1 (hs.fine (up h1) (up h2))
theorem rstep_any {o : Nat} {ins regs : List Rt} (hM : Bel M w) (hi : SlQ w M A n c ins) (hl : SlQ w M B m l regs) (hx : XC w M r p q A1 n1 c1 A2 n2 c2) (hr : rightI m n ((o : Int), a, b, x3, x4, r) = true) (hf : Few3 r) (hs : AllS regs) :
 Calls Tryz.prog 83 #[.agg #[.int .i64 (o : Int), .int .i64 a, .int .i64 b, .int .i64 x3, .int .i64 x4, .bool p, .slice A1 n1 c1, .bool q, .slice A2 n2 c2], .slice A n c, .slice B m l] w (QR w M (stepQ ins regs ((o : Int), a, b, x3, x4, r))) := by
 have hle : regs.length = m := hl.len
 have up : ∀ {i : Int}, belowB i (m : Int) = true → belowB i regs.length = true := fun h => by rw [hle]; exact h
 rcases right_at hr with ⟨e, h1⟩ | ⟨e, h1⟩ | ⟨h3, h1, h2⟩ | ⟨e, h1, h2⟩ | ⟨e, h1, h2, h4, h5⟩
 · obtain rfl : o = 1 := by omega
   exact rstp1_any hM hx h1
 · obtain rfl : o = 2 := by omega
   exact rstp2_any hM hx hi h1
 · have h3' : o = 3 ∨ o = 4 ∨ o = 6 ∨ o = 7 := by omega
   have oa := (hs.ref (up h1)).1; have ob := (hs.ref (up h2)).1; have hf := hs.fine (up h1) (up h2)
   rcases h3' with rfl | rfl | rfl | rfl
   · exact rstp3_any hM hx hl h1 h2 oa ob hf
   · exact rstp4_any hM hx hl h1 h2 oa ob hf
   · exact rstp6_any hM hx hl h1 h2 oa ob hf
   · exact rstp7_any hM hx hl h1 h2 oa ob hf
 · obtain rfl : o = 5 := by omega
   exact rstp5_any hM hx h2 hl h1 (hs.ref (up h1)).1 ((hs.ref (up h1)).2.fine (few3_right h2 hf))
 · obtain rfl : o = 8 := by omega
   exact rstp8_any hM hx hl h1 h2 h4 h5 (hs.ref (up h1)).1 (hs.ref (up h2)).1 (hs.fine (up h1) (up h2))
theorem gstep_any {ib o : Nat} {ins regs : List Rg} (hM : Bel M w) (hi : SlG w M A n c ins) (hc : w.cell? ⟨ib, 0, none⟩ = some (.slice A n c)) (hl : SlG w M B m l regs) (hx : XC w M r p q A1 n1 c1 A2 n2 c2) (hr : rightI m n ((o : Int), a, b, x3, x4, r) = true) (hf : Few3 r) (hs : AllS (ends regs)) :
 Calls Tryz.prog (opG o) (if o = 2 then #[.agg #[.int .i64 (o : Int), .int .i64 a, .int .i64 b, .int .i64 x3, .int .i64 x4, .bool p, .slice A1 n1 c1, .bool q, .slice A2 n2 c2], .slice B m l, .pointer (some ⟨ib, 0, none⟩)] else #[.agg #[.int .i64 (o : Int), .int .i64 a, .int .i64 b, .int .i64 x3, .int .i64 x4, .bool p, .slice A1 n1 c1, .bool q, .slice A2 n2 c2], .slice B m l]) w (GRet w M (stepG ins regs ((o : Int), a, b, x3, x4, r))) := by
 have hle : regs.length = m := hl.len
 have up : ∀ {i : Int}, belowB i (m : Int) = true → belowB i regs.length = true := fun h => by rw [hle]; exact h
 rcases right_at hr with ⟨e, h1⟩ | ⟨e, h1⟩ | ⟨h3, h1, h2⟩ | ⟨e, h1, h2⟩ | ⟨e, h1, h2, h4, h5⟩
 · obtain rfl : o = 1 := by omega
   exact stp1_any hM hx h1
 · obtain rfl : o = 2 := by omega
   exact stp2_any hM hx hi hc h1
 · have h3' : o = 3 ∨ o = 4 ∨ o = 6 ∨ o = 7 := by omega
   have oa := hs.refG (up h1); have ob := hs.refG (up h2)
   rcases h3' with rfl | rfl | rfl | rfl
   · exact stp3_any hM hx hl h1 h2 oa ob
   · exact stp4_any hM hx hl h1 h2 oa ob
   · exact stp6_any hM hx hl h1 h2 oa ob
   · exact stp7_any hM hx hl h1 h2 oa ob
 · obtain rfl : o = 5 := by omega
   exact stp5_any hM hx h2 (few3_right h2 hf) hl h1 (hs.refG (up h1))
 · obtain rfl : o = 8 := by omega
   exact stp8_any hM hx hl h1 h2 h4 h5 (hs.refG (up h1)) (hs.refG (up h2)) (hs.refG (up h4)) (hs.refG (up h5))
end
end
end Go.Proofs.YtboapndkopabiaaGreat
