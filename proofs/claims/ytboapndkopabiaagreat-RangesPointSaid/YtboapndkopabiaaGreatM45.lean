/- Lemmas and walks (Byt Row20b Pick1 Pick2 Pick3 Law4). No statement is proved here. -/
import Derived.Test.YtboapndkopabiaaGreatM40
set_option linter.unusedVariables false
set_option linter.unusedSimpArgs false
namespace Go.Proofs.YtboapndkopabiaaGreat
section
open Go.ChangeShapes Go.WideShapes Go.ChangeAt Go.RowKit Go.Deep Go.Joins
instance : Rep (Fin 256) where
 sz := 1
 rd _ _ n cs := cs = [.int .u8 (n.val : Int)]
 len h := by rw [h]; rfl
 keep h _ := h
 less h _ := h
 more h _ := h
instance : Rep1 (Fin 256) := ⟨by decide⟩
theorem opens_u8 {P : Program} {t : TypeId} (ht : P.underlying t = some (.int .u8)) : Opens (Fin 256) P t := by
 intro H enc w held fuel cs d pl h _
 obtain ⟨n, rfl, _, hw⟩ := DataW.trod_int ht h
 have hb := bounds_u8 hw
 obtain ⟨k, rfl⟩ := Int.eq_ofNat_of_zero_le (show 0 ≤ n by omega)
 exact ⟨⟨k, by omega⟩, rfl⟩
theorem Sl.byte {M : List Nat} {w : World} {A : Option Addr} {n c : Nat} {xs : List (Fin 256)} (h : Sl (Fin 256) w M A n c xs) {k : Nat} {x : Fin 256} (hk : xs[k]? = some x) :
 ∃ b o, A = some ⟨b, o, none⟩ ∧ w.cell? ⟨b, o + k, none⟩ = some (.int .u8 (x.val : Int)) := by
 obtain ⟨b, o, es, rfl, rfl, h2⟩ := h.get hk
 exact ⟨b, o, rfl, by have := h2.c0 rfl; rwa [show Rep.sz (Fin 256) = 1 from rfl, Nat.mul_one] at this⟩
def bytes (l : List (Fin 256)) : List Nat := l.map (·.val)
end
section
open Go.ChangeShapes Go.WideShapes Go.ChangeAt Go.RowKit Go.Deep Go.Joins
set_option maxRecDepth 100000
theorem opens_u8s : Opens (List (Fin 256)) Tryz.prog 45 := opens_slice Tryz.underlying45 (by kernel_rfl) (by decide +kernel) (opens_u8 Tryz.underlying5)
theorem arg_u8s {H : Type} {enc : TypeId × Value → H} {W : World} {v : Value} {d : DataW H} {p : List MemPlace} {b : Nat} (hv : Value.okWide Tryz.prog W .any b 45 v) (h : DataW.Trod enc Tryz.prog W 0 (fun _ => true) true 45 v d p) (hw : ∀ n, n ∈ d.weights Tryz.prog 45 → n ≤ reachBytes) :
 ∃ A n c xs, v = .slice A n c ∧ Sl (Fin 256) W [] A n c xs := by
 obtain ⟨A, n, c, rfl⟩ := okWide_slice Tryz.underlying45 hv
 obtain ⟨fuel, hf⟩ := h
 obtain ⟨xs, A', n', c', e, hs⟩ := opens_u8s H enc W true fuel _ d p hf hw
 simp [Value.cells] at e
 obtain ⟨rfl, rfl, rfl⟩ := e
 exact ⟨A, n, c, xs, rfl, hs⟩
end
section
def partQ (k : Nat) : Rt := lowM k 255
def pickQ (x : Rg) (k : Nat) : Rt := addQ x.1 (mulQ (partQ k) (subQ x.2 x.1))
theorem part_bd {k : Nat} (hk : k ≤ 255) : Bd 255 1 (partQ k) :=
 ⟨low_ok (by omega) (fits_i64 (by unfold i64; omega)) (fits_i64 (by unfold i64; omega)), low_dvd (by omega) (fits_i64 (by unfold i64; omega)) (fits_i64 (by unfold i64; omega)) (Int.dvd_mul_left _ _), low_abs (by omega) (by omega)⟩
theorem part_sh {k : Nat} (hk : k ≤ 255) : Sh (partQ k) := (part_bd hk).sh (i := 1) (j := 1) (by omega) (by decide) (by decide) (by omega)
theorem part_num (k : Nat) : 0 ≤ (partQ k).num := by
 unfold partQ
 rw [low_pos (by omega)]
 exact Int.ediv_nonneg (by omega) (by omega)
theorem rv_zero : rv ⟨0, 1⟩ = 0 := by unfold rv; simp
theorem rv_one : rv ⟨1, 1⟩ = 1 := by
 unfold rv
 first | rfl | decide | exact Rat.divInt_self' (by decide) | exact Rat.divInt_one 1
theorem ok_zero : (⟨0, 1⟩ : Rt).ok := ⟨by simp, by simp, fits_i64 (by unfold i64; simp), fits_i64 (by unfold i64; simp)⟩
theorem ok_one : (⟨1, 1⟩ : Rt).ok := ⟨by simp, by simp, fits_i64 (by unfold i64; simp), fits_i64 (by unfold i64; simp)⟩
theorem part_rv {k : Nat} (hk : k ≤ 255) : 0 ≤ rv (partQ k) ∧ rv (partQ k) ≤ 1 := by
 have h := part_bd hk
 have h1 := part_num k
 have h2 := h.ok.pos
 have h3 := h.le
 rw [← rv_zero, ← rv_one, rv_le ok_zero h.ok, rv_le h.ok ok_one]
 constructor
 · show 0 * _ ≤ _ * 1
   omega
 · show _ * 1 ≤ 1 * _
   omega
def Rg3 (x : Rg) : Prop := (x.1.ok ∧ x.1.num.natAbs < BB ^ 3 ∧ x.1.den.natAbs < BB ^ 3) ∧ (x.2.ok ∧ x.2.num.natAbs < BB ^ 3 ∧ x.2.den.natAbs < BB ^ 3) ∧ underG x = false
theorem Rg3.le {x : Rg} (h : Rg3 x) : rv x.1 ≤ rv x.2 := by
 have h1 := of_decide_eq_false h.2.2
 rw [cmpQ_lt h.2.1.1 h.1.1] at h1
 grind
theorem Rg3.bd {x : Rg} (h : Rg3 x) : ∃ D, 0 < D ∧ D < BB ^ 6 ∧ Bd D (BB ^ 3) x.1 ∧ Bd D (BB ^ 3) x.2 := by
 obtain ⟨⟨o1, n1, d1⟩, ⟨o2, n2, d2⟩, -⟩ := h
 have p1 := o1.pos
 have p2 := o2.pos
 refine ⟨x.1.den.natAbs * x.2.den.natAbs, Nat.mul_pos (by omega) (by omega), ?_, ⟨o1, ?_, ?_⟩, ⟨o2, ?_, ?_⟩⟩
 · rw [show 6 = 3 + 3 by rfl, Nat.pow_add]
   exact Nat.mul_lt_mul'' d1 d2
 · rw [Int.natCast_mul]
   exact Int.dvd_trans (Int.dvd_natAbs.2 (Int.dvd_refl _)) (Int.dvd_mul_right _ _)
 · have : BB ^ 3 * 1 ≤ BB ^ 3 * x.1.den.natAbs := Nat.mul_le_mul_left _ (by omega)
   omega
 · rw [Int.natCast_mul]
   exact Int.dvd_trans (Int.dvd_natAbs.2 (Int.dvd_refl _)) (Int.dvd_mul_left _ _)
 · have : BB ^ 3 * 1 ≤ BB ^ 3 * x.2.den.natAbs := Nat.mul_le_mul_left _ (by omega)
   omega
structure PickOk (x : Rg) (k : Nat) : Prop where
 o1 : x.1.ok
 o2 : x.2.ok
 f1 : Fine x.2 x.1
 os : (subQ x.2 x.1).ok
 f2 : Fine (partQ k) (subQ x.2 x.1)
 om : (mulQ (partQ k) (subQ x.2 x.1)).ok
 f3 : Fine x.1 (mulQ (partQ k) (subQ x.2 x.1))
 ok : (pickQ x k).ok
 num : (pickQ x k).num.natAbs < BB ^ 30
 den : (pickQ x k).den.natAbs < BB ^ 7
theorem pow_BB3 : 4 * BB ^ 3 ≤ BB ^ 4 := by decide
theorem pick_ok {x : Rg} {k : Nat} (h : Rg3 x) (hk : k ≤ 255) : PickOk x k := by
 obtain ⟨D, h0, hD, h1, h2⟩ := h.bd
 have s1 := h1.sh (i := 6) (j := 3) h0 hD (Nat.le_refl _) (by omega)
 have s2 := h2.sh (i := 6) (j := 3) h0 hD (Nat.le_refl _) (by omega)
 have f1 := s2.fine s1
 have b3 := h2.diff h1 f1
 have p4 := pow_BB3
 have s3 := b3.sh (i := 6) (j := 4) h0 hD (by omega) (by omega)
 have f2 := (part_sh hk).fine s3
 have b4 := (part_bd hk).prod b3 f2
 have hD7 : 255 * D < BB ^ 7 := by
  rw [show BB ^ 7 = BB * BB ^ 6 by rw [Nat.pow_succ, Nat.mul_comm]]; have e1 : 255 * D ≤ BB * D := Nat.mul_le_mul_right _ (by decide); have e2 : BB * D < BB * BB ^ 6 := Nat.mul_lt_mul_of_pos_left hD BB_pos; omega
 have s4 := b4.sh (i := 7) (j := 4) (by omega) hD7 (by omega) (by omega)
 have f3 := s1.fine s4
 have b5 := (h1.up (D' := 255 * D) (A' := 1 * (2 * BB ^ 3)) (Nat.dvd_mul_left _ _) (by omega)).sum b4 f3
 have hp := b5.ok.pos
 have hdl : (pickQ x k).den.natAbs ≤ 255 * D := by
  have := Int.natAbs_dvd_natAbs.2 b5.dv; rw [Int.natAbs_natCast] at this; exact Nat.le_of_dvd (by omega) this
 have s5 := b5.le
 refine ⟨h1.ok, h2.ok, f1, b3.ok, f2, b4.ok, f3, b5.ok, ?_, Nat.lt_of_le_of_lt hdl hD7⟩
 have e1 : 2 * (1 * (2 * BB ^ 3)) * (pickQ x k).den.natAbs ≤ BB ^ 4 * (pickQ x k).den.natAbs := Nat.mul_le_mul_right _ (by omega)
 have e2 : BB ^ 4 * (pickQ x k).den.natAbs < BB ^ 4 * BB ^ 7 := Nat.mul_lt_mul_of_pos_left (Nat.lt_of_le_of_lt hdl hD7) (Nat.pow_pos BB_pos)
 rw [← Nat.pow_add] at e2
 exact Nat.lt_of_le_of_lt (Nat.le_trans s5 e1) (Nat.lt_of_lt_of_le e2 (pow_BB (by omega)))
theorem pick_in {x : Rg} {k : Nat} (h : Rg3 x) (hk : k ≤ 255) : InR (rv (pickQ x k)) (rvG x) := by
 have p := pick_ok h hk
 have e : rv (pickQ x k) = rv x.1 + rv (partQ k) * (rv x.2 - rv x.1) := by
  unfold pickQ; rw [rv_addQ p.o1 p.om p.f3, rv_mulQ (part_bd hk).ok p.os p.f2, rv_subQ p.o2 p.o1 p.f1]
 have t := part_rv hk
 have hl := h.le
 have m0 := Rat.mul_nonneg t.1 (show 0 ≤ rv x.2 - rv x.1 by grind)
 have m1 := Rat.mul_le_mul_of_nonneg_right t.2 (show 0 ≤ rv x.2 - rv x.1 by grind)
 unfold InR rvG
 rw [e]
 constructor
 · show rv x.1 ≤ _
   grind
 · show _ ≤ rv x.2
   grind
def picksN (l : List Rg) (ks : List Nat) (n : Nat) : List Rt := (List.range n).map fun i => pickQ (regG l (i : Nat)) (ks.getD i 0)
theorem picksN_succ (l : List Rg) (ks : List Nat) (n : Nat) : picksN l ks (n + 1) = picksN l ks n ++ [pickQ (regG l n) (ks.getD n 0)] := by
 unfold picksN
 rw [List.range_succ, List.map_append]
 rfl
theorem picksN_len (l : List Rg) (ks : List Nat) (n : Nat) : (picksN l ks n).length = n := by simp [picksN]
theorem picksN_at {l : List Rg} {ks : List Nat} {n i : Nat} (hi : i < n) : regQ (picksN l ks n) i = pickQ (regG l i) (ks.getD i 0) := by
 simp [regQ, picksN, List.getD_eq_getElem?_getD, hi]
def Byte (ks : List Nat) : Prop := ∀ k, k ∈ ks → k ≤ 255
theorem Byte.at_ {ks : List Nat} (h : Byte ks) (i : Nat) : ks.getD i 0 ≤ 255 := by
 rw [List.getD_eq_getElem?_getD]
 cases e : ks[i]? with
 | none => simp
 | some x => exact h x (List.mem_of_getElem? e)
def All3 (l : List Rg) : Prop := ∀ i : Nat, i < l.length → Rg3 (regG l i)
theorem all3_of {ins : List RngR} (hg : fewGs ins = true) (ho : ins.all rngOk = true) (hu : (ins.map decG).any underG = false) : All3 (ins.map decG) := by
 intro i hi
 have h := (few_ltG hg ho).2
 have hm : regG (ins.map decG) i ∈ ins.map decG := by
  unfold regG; rw [List.getD_eq_getElem?_getD, Int.toNat_natCast, List.getElem?_eq_getElem hi]; exact List.getElem_mem hi
 have := mem_ends hm
 exact ⟨h _ this.1, h _ this.2, by simpa using List.any_eq_false.1 hu _ hm⟩
theorem picks_of {l : List Rg} {ks : List Nat} (h : All3 l) (hk : Byte ks) {n : Nat} (hn : n ≤ l.length) : ∀ x, x ∈ picksN l ks n → x.ok ∧ x.num.natAbs < BB ^ 30 ∧ x.den.natAbs < BB ^ 7 := by
 intro x hx
 obtain ⟨i, hi, rfl⟩ := List.mem_map.1 hx
 have p := pick_ok (h i (by have := List.mem_range.1 hi; omega)) (hk.at_ i)
 exact ⟨p.ok, p.num, p.den⟩
theorem picks_regs {l : List Rg} {ks : List Nat} (h : All3 l) (hk : Byte ks) (hl : l.length ≤ 15) : Regs 0 (picksN l ks l.length) :=
 regs_few (j := 7) (picks_of h hk (Nat.le_refl _)) (by rw [picksN_len]; omega)
theorem picks_holds {l : List Rg} {ks : List Nat} (h : All3 l) (hk : Byte ks) : HoldsL (picksN l ks l.length) l := by
 refine ⟨picksN_len _ _ _, fun i hi => ?_⟩
 have h1 := of_decide_eq_true hi
 rw [picksN_len] at h1
 obtain ⟨j, rfl⟩ : ∃ j : Nat, i = j := ⟨i.toNat, by omega⟩
 rw [picksN_at (by omega)]
 exact pick_in (h j (by omega)) (hk.at_ j)
theorem out_holds {ins : List Rt} {insG : List Rg} {p : List InsR} (h0 : Regs 0 ins) (g0 : Regs 0 (ends insG)) (hi : HoldsL ins insG) (hr : rightsI ins.length 0 p = true) (hf : FewP p) (hl : p.length ≤ 20) (h1 : 1 ≤ p.length) : InR (rv (resQ p ins)) (rvG (outG p insG)) := by
 have h := whole_holds h0 g0 hi hr hf hl p.length (Nat.le_refl _)
 rw [List.take_length] at h
 have hb : belowB ((p.length : Int) - 1) (runsQ ins [] p).length = true := decide_eq_true (by rw [runsQ_len]; simp; omega)
 exact h.2 _ hb
theorem out_sub {ins : List Rt} {insG insG' : List Rg} {p : List InsR} (h0 : Regs 0 ins) (g0 : Regs 0 (ends insG)) (g1 : Regs 0 (ends insG')) (hi : HoldsL ins insG) (hs : SubL insG insG') (hr : rightsI ins.length 0 p = true) (hf : FewP p) (hl : p.length ≤ 20) (h1 : 1 ≤ p.length) : Sub2 (rvG (outG p insG)) (rvG (outG p insG')) := by
 have h := whole_sub h0 g0 g1 hi hs hr hf hl p.length (Nat.le_refl _)
 rw [List.take_length] at h
 have hb : belowB ((p.length : Int) - 1) (runsG insG [] p).length = true := decide_eq_true (by rw [runsG_len]; simp; omega)
 exact h.2 _ hb
theorem out_dup (ins : List Rt) (p : List InsR) : outG p (ins.map dup) = dup (resQ p ins) := by
 unfold outG resQ
 rw [show ([] : List Rg) = ([] : List Rt).map dup by rfl, runs_dup, regG_dup]
theorem out_zero {p : List InsR} {ins : List RngR} (h : outE p ins = 0) : codeE p ins.length = 0 ∧ ins.all rngOk = true ∧ (ins.map decG).any underG = false := by
 unfold outE at h
 split at h
 · next h1 =>
   split at h
   · next h2 =>
     split at h
     · cases h
     · next h3 =>
       refine ⟨h1, h2, ?_⟩; rw [← any_under, enc_decGs h2]
       simpa using h3
   · cases h
 · cases h
end
section
open Go.RowKit Go.Shelf
attribute [local go_sem] Oper.semAt_some
def rightB (p : List InsR) (ins : List RngR) : Bool := fewPB p && fewGs ins && decide (outE p ins = 0)
set_option maxRecDepth 20000 in
set_option maxHeartbeats 8000000 in
theorem lright_any {A B : Option Addr} {n c m d : Nat} {p : List InsR} {ins : List RngR} {w : World} (hp : Sl InsR w [] A n c p) (hi : Sl RngR w [] B m d ins) :
 Calls Tryz.prog 18 #[.slice A n c, .slice B m d] w fun e w' => e = .returned (.bool (rightB p ins)) ∧ Below w.heap.size w w' := by
 refine wid ?_
 have H := Hd2 hp hi
 clear hp hi
 cases hf : fewPB p
 · have HFP := Hd hf
   have HR := Hd (show rightB p ins = false by unfold rightB; rw [hf]; rfl); clear hf; refine ent Tryz.func18 rfl Tryz.ntmps18 ?_
   gi_wp2_with (first
    | (refine Cl 9 (fewP_any (M := []) _ n c p _ H.out.1) ?_
       rintro e w2 ⟨rfl, hb2⟩; rw [HFP.out]; have HB := Hd hb2
       clear hb2)
    | (refine ⟨trivial, ?_⟩))
   go_ret; exact ⟨by rw [HR.out]; first | rfl | simp, HB.out⟩
 · have HFP := Hd hf
   cases hg : fewGs ins
   · have HFG := Hd hg
     have HR := Hd (show rightB p ins = false by unfold rightB; rw [hf, hg]; rfl); clear hf hg; refine ent Tryz.func18 rfl Tryz.ntmps18 ?_
     gi_wp2_with (first
      | (refine Cl 10 (fewGs_any (M := []) _ m d ins _ (H.out.2.go HB.out)) ?_
         rintro e w3 ⟨rfl, hb3⟩; rw [HFG.out]; replace HB := Hd (HB.out.trans (hb3.mono HB.out.size))
         clear hb3)
      | (refine Cl 9 (fewP_any (M := []) _ n c p _ H.out.1) ?_
         rintro e w2 ⟨rfl, hb2⟩; rw [HFP.out]; have HB := Hd hb2
         clear hb2)
      | (refine ⟨trivial, ?_⟩))
     go_ret; exact ⟨by rw [HR.out]; first | rfl | simp, HB.out⟩
   · have HFG := Hd hg
     obtain ⟨E, hE⟩ : ∃ E, outE p ins = E := ⟨_, rfl⟩
     have HEE := Hd hE; have HR := Hd (show rightB p ins = decide (E = 0) by unfold rightB; rw [hf, hg, hE]; rfl); clear hf hg hE; refine ent Tryz.func18 rfl Tryz.ntmps18 ?_
     gi_wp2_with (first
      | (refine Cl 12 (sout_any (M := []) (Bel.nil _) (H.out.1.go HB2.out) (H.out.2.go HB2.out) HFP.out HFG.out) ?_
         rintro e w4 hR; obtain ⟨u4, rfl, ⟨A1, n1, c1, B1, m1, d1, A2, n2, c2, B2, m2, d2, rfl, -, -, -, -⟩, hb⟩ := hR
         obtain ⟨p1, hp1⟩ : ∃ p1, (outV p ins).1.1.1 = p1 := ⟨_, rfl⟩
         obtain ⟨q1, hq1⟩ : ∃ p1, (outV p ins).1.2.1 = p1 := ⟨_, rfl⟩
         obtain ⟨p2, hp2⟩ : ∃ p1, (outV p ins).2.1.1 = p1 := ⟨_, rfl⟩
         obtain ⟨q2, hq2⟩ : ∃ p1, (outV p ins).2.2.1 = p1 := ⟨_, rfl⟩
         rw [hp1, hq1, hp2, hq2]; clear hp1 hq1 hp2 hq2; rw [HEE.out]
         obtain ⟨V, hV⟩ : ∃ V : World, w4.alloc (.cells #[.bool p1, .slice A1 n1 c1, .bool q1, .slice B1 m1 d1, .bool p2, .slice A2 n2 c2, .bool q2, .slice B2 m2 d2] 33) = V := ⟨_, rfl⟩
         have hb2 : Below w4.heap.size w4 V := by rw [← hV]; exact bel
         have HB3 := Hd (HB2.out.trans ((hb.trans (hb2.mono hb.size)).mono HB2.out.size))
         clear hb hb2)
      | (refine Cl 10 (fewGs_any (M := []) _ m d ins _ (H.out.2.go HB.out)) ?_
         rintro e w3 ⟨rfl, hb3⟩; rw [HFG.out]; have HB2 := Hd (HB.out.trans (hb3.mono HB.out.size))
         clear hb3)
      | (refine Cl 9 (fewP_any (M := []) _ n c p _ H.out.1) ?_
         rintro e w2 ⟨rfl, hb2⟩; rw [HFP.out]; have HB := Hd hb2
         clear hb2)
      | (refine ⟨trivial, ?_⟩))
     go_ret; exact ⟨by rw [HR.out]; first | rfl | simp, HB3.out⟩
set_option maxRecDepth 20000 in
set_option maxHeartbeats 8000000 in
theorem within_yes {M : List Nat} {va vb : Value} {a b : Rg} {w : World} (hM : Bel M w) (ha : GW w M va a) (hb : GW w M vb b) (oa : OkG a) (ob : OkG b) (h1 : cmpQ b.1 a.1 ≤ 0) (h2 : cmpQ a.2 b.2 ≤ 0) :
 Calls Tryz.prog 21 #[va, vb] w fun e w' => e = .returned (.bool true) ∧ Below w.heap.size w w' := by
 refine wid ?_
 obtain ⟨p1, q1, A1, n1, c1, B1, m1, d1, p2, q2, A2, n2, c2, B2, m2, d2, rfl, qa1, qa2⟩ := ha
 obtain ⟨p3, q3, A3, n3, c3, B3, m3, d3, p4, q4, A4, n4, c4, B4, m4, d4, rfl, qb1, qb2⟩ := hb
 obtain ⟨W1, hW1, F1⟩ := nam (((Fr.nil w).a w.heap.size [.bool p1, .slice A1 n1 c1, .bool q1, .slice B1 m1 d1, .bool p2, .slice A2 n2 c2, .bool q2, .slice B2 m2 d2] 33).a (w.heap.size + 1) [.bool p3, .slice A3 n3 c3, .bool q3, .slice B3 m3 d3, .bool p4, .slice A4 n4 c4, .bool q4, .slice B4 m4 d4] 33)
 refine op1 F1 ?_; intros
 have X := Hd6 (hM.le F1.bl.size) (qa1.go F1.bl) (qa2.go F1.bl) (qb1.go F1.bl) (qb2.go F1.bl) (And.intro oa ob)
 obtain ⟨k1, hk1⟩ : ∃ k, cmpQ b.1 a.1 = k := ⟨_, rfl⟩
 obtain ⟨k2, hk2⟩ : ∃ k, cmpQ a.2 b.2 = k := ⟨_, rfl⟩
 rw [hk1] at h1
 rw [hk2] at h2
 have HK1 := Hd hk1
 have HK2 := Hd hk2
 have F := Hd F1
 clear hk1 hk2 qa1 qa2 qb1 qb2 oa ob hM F1
 refine ent Tryz.func21 rfl Tryz.ntmps21 ?_
 gi_wp2_with (first
  | (have g' := G2.out; clear g'
     refine Cl 22 (qCmp_any (M := M) (a := a.2) (b := b.2) (X.out.1.le G2.out.2.size) (X.out.2.2.1.go G2.out.2).qw (X.out.2.2.2.2.1.go G2.out.2).qw X.out.2.2.2.2.2.1.2.1 X.out.2.2.2.2.2.2.2.1 (X.out.2.2.2.2.2.1.2.2.fine X.out.2.2.2.2.2.2.2.2)) ?_; rintro e w3 ⟨rfl, hb3⟩; rw [HK2.out]; have G3 := Hd (G2.out.1.go hb3)
     clear hb3)
  | (refine Cl 22 (qCmp_any (M := M) (a := b.1) (b := a.1) X.out.1 X.out.2.2.2.1.qw X.out.2.1.qw X.out.2.2.2.2.2.2.1.1 X.out.2.2.2.2.2.1.1.1 (X.out.2.2.2.2.2.2.1.2.fine X.out.2.2.2.2.2.1.1.2)) ?_
     rintro e w2 ⟨rfl, hb2⟩; rw [HK1.out]; have F2 := F.out.go hb2; refine op1 F2 ?_; intros; have G2 := Hd2 F2 hb2
     clear hb2 F2)
  | fail)
 go_ret
 exact ⟨by first | rfl | simp, G3.out.bl⟩
set_option maxRecDepth 20000 in
set_option maxHeartbeats 8000000 in
theorem lpick_any {M : List Nat} {va : Value} {x : Rg} {k : Nat} {w : World} (hM : Bel M w) (ha : GW w M va x) (hk : k ≤ 255) (h : PickOk x k) :
 Calls Tryz.prog 40 #[va, .int .u8 (k : Int)] w fun e w' => ∃ u, e = .returned (.tuple #[u, .bool true]) ∧ QW w' M u (pickQ x k) ∧ Below w.heap.size w w' := by
 refine wid ?_
 obtain ⟨p1, q1, A1, n1, c1, B1, m1, d1, p2, q2, A2, n2, c2, B2, m2, d2, rfl, qa1, qa2⟩ := ha
 obtain ⟨W1, hW1, F1⟩ := nam (((Fr.nil w).a w.heap.size [.bool p1, .slice A1 n1 c1, .bool q1, .slice B1 m1 d1, .bool p2, .slice A2 n2 c2, .bool q2, .slice B2 m2 d2] 33).a4 (w.heap.size + 1) 31)
 refine op1 F1 ?_; intros
 have hw : IntKind.i64.wrap (k : Int) = (k : Int) := by rw [IntKind.wrap_i64]; omega
 have X := Hd5 ((hM.le F1.bl.size).cons (F1.ltn 1)) ((qa1.more (b := w.heap.size + 1) (by omega)).go F1.bl) ((qa2.more (b := w.heap.size + 1) (by omega)).go F1.bl) h (part_bd hk).ok
 have I := Hd (show i64 (k : Int) by unfold i64; omega)
 have F := Hd F1
 clear qa1 qa2 hM h F1
 refine ent Tryz.func40 rfl Tryz.ntmps40 ?_
 gi_wp2_with (first
  | (refine Cl 63 (qAdd_any (M := (w.heap.size + 1) :: M) (a := x.1) (b := mulQ (partQ k) (subQ x.2 x.1)) (X.out.1.le H4.out.2.2.size) (X.out.2.1.go H4.out.2.2).qw H4.out.2.1.qw X.out.2.2.2.1.o1 X.out.2.2.2.1.om X.out.2.2.2.1.f3) ?_
     rintro e w8 ⟨u8, rfl, z8, hb8⟩; obtain ⟨p8, q8, A8, n8, c8, B8, m8, d8, rfl, qc8⟩ := QC.of z8; obtain ⟨W9, hW9, F9, -, kp9⟩ := Fr.put4 (L := []) (a0 := .bool false) (a1 := .slice none 0 0) (a2 := .bool false) (a3 := .slice none 0 0) (y := w.heap.size + 1) ((H4.out.1.go hb8).sub (fun x hx => by simp at hx; simp [hx])) (fun b vs hm => by simp at hm) (.bool p8) (.slice A8 n8 c8) (.bool q8) (.slice B8 m8 d8); have FO := H4.out.1.go hb8; refine op1 FO ?_; intros; refine op1 F9 ?_; intros; have H9 := Hd2 F9 (qc8.keep (kp9.mono (fun x hx => by simp at hx; simp [hx])))
     clear z8 hb8 FO F9 qc8 kp9)
  | (refine Cl 67 (qMul_any (M := (w.heap.size + 1) :: M) (a := partQ k) (b := subQ x.2 x.1) (X.out.1.le H3.out.2.2.2.size) H3.out.2.2.1.qw H3.out.2.1.qw X.out.2.2.2.2 X.out.2.2.2.1.os X.out.2.2.2.1.f2) ?_
     rintro e w6 ⟨u6, rfl, z6, hb6⟩; obtain ⟨p6, q6, A6, n6, c6, B6, m6, d6, rfl, qc6⟩ := QC.of z6; obtain ⟨W7, hW7, hbW7, F7⟩ := nam2 (w := w6) ((H3.out.1.go hb6).a w6.heap.size [.bool p6, .slice A6 n6 c6, .bool q6, .slice B6 m6 d6] 31); refine op1 F7 ?_; intros; have H4 := Hd3 F7 (qc6.go hbW7) (H3.out.2.2.2.trans ((hb6.trans (hbW7.mono hb6.size)).mono H3.out.2.2.2.size))
     clear z6 hb6 hbW7 F7 qc6)
  | (refine Cl 52 (qMake_any (M := (w.heap.size + 1) :: M) (n := (k : Int)) (d := 255) (X.out.1.le H2.out.2.2.size) I.out (by unfold i64; omega) (by omega)) ?_
     rintro e w4 ⟨u4, rfl, z4, hb4⟩; obtain ⟨p4, q4, A4, n4, c4, B4, m4, d4, rfl, qc4⟩ := QC.of z4; obtain ⟨W5, hW5, hbW5, F5⟩ := nam2 (w := w4) ((H2.out.1.go hb4).a w4.heap.size [.bool p4, .slice A4 n4 c4, .bool q4, .slice B4 m4 d4] 31); refine op1 F5 ?_; intros; have hb5 := hb4.trans (hbW5.mono hb4.size); have H3 := Hd4 F5 (H2.out.2.1.go hb5) (show QC W5 _ (partQ k) p4 q4 A4 n4 c4 B4 m4 d4 from qc4.go hbW5) (H2.out.2.2.trans (hb5.mono H2.out.2.2.size))
     clear z4 hb4 hbW5 hb5 F5 qc4)
  | (refine Cl 65 (qSub_any (M := (w.heap.size + 1) :: M) (a := x.2) (b := x.1) X.out.1 X.out.2.2.1.qw X.out.2.1.qw X.out.2.2.2.1.o2 X.out.2.2.2.1.o1 X.out.2.2.2.1.f1) ?_
     rintro e w2 ⟨u2, rfl, z2, hb2⟩; obtain ⟨p3, q3, A3, n3, c3, B3, m3, d3, rfl, qc2⟩ := QC.of z2; obtain ⟨W3, hW3, hbW3, F3⟩ := nam2 (w := w2) ((F.out.go hb2).a w2.heap.size [.bool p3, .slice A3 n3 c3, .bool q3, .slice B3 m3 d3] 31); refine op1 F3 ?_; intros; have H2 := Hd3 F3 (qc2.go hbW3) (hb2.trans (hbW3.mono hb2.size))
     clear z2 hb2 hbW3 F3 qc2)
  | fail)
 have hx := H9.out.1.nth 0
 obtain ⟨wF, hwF, t0, t1, t2, t3, hQ, bF⟩ := fin4 (M := M) (hx 0 _ rfl) (hx 1 _ rfl) (hx 2 _ rfl) (hx 3 _ rfl) (x := pickQ x k) H9.out.2.num.sl H9.out.2.den.sl H9.out.2.num.neg H9.out.2.den.neg H9.out.1.bl (Nat.le_succ _)
 try rw [hwF]
 exact ⟨rfl, .tuple #[.agg #[.bool p8, .slice A8 n8 c8, .bool q8, .slice B8 m8 d8], .bool true], by simp [results, go_sem, t0, t1, t2, t3], _, rfl, hQ, bF⟩
end
section
open Go.RowKit Go.Shelf
attribute [local go_sem] Oper.semAt_some
theorem lpick_zero {M : List Nat} {va : Value} {x : Rg} {w : World} (hM : Bel M w) (ha : GW w M va x) (h : PickOk x 0) :
 Calls Tryz.prog 40 #[va, .int .u8 0] w fun e w' => ∃ u, e = .returned (.tuple #[u, .bool true]) ∧ QW w' M u (pickQ x 0) ∧ Below w.heap.size w w' := lpick_any (k := 0) hM ha (by omega) h
set_option maxRecDepth 20000 in
set_option maxHeartbeats 16000000 in
theorem lpicked_any {M : List Nat} {A B : Option Addr} {m d e g : Nat} {l : List Rg} {ks : List (Fin 256)} {w : World} (hM : Bel M w) (hi : Sl RngR w M A m d (l.map encG)) (hk : Sl (Fin 256) w M B e g ks) (h3 : All3 l) (hm : m ≤ 15) :
 Calls Tryz.prog 19 #[.slice A m d, .slice B e g] w fun en w' => ∃ v, en = .returned (.tuple #[v, .bool true]) ∧ OwnQ w' M w.heap.size v m (picksN l (bytes ks) m) ∧ Below w.heap.size w w' := by
 refine wid ?_
 have hsi := hi.small
 have hsk := hk.small
 have HL := Hd (show l.length = m by have := hi.len; simpa using this)
 have HK := Hd hk.len
 have H := Hd4 hM (SlG.of hi) hk h3
 clear hM hi hk h3
 refine ent Tryz.func19 rfl Tryz.ntmps19 ?_
 gi_wp2
 gi_loopw [4, 13] (fun v0 i wr => ∃ (j : Nat) (v : Value), v = v0 ∧ j ≤ m ∧ i = .int .i64 j ∧ Hid (Fr w wr []) ∧ Hid (OwnQ wr M w.heap.size v j (picksN l (bytes ks) j))) (fun _ i _ => m - (intOf i).toNat)
 case atStart => exact ⟨0, _, rfl, Nat.zero_le _, rfl, Hd (Fr.nil w), Hd (OwnS.nil _ _ _)⟩
 case round =>
  obtain ⟨j, v, rfl, hj, rfl, hF, hO⟩ := hrel
  by_cases hlt : j < m
  · have hown : ∀ q, q ∈ ownL v → w.heap.size ≤ q ∧ q < wr.heap.size := fun q hq => hO.out.lt (mem_ownL.1 hq)
    have hsi0 : SlG wr (ownL v ++ M) A m d l := (H.out.2.1.moreL _ (fun q hq => (hown q hq).1)).go hF.out.bl
    have hbel : Bel (ownL v ++ M) wr := fun q hq => by
     rcases List.mem_append.1 hq with hq | hq
     · exact (hown q hq).2
     · exact H.out.1.le hF.out.bl.size q hq
    obtain ⟨b, o, p1, q1, A1, n1, c1, B1, m1, d1, p2, q2, A2, n2, c2, B2, m2, d2, rfl, ⟨h0, h1, h2, h3⟩, ⟨h4, h5, h6, h7⟩, qlo, qhi⟩ := hsi0.at_ hlt
    obtain ⟨Wk, hWk⟩ : ∃ W' : World, wr.alloc (.cells #[.bool p1, .slice A1 n1 c1, .bool q1, .slice B1 m1 d1, .bool p2, .slice A2 n2 c2, .bool q2, .slice B2 m2 d2] 33) = W' := ⟨_, rfl⟩
    have bk : Below wr.heap.size wr Wk := by rw [← hWk]; exact bel
    have RK : RowV Wk wr.heap.size [.bool p1, .slice A1 n1 c1, .bool q1, .slice B1 m1 d1, .bool p2, .slice A2 n2 c2, .bool q2, .slice B2 m2 d2] 33 := by rw [← hWk]; exact heap_alloc_new wr _
    have v0 := RK.cell (k := 0) rfl; have v1 := RK.cell (k := 1) rfl; have v2 := RK.cell (k := 2) rfl; have v3 := RK.cell (k := 3) rfl; have v4 := RK.cell (k := 4) rfl; have v5 := RK.cell (k := 5) rfl; have v6 := RK.cell (k := 6) rfl; have v7 := RK.cell (k := 7) rfl; have X := Hd4 (hbel.le bk.size) (show GW Wk (ownL v ++ M) _ (regG l j) from ⟨p1, q1, A1, n1, c1, B1, m1, d1, p2, q2, A2, n2, c2, B2, m2, d2, rfl, qlo.go bk, qhi.go bk⟩) bk (H.out.2.2.2 j (by rw [HL.out]; exact hlt))
    by_cases hje : j < e
    · obtain ⟨x8, hx8⟩ : ∃ x, ks[j]? = some x := ⟨_, List.getElem?_eq_getElem (by rw [HK.out]; exact hje)⟩
      obtain ⟨b5, o5, rfl, hc5⟩ := (H.out.2.2.1.go (hF.out.bl.trans (bk.mono hF.out.bl.size))).byte hx8
      have hx9 : (bytes ks).getD j 0 = x8.val := by simp [bytes, List.getD_eq_getElem?_getD, hx8]
      obtain ⟨k8, hk8⟩ : ∃ k, x8.val = k := ⟨_, rfl⟩
      have hk9 : k8 ≤ 255 := by have := x8.isLt; omega
      rw [hk8] at hc5 hx9; have HX := Hd hx9; clear hown hsi0 hbel qlo qhi bk RK hx8 hk8 hx9
      gi_wp2_with (first
       | (gi_at_builtin; refine wpListIn_plain rfl fun K hK' => ?_; refine wpIn_append _ _ _ rfl rfl rfl RUN.out (hK' _ _ ?_); clear hK' K)
       | (refine Cl 40 (lpick_any (M := ownL v ++ M) (x := regG l j) X.out.1 X.out.2.1 hk9 (pick_ok X.out.2.2.2 hk9)) ?_
          rintro e2 w2 ⟨u2, rfl, z2, hb2⟩; obtain ⟨p9, q9, A9, n9, c9, B9, m9, d9, rfl, qc9⟩ := QC.of z2
          obtain ⟨W3, hW3⟩ : ∃ W3 : World, w2.alloc (.cells #[.bool p9, .slice A9 n9 c9, .bool q9, .slice B9 m9 d9] 31) = W3 := ⟨_, rfl⟩
          have hb23 : Below w2.heap.size w2 W3 := by rw [← hW3]; exact bel
          have hb3 : Below wr.heap.size wr W3 := (X.out.2.2.1.trans (hb2.mono X.out.2.2.1.size)).trans (hb23.mono (Nat.le_trans X.out.2.2.1.size hb2.size))
          have R3 : RowV W3 w2.heap.size [.bool p9, .slice A9 n9 c9, .bool q9, .slice B9 m9 d9] 31 := by rw [← hW3]; exact heap_alloc_new w2 _
          have y0 := R3.cell (k := 0) rfl; have y1 := R3.cell (k := 1) rfl; have y2 := R3.cell (k := 2) rfl; have y3 := R3.cell (k := 3) rfl; have hs3 := Nat.le_trans hF.out.bl.size hb3.size; obtain ⟨v', wA, r1, r2, r3, -, -⟩ := app_rat (hO.out.go hb3) hs3 (H.out.1.le hs3) (qc9.go hb23) (by omega); have FA : Fr w wA [] := (hF.out.go hb3).grown r3 (fun q hq => ⟨(hO.out.lt hq).1, fun b vs hm => by simp at hm⟩); have RUN := Hd r1; have HF := Hd2 FA (show OwnQ wA M w.heap.size v' (j + 1) (picksN l (bytes ks) (j + 1)) by rw [picksN_succ, HX.out]; exact r2)
          clear z2 hb2 hb23 hb3 R3 r1 r2 r3 FA qc9 hs3)
       | fail)
      exact ⟨⟨j + 1, _, rfl, by omega, by go_num, HF.out.1, HF.out.2⟩, by simp [intOf]; omega⟩
    · have HX := Hd (show (bytes ks).getD j 0 = 0 by simp [bytes, List.getD_eq_getElem?_getD, List.getElem?_eq_none (show ks.length ≤ j by rw [HK.out]; omega)])
      clear hown hsi0 hbel qlo qhi bk RK
      gi_wp2_with (first
       | (gi_at_builtin; refine wpListIn_plain rfl fun K hK' => ?_; refine wpIn_append _ _ _ rfl rfl rfl RUN.out (hK' _ _ ?_); clear hK' K)
       | (refine Cl 40 (lpick_zero (M := ownL v ++ M) (x := regG l j) X.out.1 X.out.2.1 (pick_ok X.out.2.2.2 (by omega))) ?_
          rintro e2 w2 ⟨u2, rfl, z2, hb2⟩; obtain ⟨p9, q9, A9, n9, c9, B9, m9, d9, rfl, qc9⟩ := QC.of z2
          obtain ⟨W3, hW3⟩ : ∃ W3 : World, w2.alloc (.cells #[.bool p9, .slice A9 n9 c9, .bool q9, .slice B9 m9 d9] 31) = W3 := ⟨_, rfl⟩
          have hb23 : Below w2.heap.size w2 W3 := by rw [← hW3]; exact bel
          have hb3 : Below wr.heap.size wr W3 := (X.out.2.2.1.trans (hb2.mono X.out.2.2.1.size)).trans (hb23.mono (Nat.le_trans X.out.2.2.1.size hb2.size))
          have R3 : RowV W3 w2.heap.size [.bool p9, .slice A9 n9 c9, .bool q9, .slice B9 m9 d9] 31 := by rw [← hW3]; exact heap_alloc_new w2 _
          have y0 := R3.cell (k := 0) rfl; have y1 := R3.cell (k := 1) rfl; have y2 := R3.cell (k := 2) rfl; have y3 := R3.cell (k := 3) rfl; have hs3 := Nat.le_trans hF.out.bl.size hb3.size; obtain ⟨v', wA, r1, r2, r3, -, -⟩ := app_rat (hO.out.go hb3) hs3 (H.out.1.le hs3) (qc9.go hb23) (by omega); have FA : Fr w wA [] := (hF.out.go hb3).grown r3 (fun q hq => ⟨(hO.out.lt hq).1, fun b vs hm => by simp at hm⟩); have RUN := Hd r1; have HF := Hd2 FA (show OwnQ wA M w.heap.size v' (j + 1) (picksN l (bytes ks) (j + 1)) by rw [picksN_succ, HX.out]; exact r2)
          clear z2 hb2 hb23 hb3 R3 r1 r2 r3 FA qc9 hs3)
       | fail)
      exact ⟨⟨j + 1, _, rfl, by omega, by go_num, HF.out.1, HF.out.2⟩, by simp [intOf]; omega⟩
  · have hjn : j = m := by omega
    clear hj hlt; subst hjn; gi_wp2; go_ret2; exact ⟨_, rfl, hO.out, hF.out.bl⟩
end
section
open Go.RowKit Go.Shelf
attribute [local go_sem] Oper.semAt_some
structure RightH (p : List InsR) (ins : List RngR) (n m : Nat) (l : List Rg) : Prop where
 enc : ins = l.map encG
 ce : codeE p m = 0
 few : FewP p
 len : n ≤ 20
 pos : 1 ≤ n
 lp : p.length = n
 li : l.length = m
 m15 : m ≤ 15
 all3 : All3 l
 under : l.any underG = false
 regs : Regs 0 (ends l)
theorem right_h {A B : Option Addr} {n c m d : Nat} {p : List InsR} {ins : List RngR} {w : World} {M N : List Nat} (h : rightB p ins = true) (hp : Sl InsR w M A n c p) (hi : Sl RngR w N B m d ins) : RightH p ins n m (ins.map decG) := by
 unfold rightB at h
 simp only [Bool.and_eq_true, decide_eq_true_eq] at h
 obtain ⟨⟨h1, h2⟩, h3⟩ := h
 obtain ⟨ce, ok, un⟩ := out_zero h3
 have hm := hi.len
 rw [hm] at ce
 have hf := fewP_of h1 ce
 have hpos := ((codeE_iff p m).1 ce).1.1
 exact ⟨(enc_decGs ok).symm, ce, hf.2.1, by rw [← hp.len]; exact hf.1, by rw [← hp.len]; exact hpos, hp.len, by simpa using hm, by rw [← hm]; exact (few_ltG h2 ok).1, all3_of h2 ok un, un, regs_gs h2 ok⟩
theorem RightH.outH {A B : Option Addr} {n c m d : Nat} {p : List InsR} {ins : List RngR} {l : List Rg} {w : World} (h : RightH p ins n m l) (hp : Sl InsR w [] A n c p) (hi : Sl RngR w [] B m d (l.map encG)) : OutH w [] A n c B m d p l := ⟨Bel.nil _, hp, hi, h.ce, h.few, h.len, h.regs⟩
theorem RightH.rights {n m : Nat} {p : List InsR} {ins : List RngR} {l : List Rg} (h : RightH p ins n m l) : rightsI m 0 p = true := ((codeE_iff p m).1 h.ce).2
theorem OutH.res_ok {w : World} {M : List Nat} {A B : Option Addr} {n c m d : Nat} {p : List InsR} {l : List Rg} (h : OutH w M A n c B m d p l) : OkG (outG p l) := by
 rw [← h.res]
 refine (h.all (Nat.le_refl n)).refG (decide_eq_true ⟨by omega, ?_⟩)
 rw [runsG_len, List.length_take, h.lp]
 have := h.pos
 simp
 omega
theorem GV.gw {w : World} {M : List Nat} {v : Value} {x : Rg} (h : GV w M v (encG x)) : GW w M v x := by
 obtain ⟨A, n, c, B, m, d, E, i, e, F, j, f, rfl, h1, h2, h3, h4⟩ := h
 exact ⟨_, _, A, n, c, B, m, d, _, _, E, i, e, F, j, f, rfl, ⟨⟨rfl, h1⟩, ⟨rfl, h2⟩⟩, ⟨⟨rfl, h3⟩, ⟨rfl, h4⟩⟩⟩
theorem gout_right {A B : Option Addr} {n c m d : Nat} {p : List InsR} {l : List Rg} {w : World} (h : OutH w [] A n c B m d p l) (hu : l.any underG = false) :
 Calls Tryz.prog 11 #[.slice A n c, .slice B m d] w fun e w' => ∃ p1 q1 A1 n1 c1 B1 m1 d1 p2 q2 A2 n2 c2 B2 m2 d2, e = .returned (.tuple #[.agg #[.bool p1, .slice A1 n1 c1, .bool q1, .slice B1 m1 d1, .bool p2, .slice A2 n2 c2, .bool q2, .slice B2 m2 d2], .int .i64 0]) ∧ QC w' [] (outG p l).1 p1 q1 A1 n1 c1 B1 m1 d1 ∧ QC w' [] (outG p l).2 p2 q2 A2 n2 c2 B2 m2 d2 ∧ Below w.heap.size w w' :=
 (gout_ok h hu).mono fun e w' ⟨u, he, hg, hb⟩ => by
   rw [h.outV hu] at hg; rw [h.outE, hu] at he; obtain ⟨p1, q1, A1, n1, c1, B1, m1, d1, p2, q2, A2, n2, c2, B2, m2, d2, rfl, g1, g2⟩ := hg.gw; exact ⟨p1, q1, A1, n1, c1, B1, m1, d1, p2, q2, A2, n2, c2, B2, m2, d2, he, g1, g2, hb⟩
set_option maxRecDepth 20000 in
set_option maxHeartbeats 16000000 in
theorem rangesHold_true {A B C : Option Addr} {n c m d f g : Nat} {p : List InsR} {ins : List RngR} {ks : List (Fin 256)} {w : World} (hp : Sl InsR w [] A n c p) (hi : Sl RngR w [] B m d ins) (hk : Sl (Fin 256) w [] C f g ks) :
 Calls Tryz.prog 5 #[.slice A n c, .slice B m d, .slice C f g] w fun e w' => e = .returned (.bool true) ∧ Below w.heap.size w w' := by
 refine wid ?_
 have H := Hd3 hp hi hk
 have hsp := hp.small
 cases hr : rightB p ins
 · have HR := Hd hr
   clear hr hp hi hk; refine ent Tryz.func5 rfl Tryz.ntmps5 ?_
   gi_wp2_with (first
    | (refine Cl 18 (lright_any (H.out.1.go HB.out) (H.out.2.1.go HB.out)) ?_
       rintro e w2 ⟨rfl, hb2⟩; rw [HR.out]; have HB2 := Hd (HB.out.trans (hb2.mono HB.out.size))
       clear hb2)
      | (refine Cl 8 (U.sane_any _) ?_
         rintro e w1 ⟨rfl, hb1⟩; have HB := Hd hb1
         clear hb1)
    | (refine ⟨trivial, ?_⟩))
   go_ret; exact ⟨rfl, HB2.out⟩
 · have HR := Hd hr
   obtain ⟨l, hl⟩ : ∃ l, ins.map decG = l := ⟨_, rfl⟩
   have R := Hd (hl ▸ right_h hr hp hi)
   have hls : Sl RngR w [] B m d (l.map encG) := by rw [← R.out.enc]; exact hi
   have HI := Hd hls
   obtain ⟨L, hL⟩ : ∃ L, picksN l (bytes ks) m = L := ⟨_, rfl⟩
   have hby : Byte (bytes ks) := fun k hk => by
    obtain ⟨x, -, rfl⟩ := List.mem_map.1 hk; have := x.isLt; omega
   have HLL := Hd hL
   have hRL : Regs 0 L := by rw [← hL, ← R.out.li]; exact picks_regs R.out.all3 hby (by rw [R.out.li]; exact R.out.m15)
   have hHL : HoldsL L l := by rw [← hL, ← R.out.li]; exact picks_holds R.out.all3 hby
   have hLm : L.length = m := by rw [← hL, picksN_len]
   have hin := out_holds hRL R.out.regs hHL (by rw [hLm]; exact R.out.rights) R.out.few (by rw [R.out.lp]; exact R.out.len) (by rw [R.out.lp]; exact R.out.pos); have HRL := Hd hRL
   obtain ⟨y, hy⟩ : ∃ y, resQ p L = y := ⟨_, rfl⟩
   obtain ⟨G, hG⟩ : ∃ G, outG p l = G := ⟨_, rfl⟩
   have HY := Hd hy; have HG := Hd hG; rw [hy, hG] at hin; have HIN := Hd hin; have OG := Hd (hG ▸ (R.out.outH hp hls).res_ok); clear hr hp hi hk hl hls hL hby hRL hHL hLm hin hy hG; refine ent Tryz.func5 rfl Tryz.ntmps5 ?_
   gi_wp2_with (first
    | (refine Cl 21 (within_yes (M := []) (a := (y, y)) (b := G) (Bel.nil _) (show GW _ [] _ (y, y) from ⟨p5, q5, A5, n5, c5, B5, m5, d5, p5, q5, A5, n5, c5, B5, m5, d5, rfl, H5.out.1, H5.out.1⟩) ⟨p1, q1, A1, n1, c1, B1, m1, d1, p2, q2, A2, n2, c2, B2, m2, d2, rfl, H5.out.2.1, H5.out.2.2.1⟩ ⟨H5.out.2.2.2.2, H5.out.2.2.2.2⟩ OG.out ((cmpQ_le OG.out.1.1 H5.out.2.2.2.2.1).2 HIN.out.1) ((cmpQ_le H5.out.2.2.2.2.1 OG.out.2.1).2 HIN.out.2)) ?_
       rintro e w6 ⟨rfl, hb6⟩; have HB6 := Hd (H5.out.2.2.2.1.trans (hb6.mono H5.out.2.2.2.1.size))
       clear hb6)
    | (have RH : RunH V4 [] A n c A3 m c3 p L := ⟨Bel.nil _, H.out.1.go H4.out.2.2.2.1, H4.out.2.2.2.2, R.out.ce, R.out.few, R.out.len, HRL.out⟩
       refine Cl 20 (U.crun_any RH) ?_; rintro e w5 ⟨u5, rfl, z5, hb5⟩; rw [HY.out] at z5; have oy := HY.out ▸ RH.res_ok; obtain ⟨p5, q5, A5, n5, c5, B5, m5, d5, rfl, qc5⟩ := QC.of z5
       obtain ⟨V5, hV5⟩ : ∃ V : World, w5.alloc (.cells #[.bool p5, .slice A5 n5 c5, .bool q5, .slice B5 m5 d5] 31) = V := ⟨_, rfl⟩
       have hbV : Below w5.heap.size w5 V5 := by rw [← hV5]; exact bel
       have R5 : RowV V5 w5.heap.size [.bool p5, .slice A5 n5 c5, .bool q5, .slice B5 m5 d5] 31 := by rw [← hV5]; exact heap_alloc_new w5 _
       have y0 := R5.cell (k := 0) rfl; have y1 := R5.cell (k := 1) rfl; have y2 := R5.cell (k := 2) rfl; have y3 := R5.cell (k := 3) rfl; have hb45 := hb5.trans (hbV.mono hb5.size); have RA := H4.out.1.go hb45 H4.out.1.lt; have x0 := RA.cell (k := 0) rfl; have x1 := RA.cell (k := 1) rfl; have x2 := RA.cell (k := 2) rfl; have x3 := RA.cell (k := 3) rfl; have x4 := RA.cell (k := 4) rfl; have x5 := RA.cell (k := 5) rfl; have x6 := RA.cell (k := 6) rfl; have x7 := RA.cell (k := 7) rfl; have H5 := Hd5 (qc5.go hbV) (H4.out.2.1.go hb45) (H4.out.2.2.1.go hb45) (H4.out.2.2.2.1.trans (hb45.mono H4.out.2.2.2.1.size)) oy
       clear z5 hb5 hbV R5 hb45 RA RH qc5 oy)
    | (refine Cl 11 (gout_right (R.out.outH (H.out.1.go H3.out.2) (HI.out.go H3.out.2)) R.out.under) ?_
       rintro e w4 ⟨p1, q1, A1, n1, c1, B1, m1, d1, p2, q2, A2, n2, c2, B2, m2, d2, rfl, g1, g2, hb4⟩; rw [HG.out] at g1 g2
       obtain ⟨V4, hV4⟩ : ∃ V : World, w4.alloc (.cells #[.bool p1, .slice A1 n1 c1, .bool q1, .slice B1 m1 d1, .bool p2, .slice A2 n2 c2, .bool q2, .slice B2 m2 d2] 33) = V := ⟨_, rfl⟩
       have hbV : Below w4.heap.size w4 V4 := by rw [← hV4]; exact bel
       have R4 : RowV V4 w4.heap.size [.bool p1, .slice A1 n1 c1, .bool q1, .slice B1 m1 d1, .bool p2, .slice A2 n2 c2, .bool q2, .slice B2 m2 d2] 33 := by rw [← hV4]; exact heap_alloc_new w4 _
       have hb34 := hb4.trans (hbV.mono hb4.size); have H4 := Hd5 R4 (g1.go hbV) (g2.go hbV) (H3.out.2.trans (hb34.mono H3.out.2.size)) (H3.out.1.go hb34)
       clear g1 g2 hb4 hbV R4 hb34)
    | (refine Cl 19 (lpicked_any (M := []) (l := l) (Bel.nil _) (HI.out.go HB2.out) (H.out.2.2.go HB2.out) R.out.all3 R.out.m15) ?_
       rintro e w3 ⟨v3, rfl, ho3, hb3⟩; rw [HLL.out] at ho3; have hm15 := R.out.m15; obtain ⟨A3, c3, rfl, hs3⟩ := OwnS.sl ho3 (by omega) (by simp); have H3 := Hd2 hs3 (HB2.out.trans (hb3.mono HB2.out.size))
       clear ho3 hb3 hs3 hm15)
    | (refine Cl 18 (lright_any (H.out.1.go HB.out) (H.out.2.1.go HB.out)) ?_
       rintro e w2 ⟨rfl, hb2⟩; rw [HR.out]; have HB2 := Hd (HB.out.trans (hb2.mono HB.out.size))
       clear hb2)
      | (refine Cl 8 (U.sane_any _) ?_
         rintro e w1 ⟨rfl, hb1⟩; have HB := Hd hb1
         clear hb1)
    | (refine ⟨trivial, ?_⟩))
   go_ret; exact ⟨by first | rfl | simp, HB6.out⟩
end
end Go.Proofs.YtboapndkopabiaaGreat
