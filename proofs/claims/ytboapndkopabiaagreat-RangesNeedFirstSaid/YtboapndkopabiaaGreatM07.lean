/- Lemmas and walks (Nat7 Nat8 BigL). No statement is proved here. -/
import Derived.Test.YtboapndkopabiaaGreatM06
set_option linter.unusedVariables false
set_option linter.unusedSimpArgs false
namespace Go.Proofs.YtboapndkopabiaaGreat
section
open Go.RowKit Go.Shelf
attribute [local go_sem] Oper.semAt_some
theorem snoc_int {W : World} {base : Nat} {v : Value} {n : Nat} {xs : List Int} (h : W.ownsRow base 3 1 v n (xs.map (Value.int .i64))) (hb : base ≤ W.heap.size) (hn : n ≤ 1000000000) (x : Int) :
 ∃ v' W', (Builtin.append_ #[27, 27] 27 #[v, .slice (some ⟨W.heap.size, 0, none⟩) 1 1]).run Tryz.prog (W.alloc (.cells #[.int .i64 x] 3)) = .ok v' W' ∧ W'.ownsRow base 3 1 v' (n + 1) ((xs ++ [x]).map (Value.int .i64)) ∧ Below base W W' ∧
  ∃ gg cc, v' = .slice (some ⟨gg, 0, none⟩) (n + 1) cc := by
 obtain ⟨v', W', r1, r2, r3, r4, r5⟩ := append_int (h.alloc (.cells #[.int .i64 x] 3)) (by simp; omega) hn W.heap.size x (by simp [go_sem])
 exact ⟨v', W', r1, r2, (((Below.refl base W).alloc hb _).grown r3 (by simp; omega) (fun k hk => (h.lt k hk).1)), r5⟩
set_option maxHeartbeats 2000000 in
theorem rplus_any {M : List Nat} {A B : Option Addr} {n c m d x y : Nat} {w : World} (hM : Bel M w) (hx : Sl Int w M A n c (ints (dig x))) (hy : Sl Int w M B m d (ints (dig y))) (hn : n ≤ 5000) (hm : m ≤ 5000) :
 Calls Tryz.prog 130 #[.slice A n c, .slice B m d] w fun e w' => ∃ O k cO l, e = .returned (.slice O k cO) ∧ Sl Int w' M O k cO (ints l) ∧ Good l ∧ val l = x + y ∧ Below w.heap.size w w' := by
 refine wid ?_
 have H := Hd (hx.less (M' := []) (by simp))
 have G := Hd (hy.less (M' := []) (by simp))
 have HM := Hd hM
 have l1 := hx.dlen
 have l2 := hy.dlen
 have g1 := good_dig x
 have g2 := good_dig y
 have v1 := val_dig x
 have v2 := val_dig y
 generalize hax : dig x = a at *
 generalize hay : dig y = b at *
 have P := Hd6 l1 l2 g1 g2 v1 v2
 clear hx hy hM l1 l2 g1 g2 v1 v2 hax hay
 refine ent Tryz.func130 rfl Tryz.ntmps130 ?_
 gi_wp2
 gi_loopw [5, 6, 7] (fun v o i wr => ∃ (k over : Nat) (out : List Nat), k ≤ max n m + 1 ∧ (over = 0 ∨ k ≤ max n m) ∧ o = .int .i64 over ∧ i = .int .i64 k ∧ Hid (PlusI a b out k over) ∧ Hid (wr.ownsRow w.heap.size 3 1 v k ((ints out).map (Value.int .i64))) ∧ Below w.heap.size w wr) (fun _ _ i _ => max n m + 2 - (intOf i).toNat)
 case atStart => exact ⟨0, 0, [], by omega, .inl rfl, rfl, rfl, plus_start a b, World.ownsRow_lit (base := w.heap.size) (size := 1) (e := 3) w #[] 0 (Nat.le_refl _) (by simp [maxLen]) rfl, by exact bel⟩
 case round =>
  obtain ⟨i, over, out, hi, ho, rfl, rfl, hI, hO, hb⟩ := hrel; have q1 := BB_le (digAt_lt P.out.2.2.1 i); have q2 := BB_le (digAt_lt P.out.2.2.2.1 i); have q3 : over ≤ 1 := hI.out.2.2.2
  by_cases hC : i < n ∨ i < m ∨ 0 < over
  · have him : i ≤ max n m := by omega
    have hstep := plus_step P.out.2.2.1 P.out.2.2.2.1 hI.out
    obtain ⟨da, hda⟩ : ∃ da, digAt a i = da := ⟨_, rfl⟩
    obtain ⟨db, hdb⟩ : ∃ db, digAt b i = db := ⟨_, rfl⟩
    have hov : (da + db + over) / BB = 0 ∨ i + 1 ≤ max n m := by
     rcases Nat.lt_or_ge i (max n m) with h | h
     · exact .inr h
     · left
       have e1 : da = 0 := by rw [← hda]; unfold digAt List.getD; rw [List.getElem?_eq_none (by rw [P.out.1]; omega)]; rfl
       have e2 : db = 0 := by rw [← hdb]; unfold digAt List.getD; rw [List.getElem?_eq_none (by rw [P.out.2.1]; omega)]; rfl
       rw [e1, e2]; exact Nat.div_eq_of_lt (Nat.lt_of_le_of_lt (show 0 + 0 + over ≤ 1 by omega) BB_two)
    rw [hda, hdb] at hstep; rw [hda] at q1; rw [hdb] at q2
    have e1 : (da : Int) + (db : Int) + (over : Int) = ((da + db + over : Nat) : Int) := by simp
    have k1 : IntKind.i64.wrap ((da : Int) + (db : Int)) = (da : Int) + (db : Int) := by rw [IntKind.wrap_i64]; omega
    have k2 : IntKind.i64.wrap ((da : Int) + (db : Int) + (over : Int)) = (da : Int) + (db : Int) + (over : Int) := by rw [IntKind.wrap_i64]; omega
    have w1 : ((da : Int) + (db : Int) + (over : Int)) / 1073741824 = (((da + db + over) / BB : Nat) : Int) := by rw [e1, BBi]; exact (Int.natCast_ediv _ _).symm
    have w2 : ((da : Int) + (db : Int) + (over : Int)) % 1073741824 = (((da + db + over) % BB : Nat) : Int) := by rw [e1, BBi]; exact (Int.natCast_emod _ _).symm
    obtain ⟨v', W', r1, r2, r3, gg, cc, rfl⟩ := snoc_int hO.out hb.size (by omega) (((da : Int) + (db : Int) + (over : Int)) % 1073741824); rw [w2, show ints out ++ [(((da + db + over) % BB : Nat) : Int)] = ints (out ++ [(da + db + over) % BB]) by simp [ints]] at r2; have HAP := Hd r1; have HR := Hd3 r2 (hb.trans r3) hstep; have HD := Hd2 hda hdb; have W1 := Hd w1; have HOV := Hd hov; have HA := Hd (H.out.keep (Keeps.of_below hb [])); have HB := Hd (G.out.keep (Keeps.of_below hb [])); clear r1 r2 r3 hstep e1 w1 w2 hda hdb hov hO
    rcases (show i < n ∨ (¬ i < n ∧ i < m) ∨ (¬ i < n ∧ ¬ i < m ∧ 0 < over) by omega) with c1 | ⟨c1, c2⟩ | ⟨c1, c2, c3⟩
    all_goals (
     clear hC
     gi_wp2_with (first
      | (gi_at_builtin; refine wpListIn_plain rfl fun K hK' => ?_; refine wpIn_append _ _ _ rfl rfl rfl HAP.out (hK' _ _ ?_); clear hK' K)
      | (refine ⟨trivial, ?_⟩; gi_at_call 134; have g := H1.out; clear g; refine Cn (atR_any B m d b i _ HB.out P.out.2.2.2.1) ?_; rintro e w2 ⟨rfl, rfl⟩; rw [HD.out.2])
      | (refine Cl 134 (atR_any A n c a i _ HA.out P.out.2.2.1) ?_; rintro e w2 ⟨rfl, rfl⟩; rw [HD.out.1]; have H1 := Hd True.intro)
      | fail)
     rw [W1.out]
     exact ⟨⟨i + 1, _, _, by omega, by have := HOV.out; omega, rfl, by go_num, HR.out.2.2, HR.out.1, HR.out.2.1⟩, by simp [intOf]; omega⟩)
  · obtain rfl : over = 0 := by omega
    have c1 : ¬ i < n := by omega
    have c2 : ¬ i < m := by omega
    obtain ⟨f1, f2⟩ := plus_end hI.out (by rw [P.out.1]; omega) (by rw [P.out.2.1]; omega); obtain ⟨O, cO, rfl, hsl⟩ := Sl.of_own hO.out (ints_i64 f2) (by omega) HM.out; have HF := Hd3 hsl f1 f2; clear f1 f2 hsl hO hC hI; gi_wp2; go_ret; exact ⟨O, i, cO, rfl, out, HF.out.1, HF.out.2.2, by rw [HF.out.2.1, P.out.2.2.2.2.1, P.out.2.2.2.2.2], hb⟩
theorem DR.of_trim {w wr w2 : World} {M : List Nat} {O : Option Addr} {k cO q v : Nat} {l : List Nat} (hs : Sl Int wr M O k cO (ints l)) (hq : q ≤ k) (ht : l.take q = dig (val l)) (hv : val l = v) (hb : Below w.heap.size w wr) (hb2 : Below wr.heap.size wr w2) :
 DR w M v (.returned (.slice O q cO)) w2 := by
 have h := (hs.go hb2).cutTo hq
 rw [ints_take, ht, hv] at h
 exact ⟨O, q, cO, rfl, h, hb.trans (hb2.mono hb.size)⟩
set_option maxHeartbeats 2000000 in
theorem rless_any {M : List Nat} {A B : Option Addr} {n c m d x y : Nat} {w : World} (hM : Bel M w) (hx : Sl Int w M A n c (ints (dig x))) (hy : Sl Int w M B m d (ints (dig y))) (hn : n ≤ 5000) (hyx : y ≤ x) :
 Calls Tryz.prog 122 #[.slice A n c, .slice B m d] w (DR w M (x - y)) := by
 refine wid ?_
 have H := Hd (hx.less (M' := []) (by simp))
 have G := Hd (hy.less (M' := []) (by simp))
 have HM := Hd hM
 have l1 := hx.dlen
 have l2 := hy.dlen
 have g1 := good_dig x
 have g2 := good_dig y
 have v1 := val_dig x
 have v2 := val_dig y
 have hmn : m ≤ n := by rw [← l1, ← l2]; exact dig_mono hyx
 generalize hax : dig x = a at *
 generalize hay : dig y = b at *
 have P := Hd6 l1 l2 g1 g2 v1 v2
 clear hx hy hM l1 l2 g1 g2 v1 v2 hax hay
 refine ent Tryz.func122 rfl Tryz.ntmps122 ?_
 gi_wp2
 gi_loopw [5, 6, 7] (fun v o i wr => ∃ (k : Nat) (owed : Int) (out : List Nat), k ≤ n ∧ 0 ≤ owed ∧ owed ≤ 1 ∧ o = .int .i64 owed ∧ i = .int .i64 k ∧ Hid (LessI a b out k owed) ∧ Hid (wr.ownsRow w.heap.size 3 1 v k ((ints out).map (Value.int .i64))) ∧ Below w.heap.size w wr) (fun _ _ i _ => n - (intOf i).toNat)
 case atStart => exact ⟨0, 0, [], by omega, by omega, by omega, rfl, rfl, less_start a b, World.ownsRow_lit (base := w.heap.size) (size := 1) (e := 3) w #[] 0 (Nat.le_refl _) (by simp [maxLen]) rfl, by exact bel⟩
 case round =>
  obtain ⟨i, owed, out, hi, ho1, ho2, rfl, rfl, hI, hO, hb⟩ := hrel
  by_cases hlt : i < n
  · obtain ⟨b1, o1, da, rfl, hc1, hda, -, hdd⟩ := (H.out.keep (Keeps.of_below hb [])).digd P.out.2.2.1 hlt
    have q2 := BB_le (digAt_lt P.out.2.2.2.1 i)
    obtain ⟨db, hdb⟩ : ∃ db, digAt b i = db := ⟨_, rfl⟩
    rw [hdb] at q2
    have k1 : IntKind.i64.wrap ((da : Int) - (db : Int)) = (da : Int) - (db : Int) := by rw [IntKind.wrap_i64]; omega
    have k2 : IntKind.i64.wrap ((da : Int) - (db : Int) - owed) = (da : Int) - (db : Int) - owed := by rw [IntKind.wrap_i64]; omega
    have k3 : IntKind.i64.wrap ((da : Int) - (db : Int) - owed + 1073741824) = (da : Int) - (db : Int) - owed + 1073741824 := by rw [IntKind.wrap_i64]; omega
    have hO2 : wr.drew.ownsRow w.heap.size 3 1 u5 i ((ints out).map (Value.int .i64)) := hO.out; have HB := Hd (G.out.keep (Keeps.of_below hb.drew [])); have HDB := Hd hdb; have v1 := stays_drew hc1
    by_cases hneg : (da : Int) - (db : Int) - owed < 0
    · obtain ⟨k, hk⟩ : ∃ k : Nat, (k : Int) = (da : Int) - (db : Int) - owed + 1073741824 := ⟨((da : Int) - (db : Int) - owed + 1073741824).toNat, by omega⟩
      have hstep := less_step P.out.2.2.1 P.out.2.2.2.1 hI.out (show (da : Int) - (db : Int) - owed = _ by rw [hdd, hdb]) (k := k) (by rw [if_pos hneg, hk]; rfl); rw [if_pos hneg] at hstep; obtain ⟨v', W', r1, r2, r3, gg, cc, rfl⟩ := snoc_int hO2 hb.drew.size (by omega) ((da : Int) - (db : Int) - owed + 1073741824); rw [← hk, show ints out ++ [(k : Int)] = ints (out ++ [k]) by simp [ints]] at r2; have HAP := Hd r1; have HR := Hd3 r2 (hb.drew.trans r3) hstep; clear r1 r2 r3 hstep hdb hO hO2 hdd hk hc1; gi_wp2; refine wpIn_region_all [] [0,1,2,3,4,5,8,6,7,9,10] (by kernel_rfl) (by kernel_rfl) ?_
      repeat ((first | refine ord_rd ?_ | refine ord_sk ?_ | refine ord_cs ?_))
      refine ord_step fun K hK => ordStep_call rfl rfl wy fun K' hK' => ?_; gi_wp2
      refine Cm (atR_any B m d b i _ HB.out P.out.2.2.2.1) ?_; rintro e w2 ⟨rfl, rfl⟩; rw [HDB.out]; refine hK' _ _ ⟨?_, hK _ _ ?_⟩; clear hK' K' hK K
      · exact Keeps.refl _ _
      refine lit ?_
      repeat ((first | refine ord_rd ?_ | refine ord_sk ?_ | refine ord_cs ?_))
      refine ord_nil ?_; refine lit ?_
      gi_wp2_with (gi_at_builtin; refine wpListIn_plain rfl fun K hK' => ?_; refine wpIn_append _ _ _ rfl rfl rfl HAP.out (hK' _ _ ?_); clear hK' K)
      exact ⟨⟨i + 1, 1, _, by omega, by omega, by omega, rfl, by go_num, HR.out.2.2, HR.out.1, HR.out.2.1⟩, by simp [intOf]; omega⟩
    · obtain ⟨k, hk⟩ : ∃ k : Nat, (k : Int) = (da : Int) - (db : Int) - owed := ⟨((da : Int) - (db : Int) - owed).toNat, by omega⟩
      have hstep := less_step P.out.2.2.1 P.out.2.2.2.1 hI.out (show (da : Int) - (db : Int) - owed = _ by rw [hdd, hdb]) (k := k) (by rw [if_neg hneg, hk]); rw [if_neg hneg] at hstep; obtain ⟨v', W', r1, r2, r3, gg, cc, rfl⟩ := snoc_int hO2 hb.drew.size (by omega) ((da : Int) - (db : Int) - owed); rw [← hk, show ints out ++ [(k : Int)] = ints (out ++ [k]) by simp [ints]] at r2; have HAP := Hd r1; have HR := Hd3 r2 (hb.drew.trans r3) hstep; have hq : decide ((da : Int) - (db : Int) - owed < 0) = false := decide_eq_false hneg; clear r1 r2 r3 hstep hdb hO hO2 hdd hk hc1 hneg k3; gi_wp2; refine wpIn_region_all [] [0,1,2,3,4,5,8,6,7,9,10] (by kernel_rfl) (by kernel_rfl) ?_
      repeat ((first | refine ord_rd ?_ | refine ord_sk ?_ | refine ord_cs ?_))
      refine ord_step fun K hK => ordStep_call rfl rfl wy fun K' hK' => ?_; gi_wp2
      refine Cm (atR_any B m d b i _ HB.out P.out.2.2.2.1) ?_; rintro e w2 ⟨rfl, rfl⟩; rw [HDB.out]; refine hK' _ _ ⟨?_, hK _ _ ?_⟩; clear hK' K' hK K
      · exact Keeps.refl _ _
      refine lit ?_
      repeat ((first | refine ord_rd ?_ | refine ord_sk ?_ | refine ord_cs ?_))
      refine ord_nil ?_; refine lit ?_
      gi_wp2_with (gi_at_builtin; refine wpListIn_plain rfl fun K hK' => ?_; refine wpIn_append _ _ _ rfl rfl rfl HAP.out (hK' _ _ ?_); clear hK' K)
      exact ⟨⟨i + 1, 0, _, by omega, by omega, by omega, rfl, by go_num, HR.out.2.2, HR.out.1, HR.out.2.1⟩, by simp [intOf]; omega⟩
  · have hin : i = n := by omega
    subst hin; have hI2 := hI.out; rw [← P.out.1] at hI2; obtain ⟨f1, f2⟩ := less_end hI2 (by rw [P.out.1, P.out.2.1]; exact hmn) (by rw [P.out.2.2.2.2.1, P.out.2.2.2.2.2]; exact hyx); rw [P.out.2.2.2.2.1, P.out.2.2.2.2.2] at f1; obtain ⟨O, cO, rfl, hsl⟩ := Sl.of_own hO.out (ints_i64 f2) (by omega) HM.out; have HF := Hd3 hsl f1 f2; clear f1 f2 hsl hO hI hI2
    gi_wp2_with (refine Cl 120 (trimR_any _ _ _ out _ HF.out.1 HF.out.2.2) ?_; rintro e w2 ⟨q, rfl, hq, ht, hb2⟩; have HT := Hd3 ht hq hb2; clear ht hq hb2)
    go_ret; exact DR.of_trim HF.out.1 HT.out.2.1 HT.out.1 HF.out.2.1 hb HT.out.2.2
end
section
open Go.RowKit Go.Shelf
attribute [local go_sem] Oper.semAt_some
theorem cell_off {w : World} {a b : Addr} {u v : Value} (hab : b.block ≠ a.block) (h : w.cell? b = some v) : (w.setCell a u).cell? b = some v := (World.cell?_of_block (w := w) (Below.heap_setCell w a u b.block hab)).trans h
theorem Keeps.putObj {M : List Nat} {w w' : World} (h : Keeps M w w') {l : Nat} (hl : l ∈ M) (o : Obj) : Keeps M w (w'.putObj l o) :=
 ⟨by rw [World.putObj_size]; exact h.size, fun k hk hm => (World.putObj_heap_other (by rintro rfl; exact hm hl)).trans (h.block k hk hm)⟩
theorem or_join {r x : Nat} (hr : r ≤ 1073741823) (hx : x ≤ 1073741823) : bits .or .i64 ((r : Int) * 1073741824) (x : Int) = (r : Int) * 1073741824 + (x : Int) :=
 bits_join .i64 63 (by decide) (fun n h0 h1 => by rw [IntKind.wrap_i64]; omega) 30 _ _ (by omega) (by omega) (by omega) (by omega) (by omega) (by omega)
theorem stab_rowI (B : Nat) (b : Nat) (l : List Int) : Stab B (fun W => Row W b l) := by
 intro A A' row hs hg hr
 unfold Row at *
 refine (hg.block b (Array.getElem?_eq_some_iff.1 hs).1 (fun e => ?_)).trans hs
 obtain ⟨_, o, ho, hc⟩ := hr b e.symm
 rw [hs] at ho
 cases ho
 cases hc
structure ShI (w0 : World) (S rb n d : Nat) (a : List Nat) (k : Nat) (W : World) : Prop where
 ex : ∃ q r, DivI a q d k r ∧ Row W rb (ints q) ∧ W.cell? ⟨S + 2, 0, none⟩ = some (.int .i64 (r : Int))
 free : W.frozen? ⟨S + 2, 0, none⟩ = false
 qc : W.cell? ⟨S + 1, 0, none⟩ = some (.slice (some ⟨rb, 0, none⟩) n n)
 qf : W.frozen? ⟨S + 1, 0, none⟩ = false
 dc : W.cell? ⟨S, 0, none⟩ = some (.int .i64 (d : Int))
 below : Below S w0 W
theorem ShI.stab {B : Nat} {w0 : World} {S rb n d : Nat} {a : List Nat} {k : Nat} (h1 : S ≤ w0.heap.size) (h2 : S ≤ B) : Stab B (ShI w0 S rb n d a k) := by
 have := (stab_ex (B := B) fun q => stab_ex fun r => ((stab_pure B (DivI a q d k r)).and ((stab_rowI B rb (ints q)).and (stab_cell B ⟨S + 2, 0, none⟩ (.int .i64 ((r : Nat) : Int)))))).and
  ((stab_ex fun v => stab_free B ⟨S + 2, 0, none⟩ v).and ((stab_free B ⟨S + 1, 0, none⟩ (.slice (some ⟨rb, 0, none⟩) n n)).and ((stab_cell B ⟨S, 0, none⟩ (.int .i64 (d : Int))).and (stab_below (n := S) (w := w0) h1 h2))))
 intro W W' row hs hg hr
 obtain ⟨q, r, e1, e2, e3⟩ := hs.ex
 obtain ⟨x1, ⟨v, x2, x3⟩, ⟨x4, x5⟩, x6, x7⟩ := this W W' row ⟨⟨q, r, e1, e2, e3⟩, ⟨_, e3, hs.free⟩, ⟨hs.qc, hs.qf⟩, hs.dc, hs.below⟩ hg hr
 exact ⟨x1, x3, x4, x5, x6, x7⟩
theorem div_start {a : List Nat} {n d : Nat} (hl : a.length = n) (hd : 0 < d) : DivI a (List.replicate n 0) d n 0 := by
 refine ⟨?_, hd, by simp [hl], ?_⟩
 · rw [List.drop_of_length_le (by omega), List.drop_of_length_le (by simp)]
   simp [val]
 · intro x hx
   rw [List.eq_of_mem_replicate hx]; exact BB_pos
set_option maxHeartbeats 4000000 in
theorem short_any {M : List Nat} {A : Option Addr} {n c x d : Nat} {w : World} (hM : Bel M w) (hx : Sl Int w M A n c (ints (dig x))) (hn : n ≤ 5000) (hd : 0 < d) (hd2 : d ≤ 1073741824) :
 Calls Tryz.prog 124 #[.slice A n c, .int .i64 (d : Int)] w fun e w' => ∃ O k cO, e = .returned (.tuple #[.slice O k cO, .int .i64 ((x % d : Nat) : Int)]) ∧ Sl Int w' M O k cO (ints (dig (x / d))) ∧ Below w.heap.size w w' := by
 refine wid ?_
 have H := Hd (hx.less (M' := []) (by simp))
 have HM := Hd hM
 have l1 := hx.dlen
 have g1 := good_dig x
 have v1 := val_dig x
 generalize hax : dig x = a at *
 have P := Hd3 l1 g1 v1
 have st := div_start l1 hd
 clear hx hM l1 g1 v1 hax
 obtain ⟨W1, hW1⟩ : ∃ W1 : World, ((w.alloc (.cells #[.int .i64 (d : Int)] 3)).alloc (.cells #[.slice none 0 0] 124)).alloc (.cells #[.int .i64 0] 3) = W1 := ⟨_, rfl⟩
 have hmk := mk_ints (t := 124) Tryz.underlying124 n (by omega) W1
 obtain ⟨W2, hW2⟩ : ∃ W2 : World, W1.alloc (.cells ((List.replicate n (0 : Int)).map (Value.int .i64)).toArray 3) = W2 := ⟨_, rfl⟩
 have s1 : W1.heap.size = w.heap.size + 3 := by rw [← hW1]; simp
 have r2 : Row W2 (w.heap.size + 3) (ints (List.replicate n 0)) := by rw [← hW2, ← ints_zeros, ← s1]; exact Row.new n W1
 rw [hW2, s1] at hmk
 have b2 : Below w.heap.size w W2 := by rw [← hW2, ← hW1]; exact bel
 have s2 : W2.heap.size = w.heap.size + 4 := by rw [← hW2]; simp [s1]
 have c0 : W2.cell? ⟨w.heap.size, 0, none⟩ = some (.int .i64 (d : Int)) := by rw [← hW2, ← hW1]; simp [go_sem]
 have c1 : W2.cell? ⟨w.heap.size + 1, 0, none⟩ = some (.slice none 0 0) := by rw [← hW2, ← hW1]; simp [go_sem]
 have f1 : W2.frozen? ⟨w.heap.size + 1, 0, none⟩ = false := by rw [← hW2, ← hW1]; simp [go_sem]
 have c2 : W2.cell? ⟨w.heap.size + 2, 0, none⟩ = some (.int .i64 0) := by rw [← hW2, ← hW1]; simp [go_sem]
 have f2 : W2.frozen? ⟨w.heap.size + 2, 0, none⟩ = false := by rw [← hW2, ← hW1]; simp [go_sem]
 have F1 := Hd (And.intro r2 (And.intro b2 (And.intro s2 (And.intro c0 (And.intro c1 (And.intro f1 (And.intro c2 f2)))))))
 clear r2 b2 c0 c2 f2 hW2
 refine entm Tryz.func124 rfl Tryz.ntmps124 ?_
 gi_wp2_with (refine Cl 119 (down_any A n c _) ?_; rintro e w3 ⟨rfl, hw3⟩; have HW3 := Hd hw3; clear hw3)
 clear hmk hW1 s1 c1 f1 s2
 obtain ⟨r2, b2, s2, c0, c1, f1, c2, f2⟩ := F1.out
 have hw3 := HW3.out
 have b3 : Below w.heap.size w w3 := by rw [← hw3]; exact (b2.setCell (p := ⟨w.heap.size + 1, 0, none⟩) (by simp) _).alloc (by simp; omega) _
 have s3 : w3.heap.size = w.heap.size + 5 := by rw [← hw3]; simp [s2]
 have kk : ∀ b, b ≠ w.heap.size + 1 → b < w.heap.size + 4 → w3.heap[b]? = W2.heap[b]? := by
  intro b hb hl; rw [← hw3]; exact (Below.heap_alloc _ _ b (by simp; omega)).trans (Below.heap_setCell _ _ _ b hb)
 have c3 : w3.cell? ⟨w.heap.size + 4, 0, none⟩ = some (.slice A n c) := by rw [← hw3, ← s2]; simp [go_sem]
 have hsh : ShI w w.heap.size (w.heap.size + 3) n d a n w3 := by
  refine ⟨⟨_, 0, st, ?_, ?_⟩, ?_, ?_, ?_, ?_, b3⟩
  · unfold Row; rw [kk _ (by omega) (by omega)]; exact r2
  · rw [World.cell?_of_block (w := W2) (kk _ (by simp) (by simp))]; exact c2
  · rw [World.frozen?_of_block (w := W2) (kk _ (by simp) (by simp))]; exact f2
  · rw [← hw3]; exact cell_al _ (cell_same c1)
  · rw [← hw3]; exact free_al _ (cell_same c1) (by simp [f1])
  · rw [World.cell?_of_block (w := W2) (kk _ (by simp) (by simp))]; exact c0
 have SH := Hd hsh
 clear hw3 kk hsh r2 b2 c0 c1 f1 c2 f2 st HW3 F1
 refine wp_rangeFunc (M := [w.heap.size + 2, w.heap.size + 3]) (w0 := w3) rfl rfl trivial (enters_of Tryz.func142 (by kernel_rfl) rfl)
  (back_yields (b1 := w.heap.size + 4) (N := []) (l := a) c3 (by simp) (((H.out.more (b := w.heap.size + 3) (by omega)).more (b := w.heap.size + 2) (by omega)).keep (Keeps.of_below b3 _)) P.out.2.1) (Keeps.refl _ _) ?hM ?hps
  (fun _ rest W => ∃ k : Nat, (k ≤ n ∧ rest = backL a k) ∧ ShI w w.heap.size (w.heap.size + 3) n d a k W)
  (fun _ _ => False)
  (fun _ _ => stab_ex fun k => (stab_pure _ _).and (ShI.stab (Nat.le_refl _) (by omega)))
  (fun _ => stab_pure _ _)
  (fun _ _ => ⟨n, ⟨Nat.le_refl _, rfl⟩, SH.out⟩) ?round ?done ?stop
 case hM =>
  intro q hq
  simp at hq
  omega
 case hps => intro q hq; exact backL_size hq
 case stop => rintro D j W hD hf; exact hf.elim
 case round =>
  rintro l s q rest W - hl hls hsW hrec hkW ⟨k, ⟨hk, hrest⟩, hS⟩
  obtain ⟨j, rfl⟩ : ∃ j, k = j + 1 := ⟨k - 1, by
   rcases Nat.eq_zero_or_pos k with rfl | h
   · cases hrest
   · omega⟩
  rw [backL_succ] at hrest
  injection hrest with hq hr'
  subst hq
  have hjn : j < n := by omega
  obtain ⟨xd, hxd⟩ : ∃ xd, digAt a j = xd := ⟨_, rfl⟩
  have hx1 := BB_le (digAt_lt P.out.2.1 j); rw [hxd] at hx1 ⊢; have L := Hd2 hr' hxd; have HS := Hd hS; clear hr' hS hxd; gi_wp2; refine ⟨KeepsTo.refl _ _ _, ShI w w.heap.size (w.heap.size + 3) n d a (j + 1), ShI.stab (Nat.le_refl _) (by omega), HS.out, ?_⟩; rintro W'' hxl hsz hS2; obtain ⟨⟨qs, r, hD, hR, hrc⟩, hrf, hqc, hqf, hdc, hbW⟩ := hS2
  have hr1 : r ≤ 1073741823 := by have := hD.2.1; omega
  have k1 : IntKind.i64.wrap ((r : Int) * 1073741824) = (r : Int) * 1073741824 := by rw [IntKind.wrap_i64]; omega
  have k2 := or_join hr1 hx1; gi_wp2
  obtain ⟨W4, hW4⟩ : ∃ W4 : World, W''.setCell ⟨w.heap.size + 1 + 1, 0, none⟩ (.int .i64 ((r : Int) * 1073741824 + (xd : Int))) = W4 := ⟨_, rfl⟩
  rw [hW4]
  have hne : ∀ b, b ≠ w.heap.size + 2 → W4.heap[b]? = W''.heap[b]? := fun b hb => by rw [← hW4]; exact Below.heap_setCell _ _ _ b hb
  have x0 : W4.cell? ⟨w.heap.size + 1 + 1, 0, none⟩ = some (.int .i64 ((r : Int) * 1073741824 + (xd : Int))) := by rw [← hW4]; exact cell_same hrc
  have x1 : W4.frozen? ⟨w.heap.size + 1 + 1, 0, none⟩ = false := by rw [← hW4]; simp; exact hrf
  have x2 : W4.cell? ⟨w.heap.size + 1, 0, none⟩ = some (.slice (some ⟨w.heap.size + 3, 0, none⟩) n n) := by rw [World.cell?_of_block (w := W'') (hne _ (by simp))]; exact hqc
  have x3 : W4.frozen? ⟨w.heap.size + 1, 0, none⟩ = false := by rw [World.frozen?_of_block (w := W'') (hne _ (by simp))]; exact hqf
  have x4 : W4.cell? ⟨w.heap.size, 0, none⟩ = some (.int .i64 (d : Int)) := by rw [World.cell?_of_block (w := W'') (hne _ (by simp))]; exact hdc
  have x5 : Row W4 (w.heap.size + 3) (ints qs) := by unfold Row; rw [hne _ (by omega)]; exact hR
  have x6 : Below w.heap.size w W4 := by rw [← hW4]; exact hbW.setCell (p := ⟨w.heap.size + 1 + 1, 0, none⟩) (by simp; omega) _
  have hst := div_step P.out.2.1 hD (by rw [P.out.1]; exact hjn); rw [L.out.2] at hst
  obtain ⟨oldq, hold⟩ : ∃ oldq, qs[j]? = some oldq := ⟨_, List.getElem?_eq_getElem (by rw [hD.2.2.1, P.out.1]; exact hjn)⟩
  have y0 : W4.drew.cell? ⟨w.heap.size + 3, j, none⟩ = some (.int .i64 (oldq : Int)) := x5.cell (ints_get hold); have y1 : W4.drew.frozen? ⟨w.heap.size + 3, j, none⟩ = false := x5.free j
  have e1 : (r : Int) * 1073741824 + (xd : Int) = ((r * BB + xd : Nat) : Int) := by rw [Int.natCast_add, Int.natCast_mul]; rfl
  have z0 : ¬ d = 0 := by omega
  have z1 : ((r : Int) * 1073741824 + (xd : Int)).tdiv (d : Int) = (((r * BB + xd) / d : Nat) : Int) := by rw [e1]; exact (Int.ofNat_tdiv _ _).symm
  have z2 : ((r : Int) * 1073741824 + (xd : Int)).tmod (d : Int) = (((r * BB + xd) % d : Nat) : Int) := by rw [e1]; exact (Int.ofNat_tmod _ _).symm
  have z4 := BB_le hst.2; have hput := x5.put j (((r * BB + xd) / d : Nat) : Int); rw [ints_set] at hput; generalize (r * BB + xd) / d = qd at *; generalize (r * BB + xd) % d = rd at *
  have z3 : IntKind.i64.wrap (qd : Int) = (qd : Int) := by rw [IntKind.wrap_i64]; omega
  have u0 := stays_m (Mr := [w.heap.size + 3]) (by simp) x0; have u2 := stays_m (Mr := [w.heap.size + 3]) (by simp) x2; have u4 := stays_m (Mr := [w.heap.size + 3]) (by simp) x4; have y3 : W4.drew.cell? ⟨w.heap.size + 1 + 1, 0, none⟩ = some (.int .i64 ((r : Int) * 1073741824 + (xd : Int))) := x0; have y4 : W4.drew.frozen? ⟨w.heap.size + 1 + 1, 0, none⟩ = false := x1
  have k4 : Keeps [w.heap.size + 2, w.heap.size + 3] W'' W4 := by rw [← hW4]; exact (Keeps.refl _ _).setCell (p := ⟨w.heap.size + 1 + 1, 0, none⟩) (.inl (by simp)) _
  have y5 : (W4.setCell ⟨w.heap.size + 3, j, none⟩ (.int .i64 (qd : Int))).drew.cell? ⟨w.heap.size + 1 + 1, 0, none⟩ = some (.int .i64 ((r : Int) * 1073741824 + (xd : Int))) := (World.cell?_of_block (w := W4) (Below.heap_setCell W4 _ _ _ (by simp))).trans x0; have y6 : (W4.setCell ⟨w.heap.size + 3, j, none⟩ (.int .i64 (qd : Int))).drew.frozen? ⟨w.heap.size + 1 + 1, 0, none⟩ = false := (World.frozen?_of_block (w := W4) (Below.heap_setCell W4 _ _ _ (by simp))).trans x1; have F := Hd (And.intro k4 (And.intro hsz (And.intro hst (And.intro hput (And.intro x2 (And.intro x3 (And.intro x4 x6))))))); clear k4 hsz hst hput x0 x1 x2 x3 x4 x5 x6 hne hW4 e1 hold hD hR hqc hqf hdc hbW hrc hrf; refine region_E_np [w.heap.size + 3] 10 (by kernel_rfl) (by kernel_rfl) ?_; refine E_rd 0 ?_; refine E_rd 1 ?_; refine E_rd 2 ?_; refine E_rd 3 ?_; refine E_rd 4 ?_; refine E_rd 5 ?_; refine E_rd 6 ?_; refine E_rd 7 ?_; refine E_rd 8 ?_
  refine E_al 9 fun K hK => ?_; gi_wp2
  refine ⟨(((Keeps.refl [w.heap.size + 3] W4).setCell (p := ⟨w.heap.size + 3, j, none⟩) (.inl (by simp)) _).drew).drewL, ?_⟩; refine E_nil 1 (by kernel_rfl) rfl ?_
  refine tls fun K hK K' hK' => ?_; gi_wp2
  refine tail_nil _ ?_; simp only [npost]; gi_wp2; obtain ⟨f0, f1, f2, f3, f4, f5, f6, f7⟩ := F.out
  have kk : Keeps [w.heap.size + 2, w.heap.size + 3] W4 ((W4.setCell ⟨w.heap.size + 3, j, none⟩ (.int .i64 (qd : Int))).setCell ⟨w.heap.size + 1 + 1, 0, none⟩ (.int .i64 (rd : Int))).drew :=
   (((Keeps.refl _ W4).setCell (p := ⟨w.heap.size + 3, j, none⟩) (.inl (by simp)) _).setCell (p := ⟨w.heap.size + 1 + 1, 0, none⟩) (.inl (by simp)) _).drew
  refine ⟨(f0.trans kk).to (by rw [f1]; exact hsW), j, ⟨by omega, L.out.1⟩, ⟨_, rd, f2.1, ((f3.put_other (by omega) 0 _).drew), cell_same y5⟩, by simpa using y6, kk.cell (by simp) f4, ?_, kk.cell (by simp) f6, ?_⟩
  · exact (World.frozen?_of_block (w := W4) (kk.block _ (World.block_lt_of_cell? W4 _ f4) (by simp))).trans f5
  · exact ((f7.setCell (p := ⟨w.heap.size + 3, j, none⟩) (by simp) _).setCell (p := ⟨w.heap.size + 1 + 1, 0, none⟩) (by simp; omega) _).drew
 case done =>
  rintro D s W hD hDs ⟨k, ⟨hk, hrest⟩, hS⟩ hdef
  obtain rfl := backL_nil hrest
  obtain ⟨⟨qs, r, hD2, hR, hrc⟩, hrf, hqc, hqf, hdc, hbW⟩ := hS; obtain ⟨e1, e2⟩ := div_end hD2; rw [P.out.2.2] at e1 e2
  have hr1 : r ≤ 1073741823 := by have := hD2.2.1; omega
  have hl : (ints qs).length = n := by rw [ints_len, hD2.2.2.1, P.out.1]
  have hbM : w.heap.size + 3 ∉ D :: (w.heap.size + 1) :: (w.heap.size + 1 + 1) :: M := fun e => by
   simp only [List.mem_cons] at e
   rcases e with e | e | e | e
   · omega
   · omega
   · omega
   · have := HM.out _ e; omega
  have hsl := hR.sl hbM hl (by omega) (ints_i64 hD2.2.2.2); have FF := Hd (And.intro hsl (And.intro hD2.2.2.2 (And.intro e1 (And.intro e2 (And.intro hbW (And.intro hR.lt (And.intro hqc (And.intro hqf (And.intro hrc hrf))))))))); have v2 := stays_m (Mr := [w.heap.size + 1]) (by simp) hrc; have v1 : W.drew.cell? ⟨w.heap.size + 1, 0, none⟩ = some (.slice (some ⟨w.heap.size + 3, 0, none⟩) n n) := hqc; clear hD2 hR e1 e2 hl hbM hsl hdc hrest hqf hrf; gi_wp2; refine region_E_np [w.heap.size + 1] 4 (by kernel_rfl) (by kernel_rfl) ?_; refine E_rd 2 ?_
  refine E_al 0 fun K hK => ?_; gi_wp2
  refine ⟨Keeps.refl _ _, ?_⟩
  refine E_al 1 fun K hK => ?_; gi_wp2
  refine Cm (trimN_any _ _ _ qs W.drew (FF.out.1.keep (Keeps.refl _ W).drew) FF.out.2.1) ?_; rintro e w4 ⟨q, rfl, hq, ht, hb4⟩; have HT := Hd3 ht hq hb4; have hq' := hq; clear ht hq; refine hK _ _ ⟨?_, ?_⟩; clear hK K
  · exact Keeps.of_below hb4 _
  refine lit ?_; have t1 : w4.cell? ⟨w.heap.size + 1, 0, none⟩ = some (.slice (some ⟨w.heap.size + 3, 0, none⟩) n n) := (Keeps.of_below hb4 []).cell (by simp) hqc; have t2 : w4.cell? ⟨w.heap.size + 1 + 1, 0, none⟩ = some (.int .i64 (r : Int)) := (Keeps.of_below hb4 []).cell (by simp) hrc; have t3 : w4.frozen? ⟨w.heap.size + 1, 0, none⟩ = false := (World.frozen?_of_block (w := W.drew) (hb4.block _ (World.block_lt_of_cell? W _ hqc))).trans FF.out.2.2.2.2.2.2.2.1; have t4 : w4.frozen? ⟨w.heap.size + 1 + 1, 0, none⟩ = false := (World.frozen?_of_block (w := W.drew) (hb4.block _ (World.block_lt_of_cell? W _ hrc))).trans FF.out.2.2.2.2.2.2.2.2.2; have t5 : w4.heap[D]? = some (.deferred (some [])) := (hb4.block D (Array.getElem?_eq_some_iff.1 hdef).1).trans hdef; have hb5 : Below w.heap.size w w4 := hbW.drew.trans (hb4.mono hbW.size); have hs5 := ((FF.out.1.keep (Keeps.refl _ W).drew).keep (Keeps.of_below hb4 _)).cutTo hq'; have HB5 := Hd2 hb5 hs5; clear hb4 hb5 v1 v2 hqc hrc hs5
  refine E_al 3 fun K hK => ?_; gi_wp2
  refine ⟨(Keeps.refl _ _).setCell (p := ⟨w.heap.size + 1, 0, none⟩) (.inl (by simp)) _, ?_⟩; refine E_nil 1 (by kernel_rfl) rfl ?_
  refine tls fun K hK K' hK' => ?_; gi_wp2
  refine tail_nil _ ?_; simp only [npost]; gi_wp2; refine ⟨by simp, .inl ⟨_, _, rfl, run_takeDeferred (set_deferred (set_deferred t5)), ?_⟩⟩; have m1 := mark_cell (W := (w4.setCell ⟨w.heap.size + 1, 0, none⟩ (.slice (some ⟨w.heap.size + 3, 0, none⟩) q n)).setCell ⟨w.heap.size + 1 + 1, 0, none⟩ (.int .i64 (r : Int))) (D := D) (cell_off (b := ⟨w.heap.size + 1, 0, none⟩) (by simp) (cell_same t1)) (set_deferred (set_deferred t5)); have m2 := mark_cell (W := (w4.setCell ⟨w.heap.size + 1, 0, none⟩ (.slice (some ⟨w.heap.size + 3, 0, none⟩) q n)).setCell ⟨w.heap.size + 1 + 1, 0, none⟩ (.int .i64 (r : Int))) (D := D) (cell_same (cell_off (b := ⟨w.heap.size + 1 + 1, 0, none⟩) (by simp) t2)) (set_deferred (set_deferred t5)); refine ⟨.tuple #[.slice (some ⟨w.heap.size + 3, 0, none⟩) q n, .int .i64 (r : Int)], by simp [results, go_sem, m1, m2], ?_⟩; have hs6 := HB5.out.2; rw [ints_take, HT.out.1, FF.out.2.2.1] at hs6; have bB : Below w.heap.size w (((w4.setCell ⟨w.heap.size + 1, 0, none⟩ (.slice (some ⟨w.heap.size + 3, 0, none⟩) q n)).setCell ⟨w.heap.size + 1 + 1, 0, none⟩ (.int .i64 (r : Int))).putObj D (.deferred none)) := mark_below ((HB5.out.1.setCell (p := ⟨w.heap.size + 1, 0, none⟩) (by simp) _).setCell (p := ⟨w.heap.size + 1 + 1, 0, none⟩) (by simp; omega) _) (by omega) (Nat.le_refl _)
  have kF : Keeps (D :: (w.heap.size + 1) :: (w.heap.size + 1 + 1) :: M) w4 (((w4.setCell ⟨w.heap.size + 1, 0, none⟩ (.slice (some ⟨w.heap.size + 3, 0, none⟩) q n)).setCell ⟨w.heap.size + 1 + 1, 0, none⟩ (.int .i64 (r : Int))).putObj D (.deferred none)) :=
   (((Keeps.refl _ _).setCell (p := ⟨w.heap.size + 1, 0, none⟩) (.inl (by simp)) _).setCell (p := ⟨w.heap.size + 1 + 1, 0, none⟩) (.inl (by simp)) _).putObj (by simp) _
  exact ⟨_, q, n, by rw [FF.out.2.2.2.1], (hs6.keep kF).less (fun k hk => by simp [hk]), bB⟩
end
section
def RR (lo mid : List Nat) (t : Int) (rest : List Nat) : List Int := ints lo ++ (ints mid ++ (t :: ints rest))
theorem intsL (l : List Nat) : (ints l).length = l.length := by simp [ints]
theorem RR_mid {lo mid rest : List Nat} {t : Int} {i j d : Nat} (hi : lo.length = i) (h : mid[j]? = some d) : (RR lo mid t rest)[i + j]? = some (d : Int) := by
 have hj : j < mid.length := (List.getElem?_eq_some_iff.1 h).1
 unfold RR
 rw [List.getElem?_append_right (by rw [intsL]; omega), intsL, show i + j - lo.length = j by omega, List.getElem?_append_left (by rw [intsL]; exact hj)]
 simp [ints, h]
theorem RR_top {lo mid rest : List Nat} {t : Int} {i k : Nat} (hi : lo.length = i) (hk : mid.length = k) : (RR lo mid t rest)[i + k]? = some t := by
 unfold RR
 rw [List.getElem?_append_right (by rw [intsL]; omega), intsL, List.getElem?_append_right (by rw [intsL]; omega), intsL, show i + k - lo.length - mid.length = 0 by omega]
 rfl
theorem RR_set_mid {lo mid rest : List Nat} {t : Int} {i j : Nat} (hi : lo.length = i) (hj : j < mid.length) (d : Nat) : (RR lo mid t rest).set (i + j) (d : Int) = RR lo (mid.set j d) t rest := by
 unfold RR
 rw [List.set_append_right _ _ (by rw [intsL]; omega), intsL, show i + j - lo.length = j by omega, List.set_append_left _ _ (by rw [intsL]; exact hj)]
 simp [ints, List.map_set]
theorem RR_set_top {lo mid rest : List Nat} {t : Int} {i k : Nat} (hi : lo.length = i) (hk : mid.length = k) (z : Int) : (RR lo mid t rest).set (i + k) z = RR lo mid z rest := by
 unfold RR
 rw [List.set_append_right _ _ (by rw [intsL]; omega), intsL, List.set_append_right _ _ (by rw [intsL]; omega), intsL, show i + k - lo.length - mid.length = 0 by omega]
 rfl
theorem RR_nat (lo mid rest : List Nat) (t : Nat) : RR lo mid (t : Int) rest = ints (lo ++ (mid ++ t :: rest)) := by simp [RR, ints]
theorem RR_zero (lo mid rest : List Nat) : RR lo mid 0 rest = ints (lo ++ (mid ++ 0 :: rest)) := RR_nat lo mid rest 0
structure LI (X V N k L j : Nat) (lo rs rest Q : List Nat) : Prop where
 eq : X = val lo + BB ^ j * (val rs + V * val (Q.drop j))
 lol : lo.length = j
 rsl : rs.length = k
 lt : val rs < V
 glo : Good lo
 grs : Good rs
 gq : Good Q
 ql : Q.length = L
 jl : j ≤ L
 zs : ∀ q, j + k + q < N → rest[q]? = some 0
 gz : Good rest
theorem LI.window {X V N k L j : Nat} {lo rs rest Q : List Nat} (h : LI X V N k L (j + 1) lo rs rest Q) : ∃ (lo' : List Nat) (d : Nat) (ws : List Nat) (t : Nat), lo = lo' ++ [d] ∧ lo'.length = j ∧ d :: rs = ws ++ [t] ∧ ws.length = k ∧ Good ws ∧ t < BB ∧ Good lo' ∧ d < BB := by
 have hl := h.lol
 have hne : lo ≠ [] := fun e => by rw [e] at hl; simp at hl
 have e1 := (List.dropLast_concat_getLast hne).symm
 have hne2 : lo.getLast hne :: rs ≠ [] := by simp
 have e2 := (List.dropLast_concat_getLast hne2).symm
 have g : Good (lo.getLast hne :: rs) := good_cons (h.glo _ (List.getLast_mem hne)) h.grs
 refine ⟨lo.dropLast, lo.getLast hne, (lo.getLast hne :: rs).dropLast, (lo.getLast hne :: rs).getLast hne2, e1, by simp [hl], e2, by simp [h.rsl], ?_, g _ (List.getLast_mem hne2), ?_, h.glo _ (List.getLast_mem hne)⟩
 · intro x hx; exact g x ((List.dropLast_sublist _).subset hx)
 · intro x hx; exact h.glo x ((List.dropLast_sublist _).subset hx)
theorem LI.shape {lo rs rest lo' ws : List Nat} {d t : Nat} (h1 : lo = lo' ++ [d]) (h2 : d :: rs = ws ++ [t]) : lo ++ (rs ++ rest) = lo' ++ (ws ++ t :: rest) := by
 have : lo' ++ ((d :: rs) ++ rest) = lo' ++ ((ws ++ [t]) ++ rest) := by rw [h2]
 rw [h1]
 simpa using this
theorem LI.less {X V N k L j : Nat} {lo rs rest Q : List Nat} {d : Nat} (h : LI X V N k L (j + 1) lo rs rest Q) (hd : d < BB) : val (d :: rs) < BB * V := quo_lt (W := val (d :: rs)) (R := val rs) rfl h.lt hd
theorem LI.step {X V N k L j : Nat} {lo rs rest Q lo' r' : List Nat} {d : Nat} (h : LI X V N k L (j + 1) lo rs rest Q) (h1 : lo = lo' ++ [d]) (hl : lo'.length = j) (hr : val r' = val (d :: rs) % V) (hrl : r'.length = k) (hrg : Good r') (hV : 0 < V) (hd : d < BB) :
 LI X V N k L j lo' r' (0 :: rest) (Q.set j (val (d :: rs) / V)) ∧ val (d :: rs) / V < BB := by
 have hlt := h.less hd
 have hq : val (d :: rs) / V < BB := (Nat.div_lt_iff_lt_mul hV).2 hlt
 refine ⟨⟨?_, hl, hrl, by rw [hr]; exact Nat.mod_lt _ hV, ?_, hrg, good_set h.gq _ hq, by rw [List.length_set]; exact h.ql, by have := h.jl; omega, ?_, good_cons BB_pos h.gz⟩, hq⟩
 · have e := h.eq
   have hjq : j < Q.length := by rw [h.ql]; have := h.jl; omega
   rw [drop_set hjq, val, hr]; rw [h1, val_append, hl] at e; have e2 := Nat.mod_add_div (val (d :: rs)) V; generalize hW : val (d :: rs) = W at *
   have hW2 : W = d + BB * val rs := by rw [← hW]; rfl
   generalize W % V = m at *; generalize W / V = q at *; generalize val (Q.drop (j + 1)) = Y at *; rw [e]; simp only [val, Nat.mul_zero, Nat.add_zero]; rw [Nat.pow_succ]; generalize BB ^ j = p at *
   have e3 : p * BB * (val rs + V * Y) = p * (BB * val rs) + p * (BB * (V * Y)) := by rw [Nat.mul_assoc, Nat.mul_add, Nat.mul_add]
   have e4 : p * (m + V * (q + BB * Y)) = p * (m + V * q) + p * (BB * (V * Y)) := by
    rw [Nat.mul_add V, ← Nat.add_assoc, Nat.mul_add p]
    congr 2
    rw [← Nat.mul_assoc, ← Nat.mul_assoc, Nat.mul_comm V]
   rw [e3, e4, e2, hW2, Nat.mul_add]; omega
 · intro x hx; exact h.glo x (by rw [h1]; exact List.mem_append_left _ hx)
 · intro q hq'
   match q with
   | 0 => rfl
   | q + 1 => simpa using h.zs q (by omega)
theorem LI.start {x y s n k : Nat} {T : List Nat} (hx : (dig x).length = n) (hy : (dig y).length = k) (hkn : k ≤ n) (hk : 0 < k) (hT : val (T.take (n + 1)) = x * 2 ^ s) (hg : Good T) (hl : n + 1 ≤ T.length) :
 LI (x * 2 ^ s) (y * 2 ^ s) (n + 1) k (n - k + 1) (n - k + 1) (T.take (n - k + 1)) ((T.drop (n - k + 1)).take k) (T.drop (n + 1)) (List.replicate (n - k + 1) 0) := by
 have e1 : T.take (n + 1) = T.take (n - k + 1) ++ (T.drop (n - k + 1)).take k := by
  conv => lhs; rw [show n + 1 = (n - k + 1) + k by omega]
  rw [List.take_add]
 have hlo : (T.take (n - k + 1)).length = n - k + 1 := by rw [List.length_take]; omega
 have e2 := hT
 rw [e1, val_append, hlo] at e2
 have hx2 : x < BB ^ n := (dig_len x n).2 (by omega)
 have hy2 : BB ^ (k - 1) ≤ y := by
  have := val_ge (l := dig y) (by intro e; rw [e] at hy; simp at hy; omega) (topped_dig y)
  rwa [hy, val_dig] at this
 refine ⟨?_, hlo, by rw [List.length_take, List.length_drop]; omega, ?_, good_take hg _, good_take (good_drop hg _) _, ?_, by simp, Nat.le_refl _, ?_, good_drop hg _⟩
 · have hz : (List.replicate (n - k + 1) (0 : Nat)).drop (n - k + 1) = [] := List.drop_of_length_le (by rw [List.length_replicate]; exact Nat.le_refl _)
   rw [hz, show val [] = 0 from rfl, Nat.mul_zero, Nat.add_zero]; exact e2.symm
 · have h1 : BB ^ (n - k + 1) * val ((T.drop (n - k + 1)).take k) ≤ x * 2 ^ s := by omega
   have h2 : x * 2 ^ s < BB ^ n * 2 ^ s := Nat.mul_lt_mul_of_pos_right hx2 (Nat.pow_pos (by decide))
   have h3 : BB ^ n * 2 ^ s = BB ^ (n - k + 1) * (BB ^ (k - 1) * 2 ^ s) := by rw [← Nat.mul_assoc, ← Nat.pow_add, show n - k + 1 + (k - 1) = n by omega]
   have h4 : BB ^ (k - 1) * 2 ^ s ≤ y * 2 ^ s := Nat.mul_le_mul_right _ hy2
   have h5 : BB ^ (n - k + 1) * val ((T.drop (n - k + 1)).take k) < BB ^ (n - k + 1) * (BB ^ (k - 1) * 2 ^ s) := by omega
   have := Nat.lt_of_mul_lt_mul_left h5; omega
 · intro d hd; rw [List.eq_of_mem_replicate hd]; exact BB_pos
 · intro q hq; omega
theorem LI.done {x y s n k L : Nat} {rs rest Q : List Nat} (h : LI (x * 2 ^ s) (y * 2 ^ s) (n + 1) k L 0 [] rs rest Q) (hk : k ≤ n + 1) : val Q = x / y ∧ val rs = (x % y) * 2 ^ s ∧ val ((rs ++ rest).take (n + 1)) = (x % y) * 2 ^ s := by
 have e := h.eq
 simp only [val, Nat.pow_zero, Nat.one_mul, Nat.zero_add, List.drop_zero] at e
 have hp : 0 < 2 ^ s := Nat.pow_pos (by decide)
 have e' : x * 2 ^ s = val Q * (y * 2 ^ s) + val rs := by rw [Nat.mul_comm (val Q)]; omega
 obtain ⟨h1, h2⟩ := quo_of e' h.lt
 rw [Nat.mul_div_mul_right _ _ hp] at h1
 rw [Nat.mul_mod_mul_right] at h2
 refine ⟨h1, h2, ?_⟩
 have : (rs ++ rest).take (n + 1) = rs ++ List.replicate (n + 1 - k) 0 := by
  apply List.ext_getElem?; intro i
  by_cases hi : i < n + 1
  · rw [List.getElem?_take_of_lt hi]
    by_cases hik : i < k
    · rw [List.getElem?_append_left (by rw [h.rsl]; exact hik), List.getElem?_append_left (by rw [h.rsl]; exact hik)]
    · rw [List.getElem?_append_right (by rw [h.rsl]; omega), List.getElem?_append_right (by rw [h.rsl]; omega), h.rsl, h.zs (i - k) (by omega)]
      rw [List.getElem?_replicate, if_pos (by omega)]
  · rw [List.getElem?_eq_none (by rw [List.length_take]; omega), List.getElem?_eq_none (by simp [h.rsl]; omega)]
 rw [this, val_append, val_zeros, Nat.mul_zero, Nat.add_zero, h2]
end
end Go.Proofs.YtboapndkopabiaaGreat
