/- Lemmas and walks (Cod7). No statement is proved here. -/
import Derived.Test.YtboapndkopabiaaGreatM30
set_option linter.unusedVariables false
set_option linter.unusedSimpArgs false
namespace Go.Proofs.YtboapndkopabiaaGreat
open Go.RowKit Go.Shelf
abbrev zQ : List Value := [.bool false, .slice none 0 0, .bool false, .slice none 0 0]
structure RunS (w wr : World) (M : List Nat) (bo mb : Nat) (B : Option Addr) (m d : Nat) (v : Value) (k : Nat) (regs : List Rt) : Prop where
 fr : Fr w wr [(w.heap.size, zQ), (mb, [.slice B m d, v])]
 ro : RowV wr bo opsL 78
 own : OwnQ wr (mb :: w.heap.size :: M) (bo + 1) v k regs
 ne : v.ownBlock ≠ some mb
structure RunH (w : World) (M : List Nat) (A : Option Addr) (n c : Nat) (B : Option Addr) (m d : Nat) (p : List InsR) (ins : List Rt) : Prop where
 bel : Bel M w
 sp : Sl InsR w M A n c p
 si : Sl RatR w M B m d (ins.map encQ)
 ce : codeE p m = 0
 few : FewP p
 len : n ≤ 20
 regs : Regs 0 ins
section
variable {w : World} {M : List Nat} {A B : Option Addr} {n c m d : Nat} {p : List InsR} {ins : List Rt}
theorem RunH.lp (h : RunH w M A n c B m d p ins) : p.length = n := h.sp.len
theorem RunH.li (h : RunH w M A n c B m d p ins) : ins.length = m := by have := h.si.len; simpa using this
theorem RunH.pos (h : RunH w M A n c B m d p ins) : 1 ≤ n := by have := ((codeE_iff p m).1 h.ce).1.1; rw [h.lp] at this; exact this
theorem RunH.rights (h : RunH w M A n c B m d p ins) : rightsI m 0 p = true := ((codeE_iff p m).1 h.ce).2
theorem RunH.all (h : RunH w M A n c B m d p ins) {k : Nat} (hk : k ≤ n) : AllS (runsQ ins [] (p.take k)) :=
 ((runs_regs h.regs (by rw [h.li]; exact h.rights) h.few (by rw [h.lp]; exact h.len) k (by rw [h.lp]; exact hk)).all (by have := h.len; omega)).right
theorem RunH.right_k (h : RunH w M A n c B m d p ins) {k : Nat} {x : InsR} (hx : p[k]? = some x) : rightI (k : Nat) (m : Nat) x = true ∧ Few3 x.2.2.2.2.2 := by
 have := rights_at h.rights hx
 rw [Int.zero_add] at this
 exact ⟨this, h.few x (List.mem_of_getElem? hx)⟩
theorem RunH.step (h : RunH w M A n c B m d p ins) {k : Nat} {x : InsR} (hx : p[k]? = some x) : runsQ ins [] (p.take (k + 1)) = runsQ ins [] (p.take k) ++ [stepQ ins (runsQ ins [] (p.take k)) x] := by
 rw [take_snoc hx, runsQ_snoc]
theorem RunH.res (h : RunH w M A n c B m d p ins) : regQ (runsQ ins [] (p.take n)) ((n - 1 : Nat) : Int) = resQ p ins := by
 rw [List.take_of_length_le (by rw [h.lp]; exact Nat.le_refl _)]
 unfold resQ
 rw [h.lp]
 have := h.pos
 congr 1
 omega
end
end Go.Proofs.YtboapndkopabiaaGreat
namespace Go.Proofs.YtboapndkopabiaaGreat.U
open Go.RowKit Go.Shelf
attribute [local go_sem] Oper.semAt_some
attribute [-go_sem] Instr.storeAt
set_option maxRecDepth 100000 in
set_option maxHeartbeats 32000000 in
theorem crun_any {M : List Nat} {A B : Option Addr} {n c m d : Nat} {p : List InsR} {ins : List Rt} {w : World} (h : RunH w M A n c B m d p ins) :
 Calls Tryz.prog 20 #[.slice A n c, .slice B m d, .int .i64 (n : Int)] w fun e w' => ∃ u, e = .returned (.tuple #[u, .int .i64 0, .int .i64 0]) ∧ QW w' M u (resQ p ins) ∧ Below w.heap.size w w' := by
 refine wid ?_
 have hsp := h.sp.small
 have hsi := h.si.small
 have hn20 := h.len
 have hn1 := h.pos
 have k1 : IntKind.i64.wrap ((n : Int) - 1) = ((n - 1 : Nat) : Int) := by rw [IntKind.wrap_i64]; omega
 have H := Hd h
 obtain ⟨W1, hW1, F1⟩ := nam ((Fr.nil w).a4 w.heap.size 31)
 refine op1 F1 ?_; intros
 have F := Hd F1
 clear h F1
 obtain ⟨OV, hOV⟩ : ∃ OV : Array Value, opsL.toArray = OV := ⟨_, rfl⟩
 refine ent Tryz.func20 rfl Tryz.ntmps20 ?_
 gi_wp2_with (refine Cl 30 (ccodeE_any (M := M) _ n c p (m : Int) _ (H.out.bel.le F.out.bl.size) (H.out.sp.go F.out.bl)) ?_
              rintro e w2 ⟨rfl, hb2⟩; rw [H.out.ce]; have F2 := F.out.go hb2; refine op1 F2 ?_; intros; have G2 := Hd F2
              clear hb2 F2)
 gi_loopw [27] (fun i wr => ∃ k : Nat, k ≤ m ∧ i = .int .i64 k ∧ Hid (Fr w wr [(w.heap.size, zQ)])) (fun i _ => m - (intOf i).toNat)
 case atStart => exact ⟨0, Nat.zero_le _, rfl, G2.out⟩
 case round =>
  obtain ⟨k, hk, rfl, hF⟩ := hrel; have hFo := hF.out; refine op1 hFo ?_; intros; clear hFo
  by_cases hlt : k < m
  · obtain ⟨z, hz⟩ : ∃ z, ins[k]? = some z := ⟨_, List.getElem?_eq_getElem (by rw [H.out.li]; exact hlt)⟩
    obtain ⟨b, o, A1, n1, c1, A2, n2, c2, rfl, hc0, hc1, hc2, hc3, hs1, hs2⟩ := (H.out.si.go hF.out.bl).ratd (k := k) (p := zneg z.num) (l1 := ints (zmag z.num)) (q := zneg z.den) (l2 := ints (zmag z.den)) (by rw [List.getElem?_map, hz]; rfl); have S := Hd2 hs1 hs2
    have hzo : z.ok := by
     have := (H.out.regs.sh (by omega)) z (List.mem_of_getElem? hz); exact this.1
    have HK := Hd (show ratE (ratOk ((zneg z.num, ints (zmag z.num)), (zneg z.den, ints (zmag z.den)))) = 0 by rw [show ((zneg z.num, ints (zmag z.num)), (zneg z.den, ints (zmag z.den))) = encQ z from rfl, ratOk_enc hzo]; rfl); generalize zneg z.num = p1 at *; generalize zneg z.den = q1 at *
    obtain ⟨Wk, hWk⟩ : ∃ W' : World, wr.alloc (.cells #[.bool p1, .slice A1 n1 c1, .bool q1, .slice A2 n2 c2] 31) = W' := ⟨_, rfl⟩
    have hf1 : (Instr.storeAt 31 (.pointer (some ⟨wr.heap.size, 0, none⟩)) (.agg #[.bool p1, .slice A1 n1 c1, .bool q1, .slice A2 n2 c2])).run Tryz.prog (wr.alloc (.cells #[.bool false, .slice none 0 0, .bool false, .slice none 0 0] 31)) = .ok () Wk := by rw [← hWk]; exact fill_run rat_size rfl (by simp [Value.oneCell'])
    have bk : Below wr.heap.size wr Wk := by rw [← hWk]; exact bel
    have RK : RowV Wk wr.heap.size [.bool p1, .slice A1 n1 c1, .bool q1, .slice A2 n2 c2] 31 := by rw [← hWk]; exact heap_alloc_new wr _
    have v0 := RK.cell (k := 0) rfl; have v1 := RK.cell (k := 1) rfl; have v2 := RK.cell (k := 2) rfl; have v3 := RK.cell (k := 3) rfl; have HBK := Hd bk; clear hs1 hs2 hz hzo RK bk hWk
    gi_wp2_with (refine Cl 32 (qcheck_any (l1 := ints (zmag z.num)) (l2 := ints (zmag z.den)) (M := M) (H.out.bel.le (Nat.le_trans hF.out.bl.size HBK.out.size)) (S.out.1.go HBK.out) (S.out.2.go HBK.out)) ?_
                 rintro e w2 ⟨rfl, hb2⟩; rw [HK.out]; have G3 := Hd (hF.out.go (HBK.out.trans (hb2.mono HBK.out.size)))
                 clear hb2)
    exact ⟨⟨k + 1, by omega, by go_num, G3⟩, by simp [intOf]; omega⟩
  · have hkm : k = m := by omega
    clear hk hlt; subst hkm; gi_wp2; refine Cl 41 (operations_any _) ?_; rintro e w5 ⟨rfl, hb5⟩; rw [hOV]
    obtain ⟨W3, hW3⟩ : ∃ W3 : World, w5.alloc (.cells OV 78) = W3 := ⟨_, rfl⟩
    have hst : (Instr.storeAt 78 (.pointer (some ⟨w5.heap.size, 0, none⟩)) (.agg OV)).run Tryz.prog (w5.alloc (.cells #[.int .i64 0, .bool false, .bool false, .nilFunc, .int .i64 0, .bool false, .bool false, .nilFunc, .int .i64 0, .bool false, .bool false, .nilFunc, .int .i64 0, .bool false, .bool false, .nilFunc, .int .i64 0, .bool false, .bool false, .nilFunc, .int .i64 0, .bool false, .bool false, .nilFunc, .int .i64 0, .bool false, .bool false, .nilFunc, .int .i64 0, .bool false, .bool false, .nilFunc, .int .i64 0, .bool false, .bool false, .nilFunc] 78)) = .ok () W3 := by
     rw [← hW3, ← hOV]; exact fill_run ops_size rfl (by simp [opsL, Value.oneCell'])
    have R3 : Hid (RowV W3 w5.heap.size opsL 78) := by rw [← hW3, ← hOV]; exact heap_alloc_new w5 _
    have F3 : Hid (Fr w W3 [(w.heap.size, zQ)]) := by
     have hbW : Below w5.heap.size w5 W3 := by rw [← hW3]; exact bel
     exact (hF.out.go hb5).go hbW
    have HB5 := Hd (Nat.lt_of_lt_of_le (hF.out.ltn 0) hb5.size); have HS3 := Hd (show W3.heap.size = w5.heap.size + 1 by rw [← hW3]; simp); obtain ⟨cur, hcur, hmk⟩ := mk_rats n (by omega) W3
    obtain ⟨W4, hW4⟩ : ∃ W4 : World, W3.alloc (.cells cur 31) = W4 := ⟨_, rfl⟩
    have O4 : Hid (∀ N, OwnQ W4 N (w5.heap.size + 1) (.slice (some ⟨W3.heap.size, 0, none⟩) 0 n) 0 []) := fun N => by rw [← hW4]; exact OwnS.made W3 N (by rw [HS3.out]; exact Nat.le_refl _) cur n (by omega) hcur
    have F4 : Hid (Fr w W4 [(w.heap.size, zQ)]) := F3.out.go (by rw [← hW4]; exact bel); have R4 : Hid (RowV W4 w5.heap.size opsL 78) := R3.out.go (show Below W3.heap.size W3 W4 by rw [← hW4]; exact bel) (by rw [HS3.out]; omega); have HS4 := Hd (show W4.heap.size = W3.heap.size + 1 by rw [← hW4]; simp); rw [hW4] at hmk; clear hb5 hcur hW3 hW4; gi_wp2
    obtain ⟨bo, hbo⟩ : ∃ bo, w5.heap.size = bo := ⟨_, rfl⟩
    obtain ⟨sB, hsB⟩ : ∃ s, W3.heap.size = s := ⟨_, rfl⟩
    obtain ⟨mb, hmb⟩ : ∃ s, W4.heap.size = s := ⟨_, rfl⟩
    rw [hbo] at R4 O4 HB5; rw [hsB] at O4; rw [hbo, hsB] at HS3; rw [hsB, hmb] at HS4; have E4 := F4.out.al mb [.slice B k d, .slice (some ⟨sB, 0, none⟩) 0 n] 82 hmb.symm; rw [hbo, hsB, hmb]
    obtain ⟨W5, hW5⟩ : ∃ W5 : World, W4.alloc (.cells #[.slice B k d, .slice (some ⟨sB, 0, none⟩) 0 n] 82) = W5 := ⟨_, rfl⟩
    rw [hW5] at E4 ⊢
    have hb5 : Below W4.heap.size W4 W5 := by rw [← hW5]; exact bel
    have HB := Hd (show w.heap.size < bo ∧ bo < sB ∧ sB < mb from ⟨HB5.out, by rw [HS3.out]; omega, by rw [HS4.out]; omega⟩); have S0 : Hid (RunS w W5 M bo mb B k d (.slice (some ⟨sB, 0, none⟩) 0 n) 0 (runsQ ins [] (p.take 0))) := Hd ⟨E4, R4.out.go hb5 R4.out.lt, (O4.out _).go hb5, by have := HB.out; simp [Value.ownBlock]; omega⟩; clear E4 R4 O4 F4 R3 F3 hst hmk hbo hsB hmb hW5 hb5
    gi_loopw [50] (fun i wr => ∃ (j : Nat) (v : Value), j ≤ n ∧ i = .int .i64 j ∧ Hid (RunS w wr M bo mb B k d v j (runsQ ins [] (p.take j)))) (fun i _ => n - (intOf i).toNat)
    case atStart => exact ⟨0, _, Nat.zero_le _, rfl, S0⟩
    case round =>
     obtain ⟨j, v, hj, rfl, hS⟩ := hrel; obtain ⟨Av, cv, rfl, hsq⟩ := hS.out.own.slQ (by omega); have hfr := hS.out.fr; refine op1 hfr ?_; intros; clear hfr
     by_cases hlt : j < n
     · obtain ⟨x, hx⟩ : ∃ x, p[j]? = some x := ⟨_, List.getElem?_eq_getElem (by rw [H.out.lp]; exact hlt)⟩
       obtain ⟨op, xa, xb, xc, xd, r⟩ := x; have hrk := H.out.right_k hx; obtain ⟨o, rfl, ho1, ho8⟩ := right_op hrk.1
       obtain ⟨M0, hM0⟩ : ∃ M0, ownL (.slice Av j cv) ++ (mb :: w.heap.size :: M) = M0 := ⟨_, rfl⟩
       have hMe : (ownL (.slice Av j cv) ++ [mb, w.heap.size]) ++ M = M0 := by rw [← hM0]; simp
       have hown : ∀ q, q ∈ ownL (.slice Av j cv) → bo + 1 ≤ q ∧ q < wr.heap.size := fun q hq => hS.out.own.lt (mem_ownL.1 hq)
       have hge : ∀ q, q ∈ ownL (.slice Av j cv) ++ [mb, w.heap.size] → w.heap.size ≤ q := fun q hq => by
        have := HB.out
        rcases List.mem_append.1 hq with hq | hq
        · have := (hown q hq).1; omega
        · simp at hq; omega
       have hbel : Bel M0 wr := fun q hq => by
        rw [← hM0] at hq; have h1 := hS.out.fr.lt mb [.slice B k d, .slice Av j cv] (by simp); have h2 := hS.out.fr.ltn 0
        rcases List.mem_append.1 hq with hq | hq
        · exact (hown q hq).2
        · simp only [List.mem_cons] at hq
          rcases hq with rfl | rfl | hq
          · exact h1
          · exact h2
          · exact H.out.bel.le hS.out.fr.bl.size q hq
       have hsp0 : Sl InsR wr M0 A n c p := by rw [← hMe]; exact (H.out.sp.moreL _ hge).go hS.out.fr.bl
       have hsi0 : SlQ wr M0 B k d ins := by rw [← hMe]; exact ((SlQ.of H.out.si).moreL _ hge).go hS.out.fr.bl
       rw [hM0] at hsq; obtain ⟨b, o1, A1, n1, c1, A2, n2, c2, rfl, ⟨g0, g1, g2, g3, g4⟩, ⟨h5, h6, h7, h8⟩, hi64, s1, s2⟩ := hsp0.insat hx
       obtain ⟨p5, hp5⟩ : ∃ p, r.1.1 = p := ⟨_, rfl⟩
       obtain ⟨q5, hq5⟩ : ∃ q, r.2.1 = q := ⟨_, rfl⟩
       rw [hp5] at h5; rw [hq5] at h7
       obtain ⟨W6, hW6⟩ : ∃ W6 : World, wr.alloc (.cells #[.int .i64 (o : Int), .int .i64 xa, .int .i64 xb, .int .i64 xc, .int .i64 xd, .bool p5, .slice A1 n1 c1, .bool q5, .slice A2 n2 c2] 55) = W6 := ⟨_, rfl⟩
       have hfi : (Instr.storeAt 55 (.pointer (some ⟨wr.heap.size, 0, none⟩)) (.agg #[.int .i64 (o : Int), .int .i64 xa, .int .i64 xb, .int .i64 xc, .int .i64 xd, .bool p5, .slice A1 n1 c1, .bool q5, .slice A2 n2 c2])).run Tryz.prog (wr.alloc (.cells #[.int .i64 0, .int .i64 0, .int .i64 0, .int .i64 0, .int .i64 0, .bool false, .slice none 0 0, .bool false, .slice none 0 0] 55)) = .ok () W6 := by rw [← hW6]; exact fill_run ins_size rfl (by simp [Value.oneCell'])
       have b6 : Below wr.heap.size wr W6 := by rw [← hW6]; exact bel
       have R6 : RowV W6 wr.heap.size [.int .i64 (o : Int), .int .i64 xa, .int .i64 xb, .int .i64 xc, .int .i64 xd, .bool p5, .slice A1 n1 c1, .bool q5, .slice A2 n2 c2] 55 := by rw [← hW6]; exact heap_alloc_new wr _
       have RO6 : RowV W6 bo opsL 78 := hS.out.ro.go b6 hS.out.ro.lt; have F6 := Hd (hS.out.fr.go b6)
       have hmc := fun i u hu => (F6.out.at_ mb [.slice B k d, .slice Av j cv] (by simp) i u hu).1
       have XAH := Hd (show CArgs W6 M0 mb B k d Av j cv ins (runsQ ins [] (p.take j)) r p5 q5 A1 n1 c1 A2 n2 c2 from ⟨hbel.le b6.size, ⟨hmc 0 _ rfl, hmc 1 _ rfl, hsi0.go b6, hsq.go b6⟩, ⟨hp5, hq5, s1.go b6, s2.go b6⟩⟩); have HR := Hd3 hrk.1 hrk.2 (H.out.all hj); have HXJ := Hd4 hx hM0 b6 hown
       obtain ⟨sb1, hsb1⟩ : ∃ s, W6.heap.size = s := ⟨_, rfl⟩
       have Hsb1 := Hd hsb1; clear hsb1; have v0 := stays_s Hsb1.out (R6.cell (k := 0) rfl); have v1 := stays_s Hsb1.out (R6.cell (k := 1) rfl); have v2 := stays_s Hsb1.out (R6.cell (k := 2) rfl); have v3 := stays_s Hsb1.out (R6.cell (k := 3) rfl); have v4 := stays_s Hsb1.out (R6.cell (k := 4) rfl); have v5 := stays_s Hsb1.out (R6.cell (k := 5) rfl); have v6 := stays_s Hsb1.out (R6.cell (k := 6) rfl); have v7 := stays_s Hsb1.out (R6.cell (k := 7) rfl); have v8 := stays_s Hsb1.out (R6.cell (k := 8) rfl); have vf := stays_s Hsb1.out (RO6.cell (k := o * 4 + 3) (ops_at ho1 ho8)); clear hx hrk hMe hown hge hbel hsp0 hsi0 hsq hp5 hq5 hM0 s1 s2 hmc b6 R6 RO6 hi64
       have ho9 : (o : Int) < 9 := by omega
       have hcf := callF ho1 ho8; gi_wp2; refine region_E_np sb1 13 (by kernel_rfl) (by kernel_rfl) ?_; refine E_rd 0 ?_; refine E_rd 1 ?_; refine E_rd 2 ?_; refine E_rd 3 ?_; refine E_rd 4 ?_; refine E_rd 5 ?_; refine E_rd 6 ?_; refine E_all 7 [11] (by kernel_rfl) (AllE_cons (by decide) rfl ?_ (fun K hK => ?_) (AllE_cons (by decide) rfl ?_ (fun K hK => ?_) AllE_nil))
       · exact wy
       rotate_left
       · exact wy
       rotate_left
       case' _ =>
        gi_wp2
        obtain ⟨M', hM'⟩ : ∃ M', M0 = M' := ⟨_, rfl⟩
        have XA := (XAH.out).drew; rw [hM'] at XA; refine Cm (cstep_any (o := o) XA.bel XA.mach XA.xc HR.out.1 HR.out.2.1 HR.out.2.2) ?_; rintro e w2 ⟨u2, rfl, z2, hb2⟩; obtain ⟨p21, q21, A21, n21, c21, B21, m21, d21, rfl, qc9⟩ := QC.of z2; rw [← hM'] at qc9; have Hc := Hd3 ((F6.out).drew.go hb2) qc9 ((Below.refl (W6).heap.size W6).drew.trans (hb2.mono (Nat.le_refl _))); refine hK _ _ ⟨?_, ?_⟩; clear hK K
        · exact Keeps.of_below hb2 _
        refine lit ?_; clear z2 hb2 qc9 XA hM' M'; refine E_rd 8 ?_; refine E_rd 9 ?_; refine E_rd 10 ?_
        obtain ⟨WZ21, hV⟩ : ∃ V : World, w2.alloc (.cells #[.bool false, .slice none 0 0, .bool false, .slice none 0 0] 31) = V := ⟨_, rfl⟩
        have hbV : Below w2.heap.size w2 WZ21 := by rw [← hV]; exact bel
        have FV := Hc.out.1.al w2.heap.size [.bool false, .slice none 0 0, .bool false, .slice none 0 0] 31 rfl; rw [hV] at FV; have qcV := (Hc.out.2.1.more (b := w2.heap.size) (Nat.le_refl _)).go hbV; have hby := Hc.out.2.2.trans (hbV.mono Hc.out.2.2.size); have hy0 := Hc.out.2.2.size
        obtain ⟨y21, hy⟩ : ∃ y21, w2.heap.size = y21 := ⟨_, rfl⟩
        refine E_al 11 fun K hK => ?_; gi_wp2
        refine ⟨Keeps.of_below hbV _, ?_⟩; refine lit ?_
        try rw [hy]
        rw [hy] at FV qcV hy0; have HZ := Hd4 FV qcV hby hy0; clear FV qcV hby hy0 hbV hV hy Hc
       rotate_left
       case' _ =>
        obtain ⟨V, hV⟩ : ∃ V : World, (W6).drew.alloc (.cells #[.bool false, .slice none 0 0, .bool false, .slice none 0 0] 31) = V := ⟨_, rfl⟩
        have hbV : Below (W6).drew.heap.size (W6).drew V := by rw [← hV]; exact bel
        have FV := (F6.out).drew.al (W6).heap.size [.bool false, .slice none 0 0, .bool false, .slice none 0 0] 31 rfl; rw [hV] at FV
        obtain ⟨y21, hy⟩ : ∃ y21, (W6).heap.size = y21 := ⟨_, rfl⟩
        gi_wp2; refine ⟨Keeps.of_below hbV _, ?_⟩; refine lit ?_; rw [hy] at FV
        try rw [hy]
        have hyl : y21 < V.heap.size := FV.lt _ [.bool false, .slice none 0 0, .bool false, .slice none 0 0] (by simp)
        obtain ⟨M', hM'⟩ : ∃ M', y21 :: M0 = M' := ⟨_, rfl⟩
        have XA := (XAH.out).turn hbV hy hyl; rw [hM'] at XA; have Hc := Hd3 FV ((Below.refl (W6).heap.size W6).drew.trans hbV) (Nat.le_of_eq hy); clear FV hV hy
        refine E_al 7 fun K hK => ?_; gi_wp2
        refine Cm (cstep_any (o := o) XA.bel XA.mach XA.xc HR.out.1 HR.out.2.1 HR.out.2.2) ?_; rintro e WZ21 ⟨u2, rfl, z2, hb2⟩; obtain ⟨p21, q21, A21, n21, c21, B21, m21, d21, rfl, qc9⟩ := QC.of z2; rw [← hM'] at qc9; refine hK _ _ ⟨?_, ?_⟩; clear hK K
        · exact Keeps.of_below hb2 _
        refine lit ?_; have HZ := Hd4 (Hc.out.1.go hb2) qc9 (Hc.out.2.1.trans (hb2.mono Hc.out.2.1.size)) Hc.out.2.2; clear z2 hb2 qc9 XA hM' M' hyl hbV Hc; refine E_rd 8 ?_; refine E_rd 9 ?_; refine E_rd 10 ?_
       all_goals
        clear v0 v1 v2 v3 v4 v5 v6 v7 v8 vf; obtain ⟨W7, hW7, F6, hB6, kp6⟩ := Fr.put4 (y := y21) HZ.out.1 (fun b vs hm => Nat.ne_of_lt (Nat.lt_of_lt_of_le ((F6.out).lt b vs hm) HZ.out.2.2.2)) (.bool p21) (.slice A21 n21 c21) (.bool q21) (.slice B21 m21 d21); have FZ := HZ.out.1; refine op1 FZ ?_; intros; refine op1 F6 ?_; intros; have hst21 := (store4_run (HZ.out.1.at_ y21 [.bool false, .slice none 0 0, .bool false, .slice none 0 0] (by simp) 0 _ rfl).1 (HZ.out.1.at_ y21 [.bool false, .slice none 0 0, .bool false, .slice none 0 0] (by simp) 1 _ rfl).1 (HZ.out.1.at_ y21 [.bool false, .slice none 0 0, .bool false, .slice none 0 0] (by simp) 2 _ rfl).1 (HZ.out.1.at_ y21 [.bool false, .slice none 0 0, .bool false, .slice none 0 0] (by simp) 3 _ rfl).1 (HZ.out.1.at_ y21 [.bool false, .slice none 0 0, .bool false, .slice none 0 0] (by simp) 0 _ rfl).2 (HZ.out.1.at_ y21 [.bool false, .slice none 0 0, .bool false, .slice none 0 0] (by simp) 1 _ rfl).2 (HZ.out.1.at_ y21 [.bool false, .slice none 0 0, .bool false, .slice none 0 0] (by simp) 2 _ rfl).2 (HZ.out.1.at_ y21 [.bool false, .slice none 0 0, .bool false, .slice none 0 0] (by simp) 3 _ rfl).2 p21 q21 A21 B21 n21 c21 m21 d21).trans (by rw [hW7]); clear hW7; have HS1 := Hd3 F6 (HZ.out.2.1.keepY kp6) (hB6 _ _ HZ.out.2.2.2 HZ.out.2.2.1); have HY21 := Hd HZ.out.2.2.2; have kU := Keeps.of_one (s := sb1) kp6 (Hsb1.out ▸ HZ.out.2.2.2); clear FZ F6 hB6 kp6 HZ
        refine E_al 12 fun K hK => ?_; gi_wp2
        refine ⟨kU, ?_⟩; refine lit ?_; clear kU
        refine E_nl 1 ?_; refine tls fun K hK K' hK' => ?_; gi_wp2; refine tail_nil _ ?_; simp only [npost]; gi_wp2
        have hbj : Below wr.heap.size wr W7 := HXJ.out.2.2.1.trans (HS1.out.2.2.mono HXJ.out.2.2.1.size); have hbw : Below w.heap.size w W7 := hS.out.fr.bl.trans (hbj.mono hS.out.fr.bl.size); have own7 := hS.out.own.go hbj; have ro7 := Hd (hS.out.ro.go hbj hS.out.ro.lt); have hmW : mb < W7.heap.size := HS1.out.1.lt mb [.slice B k d, .slice Av j cv] (by simp); have hwW : w.heap.size < W7.heap.size := HS1.out.1.ltn 0; have hMb : Bel (mb :: w.heap.size :: M) W7 := ((H.out.bel.le hbw.size).cons hwW).cons hmW
        have hq7 : QC W7 (ownL (.slice Av j cv) ++ (mb :: w.heap.size :: M)) (stepQ ins (runsQ ins [] (p.take j)) ((o : Int), xa, xb, xc, xd, r)) p21 q21 A21 n21 c21 B21 m21 d21 := by rw [HXJ.out.2.1]; exact HS1.out.2.1
        have hbo7 : bo + 1 ≤ W7.drew.heap.size := by have := HB.out; show bo + 1 ≤ W7.heap.size; omega
        obtain ⟨v', wA, r1, r2, r3, r4, r5⟩ := app_rat (own7.go (w' := W7.drew) (Below.refl W7.heap.size W7).drew) hbo7 hMb hq7.drew (by omega); obtain ⟨A', c', rfl, -⟩ := r2.slQ (by omega)
        have hne : ∀ q, (Value.slice Av j cv).ownBlock = some q → bo + 1 ≤ q ∧ q < wr.heap.size ∧ q ≠ mb := fun q hq => ⟨(HXJ.out.2.2.2 q (mem_ownL.2 hq)).1, (HXJ.out.2.2.2 q (mem_ownL.2 hq)).2, fun e => hS.out.ne (by rw [hq, e])⟩
        have hne' : (Value.slice A' (j + 1) c').ownBlock ≠ some mb := by
         rcases r4 with e | e
         · rw [e]; exact hS.out.ne
         · rw [e]; intro e2; have := Option.some.inj e2; have : W7.drew.heap.size = W7.heap.size := rfl; omega
        have FA : Fr w wA ([(w.heap.size, zQ)] ++ [(mb, [.slice B k d, .slice Av j cv])]) := by
         refine Fr.grown (W := W7.drew) (HS1.out.1.drew.sub (fun x hx => by simp at hx ⊢; rcases hx with rfl | rfl <;> simp)) r3 (fun q hq => ⟨by have := hne q hq; have := HB.out; omega, fun b vs hm => ?_⟩); have h1 := hne q hq; have h2 := HB.out
         simp at hm
         rcases hm with ⟨rfl, -⟩ | ⟨rfl, -⟩ <;> omega
        obtain ⟨W8, hW8, F8, hB8, kp8⟩ := Fr.put2 (y := mb) FA (by intro b vs hm; have := HB.out; simp at hm; omega) (.slice A' (j + 1) c'); have hmA := FA.at_ mb [.slice B k d, .slice Av j cv] (by simp) 1 _ rfl; have hst8 := (store1_run hmA.1 hmA.2 A' (j + 1) c').trans (by rw [hW8]); refine op1 FA ?_; intros; refine op1 F8 ?_; intros; have hcm := (HS1.out.1.at_ mb [.slice B k d, .slice Av j cv] (by simp) 1 _ rfl).1
        have hcy := fun i u hu => (HS1.out.1.at_ y21 [.bool p21, .slice A21 n21 c21, .bool q21, .slice B21 m21 d21] (by simp) i u hu).1
        have hym : mb ∉ ownL (.slice Av j cv) := fun hm => (hne mb (mem_ownL.1 hm)).2.2 rfl
        have hyy : y21 ∉ ownL (.slice Av j cv) := fun hm => by
         have h1 := (hne y21 (mem_ownL.1 hm)).2.1; have h2 := HXJ.out.2.2.1.size; have h3 := HY21.out; omega
        have v0 := stays_m hym hcm; have v1 := stays_m hyy (hcy 0 _ rfl); have v2 := stays_m hyy (hcy 1 _ rfl); have v3 := stays_m hyy (hcy 2 _ rfl); have v4 := stays_m hyy (hcy 3 _ rfl); have RUN := Hd r1
        have HF := Hd (show RunS w W8 M bo mb B k d (.slice A' (j + 1) c') (j + 1) (runsQ ins [] (p.take (j + 1))) from
         ⟨F8, (RowV.grown (w := W7.drew) ro7.out r3 (fun e => by have := hne bo e; omega)).keep kp8 (by have := HB.out; simp; omega), by
          rw [H.out.step HXJ.out.1]
          exact OwnS.keepM r2 kp8 (by simp) (fun g hg hm => hne' (by simp at hm; rw [hg, hm])), hne'⟩)
        clear hcm hcy hym hyy hmA F8 hB8 kp8 FA hne hne' r1 r2 r3 r4 hq7 hMb hmW hwW own7 hbo7 hbj hbw hW8; refine Go.Proofs.YtboapndkopabiaaGreat.region_E_np (ownL (.slice Av j cv)) 10 (by kernel_rfl) (by kernel_rfl) ?_; refine R_rd 0 ?_; refine R_rd 1 ?_; refine R_rd 2 ?_; refine R_rd 3 ?_; refine R_rd 4 ?_; refine R_rd 5 ?_
        refine R_al 6 fun K hK => ?_; gi_wp2
        refine ⟨Go.Proofs.YtboapndkopabiaaGreat.Keeps.of_below (show Below W7.drew.heap.size W7.drew _ from (Below.refl _ _).alloc (Nat.le_refl _) _) _, ?_⟩; refine lit ?_; refine Go.Proofs.YtboapndkopabiaaGreat.E_all 7 [] (by kernel_rfl) (Go.Proofs.YtboapndkopabiaaGreat.AllE_cons (by decide) rfl ?_ (fun K hK => ?_) Go.Proofs.YtboapndkopabiaaGreat.AllE_nil)
        · exact wy
        refine wpIn_append _ _ _ rfl rfl rfl RUN.out (hK _ _ ⟨r5, ?_⟩); clear hK K; refine lit ?_; refine R_rd 8 ?_; refine R_rd 9 ?_
        refine R_nl 1 ?_; refine tls fun K hK K' hK' => ?_; gi_wp2; refine tail_nil _ ?_; simp only [npost]; gi_wp2
        exact ⟨⟨j + 1, _, by omega, by go_num, HF⟩, by simp [intOf]; omega⟩
     · have hjn : j = n := by omega
       clear hj hlt; subst hjn
       obtain ⟨kk, hkk⟩ : ∃ kk, j - 1 = kk := ⟨_, rfl⟩
       have hklt : kk < j := by omega
       rw [hkk] at k1; have hres := H.out.res; rw [hkk] at hres; obtain ⟨b9, o9, p9, q9, A9, n9, c9, B9, m9, d9, rfl, ⟨i0, i1, i2, i3⟩, qc9⟩ := hsq.at_ hklt; rw [hres] at qc9
       have hx := fun i u hu => hS.out.fr.at_ w.heap.size zQ (by simp) i u hu
       have hls : ∀ q, q ∈ w.heap.size :: M → q ∈ ownL (.slice (some ⟨b9, o9, none⟩) j cv) ++ (mb :: w.heap.size :: M) := fun q hq => by
        simp only [List.mem_append, List.mem_cons] at hq ⊢
        rcases hq with hq | hq <;> simp [hq]
       obtain ⟨wF, hwF, t0, t1, t2, t3, hQ, bF⟩ := fin4 (M := M) (hx 0 _ rfl).1 (hx 1 _ rfl).1 (hx 2 _ rfl).1 (hx 3 _ rfl).1 (x := resQ p ins) (qc9.num.sl.less hls) (qc9.den.sl.less hls) qc9.num.neg qc9.den.neg hS.out.fr.bl (Nat.le_refl _); have hstF := (store4_run (hx 0 _ rfl).1 (hx 1 _ rfl).1 (hx 2 _ rfl).1 (hx 3 _ rfl).1 (hx 0 _ rfl).2 (hx 1 _ rfl).2 (hx 2 _ rfl).2 (hx 3 _ rfl).2 p9 q9 A9 B9 n9 c9 m9 d9).trans (by rw [hwF]); have HW := Hd6 t0 t1 t2 t3 hQ bF; clear hwF hx hls qc9 hsq hres hkk t0 t1 t2 t3 hQ bF; gi_wp2; exact ⟨rfl, .tuple #[.agg #[.bool p9, .slice A9 n9 c9, .bool q9, .slice B9 m9 d9], .int .i64 0, .int .i64 0], by simp [results, go_sem, HW.out.1, HW.out.2.1, HW.out.2.2.1, HW.out.2.2.2.1], _, rfl, HW.out.2.2.2.2.1, HW.out.2.2.2.2.2⟩
end Go.Proofs.YtboapndkopabiaaGreat.U
