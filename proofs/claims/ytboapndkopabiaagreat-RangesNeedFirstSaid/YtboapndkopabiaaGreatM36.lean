/- Lemmas and walks (Rng14 Need0 RegT). No statement is proved here. -/
import Derived.Test.YtboapndkopabiaaGreatM35
set_option linter.unusedVariables false
set_option linter.unusedSimpArgs false
namespace Go.Proofs.YtboapndkopabiaaGreat
section
open Go.RowKit Go.Shelf
attribute [local go_sem] Oper.semAt_some
attribute [-go_sem] Instr.storeAt
set_option maxRecDepth 100000 in
set_option maxHeartbeats 32000000 in
theorem gout_ok {M : List Nat} {A B : Option Addr} {n c m d : Nat} {p : List InsR} {l : List Rg} {w : World} (h : OutH w M A n c B m d p l) (hu : l.any underG = false) :
 Calls Tryz.prog 11 #[.slice A n c, .slice B m d] w (OutR w M p (l.map encG)) := by
 refine wid ?_
 have hsp := h.sp.small
 have hsi := h.si.small
 have hn20 := h.len
 have hn1 := h.pos
 have k0 : IntKind.i64.wrap ((n : Int) - 1) = ((n - 1 : Nat) : Int) := by rw [IntKind.wrap_i64]; omega
 have HE := Hd (show outE p (l.map encG) = 0 by rw [h.outE, hu]; rfl)
 have HV := Hd (h.outV hu)
 have H := Hd h
 have HU := Hd hu
 clear h hu
 obtain ⟨W1, hW1, F1⟩ := nam (((Fr.nil w).a8 w.heap.size 33).a0 (w.heap.size + 1) 34)
 refine op1 F1 ?_; intros
 have F := Hd F1
 clear F1
 refine entd Tryz.func11 rfl Tryz.ntmps11 ?_
 gi_wp2_with (refine Cl 30 (ccodeE_any (M := M) _ n c p (m : Int) _ (H.out.bel.le F.out.bl.size) (H.out.sp.go F.out.bl)) ?_
              rintro e w2 ⟨rfl, hb2⟩; rw [H.out.ce]; have F2 := F.out.go hb2; refine op1 F2 ?_; intros; have G2 := Hd F2
              clear hb2 F2)
 gi_loopw [25] (fun i wr => ∃ k : Nat, k ≤ m ∧ i = .int .i64 k ∧ Hid (Fr w wr [(w.heap.size, zG), (w.heap.size + 1, [.int .i64 0])])) (fun i _ => m - (intOf i).toNat)
 case atStart => exact ⟨0, Nat.zero_le _, rfl, G2.out⟩
 case round =>
  obtain ⟨k, hk, rfl, hF⟩ := hrel; have hFo := hF.out; refine op1 hFo ?_; intros; clear hFo
  by_cases hlt : k < m
  · obtain ⟨y, hy⟩ : ∃ y, l[k]? = some y := ⟨_, List.getElem?_eq_getElem (by rw [H.out.li]; exact hlt)⟩
    obtain ⟨x, hxy⟩ : ∃ x, encG y = x := ⟨_, rfl⟩
    have hx : (l.map encG)[k]? = some x := by rw [List.getElem?_map, hy, ← hxy]; rfl
    have hok := mem_ends (List.mem_of_getElem? hy)
    have r1 : ratOk x.1 = true := by rw [← hxy]; exact ratOk_enc (H.out.ins _ hok.1).1
    have r2 : ratOk x.2 = true := by rw [← hxy]; exact ratOk_enc (H.out.ins _ hok.2).1
    obtain ⟨b, o, A1, n1, c1, A2, n2, c2, A3, n3, c3, A4, n4, c4, rfl, ⟨h0, h1, h2, h3⟩, ⟨h4, h5, h6, h7⟩, ⟨s1, s2⟩, s3, s4⟩ := (H.out.si.go hF.out.bl).rngat hx; have HX := Hd4 s1 s2 s3 s4
    obtain ⟨k1, hk1⟩ : ∃ k, ratE (ratOk ((x.1.1.1, x.1.1.2), (x.1.2.1, x.1.2.2))) = k := ⟨_, rfl⟩
    obtain ⟨k2, hk2⟩ : ∃ k, ratE (ratOk ((x.2.1.1, x.2.1.2), (x.2.2.1, x.2.2.2))) = k := ⟨_, rfl⟩
    have HK1 := Hd hk1; have HK2 := Hd hk2; have hk1' : ratE (ratOk x.1) = k1 := hk1; have hk2' : ratE (ratOk x.2) = k2 := hk2; clear hk1 hk2 s1 s2 s3 s4; generalize x.1.1.1 = p1 at *; generalize x.1.2.1 = q1 at *; generalize x.2.1.1 = p2 at *; generalize x.2.2.1 = q2 at *
    obtain ⟨Wk, hWk⟩ : ∃ W' : World, wr.alloc (.cells #[.bool p1, .slice A1 n1 c1, .bool q1, .slice A2 n2 c2, .bool p2, .slice A3 n3 c3, .bool q2, .slice A4 n4 c4] 33) = W' := ⟨_, rfl⟩
    have hf8 : (Instr.storeAt 33 (.pointer (some ⟨wr.heap.size, 0, none⟩)) (.agg #[.bool p1, .slice A1 n1 c1, .bool q1, .slice A2 n2 c2, .bool p2, .slice A3 n3 c3, .bool q2, .slice A4 n4 c4])).run Tryz.prog (wr.alloc (.cells #[.bool false, .slice none 0 0, .bool false, .slice none 0 0, .bool false, .slice none 0 0, .bool false, .slice none 0 0] 33)) = .ok () Wk := by rw [← hWk]; exact fill_run rng_size rfl (by simp [Value.oneCell'])
    have bk : Below wr.heap.size wr Wk := by rw [← hWk]; exact bel
    have RK : RowV Wk wr.heap.size [.bool p1, .slice A1 n1 c1, .bool q1, .slice A2 n2 c2, .bool p2, .slice A3 n3 c3, .bool q2, .slice A4 n4 c4] 33 := by rw [← hWk]; exact heap_alloc_new wr _
    have v0 := RK.cell (k := 0) rfl; have v1 := RK.cell (k := 1) rfl; have v2 := RK.cell (k := 2) rfl; have v3 := RK.cell (k := 3) rfl; have v4 := RK.cell (k := 4) rfl; have v5 := RK.cell (k := 5) rfl; have v6 := RK.cell (k := 6) rfl; have v7 := RK.cell (k := 7) rfl; have HBK := Hd2 bk RK; clear bk RK
    have e1 : k1 = 0 := by rw [← hk1', r1]; rfl
    subst e1
    have e2 : k2 = 0 := by rw [← hk2', r2]; rfl
    subst e2; clear hx hxy hy hok r1 r2 hk1' hk2'
    skip
    gi_wp2_with (first
     | (refine ⟨trivial, ?_⟩; gi_at_call 31; have g' := G3.out; clear g'; refine Cn (must_yes _ _) ?_; rintro e w9 ⟨rfl, rfl⟩)
     | (refine ⟨trivial, ?_⟩; gi_at_call 32; have g' := G2.out; clear g'
        refine Cn (qcheck_any (l1 := x.2.1.2) (l2 := x.2.2.2) (M := M) (H.out.bel.le G2.out.1.bl.size) (HX.out.2.2.1.go G2.out.2) (HX.out.2.2.2.go G2.out.2)) ?_; rintro e w3 ⟨rfl, hb3⟩; rw [HK2.out]; have F3 := G2.out.1.go hb3; refine op1 F3 ?_; intros; have G3 := Hd F3
        clear hb3 F3)
     | (refine Cl 32 (qcheck_any (l1 := x.1.1.2) (l2 := x.1.2.2) (M := M) (H.out.bel.le (Nat.le_trans hF.out.bl.size HBK.out.1.size)) (HX.out.1.go HBK.out.1) (HX.out.2.1.go HBK.out.1)) ?_
        rintro e w2 ⟨rfl, hb2⟩; rw [HK1.out]; have g0 := (hb2.cell (World.block_lt_of_cell? Wk _ v4)).trans v4; have g1 := (hb2.cell (World.block_lt_of_cell? Wk _ v5)).trans v5; have g2 := (hb2.cell (World.block_lt_of_cell? Wk _ v6)).trans v6; have g3 := (hb2.cell (World.block_lt_of_cell? Wk _ v7)).trans v7; have hbb := HBK.out.1.trans (hb2.mono HBK.out.1.size); have F2 := hF.out.go hbb; refine op1 F2 ?_; intros; have G2 := Hd2 F2 hbb
        clear hb2 F2 hbb)
     | fail)
    exact ⟨⟨k + 1, by omega, by go_num, G3⟩, by simp [intOf]; omega⟩
  · gi_wp2
    clear hk hlt
    gi_loopw [43] (fun i wr => ∃ k : Nat, k ≤ m ∧ i = .int .i64 k ∧ Hid (Fr w wr [(w.heap.size, zG), (w.heap.size + 1, [.int .i64 0])])) (fun i _ => m - (intOf i).toNat)
    case atStart => exact ⟨0, Nat.zero_le _, rfl, hF⟩
    case round =>
     obtain ⟨k, hk, rfl, hF2⟩ := hrel; have hFo := hF2.out; refine op1 hFo ?_; intros; clear hFo
     by_cases hlt : k < m
     · obtain ⟨b, o, p1, q1, A1, n1, c1, B1, m1, d1, p2, q2, A2, n2, c2, B2, m2, d2, rfl, ⟨h0, h1, h2, h3⟩, ⟨h4, h5, h6, h7⟩, qlo, qhi⟩ := ((SlG.of H.out.si).go hF2.out.bl).at_ hlt
       have hok := H.out.in_k hlt
       obtain ⟨Wk, hWk⟩ : ∃ W' : World, wr.alloc (.cells #[.bool p1, .slice A1 n1 c1, .bool q1, .slice B1 m1 d1, .bool p2, .slice A2 n2 c2, .bool q2, .slice B2 m2 d2] 33) = W' := ⟨_, rfl⟩
       have hf8 : (Instr.storeAt 33 (.pointer (some ⟨wr.heap.size, 0, none⟩)) (.agg #[.bool p1, .slice A1 n1 c1, .bool q1, .slice B1 m1 d1, .bool p2, .slice A2 n2 c2, .bool q2, .slice B2 m2 d2])).run Tryz.prog (wr.alloc (.cells #[.bool false, .slice none 0 0, .bool false, .slice none 0 0, .bool false, .slice none 0 0, .bool false, .slice none 0 0] 33)) = .ok () Wk := by rw [← hWk]; exact fill_run rng_size rfl (by simp [Value.oneCell'])
       have bk : Below wr.heap.size wr Wk := by rw [← hWk]; exact bel
       have RK : RowV Wk wr.heap.size [.bool p1, .slice A1 n1 c1, .bool q1, .slice B1 m1 d1, .bool p2, .slice A2 n2 c2, .bool q2, .slice B2 m2 d2] 33 := by rw [← hWk]; exact heap_alloc_new wr _
       have v0 := RK.cell (k := 0) rfl; have v1 := RK.cell (k := 1) rfl; have v2 := RK.cell (k := 2) rfl; have v3 := RK.cell (k := 3) rfl; have v4 := RK.cell (k := 4) rfl; have v5 := RK.cell (k := 5) rfl; have v6 := RK.cell (k := 6) rfl; have v7 := RK.cell (k := 7) rfl; have X := Hd4 (qlo.go bk) (qhi.go bk) hok bk
       obtain ⟨cc, hcc⟩ : ∃ cc, decide (cmpQ (regG l k).2 (regG l k).1 < 0) = cc := ⟨_, rfl⟩
       have HC := Hd hcc; clear qlo qhi hok bk RK
       have hc : cc = false := by
        obtain ⟨y, hy⟩ : ∃ y, l[k]? = some y := ⟨_, List.getElem?_eq_getElem (by rw [H.out.li]; exact hlt)⟩
        have h1 := List.any_eq_false.1 HU.out y (List.mem_of_getElem? hy); rw [regG_get hy] at HC; rw [← HC.out]
        simpa [underG] using h1
       subst hc; clear hcc
       gi_wp2_with (first
        | (refine ⟨trivial, ?_⟩; gi_at_call 31; have g' := G5.out; clear g'; refine Cn (must_yes _ _) ?_; rintro e w9 ⟨rfl, rfl⟩)
        | (refine Cl 33 (less_any (M := M) (a := (regG l k).2) (b := (regG l k).1) (H.out.bel.le (Nat.le_trans hF2.out.bl.size X.out.2.2.2.size)) X.out.2.1.qw X.out.1.qw X.out.2.2.1.2.1 X.out.2.2.1.1.1 (X.out.2.2.1.2.2.fine X.out.2.2.1.1.2)) ?_
           rintro e w5 ⟨rfl, hb5⟩; rw [HC.out]; have F5 := hF2.out.go (X.out.2.2.2.trans (hb5.mono X.out.2.2.2.size)); refine op1 F5 ?_; intros; have G5 := Hd F5
           clear F5 hb5)
        | fail)
       exact ⟨⟨k + 1, by omega, by go_num, G5⟩, by simp [intOf]; omega⟩
     · obtain ⟨ib, hib⟩ : ∃ ib, wr.heap.size = ib := ⟨_, rfl⟩
       gi_wp2_with (refine Cl 34 (gsteps_any B m d wr) ?_
                    rintro e w5 ⟨rfl, hc5, hb5⟩; rw [hib] at hc5 ⊢
                    obtain ⟨OV, hOV⟩ : ∃ OV : Array Value, (gOpsL ib).toArray = OV := ⟨_, rfl⟩
                    rw [hOV]
                    obtain ⟨W3, hW3⟩ : ∃ W3 : World, w5.alloc (.cells OV 66) = W3 := ⟨_, rfl⟩
                    have hst : (Instr.storeAt 66 (.pointer (some ⟨w5.heap.size, 0, none⟩)) (.agg OV)).run Tryz.prog (w5.alloc (.cells #[.nilFunc, .nilFunc, .nilFunc, .nilFunc, .nilFunc, .nilFunc, .nilFunc, .nilFunc, .nilFunc] 66)) = .ok () W3 := by
                     rw [← hW3, ← hOV]; exact fill_run gops_size rfl (by simp [gOpsL, Value.oneCell'])
                    have hbW : Below w5.heap.size w5 W3 := by rw [← hW3]; exact bel
                    have R3 : Hid (RowV W3 w5.heap.size (gOpsL ib) 66) := by rw [← hW3, ← hOV]; exact heap_alloc_new w5 _
                    have C3 := Hd ((hbW.cell (p := ⟨ib, 0, none⟩) (World.block_lt_of_cell? w5 _ hc5)).trans hc5); have F3 := Hd ((hF2.out.go hb5).go hbW); have HB := Hd (show w.heap.size + 1 < ib ∧ ib < w5.heap.size from ⟨by rw [← hib]; exact hF2.out.ltn 1, World.block_lt_of_cell? w5 _ hc5⟩); have HS3 := Hd (show w5.heap.size + 1 ≤ W3.heap.size by rw [← hW3]; simp)
                    clear hc5 hb5 hbW hW3 hOV)
       obtain ⟨bo, hbo⟩ : ∃ bo, w5.heap.size = bo := ⟨_, rfl⟩
       rw [hbo] at R3 HB HS3 ⊢; have S0 : Hid (RunG w W3 M ib bo B m d (.slice none 0 0) 0 (runsG l [] (p.take 0))) := Hd ⟨F3.out, R3.out, C3.out, OwnS.nil _ _ _⟩; clear hst hbo hib F3 R3 C3 hk hlt
       gi_loopw [11, 59] (fun v0 i wr => ∃ (j : Nat) (v : Value), v = v0 ∧ j ≤ n ∧ i = .int .i64 j ∧ Hid (RunG w wr M ib bo B m d v j (runsG l [] (p.take j)))) (fun _ i _ => n - (intOf i).toNat)
       case atStart => exact ⟨0, _, rfl, Nat.zero_le _, rfl, S0⟩
       case round =>
        obtain ⟨j, v, rfl, hj, rfl, hS⟩ := hrel; obtain ⟨Av, cv, rfl, hsq⟩ := hS.out.own.slG (by omega); have hfr := hS.out.fr; refine op1 hfr ?_; intros; clear hfr
        by_cases hlt : j < n
        · obtain ⟨x, hx⟩ : ∃ x, p[j]? = some x := ⟨_, List.getElem?_eq_getElem (by rw [H.out.lp]; exact hlt)⟩
          obtain ⟨op, xa, xb, xc, xd, r⟩ := x; have hrk := H.out.right_k hx; obtain ⟨o, rfl, ho1, ho8⟩ := right_op hrk.1
          obtain ⟨M0, hM0⟩ : ∃ M0, ownL (.slice Av j cv) ++ (w.heap.size :: (w.heap.size + 1) :: M) = M0 := ⟨_, rfl⟩
          have hMe : (ownL (.slice Av j cv) ++ [w.heap.size, w.heap.size + 1]) ++ M = M0 := by rw [← hM0]; simp
          have hown : ∀ q, q ∈ ownL (.slice Av j cv) → bo + 1 ≤ q ∧ q < wr.heap.size := fun q hq => hS.out.own.lt (mem_ownL.1 hq)
          have hge : ∀ q, q ∈ ownL (.slice Av j cv) ++ [w.heap.size, w.heap.size + 1] → w.heap.size ≤ q := fun q hq => by
           have := HB.out
           rcases List.mem_append.1 hq with hq | hq
           · have := (hown q hq).1; omega
           · simp at hq; omega
          have hMw : Bel (w.heap.size :: (w.heap.size + 1) :: M) wr := ((H.out.bel.le hS.out.fr.bl.size).cons (hS.out.fr.ltn 1)).cons (hS.out.fr.ltn 0)
          have hbel : Bel M0 wr := fun q hq => by
           rw [← hM0] at hq
           rcases List.mem_append.1 hq with hq | hq
           · exact (hown q hq).2
           · exact hMw q hq
          have hsp0 : Sl InsR wr M0 A n c p := by rw [← hMe]; exact (H.out.sp.moreL _ hge).go hS.out.fr.bl
          have hsi0 : SlG wr M0 B m d l := by rw [← hMe]; exact ((SlG.of H.out.si).moreL _ hge).go hS.out.fr.bl
          rw [hM0] at hsq; obtain ⟨b, o1, A1, n1, c1, A2, n2, c2, rfl, ⟨g0, g1, g2, g3, g4⟩, ⟨h5, h6, h7, h8⟩, hi64, s1, s2⟩ := hsp0.insat hx
          obtain ⟨p5, hp5⟩ : ∃ p, r.1.1 = p := ⟨_, rfl⟩
          obtain ⟨q5, hq5⟩ : ∃ q, r.2.1 = q := ⟨_, rfl⟩
          rw [hp5] at h5; rw [hq5] at h7
          obtain ⟨W6, hW6⟩ : ∃ W6 : World, wr.alloc (.cells #[.int .i64 (o : Int), .int .i64 xa, .int .i64 xb, .int .i64 xc, .int .i64 xd, .bool p5, .slice A1 n1 c1, .bool q5, .slice A2 n2 c2] 55) = W6 := ⟨_, rfl⟩
          have hfi : (Instr.storeAt 55 (.pointer (some ⟨wr.heap.size, 0, none⟩)) (.agg #[.int .i64 (o : Int), .int .i64 xa, .int .i64 xb, .int .i64 xc, .int .i64 xd, .bool p5, .slice A1 n1 c1, .bool q5, .slice A2 n2 c2])).run Tryz.prog (wr.alloc (.cells #[.int .i64 0, .int .i64 0, .int .i64 0, .int .i64 0, .int .i64 0, .bool false, .slice none 0 0, .bool false, .slice none 0 0] 55)) = .ok () W6 := by rw [← hW6]; exact fill_run ins_size rfl (by simp [Value.oneCell'])
          have b6 : Below wr.heap.size wr W6 := by rw [← hW6]; exact bel
          have R6 : RowV W6 wr.heap.size [.int .i64 (o : Int), .int .i64 xa, .int .i64 xb, .int .i64 xc, .int .i64 xd, .bool p5, .slice A1 n1 c1, .bool q5, .slice A2 n2 c2] 55 := by rw [← hW6]; exact heap_alloc_new wr _
          have RO6 : RowV W6 bo (gOpsL ib) 66 := hS.out.ro.go b6 hS.out.ro.lt; have hci6 : W6.cell? ⟨ib, 0, none⟩ = some (.slice B m d) := (b6.cell (p := ⟨ib, 0, none⟩) (World.block_lt_of_cell? wr _ hS.out.ci)).trans hS.out.ci; have XAH := Hd5 (hbel.le b6.size) (hsi0.go b6) hci6 (hsq.go b6) (show XC W6 M0 r p5 q5 A1 n1 c1 A2 n2 c2 from ⟨hp5, hq5, s1.go b6, s2.go b6⟩); have HR := Hd3 hrk.1 hrk.2 (H.out.all hj); have hbr : bo < wr.heap.size := hS.out.ro.lt; have HXJ := Hd5 hx hM0 b6 (And.intro hbr (fun q hq => (hown q hq).1)) hMw
          have hiv : wr.heap.size ∉ ownL (.slice Av j cv) := fun hm => by have := (hown _ hm).2; omega
          have hib : bo ∉ ownL (.slice Av j cv) := fun hm => by have := (hown _ hm).1; omega
          have ho9 : (o : Int) < 9 := by omega
          have hcf := callG ho1 ho8; clear hx hrk hMe hown hge hbel hsp0 hsi0 hsq hp5 hq5 hM0 s1 s2 b6 hi64 hMw hci6 hbr
          by_cases h2 : o = 2
          · have HH2 := Hd h2
            clear h2; have v0 := stays_m hiv (R6.cell (k := 0) rfl); have v1 := stays_m hiv (R6.cell (k := 1) rfl); have v2 := stays_m hiv (R6.cell (k := 2) rfl); have v3 := stays_m hiv (R6.cell (k := 3) rfl); have v4 := stays_m hiv (R6.cell (k := 4) rfl); have v5 := stays_m hiv (R6.cell (k := 5) rfl); have v6 := stays_m hiv (R6.cell (k := 6) rfl); have v7 := stays_m hiv (R6.cell (k := 7) rfl); have v8 := stays_m hiv (R6.cell (k := 8) rfl); have vf := stays_m hib (RO6.cell (k := o) (gops_at2 HH2.out)); clear R6 RO6 hiv hib; gi_wp2; refine region_E_np (ownL (.slice Av j cv)) 10 (by kernel_rfl) (by kernel_rfl) ?_; refine E_rd 0 ?_; refine E_rd 1 ?_; refine E_rd 2 ?_; refine E_rd 3 ?_; refine E_rd 4 ?_; refine E_rd 5 ?_; refine E_rd 6 ?_
            refine E_al 7 fun K hK => ?_; gi_wp2
            have HG := gstep_any (o := o) (XAH.out.1.le (w' := W6.drew) (Nat.le_refl _)) XAH.out.2.1.drew XAH.out.2.2.1 XAH.out.2.2.2.1.drew XAH.out.2.2.2.2.drew HR.out.1 HR.out.2.1 HR.out.2.2; rw [if_pos HH2.out] at HG; refine ⟨trivial, (callsIn_wide.2 HG).mono ?_⟩; clear HG; rintro e w7 ⟨u7, rfl, ⟨p8, q8, A8, n8, c8, B8, m8, d8, p9, q9, A9, n9, c9, B9, m9, d9, rfl, qlo, qhi⟩, hb7⟩; have hbj : Below wr.heap.size wr w7 := HXJ.out.2.2.1.drew.trans (hb7.mono HXJ.out.2.2.1.size); have own7 := hS.out.own.go hbj; rw [← HXJ.out.2.1] at qlo qhi; have hMb : Bel (w.heap.size :: (w.heap.size + 1) :: M) w7 := HXJ.out.2.2.2.2.le hbj.size; obtain ⟨v', wA, r1, r2, r3, r4, r5⟩ := app_rng own7 (by have := HXJ.out.2.2.2.1; have := hbj.size; omega) hMb qlo qhi (by omega)
            have hne : ∀ q, (Value.slice Av j cv).ownBlock = some q → bo + 1 ≤ q := fun q hq => HXJ.out.2.2.2.1.2 q (mem_ownL.2 hq)
            have FA : Fr w wA [(w.heap.size, zG), (w.heap.size + 1, [.int .i64 0])] := (hS.out.fr.go hbj).grown r3 (fun q hq => by
             have h1 := hne q hq; have h2 := HB.out; refine ⟨by omega, fun b vs hm => ?_⟩
             simp at hm
             omega)
            have hciA : wA.cell? ⟨ib, 0, none⟩ = some (.slice B m d) := by
             have h1 := (hbj.cell (p := ⟨ib, 0, none⟩) (World.block_lt_of_cell? wr _ hS.out.ci)).trans hS.out.ci; exact r3.cell h1 (fun e => by have := hne ib e.symm; have := HB.out; omega)
            have RUN := Hd r1; have HF := Hd (show RunG w wA M ib bo B m d v' (j + 1) (runsG l [] (p.take (j + 1))) from ⟨FA, RowV.grown (hS.out.ro.go hbj hS.out.ro.lt) r3 (fun e => by have := hne bo e; omega), hciA, by rw [H.out.step HXJ.out.1]; exact r2⟩); have R5 := Hd r5; clear r1 r2 r3 r4 r5 own7 hMb hne FA hciA hbj qlo qhi; refine hK _ _ ⟨?_, ?_⟩; clear hK K
            · exact Keeps.of_below hb7 _
            refine lit ?_; clear hb7
            refine E_al 8 fun K hK => ?_; gi_wp2
            refine ⟨Keeps.of_below (show Below w7.heap.size w7 _ from (Below.refl _ _).alloc (Nat.le_refl _) _) _, ?_⟩; refine lit ?_; refine E_all 9 [] (by kernel_rfl) (AllE_cons (by decide) rfl ?_ (fun K hK => ?_) AllE_nil)
            · exact wy
            refine wpIn_append _ _ _ rfl rfl rfl RUN.out (hK _ _ ⟨R5.out, ?_⟩); clear hK K; refine lit ?_
            refine E_nl 1 ?_; refine tls fun K hK K' hK' => ?_; gi_wp2; refine tail_nil _ ?_; simp only [npost]; gi_wp2
            exact ⟨⟨j + 1, _, rfl, by omega, by go_num, HF⟩, by simp [intOf]; omega⟩
          · have HH2 := Hd h2
            clear h2; have v0 := stays_m hiv (R6.cell (k := 0) rfl); have v1 := stays_m hiv (R6.cell (k := 1) rfl); have v2 := stays_m hiv (R6.cell (k := 2) rfl); have v3 := stays_m hiv (R6.cell (k := 3) rfl); have v4 := stays_m hiv (R6.cell (k := 4) rfl); have v5 := stays_m hiv (R6.cell (k := 5) rfl); have v6 := stays_m hiv (R6.cell (k := 6) rfl); have v7 := stays_m hiv (R6.cell (k := 7) rfl); have v8 := stays_m hiv (R6.cell (k := 8) rfl); have vf := stays_m hib (RO6.cell (k := o) (gops_at ho1 ho8 HH2.out)); clear R6 RO6 hiv hib; gi_wp2; refine region_E_np (ownL (.slice Av j cv)) 10 (by kernel_rfl) (by kernel_rfl) ?_; refine E_rd 0 ?_; refine E_rd 1 ?_; refine E_rd 2 ?_; refine E_rd 3 ?_; refine E_rd 4 ?_; refine E_rd 5 ?_; refine E_rd 6 ?_
            refine E_al 7 fun K hK => ?_; gi_wp2
            have HG := gstep_any (o := o) (XAH.out.1.le (w' := W6.drew) (Nat.le_refl _)) XAH.out.2.1.drew XAH.out.2.2.1 XAH.out.2.2.2.1.drew XAH.out.2.2.2.2.drew HR.out.1 HR.out.2.1 HR.out.2.2; rw [if_neg HH2.out] at HG; refine ⟨trivial, (callsIn_wide.2 HG).mono ?_⟩; clear HG; rintro e w7 ⟨u7, rfl, ⟨p8, q8, A8, n8, c8, B8, m8, d8, p9, q9, A9, n9, c9, B9, m9, d9, rfl, qlo, qhi⟩, hb7⟩; have hbj : Below wr.heap.size wr w7 := HXJ.out.2.2.1.drew.trans (hb7.mono HXJ.out.2.2.1.size); have own7 := hS.out.own.go hbj; rw [← HXJ.out.2.1] at qlo qhi; have hMb : Bel (w.heap.size :: (w.heap.size + 1) :: M) w7 := HXJ.out.2.2.2.2.le hbj.size; obtain ⟨v', wA, r1, r2, r3, r4, r5⟩ := app_rng own7 (by have := HXJ.out.2.2.2.1; have := hbj.size; omega) hMb qlo qhi (by omega)
            have hne : ∀ q, (Value.slice Av j cv).ownBlock = some q → bo + 1 ≤ q := fun q hq => HXJ.out.2.2.2.1.2 q (mem_ownL.2 hq)
            have FA : Fr w wA [(w.heap.size, zG), (w.heap.size + 1, [.int .i64 0])] := (hS.out.fr.go hbj).grown r3 (fun q hq => by
             have h1 := hne q hq; have h2 := HB.out; refine ⟨by omega, fun b vs hm => ?_⟩
             simp at hm
             omega)
            have hciA : wA.cell? ⟨ib, 0, none⟩ = some (.slice B m d) := by
             have h1 := (hbj.cell (p := ⟨ib, 0, none⟩) (World.block_lt_of_cell? wr _ hS.out.ci)).trans hS.out.ci; exact r3.cell h1 (fun e => by have := hne ib e.symm; have := HB.out; omega)
            have RUN := Hd r1; have HF := Hd (show RunG w wA M ib bo B m d v' (j + 1) (runsG l [] (p.take (j + 1))) from ⟨FA, RowV.grown (hS.out.ro.go hbj hS.out.ro.lt) r3 (fun e => by have := hne bo e; omega), hciA, by rw [H.out.step HXJ.out.1]; exact r2⟩); have R5 := Hd r5; clear r1 r2 r3 r4 r5 own7 hMb hne FA hciA hbj qlo qhi; refine hK _ _ ⟨?_, ?_⟩; clear hK K
            · exact Keeps.of_below hb7 _
            refine lit ?_; clear hb7
            refine E_al 8 fun K hK => ?_; gi_wp2
            refine ⟨Keeps.of_below (show Below w7.heap.size w7 _ from (Below.refl _ _).alloc (Nat.le_refl _) _) _, ?_⟩; refine lit ?_; refine E_all 9 [] (by kernel_rfl) (AllE_cons (by decide) rfl ?_ (fun K hK => ?_) AllE_nil)
            · exact wy
            refine wpIn_append _ _ _ rfl rfl rfl RUN.out (hK _ _ ⟨R5.out, ?_⟩); clear hK K; refine lit ?_
            refine E_nl 1 ?_; refine tls fun K hK K' hK' => ?_; gi_wp2; refine tail_nil _ ?_; simp only [npost]; gi_wp2
            exact ⟨⟨j + 1, _, rfl, by omega, by go_num, HF⟩, by simp [intOf]; omega⟩
        · have hjn : j = n := by omega
          clear hj hlt; subst hjn
          obtain ⟨kk, hkk⟩ : ∃ kk, j - 1 = kk := ⟨_, rfl⟩
          have hklt : kk < j := by omega
          rw [hkk] at k0; have hres := H.out.res; rw [hkk] at hres; obtain ⟨b9, o9, p8, q8, A8, n8, c8, B8, m8, d8, p9, q9, A9, n9, c9, B9, m9, d9, rfl, ⟨i0, i1, i2, i3⟩, ⟨i4, i5, i6, i7⟩, qlo, qhi⟩ := hsq.at_ hklt; rw [hres] at qlo qhi; have hz := hS.out.fr.nth 0
          have hE := (hS.out.fr.cel 1 0)
          have hls : ∀ q, q ∈ w.heap.size :: (w.heap.size + 1) :: M → q ∈ ownL (.slice (some ⟨b9, o9, none⟩) j cv) ++ (w.heap.size :: (w.heap.size + 1) :: M) := fun q hq => List.mem_append_right _ hq
          obtain ⟨wF, hwF, ⟨t0, t1, t2, t3⟩, ⟨t4, t5, t6, t7⟩, t8, hG, bF⟩ := fin9 (M := M) (e := w.heap.size + 1) (hz 0 _ rfl) (hz 1 _ rfl) (hz 2 _ rfl) (hz 3 _ rfl) (hz 4 _ rfl) (hz 5 _ rfl) (hz 6 _ rfl) (hz 7 _ rfl) hE (x := outG p l) (qlo.less hls) (qhi.less hls) hS.out.fr.bl (Nat.le_refl _) (by omega) (by omega) 0; obtain ⟨V8, hV8, F8, -, -⟩ := Fr.put8 (L := [(w.heap.size + 1, [.int .i64 0])]) (y := w.heap.size) (show Fr w wr ([(w.heap.size + 1, [.int .i64 0])] ++ [(w.heap.size, zG)]) from hS.out.fr.sub (fun x hx => by simp at hx ⊢; rcases hx with rfl | rfl <;> simp)) (by intro b vs hm; simp at hm; omega) (.bool p8) (.slice A8 n8 c8) (.bool q8) (.slice B8 m8 d8) (.bool p9) (.slice A9 n9 c9) (.bool q9) (.slice B9 m9 d9); have hst8 := (store8_run (hS.out.fr.at_ w.heap.size zG (by simp)) p8 q8 p9 q9 A8 B8 A9 B9 n8 c8 m8 d8 n9 c9 m9 d9).trans (by rw [hV8]); rw [hV8] at hwF; have hE8 := F8.at_ (w.heap.size + 1) [.int .i64 0] (by simp) 0 _ rfl; have hstE := (storeE_run hE8.1 hE8.2 0).trans (by rw [hwF]); have HW := Hd (And.intro t0 (And.intro t1 (And.intro t2 (And.intro t3 (And.intro t4 (And.intro t5 (And.intro t6 (And.intro t7 (And.intro t8 (And.intro hG.gv bF)))))))))); clear hz hE hls qlo qhi hsq hres hkk t0 t1 t2 t3 t4 t5 t6 t7 t8 hG bF hE8 F8 hV8 hwF; gi_wp2; refine leavesIn_cons (f := 29) (args := #[.pointer (some ⟨w.heap.size + 1, 0, none⟩)]) (by simp) (by simp) (by simp [go_sem]) (fun _ _ => trivial) ?_; refine (caughtG_idle ⟨w.heap.size + 1, 0, none⟩ _).mono ?_; rintro e u' w'' ⟨rfl, rfl, rfl⟩; refine ⟨.tuple #[.agg #[.bool p8, .slice A8 n8 c8, .bool q8, .slice B8 m8 d8, .bool p9, .slice A9 n9 c9, .bool q9, .slice B9 m9 d9], .int .i64 0], ?_, _, by first | (rw [HE.out]; done) | (rw [HE.out]; rfl), by rw [HV.out]; exact HW.out.2.2.2.2.2.2.2.2.2.1, HW.out.2.2.2.2.2.2.2.2.2.2⟩
          simp [results, Tryz.results11, go_sem, HW.out.1, HW.out.2.1, HW.out.2.2.1, HW.out.2.2.2.1, HW.out.2.2.2.2.1, HW.out.2.2.2.2.2.1, HW.out.2.2.2.2.2.2.1, HW.out.2.2.2.2.2.2.2.1, HW.out.2.2.2.2.2.2.2.2.1]
theorem gout_any {M : List Nat} {A B : Option Addr} {n c m d : Nat} {p : List InsR} {ins : List RngR} {w : World} (hM : Bel M w) (hp : Sl InsR w M A n c p) (hi : Sl RngR w M B m d ins) (hf : fewPB p = true) (hg : fewGs ins = true) :
 Calls Tryz.prog 11 #[.slice A n c, .slice B m d] w (OutR w M p ins) := by
 by_cases hc : codeE p m = 0
 · cases hr : ins.all rngOk
   · exact gout_rat hM hp hi hc hr
   · have e := enc_decGs hr
     have hfp := fewP_of hf hc
     have h : OutH w M A n c B m d p (ins.map decG) := ⟨hM, hp, by rw [e]; exact hi, hc, hfp.2.1, by rw [← hp.len]; exact hfp.1, regs_gs hg hr⟩
     rw [← e]; cases hu : (ins.map decG).any underG
     · exact gout_ok h hu
     · exact gout_under h hu
 · exact gout_bad hM hp hi hc
end
section
open Go.RowKit Go.Shelf
def NeedR (w : World) (p : List InsR) (ins : List RatR) (at_ : Int) (vs : List RatR) (t : RatR) (e : Ending) (w' : World) : Prop :=
 e = .returned (.tuple #[.int .i64 (needV p ins at_ vs t).1, .bool (needV p ins at_ vs t).2, .int .i64 (needE p ins at_ vs t)]) ∧ Below w.heap.size w w'
structure NeedH (w : World) (M : List Nat) (A : Option Addr) (n c : Nat) (B : Option Addr) (m d : Nat) (D : Option Addr) (k e : Nat) (p : List InsR) (ins : List RatR) (vs : List RatR) (t : RatR) (p0 q0 : Bool) (E0 : Option Addr) (n0 c0 : Nat) (F0 : Option Addr) (m0 d0 : Nat) : Prop where
 bel : Bel M w
 sp : Sl InsR w M A n c p
 si : Sl RatR w M B m d ins
 sv : Sl RatR w M D k e vs
 st : XC w M t p0 q0 E0 n0 c0 F0 m0 d0
 fp : fewPB p = true
 fi : fewQs ins = true
 fv : fewQs vs = true
 ft : shortQ t = true
section
variable {w : World} {M : List Nat} {A B D E0 F0 : Option Addr} {n c m d k e n0 c0 m0 d0 : Nat} {p : List InsR} {ins vs : List RatR} {t : RatR} {p0 q0 : Bool} {at_ : Int}
theorem NeedH.m30 (h : NeedH w M A n c B m d D k e p ins vs t p0 q0 E0 n0 c0 F0 m0 d0) : m ≤ 30 := by
 have h1 := h.fi
 simp only [fewQs, Bool.and_eq_true, decide_eq_true_eq] at h1
 rw [← h.si.len]; exact h1.1
theorem NeedH.k30 (h : NeedH w M A n c B m d D k e p ins vs t p0 q0 E0 n0 c0 F0 m0 d0) : k ≤ 30 := by
 have h1 := h.fv
 simp only [fewQs, Bool.and_eq_true, decide_eq_true_eq] at h1
 rw [← h.sv.len]; exact h1.1
theorem NeedH.eBad (h : NeedH w M A n c B m d D k e p ins vs t p0 q0 E0 n0 c0 F0 m0 d0) (hc : codeE p m ≠ 0) : needE p ins at_ vs t = 190 ∧ needV p ins at_ vs t = (0, false) := by
 have e1 : needE p ins at_ vs t = 190 := by unfold needE; rw [h.si.len, if_neg hc]
 exact ⟨e1, by unfold needV; rw [e1]; rfl⟩
theorem NeedH.eRat (h : NeedH w M A n c B m d D k e p ins vs t p0 q0 E0 n0 c0 F0 m0 d0) (hc : codeE p m = 0) (hr : (ins.all ratOk && vs.all ratOk && ratOk t) = false) : needE p ins at_ vs t = 100 ∧ needV p ins at_ vs t = (0, false) := by
 have e1 : needE p ins at_ vs t = 100 := by unfold needE; rw [h.si.len, if_pos hc, hr]; rfl
 exact ⟨e1, by unfold needV; rw [e1]; rfl⟩
theorem NeedH.eAt (h : NeedH w M A n c B m d D k e p ins vs t p0 q0 E0 n0 c0 F0 m0 d0) (hc : codeE p m = 0) (hr : (ins.all ratOk && vs.all ratOk && ratOk t) = true) (ha : ¬ (0 ≤ at_ ∧ at_ < m)) : needE p ins at_ vs t = 1 ∧ needV p ins at_ vs t = (0, false) := by
 have e1 : needE p ins at_ vs t = 1 := by unfold needE; rw [h.si.len, if_pos hc, hr, if_pos rfl, if_neg ha]
 exact ⟨e1, by unfold needV; rw [e1]; rfl⟩
theorem NeedH.eAsc (h : NeedH w M A n c B m d D k e p ins vs t p0 q0 E0 n0 c0 F0 m0 d0) (hc : codeE p m = 0) (hr : (ins.all ratOk && vs.all ratOk && ratOk t) = true) (ha : 0 ≤ at_ ∧ at_ < m) (hs : ascends (vs.map decQ) = false) : needE p ins at_ vs t = 200 ∧ needV p ins at_ vs t = (0, false) := by
 have e1 : needE p ins at_ vs t = 200 := by unfold needE; rw [h.si.len, if_pos hc, hr, if_pos rfl, if_pos ha, hs]; rfl
 exact ⟨e1, by unfold needV; rw [e1]; rfl⟩
theorem NeedH.eOk (h : NeedH w M A n c B m d D k e p ins vs t p0 q0 E0 n0 c0 F0 m0 d0) (hc : codeE p m = 0) (hr : (ins.all ratOk && vs.all ratOk && ratOk t) = true) (ha : 0 ≤ at_ ∧ at_ < m) (hs : ascends (vs.map decQ) = true) : needE p ins at_ vs t = 0 ∧ needV p ins at_ vs t = firstK (enough p (ins.map decQ) at_ (decQ t)) 0 (vs.map decQ) := by
 have e1 : needE p ins at_ vs t = 0 := by unfold needE; rw [h.si.len, if_pos hc, hr, if_pos rfl, if_pos ha, hs]; rfl
 exact ⟨e1, by unfold needV; rw [e1]; rfl⟩
theorem all_three {ins vs : List RatR} {t : RatR} : (ins ++ vs ++ [t]).all ratOk = (ins.all ratOk && vs.all ratOk && ratOk t) := by simp [List.all_append, Bool.and_assoc]
end
structure AS (W V : World) (M : List Nat) (v : Value) (n : Nat) (xs : List RatR) : Prop where
 own : OwnS RatR 31 V M W.heap.size v n xs
 bl : Below W.heap.size W V
section
variable {W V : World} {M : List Nat} {v : Value} {n m c : Nat} {A : Option Addr} {xs ys zs : List RatR} {t : RatR}
theorem AS.start (W : World) (M : List Nat) : AS W W.drew M (.slice none 0 0) 0 [] := ⟨OwnS.nil _ _ _, (Below.refl _ _).drew⟩
theorem AS.sl (h : AS W V M v n xs) (hx : Sl RatR W M A m c ys) : Sl RatR V (ownL v ++ M) A m c ys := (hx.moreL (ownL v) (fun q hq => (h.own.lt (mem_ownL.1 hq)).1)).go h.bl
theorem AS.op0 (h : AS W V M (.slice none 0 0) 0 []) : AS W (V.alloc (.cells #[] 31)) M (.slice (some ⟨V.heap.size, 0, none⟩) 0 0) 0 [] ∧
 ∀ (A' : Option Addr) (m' c' : Nat) (zs : List RatR), Sl RatR V (ownL (.slice none 0 0) ++ M) A' m' c' zs → Sl RatR (V.alloc (.cells #[] 31)) (ownL (.slice (some ⟨V.heap.size, 0, none⟩) 0 0) ++ M) A' m' c' zs :=
 ⟨⟨OwnS.lit _ _ h.bl.size, h.bl.alloc h.bl.size _⟩, fun A' m' c' zs hz => (hz.more (b := V.heap.size) (Nat.le_refl _)).go (by exact bel)⟩
theorem AS.lit (h : AS W V M v n xs) (hM : Bel M W) {p q : Bool} {A B : Option Addr} {n1 c1 m1 d1 : Nat} (ht : XC W M t p q A n1 c1 B m1 d1) :
 AS W (V.alloc (.cells #[.bool p, .slice A n1 c1, .bool q, .slice B m1 d1] 31)) M v n xs ∧ Sl RatR (V.alloc (.cells #[.bool p, .slice A n1 c1, .bool q, .slice B m1 d1] 31)) (ownL v ++ M) (some ⟨V.heap.size, 0, none⟩) 1 1 [t] := by
 refine ⟨⟨h.own.go (by exact bel), h.bl.alloc h.bl.size _⟩, ?_⟩
 have hb : Bel (ownL v ++ M) V := fun q hq => by
  rcases List.mem_append.1 hq with hq | hq
  · exact (h.own.lt (mem_ownL.1 hq)).2
  · exact (hM.le h.bl.size) q hq
 have h1 : ∀ {A : Option Addr} {n c : Nat} {l : List Int}, Sl Int W M A n c l → Sl Int V (ownL v ++ M) A n c l := fun hx => (hx.moreL (ownL v) (fun q hq => (h.own.lt (mem_ownL.1 hq)).1)).go h.bl
 refine Sl.lit hb _ (cs := [.bool p, .slice A n1 c1, .bool q, .slice B m1 d1]) rfl (by omega) fun k y hk => ?_
 match k, hk with
 | 0, hk =>
   cases hk; refine ⟨[.bool p, .slice A n1 c1, .bool q, .slice B m1 d1], ?_, fun j u hu => by simpa using hu⟩; rw [← ht.hp, ← ht.hq]; exact rat_rd (h1 ht.s1) (h1 ht.s2)
theorem AS.app (h : AS W V M v n xs) (hy : Sl RatR V (ownL v ++ M) A m c ys) (hn : n ≤ 100000) (hm : m ≤ 100000) :
 ∃ v' V', (Builtin.append_ #[39, 39] 39 #[v, .slice A m c]).run Tryz.prog V = .ok v' V' ∧ AS W V' M v' (n + m) (xs ++ ys) ∧ Keeps (ownL v) V V' ∧
  ∀ (A' : Option Addr) (m' c' : Nat) (zs : List RatR), Sl RatR V (ownL v ++ M) A' m' c' zs → Sl RatR V' (ownL v' ++ M) A' m' c' zs := by
 obtain ⟨i, hi, hz, hs, hb⟩ := info_parts rat_info
 obtain ⟨v', V', r1, r2, r3, r4, r5⟩ := h.own.appendC (ty := 39) (t := 39) h.bl.size Tryz.underlying39 hi hz hs rfl (by omega) hy hn hm
 exact ⟨v', V', r1, ⟨r2, h.bl.grown r3 h.bl.size (fun q hq => (h.own.lt hq).1)⟩, r4, r5⟩
theorem AS.ge (h : AS W V M v n xs) : ∀ q, v.ownBlock = some q → W.heap.size ≤ q := fun q hq => (h.own.lt hq).1
end
theorem regQ_cons (x : Rt) (l : List Rt) (i : Nat) : regQ (x :: l) ((i + 1 : Nat) : Int) = regQ l (i : Int) := by unfold regQ; rw [Int.toNat_natCast, Int.toNat_natCast]; rfl
theorem ascends_of : ∀ {l : List Rt}, (∀ i, i + 1 < l.length → cmpQ (regQ l i) (regQ l ((i + 1 : Nat) : Int)) < 0) → ascends l = true
 | [], _ => rfl
 | [_], _ => rfl
 | x :: y :: l, h => by
   have h1 := h 0 (by simp)
   have h2 : ascends (y :: l) = true := ascends_of (l := y :: l) fun i hi => by
    have := h (i + 1) (by simp at hi ⊢; omega); have e1 : regQ (x :: y :: l) ((i + 1 : Nat) : Int) = regQ (y :: l) (i : Int) := regQ_cons _ _ _; have e2 : regQ (x :: y :: l) ((i + 1 + 1 : Nat) : Int) = regQ (y :: l) ((i + 1 : Nat) : Int) := regQ_cons _ _ _
    rwa [e1, e2] at this
   have e1 : regQ (x :: y :: l) ((0 : Nat) : Int) = x := rfl; have e2 : regQ (x :: y :: l) ((0 + 1 : Nat) : Int) = y := rfl; rw [e1, e2] at h1; unfold ascends; rw [h2, decide_eq_true h1]
   rfl
theorem ascends_at : ∀ {l : List Rt}, ascends l = true → ∀ i, i + 1 < l.length → cmpQ (regQ l i) (regQ l ((i + 1 : Nat) : Int)) < 0
 | [], _, i, hi => by simp at hi
 | [_], _, i, hi => by simp at hi
 | x :: y :: l, h, i, hi => by
   unfold ascends at h; rw [Bool.and_eq_true, decide_eq_true_eq] at h
   cases i with
   | zero => exact h.1
   | succ i =>
     have := ascends_at (l := y :: l) h.2 i (by simp at hi ⊢; omega); have e1 : regQ (x :: y :: l) ((i + 1 : Nat) : Int) = regQ (y :: l) (i : Int) := regQ_cons _ _ _; have e2 : regQ (x :: y :: l) ((i + 1 + 1 : Nat) : Int) = regQ (y :: l) ((i + 1 : Nat) : Int) := regQ_cons _ _ _
     rwa [e1, e2]
theorem regQ_get {l : List Rt} {k : Nat} {x : Rt} (h : l[k]? = some x) : regQ l k = x := by simp [regQ, h]
theorem drop_get {α : Type} {l : List α} {k : Nat} {x : α} (h : l[k]? = some x) : l.drop k = x :: l.drop (k + 1) := by
 obtain ⟨hk, rfl⟩ := List.getElem?_eq_some_iff.1 h
 exact List.drop_eq_getElem_cons hk
theorem firstK_step {f : Rt → Bool} {l : List Rt} {k : Nat} {x : Rt} (h : l[k]? = some x) : firstK f k (l.drop k) = if f x then ((k : Int), true) else firstK f (k + 1) (l.drop (k + 1)) := by
 rw [drop_get h]
 rfl
theorem RunH.res_ok {w : World} {M : List Nat} {A B : Option Addr} {n c m d : Nat} {p : List InsR} {ins : List Rt} (h : RunH w M A n c B m d p ins) : (resQ p ins).ok ∧ Sh (resQ p ins) := by
 rw [← h.res]
 refine (h.all (Nat.le_refl n)).ref (decide_eq_true ⟨by omega, ?_⟩)
 rw [runsQ_len, List.length_take, h.lp]
 have := h.pos
 simp
 omega
structure NeedG (w : World) (M : List Nat) (A : Option Addr) (n c : Nat) (B : Option Addr) (m d : Nat) (D : Option Addr) (k e : Nat) (p : List InsR) (ins : List RatR) (vs : List RatR) (t : RatR) : Prop where
 si : Sl RatR w M B m d ((ins.map decQ).map encQ)
 sv : SlQ w M D k e (vs.map decQ)
 ri : ratOk t = true
 aS : AllS (vs.map decQ)
 tS : (decQ t).ok ∧ Sh (decQ t)
 lp : n ≤ 20
 fw : FewP p
 rg : ∀ a v, v ∈ vs.map decQ → Regs 0 ((ins.map decQ).set a v)
theorem NeedH.g {w : World} {M : List Nat} {A B D E0 F0 : Option Addr} {n c m d k e n0 c0 m0 d0 : Nat} {p : List InsR} {ins vs : List RatR} {t : RatR} {p0 q0 : Bool} (h : NeedH w M A n c B m d D k e p ins vs t p0 q0 E0 n0 c0 F0 m0 d0) (hc : codeE p m = 0) (hr : (ins.all ratOk && vs.all ratOk && ratOk t) = true) : NeedG w M A n c B m d D k e p ins vs t := by
 simp only [Bool.and_eq_true] at hr
 obtain ⟨⟨h1, h2⟩, h3⟩ := hr
 have hfp := fewP_of h.fp hc
 have hi := few_lt h.fi h1
 have hv := few_lt h.fv h2
 refine ⟨by rw [enc_decs h1]; exact h.si, SlQ.of (by rw [enc_decs h2]; exact h.sv), h3, (regs_qs h.fv h2).sh (by omega), ?_, by rw [← h.sp.len]; exact hfp.1, hfp.2.1, fun a v hm => regs_of_few (by simp; omega) fun x hx => ?_⟩
 · exact ⟨decQ_ok h3, few3_right h3 (few3_of h.ft (.inl h3))⟩
 · rcases List.mem_or_eq_of_mem_set hx with hx | rfl
   · exact hi.2 x hx
   · exact hv.2 _ hm
theorem own_free {w : World} {base g n c size k : Nat} {e : TypeId} {cs : List Value} (h : w.ownsRow base e size (.slice (some ⟨g, 0, none⟩) n c) n cs) : w.frozen? ⟨g, k, none⟩ = false := by
 rcases h.2 with ⟨e0, _⟩ | ⟨g', cap', cur, e0, hb, hh, -⟩
 · cases e0
 · cases e0
   simp [World.frozen?, hh]
end
namespace T
open Go.RowKit Go.Shelf
section
variable {F : Fence} {n : Nat} {P : Program} {Mr : List Nat} {Q : Exit → Act → World → Prop}
def wpE (F : Fence) (n : Nat) (P : Program) (Mr : List Nat) (ops : Array Oper) (Q : Exit → Act → World → Prop) (n0 f : Nat) (listed : Array Bool) (a : Act) (w : World) : Prop :=
 wpAnyE F n P Mr .any ops (npost Q) n0 (Lh F n P ops Q n0) f listed a w
theorem E_nil {ops : Array Oper} {n0 : Nat} {listed : Array Bool} {a : Act} {w : World} (g : Nat) (hl : listed = headAll ops n0) (hg : ops.size - n0 = g) (h : wpOpsIn F n P ops Q (List.range' n0 g) a w) : wpE F n P Mr ops Q n0 0 listed a w := ⟨hl, by rw [hg]; exact h⟩
theorem E_read {l : List Oper} {n0 f : Nat} {listed : Array Bool} {a : Act} {w : World} (i : Nat) {o : Oper} (hok : readOk l.toArray n0 listed i = true) (ho : l[i]? = some o) (hm : Oper.mild o = true)
 (hw : Region.wanted o (yielded l.toArray a.tmps) = true) (hQ : ∀ d v c a w, npost Q (.panic c) (a.put d v) w → npost Q (.panic c) a w)
 (h : ∃ v, (∀ w', Keeps Mr w w' → ∀ Z : Result Next → Prop, Z (.ok (.value v) w') → Z ((execOp a.eval o).run P w')) ∧ wpE F n P Mr l.toArray Q n0 f (listed.setIfInBounds i true) (a.put o.dst v) w) :
 wpE F n P Mr l.toArray Q n0 (f + 1) listed a w := by
 simp only [readOk, Bool.and_eq_true, decide_eq_true_eq] at hok
 obtain ⟨⟨⟨⟨⟨⟨⟨h1, h2⟩, h3⟩, h4⟩, h5⟩, h6⟩, h7⟩, h8⟩ := hok
 have ho' : l.toArray[i]? = some o := by rw [List.getElem?_toArray]; exact ho
 obtain ⟨v, hv, hx⟩ := h
 exact wpAnyE_first hm ho' (Region.noSelect_spec h5) h6 (fun c a w => hQ _ _ c a w) h7 h2 (fun l' a w hl j hj => by obtain ⟨rfl, _⟩ := hl; simpa using List.all_eq_true.1 h8 j hj) _ listed a w (inv_of_B h1) (Region.free_spec ho' h4) (by simpa using h3) (by unfold YieldsE readAt; exact .inl ⟨hw, fun w1 hk => hv w1 hk (fun r => r = .ok (.value v) w1) rfl⟩) hx
def AllE (F : Fence) (n : Nat) (P : Program) (Mr : List Nat) (ops : Array Oper) (Q : Exit → Act → World → Prop) (n0 f : Nat) (listed : Array Bool) (a : Act) (w : World) : List Nat → Prop
 | [] => True
 | i :: r => (i < n0 ∧ wpOpIn F n P ops (npost Q) i (fun a' w' => Keeps Mr w w' ∧ wpE F n P Mr ops Q n0 f (listed.setIfInBounds i true) a' w') a w) ∧ AllE F n P Mr ops Q n0 f listed a w r
theorem E_all {ops : Array Oper} {n0 f : Nat} {listed : Array Bool} {a : Act} {w : World} (i : Nat) (r : List Nat) (hr : Region.ready .any ops listed = i :: r) (h : AllE F n P Mr ops Q n0 f listed a w (i :: r)) :
 wpE F n P Mr ops Q n0 (f + 1) listed a w := by
 refine ⟨by rw [hr]; simp, ?_⟩
 rw [hr]
 have : ∀ (l : List Nat), AllE F n P Mr ops Q n0 f listed a w l → ∀ j ∈ l, j < n0 ∧ wpOpIn F n P ops (npost Q) j (fun a' w' => Keeps Mr w w' ∧ wpE F n P Mr ops Q n0 f (listed.setIfInBounds j true) a' w') a w := by
  intro l
  induction l with
  | nil => intro _ j hj; cases hj
  | cons k r ih =>
    intro h j hj
    rcases List.mem_cons.1 hj with e | e
    · subst e; exact h.1
    · exact ih h.2 j e
 exact this _ h
theorem AllE_nil {ops : Array Oper} {n0 f : Nat} {listed : Array Bool} {a : Act} {w : World} : AllE F n P Mr ops Q n0 f listed a w [] := trivial
theorem AllE_cons {l : List Oper} {n0 f : Nat} {listed : Array Bool} {a : Act} {w : World} {i : Nat} {r : List Nat} {o : Oper} (hi : i < n0) (ho : l[i]? = some o) (hw : Region.wanted o (yielded l.toArray a.tmps) = true)
 (h : ∀ K : Act → World → Prop, (∀ a' w', Keeps Mr w w' ∧ wpE F n P Mr l.toArray Q n0 f (listed.setIfInBounds i true) a' w' → K a' w') → o.wpIn F n P a w K (npost Q))
 (hr : AllE F n P Mr l.toArray Q n0 f listed a w r) : AllE F n P Mr l.toArray Q n0 f listed a w (i :: r) := by
 refine ⟨⟨hi, ?_⟩, hr⟩
 unfold wpOpIn
 rw [List.getElem?_toArray, ho]
 simp only [hw, if_true]
 exact h _ (fun _ _ h => h)
theorem region_E_tq (Mr : List Nat) {ops : Array Oper} {id : Nat} {a : Act} {w : World} (n0 : Nat) (hm : P.follows .mixedOrders = true) (hok : startOk ops n0 = true)
 (h : wpE F n P Mr ops Q n0 n0 (Array.replicate ops.size false) a w.drew) : (Code.region id ops true).wpIn F n P Q a w := by
 simp only [startOk, Bool.and_eq_true, decide_eq_true_eq] at hok
 refine wpIn_region_any hm ?_
 have := wpAnyIn_of_E (g := ops.size - n0) (fun l a w hl => by obtain ⟨rfl, hL⟩ := hl; exact wpAnyIn_of_tail _ _ _ a w hok.2 hL) _ _ _ _ (wpAnyE_monoQ npost_to _ _ _ _ h)
 rwa [show n0 + (ops.size - n0) = ops.size by omega] at this
end
attribute [irreducible] wpE AllE
section
variable {F : Fence} {n : Nat} {P : Program} {Mr : List Nat} {Q : Exit → Act → World → Prop}
theorem E_rd {l : List Oper} {n0 f : Nat} {listed listed' : Array Bool} {a a' : Act} {w : World} (i : Nat) {o : Oper} {v : Value} (h : T.wpE F n P Mr l.toArray Q n0 f listed' a' w)
 (hok : readOk l.toArray n0 listed i = true := by kernel_rfl) (ho : l[i]? = some o := by exact rfl) (hm : Oper.mild o = true := by exact rfl)
 (hw : Region.wanted o (yielded l.toArray a.tmps) = true := by (first | exact wanted_none rfl | (refine wanted_yes rfl ?_; (focus (simp [yielded]; done))) | fail))
 (hv : ∀ w', Keeps Mr w w' → ∀ Z : Result Next → Prop, Z (.ok (.value v) w') → Z ((execOp a.eval o).run P w') := by (intro w' hk Z hZ; simp only [execOp]; (repeat conv in Act.eval _ _ => whnf); (try go_simp); exact hZ))
 (ha : a.put o.dst v = a' := by ((try simp only [Act.put, List.setIfInBounds_toArray, List.set_cons_succ, List.set_cons_zero]); (first | done | exact rfl)))
 (hl : listed.setIfInBounds i true = listed' := by ((try simp only [Act.put, List.setIfInBounds_toArray, List.set_cons_succ, List.set_cons_zero]); (first | done | exact rfl))) :
 T.wpE F n P Mr l.toArray Q n0 (f + 1) listed a w :=
 T.E_read i hok ho hm hw np_panic ⟨v, hv, by rw [ha, hl]; exact h⟩
theorem E_al {l : List Oper} {n0 f : Nat} {listed : Array Bool} {a : Act} {w : World} (i : Nat) {o : Oper}
 (h : ∀ K : Act → World → Prop, (∀ a' w', Keeps Mr w w' ∧ T.wpE F n P Mr l.toArray Q n0 f (listed.setIfInBounds i true) a' w' → K a' w') → o.wpIn F n P a w K (npost Q))
 (hr : Region.ready .any l.toArray listed = [i] := by kernel_rfl) (hi : i < n0 := by decide) (ho : l[i]? = some o := by exact rfl)
 (hw : Region.wanted o (yielded l.toArray a.tmps) = true := by (first | exact wanted_none rfl | (refine wanted_yes rfl ?_; (focus (simp [yielded]; done))) | fail)) :
 T.wpE F n P Mr l.toArray Q n0 (f + 1) listed a w :=
 T.E_all i [] hr (T.AllE_cons hi ho hw h T.AllE_nil)
end
end T
end Go.Proofs.YtboapndkopabiaaGreat
