/- podiumref54.Check: what it computes. No statement is proved here. -/
import Derived.Test.YthbbefkmnahnlaaFew
namespace Go.Proofs.Ythbbefkmnahnlaa
open Go.RowKit Go.Shelf
attribute [local go_sem] Oper.semAt_some

set_option maxHeartbeats 4000000 in
theorem rcheck_any {M M2 : List Nat} (A : Option Addr) (n cp : Nat) (c : List Crit) (no rd en ju : Int) (B : Option Addr) (m d : Nat) (bs : List (List Int)) (w : World) (hx : Sl Crit w M A n cp c) (hy : Sl (List Int) w M2 B m d bs) :
    Calls Try.prog 15 #[.slice A n cp, .agg #[.int .i64 no, .int .i64 rd, .int .i64 en, .int .i64 ju, .slice B m d]] w fun e w' => e = .returned (.int .i64 (checkM c ⟨no, rd, en, ju, bs⟩)) ∧ Below w.heap.size w w' := by
  refine (callsIn_wide (n := 10)).1 ?_
  have H := Lib.hid ((hx.less (M' := []) (by simp)))
  have G := Lib.hid ((hy.less (M' := []) (by simp)))
  have hn := hx.small
  have hm := hy.small
  have h1 := hx.len
  have h2 := hy.len
  clear hx hy
  obtain ⟨W1, hW1⟩ : ∃ W1 : World, w.alloc (.cells #[.int .i64 no, .int .i64 rd, .int .i64 en, .int .i64 ju, .slice B m d] 29) = W1 := ⟨_, rfl⟩
  have b1 : Below w.heap.size w W1 := by rw [← hW1]; exact (Below.refl _ _).alloc (Nat.le_refl _) _
  have s1 : W1.heap.size = w.heap.size + 1 := by rw [← hW1]; simp
  have z0 : W1.cell? ⟨w.heap.size, 0, none⟩ = some (.int .i64 no) := by rw [← hW1]; simp [go_sem]
  have z1 : W1.cell? ⟨w.heap.size, 1, none⟩ = some (.int .i64 rd) := by rw [← hW1]; simp [go_sem]
  have z2 : W1.cell? ⟨w.heap.size, 2, none⟩ = some (.int .i64 en) := by rw [← hW1]; simp [go_sem]
  have z3 : W1.cell? ⟨w.heap.size, 3, none⟩ = some (.int .i64 ju) := by rw [← hW1]; simp [go_sem]
  have z4 : W1.cell? ⟨w.heap.size, 4, none⟩ = some (.slice B m d) := by rw [← hW1]; simp [go_sem]
  have Z := Lib.hid (And.intro z0 (And.intro z1 (And.intro z2 (And.intro z3 z4))))
  have HB1 := Lib.hid b1
  have S1 := Lib.hid s1
  clear b1 s1 z0 z1 z2 z3 z4
  have zz : ∀ w1, Below W1.heap.size W1 w1 → (w1.cell? ⟨w.heap.size, 0, none⟩ = some (.int .i64 no) ∧ w1.cell? ⟨w.heap.size, 1, none⟩ = some (.int .i64 rd) ∧ w1.cell? ⟨w.heap.size, 2, none⟩ = some (.int .i64 en) ∧ w1.cell? ⟨w.heap.size, 3, none⟩ = some (.int .i64 ju) ∧ w1.cell? ⟨w.heap.size, 4, none⟩ = some (.slice B m d)) := by
    intro w1 hb
    obtain ⟨z0, z1, z2, z3, z4⟩ := Z.out
    have hs := S1.out
    exact ⟨(hb.cell (by simp; omega)).trans z0, (hb.cell (by simp; omega)).trans z1, (hb.cell (by simp; omega)).trans z2, (hb.cell (by simp; omega)).trans z3, (hb.cell (by simp; omega)).trans z4⟩
  have ZZ := Lib.hid zz
  clear zz
  by_cases he : errM c = 0
  · have hr : checkM c ⟨no, rd, en, ju, bs⟩ = if headOk c.length ⟨no, rd, en, ju, bs⟩ && boxesOk c bs then 0 else 540 := by simp [checkM, he]
    rw [hr]
    have hall : c.all rightB = true := by
      unfold errM at he
      by_cases g : 64 < c.length
      · simp [g] at he
      · by_cases g2 : c.all rightB = true
        · exact g2
        · simp [g, g2] at he
    have HA := Lib.hid hall
    have HE := Lib.hid he
    clear hr hall he
    have HL := Lib.hid (And.intro h1 h2)
    by_cases hhd : headOk c.length ⟨no, rd, en, ju, bs⟩ = true
    · rw [hhd, Bool.true_and]
      have hh := hhd
      simp only [headOk, Bool.and_eq_true, decide_eq_true_eq, h1, h2] at hh
      obtain ⟨⟨⟨⟨⟨g1, g2⟩, g3, g4⟩, g5, g6⟩, g7, g8⟩, g9⟩ := hh
      subst g9
      generalize hr : (if boxesOk c bs = true then (0 : Int) else 540) = r
      have HR := Lib.hid hr
      clear hr hhd h1 h2
      refine callsIn_of_wp Try.func15 rfl trivial ?_ rfl; simp only [Try.ntmps15, List.size_toArray, List.length_cons, List.length_nil, Nat.reduceAdd, Nat.reduceSub, Array.replicate_succ, Array.replicate_zero, List.push_toArray, List.append_toArray, List.nil_append, List.cons_append]
      gi_wp2_with (refine ⟨trivial, ?_⟩; gi_at_call 19; refine (callsIn_wide.2 (error_any A _ cp c _ (H.out.keep (Keeps.of_below HB1.out [])))).mono ?_; rintro e w1 ⟨rfl, hb1⟩; rw [HE.out]; obtain ⟨y0, y1, y2, y3, y4⟩ := ZZ.out w1 hb1)
      all_goals first
        | (exfalso; omega)
        | (exfalso; simp only [decide_eq_true_eq, decide_eq_false_iff_not] at *; omega)
        | (exfalso; simp only [bne_eq_false_iff_eq] at *; omega)
        | skip
      have hb1' := Lib.hid hb1
      clear hb1 y0 y1 y2 y3 y4
      gi_loopw [6] (fun i wr => ∃ k : Nat, k ≤ m ∧ i = .int .i64 k ∧ Hid (boxesOk (c.drop k) (bs.drop k) = boxesOk c bs) ∧ Below W1.heap.size W1 wr) (fun i _ => m - (intOf i).toNat)
      case atStart => exact ⟨0, by omega, rfl, rfl, hb1'.out⟩
      case round =>
        obtain ⟨k, hk, rfl, hr, hb⟩ := hrel
        have HB := Lib.hid hb
        by_cases hlt : k < m
        · have kp := Keeps.of_below (HB1.out.trans (hb.mono (by rw [S1.out]; omega))) []
          obtain ⟨b, o, s, lo, hi, st, how, tr, rv, rfl, hkx, hd, -, c0, c1, c2, c3, c4, c5, c6⟩ := (H.out.keep kp).critd hlt
          obtain ⟨b2, o2, A', n', c', x, rfl, d0, -, he, hs⟩ := (G.out.keep kp).listd (k := k) hlt
          have hB : rightB ⟨s, lo, hi, st, how, tr, rv⟩ = true := (List.all_eq_true.1 HA.out) _ (List.mem_of_getElem? hkx)
          have HBB := Lib.hid hB
          have hr2 := hr.out
          rw [hd, he, boxesOk, boxOk, hs.len] at hr2
          have HR2 := Lib.hid hr2
          have hn' := hs.small
          have HS := Lib.hid hs
          have y4 := stays_drew ((ZZ.out wr hb).2.2.2.2)
          obtain ⟨⟨f1, f2, f3⟩, f4, -, -, -, -⟩ := rightB_facts hB
          simp only at f1 f2 f3 f4
          have v0 := stays_drew c0
          have v1 := stays_drew c1
          have v2 := stays_drew c2
          have v3 := stays_drew c3
          have v4 := stays_drew c4
          have v5 := stays_drew c5
          have v6 := stays_drew c6
          have v7 := stays_drew d0
          clear hr2 he hs hB hkx hd hb c0 c1 c2 c3 c4 c5 c6 d0 kp
          gi_wp2
          refine wpIn_region_all [] (List.range 12) (by kernel_rfl) (by kernel_rfl) ?_
          simp only [show List.range 12 = [0,1,2,3,4,5,6,7,8,9,10,11] from rfl]
          repeat (refine ord_step fun K hK => ?_; (first | (refine ordStep_read rfl rfl ?_ ?_; (focus (first | exact wanted_none rfl | (refine wanted_yes rfl ?_; (focus (simp [yielded]; done))))); apply Exists.intro; refine ⟨fun w' hk Z hZ => ?_, hK _ _ ?_⟩; (focus (simp only [execOp]; (repeat conv in Act.eval _ _ => whnf); (try go_simp); exact hZ))) | (refine ordStep_skip rfl rfl ?_ (hK _ _ ?_); (focus (first | (refine wanted_no rfl ?_; (focus (simp [yielded]; done))) | (refine wanted_un rfl ?_; (focus (simp [yielded]; done)))))) | (refine ordStep_callskip rfl rfl ?_ (fun _ => trivial) (hK _ _ ?_); (focus (first | (refine wanted_no rfl ?_; (focus (simp [yielded]; done))) | (refine wanted_un rfl ?_; (focus (simp [yielded]; done))))))); clear hK K; (try simp only [Act.put, List.setIfInBounds_toArray, List.set_cons_succ, List.set_cons_zero]))
          refine ord_step fun K hK => ?_; refine ordStep_call rfl rfl ?_ (fun K' hK' => ?_); (focus (first | exact wanted_none rfl | (refine wanted_yes rfl ?_; (focus (simp [yielded]; done))))); gi_wp2
          refine ⟨trivial, (callsIn_wide.2 (marks54_any s lo hi st how tr rv _ HBB.out)).mono ?_⟩
          rintro e w1 ⟨rfl, hb1⟩
          refine hK' _ _ ⟨?_, hK _ _ ?_⟩; clear hK' K' hK K
          · exact Keeps.of_below hb1 []
          (try simp only [Act.put, List.setIfInBounds_toArray, List.set_cons_succ, List.set_cons_zero])
          have hb2 : Below W1.heap.size W1 w1 := HB.out.drew.trans (hb1.mono HB.out.size)
          have HB2 := Lib.hid hb2
          have d1 := v7 _ (Keeps.of_below hb1 [])
          have HS1 := Lib.hid (HS.out.keep ((Keeps.refl [] wr).drew.trans (Keeps.of_below hb1 [])))
          obtain ⟨-, -, -, -, y5⟩ := ZZ.out w1 hb2
          clear hb1 v0 v1 v2 v3 v4 v5 v6 v7 y4
          have HN := Lib.hid hn'
          have fin : ∀ w2, w2 = w1 → Below w.heap.size w w2 := by rintro w2 rfl; exact HB1.out.trans (HB2.out.mono (by rw [S1.out]; omega))
          have FIN := Lib.hid fin
          clear fin hb2
          by_cases hq : (n' : Int) = (hi - lo) / st + 1
          · have hq1 : ((n' : Int) != (hi - lo) / st + 1) = false := by simpa using hq
            have hr2 := HR2.out
            rw [decide_eq_true hq, Bool.true_and] at hr2
            have HR3 := Lib.hid hr2
            clear hr2 hq
            repeat (refine ord_step fun K hK => ?_; (first | (refine ordStep_read rfl rfl ?_ ?_; (focus (first | exact wanted_none rfl | (refine wanted_yes rfl ?_; (focus (simp [yielded]; done))))); apply Exists.intro; refine ⟨fun w' hk Z hZ => ?_, hK _ _ ?_⟩; (focus (simp only [execOp]; (repeat conv in Act.eval _ _ => whnf); (try go_simp); exact hZ))) | (refine ordStep_skip rfl rfl ?_ (hK _ _ ?_); (focus (first | (refine wanted_no rfl ?_; (focus (simp [yielded]; done))) | (refine wanted_un rfl ?_; (focus (simp [yielded]; done)))))) | (refine ordStep_callskip rfl rfl ?_ (fun _ => trivial) (hK _ _ ?_); (focus (first | (refine wanted_no rfl ?_; (focus (simp [yielded]; done))) | (refine wanted_un rfl ?_; (focus (simp [yielded]; done))))))); clear hK K; (try simp only [Act.put, List.setIfInBounds_toArray, List.set_cons_succ, List.set_cons_zero]))
            refine ord_nil ?_; (try simp only [Act.put, List.setIfInBounds_toArray, List.set_cons_succ, List.set_cons_zero])
            clear hn'
            gi_wp2
            have hn' := HN.out
            gi_loop [7] (fun i => ∃ q : Nat, q ≤ n' ∧ i = .int .i64 q ∧ Hid ((x.drop q).all (fun b => decide (0 ≤ b ∧ b ≤ 2)) = x.all (fun b => decide (0 ≤ b ∧ b ≤ 2)))) (fun i => n' - (intOf i).toNat)
            case atStart => exact ⟨0, by omega, rfl, rfl⟩
            case round =>
              obtain ⟨q, hqn, rfl, hal⟩ := hrel
              by_cases hlt2 : q < n'
              · obtain ⟨b3, o3, y, rfl, hcq, hyi, hed, hyx⟩ := HS1.out.intd hlt2
                have hal2 := hal.out
                rw [hed, List.all_cons] at hal2
                have HAL := Lib.hid hal2
                clear hal2 hed hyx
                by_cases hy : 0 ≤ y ∧ y ≤ 2
                · obtain ⟨hy1, hy2⟩ := hy
                  gi_wp2
                  go_round
                  case rel => exact ⟨q + 1, by omega, by go_num, by have := HAL.out; rw [decide_eq_true (⟨hy1, hy2⟩ : 0 ≤ y ∧ y ≤ 2), Bool.true_and] at this; exact this⟩
                  case measure => simp [intOf]; omega
                · have hal3 := HAL.out
                  rw [decide_eq_false hy, Bool.false_and] at hal3
                  have hr3 := HR3.out
                  rw [← hal3, Bool.false_and] at hr3
                  have hr4 := HR.out
                  rw [← hr3] at hr4
                  cases hr4
                  clear hal3 hr3
                  gi_wp2
                  all_goals first
                    | (go_ret; exact ⟨rfl, FIN.out _ rfl⟩)
                    | (exfalso; omega)
              · have h1 := hal.out
                rw [List.drop_of_length_le (by rw [HS1.out.len]; omega), List.all_nil] at h1
                have hr3 := HR3.out
                rw [← h1, Bool.true_and] at hr3
                have HR4 := Lib.hid hr3
                clear h1 hr3
                gi_wp2
                go_roundw
                case rel => exact ⟨k + 1, by omega, by go_num, HR4, HB2.out⟩
                case measure => simp [intOf]; omega
          · have hq1 : ((n' : Int) != (hi - lo) / st + 1) = true := by simpa using hq
            have hr2 := HR2.out
            rw [decide_eq_false hq, Bool.false_and, Bool.false_and] at hr2
            have hr4 := HR.out
            rw [← hr2] at hr4
            cases hr4
            clear hr2 hq
            repeat (refine ord_step fun K hK => ?_; (first | (refine ordStep_read rfl rfl ?_ ?_; (focus (first | exact wanted_none rfl | (refine wanted_yes rfl ?_; (focus (simp [yielded]; done))))); apply Exists.intro; refine ⟨fun w' hk Z hZ => ?_, hK _ _ ?_⟩; (focus (simp only [execOp]; (repeat conv in Act.eval _ _ => whnf); (try go_simp); exact hZ))) | (refine ordStep_skip rfl rfl ?_ (hK _ _ ?_); (focus (first | (refine wanted_no rfl ?_; (focus (simp [yielded]; done))) | (refine wanted_un rfl ?_; (focus (simp [yielded]; done)))))) | (refine ordStep_callskip rfl rfl ?_ (fun _ => trivial) (hK _ _ ?_); (focus (first | (refine wanted_no rfl ?_; (focus (simp [yielded]; done))) | (refine wanted_un rfl ?_; (focus (simp [yielded]; done))))))); clear hK K; (try simp only [Act.put, List.setIfInBounds_toArray, List.set_cons_succ, List.set_cons_zero]))
            refine ord_nil ?_; (try simp only [Act.put, List.setIfInBounds_toArray, List.set_cons_succ, List.set_cons_zero])
            gi_wp2
            go_ret
            exact ⟨rfl, FIN.out _ rfl⟩
        · have hr2 := hr.out
          rw [List.drop_of_length_le (by rw [H.out.len]; omega), List.drop_of_length_le (by rw [G.out.len]; omega), boxesOk] at hr2
          have hr3 := HR.out
          rw [← hr2] at hr3
          cases hr3
          gi_wp2
          go_ret
          exact ⟨rfl, HB1.out.trans (hb.mono (by rw [S1.out]; omega))⟩
    · have hr : headOk c.length ⟨no, rd, en, ju, bs⟩ = false := by simpa using hhd
      rw [hr, Bool.false_and]
      simp only [headOk, Bool.and_eq_true, decide_eq_true_eq, h1, h2] at hhd
      clear hr h1 h2
      refine callsIn_of_wp Try.func15 rfl trivial ?_ rfl; simp only [Try.ntmps15, List.size_toArray, List.length_cons, List.length_nil, Nat.reduceAdd, Nat.reduceSub, Array.replicate_succ, Array.replicate_zero, List.push_toArray, List.append_toArray, List.nil_append, List.cons_append]
      gi_wp2_with (refine ⟨trivial, ?_⟩; gi_at_call 19; refine (callsIn_wide.2 (error_any A n cp c _ (H.out.keep (Keeps.of_below HB1.out [])))).mono ?_; rintro e w1 ⟨rfl, hb1⟩; rw [HE.out]; obtain ⟨y0, y1, y2, y3, y4⟩ := ZZ.out w1 hb1)
      all_goals first
        | (go_ret; exact ⟨rfl, HB1.out.trans (hb1.mono (by rw [S1.out]; omega))⟩)
        | (exfalso; omega)
        | (exfalso; simp only [decide_eq_true_eq, decide_eq_false_iff_not] at *; omega)
        | (exfalso; simp only [bne_eq_false_iff_eq] at *; omega)
  · rw [show checkM c ⟨no, rd, en, ju, bs⟩ = errM c by simp [checkM, he]]
    have he2 : (errM c != 0) = true := by simpa using he
    generalize he3 : errM c = e0 at *
    clear he h1 h2
    refine callsIn_of_wp Try.func15 rfl trivial ?_ rfl; simp only [Try.ntmps15, List.size_toArray, List.length_cons, List.length_nil, Nat.reduceAdd, Nat.reduceSub, Array.replicate_succ, Array.replicate_zero, List.push_toArray, List.append_toArray, List.nil_append, List.cons_append]
    gi_wp2_with (refine ⟨trivial, ?_⟩; gi_at_call 19; refine (callsIn_wide.2 (error_any A n cp c _ (H.out.keep (Keeps.of_below HB1.out [])))).mono ?_; rintro e w1 ⟨rfl, hb1⟩; rw [he3])
    go_ret
    exact ⟨rfl, HB1.out.trans (hb1.mono (by rw [S1.out]; omega))⟩
end Go.Proofs.Ythbbefkmnahnlaa
