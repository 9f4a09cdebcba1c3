/- The reference's Scaled. No statement is proved here. -/
import Derived.Test.YthbbefkmnahnlaaSh1
namespace Go.Proofs.Ythbbefkmnahnlaa
open Go.RowKit Go.Shelf
attribute [local go_sem] Oper.semAt_some

def scaledM : List Crit → List Int → Bool
  | [], [] => true
  | c :: a, m :: b => (m == -1 || onB c m) && scaledM a b
  | _, _ => false
theorem scaledM_len : ∀ {a : List Crit} {b : List Int}, a.length ≠ b.length → scaledM a b = false
  | [], [], h => by simp at h
  | x :: a, y :: b, h => by
    have := scaledM_len (a := a) (b := b) (by simpa using h)
    simp [scaledM, this]
  | [], _ :: _, _ => rfl
  | _ :: _, [], _ => rfl

set_option maxHeartbeats 400000 in
theorem scaled_any {M N : List Nat} (A B : Option Addr) (n c m d : Nat) (xs : List Crit) (ys : List Int) (w : World) (hx : Sl Crit w M A n c xs) (hy : Sl Int w N B m d ys) (hm : n ≤ 1000000) (hR : xs.all rightB = true) :
    Calls Try.prog 13 #[.slice A n c, .slice B m d] w fun e w' => e = .returned (.bool (scaledM xs ys)) ∧ Below w.heap.size w w' := by
  refine (callsIn_wide (n := 10)).1 ?_
  have H := Lib.hid hx
  have G := Lib.hid hy
  have HR := Lib.hid hR
  clear hx hy hR
  by_cases hnm : n = m
  · subst hnm
    refine callsIn_of_wp Try.func13 rfl trivial ?_ rfl; simp only [Try.ntmps13, List.size_toArray, List.length_cons, List.length_nil, Nat.reduceAdd, Nat.reduceSub, Array.replicate_succ, Array.replicate_zero, List.push_toArray, List.append_toArray, List.nil_append, List.cons_append]
    gi_wp2
    gi_loopw [5] (fun i wr => ∃ k : Nat, k ≤ n ∧ i = .int .i64 k ∧ Hid (scaledM (xs.drop k) (ys.drop k) = scaledM xs ys) ∧ Below w.heap.size w wr) (fun i _ => n - (intOf i).toNat)
    case atStart => exact ⟨0, by omega, rfl, rfl, Below.refl _ _⟩
    case round =>
      obtain ⟨k, hk, rfl, hr, hb⟩ := hrel
      by_cases hlt : k < n
      · obtain ⟨b, o, s, lo, hi, st, how, tr, rv, rfl, hkx, hd, -, c0, c1, c2, c3, c4, c5, c6⟩ := (H.out.keep (Keeps.of_below hb M)).critd hlt
        obtain ⟨b2, o2, y, rfl, hc2, _, hd2, _⟩ := (G.out.keep (Keeps.of_below hb N)).intd hlt
        have hB : rightB ⟨s, lo, hi, st, how, tr, rv⟩ = true := (List.all_eq_true.1 HR.out) _ (List.mem_of_getElem? hkx)
        have HB := Lib.hid hB
        have hr2 := hr.out
        rw [hd, hd2, scaledM] at hr2
        have hr3 := Lib.hid hr2
        clear hr2 hd hd2 hB hkx
        have d0 := stays_drew c0
        have d1 := stays_drew c1
        have d2 := stays_drew c2
        have d3 := stays_drew c3
        have d4 := stays_drew c4
        have d5 := stays_drew c5
        have d6 := stays_drew c6
        have d7 := stays_drew hc2
        by_cases hy1 : y = -1
        · subst hy1
          gi_wp2
          refine wpIn_region_all [] (List.range 17) (by kernel_rfl) (by kernel_rfl) ?_
          simp only [show List.range 17 = [0,1,2,3,4,5,6,7,8,9,10,11,12,13,14,15,16] from rfl]
          repeat (refine ord_step fun K hK => ?_; (first | (refine ordStep_read rfl rfl ?_ ?_; (focus (first | exact wanted_none rfl | (refine wanted_yes rfl ?_; (focus (simp [yielded]; done))))); apply Exists.intro; refine ⟨fun w' hk Z hZ => ?_, hK _ _ ?_⟩; (focus (simp only [execOp]; (repeat conv in Act.eval _ _ => whnf); (try go_simp); exact hZ))) | (refine ordStep_skip rfl rfl ?_ (hK _ _ ?_); (focus (first | (refine wanted_no rfl ?_; (focus (simp [yielded]; done))) | (refine wanted_un rfl ?_; (focus (simp [yielded]; done)))))) | (refine ordStep_callskip rfl rfl ?_ (fun _ => trivial) (hK _ _ ?_); (focus (first | (refine wanted_no rfl ?_; (focus (simp [yielded]; done))) | (refine wanted_un rfl ?_; (focus (simp [yielded]; done))))))); clear hK K; (try simp only [Act.put, List.setIfInBounds_toArray, List.set_cons_succ, List.set_cons_zero]))
          refine ord_nil ?_; (try simp only [Act.put, List.setIfInBounds_toArray, List.set_cons_succ, List.set_cons_zero])
          rw [show ((-1 : Int) == -1) = true from rfl, Bool.true_or, Bool.true_and] at hr3
          gi_wp2
          go_roundw
          case rel => exact ⟨k + 1, by omega, by go_num, hr3.out, hb.drew⟩
          case measure => simp [intOf]; omega
        · have hy2 : (y != -1) = true := by simpa using hy1
          gi_wp2
          refine wpIn_region_all [] (List.range 17) (by kernel_rfl) (by kernel_rfl) ?_
          simp only [show List.range 17 = [0,1,2,3,4,5,6,7,8,9,10,11,12,13,14,15,16] from rfl]
          repeat (refine ord_step fun K hK => ?_; (first | (refine ordStep_read rfl rfl ?_ ?_; (focus (first | exact wanted_none rfl | (refine wanted_yes rfl ?_; (focus (simp [yielded]; done))))); apply Exists.intro; refine ⟨fun w' hk Z hZ => ?_, hK _ _ ?_⟩; (focus (simp only [execOp]; (repeat conv in Act.eval _ _ => whnf); (try go_simp); exact hZ))) | (refine ordStep_skip rfl rfl ?_ (hK _ _ ?_); (focus (first | (refine wanted_no rfl ?_; (focus (simp [yielded]; done))) | (refine wanted_un rfl ?_; (focus (simp [yielded]; done)))))) | (refine ordStep_callskip rfl rfl ?_ (fun _ => trivial) (hK _ _ ?_); (focus (first | (refine wanted_no rfl ?_; (focus (simp [yielded]; done))) | (refine wanted_un rfl ?_; (focus (simp [yielded]; done))))))); clear hK K; (try simp only [Act.put, List.setIfInBounds_toArray, List.set_cons_succ, List.set_cons_zero]))
          refine ord_step fun K hK => ?_; refine ordStep_call rfl rfl ?_ (fun K' hK' => ?_); (focus (first | exact wanted_none rfl | (refine wanted_yes rfl ?_; (focus (simp [yielded]; done))))); gi_wp2
          refine ⟨trivial, (callsIn_wide.2 (on_any s lo hi st how tr rv y _ HB.out)).mono ?_⟩
          rintro e w1 ⟨rfl, hb1⟩
          refine hK' _ _ ⟨?_, hK _ _ ?_⟩; clear hK' K' hK K
          · exact Keeps.of_below hb1 []
          (try simp only [Act.put, List.setIfInBounds_toArray, List.set_cons_succ, List.set_cons_zero])
          have hb2 : Below w.heap.size w w1 := hb.drew.trans (hb1.mono hb.size)
          clear hb1 hb d0 d1 d2 d3 d4 d5 d6 d7 c0 c1 c2 c3 c4 c5 c6 hc2
          rw [show (y == -1) = false by simpa using hy1, Bool.false_or] at hr3
          cases hO : onB ⟨s, lo, hi, st, how, tr, rv⟩ y
          · rw [hO, Bool.false_and] at hr3
            repeat (refine ord_step fun K hK => ?_; (first | (refine ordStep_read rfl rfl ?_ ?_; (focus (first | exact wanted_none rfl | (refine wanted_yes rfl ?_; (focus (simp [yielded]; done))))); apply Exists.intro; refine ⟨fun w' hk Z hZ => ?_, hK _ _ ?_⟩; (focus (simp only [execOp]; (repeat conv in Act.eval _ _ => whnf); (try go_simp); exact hZ))) | (refine ordStep_skip rfl rfl ?_ (hK _ _ ?_); (focus (first | (refine wanted_no rfl ?_; (focus (simp [yielded]; done))) | (refine wanted_un rfl ?_; (focus (simp [yielded]; done)))))) | (refine ordStep_callskip rfl rfl ?_ (fun _ => trivial) (hK _ _ ?_); (focus (first | (refine wanted_no rfl ?_; (focus (simp [yielded]; done))) | (refine wanted_un rfl ?_; (focus (simp [yielded]; done))))))); clear hK K; (try simp only [Act.put, List.setIfInBounds_toArray, List.set_cons_succ, List.set_cons_zero]))
            refine ord_nil ?_; (try simp only [Act.put, List.setIfInBounds_toArray, List.set_cons_succ, List.set_cons_zero])
            gi_wp2
            go_ret
            exact ⟨ret_bool hr3.out, hb2⟩
          · rw [hO, Bool.true_and] at hr3
            repeat (refine ord_step fun K hK => ?_; (first | (refine ordStep_read rfl rfl ?_ ?_; (focus (first | exact wanted_none rfl | (refine wanted_yes rfl ?_; (focus (simp [yielded]; done))))); apply Exists.intro; refine ⟨fun w' hk Z hZ => ?_, hK _ _ ?_⟩; (focus (simp only [execOp]; (repeat conv in Act.eval _ _ => whnf); (try go_simp); exact hZ))) | (refine ordStep_skip rfl rfl ?_ (hK _ _ ?_); (focus (first | (refine wanted_no rfl ?_; (focus (simp [yielded]; done))) | (refine wanted_un rfl ?_; (focus (simp [yielded]; done)))))) | (refine ordStep_callskip rfl rfl ?_ (fun _ => trivial) (hK _ _ ?_); (focus (first | (refine wanted_no rfl ?_; (focus (simp [yielded]; done))) | (refine wanted_un rfl ?_; (focus (simp [yielded]; done))))))); clear hK K; (try simp only [Act.put, List.setIfInBounds_toArray, List.set_cons_succ, List.set_cons_zero]))
            refine ord_nil ?_; (try simp only [Act.put, List.setIfInBounds_toArray, List.set_cons_succ, List.set_cons_zero])
            gi_wp2
            go_roundw
            case rel => exact ⟨k + 1, by omega, by go_num, hr3.out, hb2⟩
            case measure => simp [intOf]; omega
      · have hr2 := hr.out
        rw [List.drop_of_length_le (by rw [H.out.len]; omega), List.drop_of_length_le (by rw [G.out.len]; omega), scaledM] at hr2
        have hr3 := Lib.hid hr2
        clear hr2
        gi_wp2
        go_ret
        exact ⟨ret_bool hr3.out, hb⟩
  · have hs : scaledM xs ys = false := by
      refine scaledM_len ?_
      rw [H.out.len, G.out.len]; exact hnm
    rw [hs]
    clear hs
    refine callsIn_of_wp Try.func13 rfl trivial ?_ rfl; simp only [Try.ntmps13, List.size_toArray, List.length_cons, List.length_nil, Nat.reduceAdd, Nat.reduceSub, Array.replicate_succ, Array.replicate_zero, List.push_toArray, List.append_toArray, List.nil_append, List.cons_append]
    gi_wp2
    go_ret
    exact ⟨rfl, Below.refl _ _⟩
end Go.Proofs.Ythbbefkmnahnlaa
