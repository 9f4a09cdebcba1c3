/- The reference's SameInts. No statement is proved here. -/
import Derived.Test.YthbbefkmnahnlaaReg
import Derived.Test.YthbbefkmnahnlaaRef54
namespace Go.Proofs.Ythbbefkmnahnlaa
open Go.RowKit Go.Shelf
attribute [local go_sem] Oper.semAt_some

def sameM : List Int → List Int → Bool
  | [], [] => true
  | x :: a, y :: b => if x = y then sameM a b else false
  | _, _ => false

theorem sameM_iff : ∀ (a b : List Int), sameM a b = true ↔ a = b
  | [], [] => by simp [sameM]
  | x :: a, y :: b => by
    simp only [sameM]
    by_cases h : x = y
    · simp [h, sameM_iff a b]
    · simp [h]
  | [], _ :: _ => by simp [sameM]
  | _ :: _, [] => by simp [sameM]
theorem sameM_len {a b : List Int} (h : a.length ≠ b.length) : sameM a b = false := by
  rw [Bool.eq_false_iff]; intro e; rw [sameM_iff] at e; exact h (by rw [e])

set_option maxHeartbeats 400000 in
theorem same_any {M N : List Nat} (A B : Option Addr) (n c m d : Nat) (xs ys : List Int) (w : World) (hx : Sl Int w M A n c xs) (hy : Sl Int w N B m d ys) (hm : n ≤ 1000000) :
    Calls Try.prog 12 #[.slice A n c, .slice B m d] w fun e w' => e = .returned (.bool (sameM xs ys)) ∧ Below w.heap.size w w' := by
  refine (callsIn_wide (n := 10)).1 ?_
  have H := Lib.hid hx
  have G := Lib.hid hy
  clear hx hy
  by_cases hnm : n = m
  · subst hnm
    refine callsIn_of_wp Try.func12 rfl trivial ?_ rfl; simp only [Try.ntmps12, List.size_toArray, List.length_cons, List.length_nil, Nat.reduceAdd, Nat.reduceSub, Array.replicate_succ, Array.replicate_zero, List.push_toArray, List.append_toArray, List.nil_append, List.cons_append]
    gi_wp2
    gi_loopw [5] (fun i wr => ∃ k : Nat, k ≤ n ∧ i = .int .i64 k ∧ Hid (sameM (xs.drop k) (ys.drop k) = sameM xs ys) ∧ Below w.heap.size w wr) (fun i _ => n - (intOf i).toNat)
    case atStart => exact ⟨0, by omega, rfl, rfl, Below.refl _ _⟩
    case round =>
      obtain ⟨k, hk, rfl, hr, hb⟩ := hrel
      by_cases hlt : k < n
      · obtain ⟨b, o, x, rfl, hc, _, hd, _⟩ := (H.out.keep (Keeps.of_below hb M)).intd hlt
        obtain ⟨b2, o2, y, rfl, hc2, _, hd2, _⟩ := (G.out.keep (Keeps.of_below hb N)).intd hlt
        have hr2 := hr.out
        rw [hd, hd2, sameM] at hr2
        have hr3 := Lib.hid hr2
        clear hr2 hd hd2
        have c1 := stays_drew hc
        have c2 := stays_drew hc2
        gi_wp2
        refine wpIn_region_all [] [0,1,2,3,4,5,6,7,8] (by kernel_rfl) (by kernel_rfl) ?_
        repeat (refine ord_step fun K hK => ?_; (first | (refine ordStep_read rfl rfl ?_ ?_; (focus (first | exact wanted_none rfl | (refine wanted_yes rfl ?_; (focus (simp [yielded]; done))))); apply Exists.intro; refine ⟨fun w' hk Z hZ => ?_, hK _ _ ?_⟩; (focus (simp only [execOp]; (repeat conv in Act.eval _ _ => whnf); (try go_simp); exact hZ))) | (refine ordStep_skip rfl rfl ?_ (hK _ _ ?_); (focus (first | (refine wanted_no rfl ?_; (focus (simp [yielded]; done))) | (refine wanted_un rfl ?_; (focus (simp [yielded]; done)))))) | (refine ordStep_callskip rfl rfl ?_ (fun _ => trivial) (hK _ _ ?_); (focus (first | (refine wanted_no rfl ?_; (focus (simp [yielded]; done))) | (refine wanted_un rfl ?_; (focus (simp [yielded]; done))))))); clear hK K; (try simp only [Act.put, List.setIfInBounds_toArray, List.set_cons_succ, List.set_cons_zero]))
        refine ord_nil ?_; (try simp only [Act.put, List.setIfInBounds_toArray, List.set_cons_succ, List.set_cons_zero])
        by_cases he : x = y
        · rw [if_pos he] at hr3
          subst he
          gi_wp2
          go_roundw
          case rel => exact ⟨k + 1, by omega, by go_num, hr3.out, hb.drew⟩
          case measure => simp [intOf]; omega
        · rw [if_neg he] at hr3
          gi_wp2
          go_ret
          exact ⟨ret_bool hr3.out, hb.drew⟩
      · have hr2 := hr.out
        rw [List.drop_of_length_le (by rw [H.out.len]; omega), List.drop_of_length_le (by rw [G.out.len]; omega), sameM] at hr2
        have hr3 := Lib.hid hr2
        clear hr2
        gi_wp2
        go_ret
        exact ⟨ret_bool hr3.out, hb⟩
  · have hs : sameM xs ys = false := by
      refine sameM_len ?_
      rw [H.out.len, G.out.len]; exact hnm
    rw [hs]
    clear hs
    refine callsIn_of_wp Try.func12 rfl trivial ?_ rfl; simp only [Try.ntmps12, List.size_toArray, List.length_cons, List.length_nil, Nat.reduceAdd, Nat.reduceSub, Array.replicate_succ, Array.replicate_zero, List.push_toArray, List.append_toArray, List.nil_append, List.cons_append]
    gi_wp2
    go_ret
    exact ⟨rfl, Below.refl _ _⟩
end Go.Proofs.Ythbbefkmnahnlaa
