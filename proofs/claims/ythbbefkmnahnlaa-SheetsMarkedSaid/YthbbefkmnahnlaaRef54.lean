/- The reference's Error, Check, Scaled, SameInts, Few: contracts. No statement is proved here. -/
import Derived.Test.YthbbefkmnahnlaaCrit
namespace Go.Proofs.Ythbbefkmnahnlaa
open Go.RowKit

/-- The reference's Error of criteria. -/
def errM (c : List Crit) : Int := if 64 < c.length then 2 else if c.all rightB then 0 else 150

set_option maxHeartbeats 1000000 in
theorem error_any {M : List Nat} (A : Option Addr) (n cp : Nat) (c : List Crit) (w : World) (h : Sl Crit w M A n cp c) :
    Calls Try.prog 19 #[.slice A n cp] w fun e w' => e = .returned (.int .i64 (errM c)) ∧ Below w.heap.size w w' := by
  have hn := h.len
  have H := Lib.hid h
  clear h
  by_cases hb : 64 < n
  · have hr : errM c = 2 := by simp [errM, hn, hb]
    rw [hr]
    clear hr
    go_enter Try.func19, Try.ntmps19
    go_wp2
    go_ret
    exact ⟨rfl, Below.refl _ _⟩
  · have hr := Lib.hid (show errM c = if c.all rightB then 0 else 150 by simp [errM, hn, hb])
    have hb' : n ≤ 64 := by omega
    clear hb hn
    go_enter Try.func19, Try.ntmps19
    go_wp2
    go_loopw [3] (fun i wr => ∃ k : Nat, k ≤ n ∧ i = .int .i64 k ∧ Hid ((c.drop k).all rightB = c.all rightB) ∧ Below w.heap.size w wr) (fun i _ => n - (intOf i).toNat)
    case atStart => exact ⟨0, by omega, rfl, rfl, Below.refl _ _⟩
    case round =>
      obtain ⟨k, hk, rfl, hr1, hbw⟩ := hrel
      by_cases hlt : k < n
      · obtain ⟨b, o, s, lo, hi, st, how, tr, rv, rfl, -, hd, -, c0, c1, c2, c3, c4, c5, c6⟩ := (H.out.keep (Keeps.of_below hbw M)).critd hlt
        have hr2 := hr1.out
        rw [hd, List.all_cons] at hr2
        have hr3 := Lib.hid hr2
        clear hr2 hd
        cases hB : rightB ⟨s, lo, hi, st, how, tr, rv⟩
        · rw [hB, Bool.false_and] at hr3
          go_wp2_with (go_at_call 27; refine (right16_any s lo hi st how tr rv _).mono ?_; rintro e w1 ⟨rfl, hb1⟩)
          go_ret
          exact ⟨ret_int (by rw [hr.out, ← hr3.out]; rfl), hbw.trans (hb1.mono hbw.size)⟩
        · rw [hB, Bool.true_and] at hr3
          go_wp2_with (go_at_call 27; refine (right16_any s lo hi st how tr rv _).mono ?_; rintro e w1 ⟨rfl, hb1⟩)
          go_roundw
          case rel => exact ⟨k + 1, by omega, by go_num, hr3.out, hbw.trans (hb1.mono hbw.size)⟩
          case measure => simp [intOf]; omega
      · have hr2 := hr1.out
        rw [List.drop_of_length_le (by rw [H.out.len]; omega)] at hr2
        have hr3 := Lib.hid hr2
        clear hr2
        go_wp2
        go_ret
        exact ⟨ret_int (by rw [hr.out, ← hr3.out]; rfl), hbw⟩
end Go.Proofs.Ythbbefkmnahnlaa
