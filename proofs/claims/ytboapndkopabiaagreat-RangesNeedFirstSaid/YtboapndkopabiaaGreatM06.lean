/- Lemmas and walks (Nat4 BigM Nat5 Nat6). No statement is proved here. -/
import Derived.WalkMore
import Derived.LoopTactic
import Derived.Deep.LoopGhost
import Derived.Test.YtboapndkopabiaaGreatM05
set_option linter.unusedVariables false
set_option linter.unusedSimpArgs false
namespace Go.Proofs.YtboapndkopabiaaGreat
section
open Go.RowKit Go.Shelf
attribute [local go_sem] Oper.semAt_some
set_option maxHeartbeats 400000 in
theorem add1_any {A B : Option Addr} {n c m d b1 b2 : Nat} {x y : List Nat} (i : Nat) (w : World) (h1 : w.cell? ⟨b1, 0, none⟩ = some (.slice A n c)) (h2 : w.cell? ⟨b2, 0, none⟩ = some (.slice B m d))
 (hx : Sl Int w [] A n c (ints x)) (hy : Sl Int w [] B m d (ints y)) (gx : Good x) (gy : Good y) :
 Calls Tryz.prog 147 #[.int .i64 (i : Int), .pointer (some ⟨b1, 0, none⟩), .pointer (some ⟨b2, 0, none⟩)] w fun e w' => e = .returned (.int .i64 ((digAt x i : Int) + (digAt y i : Int))) ∧ Below w.heap.size w w' := by
 refine wid ?_
 have H := Hd hx
 have G := Hd hy
 have HG := Hd2 gx gy
 have q1 := digAt_lt gx i
 have q2 := digAt_lt gy i
 have v1 := stays_drew h1
 have v2 := stays_drew h2
 have k0 : IntKind.i64.wrap ((digAt x i : Int) + (digAt y i : Int)) = (digAt x i : Int) + (digAt y i : Int) := by have := BB_le q1; have := BB_le q2; rw [IntKind.wrap_i64]; omega
 clear hx hy gx gy q1 q2 h1 h2
 refine ent Tryz.func147 rfl Tryz.ntmps147 ?_
 gi_wp2
 refine wpIn_region_all [] [0,1,3,4,2,5,6,7] (by kernel_rfl) (by kernel_rfl) ?_
 repeat ((first | refine ord_rd ?_ | refine ord_sk ?_ | refine ord_cs ?_))
 refine ord_step fun K hK => ordStep_call rfl rfl wy fun K' hK' => ?_; gi_wp2
 refine Cm (atN_any A n c x i _ (H.out.go (by exact bel)) HG.out.1) ?_
 rintro e w1 ⟨rfl, rfl⟩
 refine hK' _ _ ⟨?_, hK _ _ ?_⟩; clear hK' K' hK K
 · exact Keeps.refl _ _
 refine lit ?_
 repeat ((first | refine ord_rd ?_ | refine ord_sk ?_ | refine ord_cs ?_))
 refine ord_step fun K hK => ordStep_call rfl rfl wy fun K' hK' => ?_; gi_wp2
 refine Cm (atN_any B m d y i _ (G.out.go (by exact bel)) HG.out.2) ?_
 rintro e w1 ⟨rfl, rfl⟩
 refine hK' _ _ ⟨?_, hK _ _ ?_⟩; clear hK' K' hK K
 · exact Keeps.refl _ _
 refine lit ?_
 repeat ((first | refine ord_rd ?_ | refine ord_sk ?_ | refine ord_cs ?_))
 refine ord_nil ?_; refine lit ?_
 gi_wp2
 go_ret
 exact ⟨rfl, by exact bel⟩
set_option maxHeartbeats 400000 in
theorem sub1_any {A B : Option Addr} {n c m d b1 b2 : Nat} {x y : List Nat} (i : Nat) (hi : i < n) (w : World) (h1 : w.cell? ⟨b1, 0, none⟩ = some (.slice A n c)) (h2 : w.cell? ⟨b2, 0, none⟩ = some (.slice B m d))
 (hx : Sl Int w [] A n c (ints x)) (hy : Sl Int w [] B m d (ints y)) (gx : Good x) (gy : Good y) :
 Calls Tryz.prog 148 #[.int .i64 (i : Int), .pointer (some ⟨b1, 0, none⟩), .pointer (some ⟨b2, 0, none⟩)] w fun e w' => e = .returned (.int .i64 ((digAt x i : Int) - (digAt y i : Int))) ∧ Below w.heap.size w w' := by
 refine wid ?_
 have hs := hx.small
 obtain ⟨b, o, dd, rfl, hc, hd, -, hdd⟩ := hx.digd gx hi
 have HD := Hd hdd
 have G := Hd hy
 have HG := Hd gy
 have q2 := digAt_lt gy i
 have v1 := stays_drew h1
 have v2 := stays_drew h2
 have v3 := stays_drew hc
 have k0 : IntKind.i64.wrap ((dd : Int) - (digAt y i : Int)) = (dd : Int) - (digAt y i : Int) := by have := BB_le q2; rw [IntKind.wrap_i64]; omega
 rw [HD.out]
 clear hx hy gx gy q2 h1 h2 hc hdd
 refine ent Tryz.func148 rfl Tryz.ntmps148 ?_
 gi_wp2
 refine wpIn_region_all [] [0,1,2,3,4,5,6,7,8] (by kernel_rfl) (by kernel_rfl) ?_
 repeat ((first | refine ord_rd ?_ | refine ord_sk ?_ | refine ord_cs ?_))
 refine ord_step fun K hK => ordStep_call rfl rfl wy fun K' hK' => ?_; gi_wp2
 refine Cm (atN_any B m d y i _ (G.out.go (by exact bel)) HG.out) ?_
 rintro e w1 ⟨rfl, rfl⟩
 refine hK' _ _ ⟨?_, hK _ _ ?_⟩; clear hK' K' hK K
 · exact Keeps.refl _ _
 refine lit ?_
 repeat ((first | refine ord_rd ?_ | refine ord_sk ?_ | refine ord_cs ?_))
 refine ord_nil ?_; refine lit ?_
 gi_wp2
 go_ret
 exact ⟨rfl, by exact bel⟩
set_option maxHeartbeats 400000 in
theorem moved1_any {A : Option Addr} {n c b1 b2 s : Nat} {x : List Nat} (i : Nat) (w : World) (h1 : w.cell? ⟨b1, 0, none⟩ = some (.slice A n c)) (h2 : w.cell? ⟨b2, 0, none⟩ = some (.int .i64 (s : Int))) (hs : s ≤ 29)
 (hx : Sl Int w [] A n c (ints x)) (gx : Good x) :
 Calls Tryz.prog 145 #[.int .i64 (i : Int), .pointer (some ⟨b1, 0, none⟩), .pointer (some ⟨b2, 0, none⟩)] w fun e w' => e = .returned (.int .i64 ((digAt x i : Int) * ((2 ^ s : Nat) : Int))) ∧ Below w.heap.size w w' := by
 refine wid ?_
 have H := Hd hx
 have HG := Hd gx
 have q2 := BB_le (digAt_lt gx i)
 have hw : IntKind.i64.wrap ((digAt x i : Int) * 2 ^ s) = (digAt x i : Int) * ((2 ^ s : Nat) : Int) := by
  have h3 : 2 ^ s ≤ 2 ^ 29 := Nat.pow_le_pow_right (by decide) hs; have h4 : digAt x i * 2 ^ s ≤ 1073741823 * 2 ^ 29 := Nat.mul_le_mul q2 h3
  have h5 : (digAt x i : Int) * 2 ^ s = ((digAt x i * 2 ^ s : Nat) : Int) := by simp
  rw [h5, IntKind.wrap_i64, Int.natCast_mul]; rw [← Int.natCast_mul]; omega
 have HW := Hd hw
 have v1 := stays_drew h1
 have v2 := stays_drew h2
 clear hx gx h1 h2 hw
 refine ent Tryz.func145 rfl Tryz.ntmps145 ?_
 gi_wp2
 refine wpIn_region_all [] [0,1,3,2,4,5] (by kernel_rfl) (by kernel_rfl) ?_
 repeat ((first | refine ord_rd ?_ | refine ord_sk ?_ | refine ord_cs ?_))
 refine ord_step fun K hK => ordStep_call rfl rfl wy fun K' hK' => ?_; gi_wp2
 refine Cm (atN_any A n c x i _ (H.out.go (by exact bel)) HG.out) ?_
 rintro e w1 ⟨rfl, rfl⟩
 refine hK' _ _ ⟨?_, hK _ _ ?_⟩; clear hK' K' hK K
 · exact Keeps.refl _ _
 refine lit ?_
 repeat ((first | refine ord_rd ?_ | refine ord_sk ?_ | refine ord_cs ?_))
 refine ord_nil ?_; refine lit ?_
 gi_wp2
 go_ret
 exact ⟨ret_int HW.out, by exact bel⟩
theorem Row.dr {w w' : World} {M : List Nat} {b k n v : Nat} {L : List Nat} (h : Row w' b (ints L)) (hb : w.heap.size ≤ b) (hM : Bel M w) (hk : k ≤ n) (hl : L.length = n) (hn : n ≤ 1000000) (hg : Good L) (ht : L.take k = dig v) (hB : Below w.heap.size w w') : DR w M v (.returned (.slice (some ⟨b, 0, none⟩) k n)) w' := by
 refine ⟨_, k, n, rfl, ?_, hB⟩
 have hs := h.sl (M := M) (fun e => by have := hM _ e; omega) (n := n) (by simp [ints, hl]) hn (ints_i64 hg)
 have := hs.cutTo hk
 rwa [ints_take, ht] at this
theorem carry_len (n : Nat) (f : Nat → Int) : (carryM ((List.range n).map f) 0).1.length = n ∧ Good (carryM ((List.range n).map f) 0).1 := by
 obtain ⟨h1, h2⟩ := carry_good ((List.range n).map f) 0
 exact ⟨by rw [h2]; simp, h1⟩
set_option maxHeartbeats 400000 in
theorem nadd_lt {M : List Nat} {A B : Option Addr} {n c m d x y : Nat} {w : World} (hM : Bel M w) (hx : Sl Int w M A n c (ints (dig x))) (hy : Sl Int w M B m d (ints (dig y))) (hn : n ≤ 5000) (hm : m ≤ 5000) (hnm : n < m) :
 Calls Tryz.prog 137 #[.slice A n c, .slice B m d] w (DR w M (x + y)) := by
 refine wid ?_
 have H := Hd (hx.less (M' := []) (by simp))
 have G := Hd (hy.less (M' := []) (by simp))
 have l1 := hx.dlen
 have l2 := hy.dlen
 have hmf : ∀ (fn : Fn) (first cap : Array Value) (w : World), (Instr.makeFunc fn first cap).run Tryz.prog w = .ok (.func fn first cap) w := fun _ _ _ _ => rfl
 have hbd : ∀ i, i < m + 1 → -4611686018427387904 ≤ (digAt (dig x) i : Int) + (digAt (dig y) i : Int) ∧ (digAt (dig x) i : Int) + (digAt (dig y) i : Int) ≤ 4611686018427387904 := fun i _ => by
  have := BB_le (digAt_lt (good_dig x) i); have := BB_le (digAt_lt (good_dig y) i); omega
 have HBD := Hd hbd
 have hfin := add_digits (good_dig x) (good_dig y)
 rw [l1, l2, show max n m = m by omega] at hfin
 have HFIN := Hd hfin
 clear hx hy hbd hfin l1 l2
 refine ent Tryz.func137 rfl Tryz.ntmps137 ?_
 gi_wp2_with (refine ⟨trivial, ?_⟩; gi_at_call 144; rw [show (m : Int) + 1 = ((m + 1 : Nat) : Int) from by omega]; refine Cn (carried_any (f := fun i => (digAt (dig x) i : Int) + (digAt (dig y) i : Int)) (g := 147) (m + 1) (by omega) _ (enters_of Tryz.func147 (by kernel_rfl) rfl) HBD.out (fun W i hi hb => ?_)) ?_)
 · have hbW : Below w.heap.size w W := (((Below.refl w.heap.size w).alloc (Nat.le_refl _) _).alloc (by simp) _).trans (hb.mono (by simp; omega))
   refine add1_any (A := A) (B := B) (n := n) (c := c) (m := m) (d := d) i W ?_ ?_ (H.out.keep (Keeps.of_below hbW [])) (G.out.keep (Keeps.of_below hbW [])) (good_dig x) (good_dig y)
   · exact (hb.cell (p := ⟨w.heap.size, 0, none⟩) (by simp; omega)).trans (by simp [go_sem])
   · exact (hb.cell (p := ⟨w.heap.size + 1, 0, none⟩) (by simp)).trans (by simp [go_sem])
 · rintro e w1 ⟨b, k, rfl, hr, hb, hk, ht, hB⟩
   have hbW : Below w.heap.size w w1 := (((Below.refl w.heap.size w).alloc (Nat.le_refl _) _).alloc (by simp) _).trans (hB.mono (by simp; omega))
   have hb' : w.heap.size ≤ b := by simp at hb; omega
   obtain ⟨cl, cg⟩ := carry_len (m + 1) (fun i => (digAt (dig x) i : Int) + (digAt (dig y) i : Int))
   have hv : dig (val (carryM ((List.range (m + 1)).map fun i => (digAt (dig x) i : Int) + (digAt (dig y) i : Int)) 0).1) = dig (x + y) := by
    have := HFIN.out; rw [val_dig, val_dig] at this; exact this
   rw [hv] at ht; have hD := hr.dr hb' hM hk cl (by omega) cg ht hbW; have HD := Hd hD; clear hr hb hk ht hB hbW hb' cl cg hv hD; gi_wp2; go_ret; exact HD.out
set_option maxHeartbeats 400000 in
theorem nadd_ge {M : List Nat} {A B : Option Addr} {n c m d x y : Nat} {w : World} (hM : Bel M w) (hx : Sl Int w M A n c (ints (dig x))) (hy : Sl Int w M B m d (ints (dig y))) (hn : n ≤ 5000) (hm : m ≤ 5000) (hnm : ¬ n < m) :
 Calls Tryz.prog 137 #[.slice A n c, .slice B m d] w (DR w M (x + y)) := by
 refine wid ?_
 have H := Hd (hx.less (M' := []) (by simp))
 have G := Hd (hy.less (M' := []) (by simp))
 have l1 := hx.dlen
 have l2 := hy.dlen
 have hmf : ∀ (fn : Fn) (first cap : Array Value) (w : World), (Instr.makeFunc fn first cap).run Tryz.prog w = .ok (.func fn first cap) w := fun _ _ _ _ => rfl
 have hbd : ∀ i, i < n + 1 → -4611686018427387904 ≤ (digAt (dig x) i : Int) + (digAt (dig y) i : Int) ∧ (digAt (dig x) i : Int) + (digAt (dig y) i : Int) ≤ 4611686018427387904 := fun i _ => by
  have := BB_le (digAt_lt (good_dig x) i); have := BB_le (digAt_lt (good_dig y) i); omega
 have HBD := Hd hbd
 have hfin := add_digits (good_dig x) (good_dig y)
 rw [l1, l2, show max n m = n by omega] at hfin
 have HFIN := Hd hfin
 clear hx hy hbd hfin l1 l2
 refine ent Tryz.func137 rfl Tryz.ntmps137 ?_
 gi_wp2_with (refine ⟨trivial, ?_⟩; gi_at_call 144; rw [show (n : Int) + 1 = ((n + 1 : Nat) : Int) from by omega]; refine Cn (carried_any (f := fun i => (digAt (dig x) i : Int) + (digAt (dig y) i : Int)) (g := 147) (n + 1) (by omega) _ (enters_of Tryz.func147 (by kernel_rfl) rfl) HBD.out (fun W i hi hb => ?_)) ?_)
 · have hbW : Below w.heap.size w W := (((Below.refl w.heap.size w).alloc (Nat.le_refl _) _).alloc (by simp) _).trans (hb.mono (by simp; omega))
   refine add1_any (A := A) (B := B) (n := n) (c := c) (m := m) (d := d) i W ?_ ?_ (H.out.keep (Keeps.of_below hbW [])) (G.out.keep (Keeps.of_below hbW [])) (good_dig x) (good_dig y)
   · exact (hb.cell (p := ⟨w.heap.size, 0, none⟩) (by simp; omega)).trans (by simp [go_sem])
   · exact (hb.cell (p := ⟨w.heap.size + 1, 0, none⟩) (by simp)).trans (by simp [go_sem])
 · rintro e w1 ⟨b, k, rfl, hr, hb, hk, ht, hB⟩
   have hbW : Below w.heap.size w w1 := (((Below.refl w.heap.size w).alloc (Nat.le_refl _) _).alloc (by simp) _).trans (hB.mono (by simp; omega))
   have hb' : w.heap.size ≤ b := by simp at hb; omega
   obtain ⟨cl, cg⟩ := carry_len (n + 1) (fun i => (digAt (dig x) i : Int) + (digAt (dig y) i : Int))
   have hv : dig (val (carryM ((List.range (n + 1)).map fun i => (digAt (dig x) i : Int) + (digAt (dig y) i : Int)) 0).1) = dig (x + y) := by
    have := HFIN.out; rw [val_dig, val_dig] at this; exact this
   rw [hv] at ht; have hD := hr.dr hb' hM hk cl (by omega) cg ht hbW; have HD := Hd hD; clear hr hb hk ht hB hbW hb' cl cg hv hD; gi_wp2; go_ret; exact HD.out
theorem nadd_any {M : List Nat} {A B : Option Addr} {n c m d x y : Nat} {w : World} (hM : Bel M w) (hx : Sl Int w M A n c (ints (dig x))) (hy : Sl Int w M B m d (ints (dig y))) (hn : n ≤ 5000) (hm : m ≤ 5000) :
 Calls Tryz.prog 137 #[.slice A n c, .slice B m d] w (DR w M (x + y)) := by
 by_cases h : n < m
 · exact nadd_lt hM hx hy hn hm h
 · exact nadd_ge hM hx hy hn hm h
set_option maxHeartbeats 400000 in
theorem nsub_any {M : List Nat} {A B : Option Addr} {n c m d x y : Nat} {w : World} (hM : Bel M w) (hx : Sl Int w M A n c (ints (dig x))) (hy : Sl Int w M B m d (ints (dig y))) (hn : n ≤ 5000) (hyx : y ≤ x) :
 Calls Tryz.prog 138 #[.slice A n c, .slice B m d] w (DR w M (x - y)) := by
 refine wid ?_
 have H := Hd (hx.less (M' := []) (by simp))
 have G := Hd (hy.less (M' := []) (by simp))
 have l1 := hx.dlen
 have l2 := hy.dlen
 have hmf : ∀ (fn : Fn) (first cap : Array Value) (w : World), (Instr.makeFunc fn first cap).run Tryz.prog w = .ok (.func fn first cap) w := fun _ _ _ _ => rfl
 have hbd : ∀ i, i < n → -4611686018427387904 ≤ (digAt (dig x) i : Int) - (digAt (dig y) i : Int) ∧ (digAt (dig x) i : Int) - (digAt (dig y) i : Int) ≤ 4611686018427387904 := fun i _ => by
  have := BB_le (digAt_lt (good_dig x) i); have := BB_le (digAt_lt (good_dig y) i); omega
 have HBD := Hd hbd
 have hfin := sub_digits (good_dig x) (show val (dig y) ≤ val (dig x) by rw [val_dig, val_dig]; exact hyx) (dig_mono hyx)
 rw [l1] at hfin
 have HFIN := Hd hfin
 clear hx hy hbd hfin l1 l2
 refine ent Tryz.func138 rfl Tryz.ntmps138 ?_
 gi_wp2_with (refine Cl 144 (carried_any (f := fun i => (digAt (dig x) i : Int) - (digAt (dig y) i : Int)) (g := 148) n (by omega) _ (enters_of Tryz.func148 (by kernel_rfl) rfl) HBD.out (fun W i hi hb => ?_)) ?_)
 · have hbW : Below w.heap.size w W := (((Below.refl w.heap.size w).alloc (Nat.le_refl _) _).alloc (by simp) _).trans (hb.mono (by simp; omega))
   refine sub1_any (A := A) (B := B) (n := n) (c := c) (m := m) (d := d) i hi W ?_ ?_ (H.out.keep (Keeps.of_below hbW [])) (G.out.keep (Keeps.of_below hbW [])) (good_dig x) (good_dig y)
   · exact (hb.cell (p := ⟨w.heap.size, 0, none⟩) (by simp; omega)).trans (by simp [go_sem])
   · exact (hb.cell (p := ⟨w.heap.size + 1, 0, none⟩) (by simp)).trans (by simp [go_sem])
 · rintro e w1 ⟨b, k, rfl, hr, hb, hk, ht, hB⟩
   have hbW : Below w.heap.size w w1 := (((Below.refl w.heap.size w).alloc (Nat.le_refl _) _).alloc (by simp) _).trans (hB.mono (by simp; omega))
   have hb' : w.heap.size ≤ b := by simp at hb; omega
   obtain ⟨cl, cg⟩ := carry_len n (fun i => (digAt (dig x) i : Int) - (digAt (dig y) i : Int))
   have hv : dig (val (carryM ((List.range n).map fun i => (digAt (dig x) i : Int) - (digAt (dig y) i : Int)) 0).1) = dig (x - y) := by
    have := HFIN.out; rw [val_dig, val_dig] at this; exact this
   rw [hv] at ht; have hD := hr.dr hb' hM hk cl (by omega) cg ht hbW; have HD := Hd hD; clear hr hb hk ht hB hbW hb' cl cg hv hD; gi_wp2; go_ret; exact HD.out
def OwnD (w : World) (n v : Nat) (e : Ending) (w' : World) : Prop := ∃ b k L, e = .returned (.slice (some ⟨b, 0, none⟩) k n) ∧ Row w' b (ints L) ∧ w.heap.size ≤ b ∧ k ≤ n ∧ L.length = n ∧ Good L ∧ L.take k = dig v ∧ Below w.heap.size w w'
theorem two_BB {s : Nat} (hs : s ≤ 29) : 2 ^ s ≤ BB := Nat.le_trans (Nat.pow_le_pow_right (by decide) hs) (by decide)
set_option maxHeartbeats 400000 in
theorem moved_any {M : List Nat} {A : Option Addr} {n c s x : Nat} {w : World} (hx : Sl Int w M A n c (ints (dig x))) (hn : n ≤ 5000) (hs : s ≤ 29) :
 Calls Tryz.prog 136 #[.slice A n c, .int .i64 (s : Int)] w (OwnD w (n + 1) (x * 2 ^ s)) := by
 refine wid ?_
 have H := Hd (hx.less (M' := []) (by simp))
 have l1 := hx.dlen
 have hmf : ∀ (fn : Fn) (first cap : Array Value) (w : World), (Instr.makeFunc fn first cap).run Tryz.prog w = .ok (.func fn first cap) w := fun _ _ _ _ => rfl
 have hbd : ∀ i, i < n + 1 → -4611686018427387904 ≤ (digAt (dig x) i : Int) * ((2 ^ s : Nat) : Int) ∧ (digAt (dig x) i : Int) * ((2 ^ s : Nat) : Int) ≤ 4611686018427387904 := fun i _ => by
  have q := BB_le (digAt_lt (good_dig x) i); have h3 : 2 ^ s ≤ 2 ^ 29 := Nat.pow_le_pow_right (by decide) hs; have h4 : digAt (dig x) i * 2 ^ s ≤ 1073741823 * 2 ^ 29 := Nat.mul_le_mul q h3; rw [← Int.natCast_mul]; omega
 have HBD := Hd hbd
 have hfin := scale_digits (good_dig x) (two_BB hs)
 rw [l1] at hfin
 have HFIN := Hd hfin
 clear hx hbd hfin l1
 refine ent Tryz.func136 rfl Tryz.ntmps136 ?_
 gi_wp2_with (refine ⟨trivial, ?_⟩; gi_at_call 144; rw [show (n : Int) + 1 = ((n + 1 : Nat) : Int) from by omega]; refine Cn (carried_any (f := fun i => (digAt (dig x) i : Int) * ((2 ^ s : Nat) : Int)) (g := 145) (n + 1) (by omega) _ (enters_of Tryz.func145 (by kernel_rfl) rfl) HBD.out (fun W i hi hb => ?_)) ?_)
 · have hbW : Below w.heap.size w W := (((Below.refl w.heap.size w).alloc (Nat.le_refl _) _).alloc (by simp) _).trans (hb.mono (by simp; omega))
   refine moved1_any (A := A) (n := n) (c := c) i W ?_ ?_ hs (H.out.keep (Keeps.of_below hbW [])) (good_dig x)
   · exact (hb.cell (p := ⟨w.heap.size, 0, none⟩) (by simp; omega)).trans (by simp [go_sem])
   · exact (hb.cell (p := ⟨w.heap.size + 1, 0, none⟩) (by simp)).trans (by simp [go_sem])
 · rintro e w1 ⟨b, k, rfl, hr, hb, hk, ht, hB⟩
   have hbW : Below w.heap.size w w1 := (((Below.refl w.heap.size w).alloc (Nat.le_refl _) _).alloc (by simp) _).trans (hB.mono (by simp; omega))
   have hb' : w.heap.size ≤ b := by simp at hb; omega
   obtain ⟨cl, cg⟩ := carry_len (n + 1) (fun i => (digAt (dig x) i : Int) * ((2 ^ s : Nat) : Int))
   have hv : dig (val (carryM ((List.range (n + 1)).map fun i => (digAt (dig x) i : Int) * ((2 ^ s : Nat) : Int)) 0).1) = dig (x * 2 ^ s) := by
    have := HFIN.out; rw [val_dig] at this; exact this
   rw [hv] at ht
   have hD : OwnD w (n + 1) (x * 2 ^ s) (.returned (.slice (some ⟨b, 0, none⟩) k (n + 1))) w1 := ⟨b, k, _, rfl, hr, hb', hk, cl, cg, ht, hbW⟩
   have HD := Hd hD; clear hr hb hk ht hB hbW hb' cl cg hv hD; gi_wp2; go_ret; exact HD.out
end
section
theorem val_set : ∀ {l : List Nat} {j x : Nat} (_ : l[j]? = some x) (d : Nat), val (l.set j d) + BB ^ j * x = val l + BB ^ j * d
 | [], j, x, h, d => by simp at h
 | y :: r, 0, x, h, d => by
   simp at h
   subst h; simp only [List.set_cons_zero, val, Nat.pow_zero, Nat.one_mul]; omega
 | y :: r, j + 1, x, h, d => by
   have ih := val_set (l := r) (j := j) (x := x) (by simpa using h) d; simp only [List.set_cons_succ, val]
   have e : BB * (val (r.set j d) + BB ^ j * x) = BB * (val r + BB ^ j * d) := by rw [ih]
   rw [Nat.mul_add, Nat.mul_add, ← Nat.mul_assoc, ← Nat.mul_assoc, Nat.mul_comm BB (BB ^ j), ← Nat.pow_succ, show j.succ = j + 1 from rfl] at e; omega
theorem good_set {l : List Nat} (h : Good l) (j : Nat) {d : Nat} (hd : d < BB) : Good (l.set j d) := by
 intro x hx
 rcases List.mem_or_eq_of_mem_set hx with hx | rfl
 · exact h x hx
 · exact hd
theorem val_take_succ {l : List Nat} {k x : Nat} (h : l[k]? = some x) : val (l.take (k + 1)) = val (l.take k) + BB ^ k * x := by
 have hk : k < l.length := (List.getElem?_eq_some_iff.1 h).1
 rw [List.take_add_one, h, Option.toList_some, val_append, List.length_take, Nat.min_eq_left (by omega)]
 simp [val]
structure MulI (a b : List Nat) (i : Nat) (R : List Nat) : Prop where
 eq : val R = val (a.take i) * val b
 good : Good R
 len : R.length = a.length + b.length
 top : ∀ j, i + b.length ≤ j → j < R.length → R[j]? = some 0
structure RowI (a b : List Nat) (i x k over : Nat) (R : List Nat) : Prop where
 eq : val R + BB ^ (i + k) * over = val (a.take i) * val b + BB ^ i * (x * val (b.take k))
 good : Good R
 len : R.length = a.length + b.length
 top : ∀ j, i + b.length ≤ j → j < R.length → R[j]? = some 0
 lt : over < BB
theorem MulI.start (a b : List Nat) : MulI a b 0 (List.replicate (a.length + b.length) 0) := by
 refine ⟨?_, ?_, by simp, ?_⟩
 · rw [val_zeros]; simp [val]
 · intro d hd
   rw [List.eq_of_mem_replicate hd]; exact BB_pos
 · intro j _ hj
   rw [List.length_replicate] at hj
   simp [hj]
theorem MulI.row {a b R : List Nat} {i : Nat} (h : MulI a b i R) (x : Nat) : RowI a b i x 0 0 R :=
 ⟨by rw [h.eq]; simp [val], h.good, h.len, h.top, BB_pos⟩
theorem MulI.skip {a b R : List Nat} {i : Nat} (h : MulI a b i R) (ha : a[i]? = some 0) : MulI a b (i + 1) R :=
 ⟨by rw [h.eq, val_take_succ ha]; simp, h.good, h.len, fun j hj hl => h.top j (by omega) hl⟩
theorem RowI.small {a b R : List Nat} {i x k over r y : Nat} (h : RowI a b i x k over R) (hx : x < BB) (hr : R[i + k]? = some r) (hy : b[k]? = some y) (hb : Good b) : r + x * y + over ≤ 1152921504606846975 ∧ r ≤ 1073741823 ∧ y ≤ 1073741823 ∧ over ≤ 1073741823 ∧ x * y ≤ 1152921502459363329 ∧ (r + x * y + over) / BB < BB := by
 have h1 : r ≤ 1073741823 := Nat.le_of_lt_succ (h.good r (List.mem_of_getElem? hr))
 have h2 : y ≤ 1073741823 := Nat.le_of_lt_succ (hb y (List.mem_of_getElem? hy))
 have h3 : over ≤ 1073741823 := Nat.le_of_lt_succ h.lt
 have h4 : x ≤ 1073741823 := Nat.le_of_lt_succ hx
 have h5 : x * y ≤ 1073741823 * 1073741823 := Nat.mul_le_mul h4 h2
 refine ⟨by omega, h1, h2, h3, by omega, ?_⟩
 refine (Nat.div_lt_iff_lt_mul BB_pos).2 ?_
 show _ < 1073741824 * 1073741824
 omega
theorem RowI.step {a b R : List Nat} {i x k over r y : Nat} (h : RowI a b i x k over R) (hx : x < BB) (hr : R[i + k]? = some r) (hy : b[k]? = some y) (hb : Good b) :
 RowI a b i x (k + 1) ((r + x * y + over) / BB) (R.set (i + k) ((r + x * y + over) % BB)) := by
 have hlt := (h.small hx hr hy hb).2.2.2.2.2
 have hk : k < b.length := (List.getElem?_eq_some_iff.1 hy).1
 refine ⟨?_, good_set h.good _ (Nat.mod_lt _ BB_pos), by rw [List.length_set]; exact h.len, fun j hj hl => ?_, hlt⟩
 · have e1 := val_set hr ((r + x * y + over) % BB)
   have e2 := h.eq; have e3 := Nat.mod_add_div (r + x * y + over) BB; rw [val_take_succ hy]; rw [← Nat.add_assoc i k 1, Nat.pow_succ]; generalize (r + x * y + over) % BB = m at *; generalize (r + x * y + over) / BB = q at *
   have e4 : BB ^ (i + k) * (m + BB * q) = BB ^ (i + k) * (r + x * y + over) := by rw [e3]
   rw [Nat.mul_add, ← Nat.mul_assoc, Nat.mul_add, Nat.mul_add] at e4
   have e5 : BB ^ i * (x * (val (b.take k) + BB ^ k * y)) = BB ^ i * (x * val (b.take k)) + BB ^ (i + k) * (x * y) := by
    rw [Nat.mul_add, Nat.mul_add, Nat.pow_add, Nat.mul_assoc]
    congr 2
    rw [← Nat.mul_assoc, ← Nat.mul_assoc, Nat.mul_comm x]
   omega
 · rw [List.getElem?_set_ne (by omega)]
   exact h.top j hj (by simpa using hl)
theorem RowI.done {a b R : List Nat} {i x over : Nat} (h : RowI a b i x b.length over R) (ha : a[i]? = some x) : MulI a b (i + 1) (R.set (i + b.length) over) := by
 have hi : i < a.length := (List.getElem?_eq_some_iff.1 ha).1
 have h0 : R[i + b.length]? = some 0 := h.top _ (Nat.le_refl _) (by rw [h.len]; omega)
 refine ⟨?_, good_set h.good _ h.lt, by rw [List.length_set]; exact h.len, fun j hj hl => ?_⟩
 · have e1 := val_set h0 over
   have e2 := h.eq; rw [List.take_length] at e2; rw [val_take_succ ha, Nat.add_mul]; have e3 : BB ^ i * (x * val b) = BB ^ i * x * val b := (Nat.mul_assoc ..).symm; omega
 · rw [List.getElem?_set_ne (by omega)]
   exact h.top j (by omega) (by simpa using hl)
theorem MulI.done {a b R : List Nat} (h : MulI a b a.length R) : val R = val a * val b := by rw [h.eq, List.take_length]
end
section
open Go.RowKit Go.Shelf
attribute [local go_sem] Oper.semAt_some
theorem ints_get {l : List Nat} {k d : Nat} (h : l[k]? = some d) : (ints l)[k]? = some (d : Int) := by
 show (l.map _)[k]? = _
 rw [List.getElem?_map, h]; rfl
set_option maxHeartbeats 2000000 in
theorem nmul_any {M : List Nat} {A B : Option Addr} {n c m d x y : Nat} {w : World} (hM : Bel M w) (hx : Sl Int w M A n c (ints (dig x))) (hy : Sl Int w M B m d (ints (dig y))) (hn : n ≤ 5000) (hm : m ≤ 5000) :
 Calls Tryz.prog 118 #[.slice A n c, .slice B m d] w (DR w M (x * y)) := by
 have H := Hd (hx.less (M' := []) (by simp))
 have G := Hd (hy.less (M' := []) (by simp))
 have HM := Hd hM
 have l1 := hx.dlen
 have l2 := hy.dlen
 have g1 := good_dig x
 have g2 := good_dig y
 have hpr : val (dig x) * val (dig y) = x * y := by rw [val_dig, val_dig]
 have hmk := mk_ints (t := 124) Tryz.underlying124 (n + m) (by omega)
 obtain ⟨W1, hW1⟩ : ∃ W1 : World, w.alloc (.cells ((List.replicate (n + m) (0 : Int)).map (Value.int .i64)).toArray 3) = W1 := ⟨_, rfl⟩
 replace hmk := hmk w
 rw [hW1, show ((n + m : Nat) : Int) = (n : Int) + (m : Int) from by omega] at hmk
 have r1 : Row W1 w.heap.size (ints (List.replicate (n + m) 0)) := by rw [← hW1, ← ints_zeros]; exact Row.new _ w
 have b1 : Below w.heap.size w W1 := by rw [← hW1]; exact bel
 have st := MulI.start (dig x) (dig y)
 rw [l1, l2] at st
 generalize hax : dig x = a at *
 generalize hay : dig y = b at *
 have P := Hd (And.intro l1 (And.intro l2 (And.intro g1 (And.intro g2 (And.intro hpr (And.intro st (And.intro r1 b1)))))))
 clear hx hy hM l1 l2 g1 g2 hpr st r1 b1 hW1 hax hay
 go_enter Tryz.func118, Tryz.ntmps118
 go_wp2
 go_step3
 go_wp2
 go_step3
 go_wp2
 go_loopw [20] (fun i wr => ∃ (k : Nat) (R : List Nat), k ≤ n ∧ i = .int .i64 k ∧ Hid (MulI a b k R) ∧ Hid (Row wr w.heap.size (ints R)) ∧ Below w.heap.size w wr) (fun i _ => n - (intOf i).toNat)
 case atStart => exact ⟨0, _, Nat.zero_le _, rfl, P.out.2.2.2.2.2.1, P.out.2.2.2.2.2.2.1, P.out.2.2.2.2.2.2.2⟩
 case round =>
  obtain ⟨i, R, hi, rfl, hI, hR, hb⟩ := hrel
  by_cases hlt : i < n
  · obtain ⟨b1, o1, xi, rfl, hc1, hxi, hl1, -⟩ := (H.out.keep (Keeps.of_below hb [])).digd P.out.2.2.1 hlt
    have L := Hd hl1; clear hl1
    by_cases h0 : xi = 0
    · subst h0
      go_wp2
      go_roundw
      case rel => exact ⟨i + 1, R, by omega, by go_num, hI.out.skip L.out, hR.out, hb⟩
      case measure => simp [intOf]; omega
    · have h01 : ((xi : Int) == 0) = false := by simpa using h0
      have hxB : xi < BB := lt_BB hxi
      go_wp2
      go_loopw [8, 29] (fun o q wr' => ∃ (k over : Nat) (R' : List Nat), k ≤ m ∧ o = .int .i64 over ∧ q = .int .i64 k ∧ Hid (RowI a b i xi k over R') ∧ Hid (Row wr' w.heap.size (ints R')) ∧ Below w.heap.size w wr') (fun _ q _ => m - (intOf q).toNat)
      case atStart => exact ⟨0, 0, R, Nat.zero_le _, rfl, rfl, hI.out.row xi, hR.out, hb⟩
      case round =>
       obtain ⟨k, over, R', hk, rfl, rfl, hI', hR', hb'⟩ := hrel
       by_cases hkm : k < m
       · obtain ⟨b2, o2, y2, rfl, hc2, hy2, hl2, -⟩ := (G.out.keep (Keeps.of_below hb' [])).digd P.out.2.2.2.1 hkm
         have hRl : R'.length = n + m := by rw [hI'.out.len, P.out.1, P.out.2.1]
         obtain ⟨r, hr⟩ : ∃ r, R'[i + k]? = some r := ⟨_, List.getElem?_eq_getElem (by omega)⟩
         obtain ⟨s1, s2, s3, s4, s5, s6⟩ := hI'.out.small hxB hr hl2 P.out.2.2.2.1; have hc3 : wr.cell? ⟨w.heap.size, i + k, none⟩ = some (.int .i64 (r : Int)) := hR'.out.cell (ints_get hr); have hf3 : wr.frozen? ⟨w.heap.size, i + k, none⟩ = false := hR'.out.free _; have hstep := hI'.out.step hxB hr hl2 P.out.2.2.2.1; have hput := hR'.out.put (i + k) (((r + xi * y2 + over) % BB : Nat) : Int); rw [ints_set] at hput; have HS := Hd2 hstep hput; have e0 : ((xi : Int) * (y2 : Int)) = ((xi * y2 : Nat) : Int) := (Int.natCast_mul ..).symm
         have k0 : IntKind.i64.wrap ((i : Int) + (k : Int)) = ((i + k : Nat) : Int) := by rw [IntKind.wrap_i64]; omega
         have k1 : IntKind.i64.wrap ((xi : Int) * (y2 : Int)) = ((xi * y2 : Nat) : Int) := by rw [e0, IntKind.wrap_i64]; omega
         have k2 : IntKind.i64.wrap ((r : Int) + ((xi * y2 : Nat) : Int)) = ((r + xi * y2 : Nat) : Int) := by rw [IntKind.wrap_i64]; omega
         have k3 : IntKind.i64.wrap (((r + xi * y2 : Nat) : Int) + (over : Int)) = ((r + xi * y2 + over : Nat) : Int) := by rw [IntKind.wrap_i64]; omega
         have e1 : (r : Int) + (xi : Int) * (y2 : Int) + (over : Int) = ((r + xi * y2 + over : Nat) : Int) := by simp
         have q1 : ((r : Int) + (xi : Int) * (y2 : Int) + (over : Int)) / 1073741824 = (((r + xi * y2 + over) / BB : Nat) : Int) := by rw [e1, BBi]; exact (Int.natCast_ediv _ _).symm
         have q2 : bits .and .i64 ((r : Int) + (xi : Int) * (y2 : Int) + (over : Int)) 1073741823 = (((r + xi * y2 + over) % BB : Nat) : Int) := by rw [e1, and_mask]; exact (Int.natCast_emod _ _).symm
         have Q := Hd2 q1 q2; clear hstep hput hr hl2 e0 hRl e1 q1 q2
         go_wp2
         rw [Q.out.1, Q.out.2]; exact ⟨⟨k + 1, _, _, by omega, rfl, by go_num, HS.out.1, HS.out.2, hb'.setCell (p := ⟨w.heap.size, i + k, none⟩) (Nat.le_refl _) _⟩, by simp [intOf]; omega⟩
       · have hkm2 : k = m := by omega
         subst hkm2; have hI2 := hI'.out; have hlo := BB_le hI2.lt; have hz : R'[i + k]? = some 0 := hI2.top _ (by rw [P.out.2.1]; exact Nat.le_refl _) (by rw [hI2.len, P.out.1, P.out.2.1]; omega); have hdone := hI2; rw [← P.out.2.1] at hdone; have hdone := hdone.done L.out; rw [P.out.2.1] at hdone; have hc3 : wr.cell? ⟨w.heap.size, i + k, none⟩ = some (.int .i64 0) := hR'.out.cell (ints_get hz); have hf3 : wr.frozen? ⟨w.heap.size, i + k, none⟩ = false := hR'.out.free _; have hput := hR'.out.put (i + k) (over : Int); rw [ints_set] at hput; have HS := Hd2 hdone hput
         have k0 : IntKind.i64.wrap ((i : Int) + (k : Int)) = ((i + k : Nat) : Int) := by rw [IntKind.wrap_i64]; omega
         clear hdone hput hI2 hz
         go_wp2
         exact ⟨⟨i + 1, _, by omega, by go_num, HS.out.1, HS.out.2, hb'.setCell (p := ⟨w.heap.size, i + k, none⟩) (Nat.le_refl _) _⟩, by simp [intOf]; omega⟩
  · have hin : i = n := by omega
    subst hin; have hfin := hI.out; rw [← P.out.1] at hfin; have hv := hfin.done; have hg := hfin.good; have hl := hfin.len; rw [P.out.2.2.2.2.1] at hv; rw [P.out.1, P.out.2.1] at hl
    have hbM : w.heap.size ∉ M := fun e => by have := HM.out _ e; omega
    have hsl := hR.out.sl hbM (n := i + m) (by rw [ints_len]; exact hl) (by omega) (ints_i64 hg); have HSL := Hd3 hsl hg hv; have hsz := hb.size; clear hfin hv hg hl hbM hsl
    go_wp2_with (go_at_call 125; refine (trimN_any _ _ _ R _ HSL.out.1 HSL.out.2.1).mono ?_; rintro e w2 ⟨q, rfl, hq, ht, hb2⟩; have HT := Hd3 ht hq hb2; clear ht hq hb2)
    rw [Exit.noGoto_ret]; go_ret; have hs2 := (HSL.out.1.go HT.out.2.2).cutTo HT.out.2.1; rw [ints_take, HT.out.1, HSL.out.2.2] at hs2; exact ⟨_, q, i + m, rfl, hs2, hb.trans (HT.out.2.2.mono hsz)⟩
end
section
open Go.RowKit Go.Shelf
attribute [local go_sem] Oper.semAt_some
set_option maxHeartbeats 2000000 in
theorem rtimes_any {M : List Nat} {A B : Option Addr} {n c m d x y : Nat} {w : World} (hM : Bel M w) (hx : Sl Int w M A n c (ints (dig x))) (hy : Sl Int w M B m d (ints (dig y))) (hn : n ≤ 5000) (hm : m ≤ 5000) :
 Calls Tryz.prog 121 #[.slice A n c, .slice B m d] w (DR w M (x * y)) := by
 refine wid ?_
 have H := Hd (hx.less (M' := []) (by simp))
 have G := Hd (hy.less (M' := []) (by simp))
 have HM := Hd hM
 have l1 := hx.dlen
 have l2 := hy.dlen
 have g1 := good_dig x
 have g2 := good_dig y
 have hpr : val (dig x) * val (dig y) = x * y := by rw [val_dig, val_dig]
 have hmk := mk_ints (t := 27) Tryz.underlying27 (n + m) (by omega)
 obtain ⟨W1, hW1⟩ : ∃ W1 : World, w.alloc (.cells ((List.replicate (n + m) (0 : Int)).map (Value.int .i64)).toArray 3) = W1 := ⟨_, rfl⟩
 replace hmk := hmk w
 rw [hW1, show ((n + m : Nat) : Int) = (n : Int) + (m : Int) from by omega] at hmk
 have r1 : Row W1 w.heap.size (ints (List.replicate (n + m) 0)) := by rw [← hW1, ← ints_zeros]; exact Row.new _ w
 have b1 : Below w.heap.size w W1 := by rw [← hW1]; exact bel
 have st := MulI.start (dig x) (dig y)
 rw [l1, l2] at st
 generalize hax : dig x = a at *
 generalize hay : dig y = b at *
 have P := Hd (And.intro l1 (And.intro l2 (And.intro g1 (And.intro g2 (And.intro hpr (And.intro st (And.intro r1 b1)))))))
 clear hx hy hM l1 l2 g1 g2 hpr st r1 b1 hW1 hax hay
 refine ent Tryz.func121 rfl Tryz.ntmps121 ?_
 gi_wp2
 gi_loopw [6] (fun i wr => ∃ (k : Nat) (R : List Nat), k ≤ n ∧ i = .int .i64 k ∧ Hid (MulI a b k R) ∧ Hid (Row wr w.heap.size (ints R)) ∧ Below w.heap.size w wr) (fun i _ => n - (intOf i).toNat)
 case atStart => exact ⟨0, _, Nat.zero_le _, rfl, P.out.2.2.2.2.2.1, P.out.2.2.2.2.2.2.1, P.out.2.2.2.2.2.2.2⟩
 case round =>
  obtain ⟨i, R, hi, rfl, hI, hR, hb⟩ := hrel
  by_cases hlt : i < n
  · obtain ⟨xi, hxi0⟩ : ∃ xi, a[i]? = some xi := ⟨_, List.getElem?_eq_getElem (by rw [P.out.1]; exact hlt)⟩
    have L := Hd hxi0; have hxB : xi < BB := P.out.2.2.1 _ (List.mem_of_getElem? hxi0); clear hxi0; gi_wp2
    gi_loopw [7, 8] (fun o q wr' => ∃ (k over : Nat) (R' : List Nat), k ≤ m ∧ o = .int .i64 over ∧ q = .int .i64 k ∧ Hid (RowI a b i xi k over R') ∧ Hid (Row wr' w.heap.size (ints R')) ∧ Below w.heap.size w wr') (fun _ q _ => m - (intOf q).toNat)
    case atStart => exact ⟨0, 0, R, Nat.zero_le _, rfl, rfl, hI.out.row xi, hR.out, hb⟩
    case round =>
     obtain ⟨k, over, R', hk, rfl, rfl, hI', hR', hb'⟩ := hrel
     by_cases hkm : k < m
     · obtain ⟨b1, o1, xi', rfl, hc1, hxi, hl1, -⟩ := (H.out.keep (Keeps.of_below hb' [])).digd P.out.2.2.1 hlt
       obtain rfl : xi = xi' := by have := L.out; rw [hl1] at this; exact (Option.some.inj this).symm
       obtain ⟨b2, o2, y2, rfl, hc2, hy2, hl2, -⟩ := (G.out.keep (Keeps.of_below hb' [])).digd P.out.2.2.2.1 hkm
       have hRl : R'.length = n + m := by rw [hI'.out.len, P.out.1, P.out.2.1]
       obtain ⟨r, hr⟩ : ∃ r, R'[i + k]? = some r := ⟨_, List.getElem?_eq_getElem (by omega)⟩
       obtain ⟨s1, s2, s3, s4, s5, s6⟩ := hI'.out.small hxB hr hl2 P.out.2.2.2.1; have hc3 : wr.cell? ⟨w.heap.size, i + k, none⟩ = some (.int .i64 (r : Int)) := hR'.out.cell (ints_get hr); have hc4 : wr.drew.cell? ⟨w.heap.size, i + k, none⟩ = some (.int .i64 (r : Int)) := hc3; have hf4 : wr.drew.frozen? ⟨w.heap.size, i + k, none⟩ = false := hR'.out.free _; have v1 := stays_drew hc1; have v2 := stays_drew hc2; have v3 := stays_drew hc3; have hstep := hI'.out.step hxB hr hl2 P.out.2.2.2.1; have hput := hR'.out.put (i + k) (((r + xi * y2 + over) % BB : Nat) : Int); rw [ints_set] at hput; have HS := Hd2 hstep hput
       have e1 : (r : Int) + (xi : Int) * (y2 : Int) + (over : Int) = ((r + xi * y2 + over : Nat) : Int) := by simp
       have q1 : ((r : Int) + (xi : Int) * (y2 : Int) + (over : Int)) / 1073741824 = (((r + xi * y2 + over) / BB : Nat) : Int) := by rw [e1, BBi]; exact (Int.natCast_ediv _ _).symm
       have q2 : ((r : Int) + (xi : Int) * (y2 : Int) + (over : Int)) % 1073741824 = (((r + xi * y2 + over) % BB : Nat) : Int) := by rw [e1, BBi]; exact (Int.natCast_emod _ _).symm
       have Q := Hd2 q1 q2; have e0 : ((xi : Int) * (y2 : Int)) = ((xi * y2 : Nat) : Int) := (Int.natCast_mul ..).symm
       have k0 : IntKind.i64.wrap ((i : Int) + (k : Int)) = ((i + k : Nat) : Int) := by rw [IntKind.wrap_i64]; omega
       have k1 : IntKind.i64.wrap ((xi : Int) * (y2 : Int)) = ((xi * y2 : Nat) : Int) := by rw [e0, IntKind.wrap_i64]; omega
       have k2 : IntKind.i64.wrap ((r : Int) + ((xi * y2 : Nat) : Int)) = ((r + xi * y2 : Nat) : Int) := by rw [IntKind.wrap_i64]; omega
       have k3 : IntKind.i64.wrap (((r + xi * y2 : Nat) : Int) + (over : Int)) = ((r + xi * y2 + over : Nat) : Int) := by rw [IntKind.wrap_i64]; omega
       have j1 : (0 : Int) ≤ (i : Int) + (k : Int) := by omega
       have j2 : (i : Int) + (k : Int) < (n : Int) + (m : Int) := by omega
       have j3 : ((i : Int) + (k : Int)).toNat = i + k := by omega
       clear hstep hput hr hl2 e0 hRl hl1 hc1 hc2 hc3 e1 q1 q2; gi_wp2; refine wpIn_region_all [] (List.range 19) (by kernel_rfl) (by kernel_rfl) ?_; simp only [show List.range 19 = [0,1,2,3,4,5,6,7,8,9,10,11,12,13,14,15,16,17,18] from rfl]
       repeat ((first | refine ord_rd ?_ | refine ord_sk ?_ | refine ord_cs ?_))
       refine ord_nil ?_; refine lit ?_; gi_wp2; rw [Q.out.1, Q.out.2]; exact ⟨⟨k + 1, _, _, by omega, rfl, by go_num, HS.out.1, HS.out.2.drew, (hb'.setCell (p := ⟨w.heap.size, i + k, none⟩) (Nat.le_refl _) _).drew⟩, by simp [intOf]; omega⟩
     · have hkm2 : k = m := by omega
       subst hkm2; have hI2 := hI'.out; have hlo := BB_le hI2.lt; have hz : R'[i + k]? = some 0 := hI2.top _ (by rw [P.out.2.1]; exact Nat.le_refl _) (by rw [hI2.len, P.out.1, P.out.2.1]; omega); have hdone := hI2; rw [← P.out.2.1] at hdone; replace hdone := hdone.done L.out; rw [P.out.2.1] at hdone; have hc3 : wr.cell? ⟨w.heap.size, i + k, none⟩ = some (.int .i64 0) := hR'.out.cell (ints_get hz); have hf3 : wr.frozen? ⟨w.heap.size, i + k, none⟩ = false := hR'.out.free _; have hput := hR'.out.put (i + k) (over : Int); rw [ints_set] at hput; have HS := Hd2 hdone hput
       have k0 : IntKind.i64.wrap ((i : Int) + (k : Int)) = ((i + k : Nat) : Int) := by rw [IntKind.wrap_i64]; omega
       clear hdone hput hI2 hz; gi_wp2; exact ⟨⟨i + 1, _, by omega, by go_num, HS.out.1, HS.out.2, hb'.setCell (p := ⟨w.heap.size, i + k, none⟩) (Nat.le_refl _) _⟩, by simp [intOf]; omega⟩
  · have hin : i = n := by omega
    subst hin; have hfin := hI.out; rw [← P.out.1] at hfin; have hv := hfin.done; have hg := hfin.good; have hl := hfin.len; rw [P.out.2.2.2.2.1] at hv; rw [P.out.1, P.out.2.1] at hl
    have hbM : w.heap.size ∉ M := fun e => by have := HM.out _ e; omega
    have hsl := hR.out.sl hbM (n := i + m) (by rw [ints_len]; exact hl) (by omega) (ints_i64 hg); have HSL := Hd3 hsl hg hv; have hsz := hb.size; clear hfin hv hg hl hbM hsl
    gi_wp2_with (refine Cl 120 (trimR_any _ _ _ R _ HSL.out.1 HSL.out.2.1) ?_; rintro e w2 ⟨q, rfl, hq, ht, hb2⟩; have HT := Hd3 ht hq hb2; clear ht hq hb2)
    go_ret; have hs2 := (HSL.out.1.go HT.out.2.2).cutTo HT.out.2.1; rw [ints_take, HT.out.1, HSL.out.2.2] at hs2; exact ⟨_, q, i + m, rfl, hs2, hb.trans (HT.out.2.2.mono hsz)⟩
end
end Go.Proofs.YtboapndkopabiaaGreat
