/- Lemmas and walks (Nat1 Nat2 Nat3). No statement is proved here. -/
import Derived.Test.YtboapndkopabiaaGreatM04
set_option linter.unusedVariables false
set_option linter.unusedSimpArgs false
namespace Go.Proofs.YtboapndkopabiaaGreat
section
open Go.RowKit Go.Shelf
attribute [local go_sem] Oper.semAt_some
set_option maxHeartbeats 400000 in
theorem trimN_any {M : List Nat} (A : Option Addr) (n c : Nat) (l : List Nat) (w : World) (hx : Sl Int w M A n c (ints l)) (hg : Good l) :
 Calls Tryz.prog 125 #[.slice A n c] w fun e w' => ∃ k, e = .returned (.slice A k c) ∧ k ≤ n ∧ l.take k = dig (val l) ∧ Below w.heap.size w w' := by
 refine wid ?_
 have H := Hd hx
 have HG := Hd hg
 have hs := hx.small
 have hc := hx.cap
 clear hx hg
 refine ent Tryz.func125 rfl Tryz.ntmps125 ?_
 gi_wp2
 gi_loopw [3] (fun i wr => ∃ k : Nat, k ≤ n ∧ i = .int .i64 k ∧ Hid (trimM (l.take k) = dig (val l)) ∧ Below w.heap.size w wr) (fun i _ => (intOf i).toNat)
 case atStart => exact ⟨n, Nat.le_refl _, rfl, by rw [List.take_of_length_le (by rw [H.out.dlen]; exact Nat.le_refl _)]; rfl, Below.refl _ _⟩
 case round =>
  obtain ⟨k, hk, rfl, hr, hb⟩ := hrel
  rcases Nat.eq_zero_or_pos k with rfl | hpos
  · have hr2 := hr.out
    rw [List.take_zero, trim_nil] at hr2; have HR := Hd hr2; have s1 := slice_to (k := 0) Tryz.underlying124 (sz := 1) (fun w => by kernel_rfl) A (Nat.zero_le n) hc; clear hr2 hr; gi_wp2; go_ret; exact ⟨0, rfl, Nat.zero_le _, by rw [List.take_zero]; exact HR.out, hb⟩
  · obtain ⟨j, rfl⟩ : ∃ j, k = j + 1 := ⟨k - 1, by omega⟩
    obtain ⟨b, o, d, rfl, hcell, hd, hld, -⟩ := (H.out.keep (Keeps.of_below hb M)).digd HG.out (show j < n by omega)
    have ej : ((j + 1 : Nat) : Int) - 1 = (j : Int) := by omega
    have ew : IntKind.i64.wrap ((j : Nat) : Int) = (j : Int) := by rw [IntKind.wrap_i64]; omega
    by_cases h0 : d = 0
    · subst h0
      have hr2 := hr.out; rw [trim_down hld] at hr2; have HR := Hd hr2; clear hr2 hr hld; gi_wp2
      go_roundw
      case rel => exact ⟨j, by omega, by go_num, HR.out, hb⟩
      case measure => simp [intOf]
    · have hr2 := hr.out
      rw [trim_stop HG.out hld h0] at hr2; have HR := Hd hr2
      have hd0 : ((d : Int) == 0) = false := by simpa using h0
      have s1 := slice_to (k := j + 1) Tryz.underlying124 (sz := 1) (fun w => by kernel_rfl) (some ⟨b, o, none⟩) hk hc; clear hr2 hr hld; gi_wp2; go_ret; exact ⟨j + 1, rfl, hk, HR.out, hb⟩
set_option maxHeartbeats 400000 in
theorem trimR_any {M : List Nat} (A : Option Addr) (n c : Nat) (l : List Nat) (w : World) (hx : Sl Int w M A n c (ints l)) (hg : Good l) :
 Calls Tryz.prog 120 #[.slice A n c] w fun e w' => ∃ k, e = .returned (.slice A k c) ∧ k ≤ n ∧ l.take k = dig (val l) ∧ Below w.heap.size w w' := by
 refine wid ?_
 have H := Hd hx
 have HG := Hd hg
 have hs := hx.small
 have hc := hx.cap
 clear hx hg
 refine ent Tryz.func120 rfl Tryz.ntmps120 ?_
 gi_wp2
 gi_loopw [3] (fun i wr => ∃ k : Nat, k ≤ n ∧ i = .int .i64 k ∧ Hid (trimM (l.take k) = dig (val l)) ∧ Below w.heap.size w wr) (fun i _ => (intOf i).toNat)
 case atStart => exact ⟨n, Nat.le_refl _, rfl, by rw [List.take_of_length_le (by rw [H.out.dlen]; exact Nat.le_refl _)]; rfl, Below.refl _ _⟩
 case round =>
  obtain ⟨k, hk, rfl, hr, hb⟩ := hrel
  rcases Nat.eq_zero_or_pos k with rfl | hpos
  · have hr2 := hr.out
    rw [List.take_zero, trim_nil] at hr2; have HR := Hd hr2; have s1 := slice_to (k := 0) Tryz.underlying27 (sz := 1) (fun w => by kernel_rfl) A (Nat.zero_le n) hc; clear hr2 hr; gi_wp2; go_ret; exact ⟨0, rfl, Nat.zero_le _, by rw [List.take_zero]; exact HR.out, hb⟩
  · obtain ⟨j, rfl⟩ : ∃ j, k = j + 1 := ⟨k - 1, by omega⟩
    obtain ⟨b, o, d, rfl, hcell, hd, hld, -⟩ := (H.out.keep (Keeps.of_below hb M)).digd HG.out (show j < n by omega)
    have ej : ((j + 1 : Nat) : Int) - 1 = (j : Int) := by omega
    have ew : IntKind.i64.wrap ((j : Nat) : Int) = (j : Int) := by rw [IntKind.wrap_i64]; omega
    by_cases h0 : d = 0
    · subst h0
      have hr2 := hr.out; rw [trim_down hld] at hr2; have HR := Hd hr2; clear hr2 hr hld; gi_wp2
      go_roundw
      case rel => exact ⟨j, by omega, by go_num, HR.out, hb⟩
      case measure => simp [intOf]
    · have hr2 := hr.out
      rw [trim_stop HG.out hld h0] at hr2; have HR := Hd hr2
      have hd0 : ((d : Int) == 0) = false := by simpa using h0
      have s1 := slice_to (k := j + 1) Tryz.underlying27 (sz := 1) (fun w => by kernel_rfl) (some ⟨b, o, none⟩) hk hc; clear hr2 hr hld; gi_wp2; go_ret; exact ⟨j + 1, rfl, hk, HR.out, hb⟩
theorem atN_any {M : List Nat} (A : Option Addr) (n c : Nat) (l : List Nat) (i : Nat) (w : World) (hx : Sl Int w M A n c (ints l)) (hg : Good l) :
 Calls Tryz.prog 146 #[.slice A n c, .int .i64 (i : Int)] w fun e w' => e = .returned (.int .i64 (digAt l i : Int)) ∧ w' = w := by
 refine wid ?_
 by_cases hi : i < n
 · obtain ⟨b, o, d, rfl, hcell, hd, hld, hdd⟩ := hx.digd hg hi
   have HD := Hd hdd; have hs := hx.small; clear hx hg hdd hld; refine ent Tryz.func146 rfl Tryz.ntmps146 ?_; gi_wp2; go_ret; exact ⟨by rw [HD.out]; rfl, rfl⟩
 · have hd : digAt l i = 0 := by
    unfold digAt List.getD; rw [List.getElem?_eq_none (by rw [hx.dlen]; omega)]; rfl
   rw [hd]; clear hx hg hd; refine ent Tryz.func146 rfl Tryz.ntmps146 ?_; gi_wp2; go_ret; exact ⟨rfl, rfl⟩
theorem atR_any {M : List Nat} (A : Option Addr) (n c : Nat) (l : List Nat) (i : Nat) (w : World) (hx : Sl Int w M A n c (ints l)) (hg : Good l) :
 Calls Tryz.prog 134 #[.slice A n c, .int .i64 (i : Int)] w fun e w' => e = .returned (.int .i64 (digAt l i : Int)) ∧ w' = w := by
 refine wid ?_
 by_cases hi : i < n
 · obtain ⟨b, o, d, rfl, hcell, hd, hld, hdd⟩ := hx.digd hg hi
   have HD := Hd hdd; have hs := hx.small; clear hx hg hdd hld; refine ent Tryz.func134 rfl Tryz.ntmps134 ?_; gi_wp2; go_ret; exact ⟨by rw [HD.out]; rfl, rfl⟩
 · have hd : digAt l i = 0 := by
    unfold digAt List.getD; rw [List.getElem?_eq_none (by rw [hx.dlen]; omega)]; rfl
   rw [hd]; clear hx hg hd; refine ent Tryz.func134 rfl Tryz.ntmps134 ?_; gi_wp2; go_ret; exact ⟨rfl, rfl⟩
def cmpZ (x y : Nat) : Int := if x < y then -1 else if y < x then 1 else 0
theorem cmpZ_lt {x y : Nat} (h : x < y) : cmpZ x y = -1 := by simp [cmpZ, h]
theorem cmpZ_gt {x y : Nat} (h : y < x) : cmpZ x y = 1 := by unfold cmpZ; rw [if_neg (by omega), if_pos h]
theorem cmpZ_eq {x y : Nat} (h : x = y) : cmpZ x y = 0 := by subst h; simp [cmpZ]
set_option maxHeartbeats 1000000 in
theorem cmpR_any {M N : List Nat} (A B : Option Addr) (n c m d : Nat) (x y : Nat) (w : World) (hx : Sl Int w M A n c (ints (dig x))) (hy : Sl Int w N B m d (ints (dig y))) :
 Calls Tryz.prog 102 #[.slice A n c, .slice B m d] w fun e w' => e = .returned (.int .i64 (cmpZ x y)) ∧ Below w.heap.size w w' := by
 refine wid ?_
 have H := Hd hx
 have G := Hd hy
 have hs := hx.small
 have hs2 := hy.small
 have l1 := hx.dlen
 have l2 := hy.dlen
 have v1 := val_dig x
 have v2 := val_dig y
 have g1 := good_dig x
 have g2 := good_dig y
 have t1 := topped_dig x
 have t2 := topped_dig y
 generalize hz : cmpZ x y = z
 have HZ := Hd hz
 clear hx hy hz
 by_cases hnm : n = m
 · subst hnm
   generalize dig x = a at *; generalize dig y = b at *; have P := Hd6 l1 l2 v1 v2 g1 g2; clear v1 v2 g1 g2 t1 t2 l1 l2; refine ent Tryz.func102 rfl Tryz.ntmps102 ?_; gi_wp2
   gi_loopw [5] (fun i wr => ∃ k : Nat, k ≤ n ∧ i = .int .i64 ((k : Int) - 1) ∧ Hid (a.drop k = b.drop k) ∧ Below w.heap.size w wr) (fun i _ => (intOf i + 1).toNat)
   case atStart => exact ⟨n, Nat.le_refl _, by go_num, by rw [List.drop_of_length_le (by rw [P.out.1]; exact Nat.le_refl _), List.drop_of_length_le (by rw [P.out.2.1]; exact Nat.le_refl _)]; rfl, Below.refl _ _⟩
   case round =>
    obtain ⟨k, hk, rfl, hr, hb⟩ := hrel
    rcases Nat.eq_zero_or_pos k with rfl | hpos
    · have hr2 := hr.out
      rw [List.drop_zero, List.drop_zero] at hr2; have HE := Hd (cmpZ_eq (show x = y by rw [← P.out.2.2.1, ← P.out.2.2.2.1, hr2])); clear hr2 hr; gi_wp2; go_ret; exact ⟨ret_int (HE.out.symm.trans HZ.out), hb⟩
    · obtain ⟨j, rfl⟩ : ∃ j, k = j + 1 := ⟨k - 1, by omega⟩
      obtain ⟨b1, o1, d1, rfl, hc1, hd1, hl1, -⟩ := (H.out.keep (Keeps.of_below hb M)).digd P.out.2.2.2.2.1 (show j < n by omega); obtain ⟨b2, o2, d2, rfl, hc2, hd2, hl2, -⟩ := (G.out.keep (Keeps.of_below hb N)).digd P.out.2.2.2.2.2 (show j < n by omega)
      have ej : ((j + 1 : Nat) : Int) - 1 = (j : Int) := by omega
      rw [ej]
      have hjn : j < n := by omega
      have c1 := stays_drew hc1; have c2 := stays_drew hc2; have c3 := stays_drew (w := wr.drew) hc1; have c4 := stays_drew (w := wr.drew) hc2; have L := Hd2 hl1 hl2; clear hl1 hl2 ej hc1 hc2
      by_cases h1 : d1 < d2
      · have HE := Hd (cmpZ_lt (show x < y by rw [← P.out.2.2.1, ← P.out.2.2.2.1]; exact val_lt_at P.out.2.2.2.2.1 (P.out.1.trans P.out.2.1.symm) L.out.1 L.out.2 hr.out h1))
        have hq1 : decide ((d1 : Int) < (d2 : Int)) = true := by simpa using h1
        clear hr; gi_wp2; refine wpIn_region_all [] [0,1,2,3,4,5,6,7,8] (by kernel_rfl) (by kernel_rfl) ?_
        repeat ((first | refine ord_rd ?_ | refine ord_sk ?_ | refine ord_cs ?_))
        refine ord_nil ?_; refine lit ?_; gi_wp2; go_ret; exact ⟨ret_int (HE.out.symm.trans HZ.out), hb.drew⟩
      · have hq1 : decide ((d1 : Int) < (d2 : Int)) = false := by simpa using h1
        by_cases h2 : d2 < d1
        · have HE := Hd (cmpZ_gt (show y < x by rw [← P.out.2.2.1, ← P.out.2.2.2.1]; exact val_lt_at P.out.2.2.2.2.2 (P.out.2.1.trans P.out.1.symm) L.out.2 L.out.1 hr.out.symm h2))
          have hq2 : decide ((d2 : Int) < (d1 : Int)) = true := by simpa using h2
          clear hr; gi_wp2; refine wpIn_region_all [] [0,1,2,3,4,5,6,7,8] (by kernel_rfl) (by kernel_rfl) ?_
          repeat ((first | refine ord_rd ?_ | refine ord_sk ?_ | refine ord_cs ?_))
          refine ord_nil ?_; refine lit ?_; gi_wp2; refine wpIn_region_all [] [0,1,2,3,4,5,6,7,8] (by kernel_rfl) (by kernel_rfl) ?_
          repeat ((first | refine ord_rd ?_ | refine ord_sk ?_ | refine ord_cs ?_))
          refine ord_nil ?_; refine lit ?_; gi_wp2; go_ret; exact ⟨ret_int (HE.out.symm.trans HZ.out), hb.drew.drew⟩
        · have hq2 : decide ((d2 : Int) < (d1 : Int)) = false := by simpa using h2
          have hdd : d1 = d2 := by omega
          have hr3 : a.drop j = b.drop j := by
           rw [drop_cons L.out.1, drop_cons L.out.2, hr.out, hdd]
          have HR3 := Hd hr3; clear hr3 hr hdd; gi_wp2; refine wpIn_region_all [] [0,1,2,3,4,5,6,7,8] (by kernel_rfl) (by kernel_rfl) ?_
          repeat ((first | refine ord_rd ?_ | refine ord_sk ?_ | refine ord_cs ?_))
          refine ord_nil ?_; refine lit ?_; gi_wp2; refine wpIn_region_all [] [0,1,2,3,4,5,6,7,8] (by kernel_rfl) (by kernel_rfl) ?_
          repeat ((first | refine ord_rd ?_ | refine ord_sk ?_ | refine ord_cs ?_))
          refine ord_nil ?_; refine lit ?_; gi_wp2
          go_roundw
          case rel => exact ⟨j, by omega, by go_num, HR3.out, hb.drew.drew⟩
          case measure => simp [intOf]
 · by_cases hlt : n < m
   · have HE := Hd (cmpZ_lt (show x < y by rw [← v1, ← v2]; exact val_lt_len g1 t2 (by omega)))
     clear v1 v2 g1 g2 t1 t2 l1 l2; refine ent Tryz.func102 rfl Tryz.ntmps102 ?_; gi_wp2; go_ret; exact ⟨ret_int (HE.out.symm.trans HZ.out), Below.refl _ _⟩
   · have HE := Hd (cmpZ_gt (show y < x by rw [← v1, ← v2]; exact val_lt_len g2 t1 (by omega)))
     clear v1 v2 g1 g2 t1 t2 l1 l2; refine ent Tryz.func102 rfl Tryz.ntmps102 ?_; gi_wp2; go_ret; exact ⟨ret_int (HE.out.symm.trans HZ.out), Below.refl _ _⟩
end
section
open Go.RowKit Go.Shelf
attribute [local go_sem] Oper.semAt_some
def backL (l : List Nat) (k : Nat) : List (Array Value) := ((List.range k).reverse).map (fun i => #[.int .i64 ((i : Nat) : Int), .int .i64 (digAt l i : Int)])
theorem backL_succ (l : List Nat) (k : Nat) : backL l (k + 1) = #[.int .i64 ((k : Nat) : Int), .int .i64 (digAt l k : Int)] :: backL l k := by
 unfold backL
 rw [List.range_succ, List.reverse_append]
 rfl
theorem backL_zero (l : List Nat) : backL l 0 = [] := rfl
theorem backL_pre (l : List Nat) : ∀ (n k : Nat), k ≤ n → ∃ pre, backL l n = pre ++ backL l k
 | 0, k, h => by
   have : k = 0 := Nat.le_zero.1 h; subst this; exact ⟨[], rfl⟩
 | n + 1, k, h => by
   rcases Nat.lt_or_ge n k with g | g
   · obtain rfl : k = n + 1 := by omega
     exact ⟨[], rfl⟩
   · obtain ⟨pre, hp⟩ := backL_pre l n k g
     exact ⟨#[.int .i64 ((n : Nat) : Int), .int .i64 (digAt l n : Int)] :: pre, by rw [backL_succ, hp]; rfl⟩
set_option maxHeartbeats 1000000 in
theorem back_yields {w0 : World} {M N : List Nat} {A : Option Addr} {n c b1 : Nat} {l : List Nat} (h1 : w0.cell? ⟨b1, 0, none⟩ = some (.slice A n c)) (m1 : b1 ∉ M)
 (hx : Sl Int w0 M A n c (ints l)) (hg : Good l) :
 Yields Wd Tryz.prog 142 #[.pointer (some ⟨b1, 0, none⟩)] w0 M (backL l n) := by
 intro lp J Jx Jp W hkW hJ hJx hJ0 hround
 have hs := hx.small
 have HX := Hd hx
 have HG := Hd hg
 have HR := Hd hround
 have HJ0 := Hd (hJ0 W.heap.size (Nat.le_refl _))
 have e1 := hkW.cell m1 h1
 clear hx hg hround hJ0 h1
 simp only [List.append_toArray, List.cons_append, List.nil_append]
 refine ent Tryz.func142 rfl Tryz.ntmps142 ?_
 gi_wp2
 gi_loopw [3] (fun i wr => ∃ k : Nat, k ≤ n ∧ i = .int .i64 ((k : Int) - 1) ∧ Hid (J W.heap.size (backL l k) wr) ∧ Hid (KeepsTo W.heap.size M W wr)) (fun i _ => (intOf i + 1).toNat)
 case atStart => exact ⟨n, Nat.le_refl _, by go_num, HJ0.out, KeepsTo.refl _ _ _⟩
 case round =>
  obtain ⟨k, hk, rfl, hj, hkt⟩ := hrel
  rcases Nat.eq_zero_or_pos k with rfl | hpos
  · have hj2 := hj.out
    rw [backL_zero] at hj2; have HJ2 := Hd hj2; clear hj2; gi_wp2
    go_end0
    exact .inl ⟨⟨_, rfl⟩, .inl ⟨_, Nat.le_refl _, HJ2.out⟩⟩
  · obtain ⟨j, rfl⟩ : ∃ j, k = j + 1 := ⟨k - 1, by omega⟩
    have ej : ((j + 1 : Nat) : Int) - 1 = (j : Int) := by omega
    rw [ej]
    have hjn : j < n := by omega
    have hkw := hkW.andTo hkt.out hkW.size; obtain ⟨b, o, d, rfl, hcell, hd, hld, hdd⟩ := (HX.out.keep hkw).digd HG.out hjn
    have e2 := (hkt.out.cellTo (World.block_lt_of_cell? W _ e1) m1 e1)
    have hj2 := hj.out; rw [backL_succ, hdd] at hj2
    have hpre : ∃ pre, backL l n = pre ++ #[.int .i64 ((j : Nat) : Int), .int .i64 (d : Int)] :: backL l j := by
     obtain ⟨pre, hp⟩ := backL_pre l n (j + 1) hk; rw [backL_succ, hdd] at hp; exact ⟨pre, hp⟩
    obtain ⟨fn, tmps, assign, body, hy, hR⟩ := HR.out W.heap.size _ _ wr hpre (Nat.le_refl _) hkt.out.size hkt.out hj2; have HRR := Hd hR; clear hR hj2 hpre hkw hld hdd ej
    gi_wp2_with (refine HRR.out.mono ?_; rintro e W3 (⟨rfl, hJ3, hk3⟩ | ⟨rfl, hx3⟩ | ⟨ch, rfl, hp3⟩))
    · go_roundw
      case rel => exact ⟨j, by omega, by go_num, hJ3, hkt.out.trans hk3⟩
      case measure => simp [intOf]
    · refine bodyPost_ret (results_none rfl _ _ _) rfl ?_
      exact .inl ⟨⟨_, rfl⟩, .inr hx3⟩
    · exact ⟨rfl, .inr ⟨ch, rfl, hp3⟩⟩
set_option maxHeartbeats 400000 in
theorem backward_any (A : Option Addr) (n c : Nat) (w : World) :
 Calls Tryz.prog 133 #[.slice A n c] w fun e w' =>
  e = .returned (.func (.func 142) #[] #[.pointer (some ⟨w.heap.size, 0, none⟩)]) ∧ w.alloc (.cells #[.slice A n c] 124) = w' := by
 go_enter Tryz.func133, Tryz.ntmps133
 go_wp2
 go_ret
 exact ⟨rfl, rfl⟩
theorem down_any (A : Option Addr) (n c : Nat) (w : World) :
 Calls Tryz.prog 119 #[.slice A n c] w fun e w' =>
  e = .returned (.func (.func 142) #[] #[.pointer (some ⟨w.heap.size, 0, none⟩)]) ∧ w.alloc (.cells #[.slice A n c] 124) = w' := by
 refine wid ?_
 refine ent Tryz.func119 rfl Tryz.ntmps119 ?_
 gi_wp2_with (refine Cl 133 (backward_any A n c _) ?_; rintro e w1 ⟨rfl, rfl⟩)
 go_ret
 exact ⟨rfl, rfl⟩
theorem backL_size {l : List Nat} {k : Nat} {x : Array Value} (h : x ∈ backL l k) : x.size = 2 := by
 unfold backL at h
 obtain ⟨i, -, rfl⟩ := List.mem_map.1 h
 rfl
theorem backL_nil {l : List Nat} {k : Nat} (h : [] = backL l k) : k = 0 := by
 cases k with
 | zero => rfl
 | succ k => rw [backL_succ] at h; cases h
set_option maxHeartbeats 1000000 in
theorem compare_any (A B : Option Addr) (n c m d : Nat) (x y : Nat) (w : World) {M N : List Nat} (hx : Sl Int w M A n c (ints (dig x))) (hy : Sl Int w N B m d (ints (dig y))) :
 Calls Tryz.prog 98 #[.slice A n c, .slice B m d] w fun e w' => e = .returned (.int .i64 (cmpZ x y)) ∧ Below w.heap.size w w' := by
 refine wid ?_
 have H := Hd (hx.less (M' := []) (by simp))
 have G := Hd (hy.less (M' := []) (by simp))
 have hs := hx.small
 have hs2 := hy.small
 have l1 := hx.dlen
 have l2 := hy.dlen
 have v1 := val_dig x
 have v2 := val_dig y
 have g1 := good_dig x
 have g2 := good_dig y
 have t1 := topped_dig x
 have t2 := topped_dig y
 generalize hz : cmpZ x y = z
 have HZ := Hd hz
 clear hx hy hz
 by_cases hnm : n = m
 · subst hnm
   generalize dig x = a at *; generalize dig y = b at *; have P := Hd6 l1 l2 v1 v2 g1 g2; clear v1 v2 g1 g2 t1 t2 l1 l2; refine entm Tryz.func98 rfl Tryz.ntmps98 ?_
   gi_wp2_with (refine Cl 119 (down_any A n c _) ?_; rintro e w1 ⟨rfl, hw1⟩; have HW1 := Hd hw1; clear hw1)
   have hw := HW1.out
   have b1 : Below w.heap.size w w1 := by rw [← hw]; exact (((Below.refl w.heap.size w).alloc (Nat.le_refl _) _).alloc (by simp) _).alloc (by simp; omega) _
   have s1 : w1.heap.size = w.heap.size + 3 := by rw [← hw]; simp
   have c0 : w1.cell? ⟨w.heap.size, 0, none⟩ = some (.slice B n d) := by rw [← hw]; simp [go_sem]
   have c1 : w1.cell? ⟨w.heap.size + 1, 0, none⟩ = some (.int .i64 0) := by rw [← hw]; simp [go_sem]
   have f1 : w1.frozen? ⟨w.heap.size + 1, 0, none⟩ = false := by rw [← hw]; simp [go_sem]
   have c2 : w1.cell? ⟨w.heap.size + 1 + 1, 0, none⟩ = some (.slice A n c) := by rw [← hw]; simp [go_sem]
   clear hw HW1
   refine wp_rangeFunc (M := [w.heap.size + 1]) (w0 := w1) rfl rfl trivial (enters_of Tryz.func142 (by kernel_rfl) rfl)
    (back_yields (b1 := w.heap.size + 1 + 1) (N := []) (l := a) c2 (by simp) ((H.out.more (b := w.heap.size + 1) (by omega)).keep (Keeps.of_below b1 _)) P.out.2.2.2.2.1) (Keeps.refl _ _) ?hM ?hps
    (fun _ rest W => ((∃ k : Nat, k ≤ n ∧ rest = backL a k ∧ a.drop k = b.drop k) ∧ Below w.heap.size w W) ∧ W.cell? ⟨w.heap.size, 0, none⟩ = some (.slice B n d) ∧ W.cell? ⟨w.heap.size + 1, 0, none⟩ = some (.int .i64 0) ∧ W.frozen? ⟨w.heap.size + 1, 0, none⟩ = false)
    (fun j W => ((j = .ret) ∧ Below w.heap.size w W) ∧ W.cell? ⟨w.heap.size + 1, 0, none⟩ = some (.int .i64 z) ∧ W.frozen? ⟨w.heap.size + 1, 0, none⟩ = false)
    (fun _ _ => ((stab_pure _ _).and (stab_below (Nat.le_refl _) (by omega))).and ((stab_cell _ _ _).and (stab_free _ _ _)))
    (fun _ => ((stab_pure _ _).and (stab_below (Nat.le_refl _) (by omega))).and (stab_free _ _ _))
    (fun _ _ => ⟨⟨⟨n, Nat.le_refl _, rfl, by rw [List.drop_of_length_le (by rw [P.out.1]; exact Nat.le_refl _), List.drop_of_length_le (by rw [P.out.2.1]; exact Nat.le_refl _)]⟩, b1⟩, c0, c1, f1⟩) ?round ?done ?stop
   case hM =>
    intro q hq
    have : q = w.heap.size + 1 := by simpa using hq
    omega
   case hps => intro q hq; exact backL_size hq
   case round =>
    rintro l s q rest W - hl hls hsW hrec hkW ⟨⟨⟨k, hk, hrest, hdr⟩, hbW⟩, hc0, hc1, hf1⟩
    obtain ⟨j, rfl⟩ : ∃ j, k = j + 1 := ⟨k - 1, by
     rcases Nat.eq_zero_or_pos k with rfl | h
     · cases hrest
     · omega⟩
    rw [backL_succ] at hrest
    injection hrest with hq hr'
    subst hq
    have hjn : j < n := by omega
    obtain ⟨d1, hl1⟩ : ∃ d1, a[j]? = some d1 := ⟨_, List.getElem?_eq_getElem (by rw [P.out.1]; exact hjn)⟩
    have hd1 : d1 ≤ 1073741823 := BB_le (P.out.2.2.2.2.1 d1 (List.mem_of_getElem? hl1))
    have hda : digAt a j = d1 := by simp [digAt, List.getD, hl1]
    obtain ⟨b2, o2, d2, rfl, hc2, hd2, hl2, -⟩ := (G.out.keep (Keeps.of_below hbW [])).digd P.out.2.2.2.2.2 hjn; rw [hda]; have L := Hd4 hl1 hl2 hr' hdr; clear hl1 hl2 hr' hdr hda; gi_wp2; refine ⟨KeepsTo.refl _ _ _, fun W'' => (W''.cell? ⟨w.heap.size, 0, none⟩ = some (.slice (some ⟨b2, o2, none⟩) n d) ∧ W''.cell? ⟨b2, o2 + j, none⟩ = some (.int .i64 (d2 : Int)) ∧ W''.cell? ⟨w.heap.size + 1, 0, none⟩ = some (.int .i64 0) ∧ W''.frozen? ⟨w.heap.size + 1, 0, none⟩ = false) ∧ Below w.heap.size w W'', ?_, ?_, ?_⟩
    · exact ((stab_cell _ _ _).and ((stab_cell _ _ _).and (stab_free _ _ _))).and (stab_below (Nat.le_refl _) (by omega))
    · exact ⟨⟨hc0, hc2, hc1, hf1⟩, hbW⟩
    · rintro W'' hxl hsz'' ⟨⟨x0, x1, x2, x3⟩, hbW2⟩
      have HSZ := Hd hsz''; clear hxl hsz'' hc0 hc1 hf1 hc2
      by_cases h1 : d1 < d2
      · have HE := Hd (cmpZ_lt (show x < y by rw [← P.out.2.2.1, ← P.out.2.2.2.1]; exact val_lt_at P.out.2.2.2.2.1 (P.out.1.trans P.out.2.1.symm) L.out.1 L.out.2.1 L.out.2.2.2 h1))
        have hq1 : decide ((d1 : Int) < (d2 : Int)) = true := by simpa using h1
        gi_wp2; refine ⟨((Keeps.refl [w.heap.size + 1] W'').setCell (p := ⟨w.heap.size + 1, 0, none⟩) (.inl (by simp)) _).to (by rw [HSZ.out]; omega), ⟨rfl, hbW2.setCell (p := ⟨w.heap.size + 1, 0, none⟩) (by simp) _⟩, ?_, by simp [x3]⟩; rw [← HZ.out, HE.out]; exact cell_same x2
      · have hq1 : decide ((d1 : Int) < (d2 : Int)) = false := by simpa using h1
        by_cases h2 : d2 < d1
        · have HE := Hd (cmpZ_gt (show y < x by rw [← P.out.2.2.1, ← P.out.2.2.2.1]; exact val_lt_at P.out.2.2.2.2.2 (P.out.2.1.trans P.out.1.symm) L.out.2.1 L.out.1 L.out.2.2.2.symm h2))
          have hq2 : decide ((d2 : Int) < (d1 : Int)) = true := by simpa using h2
          gi_wp2; refine ⟨((Keeps.refl [w.heap.size + 1] W'').setCell (p := ⟨w.heap.size + 1, 0, none⟩) (.inl (by simp)) _).to (by rw [HSZ.out]; omega), ⟨rfl, hbW2.setCell (p := ⟨w.heap.size + 1, 0, none⟩) (by simp) _⟩, ?_, by simp [x3]⟩; rw [← HZ.out, HE.out]; exact cell_same x2
        · have hq2 : decide ((d2 : Int) < (d1 : Int)) = false := by simpa using h2
          have hdd : d1 = d2 := by omega
          have hr3 : a.drop j = b.drop j := by
           rw [drop_cons L.out.1, drop_cons L.out.2.1, L.out.2.2.2, hdd]
          have HR3 := Hd hr3; clear hr3 hdd; gi_wp2; exact ⟨KeepsTo.refl _ _ _, ⟨⟨j, by omega, L.out.2.2.1, HR3.out⟩, hbW2⟩, x0, x2, x3⟩
   case done =>
    rintro D s W hD hDs ⟨⟨⟨k, hk, hrest, hdr⟩, hbW⟩, hc0, hc1, hf1⟩ hdef
    obtain rfl := backL_nil hrest
    rw [List.drop_zero, List.drop_zero] at hdr; have HE := Hd (cmpZ_eq (show x = y by rw [← P.out.2.2.1, ← P.out.2.2.2.1, hdr])); clear hrest hdr; gi_wp2; refine ⟨by simp, .inl ⟨_, _, rfl, run_takeDeferred (set_deferred hdef), ?_⟩⟩; refine ⟨.int .i64 0, by simp [results, go_sem, mark_cell (cell_same hc1) (set_deferred hdef)], ret_int ?_, mark_below (hbW.setCell (p := ⟨w.heap.size + 1, 0, none⟩) (by simp) _) (by omega) (Nat.le_refl _)⟩; exact HE.out.symm.trans HZ.out
   case stop =>
    rintro D j W hD ⟨⟨rfl, hbW⟩, hc1, hf1⟩ hdef; gi_wp2; refine ⟨by simp, .inl ⟨_, _, rfl, run_takeDeferred (by assumption), ?_⟩⟩; exact ⟨.int .i64 z, by simp [results, go_sem, mark_cell hc1 hdef], rfl, mark_below hbW (by omega) (Nat.le_refl _)⟩
 · by_cases hlt : n < m
   · have HE := Hd (cmpZ_lt (show x < y by rw [← v1, ← v2]; exact val_lt_len g1 t2 (by omega)))
     clear v1 v2 g1 g2 t1 t2 l1 l2
     have k0 : IntKind.i64.wrap ((n : Int) - (m : Int)) = (n : Int) - (m : Int) := by rw [IntKind.wrap_i64]; omega
     refine entm Tryz.func98 rfl Tryz.ntmps98 ?_; gi_wp2; exact ⟨_, by simp [results, go_sem], ret_int (HE.out.symm.trans HZ.out), by exact bel⟩
   · have HE := Hd (cmpZ_gt (show y < x by rw [← v1, ← v2]; exact val_lt_len g2 t1 (by omega)))
     clear v1 v2 g1 g2 t1 t2 l1 l2
     have k0 : IntKind.i64.wrap ((n : Int) - (m : Int)) = (n : Int) - (m : Int) := by rw [IntKind.wrap_i64]; omega
     refine entm Tryz.func98 rfl Tryz.ntmps98 ?_; gi_wp2; exact ⟨_, by simp [results, go_sem], ret_int (HE.out.symm.trans HZ.out), by exact bel⟩
end
section
open Go.RowKit Go.Shelf
attribute [local go_sem] Oper.semAt_some
theorem and_mask (n : Int) : bits .and .i64 n 1073741823 = n % (BB : Int) := by
 have hm : (BitVec.ofInt 64 1073741823).toNat = 2 ^ 30 - 1 := by decide
 have key : (BitVec.ofInt 64 n &&& BitVec.ofInt 64 1073741823).toNat = (n % ((2 ^ 64 : Nat) : Int)).toNat % 2 ^ 30 := by
  rw [BitVec.toNat_and, BitVec.toNat_ofInt, hm, Nat.and_two_pow_sub_one_eq_mod]
 show IntKind.i64.wrap ((BitVec.ofInt 64 n &&& BitVec.ofInt 64 1073741823).toNat : Nat) = n % 1073741824
 rw [key, IntKind.wrap_i64]
 omega
theorem BBi : (1073741824 : Int) = (BB : Int) := rfl
theorem set_at {ms : List Nat} {k n : Nat} (hk : ms.length = k) (hn : k < n) (m : Nat) : (ms ++ List.replicate (n - k) 0).set k m = (ms ++ [m]) ++ List.replicate (n - (k + 1)) 0 := by
 subst hk
 rw [List.set_append_right _ _ (Nat.le_refl _), Nat.sub_self]
 obtain ⟨j, hj⟩ : ∃ j, n - ms.length = j + 1 := ⟨n - ms.length - 1, by omega⟩
 rw [hj, List.replicate_succ, List.set_cons_zero, show n - (ms.length + 1) = j by omega]
 simp
theorem carry_snoc {F : List Int} {k : Nat} {x o : Int} (hx : F[k]? = some x) : carryM (F.drop k) o = (((x + o) % (BB : Int)).toNat :: (carryM (F.drop (k + 1)) ((x + o) / (BB : Int))).1, (carryM (F.drop (k + 1)) ((x + o) / (BB : Int))).2) := by
 have hk : k < F.length := (List.getElem?_eq_some_iff.1 hx).1
 have : F.drop k = x :: F.drop (k + 1) := by rw [List.drop_eq_getElem_cons hk]; congr 1; exact (List.getElem?_eq_some_iff.1 hx).2
 rw [this, carryM]
def CarI (F : List Int) (k : Nat) (ms : List Nat) (o : Int) : Prop := carryM F 0 = (ms ++ (carryM (F.drop k) o).1, (carryM (F.drop k) o).2) ∧ ms.length = k ∧ Good ms
theorem CarI.start (F : List Int) : CarI F 0 [] 0 := ⟨rfl, rfl, good_nil⟩
theorem CarI.step {F : List Int} {k : Nat} {ms : List Nat} {o x : Int} (h : CarI F k ms o) (hx : F[k]? = some x) : CarI F (k + 1) (ms ++ [((x + o) % (BB : Int)).toNat]) ((x + o) / (BB : Int)) := by
 obtain ⟨h1, h2, h3⟩ := h
 refine ⟨?_, by simp [h2], ?_⟩
 · rw [h1, carry_snoc hx]; simp
 · have a := Int.emod_nonneg (x + o) (show (BB : Int) ≠ 0 by decide)
   have b := Int.emod_lt_of_pos (x + o) BBi_pos; exact good_snoc h3 (by omega)
theorem CarI.done {F : List Int} {ms : List Nat} {o : Int} (h : CarI F F.length ms o) : (carryM F 0).1 = ms := by
 obtain ⟨h1, -, -⟩ := h
 rw [h1, List.drop_length]
 simp [carryM]
set_option maxHeartbeats 1000000 in
theorem carried_any {f : Nat → Int} {g : Nat} {caps : Array Value} (n : Nat) (hn : n ≤ 100000) (w : World) (eg : ∀ args w, (callFunc g args).run Tryz.prog w = .ok (.enter g args) w)
 (hf : ∀ i, i < n → -4611686018427387904 ≤ f i ∧ f i ≤ 4611686018427387904)
 (hs : ∀ W (i : Nat), i < n → Below w.heap.size w W → Calls Tryz.prog g (#[.int .i64 (i : Int)] ++ caps) W (fun e W' => e = .returned (.int .i64 (f i)) ∧ Below W.heap.size W W')) :
 Calls Tryz.prog 144 #[.int .i64 (n : Int), .func (.func g) #[] caps] w fun e w' => ∃ b k, e = .returned (.slice (some ⟨b, 0, none⟩) k n) ∧ Row w' b (ints (carryM ((List.range n).map f) 0).1) ∧ w.heap.size ≤ b ∧ k ≤ n ∧
  (carryM ((List.range n).map f) 0).1.take k = dig (val (carryM ((List.range n).map f) 0).1) ∧ Below w.heap.size w w' := by
 refine wid ?_
 have HF := Hd hf
 have HS := Hd hs
 have hmk := mk_ints (t := 124) Tryz.underlying124 n (by omega)
 obtain ⟨F, hF⟩ : ∃ F, (List.range n).map f = F := ⟨_, rfl⟩
 have hFl : F.length = n := by rw [← hF]; simp
 have hFx : ∀ i, i < n → F[i]? = some (f i) := fun i hi => by rw [← hF]; simp [hi]
 have HFX := Hd hFx
 rw [hF]
 clear hf hs hF hFx
 obtain ⟨W1, hW1⟩ : ∃ W1 : World, w.alloc (.cells ((List.replicate n (0 : Int)).map (Value.int .i64)).toArray 3) = W1 := ⟨_, rfl⟩
 replace hmk := hmk w
 rw [hW1] at hmk
 have r1 : Row W1 w.heap.size (ints (List.replicate n 0)) := by rw [← hW1, ← ints_zeros]; exact Row.new n w
 have b1 : Below w.heap.size w W1 := by rw [← hW1]; exact bel
 have R1 := Hd r1
 have B1 := Hd b1
 clear r1 b1 hW1
 refine ent Tryz.func144 rfl Tryz.ntmps144 ?_
 gi_wp2
 gi_loopw [6, 13] (fun o i wr => ∃ (k : Nat) (ms : List Nat) (oo : Int), k ≤ n ∧ o = .int .i64 oo ∧ i = .int .i64 k ∧ -8589934592 ≤ oo ∧ oo ≤ 8589934592 ∧ Hid (CarI F k ms oo) ∧ Hid (Row wr w.heap.size (ints (ms ++ List.replicate (n - k) 0))) ∧ Below w.heap.size w wr) (fun _ i _ => n - (intOf i).toNat)
 case atStart => exact ⟨0, [], 0, Nat.zero_le _, rfl, rfl, by omega, by omega, CarI.start F, by simpa using R1, B1.out⟩
 case round =>
  obtain ⟨k, ms, oo, hk, rfl, rfl, ho1, ho2, hc, hr, hb⟩ := hrel
  by_cases hlt : k < n
  · have hfk := HF.out k hlt
    generalize hfe : f k = x at *; have HFE := Hd hfe
    have hk0 : (ints (ms ++ List.replicate (n - k) 0))[k]? = some 0 := by
     have : (ms ++ List.replicate (n - k) 0)[k]? = some 0 := by
      rw [List.getElem?_append_right (by rw [hc.out.2.1]; exact Nat.le_refl _), hc.out.2.1, Nat.sub_self]
      obtain ⟨j, hj⟩ : ∃ j, n - k = j + 1 := ⟨n - k - 1, by omega⟩
      rw [hj]; rfl
     show ((ms ++ List.replicate (n - k) 0).map _)[k]? = _
     rw [List.getElem?_map, this]; rfl
    have HK0 := Hd hk0
    have k0 : IntKind.i64.wrap (x + oo) = x + oo := by rw [IntKind.wrap_i64]; omega
    have k1 := and_mask (x + oo); clear hk0 hfe
    gi_wp2_with (refine ⟨trivial, ?_⟩; refine Cn (HS.out wr k hlt hb) ?_; rintro e w1 ⟨rfl, hb1⟩; have hr1 := hr.out.go hb1 hr.out.lt; have e1 := hr1.cell HK0.out; have e2 := hr1.free k; have HR1 := Hd hr1; have HB1 := Hd (hb.trans (hb1.mono hb.size)); clear hr1 hb1; rw [HFE.out])
    have hm0 := Int.emod_nonneg (x + oo) (show (BB : Int) ≠ 0 by decide); have hst := hc.out.step (HFX.out k hlt); rw [HFE.out] at hst; have hrow := HR1.out.put k (((x + oo) % (BB : Int)).toNat : Int); rw [ints_set, set_at hc.out.2.1 hlt, Int.toNat_of_nonneg hm0] at hrow; refine ⟨⟨k + 1, ms ++ [((x + oo) % (BB : Int)).toNat], (x + oo) / 1073741824, by omega, rfl, by go_num, by omega, by omega, hst, hrow, HB1.out.setCell (p := ⟨w.heap.size, k, none⟩) (Nat.le_refl _) _⟩, by simp [intOf]; omega⟩
  · have hkn : k = n := by omega
    subst hkn; have hdn := hc.out; rw [← hFl] at hdn; have hfin := CarI.done hdn; rw [Nat.sub_self, List.replicate_zero, List.append_nil, ← hfin] at hr; have hgd := (carry_good F 0).1; have hln := (carry_good F 0).2; rw [hFl] at hln
    obtain ⟨L, hL⟩ : ∃ L, (carryM F 0).1 = L := ⟨_, rfl⟩
    rw [hL] at hr hgd hln; have HL := Hd hL; clear hL; have hsl : Sl Int wr [] (some ⟨w.heap.size, 0, none⟩) k k (ints L) := hr.out.sl (by simp) (by simp [ints, hln]) (by omega) (ints_i64 hgd); have HG := Hd2 hsl hgd; have hsz := hb.size; clear hsl hgd hdn hfin hc
    gi_wp2_with (refine Cl 125 (trimN_any _ _ _ L _ HG.out.1 HG.out.2) ?_; rintro e w2 ⟨q, rfl, hq, ht, hb2⟩; have HT := Hd3 ht hq hb2; clear ht hq hb2)
    go_ret; rw [HL.out]; exact ⟨w.heap.size, q, rfl, hr.out.go HT.out.2.2 hr.out.lt, Nat.le_refl _, HT.out.2.1, HT.out.1, hb.trans (HT.out.2.2.mono hsz)⟩
end
end Go.Proofs.YtboapndkopabiaaGreat
