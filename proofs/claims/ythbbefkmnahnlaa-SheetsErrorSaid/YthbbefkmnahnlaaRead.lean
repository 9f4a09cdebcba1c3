/- sheets.Read: what it computes. No statement is proved here. -/
import Derived.Test.YthbbefkmnahnlaaChk
import Derived.Test.YthbbefkmnahnlaaMapI
import Derived.Test.YthbbefkmnahnlaaApp
namespace Go.Proofs.Ythbbefkmnahnlaa
open Go.RowKit Go.Shelf
attribute [local go_sem] Oper.semAt_some

theorem check_any {M M2 : List Nat} (A : Option Addr) (n cp : Nat) (c : List Crit) (no rd en ju : Int) (B : Option Addr) (m d : Nat) (bs : List (List Int)) (w : World) (hx : Sl Crit w M A n cp c) (hy : Sl (List Int) w M2 B m d bs) :
    Calls Try.prog 18 #[.slice A n cp, .agg #[.int .i64 no, .int .i64 rd, .int .i64 en, .int .i64 ju, .slice B m d]] w fun e w' =>
      e = .returned (.int .i64 (checkM c ⟨no, rd, en, ju, bs⟩)) ∧ Below w.heap.size w w' := by
  have hl := hx.len
  have hs := hx.small
  by_cases h : 64 < n
  · have : checkM c ⟨no, rd, en, ju, bs⟩ = 2 := by simp [checkM, errM, hl, h]
    rw [this]; exact check_long A n cp no rd en ju B m d w h hs
  · cases ha : c.all rightB
    · have : checkM c ⟨no, rd, en, ju, bs⟩ = 150 := by simp [checkM, errM, hl, h, ha]
      rw [this]; exact check_wrong A n cp c no rd en ju B m d w hx (by omega) ha
    · have : checkM c ⟨no, rd, en, ju, bs⟩ = if headOk n ⟨no, rd, en, ju, bs⟩ && boxesOk c bs then 0 else 540 := by simp [checkM, errM, hl, h, ha]
      rw [this]; exact check_main A n cp c no rd en ju B m d bs w hx hy (by omega) ha

def lastM : List Int → Nat → Nat → Nat
  | [], _, acc => acc
  | b :: r, i, acc => lastM r (i + 1) (if b = 1 then i else acc)
def oneM (c : Crit) (bx : List Int) : Int × Int :=
  let n := classM (bx.count 2) (bx.count 1)
  (if n = 0 then c.lo + (lastM bx 0 0 : Nat) * c.st else -1, n)
def marksM (c : List Crit) (bs : List (List Int)) : List Int := List.zipWith (fun c b => (oneM c b).1) c bs
def classesM (c : List Crit) (bs : List (List Int)) : List Int := List.zipWith (fun c b => (oneM c b).2) c bs
def readM (c : List Crit) (s : Sheet) : List Int × List Int × Int := if checkM c s = 0 then (marksM c s.boxes, classesM c s.boxes, 0) else ([], [], checkM c s)

/-- The result of Read, as it lies in memory: new blocks. -/
def ReadR (w : World) (r : List Int × List Int × Int) (e : Ending) (w' : World) : Prop :=
  ∃ A n c A' n' c', e = .returned (.tuple #[.slice A n c, .slice A' n' c', .int .i64 r.2.2]) ∧ (∀ M : List Nat, (∀ k, k ∈ M → k < w.heap.size) → Sl Int w' M A n c r.1 ∧ Sl Int w' M A' n' c' r.2.1) ∧ Below w.heap.size w w'

theorem Sl.nil_ {w : World} {M : List Nat} : Sl Int w M none 0 0 [] := ⟨rfl, Nat.le_refl _, by simp [capOk], by omega, .inl rfl⟩

set_option maxHeartbeats 1000000 in
theorem read_err {M M2 : List Nat} (A : Option Addr) (n cp : Nat) (c : List Crit) (no rd en ju : Int) (B : Option Addr) (m d : Nat) (bs : List (List Int)) (w : World) (hx : Sl Crit w M A n cp c) (hy : Sl (List Int) w M2 B m d bs)
    (he : checkM c ⟨no, rd, en, ju, bs⟩ ≠ 0) :
    Calls Try.prog 10 #[.slice A n cp, .agg #[.int .i64 no, .int .i64 rd, .int .i64 en, .int .i64 ju, .slice B m d]] w (ReadR w (readM c ⟨no, rd, en, ju, bs⟩)) := by
  refine (callsIn_wide (n := 10)).1 ?_
  have H := Lib.hid hx
  have G := Lib.hid hy
  have hr : readM c ⟨no, rd, en, ju, bs⟩ = ([], [], checkM c ⟨no, rd, en, ju, bs⟩) := by simp [readM, he]
  rw [hr]
  generalize hq : checkM c ⟨no, rd, en, ju, bs⟩ = q at *
  have HQ := Lib.hid hq
  have hq1 : (q != 0) = true := by simpa using he
  clear hx hy hr he hq
  refine callsIn_of_wp_marks Try.func10 rfl trivial ?_ rfl; simp only [Try.ntmps10, List.size_toArray, List.length_cons, List.length_nil, Nat.reduceAdd, Nat.reduceSub, Array.replicate_succ, Array.replicate_zero, List.push_toArray, List.append_toArray, List.nil_append, List.cons_append]
  gi_wp2_with (refine ⟨trivial, ?_⟩; gi_at_call 18; refine (callsIn_wide.2 (check_any A n cp c no rd en ju B m d bs _ ((((H.out.less (M' := []) (by simp)).keep ((Keeps.refl _ _).alloc _)).keep ((Keeps.refl _ _).alloc _)).keep ((Keeps.refl _ _).alloc _)) ((((G.out.less (M' := []) (by simp)).keep ((Keeps.refl _ _).alloc _)).keep ((Keeps.refl _ _).alloc _)).keep ((Keeps.refl _ _).alloc _)))).mono ?_; rintro e w1 ⟨rfl, hb1⟩; rw [HQ.out]; have c1 : w1.cell? ⟨w.heap.size + 1, 0, none⟩ = some (.slice none 0 0) := (hb1.cell (p := ⟨w.heap.size + 1, 0, none⟩) (by simp)).trans (by simp [go_sem]); have c2 : w1.cell? ⟨w.heap.size + 1 + 1, 0, none⟩ = some (.slice none 0 0) := (hb1.cell (p := ⟨w.heap.size + 1 + 1, 0, none⟩) (by simp)).trans (by simp [go_sem]); have f1 : w1.frozen? ⟨w.heap.size + 1, 0, none⟩ = false := (hb1.frozen (p := ⟨w.heap.size + 1, 0, none⟩) (by simp)).trans (by simp [go_sem]); have f2 : w1.frozen? ⟨w.heap.size + 1 + 1, 0, none⟩ = false := (hb1.frozen (p := ⟨w.heap.size + 1 + 1, 0, none⟩) (by simp)).trans (by simp [go_sem]); have hbb := Lib.hid ((((Below.refl w.heap.size w).alloc (Nat.le_refl _) _).alloc (by simp) _).alloc (by simp; omega) _ |>.trans (hb1.mono (by simp; omega))))
  refine ⟨.tuple #[.slice none 0 0, .slice none 0 0, .int .i64 q], by simp [results, go_sem, c1, c2], ?_⟩
  refine ⟨none, 0, 0, none, 0, 0, rfl, fun M _ => ⟨Sl.nil_, Sl.nil_⟩, (hbb.out.setCell (p := ⟨w.heap.size + 1, 0, none⟩) (by simp) _).setCell (p := ⟨w.heap.size + 1 + 1, 0, none⟩) (by simp; omega) _⟩

/-- Two variables in boxes S+1, S+2 that hold u1, u2; two rows of the call's own v1, v2 that read as l1, l2. -/
def RInv (w : World) (S s : Nat) (u1 u2 v1 v2 : Value) (l1 l2 : List Int) (W : World) : Prop :=
  ((W.cell? ⟨S + 1, 0, none⟩ = some u1 ∧ W.frozen? ⟨S + 1, 0, none⟩ = false) ∧ (W.cell? ⟨S + 1 + 1, 0, none⟩ = some u2 ∧ W.frozen? ⟨S + 1 + 1, 0, none⟩ = false)) ∧
  (W.ownsRow s 3 1 v1 l1.length (l1.map (Value.int .i64)) ∧ W.ownsRow s 3 1 v2 l2.length (l2.map (Value.int .i64))) ∧ Below S w W

section
variable {w W W' : World} {S s : Nat} {u1 u2 v1 v2 u : Value} {l1 l2 : List Int}
theorem RInv.stab (hS : S ≤ w.heap.size) {B : Nat} (hB : S ≤ B) : Stab B (RInv w S s u1 u2 v1 v2 l1 l2) :=
  ((stab_free _ _ _).and (stab_free _ _ _)).and (((stab_row _).and (stab_row _)).and (stab_below hS hB))
theorem RInv.alloc (h : RInv w S s u1 u2 v1 v2 l1 l2 W) (hS : S ≤ W.heap.size) (o : Obj) : RInv w S s u1 u2 v1 v2 l1 l2 (W.alloc o) :=
  ⟨⟨⟨cell_al o h.1.1.1, free_al o h.1.1.1 h.1.1.2⟩, ⟨cell_al o h.1.2.1, free_al o h.1.2.1 h.1.2.2⟩⟩, ⟨h.2.1.1.alloc o, h.2.1.2.alloc o⟩, h.2.2.alloc hS o⟩
theorem RInv.drew (h : RInv w S s u1 u2 v1 v2 l1 l2 W) : RInv w S s u1 u2 v1 v2 l1 l2 W.drew := ⟨h.1, h.2.1, h.2.2.drew⟩
theorem RInv.grown {row : Option Nat} (h : RInv w S s u1 u2 v1 v2 l1 l2 W) (hg : W.grownBy W' row) (hS : S ≤ W.heap.size) (h1 : ∀ k, row = some k → S + 1 + 1 < k) (h2 : ∀ k, row = some k → v1.ownBlock ≠ some k ∧ v2.ownBlock ≠ some k) : RInv w S s u1 u2 v1 v2 l1 l2 W' := by
  have ne : ∀ k, k ≤ S + 1 + 1 → some k ≠ row := fun k hk e => by have := h1 k e.symm; omega
  refine ⟨⟨⟨hg.cell h.1.1.1 (ne _ (by simp)), ?_⟩, ⟨hg.cell h.1.2.1 (ne _ (by simp)), ?_⟩⟩, ⟨h.2.1.1.kept hg ?_, h.2.1.2.kept hg ?_⟩, h.2.2.grown hg hS (fun k e => by have := h1 k e; omega)⟩
  · rw [World.frozen?_of_block (w := W) (hg.block _ (World.block_lt_of_cell? _ _ h.1.1.1) (ne _ (by simp)))]; exact h.1.1.2
  · rw [World.frozen?_of_block (w := W) (hg.block _ (World.block_lt_of_cell? _ _ h.1.2.1) (ne _ (by simp)))]; exact h.1.2.2
  · cases row with
    | none => cases hv : v1.ownBlock <;> simp
    | some k => exact .inr (h2 k rfl).1
  · cases row with
    | none => cases hv : v2.ownBlock <;> simp
    | some k => exact .inr (h2 k rfl).2
theorem RInv.set1 (h : RInv w S s u1 u2 v1 v2 l1 l2 W) (hs : S + 1 + 1 < s) (u : Value) : RInv w S s u u2 v1 v2 l1 l2 (W.setCell ⟨S + 1, 0, none⟩ u) := by
  have ne : ∀ v n xs, W.ownsRow s 3 1 v n xs → v.ownBlock ≠ some (S + 1) := fun v n xs hr e => by have := (hr.lt _ e).1; omega
  refine ⟨⟨⟨cell_same h.1.1.1, by simp [h.1.1.2]⟩, ⟨by rw [World.cell?_setCell_other]; exact h.1.2.1; intro e; injection e with e; omega, by simp [h.1.2.2]⟩⟩, ⟨ownsRow_setCell_other h.2.1.1 (ne _ _ _ h.2.1.1) u, ownsRow_setCell_other h.2.1.2 (ne _ _ _ h.2.1.2) u⟩, h.2.2.setCell (p := ⟨S + 1, 0, none⟩) (by simp) u⟩
theorem RInv.set2 (h : RInv w S s u1 u2 v1 v2 l1 l2 W) (hs : S + 1 + 1 < s) (u : Value) : RInv w S s u1 u v1 v2 l1 l2 (W.setCell ⟨S + 1 + 1, 0, none⟩ u) := by
  have ne : ∀ v n xs, W.ownsRow s 3 1 v n xs → v.ownBlock ≠ some (S + 1 + 1) := fun v n xs hr e => by have := (hr.lt _ e).1; omega
  refine ⟨⟨⟨by rw [World.cell?_setCell_other]; exact h.1.1.1; intro e; injection e with e; omega, by simp [h.1.1.2]⟩, ⟨cell_same h.1.2.1, by simp [h.1.2.2]⟩⟩, ⟨ownsRow_setCell_other h.2.1.1 (ne _ _ _ h.2.1.1) u, ownsRow_setCell_other h.2.1.2 (ne _ _ _ h.2.1.2) u⟩, h.2.2.setCell (p := ⟨S + 1 + 1, 0, none⟩) (by simp; omega) u⟩
/-- append to the first row. -/
theorem RInv.app1 (h : RInv w S s u1 u2 v1 v2 l1 l2 W) (hd : v1.ownBlock = none ∨ v1.ownBlock ≠ v2.ownBlock) (hsW : s ≤ W.heap.size) (hS : S + 1 + 1 < s) (hn : l1.length ≤ 1000000000) (g : Nat) (x : Int) (hc : W.cell? ⟨g, 0, none⟩ = some (.int .i64 x)) :
    ∃ v' W', (Builtin.append_ #[23, 23] 23 #[v1, .slice (some ⟨g, 0, none⟩) 1 1]).run Try.prog W = .ok v' W' ∧ RInv w S s u1 u2 v' v2 (l1 ++ [x]) l2 W' ∧ W.grownBy W' v1.ownBlock ∧ (∀ k, v1.ownBlock = some k → s ≤ k) ∧
      (v'.ownBlock = none ∨ v'.ownBlock ≠ v2.ownBlock) ∧ ∃ gg cc, v' = .slice (some ⟨gg, 0, none⟩) (l1.length + 1) cc := by
  obtain ⟨v', W', hr, ho, hg, hb, hf⟩ := append_int h.2.1.1 hsW hn g x hc
  have lt1 := h.2.1.1.lt
  have lt2 := h.2.1.2.lt
  have h2 : ∀ k, v1.ownBlock = some k → v2.ownBlock ≠ some k := fun k e e2 => by
    rcases hd with hd | hd
    · rw [hd] at e; cases e
    · exact hd (e.trans e2.symm)
  refine ⟨v', W', hr, ?_, hg, fun k e => (lt1 k e).1, ?_, hf⟩
  · have ne : ∀ k, k ≤ S + 1 + 1 → some k ≠ v1.ownBlock := fun k hk e => by have := (lt1 k e.symm).1; omega
    refine ⟨⟨⟨hg.cell h.1.1.1 (ne _ (by simp)), ?_⟩, ⟨hg.cell h.1.2.1 (ne _ (by simp)), ?_⟩⟩, ⟨by rw [List.length_append]; exact ho, h.2.1.2.kept hg ?_⟩, h.2.2.grown hg (by omega) (fun k e => by have := (lt1 k e).1; omega)⟩
    · rw [World.frozen?_of_block (w := W) (hg.block _ (World.block_lt_of_cell? _ _ h.1.1.1) (ne _ (by simp)))]; exact h.1.1.2
    · rw [World.frozen?_of_block (w := W) (hg.block _ (World.block_lt_of_cell? _ _ h.1.2.1) (ne _ (by simp)))]; exact h.1.2.2
    · cases hv : v1.ownBlock with
      | none => cases hv2 : v2.ownBlock <;> simp
      | some k => exact .inr (h2 k hv)
  · rcases hb with hb | hb
    · rw [hb]; exact hd
    · refine .inr (fun e => ?_)
      rw [hb] at e
      have := (lt2 _ e.symm).2
      omega
theorem RInv.app2 (h : RInv w S s u1 u2 v1 v2 l1 l2 W) (hd : v1.ownBlock = none ∨ v1.ownBlock ≠ v2.ownBlock) (hsW : s ≤ W.heap.size) (hS : S + 1 + 1 < s) (hn : l2.length ≤ 1000000000) (g : Nat) (x : Int) (hc : W.cell? ⟨g, 0, none⟩ = some (.int .i64 x)) :
    ∃ v' W', (Builtin.append_ #[23, 23] 23 #[v2, .slice (some ⟨g, 0, none⟩) 1 1]).run Try.prog W = .ok v' W' ∧ RInv w S s u1 u2 v1 v' l1 (l2 ++ [x]) W' ∧ W.grownBy W' v2.ownBlock ∧ (∀ k, v2.ownBlock = some k → s ≤ k) ∧
      (v1.ownBlock = none ∨ v1.ownBlock ≠ v'.ownBlock) ∧ ∃ gg cc, v' = .slice (some ⟨gg, 0, none⟩) (l2.length + 1) cc := by
  obtain ⟨v', W', hr, ho, hg, hb, hf⟩ := append_int h.2.1.2 hsW hn g x hc
  have lt1 := h.2.1.1.lt
  have lt2 := h.2.1.2.lt
  have h2 : ∀ k, v2.ownBlock = some k → v1.ownBlock ≠ some k := fun k e e2 => by
    rcases hd with hd | hd
    · rw [hd] at e2; cases e2
    · exact hd (e2.trans e.symm)
  refine ⟨v', W', hr, ?_, hg, fun k e => (lt2 k e).1, ?_, hf⟩
  · have ne : ∀ k, k ≤ S + 1 + 1 → some k ≠ v2.ownBlock := fun k hk e => by have := (lt2 k e.symm).1; omega
    refine ⟨⟨⟨hg.cell h.1.1.1 (ne _ (by simp)), ?_⟩, ⟨hg.cell h.1.2.1 (ne _ (by simp)), ?_⟩⟩, ⟨h.2.1.1.kept hg ?_, by rw [List.length_append]; exact ho⟩, h.2.2.grown hg (by omega) (fun k e => by have := (lt2 k e).1; omega)⟩
    · rw [World.frozen?_of_block (w := W) (hg.block _ (World.block_lt_of_cell? _ _ h.1.1.1) (ne _ (by simp)))]; exact h.1.1.2
    · rw [World.frozen?_of_block (w := W) (hg.block _ (World.block_lt_of_cell? _ _ h.1.2.1) (ne _ (by simp)))]; exact h.1.2.2
    · cases hv : v2.ownBlock with
      | none => cases hv2 : v1.ownBlock <;> simp
      | some k => exact .inr (h2 k hv)
  · rcases hb with hb | hb
    · rw [hb]; exact hd
    · cases hv : v1.ownBlock with
      | none => exact .inl rfl
      | some k =>
        refine .inr (fun e => ?_)
        rw [hb] at e
        have := (lt1 _ hv).2
        injection e with e
        omega
end
end Go.Proofs.Ythbbefkmnahnlaa
