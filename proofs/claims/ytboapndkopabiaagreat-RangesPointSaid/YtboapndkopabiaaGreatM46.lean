/- Lemmas and walks (Pick4 Two Law5). No statement is proved here. -/
import Derived.Test.YtboapndkopabiaaGreatM45
set_option linter.unusedVariables false
set_option linter.unusedSimpArgs false
namespace Go.Proofs.YtboapndkopabiaaGreat
section
def ptsN (L : List Rt) (n : Nat) : List Rg := (List.range n).map fun i => dup (regQ L (i : Nat))
def lessQ (x y : Rt) : Rg := if cmpQ x y ≤ 0 then (x, y) else (y, x)
def lessN (L K : List Rt) (n : Nat) : List Rg := (List.range n).map fun i => lessQ (regQ L (i : Nat)) (regQ K (i : Nat))
theorem ptsN_succ (L : List Rt) (n : Nat) : ptsN L (n + 1) = ptsN L n ++ [dup (regQ L n)] := by
 unfold ptsN
 rw [List.range_succ, List.map_append]
 rfl
theorem lessN_succ (L K : List Rt) (n : Nat) : lessN L K (n + 1) = lessN L K n ++ [lessQ (regQ L n) (regQ K n)] := by
 unfold lessN
 rw [List.range_succ, List.map_append]
 rfl
theorem ptsN_all (L : List Rt) : ptsN L L.length = L.map dup := by
 apply List.ext_getElem?
 intro i
 unfold ptsN
 rw [List.getElem?_map, List.getElem?_map]
 by_cases h : i < L.length
 · rw [List.getElem?_range h, List.getElem?_eq_getElem h]
   simp [regQ, h]
 · rw [List.getElem?_eq_none (by simp; omega), List.getElem?_eq_none (by omega)]
   rfl
theorem lessN_len (L K : List Rt) (n : Nat) : (lessN L K n).length = n := by simp [lessN]
theorem lessN_at {L K : List Rt} {n i : Nat} (hi : i < n) : regG (lessN L K n) i = lessQ (regQ L i) (regQ K i) := by
 simp [regG, lessN, List.getD_eq_getElem?_getD, hi]
theorem less_in {x y : Rt} (hx : x.ok) (hy : y.ok) : InR (rv x) (rvG (lessQ x y)) := by
 unfold lessQ InR rvG
 split
 · next h => exact ⟨Rat.le_refl, (cmpQ_le hx hy).1 h⟩
 · next h =>
   rw [cmpQ_le hx hy] at h; exact ⟨by simp only; grind, Rat.le_refl⟩
theorem less_sub {x y : Rt} {g : Rg} (hx : InR (rv x) (rvG g)) (hy : InR (rv y) (rvG g)) : Sub2 (rvG (lessQ x y)) (rvG g) := by
 unfold lessQ
 split
 · exact ⟨hx.1, hy.2⟩
 · exact ⟨hy.1, hx.2⟩
theorem less_under (x y : Rt) : underG (lessQ x y) = false := by
 unfold lessQ underG
 have h := cmpQ_swap x y
 split
 · exact decide_eq_false (by simp only; omega)
 · exact decide_eq_false (by simp only; omega)
def Sm (x : Rt) : Prop := x.ok ∧ x.num.natAbs < BB ^ 30 ∧ x.den.natAbs < BB ^ 7
theorem regs_sm {l : List Rt} (h : ∀ x, x ∈ l → Sm x) (hl : l.length ≤ 30) : Regs 0 l := regs_few (j := 7) h (by omega)
theorem sm_at {L : List Rt} {m i : Nat} (h : ∀ x, x ∈ L → Sm x) (hl : L.length = m) (hi : i < m) : Sm (regQ L i) := by
 refine h _ ?_
 unfold regQ
 rw [List.getD_eq_getElem?_getD, Int.toNat_natCast, List.getElem?_eq_getElem (by omega)]
 exact List.getElem_mem _
theorem regs_ends {l : List Rg} (h : ∀ x, x ∈ l → Sm x.1 ∧ Sm x.2) (hl : l.length ≤ 15) : Regs 0 (ends l) := by
 refine regs_sm (fun x hx => ?_) (by rw [ends_len]; omega)
 obtain ⟨y, hy, e | e⟩ := mem_ends_of hx <;> rw [e]
 · exact (h y hy).1
 · exact (h y hy).2
structure PointH (p : List InsR) (L K : List Rt) (l : List Rg) (m : Nat) : Prop where
 lenL : L.length = m
 lenK : K.length = m
 smL : ∀ i : Nat, i < m → Sm (regQ L i)
 smK : ∀ i : Nat, i < m → Sm (regQ K i)
 sh : ∀ i : Nat, i < m → Sh (regQ L i) ∧ Sh (regQ K i)
 regsL : Regs 0 L
 regsP : Regs 0 (ends (L.map dup))
 regsS : Regs 0 (ends (lessN L K m))
 undP : (L.map dup).any underG = false
 undS : (lessN L K m).any underG = false
 sub1 : Sub2 (rvG (outG p (L.map dup))) (rvG (outG p (lessN L K m)))
 sub2 : Sub2 (rvG (outG p (lessN L K m))) (rvG (outG p l))
theorem point_h {p : List InsR} {l : List Rg} {m : Nat} {a b : List Nat} (h3 : All3 l) (hl : l.length = m) (hm : m ≤ 15) (gl : Regs 0 (ends l)) (ha : Byte a) (hb : Byte b) (hr : rightsI m 0 p = true) (hf : FewP p) (hp : p.length ≤ 20) (h1 : 1 ≤ p.length) :
 PointH p (picksN l a m) (picksN l b m) l m := by
 subst hl
 have sL := picks_of h3 ha (Nat.le_refl _)
 have sK := picks_of h3 hb (Nat.le_refl _)
 have hL := picks_holds h3 ha
 have hK := picks_holds h3 hb
 have lL := picksN_len l a l.length
 have lK := picksN_len l b l.length
 generalize picksN l a l.length = L at *
 generalize picksN l b l.length = K at *
 have rL := regs_sm sL (by omega)
 have rK := regs_sm sK (by omega)
 have aL := fun (i : Nat) hi => sm_at (i := i) sL lL hi
 have aK := fun (i : Nat) hi => sm_at (i := i) sK lK hi
 have bel : ∀ {i : Nat}, i < l.length → belowB (i : Int) L.length = true := fun hi => decide_eq_true (by omega)
 have belK : ∀ {i : Nat}, i < l.length → belowB (i : Int) K.length = true := fun hi => decide_eq_true (by omega)
 have rP : Regs 0 (ends (L.map dup)) := regs_ends (fun x hx => by
  obtain ⟨y, hy, rfl⟩ := List.mem_map.1 hx
  exact ⟨sL y hy, sL y hy⟩) (by simp; omega)
 have rS : Regs 0 (ends (lessN L K l.length)) := regs_ends (fun x hx => by
  obtain ⟨i, hi, rfl⟩ := List.mem_map.1 hx; have hi := List.mem_range.1 hi; unfold lessQ
  split
  · exact ⟨aL i hi, aK i hi⟩
  · exact ⟨aK i hi, aL i hi⟩) (by rw [lessN_len]; omega)
 have hP : HoldsL L (L.map dup) := ⟨by simp, fun i _ => by rw [regG_dup]; exact ⟨Rat.le_refl, Rat.le_refl⟩⟩
 have key : ∀ i, belowB i L.length = true → InR (rv (regQ L i)) (rvG (regG (lessN L K l.length) i)) := fun i hi => by
  have h1 := of_decide_eq_true hi
  obtain ⟨j, rfl⟩ : ∃ j : Nat, i = j := ⟨i.toNat, by omega⟩
  rw [lessN_at (by omega)]; exact less_in (aL j (by omega)).1 (aK j (by omega)).1
 have hS : HoldsL L (lessN L K l.length) := ⟨by rw [lessN_len, lL], key⟩
 have s1 : SubL (L.map dup) (lessN L K l.length) := ⟨by rw [lessN_len, List.length_map, lL], fun i hi => by
  rw [List.length_map] at hi; rw [regG_dup]
  exact key i hi⟩
 have s2 : SubL (lessN L K l.length) l := ⟨lessN_len _ _ _, fun i hi => by
  have h1 := of_decide_eq_true hi; rw [lessN_len] at h1
  obtain ⟨j, rfl⟩ : ∃ j : Nat, i = j := ⟨i.toNat, by omega⟩
  rw [lessN_at (by omega)]
  exact less_sub (hL.2 j (bel (by omega))) (hK.2 j (belK (by omega)))⟩
 refine ⟨lL, lK, aL, aK, fun i hi => ⟨(rL.all (by omega) |>.ref (bel hi)).2, (rK.all (by omega) |>.ref (belK hi)).2⟩, rL, rP, rS, ?_, ?_, ?_, ?_⟩
 · rw [List.any_eq_false]
   intro x hx; obtain ⟨y, hy, rfl⟩ := List.mem_map.1 hx
   simp [underG, dup, cmpQ_self]
 · rw [List.any_eq_false]
   intro x hx; obtain ⟨i, hi, rfl⟩ := List.mem_map.1 hx; rw [less_under]
   simp
 · exact out_sub rL rP rS hP s1 (by rw [lL]; exact hr) hf hp h1
 · exact out_sub rL rS gl hS s2 (by rw [lL]; exact hr) hf hp h1
end
section
open Go.RowKit Go.Shelf
section
variable {α : Type} [RepC α] {e : TypeId} {w : World} {M M' : List Nat} {base b : Nat} {v : Value} {n : Nat} {xs : List α}
theorem OwnS.moreB (h : OwnS α e w M base v n xs) (hb : w.heap.size ≤ b) : OwnS α e w (b :: M) base v n xs := by
 obtain ⟨cs, h1, h2⟩ := h.ex
 refine ⟨h.len, cs, h1, fun k x hx => ?_⟩
 obtain ⟨es, a, c⟩ := h2 k x hx
 refine ⟨es, Rep.less (Rep.more a hb) (fun q hq => ?_), c⟩
 simp only [List.mem_append, List.mem_cons] at hq ⊢
 rcases hq with hq | rfl | hq <;> simp [*]
theorem OwnS.lessM (h : OwnS α e w M base v n xs) (hs : ∀ k, k ∈ M' → k ∈ M) : OwnS α e w M' base v n xs := by
 obtain ⟨cs, h1, h2⟩ := h.ex
 refine ⟨h.len, cs, h1, fun k x hx => ?_⟩
 obtain ⟨es, a, c⟩ := h2 k x hx
 refine ⟨es, Rep.less a (fun q hq => ?_), c⟩
 rcases List.mem_append.1 hq with hq | hq
 · exact List.mem_append_left _ hq
 · exact List.mem_append_right _ (hs q hq)
end
structure TwoR (s : Nat) (w : World) (vP : Value) (n : Nat) (P : List Rg) (vL : Value) (k : Nat) (L : List Rg) : Prop where
 p : OwnG w (ownL vL) s vP n P
 l : OwnG w (ownL vP) s vL k L
 ne : ∀ q, vP.ownBlock = some q → vL.ownBlock ≠ some q
section
variable {s n k : Nat} {w w' : World} {vP vL : Value} {P L : List Rg}
theorem TwoR.swap (h : TwoR s w vP n P vL k L) : TwoR s w vL k L vP n P := ⟨h.l, h.p, fun q hq e => h.ne q e hq⟩
theorem TwoR.go (h : TwoR s w vP n P vL k L) (hb : Below w.heap.size w w') : TwoR s w' vP n P vL k L := ⟨h.p.go hb, h.l.go hb, h.ne⟩
theorem TwoR.nil (w : World) (s : Nat) : TwoR s w (.slice none 0 0) 0 [] (.slice none 0 0) 0 [] := ⟨OwnS.nil _ _ _, OwnS.nil _ _ _, fun q hq => by simp [Value.ownBlock] at hq⟩
theorem TwoR.lt (h : TwoR s w vP n P vL k L) : ∀ q, q ∈ ownL vP ++ ownL vL → s ≤ q ∧ q < w.heap.size := fun q hq => by
 rcases List.mem_append.1 hq with hq | hq
 · exact h.p.lt (mem_ownL.1 hq)
 · exact h.l.lt (mem_ownL.1 hq)
theorem TwoR.app {x : Rg} {p1 q1 p2 q2 : Bool} {A1 B1 A2 B2 : Option Addr} {n1 c1 m1 d1 n2 c2 m2 d2 : Nat} (h : TwoR s w vP n P vL k L) (hs : s ≤ w.heap.size) (hlo : QC w (ownL vP ++ ownL vL) x.1 p1 q1 A1 n1 c1 B1 m1 d1) (hhi : QC w (ownL vP ++ ownL vL) x.2 p2 q2 A2 n2 c2 B2 m2 d2) (hn : n ≤ 100000) :
 ∃ v' w', (Builtin.append_ #[23, 23] 23 #[vP, .slice (some ⟨w.heap.size, 0, none⟩) 1 1]).run Tryz.prog (w.alloc (.cells #[.bool p1, .slice A1 n1 c1, .bool q1, .slice B1 m1 d1, .bool p2, .slice A2 n2 c2, .bool q2, .slice B2 m2 d2] 33)) = .ok v' w' ∧ TwoR s w' v' (n + 1) (P ++ [x]) vL k L ∧ w.grownBy w' vP.ownBlock ∧ Keeps (ownL vP) (w.alloc (.cells #[.bool p1, .slice A1 n1 c1, .bool q1, .slice B1 m1 d1, .bool p2, .slice A2 n2 c2, .bool q2, .slice B2 m2 d2] 33)) w' := by
 have hM : Bel (ownL vL) w := fun q hq => (h.l.lt (mem_ownL.1 hq)).2
 obtain ⟨v', w', r1, r2, r3, r4, r5⟩ := app_rng h.p hs hM hlo hhi hn
 have kp : Keeps (ownL vP) w w' := ⟨r3.size, fun q hq hm => r3.block q hq (fun e => hm (mem_ownL.2 e.symm))⟩
 refine ⟨v', w', r1, ⟨r2, ?_, ?_⟩, r3, r5⟩
 · have h2 := (h.l.moreB (b := w.heap.size + 1) (by omega)).keepM kp (fun x hx => List.mem_cons_of_mem _ hx) (fun g hg hm => h.ne g (mem_ownL.1 hm) hg)
   refine h2.lessM fun q hq => ?_
   have hq := mem_ownL.1 hq
   rcases r4 with e | e
   · exact List.mem_cons_of_mem _ (mem_ownL.2 (e ▸ hq))
   · rw [e] at hq
     simp at hq
     simp [hq]
 · intro q hq e2
   rcases r4 with e | e
   · exact h.ne q (e ▸ hq) e2
   · rw [e] at hq
     simp at hq
     have := (h.l.lt e2).2; omega
end
structure C4 (W : World) (b o : Nat) (v0 v1 v2 v3 : Value) : Prop where
 c0 : W.cell? ⟨b, o, none⟩ = some v0
 c1 : W.cell? ⟨b, o + 1, none⟩ = some v1
 c2 : W.cell? ⟨b, o + 2, none⟩ = some v2
 c3 : W.cell? ⟨b, o + 3, none⟩ = some v3
theorem C4.lt {W : World} {b o : Nat} {v0 v1 v2 v3 : Value} (h : C4 W b o v0 v1 v2 v3) : b < W.heap.size := World.block_lt_of_cell? W _ h.c0
theorem C4.go {W W' : World} {b o : Nat} {v0 v1 v2 v3 : Value} (h : C4 W b o v0 v1 v2 v3) (hb : Below W.heap.size W W') : C4 W' b o v0 v1 v2 v3 := by
 have c : ∀ (o : Nat) (u : Value), W.cell? ⟨b, o, none⟩ = some u → W'.cell? ⟨b, o, none⟩ = some u := fun o u hu => (hb.cell (p := ⟨b, o, none⟩) h.lt).trans hu
 exact ⟨c _ _ h.c0, c _ _ h.c1, c _ _ h.c2, c _ _ h.c3⟩
theorem C4.st {W : World} {b o : Nat} {v0 v1 v2 v3 : Value} {Mr : List Nat} (h : C4 W b o v0 v1 v2 v3) (hb : b ∉ Mr) : (∀ w', Keeps Mr W.drew w' → w'.cell? ⟨b, o, none⟩ = some v0) ∧ (∀ w', Keeps Mr W.drew w' → w'.cell? ⟨b, o + 1, none⟩ = some v1) ∧ (∀ w', Keeps Mr W.drew w' → w'.cell? ⟨b, o + 2, none⟩ = some v2) ∧ (∀ w', Keeps Mr W.drew w' → w'.cell? ⟨b, o + 3, none⟩ = some v3) :=
 ⟨stays_m hb h.c0, stays_m hb h.c1, stays_m hb h.c2, stays_m hb h.c3⟩
theorem QC.moreL {w : World} {r : Rt} {p q : Bool} {A B : Option Addr} {n c m d : Nat} {M : List Nat} (h : QC w M r p q A n c B m d) : ∀ (L : List Nat), (∀ k, k ∈ L → w.heap.size ≤ k) → QC w (L ++ M) r p q A n c B m d
 | [], _ => h
 | k :: L, hk => (h.moreL L (fun q hq => hk q (List.mem_cons_of_mem _ hq))).more (hk k List.mem_cons_self)
theorem SlQ.c4 {w : World} {M : List Nat} {A : Option Addr} {n c k : Nat} {l : List Rt} (h : SlQ w M A n c l) (hk : k < n) :
 ∃ b o p q A1 n1 c1 B1 m1 d1, A = some ⟨b, o, none⟩ ∧ C4 w b (o + k * 4) (.bool p) (.slice A1 n1 c1) (.bool q) (.slice B1 m1 d1) ∧ QC w M (regQ l k) p q A1 n1 c1 B1 m1 d1 := by
 obtain ⟨b, o, p, q, A1, n1, c1, B1, m1, d1, rfl, ⟨h0, h1, h2, h3⟩, qc⟩ := h.at_ hk
 exact ⟨b, o, p, q, A1, n1, c1, B1, m1, d1, rfl, ⟨h0, h1, h2, h3⟩, qc⟩
end
section
open Go.RowKit Go.Shelf
attribute [local go_sem] Oper.semAt_some
theorem QC.two {w w' : World} {r : Rt} {p q : Bool} {A B : Option Addr} {n c m d : Nat} {L : List Nat} (h : QC w [] r p q A n c B m d) (hL : ∀ k, k ∈ L → w.heap.size ≤ k) (hb : Below w.heap.size w w') : QC w' L r p q A n c B m d := by
 have := (h.moreL L hL).go hb
 rwa [List.append_nil] at this
theorem byte_b (ks : List (Fin 256)) : Byte (bytes ks) := fun k hk => by
 obtain ⟨x, -, rfl⟩ := List.mem_map.1 hk
 have := x.isLt
 omega
set_option maxRecDepth 100000 in
set_option maxHeartbeats 32000000 in
theorem rangesPoint_true {A B C D : Option Addr} {n c m d f g f' g' : Nat} {p : List InsR} {ins : List RngR} {ka kb : List (Fin 256)} {w : World} (hp : Sl InsR w [] A n c p) (hi : Sl RngR w [] B m d ins) (hka : Sl (Fin 256) w [] C f g ka) (hkb : Sl (Fin 256) w [] D f' g' kb) :
 Calls Tryz.prog 6 #[.slice A n c, .slice B m d, .slice C f g, .slice D f' g'] w fun e w' => e = .returned (.bool true) ∧ Below w.heap.size w w' := by
 refine wid ?_
 have H := Hd4 hp hi hka hkb
 have hsp := hp.small
 cases hr : rightB p ins
 · have HR := Hd hr
   clear hr hp hi hka hkb; refine ent Tryz.func6 rfl Tryz.ntmps6 ?_
   gi_wp2_with (first
    | (refine Cl 18 (lright_any (H.out.1.go HB.out) (H.out.2.1.go HB.out)) ?_
       rintro e w2 ⟨rfl, hb2⟩; rw [HR.out]; have HB2 := Hd (HB.out.trans (hb2.mono HB.out.size))
       clear hb2)
      | (refine Cl 8 (U.sane_any _) ?_
         rintro e w1 ⟨rfl, hb1⟩; have HB := Hd hb1
         clear hb1)
    | (refine ⟨trivial, ?_⟩))
   go_ret; exact ⟨rfl, HB2.out⟩
 · have HR := Hd hr
   obtain ⟨l, hl⟩ : ∃ l, ins.map decG = l := ⟨_, rfl⟩
   have R := Hd (hl ▸ right_h hr hp hi)
   have hls : Sl RngR w [] B m d (l.map encG) := by rw [← R.out.enc]; exact hi
   have HI := Hd hls
   obtain ⟨L, hL⟩ : ∃ L, picksN l (bytes ka) m = L := ⟨_, rfl⟩
   obtain ⟨L2, hL2⟩ : ∃ L, picksN l (bytes kb) m = L := ⟨_, rfl⟩
   have hph := point_h R.out.all3 R.out.li R.out.m15 R.out.regs (byte_b ka) (byte_b kb) R.out.rights R.out.few (by rw [R.out.lp]; exact R.out.len) (by rw [R.out.lp]; exact R.out.pos); rw [hL, hL2] at hph; have PH := Hd hph; have hm15 := R.out.m15; have HLL := Hd2 hL hL2
   obtain ⟨y, hy⟩ : ∃ y, resQ p L = y := ⟨_, rfl⟩
   have HY := Hd hy; have HP := Hd (show outG p (L.map dup) = dup y by rw [out_dup, hy])
   obtain ⟨S, hS⟩ : ∃ S, outG p (lessN L L2 m) = S := ⟨_, rfl⟩
   have HS := Hd hS
   obtain ⟨G, hG⟩ : ∃ G, outG p l = G := ⟨_, rfl⟩
   have HG := Hd hG; have OG := Hd (hG ▸ (R.out.outH hp hls).res_ok); clear hr hp hi hka hkb hl hls hL hL2 hy hS hG hph; refine ent Tryz.func6 rfl Tryz.ntmps6 ?_
   gi_wp2_with (first
    | (have g' := H3.out; clear g'
       refine Cl 19 (lpicked_any (M := []) (l := l) (Bel.nil _) (HI.out.go H3.out.2) (H.out.2.2.2.go H3.out.2) R.out.all3 hm15) ?_; rintro e w4 ⟨v4, rfl, ho4, hb4⟩; rw [HLL.out.2] at ho4; obtain ⟨A4, c4, rfl, hs4⟩ := OwnS.sl ho4 (by omega) (by simp); have H4 := Hd3 (H3.out.1.go hb4) hs4 (H3.out.2.trans (hb4.mono H3.out.2.size))
       clear ho4 hb4 hs4)
    | (refine Cl 19 (lpicked_any (M := []) (l := l) (Bel.nil _) (HI.out.go HB2.out) (H.out.2.2.1.go HB2.out) R.out.all3 hm15) ?_
       rintro e w3 ⟨v3, rfl, ho3, hb3⟩; rw [HLL.out.1] at ho3; obtain ⟨A3, c3, rfl, hs3⟩ := OwnS.sl ho3 (by omega) (by simp); have H3 := Hd2 hs3 (HB2.out.trans (hb3.mono HB2.out.size))
       clear ho3 hb3 hs3)
    | (refine Cl 18 (lright_any (H.out.1.go HB.out) (H.out.2.1.go HB.out)) ?_
       rintro e w2 ⟨rfl, hb2⟩; rw [HR.out]; have HB2 := Hd (HB.out.trans (hb2.mono HB.out.size))
       clear hb2)
      | (refine Cl 8 (U.sane_any _) ?_
         rintro e w1 ⟨rfl, hb1⟩; have HB := Hd hb1
         clear hb1)
    | (refine ⟨trivial, ?_⟩))
   gi_loopw [13, 14, 53] (fun v0 v1 i wr => ∃ (j : Nat) (vP vL : Value), vP = v0 ∧ vL = v1 ∧ j ≤ m ∧ i = .int .i64 j ∧ Hid (Fr w4 wr []) ∧ Hid (TwoR w4.heap.size wr vP j (ptsN L j) vL j (lessN L L2 j))) (fun _ _ i _ => m - (intOf i).toNat)
   case atStart => exact ⟨0, _, _, rfl, rfl, Nat.zero_le _, rfl, Hd (Fr.nil w4), Hd (TwoR.nil _ _)⟩
   case round =>
    obtain ⟨j, vP, vL, rfl, rfl, hj, rfl, hF, hT⟩ := hrel
    by_cases hlt : j < m
    · obtain ⟨bx, ox, p1, q1, A1, n1, c1, B1, m1, d1, rfl, cx, qx⟩ := (SlQ.of H4.out.1).c4 hlt
      obtain ⟨b5, o5, p5, q5, A5, n5, c5, B5, m5, d5, rfl, cy, qy⟩ := (SlQ.of H4.out.2.1).c4 hlt
      obtain ⟨k, hk⟩ : ∃ k, cmpQ (regQ L j) (regQ L2 j) = k := ⟨_, rfl⟩
      have HC := Hd hk; have XC2 := Hd4 cx cy qx qy
      have nb : bx ∉ ownL vP := fun hm => by have := (hT.out.lt bx (List.mem_append_left _ hm)).1; have := cx.lt; omega
      obtain ⟨x0, x1, x2, x3⟩ := (cx.go hF.out.bl).st nb; clear hk cx cy qx qy nb; gi_wp2; refine region_E_np (ownL vP) 12 (by kernel_rfl) (by kernel_rfl) ?_; refine E_rd 0 ?_; refine E_rd 1 ?_; refine E_rd 2 ?_; refine E_rd 3 ?_; refine E_rd 4 ?_; refine E_rd 5 ?_; refine E_rd 6 ?_; refine E_rd 7 ?_; refine E_rd 8 ?_; refine E_rd 9 ?_
      obtain ⟨wd7, hwd⟩ : ∃ V, wr.drew = V := ⟨_, rfl⟩
      have TD := (hT.out).go (Below.refl _ _).drew; have qd1 := (XC2.out.2.2.1.two (fun q hq => (hT.out.lt q hq).1) hF.out.bl).drew; have qd2 := (XC2.out.2.2.1.two (fun q hq => (hT.out.lt q hq).1) hF.out.bl).drew; have FD := (hF.out).drew; rw [hwd] at TD qd1 qd2 FD ⊢; obtain ⟨v7, wA7, r1, r2, r3, r5⟩ := TwoR.app (x := dup (regQ L j)) TD (FD.bl.size) qd1 qd2 (by omega); have FA7 := Hd (FD.grown r3 (fun q hq => ⟨(TD.p.lt hq).1, fun b vs hm => by simp at hm⟩)); have T7 := Hd r2; have RUN := Hd r1; have R5 := Hd r5; clear TD qd1 qd2 FD r1 r2 r3 r5 hwd
      refine E_al 10 fun K hK => ?_; gi_wp2
      refine ⟨Keeps.of_below (show Below wd7.heap.size wd7 _ from (Below.refl _ _).alloc (Nat.le_refl _) _) _, ?_⟩; refine lit ?_; refine E_all 11 [] (by kernel_rfl) (AllE_cons (by decide) rfl ?_ (fun K hK => ?_) AllE_nil)
      · exact wy
      refine wpIn_append _ _ _ rfl rfl rfl RUN.out (hK _ _ ⟨R5.out, ?_⟩); clear hK K; refine lit ?_; clear RUN R5
      refine E_nl 1 ?_; refine tls fun K hK K' hK' => ?_; gi_wp2; refine tail_nil _ ?_; simp only [npost]; gi_wp2
      clear x0 x1 x2 x3; obtain ⟨x0, x1, x2, x3⟩ := (XC2.out.1.go FA7.out.bl).st (Mr := []) (by simp); obtain ⟨z0, z1, z2, z3⟩ := (XC2.out.2.1.go FA7.out.bl).st (Mr := []) (by simp); refine region_E_np [] 13 (by kernel_rfl) (by kernel_rfl) ?_; refine E_rd 0 ?_; refine E_rd 1 ?_; refine E_rd 2 ?_; refine E_rd 3 ?_; refine E_rd 4 ?_; refine E_rd 5 ?_; refine E_rd 6 ?_; refine E_rd 7 ?_
      refine E_al 8 fun K hK => ?_; gi_wp2
      refine Cm (qCmp_any (M := []) (a := regQ L j) (b := regQ L2 j) (Bel.nil _) (XC2.out.2.2.1.go FA7.out.bl).drew.qw (XC2.out.2.2.2.go FA7.out.bl).drew.qw (PH.out.smL j hlt).1 (PH.out.smK j hlt).1 ((PH.out.sh j hlt).1.fine (PH.out.sh j hlt).2)) ?_; rintro e w5 ⟨rfl, hb5⟩; rw [HC.out]; have F5 := Hd (FA7.out.drew.go hb5); have T5 := Hd ((T7.out.go (Below.refl _ _).drew).go hb5); refine hK _ _ ⟨?_, ?_⟩; clear hK K
      · exact Keeps.of_below hb5 []
      refine lit ?_; clear hb5 x0 x1 x2 x3 z0 z1 z2 z3; refine E_rd 9 ?_; refine E_rd 10 ?_; refine E_rd 11 ?_; refine E_rd 12 ?_; refine E_nl 1 ?_
      refine tls fun K hK K' hK' => ?_; gi_wp2
      refine tail_nil _ ?_; simp only [npost]
      by_cases hk : k ≤ 0
      · have HE := Hd (show lessQ (regQ L j) (regQ L2 j) = (regQ L j, regQ L2 j) by unfold lessQ; rw [HC.out, if_pos hk])
        gi_wp2
        have nb1 : bx ∉ ownL vL := fun hm => by have := (hT.out.lt bx (List.mem_append_right _ hm)).1; have := XC2.out.1.lt; omega
        have nb2 : b5 ∉ ownL vL := fun hm => by have := (hT.out.lt b5 (List.mem_append_right _ hm)).1; have := XC2.out.2.1.lt; omega
        obtain ⟨x0, x1, x2, x3⟩ := (XC2.out.1.go F5.out.bl).st nb1; obtain ⟨z0, z1, z2, z3⟩ := (XC2.out.2.1.go F5.out.bl).st nb2; clear nb1 nb2; refine region_E_np (ownL vL) 12 (by kernel_rfl) (by kernel_rfl) ?_; refine E_rd 0 ?_; refine E_rd 1 ?_; refine E_rd 2 ?_; refine E_rd 3 ?_; refine E_rd 4 ?_; refine E_rd 5 ?_; refine E_rd 6 ?_; refine E_rd 7 ?_; refine E_rd 8 ?_; refine E_rd 9 ?_
        obtain ⟨wd8, hwd⟩ : ∃ V, w5.drew = V := ⟨_, rfl⟩
        have TD := (T5.out.swap).go (Below.refl _ _).drew; have qd1 := ((show QC w5 _ (lessQ (regQ L j) (regQ L2 j)).1 p1 q1 A1 n1 c1 B1 m1 d1 by rw [HE.out]; exact XC2.out.2.2.1.two (fun q hq => (T5.out.swap.lt q hq).1) F5.out.bl)).drew; have qd2 := ((show QC w5 _ (lessQ (regQ L j) (regQ L2 j)).2 p5 q5 A5 n5 c5 B5 m5 d5 by rw [HE.out]; exact XC2.out.2.2.2.two (fun q hq => (T5.out.swap.lt q hq).1) F5.out.bl)).drew; have FD := (F5.out).drew; rw [hwd] at TD qd1 qd2 FD ⊢; obtain ⟨v8, wA8, r1, r2, r3, r5⟩ := TwoR.app (x := lessQ (regQ L j) (regQ L2 j)) TD (FD.bl.size) qd1 qd2 (by omega); have FA8 := Hd (FD.grown r3 (fun q hq => ⟨(TD.p.lt hq).1, fun b vs hm => by simp at hm⟩)); have T8 := Hd r2; have RUN := Hd r1; have R5 := Hd r5; clear TD qd1 qd2 FD r1 r2 r3 r5 hwd
        refine E_al 10 fun K hK => ?_; gi_wp2
        refine ⟨Keeps.of_below (show Below wd8.heap.size wd8 _ from (Below.refl _ _).alloc (Nat.le_refl _) _) _, ?_⟩; refine lit ?_; refine E_all 11 [] (by kernel_rfl) (AllE_cons (by decide) rfl ?_ (fun K hK => ?_) AllE_nil)
        · exact wy
        refine wpIn_append _ _ _ rfl rfl rfl RUN.out (hK _ _ ⟨R5.out, ?_⟩); clear hK K; refine lit ?_; clear RUN R5
        refine E_nl 1 ?_; refine tls fun K hK K' hK' => ?_; gi_wp2; refine tail_nil _ ?_; simp only [npost]; gi_wp2
        exact ⟨⟨j + 1, _, _, rfl, rfl, by omega, by go_num, FA8, Hd (show TwoR w4.heap.size wA8 v7 (j + 1) (ptsN L (j + 1)) v8 (j + 1) (lessN L L2 (j + 1)) by rw [ptsN_succ, lessN_succ]; exact T8.out.swap)⟩, by simp [intOf]; omega⟩
      · have HE := Hd (show lessQ (regQ L j) (regQ L2 j) = (regQ L2 j, regQ L j) by unfold lessQ; rw [HC.out, if_neg hk])
        gi_wp2
        have nb1 : bx ∉ ownL vL := fun hm => by have := (hT.out.lt bx (List.mem_append_right _ hm)).1; have := XC2.out.1.lt; omega
        have nb2 : b5 ∉ ownL vL := fun hm => by have := (hT.out.lt b5 (List.mem_append_right _ hm)).1; have := XC2.out.2.1.lt; omega
        obtain ⟨x0, x1, x2, x3⟩ := (XC2.out.1.go F5.out.bl).st nb1; obtain ⟨z0, z1, z2, z3⟩ := (XC2.out.2.1.go F5.out.bl).st nb2; clear nb1 nb2; refine region_E_np (ownL vL) 12 (by kernel_rfl) (by kernel_rfl) ?_; refine E_rd 0 ?_; refine E_rd 1 ?_; refine E_rd 2 ?_; refine E_rd 3 ?_; refine E_rd 4 ?_; refine E_rd 5 ?_; refine E_rd 6 ?_; refine E_rd 7 ?_; refine E_rd 8 ?_; refine E_rd 9 ?_
        obtain ⟨wd8, hwd⟩ : ∃ V, w5.drew = V := ⟨_, rfl⟩
        have TD := (T5.out.swap).go (Below.refl _ _).drew; have qd1 := ((show QC w5 _ (lessQ (regQ L j) (regQ L2 j)).1 p5 q5 A5 n5 c5 B5 m5 d5 by rw [HE.out]; exact XC2.out.2.2.2.two (fun q hq => (T5.out.swap.lt q hq).1) F5.out.bl)).drew; have qd2 := ((show QC w5 _ (lessQ (regQ L j) (regQ L2 j)).2 p1 q1 A1 n1 c1 B1 m1 d1 by rw [HE.out]; exact XC2.out.2.2.1.two (fun q hq => (T5.out.swap.lt q hq).1) F5.out.bl)).drew; have FD := (F5.out).drew; rw [hwd] at TD qd1 qd2 FD ⊢; obtain ⟨v8, wA8, r1, r2, r3, r5⟩ := TwoR.app (x := lessQ (regQ L j) (regQ L2 j)) TD (FD.bl.size) qd1 qd2 (by omega); have FA8 := Hd (FD.grown r3 (fun q hq => ⟨(TD.p.lt hq).1, fun b vs hm => by simp at hm⟩)); have T8 := Hd r2; have RUN := Hd r1; have R5 := Hd r5; clear TD qd1 qd2 FD r1 r2 r3 r5 hwd
        refine E_al 10 fun K hK => ?_; gi_wp2
        refine ⟨Keeps.of_below (show Below wd8.heap.size wd8 _ from (Below.refl _ _).alloc (Nat.le_refl _) _) _, ?_⟩; refine lit ?_; refine E_all 11 [] (by kernel_rfl) (AllE_cons (by decide) rfl ?_ (fun K hK => ?_) AllE_nil)
        · exact wy
        refine wpIn_append _ _ _ rfl rfl rfl RUN.out (hK _ _ ⟨R5.out, ?_⟩); clear hK K; refine lit ?_; clear RUN R5
        refine E_nl 1 ?_; refine tls fun K hK K' hK' => ?_; gi_wp2; refine tail_nil _ ?_; simp only [npost]; gi_wp2
        exact ⟨⟨j + 1, _, _, rfl, rfl, by omega, by go_num, FA8, Hd (show TwoR w4.heap.size wA8 v7 (j + 1) (ptsN L (j + 1)) v8 (j + 1) (lessN L L2 (j + 1)) by rw [ptsN_succ, lessN_succ]; exact T8.out.swap)⟩, by simp [intOf]; omega⟩
    · have hjn : j = m := by omega
      clear hj hlt; subst hjn; obtain ⟨A6, c6, rfl, hs6⟩ := OwnS.sl (hT.out.p.lessM (M' := []) (by simp)) (by omega) (by simp); obtain ⟨A7, c7, rfl, hs7⟩ := OwnS.sl (hT.out.l.lessM (M' := []) (by simp)) (by omega) (by simp); rw [show ptsN L j = L.map dup by rw [← PH.out.lenL]; exact ptsN_all L] at hs6; have HW := Hd4 hs6 hs7 (H4.out.1.go hF.out.bl) (H4.out.2.2.trans (hF.out.bl.mono H4.out.2.2.size)); have F0 := Hd (Fr.nil wr); clear hs6 hs7
      gi_wp2_with (first
       | (have g' := H10.out; clear g'
          refine Cl 21 (within_yes (M := []) (a := dup y) (b := S) (Bel.nil _) (show GW _ [] _ (dup y) from ⟨_, _, _, _, _, _, _, _, _, _, _, _, _, _, _, _, rfl, H9.out.1.1.go H10.out.2, H9.out.1.2.go H10.out.2⟩) (show GW _ [] _ S from ⟨_, _, _, _, _, _, _, _, _, _, _, _, _, _, _, _, rfl, H9.out.2.2.1.1.go H10.out.2, H9.out.2.2.1.2.go H10.out.2⟩) ⟨HO.out.1, HO.out.1⟩ HO.out.2.1 ((cmpQ_le HO.out.2.1.1.1 HO.out.1.1).2 HO.out.2.2.1) ((cmpQ_le HO.out.1.1 HO.out.2.1.2.1).2 HO.out.2.2.2.1)) ?_; rintro e w11 ⟨rfl, hb11⟩; have HZ := Hd (HW.out.2.2.2.trans ((H10.out.1.bl.trans (hb11.mono H10.out.1.bl.size)).mono HW.out.2.2.2.size))
          clear hb11)
       | (refine Cl 21 (within_yes (M := []) (a := S) (b := G) (Bel.nil _) (show GW _ [] _ S from ⟨_, _, _, _, _, _, _, _, _, _, _, _, _, _, _, _, rfl, H9.out.2.2.1.1, H9.out.2.2.1.2⟩) (show GW _ [] _ G from ⟨_, _, _, _, _, _, _, _, _, _, _, _, _, _, _, _, rfl, H9.out.2.2.2.1.1, H9.out.2.2.2.1.2⟩) HO.out.2.1 OG.out ((cmpQ_le OG.out.1.1 HO.out.2.1.1.1).2 HO.out.2.2.2.2.1) ((cmpQ_le HO.out.2.1.2.1 OG.out.2.1).2 HO.out.2.2.2.2.2)) ?_
          rintro e w10 ⟨rfl, hb10⟩; have F10 := H9.out.2.2.2.2.go hb10; refine op1 F10 ?_; intros; have H10 := Hd2 F10 hb10
          clear hb10 F10)
       | (refine Cl 13 (sameG_any (M := []) (N := []) (x := encG (dup y)) (y := encG (dup y)) (show GW _ [] _ (dup y) from ⟨_, _, _, _, _, _, _, _, _, _, _, _, _, _, _, _, rfl, H8.out.1.1, H8.out.1.2⟩).gv (show GW _ [] _ (dup y) from ⟨_, _, _, _, _, _, _, _, _, _, _, _, _, _, _, _, rfl, H8.out.2.1, H8.out.2.1⟩).gv) ?_
          rintro e w9 ⟨rfl, hb9⟩; rw [decide_eq_true (rfl : encG (dup y) = encG (dup y))]; have F9 := H8.out.2.2.2.2.go hb9; refine op1 F9 ?_; intros; have H9 := Hd5 (And.intro (H8.out.1.1.go hb9) (H8.out.1.2.go hb9)) (H8.out.2.1.go hb9) (And.intro (H8.out.2.2.1.1.go hb9) (H8.out.2.2.1.2.go hb9)) (And.intro (H8.out.2.2.2.1.1.go hb9) (H8.out.2.2.2.1.2.go hb9)) F9
          clear hb9 F9)
       | (have g' := H7.out; clear g'
          refine Cl 11 (gout_right (R.out.outH (H.out.1.go (HW.out.2.2.2.trans (H7.out.2.2.2.bl.mono HW.out.2.2.2.size))) (HI.out.go (HW.out.2.2.2.trans (H7.out.2.2.2.bl.mono HW.out.2.2.2.size)))) R.out.under) ?_; rintro e w8 ⟨p8, q8, A8, n8, c8, B8, m8, d8, p9, q9, A9, n9, c9, B9, m9, d9, rfl, g1, g2, hb8⟩; rw [HG.out] at g1 g2; obtain ⟨W8, hW8, hbW8, F8⟩ := nam2 (w := w8) ((H7.out.2.2.2.go hb8).a w8.heap.size [.bool p8, .slice A8 n8 c8, .bool q8, .slice B8 m8 d8, .bool p9, .slice A9 n9 c9, .bool q9, .slice B9 m9 d9] 33); refine op1 F8 ?_; intros; have hb78 := hb8.trans (hbW8.mono hb8.size); have H8 := Hd5 (And.intro (H7.out.1.1.go hb78) (H7.out.1.2.go hb78)) (H7.out.2.1.go hb78) (And.intro (H7.out.2.2.1.1.go hb78) (H7.out.2.2.1.2.go hb78)) (And.intro (g1.go hbW8) (g2.go hbW8)) F8
          clear g1 g2 hb8 hbW8 hb78 F8)
       | (have g' := H6.out; clear g'
          have OS : OutH W6 [] A n c A7 j c7 p (lessN L L2 j) := ⟨Bel.nil _, H.out.1.go (HW.out.2.2.2.trans (H6.out.2.2.bl.mono HW.out.2.2.2.size)), HW.out.2.1.go H6.out.2.2.bl, R.out.ce, R.out.few, R.out.len, PH.out.regsS⟩
          refine Cl 11 (gout_right OS PH.out.undS) ?_; rintro e w7 ⟨p6, q6, A6x, n6, c6x, B6, m6, d6, p7, q7, A7x, n7, c7x, B7, m7, d7, rfl, g1, g2, hb7⟩; have oS := HS.out ▸ OS.res_ok; rw [HS.out] at g1 g2; have s1 := PH.out.sub1; have s2 := PH.out.sub2; rw [HP.out, HS.out] at s1; rw [HS.out, HG.out] at s2; have HO := Hd5 YO.out oS s1.1 s1.2 (And.intro s2.1 s2.2); obtain ⟨W7, hW7, hbW7, F7⟩ := nam2 (w := w7) ((H6.out.2.2.go hb7).a w7.heap.size [.bool p6, .slice A6x n6 c6x, .bool q6, .slice B6 m6 d6, .bool p7, .slice A7x n7 c7x, .bool q7, .slice B7 m7 d7] 33); have hb67 := hb7.trans (hbW7.mono hb7.size); have H7 := Hd4 (And.intro (H6.out.1.1.go hb67) (H6.out.1.2.go hb67)) (H6.out.2.1.go hb67) (And.intro (g1.go hbW7) (g2.go hbW7)) F7
          clear g1 g2 hb7 hbW7 hb67 F7 OS oS s1 s2)
       | (have RH : RunH W5 [] A n c _ j c3 p L := ⟨Bel.nil _, H.out.1.go (HW.out.2.2.2.trans (H5.out.2.bl.mono HW.out.2.2.2.size)), HW.out.2.2.1.go H5.out.2.bl, R.out.ce, R.out.few, R.out.len, PH.out.regsL⟩
          refine Cl 20 (U.crun_any RH) ?_; rintro e w6 ⟨u6, rfl, z6, hb6⟩; rw [HY.out] at z6; have YO := Hd (HY.out ▸ RH.res_ok); obtain ⟨p5, q5, A5, n5, c5, B5, m5, d5, rfl, qc6⟩ := QC.of z6; obtain ⟨W6, hW6, hbW6, F6⟩ := nam2 (w := w6) ((H5.out.2.go hb6).a w6.heap.size [.bool p5, .slice A5 n5 c5, .bool q5, .slice B5 m5 d5] 31); have hb56 := hb6.trans (hbW6.mono hb6.size); have H6 := Hd3 (And.intro (H5.out.1.1.go hb56) (H5.out.1.2.go hb56)) (qc6.go hbW6) F6
          clear z6 hb6 hbW6 hb56 F6 qc6 RH)
       | (have OP : OutH wr [] A n c A6 j c6 p (L.map dup) := ⟨Bel.nil _, H.out.1.go HW.out.2.2.2, HW.out.1, R.out.ce, R.out.few, R.out.len, PH.out.regsP⟩
          refine Cl 11 (gout_right OP PH.out.undP) ?_; rintro e w5 ⟨p1, q1, A1, n1, c1, B1, m1, d1, p2, q2, A2, n2, c2, B2, m2, d2, rfl, g1, g2, hb5⟩; rw [HP.out] at g1 g2; obtain ⟨W5, hW5, hbW5, F5⟩ := nam2 (w := w5) ((F0.out.go hb5).a w5.heap.size [.bool p1, .slice A1 n1 c1, .bool q1, .slice B1 m1 d1, .bool p2, .slice A2 n2 c2, .bool q2, .slice B2 m2 d2] 33); have H5 := Hd2 (And.intro (g1.go hbW5) (g2.go hbW5)) F5
          clear g1 g2 hb5 hbW5 F5 OP)
       | (refine ⟨trivial, ?_⟩))
      go_ret; exact ⟨by first | rfl | simp, HZ.out⟩
end
end Go.Proofs.YtboapndkopabiaaGreat
