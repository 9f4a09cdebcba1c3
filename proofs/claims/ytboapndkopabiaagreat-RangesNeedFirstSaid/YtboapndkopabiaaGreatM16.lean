/- Lemmas and walks (Val1 Row20 Fr Rat8 Nat18). No statement is proved here. -/
import Derived.Test.YtboapndkopabiaaGreatM15
set_option linter.unusedVariables false
set_option linter.unusedSimpArgs false
namespace Go.Proofs.YtboapndkopabiaaGreat
section
open Go.RowKit
def RV (w : World) (M : List Nat) (v : Value) (x : RatR) : Prop :=
 ∃ A n c B m d, v = .agg #[.bool x.1.1, .slice A n c, .bool x.2.1, .slice B m d] ∧ Sl Int w M A n c x.1.2 ∧ Sl Int w M B m d x.2.2
theorem RV.go {w w' : World} {M : List Nat} {v : Value} {x : RatR} (h : RV w M v x) (hb : Below w.heap.size w w') : RV w' M v x := by
 obtain ⟨A, n, c, B, m, d, rfl, h1, h2⟩ := h
 exact ⟨A, n, c, B, m, d, rfl, h1.go hb, h2.go hb⟩
theorem QW.rv {w : World} {M : List Nat} {v : Value} {r : Rt} (h : QW w M v r) : RV w M v (encQ r) := h
theorem RV.qw {w : World} {M : List Nat} {v : Value} {r : Rt} (h : RV w M v (encQ r)) : QW w M v r := h
theorem rd_rat {w : World} {M : List Nat} {x : RatR} {cs : List Value} (h : Rep.rd w M x cs) :
 ∃ A n c B m d, cs = [.bool x.1.1, .slice A n c, .bool x.2.1, .slice B m d] ∧ Sl Int w M A n c x.1.2 ∧ Sl Int w M B m d x.2.2 := by
 obtain ⟨ds, fs, rfl, ⟨ds1, fs1, rfl, h3, A1, n1, c1, rfl, h4⟩, ⟨ds2, fs2, rfl, h5, A2, n2, c2, rfl, h6⟩⟩ := h
 have h3 : ds1 = [.bool x.1.1] := h3
 have h5 : ds2 = [.bool x.2.1] := h5
 subst h3
 subst h5
 exact ⟨A1, n1, c1, A2, n2, c2, rfl, h4, h6⟩
theorem rat_rd {w : World} {M : List Nat} {x : RatR} {A B : Option Addr} {n c m d : Nat} (h1 : Sl Int w M A n c x.1.2) (h2 : Sl Int w M B m d x.2.2) : Rep.rd w M x [.bool x.1.1, .slice A n c, .bool x.2.1, .slice B m d] :=
 ⟨[.bool x.1.1, .slice A n c], [.bool x.2.1, .slice B m d], rfl, ⟨[.bool x.1.1], [.slice A n c], rfl, rfl, A, n, c, rfl, h1⟩, ⟨[.bool x.2.1], [.slice B m d], rfl, rfl, B, m, d, rfl, h2⟩⟩
def GV (w : World) (M : List Nat) (v : Value) (x : RngR) : Prop :=
 ∃ A n c B m d E i e F j f, v = .agg #[.bool x.1.1.1, .slice A n c, .bool x.1.2.1, .slice B m d, .bool x.2.1.1, .slice E i e, .bool x.2.2.1, .slice F j f] ∧
  Sl Int w M A n c x.1.1.2 ∧ Sl Int w M B m d x.1.2.2 ∧ Sl Int w M E i e x.2.1.2 ∧ Sl Int w M F j f x.2.2.2
theorem GV.go {w w' : World} {M : List Nat} {v : Value} {x : RngR} (h : GV w M v x) (hb : Below w.heap.size w w') : GV w' M v x := by
 obtain ⟨A, n, c, B, m, d, E, i, e, F, j, f, rfl, h1, h2, h3, h4⟩ := h
 exact ⟨A, n, c, B, m, d, E, i, e, F, j, f, rfl, h1.go hb, h2.go hb, h3.go hb, h4.go hb⟩
theorem rd_rng {w : World} {M : List Nat} {x : RngR} {cs : List Value} (h : Rep.rd w M x cs) :
 ∃ A n c B m d E i e F j f, cs = [.bool x.1.1.1, .slice A n c, .bool x.1.2.1, .slice B m d, .bool x.2.1.1, .slice E i e, .bool x.2.2.1, .slice F j f] ∧
  Sl Int w M A n c x.1.1.2 ∧ Sl Int w M B m d x.1.2.2 ∧ Sl Int w M E i e x.2.1.2 ∧ Sl Int w M F j f x.2.2.2 := by
 obtain ⟨ds, fs, rfl, h1, h2⟩ := h
 obtain ⟨A, n, c, B, m, d, rfl, g1, g2⟩ := rd_rat h1
 obtain ⟨E, i, e, F, j, f, rfl, g3, g4⟩ := rd_rat h2
 exact ⟨A, n, c, B, m, d, E, i, e, F, j, f, rfl, g1, g2, g3, g4⟩
theorem rng_rd {w : World} {M : List Nat} {x : RngR} {A B E F : Option Addr} {n c m d i e j f : Nat} (h1 : Sl Int w M A n c x.1.1.2) (h2 : Sl Int w M B m d x.1.2.2) (h3 : Sl Int w M E i e x.2.1.2) (h4 : Sl Int w M F j f x.2.2.2) :
 Rep.rd w M x [.bool x.1.1.1, .slice A n c, .bool x.1.2.1, .slice B m d, .bool x.2.1.1, .slice E i e, .bool x.2.2.1, .slice F j f] := ⟨_, _, rfl, rat_rd h1 h2, rat_rd h3 h4⟩
theorem Sl.ratat {w : World} {M : List Nat} {A : Option Addr} {n c : Nat} {xs : List RatR} (h : Sl RatR w M A n c xs) {k : Nat} {x : RatR} (hk : xs[k]? = some x) :
 ∃ b o A1 n1 c1 A2 n2 c2, A = some ⟨b, o, none⟩ ∧ w.cell? ⟨b, o + k * 4, none⟩ = some (.bool x.1.1) ∧ w.cell? ⟨b, o + k * 4 + 1, none⟩ = some (.slice A1 n1 c1) ∧ w.cell? ⟨b, o + k * 4 + 2, none⟩ = some (.bool x.2.1) ∧ w.cell? ⟨b, o + k * 4 + 3, none⟩ = some (.slice A2 n2 c2) ∧
  Sl Int w M A1 n1 c1 x.1.2 ∧ Sl Int w M A2 n2 c2 x.2.2 := h.ratd (p := x.1.1) (l1 := x.1.2) (q := x.2.1) (l2 := x.2.2) hk
theorem Sl.rngat {w : World} {M : List Nat} {A : Option Addr} {n c : Nat} {xs : List RngR} (h : Sl RngR w M A n c xs) {k : Nat} {x : RngR} (hk : xs[k]? = some x) :
 ∃ b o A1 n1 c1 A2 n2 c2 A3 n3 c3 A4 n4 c4, A = some ⟨b, o, none⟩ ∧
  (w.cell? ⟨b, o + k * 8, none⟩ = some (.bool x.1.1.1) ∧ w.cell? ⟨b, o + k * 8 + 1, none⟩ = some (.slice A1 n1 c1) ∧ w.cell? ⟨b, o + k * 8 + 2, none⟩ = some (.bool x.1.2.1) ∧ w.cell? ⟨b, o + k * 8 + 3, none⟩ = some (.slice A2 n2 c2)) ∧
  (w.cell? ⟨b, o + k * 8 + 4, none⟩ = some (.bool x.2.1.1) ∧ w.cell? ⟨b, o + k * 8 + 5, none⟩ = some (.slice A3 n3 c3) ∧ w.cell? ⟨b, o + k * 8 + 6, none⟩ = some (.bool x.2.2.1) ∧ w.cell? ⟨b, o + k * 8 + 7, none⟩ = some (.slice A4 n4 c4)) ∧
  (Sl Int w M A1 n1 c1 x.1.1.2 ∧ Sl Int w M A2 n2 c2 x.1.2.2) ∧ (Sl Int w M A3 n3 c3 x.2.1.2 ∧ Sl Int w M A4 n4 c4 x.2.2.2) := by
 obtain ⟨b, o, es, rfl, h1, h2⟩ := h.get hk
 obtain ⟨A, n, c, B, m, d, E, i, e, F, j, f, rfl, g1, g2, g3, g4⟩ := rd_rng h1
 have h3 := h2.2
 exact ⟨b, o, A, n, c, B, m, d, E, i, e, F, j, f, rfl, ⟨h3 0 _ rfl, h3 1 _ rfl, h3 2 _ rfl, h3 3 _ rfl⟩, ⟨h3 4 _ rfl, h3 5 _ rfl, h3 6 _ rfl, h3 7 _ rfl⟩, ⟨g1, g2⟩, g3, g4⟩
theorem rd_ins {w : World} {M : List Nat} {op a b c d : Int} {r : RatR} {cs : List Value} (h : Rep.rd w M ((op, a, b, c, d, r) : InsR) cs) :
 ∃ A n k B m l, cs = [.int .i64 op, .int .i64 a, .int .i64 b, .int .i64 c, .int .i64 d, .bool r.1.1, .slice A n k, .bool r.2.1, .slice B m l] ∧ (i64 op ∧ i64 a ∧ i64 b ∧ i64 c ∧ i64 d) ∧ Sl Int w M A n k r.1.2 ∧ Sl Int w M B m l r.2.2 := by
 obtain ⟨_, _, rfl, ⟨rfl, i1⟩, _, _, rfl, ⟨rfl, i2⟩, _, _, rfl, ⟨rfl, i3⟩, _, _, rfl, ⟨rfl, i4⟩, _, _, rfl, ⟨rfl, i5⟩, h⟩ := h
 obtain ⟨A, n, k, B, m, l, rfl, h1, h2⟩ := rd_rat h
 exact ⟨A, n, k, B, m, l, rfl, ⟨i1, i2, i3, i4, i5⟩, h1, h2⟩
theorem ins_rd {w : World} {M : List Nat} {op a b c d : Int} {r : RatR} {A B : Option Addr} {n k m l : Nat} (hi : i64 op ∧ i64 a ∧ i64 b ∧ i64 c ∧ i64 d) (h1 : Sl Int w M A n k r.1.2) (h2 : Sl Int w M B m l r.2.2) :
 Rep.rd w M ((op, a, b, c, d, r) : InsR) [.int .i64 op, .int .i64 a, .int .i64 b, .int .i64 c, .int .i64 d, .bool r.1.1, .slice A n k, .bool r.2.1, .slice B m l] := by
 obtain ⟨i1, i2, i3, i4, i5⟩ := hi
 exact ⟨[_], _, rfl, ⟨rfl, i1⟩, [_], _, rfl, ⟨rfl, i2⟩, [_], _, rfl, ⟨rfl, i3⟩, [_], _, rfl, ⟨rfl, i4⟩, [_], _, rfl, ⟨rfl, i5⟩, rat_rd h1 h2⟩
theorem Sl.insat {w : World} {M : List Nat} {A : Option Addr} {n c : Nat} {xs : List InsR} (h : Sl InsR w M A n c xs) {k : Nat} {op a b' c' d : Int} {r : RatR} (hk : xs[k]? = some (op, a, b', c', d, r)) :
 ∃ b o A1 n1 c1 A2 n2 c2, A = some ⟨b, o, none⟩ ∧
  (w.cell? ⟨b, o + k * 9, none⟩ = some (.int .i64 op) ∧ w.cell? ⟨b, o + k * 9 + 1, none⟩ = some (.int .i64 a) ∧ w.cell? ⟨b, o + k * 9 + 2, none⟩ = some (.int .i64 b') ∧ w.cell? ⟨b, o + k * 9 + 3, none⟩ = some (.int .i64 c') ∧ w.cell? ⟨b, o + k * 9 + 4, none⟩ = some (.int .i64 d)) ∧
  (w.cell? ⟨b, o + k * 9 + 5, none⟩ = some (.bool r.1.1) ∧ w.cell? ⟨b, o + k * 9 + 6, none⟩ = some (.slice A1 n1 c1) ∧ w.cell? ⟨b, o + k * 9 + 7, none⟩ = some (.bool r.2.1) ∧ w.cell? ⟨b, o + k * 9 + 8, none⟩ = some (.slice A2 n2 c2)) ∧
  (i64 op ∧ i64 a ∧ i64 b' ∧ i64 c' ∧ i64 d) ∧ Sl Int w M A1 n1 c1 r.1.2 ∧ Sl Int w M A2 n2 c2 r.2.2 := by
 obtain ⟨b, o, es, rfl, h1, h2⟩ := h.get hk
 obtain ⟨A, n, k', B, m, l, rfl, hi, g1, g2⟩ := rd_ins h1
 have h3 := h2.2
 exact ⟨b, o, A, n, k', B, m, l, rfl, ⟨h3 0 _ rfl, h3 1 _ rfl, h3 2 _ rfl, h3 3 _ rfl, h3 4 _ rfl⟩, ⟨h3 5 _ rfl, h3 6 _ rfl, h3 7 _ rfl, h3 8 _ rfl⟩, hi, g1, g2⟩
theorem Sl.lit {α : Type} [Rep1 α] {w : World} {M : List Nat} (hM : Bel M w) (e : TypeId) {cs : List Value} {n : Nat} {xs : List α} (hn : xs.length = n) (hs : n ≤ 1000000)
 (h : ∀ k x, xs[k]? = some x → ∃ es, Rep.rd w M x es ∧ ∀ j u, es[j]? = some u → cs[k * Rep.sz α + j]? = some u) : Sl α (w.alloc (.cells cs.toArray e)) M (some ⟨w.heap.size, 0, none⟩) n n xs := by
 have hb : Below w.heap.size w (w.alloc (.cells cs.toArray e)) := by exact bel
 refine ⟨hn, Nat.le_refl _, by unfold capOk; omega, by omega, .inr ⟨w.heap.size, 0, rfl, fun k x hk => ?_⟩⟩
 obtain ⟨es, h1, h2⟩ := h k x hk
 refine ⟨es, Rep.keep h1 (Keeps.of_below hb M), fun hm => by have := hM _ hm; omega, fun j u hu => ?_⟩
 have h3 := h2 j u hu
 have hn := heap_alloc_new w (.cells cs.toArray e)
 generalize w.alloc (.cells cs.toArray e) = W2 at hn ⊢
 generalize w.heap.size = q at hn ⊢
 simp [World.cell?, hn, h3]
end
section
open Go.ChangeShapes Go.WideShapes Go.ChangeAt Go.RowKit Go.Deep Go.Joins
set_option maxRecDepth 100000
theorem Tryz.own : ownKnob Tryz.prog.godebug = none := by kernel_rfl
theorem Tryz.laidOut : laidOutB Tryz.prog = true := by kernel_rfl
theorem opens_digs : Opens (List Int) Tryz.prog 27 := opens_slice Tryz.underlying27 (by kernel_rfl) (by decide +kernel) (opens_int Tryz.underlying3)
theorem opens_big : Opens BigR Tryz.prog 29 := opens_struct Tryz.underlying29 (by kernel_rfl) (opens_next rfl (by kernel_rfl) (opens_bool Tryz.underlying4) (opens_last rfl (by kernel_rfl) opens_digs))
theorem opens_rat : Opens RatR Tryz.prog 31 := opens_struct Tryz.underlying31 (by kernel_rfl) (opens_next rfl (by kernel_rfl) opens_big (opens_last rfl (by kernel_rfl) opens_big))
theorem opens_rng : Opens RngR Tryz.prog 33 := opens_struct Tryz.underlying33 (by kernel_rfl) (opens_next rfl (by kernel_rfl) opens_rat (opens_last rfl (by kernel_rfl) opens_rat))
theorem opens_ins : Opens InsR Tryz.prog 55 := opens_struct Tryz.underlying55 (by kernel_rfl)
 (opens_next rfl (by kernel_rfl) (opens_int Tryz.underlying3) (opens_next rfl (by kernel_rfl) (opens_int Tryz.underlying3) (opens_next rfl (by kernel_rfl) (opens_int Tryz.underlying3) (opens_next rfl (by kernel_rfl) (opens_int Tryz.underlying3) (opens_next rfl (by kernel_rfl) (opens_int Tryz.underlying3) (opens_last rfl (by kernel_rfl) opens_rat))))))
theorem opens_inss : Opens (List InsR) Tryz.prog 22 := opens_slice Tryz.underlying22 (by kernel_rfl) (by decide +kernel) opens_ins
theorem opens_rngs : Opens (List RngR) Tryz.prog 23 := opens_slice Tryz.underlying23 (by kernel_rfl) (by decide +kernel) opens_rng
theorem opens_rats : Opens (List RatR) Tryz.prog 39 := opens_slice Tryz.underlying39 (by kernel_rfl) (by decide +kernel) opens_rat
section
variable {H : Type} {enc : TypeId × Value → H} {W : World} {v : Value} {d : DataW H} {p : List MemPlace} {b : Nat}
theorem arg_code (hv : Value.okWide Tryz.prog W .any b 22 v) (h : DataW.Trod enc Tryz.prog W 0 (fun _ => true) true 22 v d p) (hw : ∀ n, n ∈ d.weights Tryz.prog 22 → n ≤ reachBytes) :
 ∃ A n c xs, v = .slice A n c ∧ Sl InsR W [] A n c xs := by
 obtain ⟨A, n, c, rfl⟩ := okWide_slice Tryz.underlying22 hv
 obtain ⟨fuel, hf⟩ := h
 obtain ⟨xs, A', n', c', e, hs⟩ := opens_inss H enc W true fuel _ d p hf hw
 simp [Value.cells] at e
 obtain ⟨rfl, rfl, rfl⟩ := e
 exact ⟨A, n, c, xs, rfl, hs⟩
theorem arg_rngs (hv : Value.okWide Tryz.prog W .any b 23 v) (h : DataW.Trod enc Tryz.prog W 0 (fun _ => true) true 23 v d p) (hw : ∀ n, n ∈ d.weights Tryz.prog 23 → n ≤ reachBytes) :
 ∃ A n c xs, v = .slice A n c ∧ Sl RngR W [] A n c xs := by
 obtain ⟨A, n, c, rfl⟩ := okWide_slice Tryz.underlying23 hv
 obtain ⟨fuel, hf⟩ := h
 obtain ⟨xs, A', n', c', e, hs⟩ := opens_rngs H enc W true fuel _ d p hf hw
 simp [Value.cells] at e
 obtain ⟨rfl, rfl, rfl⟩ := e
 exact ⟨A, n, c, xs, rfl, hs⟩
theorem arg_rats (hv : Value.okWide Tryz.prog W .any b 39 v) (h : DataW.Trod enc Tryz.prog W 0 (fun _ => true) true 39 v d p) (hw : ∀ n, n ∈ d.weights Tryz.prog 39 → n ≤ reachBytes) :
 ∃ A n c xs, v = .slice A n c ∧ Sl RatR W [] A n c xs := by
 obtain ⟨A, n, c, rfl⟩ := okWide_slice Tryz.underlying39 hv
 obtain ⟨fuel, hf⟩ := h
 obtain ⟨xs, A', n', c', e, hs⟩ := opens_rats H enc W true fuel _ d p hf hw
 simp [Value.cells] at e
 obtain ⟨rfl, rfl, rfl⟩ := e
 exact ⟨A, n, c, xs, rfl, hs⟩
theorem arg_int (hv : Value.okWide Tryz.prog W .any b 3 v) (h : DataW.Trod enc Tryz.prog W 0 (fun _ => true) true 3 v d p) : ∃ x, v = .int .i64 x ∧ i64 x := by
 obtain ⟨x, rfl, -, -, wx⟩ := open_int Tryz.underlying3 hv h
 exact ⟨x, rfl, wf_i64 wx⟩
theorem arg_rat (hv : Value.okWide Tryz.prog W .any b 31 v) (h : DataW.Trod enc Tryz.prog W 0 (fun _ => true) true 31 v d p) (hw : ∀ n, n ∈ d.weights Tryz.prog 31 → n ≤ reachBytes) :
 ∃ p q A n c B m k x, v = .agg #[.bool p, .slice A n c, .bool q, .slice B m k] ∧ (x : RatR).1.1 = p ∧ x.2.1 = q ∧ Sl Int W [] A n c x.1.2 ∧ Sl Int W [] B m k x.2.2 := by
 obtain ⟨cs, rfl, hsz⟩ := okWide_struct Tryz.underlying31 hv
 obtain ⟨fuel, hg⟩ := h
 rw [show (Value.cells (.agg cs)).toList = cs.toList from rfl] at hg
 obtain ⟨x, hx⟩ := opens_rat H enc W true fuel _ d p hg hw
 obtain ⟨A, n, c, B, m, k, e, h1, h2⟩ := rd_rat hx
 have e2 : cs = #[.bool x.1.1, .slice A n c, .bool x.2.1, .slice B m k] := by apply Array.toList_inj.1; rw [e]
 subst e2
 exact ⟨_, _, A, n, c, B, m, k, x, rfl, rfl, rfl, h1, h2⟩
end
end
section
open Go.RowKit
def CellsK (W : World) (b : Nat) : Nat → List Value → Prop → Prop
 | _, [], K => K
 | j, v :: vs, K => W.cell? ⟨b, j, none⟩ = some v ∧ W.frozen? ⟨b, j, none⟩ = false ∧ CellsK W b (j + 1) vs K
def At (W : World) : List (Nat × List Value) → Prop
 | [] => True
 | (b, vs) :: L => CellsK W b 0 vs (At W L)
theorem cellsK_of {W : World} {b : Nat} {K : Prop} (hK : K) : ∀ (vs : List Value) (j : Nat), (∀ i u, vs[i]? = some u → W.cell? ⟨b, j + i, none⟩ = some u ∧ W.frozen? ⟨b, j + i, none⟩ = false) → CellsK W b j vs K
 | [], _, _ => hK
 | v :: vs, j, h => ⟨by simpa using (h 0 v rfl).1, by simpa using (h 0 v rfl).2, cellsK_of hK vs (j + 1) fun i u hu => by
   have := h (i + 1) u (by simpa using hu)
   rwa [show j + (i + 1) = j + 1 + i by omega] at this⟩
structure Fr (w W : World) (L : List (Nat × List Value)) : Prop where
 bl : Below w.heap.size w W
 at_ : ∀ b vs, (b, vs) ∈ L → ∀ i u, vs[i]? = some u → W.cell? ⟨b, i, none⟩ = some u ∧ W.frozen? ⟨b, i, none⟩ = false
 lt : ∀ b vs, (b, vs) ∈ L → b < W.heap.size
 ge : ∀ b vs, (b, vs) ∈ L → w.heap.size ≤ b
section
variable {w W W' : World} {L : List (Nat × List Value)}
theorem at_of {W : World} : ∀ (L : List (Nat × List Value)), (∀ b vs, (b, vs) ∈ L → ∀ i u, vs[i]? = some u → W.cell? ⟨b, i, none⟩ = some u ∧ W.frozen? ⟨b, i, none⟩ = false) → At W L
 | [], _ => trivial
 | (b, vs) :: L, h => cellsK_of (at_of L fun b' vs' hm => h b' vs' (List.mem_cons_of_mem _ hm)) vs 0 fun i u hu => by
   have := h b vs List.mem_cons_self i u hu
   rwa [Nat.zero_add]
theorem Fr.openAt (h : Fr w W L) : At W L := at_of L h.at_
theorem Fr.nil (w : World) : Fr w w [] := ⟨Below.refl _ _, fun _ _ h => by simp at h, fun _ _ h => by simp at h, fun _ _ h => by simp at h⟩
theorem Fr.go (h : Fr w W L) (hb : Below W.heap.size W W') : Fr w W' L :=
 ⟨h.bl.trans (hb.mono h.bl.size), fun b vs hm i u hu => by
  have hl := h.lt b vs hm; have := h.at_ b vs hm i u hu
  exact ⟨(hb.cell (p := ⟨b, i, none⟩) hl).trans this.1, (hb.frozen (p := ⟨b, i, none⟩) hl).trans this.2⟩, fun b vs hm => Nat.lt_of_lt_of_le (h.lt b vs hm) hb.size, h.ge⟩
theorem Fr.drew (h : Fr w W L) : Fr w W.drew L := ⟨h.bl.drew, h.at_, h.lt, h.ge⟩
theorem Fr.al (h : Fr w W L) (b : Nat) (vs : List Value) (ty : TypeId) (hb : b = W.heap.size) : Fr w (W.alloc (.cells vs.toArray ty)) (L ++ [(b, vs)]) := by
 subst hb
 have hs := h.bl.size
 refine ⟨h.bl.alloc hs _, fun b' vs' hm i u hu => ?_, fun b' vs' hm => ?_, fun b' vs' hm => ?_⟩
 · rcases List.mem_append.1 hm with hm | hm
   · have hl := h.lt _ _ hm
     have := h.at_ _ _ hm i u hu; exact ⟨cell_al _ this.1, free_al _ this.1 this.2⟩
   · simp only [List.mem_singleton, Prod.mk.injEq] at hm
     obtain ⟨rfl, rfl⟩ := hm
     constructor
     · have hn := heap_alloc_new W (.cells vs'.toArray ty)
       generalize W.alloc (.cells vs'.toArray ty) = W2 at hn ⊢; generalize W.heap.size = k at hn ⊢
       simp [World.cell?, hn, hu]
     · have hn := heap_alloc_new W (.cells vs'.toArray ty)
       generalize W.alloc (.cells vs'.toArray ty) = W2 at hn ⊢; generalize W.heap.size = k at hn ⊢
       simp [World.frozen?, hn]
 · rcases List.mem_append.1 hm with hm | hm
   · have := h.lt _ _ hm
     simp; omega
   · simp only [List.mem_singleton, Prod.mk.injEq] at hm
     obtain ⟨rfl, rfl⟩ := hm
     simp
 · rcases List.mem_append.1 hm with hm | hm
   · exact h.ge _ _ hm
   · simp only [List.mem_singleton, Prod.mk.injEq] at hm
     obtain ⟨rfl, rfl⟩ := hm; exact hs
theorem Fr.bel {M : List Nat} (h : Fr w W L) (hM : Bel M w) : Bel M W := hM.le h.bl.size
theorem Fr.bel1 {M : List Nat} (h : Fr w W L) (hM : Bel M w) {b : Nat} {vs : List Value} (hb : (b, vs) ∈ L) : Bel (b :: M) W := fun k hk => by
 rcases List.mem_cons.1 hk with rfl | hk
 · exact h.lt _ _ hb
 · exact hM.le h.bl.size k hk
theorem Fr.bel2 {M : List Nat} (h : Fr w W L) (hM : Bel M w) {b c : Nat} {vs us : List Value} (hb : (b, vs) ∈ L) (hc : (c, us) ∈ L) : Bel (b :: c :: M) W := fun k hk => by
 simp only [List.mem_cons] at hk
 rcases hk with rfl | rfl | hk
 · exact h.lt _ _ hb
 · exact h.lt _ _ hc
 · exact hM.le h.bl.size k hk
end
theorem Sl.moreL {α : Type} [Rep1 α] {w : World} {M : List Nat} {A : Option Addr} {n c : Nat} {xs : List α} (h : Sl α w M A n c xs) : ∀ (L : List Nat), (∀ k, k ∈ L → w.heap.size ≤ k) → Sl α w (L ++ M) A n c xs
 | [], _ => h
 | b :: L, hL => (Sl.moreL h L (fun k hk => hL k (List.mem_cons_of_mem _ hk))).more (hL b List.mem_cons_self)
theorem op1 {w W : World} {L : List (Nat × List Value)} {q : Prop → Prop} {g : Prop} (h : Fr w W L) (k : q g)
 (e : ∀ g, (At W L → g) = q g := by (intro g; simp only [List.nil_append, List.cons_append, At, CellsK, Nat.zero_add, Nat.reduceAdd, and_imp, true_imp_iff]; exact rfl)) : g := by
 rw [← e g] at k; exact k h.openAt
theorem nam {w W : World} {L : List (Nat × List Value)} (h : Fr w W L) : ∃ V, W = V ∧ Fr w V L := ⟨W, rfl, h⟩
theorem nam2 {u w W : World} {L : List (Nat × List Value)} (h : Fr u W L) (hb : Below w.heap.size w W := by exact bel) : ∃ V, W = V ∧ Below w.heap.size w V ∧ Fr u V L := ⟨W, rfl, hb, h⟩
section
variable {w W : World} {L : List (Nat × List Value)}
theorem Fr.a (h : Fr w W L) (b : Nat) (vs : List Value) (ty : TypeId) (hb : b = W.heap.size := by simp) : Fr w (W.alloc (.cells vs.toArray ty)) (L ++ [(b, vs)]) := h.al b vs ty hb
theorem Fr.a4 (h : Fr w W L) (b : Nat) (ty : TypeId) (hb : b = W.heap.size := by simp) : Fr w (W.alloc (.cells #[.bool false, .slice none 0 0, .bool false, .slice none 0 0] ty)) (L ++ [(b, [.bool false, .slice none 0 0, .bool false, .slice none 0 0])]) := h.al b _ ty hb
theorem Fr.a8 (h : Fr w W L) (b : Nat) (ty : TypeId) (hb : b = W.heap.size := by simp) : Fr w (W.alloc (.cells #[.bool false, .slice none 0 0, .bool false, .slice none 0 0, .bool false, .slice none 0 0, .bool false, .slice none 0 0] ty)) (L ++ [(b, [.bool false, .slice none 0 0, .bool false, .slice none 0 0, .bool false, .slice none 0 0, .bool false, .slice none 0 0])]) := h.al b _ ty hb
theorem Fr.ai (h : Fr w W L) (b : Nat) (ty : TypeId) (hb : b = W.heap.size := by simp) : Fr w (W.alloc (.cells #[.int .i64 0, .int .i64 0, .int .i64 0, .int .i64 0, .int .i64 0, .bool false, .slice none 0 0, .bool false, .slice none 0 0] ty)) (L ++ [(b, [.int .i64 0, .int .i64 0, .int .i64 0, .int .i64 0, .int .i64 0, .bool false, .slice none 0 0, .bool false, .slice none 0 0])]) := h.al b _ ty hb
theorem Fr.a0 (h : Fr w W L) (b : Nat) (ty : TypeId) (hb : b = W.heap.size := by simp) : Fr w (W.alloc (.cells #[.int .i64 0] ty)) (L ++ [(b, [.int .i64 0])]) := h.al b _ ty hb
theorem Fr.nth (h : Fr w W L) (k : Nat) {b : Nat} {vs : List Value} (hm : L[k]? = some (b, vs) := by exact rfl) : ∀ (i : Nat) (u : Value), vs[i]? = some u → W.cell? ⟨b, i, none⟩ = some u := fun i u hu => (h.at_ b vs (List.mem_of_getElem? hm) i u hu).1
theorem Fr.ltn (h : Fr w W L) (k : Nat) {b : Nat} {vs : List Value} (hm : L[k]? = some (b, vs) := by exact rfl) : b < W.heap.size := h.lt b vs (List.mem_of_getElem? hm)
theorem Fr.gen (h : Fr w W L) (k : Nat) {b : Nat} {vs : List Value} (hm : L[k]? = some (b, vs) := by exact rfl) : w.heap.size ≤ b := h.ge b vs (List.mem_of_getElem? hm)
theorem Fr.cel (h : Fr w W L) (k i : Nat) {b : Nat} {vs : List Value} {u : Value} (hm : L[k]? = some (b, vs) := by exact rfl) (hu : vs[i]? = some u := by exact rfl) : W.cell? ⟨b, i, none⟩ = some u := (h.at_ b vs (List.mem_of_getElem? hm) i u hu).1
theorem Fr.ceF (h : Fr w W L) (k i : Nat) {b : Nat} {vs : List Value} {u : Value} (hm : L[k]? = some (b, vs) := by exact rfl) (hu : vs[i]? = some u := by exact rfl) : W.frozen? ⟨b, i, none⟩ = false := (h.at_ b vs (List.mem_of_getElem? hm) i u hu).2
end
end
section
open Go.RowKit Go.Shelf
attribute [local go_sem] Oper.semAt_some
theorem big_info : (Tryz.prog.info? 29).map (fun i => (i.zero, i.size, i.bytes)) = some (some (.agg #[.bool false, .slice none 0 0]), 2, 32) := by kernel_rfl
def pairsM : List Int → List Int
 | a :: b :: l => a * b :: pairsM l
 | _ => []
theorem pairs_at : ∀ {zs : List Int} {k : Nat} {a b : Int}, zs[2 * k]? = some a → zs[2 * k + 1]? = some b → (pairsM zs)[k]? = some (a * b)
 | x :: y :: l, 0, a, b, ha, hb => by
   have h1 : x = a := by simpa using ha
   have h2 : y = b := by simpa using hb
   subst h1; subst h2; rfl
 | x :: y :: l, k + 1, a, b, ha, hb => by
   have h1 : l[2 * k]? = some a := by rw [show 2 * (k + 1) = 2 * k + 1 + 1 by omega] at ha; simpa using ha
   have h2 : l[2 * k + 1]? = some b := by rw [show 2 * (k + 1) + 1 = 2 * k + 1 + 1 + 1 by omega] at hb; simpa using hb
   simpa [pairsM] using pairs_at h1 h2
 | [x], k, a, b, ha, hb => by simp at hb
 | [], k, a, b, ha, hb => by simp at hb
theorem pairs_len : ∀ {zs : List Int} {m : Nat}, zs.length = 2 * m → (pairsM zs).length = m
 | [], m, h => by simp at h; simp [pairsM]; omega
 | [x], m, h => by simp at h; omega
 | x :: y :: l, m, h => by
   obtain ⟨k, rfl⟩ : ∃ k, m = k + 1 := ⟨m - 1, by simp at h; omega⟩
   have : l.length = 2 * k := by simp at h; omega
   simp [pairsM, pairs_len this]
theorem rd_big {w : World} {M : List Nat} {z : Int} {A : Option Addr} {n c : Nat} {q : Bool} (hq : zneg z = q) (h : Sl Int w M A n c (ints (zmag z))) : Rep.rd w M (encB z) [.bool q, .slice A n c] := by
 subst hq
 exact ⟨[.bool (zneg z)], [.slice A n c], rfl, rfl, A, n, c, rfl, h⟩
set_option maxHeartbeats 2000000 in
theorem products_any {M : List Nat} (A : Option Addr) (n c m : Nat) (zs : List Int) (w : World) (hM : Bel M w) (hx : Sl BigR w M A n c (zs.map encB)) (hz : ∀ z, z ∈ zs → fits z = true) (hp : ∀ z, z ∈ pairsM zs → fits z = true) (hl : zs.length = 2 * m) (hm : m ≤ 1000) :
 Calls Tryz.prog 44 #[.slice A n c] w fun e w' => ∃ O cO, e = .returned (.slice O m cO) ∧ Sl BigR w' M O m cO ((pairsM zs).map encB) ∧ Below w.heap.size w w' := by
 refine wid ?_
 have hs := hx.small
 have hn : n = 2 * m := by have := hx.len; simp at this; omega
 have hpl := pairs_len hl
 have HNM := Hd hn
 have H := Hd6 hx hM hz hp hl hpl
 clear hx hM hz hp hl hpl hn
 refine ent Tryz.func44 rfl Tryz.ntmps44 ?_
 gi_wp2
 gi_loopw [2, 3] (fun v0 i wr => ∃ (k : Nat) (v : Value), v = v0 ∧ k ≤ m ∧ i = .int .i64 ((2 * k : Nat) : Int) ∧ Hid (OwnS BigR 29 wr M w.heap.size v k (((pairsM zs).take k).map encB)) ∧ Below w.heap.size w wr) (fun _ i _ => n - (intOf i).toNat)
 case atStart => exact ⟨0, _, rfl, Nat.zero_le _, rfl, OwnS.nil _ _ _, Below.refl _ _⟩
 case round =>
  obtain ⟨k, v, rfl, hk, rfl, hO, hb⟩ := hrel
  obtain ⟨j, hj⟩ : ∃ j, 2 * k = j := ⟨_, rfl⟩
  rw [hj]; have HJ := Hd hj
  have k1 : IntKind.i64.wrap ((j : Int) + 1) = ((j + 1 : Nat) : Int) := by have := HNM.out; rw [IntKind.wrap_i64]; omega
  have k2 : IntKind.i64.wrap ((j : Int) + 2) = ((j + 2 : Nat) : Int) := by have := HNM.out; rw [IntKind.wrap_i64]; omega
  by_cases hlt : k < m
  · have hj1 : j < n := by have := HNM.out; omega
    have hj2 : j + 1 < n := by have := HNM.out; omega
    obtain ⟨a, ha⟩ : ∃ a, zs[j]? = some a := ⟨_, List.getElem?_eq_getElem (by rw [H.out.2.2.2.2.1]; omega)⟩
    obtain ⟨b, hbb⟩ : ∃ b, zs[j + 1]? = some b := ⟨_, List.getElem?_eq_getElem (by rw [H.out.2.2.2.2.1]; omega)⟩
    have hpk := pairs_at (zs := zs) (k := k) (by rw [hj]; exact ha) (by rw [hj]; exact hbb); have fab := H.out.2.2.2.1 _ (List.mem_of_getElem? hpk); have fa := H.out.2.2.1 _ (List.mem_of_getElem? ha); have fb := H.out.2.2.1 _ (List.mem_of_getElem? hbb)
    have hown : ∀ q, q ∈ ownL v → w.heap.size ≤ q ∧ q < wr.heap.size := fun q hq => hO.out.lt (mem_ownL.1 hq)
    have hMo : Bel (ownL v ++ M) wr := fun q hq => by
     rcases List.mem_append.1 hq with hq | hq
     · exact (hown q hq).2
     · exact H.out.2.1.le hb.size q hq
    have hxo : Sl BigR wr (ownL v ++ M) A n c (zs.map encB) := (H.out.1.moreL (ownL v) (fun q hq => (hown q hq).1)).keep (Keeps.of_below hb _); obtain ⟨b0, o0, A1, n1, c1, rfl, hc0, hc1, hs1⟩ := hxo.bigd (k := j) (neg := zneg a) (l := ints (zmag a)) (by rw [List.getElem?_map, ha]; rfl); obtain ⟨b0', o0', A2, n2, c2, e0, hc2, hc3, hs2⟩ := hxo.bigd (k := j + 1) (neg := zneg b) (l := ints (zmag b)) (by rw [List.getElem?_map, hbb]; rfl)
    obtain ⟨rfl, rfl⟩ : b0 = b0' ∧ o0 = o0' := by simpa using e0
    have v0 := stays_drew hc0; have v1 := stays_drew hc1; have v2 := stays_drew hc2; have v3 := stays_drew hc3; have S := Hd7 hs1 hs2 hMo hpk fab fa fb; clear hc0 hc1 hc2 hc3 e0 hxo hs1 hs2 hMo hown hpk fab fa fb ha hbb hj; generalize hqa : zneg a = qa at *; generalize hqb : zneg b = qb at *; have HQ := Hd2 hqa hqb; clear hqa hqb; gi_wp2; refine region_E_np [] 15 (by kernel_rfl) (by kernel_rfl) ?_; refine E_rd 0 ?_; refine E_rd 1 ?_; refine E_rd 2 ?_; refine E_rd 3 ?_; refine E_rd 4 ?_; refine E_rd 5 ?_; refine E_rd 6 ?_; refine E_rd 7 ?_; refine E_rd 8 ?_; refine E_rd 9 ?_
    refine E_al 10 fun K hK => ?_; gi_wp2
    refine Cm (nMul_any (M := ownL v ++ M) (a := a) (b := b) (S.out.2.2.1.le (w' := wr.drew) (Nat.le_refl _)) ⟨A1, n1, c1, by rw [HQ.out.1], S.out.1.keep (Keeps.refl _ _).drew⟩ ⟨A2, n2, c2, by rw [HQ.out.2], S.out.2.1.keep (Keeps.refl _ _).drew⟩ S.out.2.2.2.2.2.1 S.out.2.2.2.2.2.2) ?_; rintro e w2 ⟨u2, rfl, hz2, hb2⟩; rw [limI_ok S.out.2.2.2.2.1]; rw [limZ_ok S.out.2.2.2.2.1] at hz2; obtain ⟨A3, n3, c3, rfl, hs3⟩ := hz2
    obtain ⟨q3, hq3⟩ : ∃ q, zneg (a * b) = q := ⟨_, rfl⟩
    rw [hq3]; have G2 := Hd3 hs3 hq3 hb2; clear hs3 hq3; refine hK _ _ ⟨?_, ?_⟩; clear hK K
    · exact Keeps.of_below hb2 []
    refine lit ?_; clear hb2; refine E_rd 11 ?_; refine E_rd 12 ?_
    refine E_al 13 fun K hK => ?_; gi_wp2
    refine Cm (didB_yes (M := ownL v ++ M) (z := a * b) ⟨A3, n3, c3, by rw [G2.out.2.1], G2.out.1⟩) ?_; rintro e w3 ⟨rfl, -, hb3⟩; have hB3 : Below wr.heap.size wr w3 := (Below.refl _ wr).drew.trans (G2.out.2.2.trans (hb3.mono G2.out.2.2.size)); have hO3 := hO.out.go hB3
    have hs33 := (G2.out.1.go hb3)
    have hbw3 : Below w.heap.size w w3 := hb.trans (hB3.mono hb.size)
    have hsl3 : Sl BigR (w3.alloc (.cells #[.bool q3, .slice A3 n3 c3] 29)) (ownL v ++ M) (some ⟨w3.heap.size, 0, none⟩) 1 1 [encB (a * b)] := by
     refine Sl.lit (S.out.2.2.1.le (G2.out.2.2.trans (hb3.mono G2.out.2.2.size)).size) _ (cs := [.bool q3, .slice A3 n3 c3]) rfl (by omega) fun i y hk => ?_
     match i, hk with
     | 0, hk => cases hk; exact ⟨_, rd_big G2.out.2.1 hs33, fun j u hu => by match j, hu with | 0, hu => exact hu | 1, hu => exact hu⟩
    obtain ⟨i0, hi, hz0, hz1, hz2⟩ := info_parts big_info; obtain ⟨v4, w4, r1, r2, r3, r4⟩ := (hO3.go (w' := w3.alloc (.cells #[.bool q3, .slice A3 n3 c3] 29)) (by exact bel)).append (ty := 85) (t := 85) (by simp; have := hbw3.size; omega) Tryz.underlying85 hi hz0 hz1 rfl H.out.2.1 hsl3 (by rw [hz2]; omega) (by omega); have RUN := Hd r1; have R := Hd3 r2 r3 hbw3; clear hsl3 hO3 hB3 hs33 r1 r2 r3 r4 hi hz0 hz1 hz2 hbw3; refine hK _ _ ⟨?_, ?_⟩; clear hK K
    · exact Keeps.of_below hb3 []
    refine lit ?_; clear hb3
    refine E_al 14 fun K hK => ?_; gi_wp2
    refine ⟨Keeps.of_below (by exact bel) _, ?_⟩; refine E_nil 2 (by kernel_rfl) rfl ?_
    refine tail_step fun K hK => ?_
    refine tailStep_op rfl ?_ (fun K' hK' => ?_)
    (focus exact wy)
    refine wpIn_append _ _ _ rfl rfl rfl RUN.out (hK' _ _ (hK _ _ ?_)); clear hK' K' hK K; refine lit ?_
    refine tls fun K hK K' hK' => ?_; gi_wp2
    refine tail_nil _ ?_; simp only [npost]; gi_wp2; refine ⟨⟨k + 1, _, rfl, by omega, by rw [show 2 * (k + 1) = j + 2 by have := HJ.out; omega]; go_num, ?_, ?_⟩, ?_⟩
    · rw [take_snoc S.out.2.2.2.1, List.map_append]
      exact R.out.1
    · exact (R.out.2.2.alloc R.out.2.2.size _).grown R.out.2.1 (by simp; have := R.out.2.2.size; omega) (fun q hq => (hO.out.lt hq).1)
    · simp [intOf]; omega
  · have hkm : k = m := by omega
    subst hkm
    have hj1 : ¬ j + 1 < n := by have := HNM.out; have := HJ.out; omega
    obtain ⟨O, cO, rfl, hsl⟩ := hO.out.sl (by omega) H.out.2.1; rw [List.take_of_length_le (by rw [H.out.2.2.2.2.2]; exact Nat.le_refl _)] at hsl; have HS := Hd hsl; clear hO hsl hj; gi_wp2; go_ret; exact ⟨O, cO, rfl, HS.out, hb⟩
end
section
open Go.RowKit Go.Shelf
attribute [local go_sem] Oper.semAt_some
def cmpI (a b : Int) : Int := if a < b then -1 else if b < a then 1 else 0
theorem cmp_both {a b : Int} (ha : zneg a = true) (hb : zneg b = true) : cmpZ b.natAbs a.natAbs = cmpI a b := by
 have h1 := of_decide_eq_true ha
 have h2 := of_decide_eq_true hb
 unfold cmpZ cmpI
 repeat' split
 all_goals omega
theorem cmp_none {a b : Int} (ha : zneg a = false) (hb : zneg b = false) : cmpZ a.natAbs b.natAbs = cmpI a b := by
 have h1 := of_decide_eq_false ha
 have h2 := of_decide_eq_false hb
 unfold cmpZ cmpI
 repeat' split
 all_goals omega
theorem cmp_first {a b : Int} (ha : zneg a = true) (hb : zneg b = false) : cmpI a b = -1 := by
 have h1 := of_decide_eq_true ha
 have h2 := of_decide_eq_false hb
 unfold cmpI
 rw [if_pos (by omega)]
theorem cmp_second {a b : Int} (ha : zneg a = false) (hb : zneg b = true) : cmpI a b = 1 := by
 have h1 := of_decide_eq_false ha
 have h2 := of_decide_eq_true hb
 unfold cmpI
 rw [if_neg (by omega), if_pos (by omega)]
structure F3 (w W : World) (na nb : Bool) (va vb : Value) : Prop where
 a0 : W.cell? ⟨w.heap.size, 0, none⟩ = some (.bool na)
 a1 : W.cell? ⟨w.heap.size, 1, none⟩ = some va
 b0 : W.cell? ⟨w.heap.size + 1, 0, none⟩ = some (.bool nb)
 b1 : W.cell? ⟨w.heap.size + 1, 1, none⟩ = some vb
 e0 : W.cell? ⟨w.heap.size + 1 + 1, 0, none⟩ = some (.int .i64 0)
 fe : W.frozen? ⟨w.heap.size + 1 + 1, 0, none⟩ = false
 bl : Below w.heap.size w W
 sz : w.heap.size + 3 ≤ W.heap.size
theorem F3.go {w W W' : World} {na nb : Bool} {va vb : Value} (h : F3 w W na nb va vb) (hb : Below W.heap.size W W') : F3 w W' na nb va vb := by
 have hs := h.sz
 have c : ∀ (k o : Nat) (u : Value), k < w.heap.size + 3 → W.cell? ⟨k, o, none⟩ = some u → W'.cell? ⟨k, o, none⟩ = some u := fun k o u hk hu => (hb.cell (p := ⟨k, o, none⟩) (show k < _ by omega)).trans hu
 have f : ∀ (k o : Nat), k < w.heap.size + 3 → W.frozen? ⟨k, o, none⟩ = false → W'.frozen? ⟨k, o, none⟩ = false := fun k o hk hu => (hb.frozen (p := ⟨k, o, none⟩) (show k < _ by omega)).trans hu
 exact ⟨c _ _ _ (by omega) h.a0, c _ _ _ (by omega) h.a1, c _ _ _ (by omega) h.b0, c _ _ _ (by omega) h.b1, c _ _ _ (by omega) h.e0, f _ _ (by omega) h.fe, h.bl.trans (hb.mono h.bl.size), by have := hb.size; omega⟩
theorem F3.start (w : World) (na nb : Bool) (va vb : Value) (ha : va.cells = #[va]) (hb : vb.cells = #[vb]) :
 F3 w (((w.alloc (.cells #[.bool na, va] 29)).alloc (.cells #[.bool nb, vb] 29)).alloc (.cells #[.int .i64 0] 34)) na nb va vb :=
 ⟨by simp [go_sem], by simp [go_sem], by simp [go_sem], by simp [go_sem], by simp [go_sem], by simp [go_sem], by exact bel, by simp⟩
def CR (w : World) (z : Int) (e : Ending) (w' : World) : Prop := e = .returned (.tuple #[.int .i64 z, .int .i64 0]) ∧ Below w.heap.size w w'
set_option maxHeartbeats 2000000 in
theorem nCmp_any {M : List Nat} {va vb : Value} {a b : Int} {w : World} (hM : Bel M w) (ha : ZV w M va a) (hb : ZV w M vb b) (fa : fits a = true) (fb : fits b = true) :
 Calls Tryz.prog 46 #[va, vb] w (CR w (cmpI a b)) := by
 refine wid ?_
 obtain ⟨A, n, c, rfl, hx⟩ := ha
 obtain ⟨B, m, d, rfl, hy⟩ := hb
 obtain ⟨W1, hW1⟩ : ∃ W1 : World, ((w.alloc (.cells #[.bool (zneg a), .slice A n c] 29)).alloc (.cells #[.bool (zneg b), .slice B m d] 29)).alloc (.cells #[.int .i64 0] 34) = W1 := ⟨_, rfl⟩
 have F1 : F3 w W1 (zneg a) (zneg b) (.slice A n c) (.slice B m d) := by rw [← hW1]; exact F3.start w _ _ _ _ rfl rfl
 have hx2 := hx.keep (Keeps.of_below F1.bl _)
 have hy2 := hy.keep (Keeps.of_below F1.bl _)
 have SB := Sl.bigs2 (na := zneg a) (nb := zneg b) (hM.le F1.bl.size) hx2 hy2
 have X := Hd2 hx2 hy2
 have F := Hd F1
 have HF := Hd2 fa fb
 have e0 := F1.a0
 have e1 := F1.a1
 have e2 := F1.b0
 have e3 := F1.b1
 have HSB := Hd (show Sl BigR _ M (some ⟨W1.heap.size, 0, none⟩) 2 2 ([a, b].map encB) from SB)
 clear hx hy hM hx2 hy2 F1 fa fb SB
 have HSB2 : ∀ na nb, zneg a = na → zneg b = nb → Sl BigR (W1.alloc (.cells #[.bool na, .slice A n c, .bool nb, .slice B m d] 29)) M (some ⟨W1.heap.size, 0, none⟩) 2 2 ([a, b].map encB) := by
  rintro na nb rfl rfl; exact HSB.out
 generalize hna : zneg a = na at *
 generalize hnb : zneg b = nb at *
 replace HSB := Hd (HSB2 na nb rfl rfl)
 clear HSB2
 cases na <;> cases nb
 case true.true =>
  have HC := Hd (cmp_both hna hnb); clear hna hnb; refine entd Tryz.func46 rfl Tryz.ntmps46 ?_
  gi_wp2_with (first
   | (refine Cl 98 (compare_any B A m d n c b.natAbs a.natAbs _ (X.out.2.go G2.out.2) (X.out.1.go G2.out.2)) ?_; rintro e w3 ⟨rfl, hb3⟩; rw [HC.out]; have G3 := Hd (G2.out.1.go hb3); have c3 := G3.out.e0; have d3 := G3.out.fe; clear hb3)
   | (refine Cl 97 (checks_any _ 2 2 [a, b] _ HSB.out (by simp [HF.out.1, HF.out.2])) ?_; rintro e w2 ⟨rfl, hb2⟩; have hb3 : Below W1.heap.size W1 w2 := ((Below.refl W1.heap.size W1).alloc (Nat.le_refl _) (.cells #[.bool true, .slice A n c, .bool true, .slice B m d] 29)).trans (hb2.mono (by simp)); have F2 := F.out.go hb3; have v0 := F2.a0; have v1 := F2.a1; have v2 := F2.b0; have v3 := F2.b1; have c2 := F2.e0; have d2 := F2.fe; have G2 := Hd2 F2 hb3; clear hb2 hb3 F2)
   | fail)
  have GG := G3; refine leavesIn_cons (f := 96) (args := #[.pointer (some ⟨w.heap.size + 1 + 1, 0, none⟩)]) (by simp) (by simp) (by simp [go_sem]) (fun _ _ => trivial) ?_; refine (caught_idle ⟨w.heap.size + 1 + 1, 0, none⟩ _).mono ?_; rintro e u' w'' ⟨rfl, rfl, rfl⟩; have r2 := cell_same (u := .int .i64 0) c3; refine ⟨.tuple #[.int .i64 (cmpI a b), .int .i64 0], ?_, rfl, GG.out.bl.setCell (p := ⟨w.heap.size + 1 + 1, 0, none⟩) (by simp; omega) _⟩
  simp [results, Tryz.results46, go_sem, c3]
 case true.false =>
  have HC := Hd (cmp_first hna hnb); clear hna hnb; refine entd Tryz.func46 rfl Tryz.ntmps46 ?_
  gi_wp2_with (first
   | (refine Cl 97 (checks_any _ 2 2 [a, b] _ HSB.out (by simp [HF.out.1, HF.out.2])) ?_; rintro e w2 ⟨rfl, hb2⟩; have hb3 : Below W1.heap.size W1 w2 := ((Below.refl W1.heap.size W1).alloc (Nat.le_refl _) (.cells #[.bool true, .slice A n c, .bool false, .slice B m d] 29)).trans (hb2.mono (by simp)); have F2 := F.out.go hb3; have v0 := F2.a0; have v1 := F2.a1; have v2 := F2.b0; have v3 := F2.b1; have c2 := F2.e0; have d2 := F2.fe; have G2 := Hd2 F2 hb3; clear hb2 hb3 F2)
   | (refine ⟨trivial, ?_⟩))
  have GG := Hd G2.out.1; have c3 := c2; refine leavesIn_cons (f := 96) (args := #[.pointer (some ⟨w.heap.size + 1 + 1, 0, none⟩)]) (by simp) (by simp) (by simp [go_sem]) (fun _ _ => trivial) ?_; refine (caught_idle ⟨w.heap.size + 1 + 1, 0, none⟩ _).mono ?_; rintro e u' w'' ⟨rfl, rfl, rfl⟩; have r2 := cell_same (u := .int .i64 0) c3; refine ⟨.tuple #[.int .i64 (cmpI a b), .int .i64 0], ?_, rfl, GG.out.bl.setCell (p := ⟨w.heap.size + 1 + 1, 0, none⟩) (by simp; omega) _⟩; rw [HC.out]
  simp [results, Tryz.results46, go_sem, c3]
 case false.true =>
  have HC := Hd (cmp_second hna hnb); clear hna hnb; refine entd Tryz.func46 rfl Tryz.ntmps46 ?_
  gi_wp2_with (first
   | (refine Cl 97 (checks_any _ 2 2 [a, b] _ HSB.out (by simp [HF.out.1, HF.out.2])) ?_; rintro e w2 ⟨rfl, hb2⟩; have hb3 : Below W1.heap.size W1 w2 := ((Below.refl W1.heap.size W1).alloc (Nat.le_refl _) (.cells #[.bool false, .slice A n c, .bool true, .slice B m d] 29)).trans (hb2.mono (by simp)); have F2 := F.out.go hb3; have v0 := F2.a0; have v1 := F2.a1; have v2 := F2.b0; have v3 := F2.b1; have c2 := F2.e0; have d2 := F2.fe; have G2 := Hd2 F2 hb3; clear hb2 hb3 F2)
   | (refine ⟨trivial, ?_⟩))
  have GG := Hd G2.out.1; have c3 := c2; refine leavesIn_cons (f := 96) (args := #[.pointer (some ⟨w.heap.size + 1 + 1, 0, none⟩)]) (by simp) (by simp) (by simp [go_sem]) (fun _ _ => trivial) ?_; refine (caught_idle ⟨w.heap.size + 1 + 1, 0, none⟩ _).mono ?_; rintro e u' w'' ⟨rfl, rfl, rfl⟩; have r2 := cell_same (u := .int .i64 0) c3; refine ⟨.tuple #[.int .i64 (cmpI a b), .int .i64 0], ?_, rfl, GG.out.bl.setCell (p := ⟨w.heap.size + 1 + 1, 0, none⟩) (by simp; omega) _⟩; rw [HC.out]
  simp [results, Tryz.results46, go_sem, c3]
 case false.false =>
  have HC := Hd (cmp_none hna hnb); clear hna hnb; refine entd Tryz.func46 rfl Tryz.ntmps46 ?_
  gi_wp2_with (first
   | (refine Cl 98 (compare_any A B n c m d a.natAbs b.natAbs _ (X.out.1.go G2.out.2) (X.out.2.go G2.out.2)) ?_; rintro e w3 ⟨rfl, hb3⟩; rw [HC.out]; have G3 := Hd (G2.out.1.go hb3); have c3 := G3.out.e0; have d3 := G3.out.fe; clear hb3)
   | (refine Cl 97 (checks_any _ 2 2 [a, b] _ HSB.out (by simp [HF.out.1, HF.out.2])) ?_; rintro e w2 ⟨rfl, hb2⟩; have hb3 : Below W1.heap.size W1 w2 := ((Below.refl W1.heap.size W1).alloc (Nat.le_refl _) (.cells #[.bool false, .slice A n c, .bool false, .slice B m d] 29)).trans (hb2.mono (by simp)); have F2 := F.out.go hb3; have v0 := F2.a0; have v1 := F2.a1; have v2 := F2.b0; have v3 := F2.b1; have c2 := F2.e0; have d2 := F2.fe; have G2 := Hd2 F2 hb3; clear hb2 hb3 F2)
   | fail)
  have GG := G3; refine leavesIn_cons (f := 96) (args := #[.pointer (some ⟨w.heap.size + 1 + 1, 0, none⟩)]) (by simp) (by simp) (by simp [go_sem]) (fun _ _ => trivial) ?_; refine (caught_idle ⟨w.heap.size + 1 + 1, 0, none⟩ _).mono ?_; rintro e u' w'' ⟨rfl, rfl, rfl⟩; have r2 := cell_same (u := .int .i64 0) c3; refine ⟨.tuple #[.int .i64 (cmpI a b), .int .i64 0], ?_, rfl, GG.out.bl.setCell (p := ⟨w.heap.size + 1 + 1, 0, none⟩) (by simp; omega) _⟩
  simp [results, Tryz.results46, go_sem, c3]
end
end Go.Proofs.YtboapndkopabiaaGreat
