/-
  An argument that is a row of structs (demonref2.Copy, demonref2.Phrase): from its reading to the list that the walks speak of.
-/
import Derived.Test.YtaonemghafoolaaDoorPLempelUnslidex0
import Derived.Test.YtaonemghafoolaaDoorPLempelTextx0
import Derived.Deep.Slices
import Derived.ChangeSame
import Derived.Carry
namespace Go.Proofs.YtaonemghafoolaaDoor.RowArg
open Go.RowKit Go.ChangeShapes Go.WideShapes Go.Deep Go.Proofs.YtaonemghafoolaaDoorW.PrintWords Go.Proofs.YtaonemghafoolaaDoorW.PrintLast Go.Proofs.YtaonemghafoolaaDoorW.PrintMore
set_option linter.unusedVariables false
theorem laidOut : laidOutB Tryd.prog = true := by kernel_rfl
theorem c46 : Tryd.prog.cellsOf 46 = 4 := by kernel_rfl
theorem c40 : Tryd.prog.cellsOf 40 = 3 := by kernel_rfl
theorem c3 : Tryd.prog.cellsOf 3 = 1 := by kernel_rfl
theorem c4 : Tryd.prog.cellsOf 4 = 1 := by kernel_rfl
theorem c5 : Tryd.prog.cellsOf 5 = 1 := by kernel_rfl
section
variable {H : Type} {enc : TypeId × Value → H} {W : World}
set_option maxRecDepth 100000 in
theorem elem46 {n : Nat} {cs : List Value} {x : DataW H × List MemPlace} (h : DataW.trod enc Tryd.prog W 0 (fun _ => true) true n 46 cs = some x) : ∃ p : PLempelUnslide.S46, PLempelUnslide.k46.K W p cs := by
  obtain ⟨xs, k, _, _, hl, hxl, hf⟩ := DataW.trod_struct Tryd.underlying46 h
  rw [c46] at hl
  have hxl : xs.length = 4 := hxl
  match cs, hl with
  | [v0, v1, v2, v3], _ =>
    match xs, hxl with
    | [y0, y1, y2, y3], _ =>
      have g0 := hf 0 _ rfl
      have g1 := hf 1 _ rfl
      have g2 := hf 2 _ rfl
      have g3 := hf 3 _ rfl
      simp [c3, c4, c5] at g0 g1 g2 g3
      obtain ⟨n0, e0, _⟩ := DataW.trod_int Tryd.underlying3 g0
      obtain ⟨n1, e1, _⟩ := DataW.trod_int Tryd.underlying3 g1
      obtain ⟨n2, e2, _⟩ := DataW.trod_int Tryd.underlying5 g2
      obtain ⟨n3, e3, _⟩ := DataW.trod_bool Tryd.underlying4 g3
      simp only [List.cons.injEq, and_true] at e0 e1 e2 e3
      subst e0; subst e1; subst e2; subst e3
      exact ⟨⟨n0, n1, n2, n3⟩, PLempelUnslide.k46_mk W ⟨n0, n1, n2, n3⟩⟩
set_option maxRecDepth 100000 in
theorem elem40 {n : Nat} {cs : List Value} {x : DataW H × List MemPlace} (h : DataW.trod enc Tryd.prog W 0 (fun _ => true) true n 40 cs = some x) : ∃ p : PLempelText.S40, PLempelText.k40.K W p cs := by
  obtain ⟨xs, k, _, _, hl, hxl, hf⟩ := DataW.trod_struct Tryd.underlying40 h
  rw [c40] at hl
  have hxl : xs.length = 3 := hxl
  match cs, hl with
  | [v0, v1, v2], _ =>
    match xs, hxl with
    | [y0, y1, y2], _ =>
      have g0 := hf 0 _ rfl
      have g1 := hf 1 _ rfl
      have g2 := hf 2 _ rfl
      simp [c3, c4, c5] at g0 g1 g2
      obtain ⟨n0, e0, _⟩ := DataW.trod_int Tryd.underlying3 g0
      obtain ⟨n1, e1, _⟩ := DataW.trod_int Tryd.underlying5 g1
      obtain ⟨n2, e2, _⟩ := DataW.trod_bool Tryd.underlying4 g2
      simp only [List.cons.injEq, and_true] at e0 e1 e2
      subst e0; subst e1; subst e2
      exact ⟨⟨n0, n1, n2⟩, PLempelText.k40_mk W ⟨n0, n1, n2⟩⟩

/-- A row, of whatever elements, if each element's reading names one. -/
theorem row_of {α : Type} [Inhabited α] (K : Kd α) {t e : TypeId} (ht : Tryd.prog.underlying t = some (.slice e)) (hc : Tryd.prog.cellsOf e = K.sz)
    (each : ∀ {n : Nat} {cs : List Value} {x : DataW H × List MemPlace}, DataW.trod enc Tryd.prog W 0 (fun _ => true) true n e cs = some x → ∃ p : α, K.K W p cs)
    {a : Option Addr} {len cap : Nat} {d : DataW H} {ps : List MemPlace} (h : DataW.Trod enc Tryd.prog W 0 (fun _ => true) true t (.slice a len cap) d ps) :
    len ≤ cap ∧ ∃ zs : List α, zs.length = len ∧ Kd.C K W a len zs := by
  obtain ⟨fuel, hf⟩ := h
  rcases open_slice ht hf with ⟨hcs, _⟩ | ⟨x, l, c, m, n, D, Pl, hcs, _, hl, hm, hmm, _, hx⟩
  · simp [Value.cells] at hcs
    obtain ⟨rfl, rfl, rfl⟩ := hcs
    exact ⟨Nat.le_refl _, [], rfl, rfl, by omega, fun h => absurd h (Nat.lt_irrefl 0)⟩
  · simp [Value.cells] at hcs
    obtain ⟨rfl, rfl, rfl⟩ := hcs
    have hmc : m = cap := hmm
    have hx' : ∀ i, i < len → ∃ q : α × List Value, K.K W q.1 q.2 ∧ q.2.length = K.sz ∧ ∀ j u, q.2[j]? = some u → W.cell? (x.add (i * K.sz + j)) = some u := by
      intro i hi
      obtain ⟨cs, h1, h2⟩ := hx i (by omega)
      obtain ⟨p, hp⟩ := each h2
      obtain ⟨_, hlen, hcell⟩ := World.cells?_some h1
      rw [hc] at hlen hcell
      refine ⟨(p, cs), hp, hlen, fun j u hj => ?_⟩
      have hjl : j < cs.length := (List.getElem?_eq_some_iff.1 hj).1
      have hj : cs[j]? = some u := hj
      have := hcell j (by omega)
      rw [hj] at this
      rw [← this, Deep.add_add]
    have hall : ∀ i, ∃ q : α × List Value, i < len → K.K W q.1 q.2 ∧ q.2.length = K.sz ∧ ∀ j u, q.2[j]? = some u → W.cell? (x.add (i * K.sz + j)) = some u := by
      intro i
      by_cases hi : i < len
      · obtain ⟨q, hq⟩ := hx' i hi
        exact ⟨q, fun _ => hq⟩
      · exact ⟨default, fun h => absurd h hi⟩
    obtain ⟨f, hf2⟩ := Classical.axiomOfChoice hall
    have hmax : cap ≤ 9223372036854775807 := Nat.le_trans hm (by decide)
    refine ⟨hl, (List.range len).map fun i => (f i).1, by simp, by simp, by omega, fun _ => ⟨x, rfl, fun j p hj => ?_⟩⟩
    rw [List.getElem?_map] at hj
    obtain ⟨j', hj', rfl⟩ := Option.map_eq_some_iff.1 hj
    have hjl : j < len := by have := (List.getElem?_eq_some_iff.1 hj').1; simpa using this
    rw [List.getElem?_range hjl] at hj'
    obtain rfl := Option.some.inj hj'
    obtain ⟨k1, k2, k3⟩ := hf2 j hjl
    exact ⟨(f j).2, k2, k1, k3⟩
end
end Go.Proofs.YtaonemghafoolaaDoor.RowArg
