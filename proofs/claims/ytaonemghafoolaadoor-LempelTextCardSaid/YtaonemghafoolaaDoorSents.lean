/-
  What the four rows' condition gives the walks: the eight sentinels, no two the same, and the handle of the type error.
-/
import Derived.Test.YtaonemghafoolaaDoorSent
import Derived.Test.YtaonemghafoolaaDoorCode
import Derived.LaidHandle
namespace Go.Proofs.YtaonemghafoolaaDoor
open Go.ChangeShapes Go.WideShapes Go.ChangeAt Go.RowKit
set_option linter.unusedVariables false
theorem Tryd.etype : Tryd.prog.globalNamed "errors.errorType" = some 8 := by kernel_rfl
theorem Tryd.rt : (Tryd.prog.cutTypes.find? (·.1 == "internal/reflectlite.rtype")).map (·.2) = some 94 := by kernel_rfl
theorem Tryd.oneRow : ((List.range 146).filter fun t => Tryd.prog.rowNamed t [101, 114, 114, 111, 114]) = [25] := by kernel_rfl
theorem Tryd.size : Tryd.prog.types.size = 146 := by kernel_rfl
theorem Tryd.gText : Tryd.prog.globalNamed "demon/api.ErrText" = some 2 := by kernel_rfl
theorem Tryd.gZero : Tryd.prog.globalNamed "demon/api.ErrZero" = some 3 := by kernel_rfl
theorem Tryd.gName : Tryd.prog.globalNamed "demon/api.ErrName" = some 4 := by kernel_rfl
theorem Tryd.gNone : Tryd.prog.globalNamed "demon/api.ErrNone" = some 5 := by kernel_rfl
theorem Tryd.gOrder : Tryd.prog.globalNamed "demon/api.ErrOrder" = some 6 := by kernel_rfl
theorem Tryd.gKind : Tryd.prog.globalNamed "demon/api.ErrKind" = some 7 := by kernel_rfl
theorem Tryd.t2 : (Tryd.prog.globals[2]?).map (·.type) = some 25 := by kernel_rfl
theorem Tryd.t3 : (Tryd.prog.globals[3]?).map (·.type) = some 25 := by kernel_rfl
theorem Tryd.t4 : (Tryd.prog.globals[4]?).map (·.type) = some 25 := by kernel_rfl
theorem Tryd.t5 : (Tryd.prog.globals[5]?).map (·.type) = some 25 := by kernel_rfl
theorem Tryd.t6 : (Tryd.prog.globals[6]?).map (·.type) = some 25 := by kernel_rfl
theorem Tryd.t7 : (Tryd.prog.globals[7]?).map (·.type) = some 25 := by kernel_rfl

/-- What a reading's places are: no block of them is frozen, no held function in them. -/
def Fine (P : Program) (W : World) (ps : List MemPlace) : Prop := ∀ b off, MemPlace.cell b off ∈ ps →
  (∃ c t, W.heap[b]? = some (.cells c t (0, 0))) ∧ ∀ u v, W.cell? ⟨b, off, none⟩ = some (.iface u v) → Value.okWide P W .any 0 u v
/-- One sentinel, the head of the list, and the rest. -/
theorem one_laidP {P : Program} {n nm : String} {text : List UInt8} {r : List (String × DataW Unit)} {W : World} {ps : List MemPlace} {g : Nat} {ti tp te ts : TypeId} {ms : Array (String × TypeId)} {f : Field}
    (h : DataW.LaidVars P W ((n, .iface nm (.ptr (.agg [.lit (.string text)]))) :: r) ps) (hrows : Fine P W ps)
    (hg : P.globalNamed n = some g) (ht : (P.globals[g]?).map (·.type) = some ti) (hi : P.underlying ti = some (.interface ms)) (hrow : ∀ u, P.typeName? 3 u = some nm → u = tp)
    (hp : P.underlying tp = some (.pointer te)) (he : P.underlying te = some (.struct #[f])) (hft : f.type = ts) (hfo : f.offset = 0) (hs : P.underlying ts = some .string) (hc : P.cellsOf te = 1) (hcs : P.cellsOf ts = 1) :
    ∃ (a : Addr) (q : List MemPlace), W.cell? ⟨g, 0, none⟩ = some (.iface tp (.pointer (some a))) ∧ (∃ c t, W.heap[a.block]? = some (.cells c t (0, 0))) ∧ DataW.LaidVars P W r q ∧ ps = MemPlace.cell g 0 :: MemPlace.cell a.block a.off :: q := by
  obtain ⟨g0, t0, cs0, f0, p0, q0, hg0, ht0, hv0, hd0, hr, e0⟩ := h
  obtain rfl := Option.some.inj (hg.symm.trans hg0)
  obtain rfl := Option.some.inj (ht.symm.trans ht0)
  subst e0
  obtain ⟨l0⟩ := cs0
  have ok0 : ∀ u v, l0 = [.iface u v] → Value.okWide P W .any 0 u v := fun u v e => by
    subst e
    exact (hrows g 0 (by simp [MemPlace.row])).2 u v (by simpa using World.var?_cell hg0 hv0 0)
  obtain ⟨a0, s0, rfl, hc0, hs0, hz0, rfl⟩ := errorString_of_trod hi hrow hp he hft hfo hs hc hcs hd0 ok0
  exact ⟨a0, q0, by simpa using World.var?_cell hg0 hv0 0, (hrows a0.block a0.off (by simp [MemPlace.row])).1, hr, by simp [MemPlace.row]⟩
theorem one_laid {n : String} {text : List UInt8} {r : List (String × DataW Unit)} {W : World} {ps : List MemPlace} {g : Nat}
    (h : DataW.LaidVars Tryd.prog W ((n, .iface "*errors.errorString" (.ptr (.agg [.lit (.string text)]))) :: r) ps) (hrows : Fine Tryd.prog W ps)
    (hg : Tryd.prog.globalNamed n = some g) (ht : (Tryd.prog.globals[g]?).map (·.type) = some 25) :
    ∃ (a : Addr) (q : List MemPlace), W.cell? ⟨g, 0, none⟩ = some (.iface 108 (.pointer (some a))) ∧ (∃ c t, W.heap[a.block]? = some (.cells c t (0, 0))) ∧ DataW.LaidVars Tryd.prog W r q ∧ ps = MemPlace.cell g 0 :: MemPlace.cell a.block a.off :: q :=
  one_laidP h hrows hg ht Tryd.underlying25 Tryd.row108 Tryd.underlying108 Tryd.underlying130 rfl rfl Tryd.underlying9 Tryd.cells130 Tryd.cells9
theorem nodup_of_map {α β : Type} (f : α → β) : ∀ {l : List α}, (l.map f).Nodup → l.Nodup
  | [], _ => List.nodup_nil
  | a :: l, h => by
    rw [List.map_cons, List.nodup_cons] at h
    rw [List.nodup_cons]
    exact ⟨fun hm => h.1 (List.mem_map_of_mem hm), nodup_of_map f h.2⟩

abbrev laid9 : List (String × DataW Unit) := [("errors.errorType", Rows.laid_errors_errorType), ("demon/api.ErrText", Rows.laid_demon_api_ErrText), ("demon/api.ErrBound", Rows.laid_demon_api_ErrBound), ("demon/api.ErrShape", Rows.laid_demon_api_ErrShape), ("demon/api.ErrZero", Rows.laid_demon_api_ErrZero), ("demon/api.ErrName", Rows.laid_demon_api_ErrName), ("demon/api.ErrNone", Rows.laid_demon_api_ErrNone), ("demon/api.ErrOrder", Rows.laid_demon_api_ErrOrder), ("demon/api.ErrKind", Rows.laid_demon_api_ErrKind)]
abbrev laid8 : List (String × DataW Unit) := [("demon/api.ErrText", Rows.laid_demon_api_ErrText), ("demon/api.ErrBound", Rows.laid_demon_api_ErrBound), ("demon/api.ErrShape", Rows.laid_demon_api_ErrShape), ("demon/api.ErrZero", Rows.laid_demon_api_ErrZero), ("demon/api.ErrName", Rows.laid_demon_api_ErrName), ("demon/api.ErrNone", Rows.laid_demon_api_ErrNone), ("demon/api.ErrOrder", Rows.laid_demon_api_ErrOrder), ("demon/api.ErrKind", Rows.laid_demon_api_ErrKind)]

theorem handle_of {W : World} (h : handlesMet Tryd.prog [("errors.errorType", Rows.laid_errors_errorType)] W) : W.cell? ⟨8, 0, none⟩ = some (.iface 94 (.agg #[.pointer (some ⟨9, 25, none⟩)])) := by
  obtain ⟨name, u, ty, e1, e2, e3, e4, e5⟩ := h ("errors.errorType", Rows.laid_errors_errorType) (List.mem_singleton.2 rfl)
  have en : name = [101, 114, 114, 111, 114] := (Option.some.inj e1).symm
  subst en
  obtain rfl := Option.some.inj (Tryd.rt.symm.trans e2)
  have hm : ty ∈ (List.range 146).filter fun t => Tryd.prog.rowNamed t [101, 114, 114, 111, 114] := List.mem_filter.2 ⟨List.mem_range.2 (by rw [← Tryd.size]; exact e3), e4⟩
  rw [Tryd.oneRow] at hm
  obtain rfl := List.mem_singleton.1 hm
  have hh : typeHandle Tryd.prog 25 = .pointer (some ⟨9, 25, none⟩) := by kernel_rfl
  rw [hh] at e5
  simpa using World.var?_cell Tryd.etype e5 0

theorem sents_of_laid {W : World} (h : laidMetH Tryd.prog laid9 W) : ∃ s, Err.Laid W s := by
  have h' : laidMet Tryd.prog laid8 W ∧ handlesMet Tryd.prog [("errors.errorType", Rows.laid_errors_errorType)] W := h
  obtain ⟨⟨ps, hv, hnd, hrows⟩, hh⟩ := h'
  have hH := handle_of hh
  obtain ⟨a2, q2, c2, b2, v2, rfl⟩ := one_laid hv hrows Tryd.gText Tryd.t2
  have r2 := fun b off (hm : MemPlace.cell b off ∈ q2) => hrows b off (List.mem_cons_of_mem _ (List.mem_cons_of_mem _ hm))
  obtain ⟨a0, q0, c0, b0, v0, rfl⟩ := one_laid v2 r2 Tryd.gBound Tryd.tBound
  have r0 := fun b off (hm : MemPlace.cell b off ∈ q0) => r2 b off (List.mem_cons_of_mem _ (List.mem_cons_of_mem _ hm))
  obtain ⟨a1, q1, c1, b1, v1, rfl⟩ := one_laid v0 r0 Tryd.gShape Tryd.tShape
  have r1 := fun b off (hm : MemPlace.cell b off ∈ q1) => r0 b off (List.mem_cons_of_mem _ (List.mem_cons_of_mem _ hm))
  obtain ⟨a3, q3, c3, b3, v3, rfl⟩ := one_laid v1 r1 Tryd.gZero Tryd.t3
  have r3 := fun b off (hm : MemPlace.cell b off ∈ q3) => r1 b off (List.mem_cons_of_mem _ (List.mem_cons_of_mem _ hm))
  obtain ⟨a4, q4, c4, b4, v4, rfl⟩ := one_laid v3 r3 Tryd.gName Tryd.t4
  have r4 := fun b off (hm : MemPlace.cell b off ∈ q4) => r3 b off (List.mem_cons_of_mem _ (List.mem_cons_of_mem _ hm))
  obtain ⟨a5, q5, c5, b5, v5, rfl⟩ := one_laid v4 r4 Tryd.gNone Tryd.t5
  have r5 := fun b off (hm : MemPlace.cell b off ∈ q5) => r4 b off (List.mem_cons_of_mem _ (List.mem_cons_of_mem _ hm))
  obtain ⟨a6, q6, c6, b6, v6, rfl⟩ := one_laid v5 r5 Tryd.gOrder Tryd.t6
  have r6 := fun b off (hm : MemPlace.cell b off ∈ q6) => r5 b off (List.mem_cons_of_mem _ (List.mem_cons_of_mem _ hm))
  obtain ⟨a7, q7, c7, b7, v7, rfl⟩ := one_laid v6 r6 Tryd.gKind Tryd.t7
  let S : List Addr := [a0, a1, a2, a3, a4, a5, a6, a7]
  have hS : ([a2, a0, a1, a3, a4, a5, a6, a7].map fun a => MemPlace.cell a.block a.off).Nodup := by
    refine List.Nodup.sublist ?_ hnd
    simp only [List.map_cons, List.map_nil]
    refine List.Sublist.cons _ (List.Sublist.cons_cons _ (List.Sublist.cons _ (List.Sublist.cons_cons _ (List.Sublist.cons _ (List.Sublist.cons_cons _ (List.Sublist.cons _ (List.Sublist.cons_cons _ (List.Sublist.cons _ (List.Sublist.cons_cons _ (List.Sublist.cons _ (List.Sublist.cons_cons _ (List.Sublist.cons _ (List.Sublist.cons_cons _ (List.Sublist.cons _ (List.Sublist.cons_cons _ (List.nil_sublist _))))))))))))))))
  have hP : ([a2, a0, a1, a3, a4, a5, a6, a7].map fun a => MemPlace.cell a.block a.off).Perm ([a0, a1, a2, a3, a4, a5, a6, a7].map fun a => MemPlace.cell a.block a.off) := by
    refine List.Perm.map _ ?_
    exact ((List.Perm.swap a0 a2 _).trans (List.Perm.cons a0 (List.Perm.swap a1 a2 _)))
  have hS' := hP.nodup_iff.1 hS
  have hN : [a0, a1, a2, a3, a4, a5, a6, a7].Nodup := nodup_of_map _ hS'
  refine ⟨fun i => [a0, a1, a2, a3, a4, a5, a6, a7].getD i a0, ?_, hH, ?_, ?_⟩
  · intro i hi
    rcases i with _ | _ | _ | _ | _ | _ | _ | _ | i
    · exact c0
    · exact c1
    · exact c2
    · exact c3
    · exact c4
    · exact c5
    · exact c6
    · exact c7
    · omega
  · intro i j hi hj hne e
    apply hne
    have hi' : i < [a0, a1, a2, a3, a4, a5, a6, a7].length := hi
    have hj' : j < [a0, a1, a2, a3, a4, a5, a6, a7].length := hj
    refine (List.getElem?_inj hi' hN).1 ?_
    rw [List.getElem?_eq_getElem hi', List.getElem?_eq_getElem hj']
    simp only [List.getD_eq_getElem?_getD, List.getElem?_eq_getElem hi', List.getElem?_eq_getElem hj', Option.getD_some] at e
    exact congrArg some e
  · intro i hi
    rcases i with _ | _ | _ | _ | _ | _ | _ | _ | i
    · exact b0
    · exact b1
    · exact b2
    · exact b3
    · exact b4
    · exact b5
    · exact b6
    · exact b7
    · omega
end Go.Proofs.YtaonemghafoolaaDoor
