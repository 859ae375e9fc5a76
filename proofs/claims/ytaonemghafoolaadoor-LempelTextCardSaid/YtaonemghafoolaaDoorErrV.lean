/-
  How the walks name the errors that lempel hands back: none; ErrBound (-1); an *api.Fault around ErrShape, of its place.
-/
import Derived.Test.YtaonemghafoolaaDoorCode
namespace Go.Proofs.YtaonemghafoolaaDoor.Err
open Go.RowKit Go.Proofs.YtaonemghafoolaaDoorW.PrintWords Go.Proofs.YtaonemghafoolaaDoorW.PrintLast

def ErrV (s : Nat → Addr) (w : World) : Option Int → Value → Prop
  | none, ev => ev = .nilIface
  | some i, ev => (i = -1 ∧ ev = .iface 108 (.pointer (some (s 0)))) ∨
      (0 ≤ i ∧ ∃ pb, ev = .iface 59 (.pointer (some ⟨pb, 0, none⟩)) ∧ w.cell? ⟨pb, 0, none⟩ = some (.int .i64 i) ∧ w.cell? ⟨pb, 0 + 1, none⟩ = some (.iface 108 (.pointer (some (s 1)))))
/-- What faulted answers where the document's answer is the same. -/
theorem faulted_same (w : World) (s : Nat → Addr) (hL : Laid w s) (i : Int) (ev : Value) (h : ErrV s w (some i) ev) (code at_ : Int) (he : (i = -1 → code = 2 ∧ at_ = -1) ∧ (0 ≤ i → code = 3 ∧ at_ = i)) :
    Calls Tryd.prog 17 #[ev, .agg #[.int .i64 code, .int .i64 at_]] w fun e w' => e = .returned (.bool true) ∧ Below w.heap.size w w' := by
  rcases h with ⟨h1, rfl⟩ | ⟨h1, pb, rfl, h2, h3⟩
  · obtain ⟨rfl, rfl⟩ := he.1 h1
    exact faulted_bound w s hL
  · obtain ⟨rfl, rfl⟩ := he.2 h1
    exact faulted_fault w s hL pb _ h2 h3
/-- What the law answers where the document tells an error: true, if the code's is the same; else it is not said here. -/
def okE (t : ByteArray) : Option Int → Int → Int → Option Bool
  | none, _, _ => none
  | some i, c, a => if t.size = 0 ∧ (i = -1 → c = 2 ∧ a = -1) ∧ (0 ≤ i → c = 3 ∧ a = i) then some true else none
theorem okE_some {t : ByteArray} {i c a : Int} {r : Bool} (h : okE t (some i) c a = some r) : t = ⟨#[]⟩ ∧ ((i = -1 → c = 2 ∧ a = -1) ∧ (0 ≤ i → c = 3 ∧ a = i)) ∧ r = true := by
  unfold okE at h
  by_cases e : t.size = 0 ∧ (i = -1 → c = 2 ∧ a = -1) ∧ (0 ≤ i → c = 3 ∧ a = i)
  · simp only [if_pos e, Option.some.injEq] at h
    exact ⟨ByteArray.ext (Array.size_eq_zero_iff.1 e.1), e.2, h.symm⟩
  · simp only [if_neg e] at h
    cases h
end Go.Proofs.YtaonemghafoolaaDoor.Err
