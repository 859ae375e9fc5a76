/-
  The map of Parse: a map[string]int of the call's own, as a datum: look-up, store, what keeps it.
-/
import Derived.Test.YtaonemghafoolaaDoorProg
import Derived.Test.YtaonemghafoolaaDoorWWords
import Derived.WalkKit
import Derived.ProofKit
import Derived.Maps.Own
import Derived.Maps.OwnOps
import Derived.Maps.OwnSet
import Derived.Maps.Views
namespace Go.Proofs.YtaonemghafoolaaDoor.Mp
open Go.RowKit Go.WideMaps Go.WideElems
open Go.Maps (Keyed string_keyed)
open Go.Proofs.YtaonemghafoolaaDoorW.PrintWords
set_option linter.unusedVariables false

theorem law : Keyed Tryd.prog 9 := string_keyed Tryd.underlying9
theorem zeroE (w : World) : (zeroValue 3).run Tryd.prog w = .ok (.int .i64 0) w := by kernel_rfl

def key (s : ByteArray) : Lit := .string s.data.toList
def kHas (D : DataW Unit) (s : ByteArray) : Bool := Maps.has D (key s)
def intOfD : DataW Unit → Int
  | .lit (.int _ c) => c
  | _ => 0
def kAt (D : DataW Unit) (s : ByteArray) : Int := intOfD (D.atKey (key s) (.lit (.int .i64 0)))
def kPut (D : DataW Unit) (s : ByteArray) (v : Int) : DataW Unit := D.put (key s) (.lit (.int .i64 v))
def kNil : DataW Unit := kPut (.map []) ⟨#[]⟩ 0
/-- Block b is a map of at most n entries that reads as D. -/
def IsM (w : World) (b n : Nat) (D : DataW Unit) : Prop := w.ownsMap Tryd.prog 9 (plainElem Tryd.prog 3) b n D

section
variable {w w1 : World} {b n : Nat} {D : DataW Unit}
theorem isM_blk (h : IsM w b n D) : ∃ es clock, w.heap[b]? = some (.map es clock) := by
  obtain ⟨es, clock, hb, _⟩ := h
  exact ⟨es, clock, hb⟩
theorem isM_step (h : IsM w b n D) (hm : w1.heap[b]? = w.heap[b]?) : IsM w1 b n D := by
  obtain ⟨es, clock, hb, r⟩ := h
  exact ⟨es, clock, hm.trans hb, r⟩
theorem isM_below (h : IsM w b n D) (hb : Below w.heap.size w w1) : IsM w1 b n D := isM_step h (hb.block b (World.ownsMap.lt h))
theorem isM_alloc (h : IsM w b n D) (o : Obj) : IsM (w.alloc o) b n D := isM_below h (below_alloc (Below.refl _ _) o)
theorem isM_drewN (h : IsM w b n D) (k : Nat) : IsM (w.drewN k) b n D := h
theorem isM_drew (h : IsM w b n D) : IsM w.drew b n D := h
/-- A row of cells has been written or grown. -/
theorem isM_grown (h : IsM w b n D) {α : Type} {d : Kd α} {e base : Nat} {ok : Nat → Prop} {v : Value} {xs : List α} (hR : d.R e w base ok v xs) (hg : w.grownBy w1 v.ownBlock) : IsM w1 b n D :=
  isM_step h (hg.block b (World.ownsMap.lt h) (by
    intro ek
    obtain ⟨_, inner, ho, _⟩ := hR
    obtain ⟨cells, hc⟩ := own_typed ho b ek.symm
    obtain ⟨es, clock, hb⟩ := isM_blk h
    rw [hc] at hb
    cases hb))
/-- The map has been written: rows of cells stay. -/
theorem R_map {α : Type} {d : Kd α} {e base : Nat} {ok : Nat → Prop} {v : Value} {xs : List α} (hR : d.R e w base ok v xs) (h : IsM w b n D) (hg : w.grownBy w1 (some b)) : d.R e w1 base ok v xs :=
  Kd.R_mono (Kd.R_move (Kd.R_bound hR) (fun k hk => by
    obtain ⟨_, _, hlt, q, hq, cells, hc⟩ := hk
    refine hg.block k hlt ?_
    rintro ek
    injection ek with ek
    subst ek
    obtain ⟨es, clock, hb⟩ := isM_blk h
    rw [hc] at hb
    cases hb)) (fun _ hk => hk.1)

theorem look_run (h : IsM w b n D) (s : ByteArray) (hs : s.size ≤ maxLen) : (Instr.lookup 56 (.map (some b)) (.string s) false).run Tryd.prog w = .ok (.int .i64 (kAt D s)) w := by
  obtain ⟨c, hrun, hat, hwc⟩ := World.ownsMap.lookup_int (t := 56) h law Tryd.underlying56 Tryd.underlying3 (zeroE _) (keyOf_string_mk Tryd.underlying9 hs)
  have e : kAt D s = c := by unfold kAt key; rw [hat]; rfl
  rw [e]
  exact hrun
theorem look_ok_run (h : IsM w b n D) (s : ByteArray) (hs : s.size ≤ maxLen) : (Instr.lookup 56 (.map (some b)) (.string s) true).run Tryd.prog w = .ok (.tuple #[.int .i64 (kAt D s), .bool (kHas D s)]) w := by
  obtain ⟨v, ps, hrun, hv⟩ := World.ownsMap.look_ok (t := 56) h law Tryd.underlying56 (zeroE _) (plainElem_int Tryd.underlying3 (by decide)) (keyOf_string_mk Tryd.underlying9 hs)
  obtain ⟨c, rfl, hc, hwc⟩ := plainElem_int_inv Tryd.underlying3 hv
  have e : kAt D s = c := by
    exact congrArg (fun z => intOfD z.1) hc
  rw [e]
  exact hrun
end

section
variable {ops : Array Oper} {rest : List Oper} {o : Oper} {a : Act} {Q : Exit → Act → World → Prop} {w : World}
theorem wp_look (hg : o.guard = none) (m x : Operand) (hop : o.op = Op.lookup 56 m x false) (b n : Nat) (D : DataW Unit) (s : ByteArray)
    (hm : a.eval m = .map (some b)) (hx : a.eval x = .string s) (h : IsM w b n D) (hs : s.size ≤ maxLen)
    (hK : wpList Tryd.prog ops Q rest (a.put o.dst (.int .i64 (kAt D s))) w) : wpList Tryd.prog ops Q (o :: rest) a w := by
  refine wpList_plain hg fun K' hK' => ?_
  unfold Oper.wp
  simp [execOp, hop, hm, hx, look_run h s hs, Result.andThen]
  exact hK' _ _ hK
theorem wp_look_ok (hg : o.guard = none) (m x : Operand) (hop : o.op = Op.lookup 56 m x true) (b n : Nat) (D : DataW Unit) (s : ByteArray)
    (hm : a.eval m = .map (some b)) (hx : a.eval x = .string s) (h : IsM w b n D) (hs : s.size ≤ maxLen)
    (hK : wpList Tryd.prog ops Q rest (a.put o.dst (.tuple #[.int .i64 (kAt D s), .bool (kHas D s)])) w) : wpList Tryd.prog ops Q (o :: rest) a w := by
  refine wpList_plain hg fun K' hK' => ?_
  unfold Oper.wp
  simp [execOp, hop, hm, hx, look_ok_run h s hs, Result.andThen]
  exact hK' _ _ hK
theorem wp_update (hg : o.guard = none) (m x v : Operand) (hop : o.op = Op.mapUpdate 56 m x v) (b n : Nat) (D : DataW Unit) (s : ByteArray) (y : Int)
    (hm : a.eval m = .map (some b)) (hx : a.eval x = .string s) (hv : a.eval v = .int .i64 y) (h : IsM w b n D) (hn : n < maxLen) (hs : s.size ≤ maxLen) (hy : (Lit.int .i64 y).wf = true)
    (hK : ∀ w', IsM w' b (n + 1) (kPut D s y) → w.grownBy w' (some b) → wpList Tryd.prog ops Q rest (a.put o.dst undef) w') : wpList Tryd.prog ops Q (o :: rest) a w := by
  refine wpList_plain hg fun K' hK' => ?_
  obtain ⟨w', hrun, r1, r2⟩ := World.ownsMap.update (t := 56) h law Tryd.underlying56 hn (keyOf_string_mk Tryd.underlying9 hs) (plainElem_int Tryd.underlying3 hy)
  unfold Oper.wp
  simp [execOp, hop, hm, hx, hv, hrun, Result.andThen]
  exact hK' _ _ (hK w' r1 r2)
theorem wp_insert (hg : o.guard = none) (m x v : Operand) (hop : o.op = Op.insert 56 m x v) (b n : Nat) (D : DataW Unit) (s : ByteArray) (y : Int)
    (hm : a.eval m = .map (some b)) (hx : a.eval x = .string s) (hv : a.eval v = .int .i64 y) (h : IsM w b n D) (hn : n < maxLen) (hs : s.size ≤ maxLen) (hy : (Lit.int .i64 y).wf = true)
    (hK : ∀ w', IsM w' b (n + 1) (kPut D s y) → w.grownBy w' (some b) → wpList Tryd.prog ops Q rest (a.put o.dst undef) w') : wpList Tryd.prog ops Q (o :: rest) a w := by
  refine wpList_plain hg fun K' hK' => ?_
  obtain ⟨w', hrun, r1, r2⟩ := World.ownsMap.update (t := 56) h law Tryd.underlying56 hn (keyOf_string_mk Tryd.underlying9 hs) (plainElem_int Tryd.underlying3 hy)
  unfold Oper.wp
  simp [execOp, hop, hm, hx, hv, hrun, Result.andThen]
  exact hK' _ _ (hK w' r1 r2)
/-- 'make(map[string]int)'. -/
theorem wp_make (hg : o.guard = none) (hop : o.op = Op.makeMap 56 none)
    (hK : ∀ b w', b = w.heap.size → IsM w' b 0 (.map []) → Below w.heap.size w w' → wpList Tryd.prog ops Q rest (a.put o.dst (.map (some b))) w') : wpList Tryd.prog ops Q (o :: rest) a w := by
  refine wpList_plain hg fun K' hK' => ?_
  unfold Oper.wp
  simp [execOp, hop, run_makeMap, Result.andThen]
  exact hK' _ _ (hK _ _ rfl (World.ownsMap_made _ _ _ _) (below_alloc (Below.refl _ _) _))
end

theorem below_map {w w1 w2 : World} {b : Nat} (hb : Below w.heap.size w w1) (hg : w1.grownBy w2 (some b)) (h : w.heap.size ≤ b) : Below w.heap.size w w2 :=
  hb.grown hg hb.size (fun k hk => by cases hk; exact h)

end Go.Proofs.YtaonemghafoolaaDoor.Mp
