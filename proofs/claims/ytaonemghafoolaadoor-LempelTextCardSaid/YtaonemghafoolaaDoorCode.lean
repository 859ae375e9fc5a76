/-
  plain.Code, coded and faulted by their contracts at what lempel hands back.
-/
import Derived.Test.YtaonemghafoolaaDoorErr
import Derived.Test.YtaonemghafoolaaDoorQ0
namespace Go.Proofs.YtaonemghafoolaaDoor.Err
open Go.RowKit Go.Proofs.YtaonemghafoolaaDoorW.PrintWords Go.Proofs.YtaonemghafoolaaDoorW.PrintLast
set_option linter.unusedVariables false

/-- What the listed variables hold: eight sentinels, no two the same, and the handle of the type error. -/
structure Laid (W : World) (s : Nat → Addr) : Prop where
  cell : ∀ i, i < 8 → W.cell? ⟨i, 0, none⟩ = some (.iface 108 (.pointer (some (s i))))
  handle : W.cell? ⟨8, 0, none⟩ = some (.iface 94 (.agg #[.pointer (some ⟨9, 25, none⟩)]))
  ne : ∀ i j, i < 8 → j < 8 → i ≠ j → s i ≠ s j
  block : ∀ i, i < 8 → ∃ c t, W.heap[(s i).block]? = some (.cells c t (0, 0))
theorem lt_of_cell {W : World} {a : Addr} {v : Value} (h : W.cell? a = some v) : a.block < W.heap.size := by
  rcases Nat.lt_or_ge a.block W.heap.size with h' | h'
  · exact h'
  · simp [World.cell?, Array.getElem?_eq_none h'] at h
theorem lt_of_block {W : World} {k : Nat} {o : Obj} (h : W.heap[k]? = some o) : k < W.heap.size := by
  rcases Nat.lt_or_ge k W.heap.size with h' | h'
  · exact h'
  · simp [Array.getElem?_eq_none h'] at h
theorem Laid.below {W W' : World} {s : Nat → Addr} (h : Laid W s) (b : Below W.heap.size W W') : Laid W' s where
  cell i hi := by rw [b.cell (lt_of_cell (h.cell i hi))]; exact h.cell i hi
  handle := by rw [b.cell (lt_of_cell h.handle)]; exact h.handle
  ne := h.ne
  block i hi := by
    obtain ⟨c, t, e⟩ := h.block i hi
    exact ⟨c, t, by rw [b.block _ (lt_of_block e)]; exact e⟩

theorem as_miss2 (e t : Addr) (w : World) (s : Nat → Addr) (hL : Laid w s) :
    Calls Tryd.prog 26 #[.iface 108 (.pointer (some e)), .iface 75 (.pointer (some t))] w fun ev w' => ev = .returned (.bool false) ∧ Below w.heap.size w w' := by
  refine (as_miss e t w hL.handle).mono ?_
  rintro ev w' ⟨rfl, rfl⟩
  exact ⟨rfl, below_alloc (below_alloc (below_alloc (Below.refl _ _) _) _) _⟩
theorem as_hit2 (e t : Addr) (old : Value) (w : World) (s : Nat → Addr) (hL : Laid w s) (ht0 : w.cell? t = some old) (hf0 : w.frozen? t = false) :
    Calls Tryd.prog 26 #[.iface 59 (.pointer (some e)), .iface 75 (.pointer (some t))] w fun ev w' => ev = .returned (.bool true) ∧ w'.cell? t = some (.pointer (some e)) ∧ ∀ B, B ≤ t.block → Below B w w' := by
  refine (as_hit e t old w hL.handle ht0 hf0).mono ?_
  rintro ev w' ⟨rfl, rfl⟩
  have hb : Below w.heap.size w ((((w.alloc (.cells #[.pointer (some t)] 75)).alloc (.cells #[.pointer (some ⟨9, 75, none⟩), .pointer (some ⟨w.heap.size, 0, none⟩), .int .u64 150] 82)).alloc (.cells #[.pointer (some ⟨9, 75, none⟩), .pointer (some ⟨w.heap.size, 0, none⟩), .int .u64 150] 82)).alloc (.cells #[.pointer (some e)] 59)) := below_alloc (below_alloc (below_alloc (below_alloc (Below.refl _ _) _) _) _) _
  refine ⟨rfl, ?_, fun B hB => (hb.mono (Nat.le_of_lt (Nat.lt_of_le_of_lt hB (lt_of_cell ht0)))).setCell hB _⟩
  have hc := (hb.cell (lt_of_cell ht0)).trans ht0
  exact World.cell?_setCell_same' _ _ _ (by rw [hc]; rfl)

theorem is_other2 (a b : Addr) (w : World) (hne : a ≠ b) (ha : ∃ c t, w.heap[a.block]? = some (.cells c t (0, 0))) (hb : ∃ c t, w.heap[b.block]? = some (.cells c t (0, 0))) :
    Calls Tryd.prog 27 #[.iface 108 (.pointer (some a)), .iface 108 (.pointer (some b))] w fun e w' => e = .returned (.bool false) ∧ w' = w := by
  obtain ⟨c, t, ha⟩ := ha
  obtain ⟨c', t', hb⟩ := hb
  exact is_other a b _ _ _ _ w hne ha hb
theorem is_wrap_other2 (pb po : Nat) (b a : Addr) (w : World) (h1 : w.cell? ⟨pb, po + 1, none⟩ = some (.iface 108 (.pointer (some a)))) (hne : a ≠ b) (ha : ∃ c t, w.heap[a.block]? = some (.cells c t (0, 0))) (hb : ∃ c t, w.heap[b.block]? = some (.cells c t (0, 0))) :
    Calls Tryd.prog 27 #[.iface 59 (.pointer (some ⟨pb, po, none⟩)), .iface 108 (.pointer (some b))] w fun e w' => e = .returned (.bool false) ∧ w' = w := by
  obtain ⟨c, t, ha⟩ := ha
  obtain ⟨c', t', hb⟩ := hb
  exact is_wrap_other pb po b a _ _ _ _ w h1 hne ha hb

set_option maxHeartbeats 4000000 in
theorem code_bound (w : World) (s : Nat → Addr) (hL : Laid w s) :
    Calls Tryd.prog 23 #[.iface 108 (.pointer (some (s 0)))] w fun e w' => e = .returned (.tuple #[.int .i64 2, .int .i64 (-1)]) ∧ Below w.heap.size w w' := by
  have hL1 : Laid (w.alloc (.cells #[.pointer none] 59)) s := hL.below (below_alloc (Below.refl _ _) _)
  go_enter Tryd.func23, Tryd.ntmps23
  go_wp2_with (first | (go_at_call 26; refine (as_miss2 _ _ _ s hL1).mono ?_; rintro e w1 ⟨rfl, hb⟩; have hL2 := hL1.below hb; have g0 := hL2.cell 0 (by decide); have g1 := hL2.cell 1 (by decide); have g2 := hL2.cell 2 (by decide); have g3 := hL2.cell 3 (by decide); have g4 := hL2.cell 4 (by decide); have g5 := hL2.cell 5 (by decide); have g6 := hL2.cell 6 (by decide); have g7 := hL2.cell 7 (by decide)) | (go_at_call 27; fail))
  refine wp_loop_rounds 2 ?_
  rw [rounds_succ]
  have hL3 := hL2.below (below_alloc (Below.refl _ _) (.cells #[Value.iface 108 (Value.pointer (some (s 2))), Value.iface 108 (Value.pointer (some (s 0))), Value.iface 108 (Value.pointer (some (s 1))), Value.iface 108 (Value.pointer (some (s 3))), Value.iface 108 (Value.pointer (some (s 4))), Value.iface 108 (Value.pointer (some (s 5))), Value.iface 108 (Value.pointer (some (s 6))), Value.iface 108 (Value.pointer (some (s 7)))] 25))
  go_wp2_with (go_at_call 27; refine (is_other2 (s 0) (s 2) _ (hL.ne 0 2 (by decide) (by decide) (by decide)) (hL3.block 0 (by decide)) (hL3.block 2 (by decide))).mono ?_; rintro e w' ⟨rfl, rfl⟩)
  rw [rounds_succ]
  go_wp2_with (go_at_call 27; refine (is_same (s 0) _).mono ?_; rintro e w' ⟨rfl, rfl⟩)
  go_ret2
  exact ⟨rfl, below_alloc (below_then (below_alloc (Below.refl _ _) _) (by simp) hb) _⟩

set_option maxHeartbeats 4000000 in
theorem code_fault (w : World) (s : Nat → Addr) (hL : Laid w s) (pb : Nat) (at_ : Int) (hc0 : w.cell? ⟨pb, 0, none⟩ = some (.int .i64 at_)) (hc1 : w.cell? ⟨pb, 0 + 1, none⟩ = some (.iface 108 (.pointer (some (s 1))))) :
    Calls Tryd.prog 23 #[.iface 59 (.pointer (some ⟨pb, 0, none⟩))] w fun e w' => e = .returned (.tuple #[.int .i64 3, .int .i64 at_]) ∧ Below w.heap.size w w' := by
  have hL1 : Laid (w.alloc (.cells #[.pointer none] 59)) s := hL.below (below_alloc (Below.refl _ _) _)
  have hL1t : (w.alloc (.cells #[.pointer none] 59)).cell? ⟨w.heap.size, 0, none⟩ = some (.pointer none) := by simp
  have hL1f : (w.alloc (.cells #[.pointer none] 59)).frozen? ⟨w.heap.size, 0, none⟩ = false := by simp
  have hpb := lt_of_cell hc0
  go_enter Tryd.func23, Tryd.ntmps23
  go_wp2_with (first | (go_at_call 26; refine (as_hit2 _ _ _ _ s hL1 hL1t hL1f).mono ?_; rintro e w1 ⟨rfl, hfc, hb0⟩; have hb : Below w.heap.size w w1 := Below.trans (below_alloc (Below.refl _ w) _) (hb0 w.heap.size (Nat.le_refl _)); have hL2 := hL.below hb; have k0 := (hb.cell hpb).trans hc0; have k1 := (hb.cell (p := ⟨pb, 0 + 1, none⟩) hpb).trans hc1; have g0 := hL2.cell 0 (by decide); have g1 := hL2.cell 1 (by decide); have g2 := hL2.cell 2 (by decide); have g3 := hL2.cell 3 (by decide); have g4 := hL2.cell 4 (by decide); have g5 := hL2.cell 5 (by decide); have g6 := hL2.cell 6 (by decide); have g7 := hL2.cell 7 (by decide)) | (go_at_call 27; fail))
  refine wp_loop_rounds 3 ?_
  rw [rounds_succ]
  have b3 : Below w1.heap.size w1 (w1.alloc (.cells #[Value.iface 108 (Value.pointer (some (s 2))), Value.iface 108 (Value.pointer (some (s 0))), Value.iface 108 (Value.pointer (some (s 1))), Value.iface 108 (Value.pointer (some (s 3))), Value.iface 108 (Value.pointer (some (s 4))), Value.iface 108 (Value.pointer (some (s 5))), Value.iface 108 (Value.pointer (some (s 6))), Value.iface 108 (Value.pointer (some (s 7)))] 25)) := below_alloc (Below.refl _ w1) _
  have hL3 := hL2.below b3
  have k3 := (b3.cell (p := ⟨pb, 0 + 1, none⟩) (lt_of_cell k1)).trans k1
  go_wp2_with (go_at_call 27; refine (is_wrap_other2 pb 0 (s 2) (s 1) _ k3 (hL.ne 1 2 (by decide) (by decide) (by decide)) (hL3.block 1 (by decide)) (hL3.block 2 (by decide))).mono ?_; rintro e w' ⟨rfl, rfl⟩)
  rw [rounds_succ]
  go_wp2_with (go_at_call 27; refine (is_wrap_other2 pb 0 (s 0) (s 1) _ k3 (hL.ne 1 0 (by decide) (by decide) (by decide)) (hL3.block 1 (by decide)) (hL3.block 0 (by decide))).mono ?_; rintro e w' ⟨rfl, rfl⟩)
  rw [rounds_succ]
  go_wp2_with (go_at_call 27; refine (is_wrap_same pb 0 (s 1) _ k3).mono ?_; rintro e w' ⟨rfl, rfl⟩)
  go_ret2
  exact ⟨rfl, below_alloc hb _⟩

/-- coded, at ErrBound. -/
theorem coded_bound (w : World) (s : Nat → Addr) (hL : Laid w s) :
    Calls Tryd.prog 13 #[.iface 108 (.pointer (some (s 0))), .int .i64 2] w fun e w' => e = .returned (.bool true) ∧ Below w.heap.size w w' := by
  go_enter Tryd.func13, Tryd.ntmps13
  go_wp2_with (go_at_call 23; refine (code_bound _ s hL).mono ?_; rintro e w1 ⟨rfl, hb⟩)
  go_ret
  exact ⟨rfl, hb⟩
/-- faulted, at ErrBound. -/
theorem faulted_bound (w : World) (s : Nat → Addr) (hL : Laid w s) :
    Calls Tryd.prog 17 #[.iface 108 (.pointer (some (s 0))), .agg #[.int .i64 2, .int .i64 (-1)]] w fun e w' => e = .returned (.bool true) ∧ Below w.heap.size w w' := by
  have hL1 := hL.below (below_alloc (Below.refl _ _) (.cells #[.int .i64 2, .int .i64 (-1)] 48))
  go_enter Tryd.func17, Tryd.ntmps17
  go_wp2_with (go_at_call 23; refine (code_bound _ s hL1).mono ?_; rintro e w1 ⟨rfl, hb⟩; have q0 : w1.cell? ⟨w.heap.size, 0, none⟩ = some (.int .i64 2) := (hb.cell (by simp)).trans (by simp); have q1 : w1.cell? ⟨w.heap.size, 1, none⟩ = some (.int .i64 (-1)) := (hb.cell (by simp)).trans (by simp))
  go_ret
  exact ⟨rfl, below_then (below_alloc (Below.refl _ _) _) (by simp) hb⟩
/-- faulted, at an *api.Fault around ErrShape. -/
theorem faulted_fault (w : World) (s : Nat → Addr) (hL : Laid w s) (pb : Nat) (at_ : Int) (hc0 : w.cell? ⟨pb, 0, none⟩ = some (.int .i64 at_)) (hc1 : w.cell? ⟨pb, 0 + 1, none⟩ = some (.iface 108 (.pointer (some (s 1))))) :
    Calls Tryd.prog 17 #[.iface 59 (.pointer (some ⟨pb, 0, none⟩)), .agg #[.int .i64 3, .int .i64 at_]] w fun e w' => e = .returned (.bool true) ∧ Below w.heap.size w w' := by
  have b1 : Below w.heap.size w (w.alloc (.cells #[.int .i64 3, .int .i64 at_] 48)) := below_alloc (Below.refl _ _) _
  have hL1 := hL.below b1
  have k0 := (b1.cell (lt_of_cell hc0)).trans hc0
  have k1 := (b1.cell (lt_of_cell hc1)).trans hc1
  go_enter Tryd.func17, Tryd.ntmps17
  go_wp2_with (go_at_call 23; refine (code_fault _ s hL1 pb at_ k0 k1).mono ?_; rintro e w1 ⟨rfl, hb⟩; have q0 : w1.cell? ⟨w.heap.size, 0, none⟩ = some (.int .i64 3) := (hb.cell (by simp)).trans (by simp); have q1 : w1.cell? ⟨w.heap.size, 1, none⟩ = some (.int .i64 at_) := (hb.cell (by simp)).trans (by simp))
  go_ret
  exact ⟨rfl, below_then b1 (by simp) hb⟩
end Go.Proofs.YtaonemghafoolaaDoor.Err
