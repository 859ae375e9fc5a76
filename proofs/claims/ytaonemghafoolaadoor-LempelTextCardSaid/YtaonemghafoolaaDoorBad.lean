/-
  What Parse, Slide, Text and Unslide hand back at once where a bound is passed: the value of the variable ErrBound.
-/
import Derived.Test.YtaonemghafoolaaDoorQ0
namespace Go.Proofs.YtaonemghafoolaaDoor.Bad
open Go.RowKit Go.Proofs.YtaonemghafoolaaDoorW.PrintWords Go.Proofs.YtaonemghafoolaaDoorW.PrintLast
set_option linter.unusedVariables false

set_option maxHeartbeats 1000000 in
set_option maxRecDepth 100000 in
theorem slide_long (s : ByteArray) (win : Int) (ev : Value) (w : World) (h : (s.size : Int) > 4000) (hg : w.cell? ⟨0, 0, none⟩ = some ev) :
    Calls Tryd.prog 11 #[.string s, .int .i64 win] w fun e w' => e = .returned (.tuple #[.slice none 0 0, ev]) ∧ Drawn0 w w' := by
  have c0 : decide (4000 < (s.size : Int)) = true := decide_eq_true h
  have c1 : decide (4000 < s.size) = true := decide_eq_true (by omega)
  clear h
  go_enter Tryd.func11, Tryd.ntmps11
  go_wp2
  go_quiet (fail)
  go_wp2
  go_ret2
  exact ⟨rfl, ⟨⟨_, rfl⟩⟩⟩
set_option maxHeartbeats 1000000 in
set_option maxRecDepth 100000 in
theorem slide_low (s : ByteArray) (win : Int) (ev : Value) (w : World) (h : ¬ (s.size : Int) > 4000) (h1 : win < 1) (hg : w.cell? ⟨0, 0, none⟩ = some ev) :
    Calls Tryd.prog 11 #[.string s, .int .i64 win] w fun e w' => e = .returned (.tuple #[.slice none 0 0, ev]) ∧ Drawn0 w w' := by
  have c0 : decide (4000 < (s.size : Int)) = false := decide_eq_false h
  have c1 : decide (4000 < s.size) = false := decide_eq_false (by omega)
  have c2 : decide (win < 1) = true := decide_eq_true h1
  clear h h1
  go_enter Tryd.func11, Tryd.ntmps11
  go_wp2
  go_quiet (fail)
  go_wp2
  go_ret2
  exact ⟨rfl, ⟨⟨_, rfl⟩⟩⟩
set_option maxHeartbeats 1000000 in
set_option maxRecDepth 100000 in
theorem slide_high (s : ByteArray) (win : Int) (ev : Value) (w : World) (h : ¬ (s.size : Int) > 4000) (h1 : ¬ win < 1) (h2 : win > 4000) (hg : w.cell? ⟨0, 0, none⟩ = some ev) :
    Calls Tryd.prog 11 #[.string s, .int .i64 win] w fun e w' => e = .returned (.tuple #[.slice none 0 0, ev]) ∧ Drawn0 w w' := by
  have c0 : decide (4000 < (s.size : Int)) = false := decide_eq_false h
  have c1 : decide (4000 < s.size) = false := decide_eq_false (by omega)
  have c2 : decide (win < 1) = false := decide_eq_false h1
  have c3 : decide (4000 < win) = true := decide_eq_true h2
  clear h h1 h2
  go_enter Tryd.func11, Tryd.ntmps11
  go_wp2
  go_quiet (fail)
  go_wp2
  go_ret2
  exact ⟨rfl, ⟨⟨_, rfl⟩⟩⟩
theorem slide_bad (s : ByteArray) (win : Int) (ev : Value) (w : World) (h : (s.size : Int) > 4000 ∨ win < 1 ∨ win > 4000) (hg : w.cell? ⟨0, 0, none⟩ = some ev) :
    Calls Tryd.prog 11 #[.string s, .int .i64 win] w fun e w' => e = .returned (.tuple #[.slice none 0 0, ev]) ∧ Drawn0 w w' := by
  by_cases a : (s.size : Int) > 4000
  · exact slide_long s win ev w a hg
  · by_cases b : win < 1
    · exact slide_low s win ev w a b hg
    · exact slide_high s win ev w a b (by omega) hg

set_option maxHeartbeats 1000000 in
set_option maxRecDepth 100000 in
theorem parse_bad (s : ByteArray) (ev : Value) (w : World) (h : (s.size : Int) > 4000) (hg : w.cell? ⟨0, 0, none⟩ = some ev) :
    Calls Tryd.prog 9 #[.string s] w fun e w' => e = .returned (.tuple #[.slice none 0 0, ev]) ∧ Drawn0 w w' := by
  have c0 : decide (4000 < (s.size : Int)) = true := decide_eq_true h
  have c1 : decide (4000 < s.size) = true := decide_eq_true (by omega)
  clear h
  go_enter Tryd.func9, Tryd.ntmps9
  go_wp2
  go_quiet (fail)
  go_wp2
  go_ret2
  exact ⟨rfl, ⟨⟨_, rfl⟩⟩⟩
set_option maxHeartbeats 1000000 in
set_option maxRecDepth 100000 in
theorem text_long (A : Option Addr) (n c : Nat) (ev : Value) (w : World) (h : (n : Int) > 4000) (hg : w.cell? ⟨0, 0, none⟩ = some ev) :
    Calls Tryd.prog 10 #[.slice A n c] w fun e w' => e = .returned (.tuple #[.string ⟨#[]⟩, ev]) ∧ Drawn0 w w' := by
  have c0 : decide (4000 < (n : Int)) = true := decide_eq_true h
  have c1 : decide (4000 < n) = true := decide_eq_true (by omega)
  clear h
  go_enter Tryd.func10, Tryd.ntmps10
  go_wp2
  go_quiet (fail)
  go_wp2
  go_ret2
  exact ⟨rfl, ⟨⟨_, rfl⟩⟩⟩
set_option maxHeartbeats 1000000 in
set_option maxRecDepth 100000 in
theorem unslide_long (A : Option Addr) (n c : Nat) (ev : Value) (w : World) (h : (n : Int) > 4000) (hg : w.cell? ⟨0, 0, none⟩ = some ev) :
    Calls Tryd.prog 12 #[.slice A n c] w fun e w' => e = .returned (.tuple #[.string ⟨#[]⟩, ev]) ∧ Drawn0 w w' := by
  have c0 : decide (4000 < (n : Int)) = true := decide_eq_true h
  have c1 : decide (4000 < n) = true := decide_eq_true (by omega)
  clear h
  go_enter Tryd.func12, Tryd.ntmps12
  go_wp2
  go_quiet (fail)
  go_wp2
  go_ret2
  exact ⟨rfl, ⟨⟨_, rfl⟩⟩⟩
end Go.Proofs.YtaonemghafoolaaDoor.Bad
