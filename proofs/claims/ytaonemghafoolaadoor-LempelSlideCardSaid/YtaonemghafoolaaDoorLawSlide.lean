/-
  Proved: the tied card of demonlaw2.LempelSlide: for every input, in whatever memory in which the nine listed variables hold what the program's text lays, the law returns true and its arguments read as before.
-/
import Derived.Test.YtaonemghafoolaaDoorRows
import Derived.Test.YtaonemghafoolaaDoorCards
import Derived.Test.YtaonemghafoolaaDoorTie
import Derived.Test.YtaonemghafoolaaDoorVSlide
import Derived.Test.YtaonemghafoolaaDoorPf
import Derived.Test.YtaonemghafoolaaDoorBad
import Derived.Test.YtaonemghafoolaaDoorCode
import Derived.Test.YtaonemghafoolaaDoorSents
import Derived.WalkKit
import Derived.ProofKit
import Derived.OpenShut
import Derived.ShutString
import Derived.ChangeOld
import Derived.Below
import Derived.SizedLaws
import Derived.LaidMore
import Derived.Stop.Joined
import Derived.SevenTiedAt
namespace Go.Proofs.YtaonemghafoolaaDoor.lempelSlide
open Go.ChangeShapes Go.WideShapes Go.ChangeAt Go.RowKit
open Go.ChangeMaps (open_string shut_string)
open Go.Proofs.YtaonemghafoolaaDoorW.PrintWords Go.Proofs.YtaonemghafoolaaDoorW.PrintLast
set_option linter.unusedVariables false

/-- The door's own heap meets the condition. -/
theorem door_met (os : Os) (args : Array Value) : laidMetH Tryd.prog Rows.lempelSlideRow.laid ((World.doorLaid Tryd.prog 168 os).forCall (fun _ _ => 0) ⟨#[], args, []⟩).memory :=
  laidMetH_of_parts3 (fuel := 8) (laidMet_of_run' 8 (by kernel_rfl) (by kernel_rfl)) (by kernel_rfl) (by kernel_rfl)

set_option maxHeartbeats 1000000 in
theorem long_walk (a0 : ByteArray) (win : Int) (w : World) (s : Nat → Addr) (hL : Err.Laid w s) (h : (a0.size : Int) > 4000) :
    Calls Tryd.prog 5 #[.string a0, .int .i64 win] w fun e w' => e = .returned (.bool true) ∧ Below w.heap.size w w' := by
  have hbad : (a0.size : Int) > 4000 ∨ win < 1 ∨ win > 4000 := .inl h
  have c0 : decide (200 < (a0.size : Int)) = true := decide_eq_true (by omega)
  have c1 : decide (200 < a0.size) = true := decide_eq_true (by omega)
  have c2 : decide ((a0.size : Int) ≤ 4000) = false := decide_eq_false (by omega)
  have c3 : decide (a0.size ≤ 4000) = false := decide_eq_false (by omega)
  have c4 : decide (4000 < (a0.size : Int)) = true := decide_eq_true h
  have c5 : decide (4000 < a0.size) = true := decide_eq_true (by omega)
  go_enter Tryd.func5, Tryd.ntmps5
  go_wp2_with (first | (go_at_call 8; refine (Q.demonlaw2_abab.calls 20 true _ Pa.abab_run).mono ?_; rintro e w1 ⟨rfl, hb1⟩; have hL1 := hL.below hb1) | (go_at_call 11; refine (Bad.slide_bad a0 win _ _ hbad (hL1.cell 0 (by decide))).mono ?_; rintro e w2 ⟨rfl, hd⟩; have hb2 := below_then hb1 hb1.size hd.below; have hL2 := hL.below hb2) | (go_at_call 13; refine (Err.coded_bound _ s hL2).mono ?_; rintro e w3 ⟨rfl, hb3⟩; have hb4 := below_then hb2 hb2.size hb3))
  go_ret
  exact ⟨rfl, hb4⟩
set_option maxHeartbeats 1000000 in
theorem low_walk (a0 : ByteArray) (win : Int) (w : World) (s : Nat → Addr) (hL : Err.Laid w s) (h : a0.size ≤ 200) (h1 : win < 1) :
    Calls Tryd.prog 5 #[.string a0, .int .i64 win] w fun e w' => e = .returned (.bool true) ∧ Below w.heap.size w w' := by
  have hbad : (a0.size : Int) > 4000 ∨ win < 1 ∨ win > 4000 := .inr (.inl h1)
  have c0 : decide (200 < (a0.size : Int)) = false := decide_eq_false (by omega)
  have c1 : decide (200 < a0.size) = false := decide_eq_false (by omega)
  have c4 : decide (4000 < (a0.size : Int)) = false := decide_eq_false (by omega)
  have c5 : decide (4000 < a0.size) = false := decide_eq_false (by omega)
  have c6 : decide (win < 1) = true := decide_eq_true h1
  go_enter Tryd.func5, Tryd.ntmps5
  go_wp2_with (first | (go_at_call 8; refine (Q.demonlaw2_abab.calls 20 true _ Pa.abab_run).mono ?_; rintro e w1 ⟨rfl, hb1⟩; have hL1 := hL.below hb1) | (go_at_call 11; refine (Bad.slide_bad a0 win _ _ hbad (hL1.cell 0 (by decide))).mono ?_; rintro e w2 ⟨rfl, hd⟩; have hb2 := below_then hb1 hb1.size hd.below; have hL2 := hL.below hb2) | (go_at_call 13; refine (Err.coded_bound _ s hL2).mono ?_; rintro e w3 ⟨rfl, hb3⟩; have hb4 := below_then hb2 hb2.size hb3))
  go_ret
  exact ⟨rfl, hb4⟩
set_option maxHeartbeats 1000000 in
theorem high_walk (a0 : ByteArray) (win : Int) (w : World) (s : Nat → Addr) (hL : Err.Laid w s) (h : a0.size ≤ 200) (h1 : ¬ win < 1) (h2 : win > 4000) :
    Calls Tryd.prog 5 #[.string a0, .int .i64 win] w fun e w' => e = .returned (.bool true) ∧ Below w.heap.size w w' := by
  have hbad : (a0.size : Int) > 4000 ∨ win < 1 ∨ win > 4000 := .inr (.inr h2)
  have c0 : decide (200 < (a0.size : Int)) = false := decide_eq_false (by omega)
  have c1 : decide (200 < a0.size) = false := decide_eq_false (by omega)
  have c4 : decide (4000 < (a0.size : Int)) = false := decide_eq_false (by omega)
  have c5 : decide (4000 < a0.size) = false := decide_eq_false (by omega)
  have c6 : decide (win < 1) = false := decide_eq_false h1
  have c7 : decide (4000 < win) = true := decide_eq_true h2
  go_enter Tryd.func5, Tryd.ntmps5
  go_wp2_with (first | (go_at_call 8; refine (Q.demonlaw2_abab.calls 20 true _ Pa.abab_run).mono ?_; rintro e w1 ⟨rfl, hb1⟩; have hL1 := hL.below hb1) | (go_at_call 11; refine (Bad.slide_bad a0 win _ _ hbad (hL1.cell 0 (by decide))).mono ?_; rintro e w2 ⟨rfl, hd⟩; have hb2 := below_then hb1 hb1.size hd.below; have hL2 := hL.below hb2) | (go_at_call 13; refine (Err.coded_bound _ s hL2).mono ?_; rintro e w3 ⟨rfl, hb3⟩; have hb4 := below_then hb2 hb2.size hb3))
  go_ret
  exact ⟨rfl, hb4⟩
theorem slide_walk (a0 : ByteArray) (win : Int) (w : World) (s : Nat → Addr) (hL : Err.Laid w s) :
    Calls Tryd.prog 5 #[.string a0, .int .i64 win] w fun e w' => e = .returned (.bool true) ∧ Below w.heap.size w w' := by
  by_cases h : (a0.size : Int) > 4000
  · exact long_walk a0 win w s hL h
  · by_cases h0 : (a0.size : Int) > 200
    · obtain ⟨k, hk⟩ := Pf.law a0 win (by omega) (.inl h0)
      refine (V.demonlaw2_LempelSlide.calls k a0 win true w hk).mono ?_
      rintro e w' ⟨rfl, hd⟩
      exact ⟨rfl, hd⟩
    · by_cases h1 : win < 1
      · exact low_walk a0 win w s hL (by omega) h1
      · by_cases h2 : win > 4000
        · exact high_walk a0 win w s hL (by omega) h1 h2
        · obtain ⟨k, hk⟩ := Pf.law a0 win (by omega) (.inr ⟨by omega, by omega⟩)
          refine (V.demonlaw2_LempelSlide.calls k a0 win true w hk).mono ?_
          rintro e w' ⟨rfl, hd⟩
          exact ⟨rfl, hd⟩

set_option maxRecDepth 100000 in
theorem lifted (os : Os) (started : os.Started) (H : Type) (enc : TypeId × Value → H) :
    ReturnsInHanded {} Tryd.checked os 5 .any (fun w args => (Rows.lempelSlideSpec.pre enc Tryd.prog Tryd.f5 [] false w args ∧ laidMetH Tryd.prog Rows.lempelSlideRow.laid w) ∧ sizedMet enc Tryd.prog Tryd.f5 (OpenSpec.ofChange Rows.lempelSlideSpec) false w args)
      (Rows.lempelSlideSpec.post enc Tryd.prog Tryd.f5 false true false false) := by
  refine returnsInHanded_of_change_and (C := Tryd.checked) (X := fun w _ => laidMetH Tryd.prog Rows.lempelSlideRow.laid w) (fun _ _ _ hh h => h.of_heap hh) Tryd.own started (by kernel_rfl) Tryd.func5
    (ChangeSpec.witness_shaped (enc := enc) (C := Tryd.checked) (os := os) (X := fun w _ => laidMetH Tryd.prog Rows.lempelSlideRow.laid w) false (World.doorLaid Tryd.prog 168 os) #[.string ByteArray.empty, .int .i64 0] 8 rfl (World.shaped_of_RefB (by kernel_rfl) (by kernel_rfl)) (by kernel_rfl) (by kernel_rfl) (by kernel_rfl) (door_met os _)) ?_
  intro W base args ds gs before hval0 hW _ hsz0 hL0 _
  have hL1 : laidMetH Tryd.prog laid9 W := hL0
  obtain ⟨sn, hL⟩ := sents_of_laid hL1
  have hsz : (DataW.weightsEach Tryd.prog (Tryd.f5.params.toList ++ Rows.lempelSlideSpec.plain.varTypes Tryd.prog) (ds ++ gs)).all (· ≤ reachBytes) = true := hsz0
  have hval : ∀ (j : Nat) t v, Tryd.f5.params[j]? = some t → args[j]? = some v → Value.okWide Tryd.prog W .any base t v := hval0
  have hW' := hW
  obtain ⟨p, q, hA0, hV, rfl, hfz, hnd⟩ := hW
  have hA : DataW.TrodAll enc Tryd.prog W 0 (fun _ => true) true Tryd.f5.params.toList args.toList ds p := hA0
  rw [Tryd.params5] at hA hval hsz
  obtain ⟨v0, vs0, d0, ds0, p0, q0, hargs, rfl, rfl, h0, r0⟩ := trodAll_cons hA
  obtain ⟨v1, vs1, d1, ds1, p1, q1, rfl, rfl, rfl, h1, r1⟩ := trodAll_cons r0
  obtain ⟨rfl, rfl, rfl⟩ := trodAll_nil r1
  obtain rfl : args = #[v0, v1] := by cases args; simp_all
  obtain ⟨rfl, rfl⟩ := trodVars_none hV
  obtain ⟨a0, rfl, rfl, rfl, y0⟩ := open_string Tryd.underlying9 (hval 0 9 v0 rfl rfl) h0
  have w0 : a0.size ≤ 140737488351232 := by
    have z := sized_string hsz (j := 0) (t := 9) rfl rfl
    rw [Array.length_toList] at z
    exact z
  obtain ⟨a1, rfl, rfl, rfl, w1⟩ := open_int Tryd.underlying3 (hval 1 3 v1 rfl rfl) h1
  clear hA0 hval0 hsz0 hsz
  refine (slide_walk a0 a1 W sn hL).mono fun e W' ⟨he, bel⟩ => ?_
  subst he
  exact ⟨_, rfl, _, _, _, [], _, [], hW', trodAll_mk1 (shut_bool Tryd.underlying4 _), (trodAll_cons_mk (shut_string Tryd.underlying9 y0) (trodAll_cons_mk (shut_int Tryd.underlying3 w1) trodAll_mk0)), rfl, bel.frame _, fun h => by cases h⟩
theorem over : Rows.lempelSlideRow.holds Tryd.pinned (OpenSpec.ofChange Rows.lempelSlideSpec) :=
  OpenClaim.holds_of_wide 5 Tryd.f5 rfl rfl rfl rfl rfl rfl rfl ⟨rfl, rfl, rfl, rfl, rfl⟩ rfl rfl rfl rfl rfl (by kernel_rfl) Tryd.func5 (by kernel_rfl)
    (of_decide_eq_true (by kernel_rfl)) (by unfold Func.isWrapper; first | (rw [if_pos (by decide +kernel)]; kernel_rfl) | (rw [if_neg (by decide +kernel)]; exact ⟨rfl, rfl⟩))
    (fun os started H enc _ => lifted os started H enc)
theorem card : Rows.LempelSlideCardSaid :=
  Claim7.holds_tied_plain_at .later [] [.handle, .sentinel, .sentinel, .sentinel, .sentinel, .sentinel, .sentinel, .sentinel, .sentinel] true (true, "4b3f41c3ebdcd2084b282bf008d4715073219b3d1ec54e41e9cc90ab24874a46") true
    over (fun _ h => by cases h) (by kernel_rfl) (fun _ h => by cases h) lempelSlide_row_tie rfl ⟨rfl, rfl⟩ (by kernel_rfl) rfl
    (fun f fn hf hfn => by
      obtain rfl : f = 5 := Option.some.inj ((show Tryd.prog.funcNamed "demon/demonlaw2.LempelSlide" = some 5 by kernel_rfl).symm.trans hf) |>.symm
      obtain rfl : fn = Tryd.f5 := (Option.some.inj (Tryd.func5.symm.trans hfn)).symm
      exact ⟨by kernel_rfl, fun j t ht => by
        rw [Tryd.params5] at ht
        have hm : t ∈ [9, 3] := by simpa using Array.mem_of_getElem? ht
        have hall : ([9, 3].all fun u => !Tryd.prog.wantsStandIn u) = true := by kernel_rfl
        exact (show Tryd.prog.wantsStandIn t = false by simpa using List.all_eq_true.1 hall t hm)⟩)
    (by kernel_rfl)
end Go.Proofs.YtaonemghafoolaaDoor.lempelSlide
namespace Go.Proofs.YtaonemghafoolaaDoor
/-- The tied card, under a short name, for the claim. -/
theorem lempelSlide_card : Rows.LempelSlideCardSaid := lempelSlide.card
#print axioms lempelSlide_card
end Go.Proofs.YtaonemghafoolaaDoor
