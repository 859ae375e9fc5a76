-- scratch print
import Derived.Test.YtaonemghafoolaaDoorBad
import Derived.Test.YtaonemghafoolaaDoorQ0
import Derived.Test.YtaonemghafoolaaDoorQ1
import Derived.Test.YtaonemghafoolaaDoorQ2
import Derived.Test.YtaonemghafoolaaDoorQ3
import Derived.Test.YtaonemghafoolaaDoorQ4
import Derived.Test.YtaonemghafoolaaDoorQ5
namespace Go.Proofs.YtaonemghafoolaaDoor.Q
open Go.RowKit Go.Proofs.YtaonemghafoolaaDoorW.PrintWords Go.Proofs.YtaonemghafoolaaDoorW.PrintLast Go.Proofs.YtaonemghafoolaaDoorW.PrintMore
attribute [local go_sem] max2_int min2_int max_two min_two max_three min_three max_four min_four   -- for this text's walks alone
set_option linter.unusedVariables false
set_option linter.unusedSimpArgs false

attribute [local go_sem high] eqA31
/-! ### demonlaw2_LempelBack: function 3 -/
mutual
def demonlaw2_LempelBack.j0 : Nat → ByteArray → Int → Bool → Bool → Option (Bool)
  | 0, _, _, _, _ => none
  | k + 1, x0, x1, x5, x19 => if x19 = true then (some x5) else ((lempel_Parse.f k x0).bind fun bt165 => (if bt165.2.isNone = true then ((lempel_Text.f k bt165.1).bind fun bt170 => (if bt170.2.isNone = true then (demonlaw2_LempelBack.j1 k x0 x1 bt165.1 (bt170.1.toList != x0.toList)) else (demonlaw2_LempelBack.j1 k x0 x1 bt165.1 true))) else (some false)))
def demonlaw2_LempelBack.j1 : Nat → ByteArray → Int → List (S31) → Bool → Option (Bool)
  | 0, _, _, _, _ => none
  | k + 1, x0, x1, x6, x39 => if x39 = true then (some false) else (demonlaw2_LempelBack.l0 k x0 x1 x6 0)
def demonlaw2_LempelBack.l0 : Nat → ByteArray → Int → List (S31) → Int → Option (Bool)
  | 0, _, _, _, _ => none
  | k + 1, x0, x1, x6, x9 => if x9 < (x6.length : Int) then (demonlaw2_LempelBack.l1 k x0 x1 x6 x9 0) else (if 1 ≤ x1 ∧ x1 ≤ 4000 then ((lempel_Slide.f k x0 x1).bind fun bt175 => (if bt175.2.isNone = true then ((lempel_Unslide.f k bt175.1).bind fun bt180 => (if bt180.2.isNone = true then (some (bt180.1.toList == x0.toList)) else (some false))) else (if x1 < 1 then (some true) else (some (decide (x1 > 4000)))))) else (some true))
def demonlaw2_LempelBack.l1 : Nat → ByteArray → Int → List (S31) → Int → Int → Option (Bool)
  | 0, _, _, _, _, _ => none
  | k + 1, x0, x1, x6, x9, x10 => if x10 < x9 then (if 0 ≤ x9 then (if x9 < (x6.length : Int) then (if 0 ≤ x10 then (if x10 < (x6.length : Int) then (if (((rd_T31 x6 x9).f0) == ((rd_T31 x6 x10).f0) && (((rd_T31 x6 x9).f1) == ((rd_T31 x6 x10).f1) && (((rd_T31 x6 x9).f2) == ((rd_T31 x6 x10).f2)))) = true then (some false) else (demonlaw2_LempelBack.l1 k x0 x1 x6 x9 (wrap64 (x10 + 1)))) else (none)) else (none)) else (none)) else (none)) else (demonlaw2_LempelBack.l0 k x0 x1 x6 (wrap64 (x9 + 1)))
end
def demonlaw2_LempelBack.f (k : Nat) (a0 : ByteArray) (a1 : Int) : Option (Bool) := (demonlaw2_abab.f k).bind fun t164 => (if t164 = true then (demonlaw2_LempelBack.j0 k a0 a1 t164 (decide ((a0.size : Int) > 600))) else (demonlaw2_LempelBack.j0 k a0 a1 t164 true))
theorem demonlaw2_LempelBack.mono_l : ∀ k, (∀ y0 y1 y2 y3, LeO (demonlaw2_LempelBack.j0 k y0 y1 y2 y3) (demonlaw2_LempelBack.j0 (k + 1) y0 y1 y2 y3)) ∧ (∀ y0 y1 y2 y3, LeO (demonlaw2_LempelBack.j1 k y0 y1 y2 y3) (demonlaw2_LempelBack.j1 (k + 1) y0 y1 y2 y3)) ∧ (∀ y0 y1 y2 y3, LeO (demonlaw2_LempelBack.l0 k y0 y1 y2 y3) (demonlaw2_LempelBack.l0 (k + 1) y0 y1 y2 y3)) ∧ (∀ y0 y1 y2 y3 y4, LeO (demonlaw2_LempelBack.l1 k y0 y1 y2 y3 y4) (demonlaw2_LempelBack.l1 (k + 1) y0 y1 y2 y3 y4))
  | 0 => ⟨fun _ _ _ _ r h => by simp [demonlaw2_LempelBack.j0] at h, fun _ _ _ _ r h => by simp [demonlaw2_LempelBack.j1] at h, fun _ _ _ _ r h => by simp [demonlaw2_LempelBack.l0] at h, fun _ _ _ _ _ r h => by simp [demonlaw2_LempelBack.l1] at h⟩
  | k + 1 => by
    obtain ⟨ih0, ih1, ih2, ih3⟩ := demonlaw2_LempelBack.mono_l k
    refine ⟨?_, ?_, ?_, ?_⟩
    · intro y0 y1 y2 y3
      unfold demonlaw2_LempelBack.j0
      repeat' first
      | (with_reducible exact ih0 _ _ _ _)
      | (with_reducible exact ih1 _ _ _ _)
      | (with_reducible exact ih2 _ _ _ _)
      | (with_reducible exact ih3 _ _ _ _ _)
      | (with_reducible exact demonlaw2_abab.mono _)
      | (with_reducible exact lempel_Parse.mono _ _)
      | (with_reducible exact lempel_Slide.mono _ _ _)
      | (with_reducible exact lempel_Text.mono _ _)
      | (with_reducible exact lempel_Unslide.mono _ _)
      | (with_reducible exact LeO.refl _)
      | (with_reducible exact LeO.none _)
      | (with_reducible refine LeO.ite ?_ ?_)
      | (with_reducible refine LeO.bind ?_ (fun _ => ?_))
      | exact ih0 _ _ _ _
      | exact ih1 _ _ _ _
      | exact ih2 _ _ _ _
      | exact ih3 _ _ _ _ _
      | exact demonlaw2_abab.mono _
      | exact lempel_Parse.mono _ _
      | exact lempel_Slide.mono _ _ _
      | exact lempel_Text.mono _ _
      | exact lempel_Unslide.mono _ _
      | exact LeO.none _
      | refine LeO.ite ?_ ?_
      | refine LeO.bind ?_ (fun _ => ?_)
    · intro y0 y1 y2 y3
      unfold demonlaw2_LempelBack.j1
      repeat' first
      | (with_reducible exact ih0 _ _ _ _)
      | (with_reducible exact ih1 _ _ _ _)
      | (with_reducible exact ih2 _ _ _ _)
      | (with_reducible exact ih3 _ _ _ _ _)
      | (with_reducible exact demonlaw2_abab.mono _)
      | (with_reducible exact lempel_Parse.mono _ _)
      | (with_reducible exact lempel_Slide.mono _ _ _)
      | (with_reducible exact lempel_Text.mono _ _)
      | (with_reducible exact lempel_Unslide.mono _ _)
      | (with_reducible exact LeO.refl _)
      | (with_reducible exact LeO.none _)
      | (with_reducible refine LeO.ite ?_ ?_)
      | (with_reducible refine LeO.bind ?_ (fun _ => ?_))
      | exact ih0 _ _ _ _
      | exact ih1 _ _ _ _
      | exact ih2 _ _ _ _
      | exact ih3 _ _ _ _ _
      | exact demonlaw2_abab.mono _
      | exact lempel_Parse.mono _ _
      | exact lempel_Slide.mono _ _ _
      | exact lempel_Text.mono _ _
      | exact lempel_Unslide.mono _ _
      | exact LeO.none _
      | refine LeO.ite ?_ ?_
      | refine LeO.bind ?_ (fun _ => ?_)
    · intro y0 y1 y2 y3
      unfold demonlaw2_LempelBack.l0
      repeat' first
      | (with_reducible exact ih0 _ _ _ _)
      | (with_reducible exact ih1 _ _ _ _)
      | (with_reducible exact ih2 _ _ _ _)
      | (with_reducible exact ih3 _ _ _ _ _)
      | (with_reducible exact demonlaw2_abab.mono _)
      | (with_reducible exact lempel_Parse.mono _ _)
      | (with_reducible exact lempel_Slide.mono _ _ _)
      | (with_reducible exact lempel_Text.mono _ _)
      | (with_reducible exact lempel_Unslide.mono _ _)
      | (with_reducible exact LeO.refl _)
      | (with_reducible exact LeO.none _)
      | (with_reducible refine LeO.ite ?_ ?_)
      | (with_reducible refine LeO.bind ?_ (fun _ => ?_))
      | exact ih0 _ _ _ _
      | exact ih1 _ _ _ _
      | exact ih2 _ _ _ _
      | exact ih3 _ _ _ _ _
      | exact demonlaw2_abab.mono _
      | exact lempel_Parse.mono _ _
      | exact lempel_Slide.mono _ _ _
      | exact lempel_Text.mono _ _
      | exact lempel_Unslide.mono _ _
      | exact LeO.none _
      | refine LeO.ite ?_ ?_
      | refine LeO.bind ?_ (fun _ => ?_)
    · intro y0 y1 y2 y3 y4
      unfold demonlaw2_LempelBack.l1
      repeat' first
      | (with_reducible exact ih0 _ _ _ _)
      | (with_reducible exact ih1 _ _ _ _)
      | (with_reducible exact ih2 _ _ _ _)
      | (with_reducible exact ih3 _ _ _ _ _)
      | (with_reducible exact demonlaw2_abab.mono _)
      | (with_reducible exact lempel_Parse.mono _ _)
      | (with_reducible exact lempel_Slide.mono _ _ _)
      | (with_reducible exact lempel_Text.mono _ _)
      | (with_reducible exact lempel_Unslide.mono _ _)
      | (with_reducible exact LeO.refl _)
      | (with_reducible exact LeO.none _)
      | (with_reducible refine LeO.ite ?_ ?_)
      | (with_reducible refine LeO.bind ?_ (fun _ => ?_))
      | exact ih0 _ _ _ _
      | exact ih1 _ _ _ _
      | exact ih2 _ _ _ _
      | exact ih3 _ _ _ _ _
      | exact demonlaw2_abab.mono _
      | exact lempel_Parse.mono _ _
      | exact lempel_Slide.mono _ _ _
      | exact lempel_Text.mono _ _
      | exact lempel_Unslide.mono _ _
      | exact LeO.none _
      | refine LeO.ite ?_ ?_
      | refine LeO.bind ?_ (fun _ => ?_)
theorem demonlaw2_LempelBack.mono : ∀ a0 a1 k, LeO (demonlaw2_LempelBack.f k a0 a1) (demonlaw2_LempelBack.f (k + 1) a0 a1) := by
  intro a0 a1 k
  obtain ⟨ih0, ih1, ih2, ih3⟩ := demonlaw2_LempelBack.mono_l k
  unfold demonlaw2_LempelBack.f
  repeat' first
      | (with_reducible exact ih0 _ _ _ _)
      | (with_reducible exact ih1 _ _ _ _)
      | (with_reducible exact ih2 _ _ _ _)
      | (with_reducible exact ih3 _ _ _ _ _)
      | (with_reducible exact demonlaw2_abab.mono _)
      | (with_reducible exact lempel_Parse.mono _ _)
      | (with_reducible exact lempel_Slide.mono _ _ _)
      | (with_reducible exact lempel_Text.mono _ _)
      | (with_reducible exact lempel_Unslide.mono _ _)
      | (with_reducible exact LeO.refl _)
      | (with_reducible exact LeO.none _)
      | (with_reducible refine LeO.ite ?_ ?_)
      | (with_reducible refine LeO.bind ?_ (fun _ => ?_))
      | exact ih0 _ _ _ _
      | exact ih1 _ _ _ _
      | exact ih2 _ _ _ _
      | exact ih3 _ _ _ _ _
      | exact demonlaw2_abab.mono _
      | exact lempel_Parse.mono _ _
      | exact lempel_Slide.mono _ _ _
      | exact lempel_Text.mono _ _
      | exact lempel_Unslide.mono _ _
      | exact LeO.none _
      | refine LeO.ite ?_ ?_
      | refine LeO.bind ?_ (fun _ => ?_)
set_option maxHeartbeats 8000000 in
set_option maxRecDepth 100000 in
theorem demonlaw2_LempelBack.calls (k : Nat) (a0 : ByteArray) (a1 : Int) (r : Bool) (w : World) (ea : Addr) (hg : w.cell? ⟨0, 0, none⟩ = some (.iface 108 (.pointer (some ea)))) (h : demonlaw2_LempelBack.f k a0 a1 = some r) :
    Calls Tryd.prog 3 #[.string a0, .int .i64 a1] w fun e w' => e = .returned (.bool r) ∧ Below w.heap.size w w' := by
  have hu31 := Tryd.underlying31
  have hu25 := Tryd.underlying25
  have HG := Aside0.mk hg
  clear hg
  have HB := Aside0.mk (Below.refl w.heap.size w)
  have H : ((demonlaw2_abab.f k).bind fun t164 => (if t164 = true then (demonlaw2_LempelBack.j0 k a0 a1 t164 (decide ((a0.size : Int) > 600))) else (demonlaw2_LempelBack.j0 k a0 a1 t164 true))) = some r := h
  clear h
  replace H := Option.bind_eq_some_iff.mp H
  obtain ⟨t164, A30, H⟩ := H
  replace H : (if t164 = true then (demonlaw2_LempelBack.j0 k a0 a1 t164 (decide ((a0.size : Int) > 600))) else (demonlaw2_LempelBack.j0 k a0 a1 t164 true)) = some r := H
  have A3 := Aside0.mk A30
  clear A30
  have HC4 := Aside0.mk H
  clear H
  go_enter Tryd.func3, Tryd.ntmps3
  go_upto_region 2 with (first | (go_at_call 8; (with_reducible refine (demonlaw2_abab.calls k  t164 _ A3.out).mono ?_); rintro e w5 ⟨rfl, hb⟩; have n0_ := Aside0.mk (below_step (by repeat (first | (with_reducible first | exact HB.out | apply below_alloc | apply pw_below_drewN | apply below_drew1) | exact HB.out)) hb); clear HB; have HB := n0_; clear n0_; (try clear hb); (try clear hb2); (try clear hk); (try clear hi)))
  repeat (go_quiet (first | (go_at_call 8; (with_reducible refine (demonlaw2_abab.calls k  t164 _ A3.out).mono ?_); rintro e w5 ⟨rfl, hb⟩; have n0_ := Aside0.mk (below_step (by repeat (first | (with_reducible first | exact HB.out | apply below_alloc | apply pw_below_drewN | apply below_drew1) | exact HB.out)) hb); clear HB; have HB := n0_; clear n0_; (try clear hb); (try clear hb2); (try clear hk); (try clear hi))); go_upto_region 2 with (first | (go_at_call 8; (with_reducible refine (demonlaw2_abab.calls k  t164 _ A3.out).mono ?_); rintro e w5 ⟨rfl, hb⟩; have n0_ := Aside0.mk (below_step (by repeat (first | (with_reducible first | exact HB.out | apply below_alloc | apply pw_below_drewN | apply below_drew1) | exact HB.out)) hb); clear HB; have HB := n0_; clear n0_; (try clear hb); (try clear hb2); (try clear hk); (try clear hi))))
  (try simp only [Act.put, List.setIfInBounds_toArray, List.set_cons_zero, List.set_cons_succ])
  go_cut [19] (fun v19 wc => ∃ (kq : Nat) (x19_3 : Bool), v19 = .bool x19_3 ∧ Aside0 (demonlaw2_LempelBack.j0 kq a0 a1 t164 x19_3 = some r) ∧ Aside0 (kq ≤ k) ∧ Aside0 (Below w.heap.size w wc))
  case first =>
    have H := HC4.out
    clear HC4
    by_cases c6 : t164 = true
    · subst c6
      have H1 : (demonlaw2_LempelBack.j0 k a0 a1 true (decide ((a0.size : Int) > 600))) = some r := by rw [if_pos rfl] at H; exact H
      clear H
      have H := H1
      clear H1
      have H' := Aside0.mk H
      clear H
      go_wp2
      repeat (go_quiet (fail); try go_wp2)
      go_meet
      case rel => exact ⟨_, (decide ((a0.size : Int) > 600)), (by first | rfl | (simp; done) | (simp [*]; done)), H', ⟨by first | omega | exact Nat.le_refl _⟩, ⟨by repeat (first | (with_reducible first | exact HB.out | apply below_alloc | apply pw_below_drewN | apply below_drew1) | exact HB.out)⟩⟩
    · replace c6 := Bool.eq_false_iff.mpr c6
      subst c6
      have H1 : (demonlaw2_LempelBack.j0 k a0 a1 false true) = some r := by rw [if_neg (show ¬ (false = true) by decide)] at H; exact H
      clear H
      have H := H1
      clear H1
      have H' := Aside0.mk H
      clear H
      go_wp2
      repeat (go_quiet (fail); try go_wp2)
      go_meet
      case rel => exact ⟨_, (true), (by first | rfl | (simp; done) | (simp [*]; done)), H', ⟨by first | omega | exact Nat.le_refl _⟩, ⟨by repeat (first | (with_reducible first | exact HB.out | apply below_alloc | apply pw_below_drewN | apply below_drew1) | exact HB.out)⟩⟩
  case rest =>
    clear HC4
    try clear p2
    try clear c3
    try clear c6
    obtain ⟨kq, x19_3, rfl, HA, HJ3, HB⟩ := hcut
    cases kq with
    | zero => exact absurd HA.out (by simp [demonlaw2_LempelBack.j0])
    | succ kj3 =>
      have H := HA.out
      clear HA
      simp only [demonlaw2_LempelBack.j0] at H
      by_cases c7 : x19_3 = true
      · subst c7
        have H1 : (some t164) = some r := by rw [if_pos rfl] at H; exact H
        clear H
        have H := H1
        clear H1
        obtain rfl := Option.some.inj H
        go_wp2
        repeat (go_quiet (fail); try go_wp2)
        go_ret
        exact ⟨by first | rfl | (simp [errW_none, errW_some] <;> rfl) | (simp [*, errW_none, errW_some] <;> rfl), by repeat (first | (with_reducible first | exact HB.out | apply below_alloc | apply pw_below_drewN | apply below_drew1) | exact HB.out)⟩
      · replace c7 := Bool.eq_false_iff.mpr c7
        subst c7
        have H1 : ((lempel_Parse.f kj3 a0).bind fun bt165 => (if bt165.2.isNone = true then ((lempel_Text.f kj3 bt165.1).bind fun bt170 => (if bt170.2.isNone = true then (demonlaw2_LempelBack.j1 kj3 a0 a1 bt165.1 (bt170.1.toList != a0.toList)) else (demonlaw2_LempelBack.j1 kj3 a0 a1 bt165.1 true))) else (some false))) = some r := by rw [if_neg (show ¬ (false = true) by decide)] at H; exact H
        clear H
        have H := H1
        clear H1
        replace H := Option.bind_eq_some_iff.mp H
        obtain ⟨⟨t165, t166⟩, A80, H⟩ := H
        replace H : (if t166.isNone = true then ((lempel_Text.f kj3 t165).bind fun bt170 => (if bt170.2.isNone = true then (demonlaw2_LempelBack.j1 kj3 a0 a1 t165 (bt170.1.toList != a0.toList)) else (demonlaw2_LempelBack.j1 kj3 a0 a1 t165 true))) else (some false)) = some r := H
        have A8 := Aside0.mk A80
        clear A80
        rcases t166 with _ | q169
        · have H1 : ((lempel_Text.f kj3 t165).bind fun bt170 => (if bt170.2.isNone = true then (demonlaw2_LempelBack.j1 kj3 a0 a1 t165 (bt170.1.toList != a0.toList)) else (demonlaw2_LempelBack.j1 kj3 a0 a1 t165 true))) = some r := by rw [if_pos (show (none : Option Int).isNone = true by rfl)] at H; exact H
          clear H
          have H := H1
          clear H1
          try simp only [errW_none, errW_some]
          replace H := Option.bind_eq_some_iff.mp H
          obtain ⟨⟨t170, t171⟩, A90, H⟩ := H
          replace H : (if t171.isNone = true then (demonlaw2_LempelBack.j1 kj3 a0 a1 t165 (t170.toList != a0.toList)) else (demonlaw2_LempelBack.j1 kj3 a0 a1 t165 true)) = some r := H
          have A9 := Aside0.mk A90
          clear A90
          have HC10 := Aside0.mk H
          clear H
          go_upto_region 8 with (first | (go_at_call 9; (with_reducible refine (lempel_Parse.calls kj3 a0 t165 none _ A8.out).mono ?_); rintro e w11 ⟨v167, rfl, ho0, hb⟩; have n0_ := Aside0.mk (Kd.R_lower ho0 (below_size (by repeat (first | (with_reducible first | exact HB.out | apply below_alloc | apply pw_below_drewN | apply below_drew1) | exact HB.out)))); have n1_ := Aside0.mk (below_step (by repeat (first | (with_reducible first | exact HB.out | apply below_alloc | apply pw_below_drewN | apply below_drew1) | exact HB.out)) hb); clear HB; have HO168 := n0_; have HB := n1_; clear n0_ n1_; (try clear hb); (try clear hb2); (try clear hk); (try clear hi); (try clear ho0); (try simp only [errW_none, errW_some]); obtain ⟨Ao12, co12, eo12⟩ := Kd.R_slice HO168.out; subst eo12) | (go_at_call 10; (with_reducible refine (lempel_Text.calls kj3 _ _ t165 t170 t171 _ ?side1 ?side2 A9.out).mono ?_); (case side1 => repeat (first | exact (Kd.R_reads' HO168.out).2.2 | (with_reducible refine Kd.C_alloc ?_ _) | (with_reducible refine Kd.C_drewN ?_ _) | (with_reducible refine Kd.C_drew ?_))); (case side2 => exact (Kd.R_reads' HO168.out).2.1); rintro e w13 ⟨rfl, hb⟩; have n0_ := Aside0.mk (Kd.R_below (by (with_reducible repeat (first | apply Kd.R_alloc | apply Kd.R_drewN | apply Kd.R_drew)); exact HO168.out) hb); have n1_ := Aside0.mk (below_step (by repeat (first | (with_reducible first | exact HB.out | apply below_alloc | apply pw_below_drewN | apply below_drew1) | exact HB.out)) hb); clear HO168; clear HB; have HO168 := n0_; have HB := n1_; clear n0_ n1_; (try clear hb); (try clear hb2); (try clear hk); (try clear hi); (try simp only [errW_none, errW_some])))
          repeat (go_quiet (first | (go_at_call 9; (with_reducible refine (lempel_Parse.calls kj3 a0 t165 none _ A8.out).mono ?_); rintro e w11 ⟨v167, rfl, ho0, hb⟩; have n0_ := Aside0.mk (Kd.R_lower ho0 (below_size (by repeat (first | (with_reducible first | exact HB.out | apply below_alloc | apply pw_below_drewN | apply below_drew1) | exact HB.out)))); have n1_ := Aside0.mk (below_step (by repeat (first | (with_reducible first | exact HB.out | apply below_alloc | apply pw_below_drewN | apply below_drew1) | exact HB.out)) hb); clear HB; have HO168 := n0_; have HB := n1_; clear n0_ n1_; (try clear hb); (try clear hb2); (try clear hk); (try clear hi); (try clear ho0); (try simp only [errW_none, errW_some]); obtain ⟨Ao12, co12, eo12⟩ := Kd.R_slice HO168.out; subst eo12) | (go_at_call 10; (with_reducible refine (lempel_Text.calls kj3 _ _ t165 t170 t171 _ ?side1 ?side2 A9.out).mono ?_); (case side1 => repeat (first | exact (Kd.R_reads' HO168.out).2.2 | (with_reducible refine Kd.C_alloc ?_ _) | (with_reducible refine Kd.C_drewN ?_ _) | (with_reducible refine Kd.C_drew ?_))); (case side2 => exact (Kd.R_reads' HO168.out).2.1); rintro e w13 ⟨rfl, hb⟩; have n0_ := Aside0.mk (Kd.R_below (by (with_reducible repeat (first | apply Kd.R_alloc | apply Kd.R_drewN | apply Kd.R_drew)); exact HO168.out) hb); have n1_ := Aside0.mk (below_step (by repeat (first | (with_reducible first | exact HB.out | apply below_alloc | apply pw_below_drewN | apply below_drew1) | exact HB.out)) hb); clear HO168; clear HB; have HO168 := n0_; have HB := n1_; clear n0_ n1_; (try clear hb); (try clear hb2); (try clear hk); (try clear hi); (try simp only [errW_none, errW_some]))); go_upto_region 8 with (first | (go_at_call 9; (with_reducible refine (lempel_Parse.calls kj3 a0 t165 none _ A8.out).mono ?_); rintro e w11 ⟨v167, rfl, ho0, hb⟩; have n0_ := Aside0.mk (Kd.R_lower ho0 (below_size (by repeat (first | (with_reducible first | exact HB.out | apply below_alloc | apply pw_below_drewN | apply below_drew1) | exact HB.out)))); have n1_ := Aside0.mk (below_step (by repeat (first | (with_reducible first | exact HB.out | apply below_alloc | apply pw_below_drewN | apply below_drew1) | exact HB.out)) hb); clear HB; have HO168 := n0_; have HB := n1_; clear n0_ n1_; (try clear hb); (try clear hb2); (try clear hk); (try clear hi); (try clear ho0); (try simp only [errW_none, errW_some]); obtain ⟨Ao12, co12, eo12⟩ := Kd.R_slice HO168.out; subst eo12) | (go_at_call 10; (with_reducible refine (lempel_Text.calls kj3 _ _ t165 t170 t171 _ ?side1 ?side2 A9.out).mono ?_); (case side1 => repeat (first | exact (Kd.R_reads' HO168.out).2.2 | (with_reducible refine Kd.C_alloc ?_ _) | (with_reducible refine Kd.C_drewN ?_ _) | (with_reducible refine Kd.C_drew ?_))); (case side2 => exact (Kd.R_reads' HO168.out).2.1); rintro e w13 ⟨rfl, hb⟩; have n0_ := Aside0.mk (Kd.R_below (by (with_reducible repeat (first | apply Kd.R_alloc | apply Kd.R_drewN | apply Kd.R_drew)); exact HO168.out) hb); have n1_ := Aside0.mk (below_step (by repeat (first | (with_reducible first | exact HB.out | apply below_alloc | apply pw_below_drewN | apply below_drew1) | exact HB.out)) hb); clear HO168; clear HB; have HO168 := n0_; have HB := n1_; clear n0_ n1_; (try clear hb); (try clear hb2); (try clear hk); (try clear hi); (try simp only [errW_none, errW_some]))))
          (try simp only [Act.put, List.setIfInBounds_toArray, List.set_cons_zero, List.set_cons_succ])
          go_cut [39] (fun v39 wc => ∃ (kq : Nat) (x39_9 : Bool), v39 = .bool x39_9 ∧ Aside0 (demonlaw2_LempelBack.j1 kq a0 a1 t165 x39_9 = some r) ∧ Aside0 (kq ≤ kj3) ∧ Aside0 (Kd.R k31 31 wc w.heap.size (fun _ => True) (.slice Ao12 t165.length co12) t165) ∧ Aside0 (Below w.heap.size w wc))
          case first =>
            have H := HC10.out
            clear HC10
            rcases t171 with _ | q172
            · have H1 : (demonlaw2_LempelBack.j1 kj3 a0 a1 t165 (t170.toList != a0.toList)) = some r := by rw [if_pos (show (none : Option Int).isNone = true by rfl)] at H; exact H
              clear H
              have H := H1
              clear H1
              try simp only [errW_none, errW_some]
              have H' := Aside0.mk H
              clear H
              go_wp2
              repeat (go_quiet (fail); try go_wp2)
              go_meet
              case rel => exact ⟨_, ((t170.toList != a0.toList)), (by first | rfl | (simp; done) | (simp [*]; done)), H', ⟨by have := HJ3.out; first | omega | exact Nat.le_refl _⟩, ⟨by (with_reducible repeat (first | apply Kd.R_alloc | apply Kd.R_drewN | apply Kd.R_drew)); exact HO168.out⟩, ⟨by repeat (first | (with_reducible first | exact HB.out | apply below_alloc | apply pw_below_drewN | apply below_drew1) | exact HB.out)⟩⟩
            · have H1 : (demonlaw2_LempelBack.j1 kj3 a0 a1 t165 true) = some r := by rw [if_neg (show ¬ (some q172).isNone = true by simp)] at H; exact H
              clear H
              have H := H1
              clear H1
              try simp only [errW_none, errW_some]
              have H' := Aside0.mk H
              clear H
              go_wp2
              repeat (go_quiet (fail); try go_wp2)
              go_meet
              case rel => exact ⟨_, (true), (by first | rfl | (simp; done) | (simp [*]; done)), H', ⟨by have := HJ3.out; first | omega | exact Nat.le_refl _⟩, ⟨by (with_reducible repeat (first | apply Kd.R_alloc | apply Kd.R_drewN | apply Kd.R_drew)); exact HO168.out⟩, ⟨by repeat (first | (with_reducible first | exact HB.out | apply below_alloc | apply pw_below_drewN | apply below_drew1) | exact HB.out)⟩⟩
          case rest =>
            clear HC10
            try clear q1
            try clear p2
            try clear c3
            try clear c6
            try clear c7
            try clear p2
            try clear q169
            try clear q172
            obtain ⟨kq, x39_9, rfl, HA, HJ9, HO_6, HB⟩ := hcut
            cases kq with
            | zero => exact absurd HA.out (by simp [demonlaw2_LempelBack.j1])
            | succ kj9 =>
              have H := HA.out
              clear HA
              simp only [demonlaw2_LempelBack.j1] at H
              by_cases c14 : x39_9 = true
              · subst c14
                have H1 : (some false) = some r := by rw [if_pos rfl] at H; exact H
                clear H
                have H := H1
                clear H1
                obtain rfl := Option.some.inj H
                go_wp2
                repeat (go_quiet (fail); try go_wp2)
                go_ret
                exact ⟨by first | rfl | (simp [errW_none, errW_some] <;> rfl) | (simp [*, errW_none, errW_some] <;> rfl), by repeat (first | (with_reducible first | exact HB.out | apply below_alloc | apply pw_below_drewN | apply below_drew1) | exact HB.out)⟩
              · replace c14 := Bool.eq_false_iff.mpr c14
                subst c14
                have H1 : (demonlaw2_LempelBack.l0 kj9 a0 a1 t165 0) = some r := by rw [if_neg (show ¬ (false = true) by decide)] at H; exact H
                clear H
                have H := H1
                clear H1
                have H' := Aside0.mk H
                clear H
                go_wp2
                repeat (go_quiet (fail); try go_wp2)
                go_loopg [9] kj9 (fun kq v9 w' => ∃ (x9_3 : Int), v9 = .int .i64 x9_3 ∧ Aside0 (demonlaw2_LempelBack.l0 kq a0 a1 t165 x9_3 = some r) ∧ Aside0 (kq ≤ kj9) ∧ Aside0 (Kd.R k31 31 w' w.heap.size (fun _ => True) (.slice Ao12 t165.length co12) t165) ∧ Aside0 (Below w.heap.size w w'))
                case atStart => exact ⟨(0), (by first | rfl | (simp; done) | (simp [*]; done)), H', ⟨Nat.le_refl _⟩, ⟨by (with_reducible repeat (first | apply Kd.R_alloc | apply Kd.R_drewN | apply Kd.R_drew)); exact HO_6.out⟩, ⟨by repeat (first | (with_reducible first | exact HB.out | apply below_alloc | apply pw_below_drewN | apply below_drew1) | exact HB.out)⟩⟩
                case round =>
                  clear H'
                  try clear c1
                  try clear q1
                  try clear p2
                  try clear c3
                  try clear c6
                  try clear c7
                  try clear c14
                  try clear p2
                  try clear q1
                  try clear q169
                  try clear q172
                  obtain ⟨x9_3, rfl, HA, HK3, HO_6, HB⟩ := hrel
                  cases gk with
                  | zero => exact absurd HA.out (by simp [demonlaw2_LempelBack.l0])
                  | succ k3 =>
                    have H := HA.out
                    clear HA
                    simp only [demonlaw2_LempelBack.l0] at H
                    by_cases c15 : x9_3 < (t165.length : Int)
                    · rw [if_pos c15] at H
                      have c15b0 : decide (x9_3 < (t165.length : Int)) = true := decide_eq_true c15
                      clear c15
                      have H' := Aside0.mk H
                      clear H
                      go_wp2
                      repeat (go_quiet (fail); try go_wp2)
                      go_loopg [10] k3 (fun kq v10 w' => ∃ (x10_4 : Int), v10 = .int .i64 x10_4 ∧ Aside0 (demonlaw2_LempelBack.l1 kq a0 a1 t165 x9_3 x10_4 = some r) ∧ Aside0 (kq ≤ k3) ∧ Aside0 (Kd.R k31 31 w' w.heap.size (fun _ => True) (.slice Ao12 t165.length co12) t165) ∧ Aside0 (Below w.heap.size w w'))
                      case atStart => exact ⟨(0), (by first | rfl | (simp; done) | (simp [*]; done)), H', ⟨Nat.le_refl _⟩, ⟨by (with_reducible repeat (first | apply Kd.R_alloc | apply Kd.R_drewN | apply Kd.R_drew)); exact HO_6.out⟩, ⟨by repeat (first | (with_reducible first | exact HB.out | apply below_alloc | apply pw_below_drewN | apply below_drew1) | exact HB.out)⟩⟩
                      case round =>
                        clear H'
                        try clear c1
                        try clear q1
                        try clear p2
                        try clear c3
                        try clear c6
                        try clear c7
                        try clear c14
                        try clear c15
                        try clear c15b0
                        try clear p2
                        try clear q1
                        try clear q169
                        try clear q172
                        obtain ⟨x10_4, rfl, HA, HK4, HO_6, HB⟩ := hrel
                        cases gk with
                        | zero => exact absurd HA.out (by simp [demonlaw2_LempelBack.l1])
                        | succ k4 =>
                          have H := HA.out
                          clear HA
                          simp only [demonlaw2_LempelBack.l1] at H
                          by_cases c16 : x10_4 < x9_3
                          · rw [if_pos c16] at H
                            have c16b0 : decide (x10_4 < x9_3) = true := decide_eq_true c16
                            clear c16
                            by_cases c17 : 0 ≤ x9_3
                            · rw [if_pos c17] at H
                              have c17b0 : decide (0 ≤ x9_3) = true := decide_eq_true c17
                              clear c17
                              by_cases c18 : x9_3 < (t165.length : Int)
                              · rw [if_pos c18] at H
                                have c18b0 : decide (x9_3 < (t165.length : Int)) = true := decide_eq_true c18
                                clear c18
                                by_cases c19 : 0 ≤ x10_4
                                · rw [if_pos c19] at H
                                  have c19b0 : decide (0 ≤ x10_4) = true := decide_eq_true c19
                                  clear c19
                                  by_cases c20 : x10_4 < (t165.length : Int)
                                  · rw [if_pos c20] at H
                                    have c20b0 : decide (x10_4 < (t165.length : Int)) = true := decide_eq_true c20
                                    clear c20
                                    by_cases c21 : (((rd_T31 t165 x9_3).f0) == ((rd_T31 t165 x10_4).f0) && (((rd_T31 t165 x9_3).f1) == ((rd_T31 t165 x10_4).f1) && (((rd_T31 t165 x9_3).f2) == ((rd_T31 t165 x10_4).f2)))) = true
                                    · rw [if_pos c21] at H
                                      have c21b0 : (((rd_T31 t165 x9_3).f0) == ((rd_T31 t165 x10_4).f0) && (((rd_T31 t165 x9_3).f1) == ((rd_T31 t165 x10_4).f1) && (((rd_T31 t165 x9_3).f2) == ((rd_T31 t165 x10_4).f2)))) = true := c21
                                      (try (have c21b1 : decide (((rd_T31 t165 x9_3).f0) = ((rd_T31 t165 x10_4).f0) && (((rd_T31 t165 x9_3).f1) == ((rd_T31 t165 x10_4).f1) && (((rd_T31 t165 x9_3).f2) == ((rd_T31 t165 x10_4).f2)))) = true := by simpa using c21))
                                      (try (have c21b2 : (((rd_T31 t165 x9_3).f0) == ((rd_T31 t165 x10_4).f0) && (((rd_T31 t165 x9_3).f1) == ((rd_T31 t165 x10_4).f1) && (((rd_T31 t165 x9_3).f2) == ((rd_T31 t165 x10_4).f2)))) = true := by simpa using c21))
                                      clear c21
                                      obtain rfl := Option.some.inj H
                                      have p173 : 0 ≤ (x9_3 : Int) := of_decide_eq_true (by first | (with_reducible assumption) | assumption)
                                      have q173 : x9_3 < (t165.length : Int) := of_decide_eq_true (by first | (with_reducible assumption) | assumption)
                                      obtain ⟨ad173, e173, hx173_0, hx173_1, hx173_2⟩ := at_T31 (Kd.R_reads' HO_6.out).2.2 x9_3 p173 q173
                                      cases e173
                                      replace p173 := eq_true p173
                                      replace q173 := eq_true q173
                                      have p174 : 0 ≤ (x10_4 : Int) := of_decide_eq_true (by first | (with_reducible assumption) | assumption)
                                      have q174 : x10_4 < (t165.length : Int) := of_decide_eq_true (by first | (with_reducible assumption) | assumption)
                                      obtain ⟨ad174, e174, hx174_0, hx174_1, hx174_2⟩ := at_T31 (Kd.R_reads' HO_6.out).2.2 x10_4 p174 q174
                                      obtain rfl : ad173 = ad174 := (by injection e174)
                                      replace p174 := eq_true p174
                                      replace q174 := eq_true q174
                                      go_wp2
                                      repeat (go_quiet (fail); try go_wp2)
                                      go_ret
                                      exact ⟨by first | rfl | (simp [errW_none, errW_some] <;> rfl) | (simp [*, errW_none, errW_some] <;> rfl), by repeat (first | (with_reducible first | exact HB.out | apply below_alloc | apply pw_below_drewN | apply below_drew1) | exact HB.out)⟩
                                    · rw [if_neg c21] at H
                                      have c21b0 : (((rd_T31 t165 x9_3).f0) == ((rd_T31 t165 x10_4).f0) && (((rd_T31 t165 x9_3).f1) == ((rd_T31 t165 x10_4).f1) && (((rd_T31 t165 x9_3).f2) == ((rd_T31 t165 x10_4).f2)))) = false := by simpa using c21
                                      (try (have c21b1 : decide (((rd_T31 t165 x9_3).f0) = ((rd_T31 t165 x10_4).f0) && (((rd_T31 t165 x9_3).f1) == ((rd_T31 t165 x10_4).f1) && (((rd_T31 t165 x9_3).f2) == ((rd_T31 t165 x10_4).f2)))) = false := by simpa using c21))
                                      (try (have c21b2 : (((rd_T31 t165 x9_3).f0) == ((rd_T31 t165 x10_4).f0) && (((rd_T31 t165 x9_3).f1) == ((rd_T31 t165 x10_4).f1) && (((rd_T31 t165 x9_3).f2) == ((rd_T31 t165 x10_4).f2)))) = false := by simpa using c21))
                                      (try (have c21b3 : ¬ (((rd_T31 t165 x9_3).f0) = ((rd_T31 t165 x10_4).f0) && (((rd_T31 t165 x9_3).f1) == ((rd_T31 t165 x10_4).f1) && (((rd_T31 t165 x9_3).f2) == ((rd_T31 t165 x10_4).f2)))) := by simpa using c21))
                                      clear c21
                                      have H' := Aside0.mk H
                                      clear H
                                      have p173 : 0 ≤ (x9_3 : Int) := of_decide_eq_true (by first | (with_reducible assumption) | assumption)
                                      have q173 : x9_3 < (t165.length : Int) := of_decide_eq_true (by first | (with_reducible assumption) | assumption)
                                      obtain ⟨ad173, e173, hx173_0, hx173_1, hx173_2⟩ := at_T31 (Kd.R_reads' HO_6.out).2.2 x9_3 p173 q173
                                      cases e173
                                      replace p173 := eq_true p173
                                      replace q173 := eq_true q173
                                      have p174 : 0 ≤ (x10_4 : Int) := of_decide_eq_true (by first | (with_reducible assumption) | assumption)
                                      have q174 : x10_4 < (t165.length : Int) := of_decide_eq_true (by first | (with_reducible assumption) | assumption)
                                      obtain ⟨ad174, e174, hx174_0, hx174_1, hx174_2⟩ := at_T31 (Kd.R_reads' HO_6.out).2.2 x10_4 p174 q174
                                      obtain rfl : ad173 = ad174 := (by injection e174)
                                      replace p174 := eq_true p174
                                      replace q174 := eq_true q174
                                      go_wp2
                                      repeat (go_quiet (fail); try go_wp2)
                                      go_roundg k4
                                      case measure => have := HJ3.out; have := HJ9.out; have := HK3.out; have := HK4.out; omega
                                      case rel => exact ⟨(wrap64 (x10_4 + 1)), (by first | rfl | (simp; done) | (simp [*]; done)), H', ⟨by have := HJ3.out; have := HJ9.out; have := HK3.out; have := HK4.out; omega⟩, ⟨by (with_reducible repeat (first | apply Kd.R_alloc | apply Kd.R_drewN | apply Kd.R_drew)); exact HO_6.out⟩, ⟨by repeat (first | (with_reducible first | exact HB.out | apply below_alloc | apply pw_below_drewN | apply below_drew1) | exact HB.out)⟩⟩
                                  · rw [if_neg c20] at H
                                    exact absurd H (by simp)
                                · rw [if_neg c19] at H
                                  exact absurd H (by simp)
                              · rw [if_neg c18] at H
                                exact absurd H (by simp)
                            · rw [if_neg c17] at H
                              exact absurd H (by simp)
                          · rw [if_neg c16] at H
                            have c16b0 : decide (x10_4 < x9_3) = false := decide_eq_false c16
                            clear c16
                            have H' := Aside0.mk H
                            clear H
                            go_wp2
                            repeat (go_quiet (fail); try go_wp2)
                            go_roundg k4
                            case measure => have := HJ3.out; have := HJ9.out; have := HK3.out; have := HK4.out; omega
                            case rel => exact ⟨(wrap64 (x9_3 + 1)), (by first | rfl | (simp; done) | (simp [*]; done)), H', ⟨by have := HJ3.out; have := HJ9.out; have := HK3.out; have := HK4.out; omega⟩, ⟨by (with_reducible repeat (first | apply Kd.R_alloc | apply Kd.R_drewN | apply Kd.R_drew)); exact HO_6.out⟩, ⟨by repeat (first | (with_reducible first | exact HB.out | apply below_alloc | apply pw_below_drewN | apply below_drew1) | exact HB.out)⟩⟩
                    · rw [if_neg c15] at H
                      have c15b0 : decide (x9_3 < (t165.length : Int)) = false := decide_eq_false c15
                      clear c15
                      by_cases cW : 1 ≤ a1 ∧ a1 ≤ 4000
                      rotate_left
                      · rw [if_neg cW] at H
                        obtain rfl := Option.some.inj H
                        have cell_ : wr.cell? ⟨0, 0, none⟩ = some (.iface 108 (.pointer (some ea))) := (HB.out.cell (World.block_lt_of_cell? w _ HG.out)).trans HG.out
                        have HC_ := Aside0.mk cell_
                        clear cell_
                        by_cases cL : a1 < 1
                        · have cLb0 : decide (a1 < 1) = true := decide_eq_true cL
                          have HL_ := Aside0.mk cL
                          clear cL cW
                          go_wp2_with (go_at_call 11; (with_reducible refine (Bad.slide_bad a0 a1 (.iface 108 (.pointer (some ea))) _ (.inr (.inl HL_.out)) HC_.out).mono ?_); rintro e w_ ⟨rfl, ⟨nd, rfl⟩⟩)
                          go_ret
                          exact ⟨rfl, by repeat (first | (with_reducible first | exact HB.out | apply below_alloc | apply pw_below_drewN | apply below_drew1) | exact HB.out)⟩
                        · have cLb0 : decide (a1 < 1) = false := decide_eq_false cL
                          have cHb0 : decide (4000 < a1) = true := decide_eq_true (by omega)
                          have HL_ : Aside0 (a1 > 4000) := ⟨by omega⟩
                          clear cL cW
                          go_wp2_with (go_at_call 11; (with_reducible refine (Bad.slide_bad a0 a1 (.iface 108 (.pointer (some ea))) _ (.inr (.inr HL_.out)) HC_.out).mono ?_); rintro e w_ ⟨rfl, ⟨nd, rfl⟩⟩)
                          go_ret
                          exact ⟨rfl, by repeat (first | (with_reducible first | exact HB.out | apply below_alloc | apply pw_below_drewN | apply below_drew1) | exact HB.out)⟩
                      rw [if_pos cW] at H
                      clear cW
                      replace H := Option.bind_eq_some_iff.mp H
                      obtain ⟨⟨t175, t176⟩, A220, H⟩ := H
                      replace H : (if t176.isNone = true then ((lempel_Unslide.f k3 t175).bind fun bt180 => (if bt180.2.isNone = true then (some (bt180.1.toList == a0.toList)) else (some false))) else (if a1 < 1 then (some true) else (some (decide (a1 > 4000))))) = some r := H
                      have A22 := Aside0.mk A220
                      clear A220
                      rcases t176 with _ | q179
                      · have H1 : ((lempel_Unslide.f k3 t175).bind fun bt180 => (if bt180.2.isNone = true then (some (bt180.1.toList == a0.toList)) else (some false))) = some r := by rw [if_pos (show (none : Option Int).isNone = true by rfl)] at H; exact H
                        clear H
                        have H := H1
                        clear H1
                        try simp only [errW_none, errW_some]
                        replace H := Option.bind_eq_some_iff.mp H
                        obtain ⟨⟨t180, t181⟩, A230, H⟩ := H
                        replace H : (if t181.isNone = true then (some (t180.toList == a0.toList)) else (some false)) = some r := H
                        have A23 := Aside0.mk A230
                        clear A230
                        rcases t181 with _ | q182
                        · have H1 : (some (t180.toList == a0.toList)) = some r := by rw [if_pos (show (none : Option Int).isNone = true by rfl)] at H; exact H
                          clear H
                          have H := H1
                          clear H1
                          try simp only [errW_none, errW_some]
                          obtain rfl := Option.some.inj H
                          go_wp2_with (first | (go_at_call 11; (with_reducible refine (lempel_Slide.calls k3 a0 a1 t175 none _ A22.out).mono ?_); rintro e w24 ⟨v177, rfl, ho0, hb⟩; have n0_ := Aside0.mk (Kd.R_below (by (with_reducible repeat (first | apply Kd.R_alloc | apply Kd.R_drewN | apply Kd.R_drew)); exact HO_6.out) hb); have n1_ := Aside0.mk (Kd.R_lower ho0 (below_size (by repeat (first | (with_reducible first | exact HB.out | apply below_alloc | apply pw_below_drewN | apply below_drew1) | exact HB.out)))); have n2_ := Aside0.mk (below_step (by repeat (first | (with_reducible first | exact HB.out | apply below_alloc | apply pw_below_drewN | apply below_drew1) | exact HB.out)) hb); clear HO_6; clear HB; have HO_6 := n0_; have HO178 := n1_; have HB := n2_; clear n0_ n1_ n2_; (try clear hb); (try clear hb2); (try clear hk); (try clear hi); (try clear ho0); (try simp only [errW_none, errW_some]); obtain ⟨Ao25, co25, eo25⟩ := Kd.R_slice HO178.out; subst eo25) | (go_at_call 12; (with_reducible refine (lempel_Unslide.calls k3 _ _ t175 t180 none _ ?side1 ?side2 A23.out).mono ?_); (case side1 => repeat (first | exact (Kd.R_reads' HO178.out).2.2 | (with_reducible refine Kd.C_alloc ?_ _) | (with_reducible refine Kd.C_drewN ?_ _) | (with_reducible refine Kd.C_drew ?_))); (case side2 => exact (Kd.R_reads' HO178.out).2.1); rintro e w26 ⟨rfl, hb⟩; have n0_ := Aside0.mk (Kd.R_below (by (with_reducible repeat (first | apply Kd.R_alloc | apply Kd.R_drewN | apply Kd.R_drew)); exact HO_6.out) hb); have n1_ := Aside0.mk (Kd.R_below (by (with_reducible repeat (first | apply Kd.R_alloc | apply Kd.R_drewN | apply Kd.R_drew)); exact HO178.out) hb); have n2_ := Aside0.mk (below_step (by repeat (first | (with_reducible first | exact HB.out | apply below_alloc | apply pw_below_drewN | apply below_drew1) | exact HB.out)) hb); clear HO_6; clear HO178; clear HB; have HO_6 := n0_; have HO178 := n1_; have HB := n2_; clear n0_ n1_ n2_; (try clear hb); (try clear hb2); (try clear hk); (try clear hi); (try simp only [errW_none, errW_some])))
                          repeat (go_quiet (first | (go_at_call 11; (with_reducible refine (lempel_Slide.calls k3 a0 a1 t175 none _ A22.out).mono ?_); rintro e w24 ⟨v177, rfl, ho0, hb⟩; have n0_ := Aside0.mk (Kd.R_below (by (with_reducible repeat (first | apply Kd.R_alloc | apply Kd.R_drewN | apply Kd.R_drew)); exact HO_6.out) hb); have n1_ := Aside0.mk (Kd.R_lower ho0 (below_size (by repeat (first | (with_reducible first | exact HB.out | apply below_alloc | apply pw_below_drewN | apply below_drew1) | exact HB.out)))); have n2_ := Aside0.mk (below_step (by repeat (first | (with_reducible first | exact HB.out | apply below_alloc | apply pw_below_drewN | apply below_drew1) | exact HB.out)) hb); clear HO_6; clear HB; have HO_6 := n0_; have HO178 := n1_; have HB := n2_; clear n0_ n1_ n2_; (try clear hb); (try clear hb2); (try clear hk); (try clear hi); (try clear ho0); (try simp only [errW_none, errW_some]); obtain ⟨Ao25, co25, eo25⟩ := Kd.R_slice HO178.out; subst eo25) | (go_at_call 12; (with_reducible refine (lempel_Unslide.calls k3 _ _ t175 t180 none _ ?side1 ?side2 A23.out).mono ?_); (case side1 => repeat (first | exact (Kd.R_reads' HO178.out).2.2 | (with_reducible refine Kd.C_alloc ?_ _) | (with_reducible refine Kd.C_drewN ?_ _) | (with_reducible refine Kd.C_drew ?_))); (case side2 => exact (Kd.R_reads' HO178.out).2.1); rintro e w26 ⟨rfl, hb⟩; have n0_ := Aside0.mk (Kd.R_below (by (with_reducible repeat (first | apply Kd.R_alloc | apply Kd.R_drewN | apply Kd.R_drew)); exact HO_6.out) hb); have n1_ := Aside0.mk (Kd.R_below (by (with_reducible repeat (first | apply Kd.R_alloc | apply Kd.R_drewN | apply Kd.R_drew)); exact HO178.out) hb); have n2_ := Aside0.mk (below_step (by repeat (first | (with_reducible first | exact HB.out | apply below_alloc | apply pw_below_drewN | apply below_drew1) | exact HB.out)) hb); clear HO_6; clear HO178; clear HB; have HO_6 := n0_; have HO178 := n1_; have HB := n2_; clear n0_ n1_ n2_; (try clear hb); (try clear hb2); (try clear hk); (try clear hi); (try simp only [errW_none, errW_some]))); try go_wp2_with (first | (go_at_call 11; (with_reducible refine (lempel_Slide.calls k3 a0 a1 t175 none _ A22.out).mono ?_); rintro e w24 ⟨v177, rfl, ho0, hb⟩; have n0_ := Aside0.mk (Kd.R_below (by (with_reducible repeat (first | apply Kd.R_alloc | apply Kd.R_drewN | apply Kd.R_drew)); exact HO_6.out) hb); have n1_ := Aside0.mk (Kd.R_lower ho0 (below_size (by repeat (first | (with_reducible first | exact HB.out | apply below_alloc | apply pw_below_drewN | apply below_drew1) | exact HB.out)))); have n2_ := Aside0.mk (below_step (by repeat (first | (with_reducible first | exact HB.out | apply below_alloc | apply pw_below_drewN | apply below_drew1) | exact HB.out)) hb); clear HO_6; clear HB; have HO_6 := n0_; have HO178 := n1_; have HB := n2_; clear n0_ n1_ n2_; (try clear hb); (try clear hb2); (try clear hk); (try clear hi); (try clear ho0); (try simp only [errW_none, errW_some]); obtain ⟨Ao25, co25, eo25⟩ := Kd.R_slice HO178.out; subst eo25) | (go_at_call 12; (with_reducible refine (lempel_Unslide.calls k3 _ _ t175 t180 none _ ?side1 ?side2 A23.out).mono ?_); (case side1 => repeat (first | exact (Kd.R_reads' HO178.out).2.2 | (with_reducible refine Kd.C_alloc ?_ _) | (with_reducible refine Kd.C_drewN ?_ _) | (with_reducible refine Kd.C_drew ?_))); (case side2 => exact (Kd.R_reads' HO178.out).2.1); rintro e w26 ⟨rfl, hb⟩; have n0_ := Aside0.mk (Kd.R_below (by (with_reducible repeat (first | apply Kd.R_alloc | apply Kd.R_drewN | apply Kd.R_drew)); exact HO_6.out) hb); have n1_ := Aside0.mk (Kd.R_below (by (with_reducible repeat (first | apply Kd.R_alloc | apply Kd.R_drewN | apply Kd.R_drew)); exact HO178.out) hb); have n2_ := Aside0.mk (below_step (by repeat (first | (with_reducible first | exact HB.out | apply below_alloc | apply pw_below_drewN | apply below_drew1) | exact HB.out)) hb); clear HO_6; clear HO178; clear HB; have HO_6 := n0_; have HO178 := n1_; have HB := n2_; clear n0_ n1_ n2_; (try clear hb); (try clear hb2); (try clear hk); (try clear hi); (try simp only [errW_none, errW_some]))))
                          go_ret
                          exact ⟨by first | rfl | (simp [errW_none, errW_some] <;> rfl) | (simp [*, errW_none, errW_some] <;> rfl), by repeat (first | (with_reducible first | exact HB.out | apply below_alloc | apply pw_below_drewN | apply below_drew1) | exact HB.out)⟩
                        · have H1 : (some false) = some r := by rw [if_neg (show ¬ (some q182).isNone = true by simp)] at H; exact H
                          clear H
                          have H := H1
                          clear H1
                          try simp only [errW_none, errW_some]
                          obtain rfl := Option.some.inj H
                          go_wp2_with (first | (go_at_call 11; (with_reducible refine (lempel_Slide.calls k3 a0 a1 t175 none _ A22.out).mono ?_); rintro e w27 ⟨v177, rfl, ho0, hb⟩; have n0_ := Aside0.mk (Kd.R_below (by (with_reducible repeat (first | apply Kd.R_alloc | apply Kd.R_drewN | apply Kd.R_drew)); exact HO_6.out) hb); have n1_ := Aside0.mk (Kd.R_lower ho0 (below_size (by repeat (first | (with_reducible first | exact HB.out | apply below_alloc | apply pw_below_drewN | apply below_drew1) | exact HB.out)))); have n2_ := Aside0.mk (below_step (by repeat (first | (with_reducible first | exact HB.out | apply below_alloc | apply pw_below_drewN | apply below_drew1) | exact HB.out)) hb); clear HO_6; clear HB; have HO_6 := n0_; have HO178 := n1_; have HB := n2_; clear n0_ n1_ n2_; (try clear hb); (try clear hb2); (try clear hk); (try clear hi); (try clear ho0); (try simp only [errW_none, errW_some]); obtain ⟨Ao28, co28, eo28⟩ := Kd.R_slice HO178.out; subst eo28) | (go_at_call 12; (with_reducible refine (lempel_Unslide.calls k3 _ _ t175 t180 (some q182) _ ?side1 ?side2 A23.out).mono ?_); (case side1 => repeat (first | exact (Kd.R_reads' HO178.out).2.2 | (with_reducible refine Kd.C_alloc ?_ _) | (with_reducible refine Kd.C_drewN ?_ _) | (with_reducible refine Kd.C_drew ?_))); (case side2 => exact (Kd.R_reads' HO178.out).2.1); rintro e w29 ⟨rfl, hb⟩; have n0_ := Aside0.mk (Kd.R_below (by (with_reducible repeat (first | apply Kd.R_alloc | apply Kd.R_drewN | apply Kd.R_drew)); exact HO_6.out) hb); have n1_ := Aside0.mk (Kd.R_below (by (with_reducible repeat (first | apply Kd.R_alloc | apply Kd.R_drewN | apply Kd.R_drew)); exact HO178.out) hb); have n2_ := Aside0.mk (below_step (by repeat (first | (with_reducible first | exact HB.out | apply below_alloc | apply pw_below_drewN | apply below_drew1) | exact HB.out)) hb); clear HO_6; clear HO178; clear HB; have HO_6 := n0_; have HO178 := n1_; have HB := n2_; clear n0_ n1_ n2_; (try clear hb); (try clear hb2); (try clear hk); (try clear hi); (try simp only [errW_none, errW_some])))
                          repeat (go_quiet (first | (go_at_call 11; (with_reducible refine (lempel_Slide.calls k3 a0 a1 t175 none _ A22.out).mono ?_); rintro e w27 ⟨v177, rfl, ho0, hb⟩; have n0_ := Aside0.mk (Kd.R_below (by (with_reducible repeat (first | apply Kd.R_alloc | apply Kd.R_drewN | apply Kd.R_drew)); exact HO_6.out) hb); have n1_ := Aside0.mk (Kd.R_lower ho0 (below_size (by repeat (first | (with_reducible first | exact HB.out | apply below_alloc | apply pw_below_drewN | apply below_drew1) | exact HB.out)))); have n2_ := Aside0.mk (below_step (by repeat (first | (with_reducible first | exact HB.out | apply below_alloc | apply pw_below_drewN | apply below_drew1) | exact HB.out)) hb); clear HO_6; clear HB; have HO_6 := n0_; have HO178 := n1_; have HB := n2_; clear n0_ n1_ n2_; (try clear hb); (try clear hb2); (try clear hk); (try clear hi); (try clear ho0); (try simp only [errW_none, errW_some]); obtain ⟨Ao28, co28, eo28⟩ := Kd.R_slice HO178.out; subst eo28) | (go_at_call 12; (with_reducible refine (lempel_Unslide.calls k3 _ _ t175 t180 (some q182) _ ?side1 ?side2 A23.out).mono ?_); (case side1 => repeat (first | exact (Kd.R_reads' HO178.out).2.2 | (with_reducible refine Kd.C_alloc ?_ _) | (with_reducible refine Kd.C_drewN ?_ _) | (with_reducible refine Kd.C_drew ?_))); (case side2 => exact (Kd.R_reads' HO178.out).2.1); rintro e w29 ⟨rfl, hb⟩; have n0_ := Aside0.mk (Kd.R_below (by (with_reducible repeat (first | apply Kd.R_alloc | apply Kd.R_drewN | apply Kd.R_drew)); exact HO_6.out) hb); have n1_ := Aside0.mk (Kd.R_below (by (with_reducible repeat (first | apply Kd.R_alloc | apply Kd.R_drewN | apply Kd.R_drew)); exact HO178.out) hb); have n2_ := Aside0.mk (below_step (by repeat (first | (with_reducible first | exact HB.out | apply below_alloc | apply pw_below_drewN | apply below_drew1) | exact HB.out)) hb); clear HO_6; clear HO178; clear HB; have HO_6 := n0_; have HO178 := n1_; have HB := n2_; clear n0_ n1_ n2_; (try clear hb); (try clear hb2); (try clear hk); (try clear hi); (try simp only [errW_none, errW_some]))); try go_wp2_with (first | (go_at_call 11; (with_reducible refine (lempel_Slide.calls k3 a0 a1 t175 none _ A22.out).mono ?_); rintro e w27 ⟨v177, rfl, ho0, hb⟩; have n0_ := Aside0.mk (Kd.R_below (by (with_reducible repeat (first | apply Kd.R_alloc | apply Kd.R_drewN | apply Kd.R_drew)); exact HO_6.out) hb); have n1_ := Aside0.mk (Kd.R_lower ho0 (below_size (by repeat (first | (with_reducible first | exact HB.out | apply below_alloc | apply pw_below_drewN | apply below_drew1) | exact HB.out)))); have n2_ := Aside0.mk (below_step (by repeat (first | (with_reducible first | exact HB.out | apply below_alloc | apply pw_below_drewN | apply below_drew1) | exact HB.out)) hb); clear HO_6; clear HB; have HO_6 := n0_; have HO178 := n1_; have HB := n2_; clear n0_ n1_ n2_; (try clear hb); (try clear hb2); (try clear hk); (try clear hi); (try clear ho0); (try simp only [errW_none, errW_some]); obtain ⟨Ao28, co28, eo28⟩ := Kd.R_slice HO178.out; subst eo28) | (go_at_call 12; (with_reducible refine (lempel_Unslide.calls k3 _ _ t175 t180 (some q182) _ ?side1 ?side2 A23.out).mono ?_); (case side1 => repeat (first | exact (Kd.R_reads' HO178.out).2.2 | (with_reducible refine Kd.C_alloc ?_ _) | (with_reducible refine Kd.C_drewN ?_ _) | (with_reducible refine Kd.C_drew ?_))); (case side2 => exact (Kd.R_reads' HO178.out).2.1); rintro e w29 ⟨rfl, hb⟩; have n0_ := Aside0.mk (Kd.R_below (by (with_reducible repeat (first | apply Kd.R_alloc | apply Kd.R_drewN | apply Kd.R_drew)); exact HO_6.out) hb); have n1_ := Aside0.mk (Kd.R_below (by (with_reducible repeat (first | apply Kd.R_alloc | apply Kd.R_drewN | apply Kd.R_drew)); exact HO178.out) hb); have n2_ := Aside0.mk (below_step (by repeat (first | (with_reducible first | exact HB.out | apply below_alloc | apply pw_below_drewN | apply below_drew1) | exact HB.out)) hb); clear HO_6; clear HO178; clear HB; have HO_6 := n0_; have HO178 := n1_; have HB := n2_; clear n0_ n1_ n2_; (try clear hb); (try clear hb2); (try clear hk); (try clear hi); (try simp only [errW_none, errW_some]))))
                          go_ret
                          exact ⟨by first | rfl | (simp [errW_none, errW_some] <;> rfl) | (simp [*, errW_none, errW_some] <;> rfl), by repeat (first | (with_reducible first | exact HB.out | apply below_alloc | apply pw_below_drewN | apply below_drew1) | exact HB.out)⟩
                      · have H1 : (if a1 < 1 then (some true) else (some (decide (a1 > 4000)))) = some r := by rw [if_neg (show ¬ (some q179).isNone = true by simp)] at H; exact H
                        clear H
                        have H := H1
                        clear H1
                        try simp only [errW_none, errW_some]
                        by_cases c30 : a1 < 1
                        · rw [if_pos c30] at H
                          have c30b0 : decide (a1 < 1) = true := decide_eq_true c30
                          clear c30
                          obtain rfl := Option.some.inj H
                          go_wp2_with (first | (go_at_call 11; (with_reducible refine (lempel_Slide.calls k3 a0 a1 t175 (some q179) _ A22.out).mono ?_); rintro e w31 ⟨v177, rfl, ho0, hb⟩; have n0_ := Aside0.mk (Kd.R_below (by (with_reducible repeat (first | apply Kd.R_alloc | apply Kd.R_drewN | apply Kd.R_drew)); exact HO_6.out) hb); have n1_ := Aside0.mk (Kd.R_lower ho0 (below_size (by repeat (first | (with_reducible first | exact HB.out | apply below_alloc | apply pw_below_drewN | apply below_drew1) | exact HB.out)))); have n2_ := Aside0.mk (below_step (by repeat (first | (with_reducible first | exact HB.out | apply below_alloc | apply pw_below_drewN | apply below_drew1) | exact HB.out)) hb); clear HO_6; clear HB; have HO_6 := n0_; have HO178 := n1_; have HB := n2_; clear n0_ n1_ n2_; (try clear hb); (try clear hb2); (try clear hk); (try clear hi); (try clear ho0); (try simp only [errW_none, errW_some])))
                          repeat (go_quiet (first | (go_at_call 11; (with_reducible refine (lempel_Slide.calls k3 a0 a1 t175 (some q179) _ A22.out).mono ?_); rintro e w31 ⟨v177, rfl, ho0, hb⟩; have n0_ := Aside0.mk (Kd.R_below (by (with_reducible repeat (first | apply Kd.R_alloc | apply Kd.R_drewN | apply Kd.R_drew)); exact HO_6.out) hb); have n1_ := Aside0.mk (Kd.R_lower ho0 (below_size (by repeat (first | (with_reducible first | exact HB.out | apply below_alloc | apply pw_below_drewN | apply below_drew1) | exact HB.out)))); have n2_ := Aside0.mk (below_step (by repeat (first | (with_reducible first | exact HB.out | apply below_alloc | apply pw_below_drewN | apply below_drew1) | exact HB.out)) hb); clear HO_6; clear HB; have HO_6 := n0_; have HO178 := n1_; have HB := n2_; clear n0_ n1_ n2_; (try clear hb); (try clear hb2); (try clear hk); (try clear hi); (try clear ho0); (try simp only [errW_none, errW_some]))); try go_wp2_with (first | (go_at_call 11; (with_reducible refine (lempel_Slide.calls k3 a0 a1 t175 (some q179) _ A22.out).mono ?_); rintro e w31 ⟨v177, rfl, ho0, hb⟩; have n0_ := Aside0.mk (Kd.R_below (by (with_reducible repeat (first | apply Kd.R_alloc | apply Kd.R_drewN | apply Kd.R_drew)); exact HO_6.out) hb); have n1_ := Aside0.mk (Kd.R_lower ho0 (below_size (by repeat (first | (with_reducible first | exact HB.out | apply below_alloc | apply pw_below_drewN | apply below_drew1) | exact HB.out)))); have n2_ := Aside0.mk (below_step (by repeat (first | (with_reducible first | exact HB.out | apply below_alloc | apply pw_below_drewN | apply below_drew1) | exact HB.out)) hb); clear HO_6; clear HB; have HO_6 := n0_; have HO178 := n1_; have HB := n2_; clear n0_ n1_ n2_; (try clear hb); (try clear hb2); (try clear hk); (try clear hi); (try clear ho0); (try simp only [errW_none, errW_some]))))
                          go_ret
                          exact ⟨by first | rfl | (simp [errW_none, errW_some] <;> rfl) | (simp [*, errW_none, errW_some] <;> rfl), by repeat (first | (with_reducible first | exact HB.out | apply below_alloc | apply pw_below_drewN | apply below_drew1) | exact HB.out)⟩
                        · rw [if_neg c30] at H
                          have c30b0 : decide (a1 < 1) = false := decide_eq_false c30
                          clear c30
                          obtain rfl := Option.some.inj H
                          go_wp2_with (first | (go_at_call 11; (with_reducible refine (lempel_Slide.calls k3 a0 a1 t175 (some q179) _ A22.out).mono ?_); rintro e w32 ⟨v177, rfl, ho0, hb⟩; have n0_ := Aside0.mk (Kd.R_below (by (with_reducible repeat (first | apply Kd.R_alloc | apply Kd.R_drewN | apply Kd.R_drew)); exact HO_6.out) hb); have n1_ := Aside0.mk (Kd.R_lower ho0 (below_size (by repeat (first | (with_reducible first | exact HB.out | apply below_alloc | apply pw_below_drewN | apply below_drew1) | exact HB.out)))); have n2_ := Aside0.mk (below_step (by repeat (first | (with_reducible first | exact HB.out | apply below_alloc | apply pw_below_drewN | apply below_drew1) | exact HB.out)) hb); clear HO_6; clear HB; have HO_6 := n0_; have HO178 := n1_; have HB := n2_; clear n0_ n1_ n2_; (try clear hb); (try clear hb2); (try clear hk); (try clear hi); (try clear ho0); (try simp only [errW_none, errW_some])))
                          repeat (go_quiet (first | (go_at_call 11; (with_reducible refine (lempel_Slide.calls k3 a0 a1 t175 (some q179) _ A22.out).mono ?_); rintro e w32 ⟨v177, rfl, ho0, hb⟩; have n0_ := Aside0.mk (Kd.R_below (by (with_reducible repeat (first | apply Kd.R_alloc | apply Kd.R_drewN | apply Kd.R_drew)); exact HO_6.out) hb); have n1_ := Aside0.mk (Kd.R_lower ho0 (below_size (by repeat (first | (with_reducible first | exact HB.out | apply below_alloc | apply pw_below_drewN | apply below_drew1) | exact HB.out)))); have n2_ := Aside0.mk (below_step (by repeat (first | (with_reducible first | exact HB.out | apply below_alloc | apply pw_below_drewN | apply below_drew1) | exact HB.out)) hb); clear HO_6; clear HB; have HO_6 := n0_; have HO178 := n1_; have HB := n2_; clear n0_ n1_ n2_; (try clear hb); (try clear hb2); (try clear hk); (try clear hi); (try clear ho0); (try simp only [errW_none, errW_some]))); try go_wp2_with (first | (go_at_call 11; (with_reducible refine (lempel_Slide.calls k3 a0 a1 t175 (some q179) _ A22.out).mono ?_); rintro e w32 ⟨v177, rfl, ho0, hb⟩; have n0_ := Aside0.mk (Kd.R_below (by (with_reducible repeat (first | apply Kd.R_alloc | apply Kd.R_drewN | apply Kd.R_drew)); exact HO_6.out) hb); have n1_ := Aside0.mk (Kd.R_lower ho0 (below_size (by repeat (first | (with_reducible first | exact HB.out | apply below_alloc | apply pw_below_drewN | apply below_drew1) | exact HB.out)))); have n2_ := Aside0.mk (below_step (by repeat (first | (with_reducible first | exact HB.out | apply below_alloc | apply pw_below_drewN | apply below_drew1) | exact HB.out)) hb); clear HO_6; clear HB; have HO_6 := n0_; have HO178 := n1_; have HB := n2_; clear n0_ n1_ n2_; (try clear hb); (try clear hb2); (try clear hk); (try clear hi); (try clear ho0); (try simp only [errW_none, errW_some]))))
                          go_ret
                          exact ⟨by first | rfl | (simp [errW_none, errW_some] <;> rfl) | (simp [*, errW_none, errW_some] <;> rfl), by repeat (first | (with_reducible first | exact HB.out | apply below_alloc | apply pw_below_drewN | apply below_drew1) | exact HB.out)⟩
        · have H1 : (some false) = some r := by rw [if_neg (show ¬ (some q169).isNone = true by simp)] at H; exact H
          clear H
          have H := H1
          clear H1
          try simp only [errW_none, errW_some]
          obtain rfl := Option.some.inj H
          go_wp2_with (first | (go_at_call 9; (with_reducible refine (lempel_Parse.calls kj3 a0 t165 (some q169) _ A8.out).mono ?_); rintro e w33 ⟨v167, rfl, ho0, hb⟩; have n0_ := Aside0.mk (Kd.R_lower ho0 (below_size (by repeat (first | (with_reducible first | exact HB.out | apply below_alloc | apply pw_below_drewN | apply below_drew1) | exact HB.out)))); have n1_ := Aside0.mk (below_step (by repeat (first | (with_reducible first | exact HB.out | apply below_alloc | apply pw_below_drewN | apply below_drew1) | exact HB.out)) hb); clear HB; have HO168 := n0_; have HB := n1_; clear n0_ n1_; (try clear hb); (try clear hb2); (try clear hk); (try clear hi); (try clear ho0); (try simp only [errW_none, errW_some])))
          repeat (go_quiet (first | (go_at_call 9; (with_reducible refine (lempel_Parse.calls kj3 a0 t165 (some q169) _ A8.out).mono ?_); rintro e w33 ⟨v167, rfl, ho0, hb⟩; have n0_ := Aside0.mk (Kd.R_lower ho0 (below_size (by repeat (first | (with_reducible first | exact HB.out | apply below_alloc | apply pw_below_drewN | apply below_drew1) | exact HB.out)))); have n1_ := Aside0.mk (below_step (by repeat (first | (with_reducible first | exact HB.out | apply below_alloc | apply pw_below_drewN | apply below_drew1) | exact HB.out)) hb); clear HB; have HO168 := n0_; have HB := n1_; clear n0_ n1_; (try clear hb); (try clear hb2); (try clear hk); (try clear hi); (try clear ho0); (try simp only [errW_none, errW_some]))); try go_wp2_with (first | (go_at_call 9; (with_reducible refine (lempel_Parse.calls kj3 a0 t165 (some q169) _ A8.out).mono ?_); rintro e w33 ⟨v167, rfl, ho0, hb⟩; have n0_ := Aside0.mk (Kd.R_lower ho0 (below_size (by repeat (first | (with_reducible first | exact HB.out | apply below_alloc | apply pw_below_drewN | apply below_drew1) | exact HB.out)))); have n1_ := Aside0.mk (below_step (by repeat (first | (with_reducible first | exact HB.out | apply below_alloc | apply pw_below_drewN | apply below_drew1) | exact HB.out)) hb); clear HB; have HO168 := n0_; have HB := n1_; clear n0_ n1_; (try clear hb); (try clear hb2); (try clear hk); (try clear hi); (try clear ho0); (try simp only [errW_none, errW_some]))))
          go_ret
          exact ⟨by first | rfl | (simp [errW_none, errW_some] <;> rfl) | (simp [*, errW_none, errW_some] <;> rfl), by repeat (first | (with_reducible first | exact HB.out | apply below_alloc | apply pw_below_drewN | apply below_drew1) | exact HB.out)⟩

/-- THE ONE PURE STATEMENT of demonlaw2_LempelBack: yours. -/
def demonlaw2_LempelBack.Pure : Prop := ∀ (a0 : ByteArray) (a1 : Int), a0.size ≤ 140737488351232 → (Lit.int .i64 a1).wf = true → ∃ k, demonlaw2_LempelBack.f k a0 a1 = some true
theorem demonlaw2_LempelBack.walk (P : demonlaw2_LempelBack.Pure) (a0 : ByteArray) (a1 : Int) (w : World) (ea : Addr) (hg : w.cell? ⟨0, 0, none⟩ = some (.iface 108 (.pointer (some ea)))) (w0 : a0.size ≤ 140737488351232) (w1 : (Lit.int .i64 a1).wf = true) :
    Calls Tryd.prog 3 #[.string a0, .int .i64 a1] w fun e w' => e = .returned (.bool true) ∧ Below w.heap.size w w' := by
  obtain ⟨k, h⟩ := P a0 a1 w0 w1
  refine (demonlaw2_LempelBack.calls k a0 a1 true w ea hg h).mono ?_
  rintro e w' ⟨rfl, hd⟩
  exact ⟨rfl, hd⟩

end Go.Proofs.YtaonemghafoolaaDoor.Q
