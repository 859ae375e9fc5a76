/-
  demonlaw2.LempelSlide, by a walk.
-/
import Derived.Test.YtaonemghafoolaaDoorQ2
import Derived.Test.YtaonemghafoolaaDoorQ4
import Derived.Test.YtaonemghafoolaaDoorSof
namespace Go.Proofs.YtaonemghafoolaaDoor.V
open Go.RowKit Go.Proofs.YtaonemghafoolaaDoor.Q Go.Proofs.YtaonemghafoolaaDoorW.PrintWords Go.Proofs.YtaonemghafoolaaDoorW.PrintLast Go.Proofs.YtaonemghafoolaaDoorW.PrintMore
attribute [local go_sem] max2_int min2_int max_two min_two max_three min_three max_four min_four   -- for this text's walks alone
set_option linter.unusedVariables false
set_option linter.unusedSimpArgs false

/-! ### demonlaw2_LempelSlide: function 5 -/
mutual
def demonlaw2_LempelSlide.j0 : Nat → ByteArray → Int → Bool → Bool → Option (Bool)
  | 0, _, _, _, _ => none
  | k + 1, x0, x1, x5, x22 => if x22 = true then (some x5) else ((lempel_Slide.f k x0 x1).bind fun bt135 => (if (x0.size : Int) > 4000 then (demonlaw2_LempelSlide.j1 k x0 x1 bt135.1 bt135.2 true) else (if x1 < 1 then (demonlaw2_LempelSlide.j1 k x0 x1 bt135.1 bt135.2 true) else (demonlaw2_LempelSlide.j1 k x0 x1 bt135.1 bt135.2 (decide (x1 > 4000))))))
def demonlaw2_LempelSlide.j1 : Nat → ByteArray → Int → List (S45) → Option Int → Bool → Option (Bool)
  | 0, _, _, _, _, _ => none
  | k + 1, x0, x1, x6, x7, x40 => if x40 = true then (none) else ((demonref2_SlideOf.f k x0 x1).bind fun t139 => (if x7.isNone = true then (demonlaw2_LempelSlide.j2 k x6 t139 ((x6.length : Int) != (t139.length : Int))) else (demonlaw2_LempelSlide.j2 k x6 t139 true)))
def demonlaw2_LempelSlide.j2 : Nat → List (S45) → List (PLempelSlide.S46) → Bool → Option (Bool)
  | 0, _, _, _ => none
  | k + 1, x6, x8, x59 => if x59 = true then (some false) else (demonlaw2_LempelSlide.l0 k x6 x8 0)
def demonlaw2_LempelSlide.l0 : Nat → List (S45) → List (PLempelSlide.S46) → Int → Option (Bool)
  | 0, _, _, _ => none
  | k + 1, x6, x8, x9 => if x9 < (x6.length : Int) then (if 0 ≤ x9 then (if x9 < (x8.length : Int) then (if ((rd_T45 x6 x9).f0) = ((PLempelSlide.rd_T46 x8 x9).f0) then (if ((rd_T45 x6 x9).f1) = ((PLempelSlide.rd_T46 x8 x9).f1) then (if ((rd_T45 x6 x9).f2) = ((PLempelSlide.rd_T46 x8 x9).f2) then (if (((rd_T45 x6 x9).f3) != ((PLempelSlide.rd_T46 x8 x9).f3)) = true then (some false) else (demonlaw2_LempelSlide.l0 k x6 x8 (wrap64 (x9 + 1)))) else (some false)) else (some false)) else (some false)) else (none)) else (none)) else (some true)
end
def demonlaw2_LempelSlide.f (k : Nat) (a0 : ByteArray) (a1 : Int) : Option (Bool) := (demonlaw2_abab.f k).bind fun t134 => (if t134 = true then (if (a0.size : Int) > 200 then (demonlaw2_LempelSlide.j0 k a0 a1 t134 (decide ((a0.size : Int) ≤ 4000))) else (demonlaw2_LempelSlide.j0 k a0 a1 t134 false)) else (demonlaw2_LempelSlide.j0 k a0 a1 t134 true))
theorem demonlaw2_LempelSlide.mono_l : ∀ k, (∀ y0 y1 y2 y3, LeO (demonlaw2_LempelSlide.j0 k y0 y1 y2 y3) (demonlaw2_LempelSlide.j0 (k + 1) y0 y1 y2 y3)) ∧ (∀ y0 y1 y2 y3 y4, LeO (demonlaw2_LempelSlide.j1 k y0 y1 y2 y3 y4) (demonlaw2_LempelSlide.j1 (k + 1) y0 y1 y2 y3 y4)) ∧ (∀ y0 y1 y2, LeO (demonlaw2_LempelSlide.j2 k y0 y1 y2) (demonlaw2_LempelSlide.j2 (k + 1) y0 y1 y2)) ∧ (∀ y0 y1 y2, LeO (demonlaw2_LempelSlide.l0 k y0 y1 y2) (demonlaw2_LempelSlide.l0 (k + 1) y0 y1 y2))
  | 0 => ⟨fun _ _ _ _ r h => by simp [demonlaw2_LempelSlide.j0] at h, fun _ _ _ _ _ r h => by simp [demonlaw2_LempelSlide.j1] at h, fun _ _ _ r h => by simp [demonlaw2_LempelSlide.j2] at h, fun _ _ _ r h => by simp [demonlaw2_LempelSlide.l0] at h⟩
  | k + 1 => by
    obtain ⟨ih0, ih1, ih2, ih3⟩ := demonlaw2_LempelSlide.mono_l k
    refine ⟨?_, ?_, ?_, ?_⟩
    · intro y0 y1 y2 y3
      unfold demonlaw2_LempelSlide.j0
      repeat' first
      | (with_reducible exact ih0 _ _ _ _)
      | (with_reducible exact ih1 _ _ _ _ _)
      | (with_reducible exact ih2 _ _ _)
      | (with_reducible exact ih3 _ _ _)
      | (with_reducible exact demonlaw2_abab.mono _)
      | (with_reducible exact demonref2_SlideOf.mono _ _ _)
      | (with_reducible exact lempel_Slide.mono _ _ _)
      | (with_reducible exact LeO.refl _)
      | (with_reducible exact LeO.none _)
      | (with_reducible refine LeO.ite ?_ ?_)
      | (with_reducible refine LeO.bind ?_ (fun _ => ?_))
      | exact ih0 _ _ _ _
      | exact ih1 _ _ _ _ _
      | exact ih2 _ _ _
      | exact ih3 _ _ _
      | exact demonlaw2_abab.mono _
      | exact demonref2_SlideOf.mono _ _ _
      | exact lempel_Slide.mono _ _ _
      | exact LeO.none _
      | refine LeO.ite ?_ ?_
      | refine LeO.bind ?_ (fun _ => ?_)
    · intro y0 y1 y2 y3 y4
      unfold demonlaw2_LempelSlide.j1
      repeat' first
      | (with_reducible exact ih0 _ _ _ _)
      | (with_reducible exact ih1 _ _ _ _ _)
      | (with_reducible exact ih2 _ _ _)
      | (with_reducible exact ih3 _ _ _)
      | (with_reducible exact demonlaw2_abab.mono _)
      | (with_reducible exact demonref2_SlideOf.mono _ _ _)
      | (with_reducible exact lempel_Slide.mono _ _ _)
      | (with_reducible exact LeO.refl _)
      | (with_reducible exact LeO.none _)
      | (with_reducible refine LeO.ite ?_ ?_)
      | (with_reducible refine LeO.bind ?_ (fun _ => ?_))
      | exact ih0 _ _ _ _
      | exact ih1 _ _ _ _ _
      | exact ih2 _ _ _
      | exact ih3 _ _ _
      | exact demonlaw2_abab.mono _
      | exact demonref2_SlideOf.mono _ _ _
      | exact lempel_Slide.mono _ _ _
      | exact LeO.none _
      | refine LeO.ite ?_ ?_
      | refine LeO.bind ?_ (fun _ => ?_)
    · intro y0 y1 y2
      unfold demonlaw2_LempelSlide.j2
      repeat' first
      | (with_reducible exact ih0 _ _ _ _)
      | (with_reducible exact ih1 _ _ _ _ _)
      | (with_reducible exact ih2 _ _ _)
      | (with_reducible exact ih3 _ _ _)
      | (with_reducible exact demonlaw2_abab.mono _)
      | (with_reducible exact demonref2_SlideOf.mono _ _ _)
      | (with_reducible exact lempel_Slide.mono _ _ _)
      | (with_reducible exact LeO.refl _)
      | (with_reducible exact LeO.none _)
      | (with_reducible refine LeO.ite ?_ ?_)
      | (with_reducible refine LeO.bind ?_ (fun _ => ?_))
      | exact ih0 _ _ _ _
      | exact ih1 _ _ _ _ _
      | exact ih2 _ _ _
      | exact ih3 _ _ _
      | exact demonlaw2_abab.mono _
      | exact demonref2_SlideOf.mono _ _ _
      | exact lempel_Slide.mono _ _ _
      | exact LeO.none _
      | refine LeO.ite ?_ ?_
      | refine LeO.bind ?_ (fun _ => ?_)
    · intro y0 y1 y2
      unfold demonlaw2_LempelSlide.l0
      repeat' first
      | (with_reducible exact ih0 _ _ _ _)
      | (with_reducible exact ih1 _ _ _ _ _)
      | (with_reducible exact ih2 _ _ _)
      | (with_reducible exact ih3 _ _ _)
      | (with_reducible exact demonlaw2_abab.mono _)
      | (with_reducible exact demonref2_SlideOf.mono _ _ _)
      | (with_reducible exact lempel_Slide.mono _ _ _)
      | (with_reducible exact LeO.refl _)
      | (with_reducible exact LeO.none _)
      | (with_reducible refine LeO.ite ?_ ?_)
      | (with_reducible refine LeO.bind ?_ (fun _ => ?_))
      | exact ih0 _ _ _ _
      | exact ih1 _ _ _ _ _
      | exact ih2 _ _ _
      | exact ih3 _ _ _
      | exact demonlaw2_abab.mono _
      | exact demonref2_SlideOf.mono _ _ _
      | exact lempel_Slide.mono _ _ _
      | exact LeO.none _
      | refine LeO.ite ?_ ?_
      | refine LeO.bind ?_ (fun _ => ?_)
theorem demonlaw2_LempelSlide.mono : ∀ a0 a1 k, LeO (demonlaw2_LempelSlide.f k a0 a1) (demonlaw2_LempelSlide.f (k + 1) a0 a1) := by
  intro a0 a1 k
  obtain ⟨ih0, ih1, ih2, ih3⟩ := demonlaw2_LempelSlide.mono_l k
  unfold demonlaw2_LempelSlide.f
  repeat' first
      | (with_reducible exact ih0 _ _ _ _)
      | (with_reducible exact ih1 _ _ _ _ _)
      | (with_reducible exact ih2 _ _ _)
      | (with_reducible exact ih3 _ _ _)
      | (with_reducible exact demonlaw2_abab.mono _)
      | (with_reducible exact demonref2_SlideOf.mono _ _ _)
      | (with_reducible exact lempel_Slide.mono _ _ _)
      | (with_reducible exact LeO.refl _)
      | (with_reducible exact LeO.none _)
      | (with_reducible refine LeO.ite ?_ ?_)
      | (with_reducible refine LeO.bind ?_ (fun _ => ?_))
      | exact ih0 _ _ _ _
      | exact ih1 _ _ _ _ _
      | exact ih2 _ _ _
      | exact ih3 _ _ _
      | exact demonlaw2_abab.mono _
      | exact demonref2_SlideOf.mono _ _ _
      | exact lempel_Slide.mono _ _ _
      | exact LeO.none _
      | refine LeO.ite ?_ ?_
      | refine LeO.bind ?_ (fun _ => ?_)
set_option maxHeartbeats 8000000 in
set_option maxRecDepth 100000 in
theorem demonlaw2_LempelSlide.calls (k : Nat) (a0 : ByteArray) (a1 : Int) (r : Bool) (w : World) (h : demonlaw2_LempelSlide.f k a0 a1 = some r) :
    Calls Tryd.prog 5 #[.string a0, .int .i64 a1] w fun e w' => e = .returned (.bool r) ∧ Below w.heap.size w w' := by
  have hu25 := Tryd.underlying25
  have HB := Aside0.mk (Below.refl w.heap.size w)
  have H : ((demonlaw2_abab.f k).bind fun t134 => (if t134 = true then (if (a0.size : Int) > 200 then (demonlaw2_LempelSlide.j0 k a0 a1 t134 (decide ((a0.size : Int) ≤ 4000))) else (demonlaw2_LempelSlide.j0 k a0 a1 t134 false)) else (demonlaw2_LempelSlide.j0 k a0 a1 t134 true))) = some r := h
  clear h
  replace H := Option.bind_eq_some_iff.mp H
  obtain ⟨t134, A30, H⟩ := H
  replace H : (if t134 = true then (if (a0.size : Int) > 200 then (demonlaw2_LempelSlide.j0 k a0 a1 t134 (decide ((a0.size : Int) ≤ 4000))) else (demonlaw2_LempelSlide.j0 k a0 a1 t134 false)) else (demonlaw2_LempelSlide.j0 k a0 a1 t134 true)) = some r := H
  have A3 := Aside0.mk A30
  clear A30
  have HC4 := Aside0.mk H
  clear H
  go_enter Tryd.func5, Tryd.ntmps5
  go_upto_region 2 with (first | (go_at_call 8; (with_reducible refine (demonlaw2_abab.calls k  t134 _ A3.out).mono ?_); rintro e w5 ⟨rfl, hb⟩; have n0_ := Aside0.mk (below_step (by repeat (first | (with_reducible first | exact HB.out | apply below_alloc | apply pw_below_drewN | apply below_drew1) | exact HB.out)) hb); clear HB; have HB := n0_; clear n0_; (try clear hb); (try clear hb2); (try clear hk); (try clear hi)))
  repeat (go_quiet (first | (go_at_call 8; (with_reducible refine (demonlaw2_abab.calls k  t134 _ A3.out).mono ?_); rintro e w5 ⟨rfl, hb⟩; have n0_ := Aside0.mk (below_step (by repeat (first | (with_reducible first | exact HB.out | apply below_alloc | apply pw_below_drewN | apply below_drew1) | exact HB.out)) hb); clear HB; have HB := n0_; clear n0_; (try clear hb); (try clear hb2); (try clear hk); (try clear hi))); go_upto_region 2 with (first | (go_at_call 8; (with_reducible refine (demonlaw2_abab.calls k  t134 _ A3.out).mono ?_); rintro e w5 ⟨rfl, hb⟩; have n0_ := Aside0.mk (below_step (by repeat (first | (with_reducible first | exact HB.out | apply below_alloc | apply pw_below_drewN | apply below_drew1) | exact HB.out)) hb); clear HB; have HB := n0_; clear n0_; (try clear hb); (try clear hb2); (try clear hk); (try clear hi))))
  (try simp only [Act.put, List.setIfInBounds_toArray, List.set_cons_zero, List.set_cons_succ])
  go_cut [22] (fun v22 wc => ∃ (kq : Nat) (x22_3 : Bool), v22 = .bool x22_3 ∧ Aside0 (demonlaw2_LempelSlide.j0 kq a0 a1 t134 x22_3 = some r) ∧ Aside0 (kq ≤ k) ∧ Aside0 (Below w.heap.size w wc))
  case first =>
    have H := HC4.out
    clear HC4
    by_cases c6 : t134 = true
    · subst c6
      have H1 : (if (a0.size : Int) > 200 then (demonlaw2_LempelSlide.j0 k a0 a1 true (decide ((a0.size : Int) ≤ 4000))) else (demonlaw2_LempelSlide.j0 k a0 a1 true false)) = some r := by rw [if_pos rfl] at H; exact H
      clear H
      have H := H1
      clear H1
      by_cases c7 : (a0.size : Int) > 200
      · rw [if_pos c7] at H
        have c7b0 : decide (200 < (a0.size : Int)) = true := decide_eq_true c7
        have c7b1 : decide (200 < a0.size) = true := decide_eq_true (by omega)
        clear c7
        (first | rw [c7b0] | (simp only [i64_w, i32_w]; rw [c7b0]) | skip)
        have H' := Aside0.mk H
        clear H
        go_wp2
        repeat (go_quiet (fail); try go_wp2)
        go_meet
        case rel => exact ⟨_, (decide ((a0.size : Int) ≤ 4000)), (by first | rfl | (simp; done) | (simp [*]; done)), H', ⟨by first | omega | exact Nat.le_refl _⟩, ⟨by repeat (first | (with_reducible first | exact HB.out | apply below_alloc | apply pw_below_drewN | apply below_drew1) | exact HB.out)⟩⟩
      · rw [if_neg c7] at H
        have c7b0 : decide (200 < (a0.size : Int)) = false := decide_eq_false c7
        have c7b1 : decide (200 < a0.size) = false := decide_eq_false (by omega)
        clear c7
        (first | rw [c7b0] | (simp only [i64_w, i32_w]; rw [c7b0]) | skip)
        have H' := Aside0.mk H
        clear H
        go_wp2
        repeat (go_quiet (fail); try go_wp2)
        go_meet
        case rel => exact ⟨_, (false), (by first | rfl | (simp; done) | (simp [*]; done)), H', ⟨by first | omega | exact Nat.le_refl _⟩, ⟨by repeat (first | (with_reducible first | exact HB.out | apply below_alloc | apply pw_below_drewN | apply below_drew1) | exact HB.out)⟩⟩
    · replace c6 := Bool.eq_false_iff.mpr c6
      subst c6
      have H1 : (demonlaw2_LempelSlide.j0 k a0 a1 false true) = some r := by rw [if_neg (show ¬ (false = true) by decide)] at H; exact H
      clear H
      have H := H1
      clear H1
      have H' := Aside0.mk H
      clear H
      go_wp2
      repeat (go_quiet (fail); try go_wp2)
      go_meet
      case rel => exact ⟨_, (true), (by first | rfl | (simp; done) | (simp [*]; done)), H', ⟨by first | omega | exact Nat.le_refl _⟩, ⟨by repeat (first | (with_reducible first | exact HB.out | apply below_alloc | apply pw_below_drewN | apply below_drew1) | exact HB.out)⟩⟩
  case rest =>
    clear HC4
    try clear p2
    try clear c5
    try clear c6
    try clear c7
    try clear c7b0
    try clear c7b1
    obtain ⟨kq, x22_3, rfl, HA, HJ3, HB⟩ := hcut
    cases kq with
    | zero => exact absurd HA.out (by simp [demonlaw2_LempelSlide.j0])
    | succ kj3 =>
      have H := HA.out
      clear HA
      simp only [demonlaw2_LempelSlide.j0] at H
      by_cases c8 : x22_3 = true
      · subst c8
        have H1 : (some t134) = some r := by rw [if_pos rfl] at H; exact H
        clear H
        have H := H1
        clear H1
        obtain rfl := Option.some.inj H
        go_wp2
        repeat (go_quiet (fail); try go_wp2)
        go_ret
        exact ⟨by first | rfl | (simp [errW_none, errW_some] <;> rfl) | (simp [*, errW_none, errW_some] <;> rfl), by repeat (first | (with_reducible first | exact HB.out | apply below_alloc | apply pw_below_drewN | apply below_drew1) | exact HB.out)⟩
      · replace c8 := Bool.eq_false_iff.mpr c8
        subst c8
        have H1 : ((lempel_Slide.f kj3 a0 a1).bind fun bt135 => (if (a0.size : Int) > 4000 then (demonlaw2_LempelSlide.j1 kj3 a0 a1 bt135.1 bt135.2 true) else (if a1 < 1 then (demonlaw2_LempelSlide.j1 kj3 a0 a1 bt135.1 bt135.2 true) else (demonlaw2_LempelSlide.j1 kj3 a0 a1 bt135.1 bt135.2 (decide (a1 > 4000)))))) = some r := by rw [if_neg (show ¬ (false = true) by decide)] at H; exact H
        clear H
        have H := H1
        clear H1
        replace H := Option.bind_eq_some_iff.mp H
        obtain ⟨⟨t135, t136⟩, A90, H⟩ := H
        replace H : (if (a0.size : Int) > 4000 then (demonlaw2_LempelSlide.j1 kj3 a0 a1 t135 t136 true) else (if a1 < 1 then (demonlaw2_LempelSlide.j1 kj3 a0 a1 t135 t136 true) else (demonlaw2_LempelSlide.j1 kj3 a0 a1 t135 t136 (decide (a1 > 4000))))) = some r := H
        have A9 := Aside0.mk A90
        clear A90
        have HC10 := Aside0.mk H
        clear H
        go_upto_region 5 with (first | (go_at_call 11; (with_reducible refine (lempel_Slide.calls kj3 a0 a1 t135 t136 _ A9.out).mono ?_); rintro e w11 ⟨v137, rfl, ho0, hb⟩; have n0_ := Aside0.mk (Kd.R_lower ho0 (below_size (by repeat (first | (with_reducible first | exact HB.out | apply below_alloc | apply pw_below_drewN | apply below_drew1) | exact HB.out)))); have n1_ := Aside0.mk (below_step (by repeat (first | (with_reducible first | exact HB.out | apply below_alloc | apply pw_below_drewN | apply below_drew1) | exact HB.out)) hb); clear HB; have HO138 := n0_; have HB := n1_; clear n0_ n1_; (try clear hb); (try clear hb2); (try clear hk); (try clear hi); (try clear ho0); (try simp only [errW_none, errW_some])))
        repeat (go_quiet (first | (go_at_call 11; (with_reducible refine (lempel_Slide.calls kj3 a0 a1 t135 t136 _ A9.out).mono ?_); rintro e w11 ⟨v137, rfl, ho0, hb⟩; have n0_ := Aside0.mk (Kd.R_lower ho0 (below_size (by repeat (first | (with_reducible first | exact HB.out | apply below_alloc | apply pw_below_drewN | apply below_drew1) | exact HB.out)))); have n1_ := Aside0.mk (below_step (by repeat (first | (with_reducible first | exact HB.out | apply below_alloc | apply pw_below_drewN | apply below_drew1) | exact HB.out)) hb); clear HB; have HO138 := n0_; have HB := n1_; clear n0_ n1_; (try clear hb); (try clear hb2); (try clear hk); (try clear hi); (try clear ho0); (try simp only [errW_none, errW_some]))); go_upto_region 5 with (first | (go_at_call 11; (with_reducible refine (lempel_Slide.calls kj3 a0 a1 t135 t136 _ A9.out).mono ?_); rintro e w11 ⟨v137, rfl, ho0, hb⟩; have n0_ := Aside0.mk (Kd.R_lower ho0 (below_size (by repeat (first | (with_reducible first | exact HB.out | apply below_alloc | apply pw_below_drewN | apply below_drew1) | exact HB.out)))); have n1_ := Aside0.mk (below_step (by repeat (first | (with_reducible first | exact HB.out | apply below_alloc | apply pw_below_drewN | apply below_drew1) | exact HB.out)) hb); clear HB; have HO138 := n0_; have HB := n1_; clear n0_ n1_; (try clear hb); (try clear hb2); (try clear hk); (try clear hi); (try clear ho0); (try simp only [errW_none, errW_some]))))
        (try simp only [Act.put, List.setIfInBounds_toArray, List.set_cons_zero, List.set_cons_succ])
        go_cut [40] (fun v40 wc => ∃ (kq : Nat) (x40_9 : Bool), v40 = .bool x40_9 ∧ Aside0 (demonlaw2_LempelSlide.j1 kq a0 a1 t135 t136 x40_9 = some r) ∧ Aside0 (kq ≤ kj3) ∧ Aside0 (Kd.R k45 45 wc w.heap.size (fun _ => True) v137 t135) ∧ Aside0 (Below w.heap.size w wc))
        case first =>
          have H := HC10.out
          clear HC10
          by_cases c12 : (a0.size : Int) > 4000
          · rw [if_pos c12] at H
            have c12b0 : decide (4000 < (a0.size : Int)) = true := decide_eq_true c12
            have c12b1 : decide (4000 < a0.size) = true := decide_eq_true (by omega)
            clear c12
            (first | rw [c12b0] | (simp only [i64_w, i32_w]; rw [c12b0]) | skip)
            have H' := Aside0.mk H
            clear H
            go_wp2
            repeat (go_quiet (fail); try go_wp2)
            go_meet
            case rel => exact ⟨_, (true), (by first | rfl | (simp; done) | (simp [*]; done)), H', ⟨by have := HJ3.out; first | omega | exact Nat.le_refl _⟩, ⟨by (with_reducible repeat (first | apply Kd.R_alloc | apply Kd.R_drewN | apply Kd.R_drew)); exact HO138.out⟩, ⟨by repeat (first | (with_reducible first | exact HB.out | apply below_alloc | apply pw_below_drewN | apply below_drew1) | exact HB.out)⟩⟩
          · rw [if_neg c12] at H
            have c12b0 : decide (4000 < (a0.size : Int)) = false := decide_eq_false c12
            have c12b1 : decide (4000 < a0.size) = false := decide_eq_false (by omega)
            clear c12
            (first | rw [c12b0] | (simp only [i64_w, i32_w]; rw [c12b0]) | skip)
            by_cases c13 : a1 < 1
            · rw [if_pos c13] at H
              have c13b0 : decide (a1 < 1) = true := decide_eq_true c13
              clear c13
              have H' := Aside0.mk H
              clear H
              go_wp2
              repeat (go_quiet (fail); try go_wp2)
              go_meet
              case rel => exact ⟨_, (true), (by first | rfl | (simp; done) | (simp [*]; done)), H', ⟨by have := HJ3.out; first | omega | exact Nat.le_refl _⟩, ⟨by (with_reducible repeat (first | apply Kd.R_alloc | apply Kd.R_drewN | apply Kd.R_drew)); exact HO138.out⟩, ⟨by repeat (first | (with_reducible first | exact HB.out | apply below_alloc | apply pw_below_drewN | apply below_drew1) | exact HB.out)⟩⟩
            · rw [if_neg c13] at H
              have c13b0 : decide (a1 < 1) = false := decide_eq_false c13
              clear c13
              have H' := Aside0.mk H
              clear H
              go_wp2
              repeat (go_quiet (fail); try go_wp2)
              go_meet
              case rel => exact ⟨_, (decide (a1 > 4000)), (by first | rfl | (simp; done) | (simp [*]; done)), H', ⟨by have := HJ3.out; first | omega | exact Nat.le_refl _⟩, ⟨by (with_reducible repeat (first | apply Kd.R_alloc | apply Kd.R_drewN | apply Kd.R_drew)); exact HO138.out⟩, ⟨by repeat (first | (with_reducible first | exact HB.out | apply below_alloc | apply pw_below_drewN | apply below_drew1) | exact HB.out)⟩⟩
        case rest =>
          clear HC10
          try clear c1
          try clear p2
          try clear c5
          try clear c6
          try clear c7
          try clear c7b0
          try clear c7b1
          try clear c8
          try clear c12
          try clear c12b0
          try clear c12b1
          try clear c13
          try clear c13b0
          try clear p2
          obtain ⟨kq, x40_9, rfl, HA, HJ9, HO_6, HB⟩ := hcut
          cases kq with
          | zero => exact absurd HA.out (by simp [demonlaw2_LempelSlide.j1])
          | succ kj9 =>
            have H := HA.out
            clear HA
            simp only [demonlaw2_LempelSlide.j1] at H
            by_cases c14 : x40_9 = true
            · subst c14
              have H1 : (none) = some r := by rw [if_pos rfl] at H; exact H
              clear H
              have H := H1
              clear H1
              exact absurd H (by simp)
            · replace c14 := Bool.eq_false_iff.mpr c14
              subst c14
              have H1 : ((demonref2_SlideOf.f kj9 a0 a1).bind fun t139 => (if t136.isNone = true then (demonlaw2_LempelSlide.j2 kj9 t135 t139 ((t135.length : Int) != (t139.length : Int))) else (demonlaw2_LempelSlide.j2 kj9 t135 t139 true))) = some r := by rw [if_neg (show ¬ (false = true) by decide)] at H; exact H
              clear H
              have H := H1
              clear H1
              replace H := Option.bind_eq_some_iff.mp H
              obtain ⟨t139, A150, H⟩ := H
              replace H : (if t136.isNone = true then (demonlaw2_LempelSlide.j2 kj9 t135 t139 ((t135.length : Int) != (t139.length : Int))) else (demonlaw2_LempelSlide.j2 kj9 t135 t139 true)) = some r := H
              have A15 := Aside0.mk A150
              clear A150
              have HC16 := Aside0.mk H
              clear H
              go_upto_region 8 with (first | (go_at_call 15; (with_reducible refine (demonref2_SlideOf.calls kj9 a0 a1 t139 _ A15.out).mono ?_); rintro e w17 ⟨v140, rfl, ho0, hb⟩; have n0_ := Aside0.mk (Kd.R_below (by (with_reducible repeat (first | apply Kd.R_alloc | apply Kd.R_drewN | apply Kd.R_drew)); exact HO_6.out) hb); have n1_ := Aside0.mk (Kd.R_lower ho0 (below_size (by repeat (first | (with_reducible first | exact HB.out | apply below_alloc | apply pw_below_drewN | apply below_drew1) | exact HB.out)))); have n2_ := Aside0.mk (below_step (by repeat (first | (with_reducible first | exact HB.out | apply below_alloc | apply pw_below_drewN | apply below_drew1) | exact HB.out)) hb); clear HO_6; clear HB; have HO_6 := n0_; have HO141 := n1_; have HB := n2_; clear n0_ n1_ n2_; (try clear hb); (try clear hb2); (try clear hk); (try clear hi); (try clear ho0)))
              repeat (go_quiet (first | (go_at_call 15; (with_reducible refine (demonref2_SlideOf.calls kj9 a0 a1 t139 _ A15.out).mono ?_); rintro e w17 ⟨v140, rfl, ho0, hb⟩; have n0_ := Aside0.mk (Kd.R_below (by (with_reducible repeat (first | apply Kd.R_alloc | apply Kd.R_drewN | apply Kd.R_drew)); exact HO_6.out) hb); have n1_ := Aside0.mk (Kd.R_lower ho0 (below_size (by repeat (first | (with_reducible first | exact HB.out | apply below_alloc | apply pw_below_drewN | apply below_drew1) | exact HB.out)))); have n2_ := Aside0.mk (below_step (by repeat (first | (with_reducible first | exact HB.out | apply below_alloc | apply pw_below_drewN | apply below_drew1) | exact HB.out)) hb); clear HO_6; clear HB; have HO_6 := n0_; have HO141 := n1_; have HB := n2_; clear n0_ n1_ n2_; (try clear hb); (try clear hb2); (try clear hk); (try clear hi); (try clear ho0))); go_upto_region 8 with (first | (go_at_call 15; (with_reducible refine (demonref2_SlideOf.calls kj9 a0 a1 t139 _ A15.out).mono ?_); rintro e w17 ⟨v140, rfl, ho0, hb⟩; have n0_ := Aside0.mk (Kd.R_below (by (with_reducible repeat (first | apply Kd.R_alloc | apply Kd.R_drewN | apply Kd.R_drew)); exact HO_6.out) hb); have n1_ := Aside0.mk (Kd.R_lower ho0 (below_size (by repeat (first | (with_reducible first | exact HB.out | apply below_alloc | apply pw_below_drewN | apply below_drew1) | exact HB.out)))); have n2_ := Aside0.mk (below_step (by repeat (first | (with_reducible first | exact HB.out | apply below_alloc | apply pw_below_drewN | apply below_drew1) | exact HB.out)) hb); clear HO_6; clear HB; have HO_6 := n0_; have HO141 := n1_; have HB := n2_; clear n0_ n1_ n2_; (try clear hb); (try clear hb2); (try clear hk); (try clear hi); (try clear ho0))))
              (try simp only [Act.put, List.setIfInBounds_toArray, List.set_cons_zero, List.set_cons_succ])
              go_cut [59] (fun v59 wc => ∃ (kq : Nat) (x59_15 : Bool), v59 = .bool x59_15 ∧ Aside0 (demonlaw2_LempelSlide.j2 kq t135 t139 x59_15 = some r) ∧ Aside0 (kq ≤ kj9) ∧ Aside0 (Kd.R k45 45 wc w.heap.size (fun _ => True) v137 t135) ∧ Aside0 (Kd.R PLempelSlide.k46 46 wc w.heap.size (fun _ => True) v140 t139) ∧ Aside0 (Below w.heap.size w wc))
              case first =>
                have H := HC16.out
                clear HC16
                rcases t136 with _ | q142
                · have H1 : (demonlaw2_LempelSlide.j2 kj9 t135 t139 ((t135.length : Int) != (t139.length : Int))) = some r := by rw [if_pos (show (none : Option Int).isNone = true by rfl)] at H; exact H
                  clear H
                  have H := H1
                  clear H1
                  try simp only [errW_none, errW_some]
                  have H' := Aside0.mk H
                  clear H
                  obtain ⟨Ao18, co18, eo18⟩ := Kd.R_slice HO_6.out
                  subst eo18
                  obtain ⟨Ao19, co19, eo19⟩ := Kd.R_slice HO141.out
                  subst eo19
                  go_wp2
                  repeat (go_quiet (fail); try go_wp2)
                  go_meet
                  case rel => exact ⟨_, (((t135.length : Int) != (t139.length : Int))), (by first | rfl | (simp; done) | (simp [*]; done)), H', ⟨by have := HJ3.out; have := HJ9.out; first | omega | exact Nat.le_refl _⟩, ⟨by (with_reducible repeat (first | apply Kd.R_alloc | apply Kd.R_drewN | apply Kd.R_drew)); exact HO_6.out⟩, ⟨by (with_reducible repeat (first | apply Kd.R_alloc | apply Kd.R_drewN | apply Kd.R_drew)); exact HO141.out⟩, ⟨by repeat (first | (with_reducible first | exact HB.out | apply below_alloc | apply pw_below_drewN | apply below_drew1) | exact HB.out)⟩⟩
                · have H1 : (demonlaw2_LempelSlide.j2 kj9 t135 t139 true) = some r := by rw [if_neg (show ¬ (some q142).isNone = true by simp)] at H; exact H
                  clear H
                  have H := H1
                  clear H1
                  try simp only [errW_none, errW_some]
                  have H' := Aside0.mk H
                  clear H
                  go_wp2
                  repeat (go_quiet (fail); try go_wp2)
                  go_meet
                  case rel => exact ⟨_, (true), (by first | rfl | (simp; done) | (simp [*]; done)), H', ⟨by have := HJ3.out; have := HJ9.out; first | omega | exact Nat.le_refl _⟩, ⟨by (with_reducible repeat (first | apply Kd.R_alloc | apply Kd.R_drewN | apply Kd.R_drew)); exact HO_6.out⟩, ⟨by (with_reducible repeat (first | apply Kd.R_alloc | apply Kd.R_drewN | apply Kd.R_drew)); exact HO141.out⟩, ⟨by repeat (first | (with_reducible first | exact HB.out | apply below_alloc | apply pw_below_drewN | apply below_drew1) | exact HB.out)⟩⟩
              case rest =>
                clear HC16
                try clear c1
                try clear q1
                try clear p2
                try clear c5
                try clear c6
                try clear c7
                try clear c7b0
                try clear c7b1
                try clear c8
                try clear c12
                try clear c12b0
                try clear c12b1
                try clear c13
                try clear c13b0
                try clear c14
                try clear q14
                try clear p2
                try clear q142
                obtain ⟨kq, x59_15, rfl, HA, HJ15, HO_6, HO_8, HB⟩ := hcut
                cases kq with
                | zero => exact absurd HA.out (by simp [demonlaw2_LempelSlide.j2])
                | succ kj15 =>
                  have H := HA.out
                  clear HA
                  simp only [demonlaw2_LempelSlide.j2] at H
                  by_cases c20 : x59_15 = true
                  · subst c20
                    have H1 : (some false) = some r := by rw [if_pos rfl] at H; exact H
                    clear H
                    have H := H1
                    clear H1
                    obtain rfl := Option.some.inj H
                    go_wp2
                    repeat (go_quiet (fail); try go_wp2)
                    go_ret
                    exact ⟨by first | rfl | (simp [errW_none, errW_some] <;> rfl) | (simp [*, errW_none, errW_some] <;> rfl), by repeat (first | (with_reducible first | exact HB.out | apply below_alloc | apply pw_below_drewN | apply below_drew1) | exact HB.out)⟩
                  · replace c20 := Bool.eq_false_iff.mpr c20
                    subst c20
                    have H1 : (demonlaw2_LempelSlide.l0 kj15 t135 t139 0) = some r := by rw [if_neg (show ¬ (false = true) by decide)] at H; exact H
                    clear H
                    have H := H1
                    clear H1
                    have H' := Aside0.mk H
                    clear H
                    go_wp2
                    repeat (go_quiet (fail); try go_wp2)
                    go_loopg [9] kj15 (fun kq v9 w' => ∃ (x9_4 : Int), v9 = .int .i64 x9_4 ∧ Aside0 (demonlaw2_LempelSlide.l0 kq t135 t139 x9_4 = some r) ∧ Aside0 (kq ≤ kj15) ∧ Aside0 (Kd.R k45 45 w' w.heap.size (fun _ => True) v137 t135) ∧ Aside0 (Kd.R PLempelSlide.k46 46 w' w.heap.size (fun _ => True) v140 t139) ∧ Aside0 (Below w.heap.size w w'))
                    case atStart => exact ⟨(0), (by first | rfl | (simp; done) | (simp [*]; done)), H', ⟨Nat.le_refl _⟩, ⟨by (with_reducible repeat (first | apply Kd.R_alloc | apply Kd.R_drewN | apply Kd.R_drew)); exact HO_6.out⟩, ⟨by (with_reducible repeat (first | apply Kd.R_alloc | apply Kd.R_drewN | apply Kd.R_drew)); exact HO_8.out⟩, ⟨by repeat (first | (with_reducible first | exact HB.out | apply below_alloc | apply pw_below_drewN | apply below_drew1) | exact HB.out)⟩⟩
                    case round =>
                      clear H'
                      try clear c1
                      try clear q1
                      try clear c2
                      try clear p2
                      try clear c5
                      try clear c6
                      try clear c7
                      try clear c7b0
                      try clear c7b1
                      try clear c8
                      try clear c12
                      try clear c12b0
                      try clear c12b1
                      try clear c13
                      try clear c13b0
                      try clear c14
                      try clear q14
                      try clear c20
                      try clear p2
                      try clear q1
                      try clear q14
                      try clear q142
                      obtain ⟨x9_4, rfl, HA, HK4, HO_6, HO_8, HB⟩ := hrel
                      cases gk with
                      | zero => exact absurd HA.out (by simp [demonlaw2_LempelSlide.l0])
                      | succ k4 =>
                        have H := HA.out
                        clear HA
                        simp only [demonlaw2_LempelSlide.l0] at H
                        by_cases c21 : x9_4 < (t135.length : Int)
                        · rw [if_pos c21] at H
                          have c21b0 : decide (x9_4 < (t135.length : Int)) = true := decide_eq_true c21
                          clear c21
                          by_cases c22 : 0 ≤ x9_4
                          · rw [if_pos c22] at H
                            have c22b0 : decide (0 ≤ x9_4) = true := decide_eq_true c22
                            clear c22
                            by_cases c23 : x9_4 < (t139.length : Int)
                            · rw [if_pos c23] at H
                              have c23b0 : decide (x9_4 < (t139.length : Int)) = true := decide_eq_true c23
                              clear c23
                              by_cases c24 : ((rd_T45 t135 x9_4).f0) = ((PLempelSlide.rd_T46 t139 x9_4).f0)
                              · rw [if_pos c24] at H
                                have c24b0 : (((rd_T45 t135 x9_4).f0) == ((PLempelSlide.rd_T46 t139 x9_4).f0)) = true := beq_iff_eq.mpr c24
                                have c24b1 : (((rd_T45 t135 x9_4).f0) != ((PLempelSlide.rd_T46 t139 x9_4).f0)) = false := bne_eq_false_iff_eq.mpr c24
                                clear c24
                                by_cases c25 : ((rd_T45 t135 x9_4).f1) = ((PLempelSlide.rd_T46 t139 x9_4).f1)
                                · rw [if_pos c25] at H
                                  have c25b0 : (((rd_T45 t135 x9_4).f1) == ((PLempelSlide.rd_T46 t139 x9_4).f1)) = true := beq_iff_eq.mpr c25
                                  have c25b1 : (((rd_T45 t135 x9_4).f1) != ((PLempelSlide.rd_T46 t139 x9_4).f1)) = false := bne_eq_false_iff_eq.mpr c25
                                  clear c25
                                  by_cases c26 : ((rd_T45 t135 x9_4).f2) = ((PLempelSlide.rd_T46 t139 x9_4).f2)
                                  · rw [if_pos c26] at H
                                    have c26b0 : (((rd_T45 t135 x9_4).f2) == ((PLempelSlide.rd_T46 t139 x9_4).f2)) = true := beq_iff_eq.mpr c26
                                    have c26b1 : (((rd_T45 t135 x9_4).f2) != ((PLempelSlide.rd_T46 t139 x9_4).f2)) = false := bne_eq_false_iff_eq.mpr c26
                                    clear c26
                                    by_cases c27 : (((rd_T45 t135 x9_4).f3) != ((PLempelSlide.rd_T46 t139 x9_4).f3)) = true
                                    · rw [if_pos c27] at H
                                      have c27b0 : (((rd_T45 t135 x9_4).f3) != ((PLempelSlide.rd_T46 t139 x9_4).f3)) = true := c27
                                      (try (have c27b1 : decide (((rd_T45 t135 x9_4).f3) = ((PLempelSlide.rd_T46 t139 x9_4).f3)) = false := by simpa using c27))
                                      (try (have c27b2 : (((rd_T45 t135 x9_4).f3) == ((PLempelSlide.rd_T46 t139 x9_4).f3)) = false := by simpa using c27))
                                      (try (have c27b3 : ¬ (((rd_T45 t135 x9_4).f3) = ((PLempelSlide.rd_T46 t139 x9_4).f3)) := by simpa using c27))
                                      clear c27
                                      obtain rfl := Option.some.inj H
                                      obtain ⟨Ao28, co28, eo28⟩ := Kd.R_slice HO_6.out
                                      subst eo28
                                      have p143 : 0 ≤ (x9_4 : Int) := of_decide_eq_true (by first | (with_reducible assumption) | assumption)
                                      have q143 : x9_4 < (t135.length : Int) := of_decide_eq_true (by first | (with_reducible assumption) | assumption)
                                      obtain ⟨ad143, e143, hx143_0, hx143_1, hx143_2, hx143_3⟩ := at_T45 (Kd.R_reads' HO_6.out).2.2 x9_4 p143 q143
                                      cases e143
                                      replace p143 := eq_true p143
                                      replace q143 := eq_true q143
                                      obtain ⟨Ao29, co29, eo29⟩ := Kd.R_slice HO_8.out
                                      subst eo29
                                      have p144 : 0 ≤ (x9_4 : Int) := of_decide_eq_true (by first | (with_reducible assumption) | assumption)
                                      have q144 : x9_4 < (t139.length : Int) := of_decide_eq_true (by first | (with_reducible assumption) | assumption)
                                      obtain ⟨ad144, e144, hx144_0, hx144_1, hx144_2, hx144_3⟩ := PLempelSlide.at_T46 (Kd.R_reads' HO_8.out).2.2 x9_4 p144 q144
                                      cases e144
                                      replace p144 := eq_true p144
                                      replace q144 := eq_true q144
                                      have p145 : 0 ≤ (x9_4 : Int) := of_decide_eq_true (by first | (with_reducible assumption) | assumption)
                                      have q145 : x9_4 < (t135.length : Int) := of_decide_eq_true (by first | (with_reducible assumption) | assumption)
                                      obtain ⟨ad145, e145, hx145_0, hx145_1, hx145_2, hx145_3⟩ := at_T45 (Kd.R_reads' HO_6.out).2.2 x9_4 p145 q145
                                      obtain rfl : ad143 = ad145 := (by injection e145)
                                      replace p145 := eq_true p145
                                      replace q145 := eq_true q145
                                      have p146 : 0 ≤ (x9_4 : Int) := of_decide_eq_true (by first | (with_reducible assumption) | assumption)
                                      have q146 : x9_4 < (t139.length : Int) := of_decide_eq_true (by first | (with_reducible assumption) | assumption)
                                      obtain ⟨ad146, e146, hx146_0, hx146_1, hx146_2, hx146_3⟩ := PLempelSlide.at_T46 (Kd.R_reads' HO_8.out).2.2 x9_4 p146 q146
                                      obtain rfl : ad144 = ad146 := (by injection e146)
                                      replace p146 := eq_true p146
                                      replace q146 := eq_true q146
                                      have p147 : 0 ≤ (x9_4 : Int) := of_decide_eq_true (by first | (with_reducible assumption) | assumption)
                                      have q147 : x9_4 < (t135.length : Int) := of_decide_eq_true (by first | (with_reducible assumption) | assumption)
                                      obtain ⟨ad147, e147, hx147_0, hx147_1, hx147_2, hx147_3⟩ := at_T45 (Kd.R_reads' HO_6.out).2.2 x9_4 p147 q147
                                      obtain rfl : ad143 = ad147 := (by injection e147)
                                      replace p147 := eq_true p147
                                      replace q147 := eq_true q147
                                      have p148 : 0 ≤ (x9_4 : Int) := of_decide_eq_true (by first | (with_reducible assumption) | assumption)
                                      have q148 : x9_4 < (t139.length : Int) := of_decide_eq_true (by first | (with_reducible assumption) | assumption)
                                      obtain ⟨ad148, e148, hx148_0, hx148_1, hx148_2, hx148_3⟩ := PLempelSlide.at_T46 (Kd.R_reads' HO_8.out).2.2 x9_4 p148 q148
                                      obtain rfl : ad144 = ad148 := (by injection e148)
                                      replace p148 := eq_true p148
                                      replace q148 := eq_true q148
                                      have p149 : 0 ≤ (x9_4 : Int) := of_decide_eq_true (by first | (with_reducible assumption) | assumption)
                                      have q149 : x9_4 < (t135.length : Int) := of_decide_eq_true (by first | (with_reducible assumption) | assumption)
                                      obtain ⟨ad149, e149, hx149_0, hx149_1, hx149_2, hx149_3⟩ := at_T45 (Kd.R_reads' HO_6.out).2.2 x9_4 p149 q149
                                      obtain rfl : ad143 = ad149 := (by injection e149)
                                      replace p149 := eq_true p149
                                      replace q149 := eq_true q149
                                      have p150 : 0 ≤ (x9_4 : Int) := of_decide_eq_true (by first | (with_reducible assumption) | assumption)
                                      have q150 : x9_4 < (t139.length : Int) := of_decide_eq_true (by first | (with_reducible assumption) | assumption)
                                      obtain ⟨ad150, e150, hx150_0, hx150_1, hx150_2, hx150_3⟩ := PLempelSlide.at_T46 (Kd.R_reads' HO_8.out).2.2 x9_4 p150 q150
                                      obtain rfl : ad144 = ad150 := (by injection e150)
                                      replace p150 := eq_true p150
                                      replace q150 := eq_true q150
                                      go_wp2
                                      repeat (go_quiet (fail); try go_wp2)
                                      go_ret
                                      exact ⟨by first | rfl | (simp [errW_none, errW_some] <;> rfl) | (simp [*, errW_none, errW_some] <;> rfl), by repeat (first | (with_reducible first | exact HB.out | apply below_alloc | apply pw_below_drewN | apply below_drew1) | exact HB.out)⟩
                                    · rw [if_neg c27] at H
                                      have c27b0 : (((rd_T45 t135 x9_4).f3) != ((PLempelSlide.rd_T46 t139 x9_4).f3)) = false := by simpa using c27
                                      (try (have c27b1 : decide (((rd_T45 t135 x9_4).f3) = ((PLempelSlide.rd_T46 t139 x9_4).f3)) = true := by simpa using c27))
                                      (try (have c27b2 : (((rd_T45 t135 x9_4).f3) == ((PLempelSlide.rd_T46 t139 x9_4).f3)) = true := by simpa using c27))
                                      clear c27
                                      have H' := Aside0.mk H
                                      clear H
                                      obtain ⟨Ao30, co30, eo30⟩ := Kd.R_slice HO_6.out
                                      subst eo30
                                      have p143 : 0 ≤ (x9_4 : Int) := of_decide_eq_true (by first | (with_reducible assumption) | assumption)
                                      have q143 : x9_4 < (t135.length : Int) := of_decide_eq_true (by first | (with_reducible assumption) | assumption)
                                      obtain ⟨ad143, e143, hx143_0, hx143_1, hx143_2, hx143_3⟩ := at_T45 (Kd.R_reads' HO_6.out).2.2 x9_4 p143 q143
                                      cases e143
                                      replace p143 := eq_true p143
                                      replace q143 := eq_true q143
                                      obtain ⟨Ao31, co31, eo31⟩ := Kd.R_slice HO_8.out
                                      subst eo31
                                      have p144 : 0 ≤ (x9_4 : Int) := of_decide_eq_true (by first | (with_reducible assumption) | assumption)
                                      have q144 : x9_4 < (t139.length : Int) := of_decide_eq_true (by first | (with_reducible assumption) | assumption)
                                      obtain ⟨ad144, e144, hx144_0, hx144_1, hx144_2, hx144_3⟩ := PLempelSlide.at_T46 (Kd.R_reads' HO_8.out).2.2 x9_4 p144 q144
                                      cases e144
                                      replace p144 := eq_true p144
                                      replace q144 := eq_true q144
                                      have p145 : 0 ≤ (x9_4 : Int) := of_decide_eq_true (by first | (with_reducible assumption) | assumption)
                                      have q145 : x9_4 < (t135.length : Int) := of_decide_eq_true (by first | (with_reducible assumption) | assumption)
                                      obtain ⟨ad145, e145, hx145_0, hx145_1, hx145_2, hx145_3⟩ := at_T45 (Kd.R_reads' HO_6.out).2.2 x9_4 p145 q145
                                      obtain rfl : ad143 = ad145 := (by injection e145)
                                      replace p145 := eq_true p145
                                      replace q145 := eq_true q145
                                      have p146 : 0 ≤ (x9_4 : Int) := of_decide_eq_true (by first | (with_reducible assumption) | assumption)
                                      have q146 : x9_4 < (t139.length : Int) := of_decide_eq_true (by first | (with_reducible assumption) | assumption)
                                      obtain ⟨ad146, e146, hx146_0, hx146_1, hx146_2, hx146_3⟩ := PLempelSlide.at_T46 (Kd.R_reads' HO_8.out).2.2 x9_4 p146 q146
                                      obtain rfl : ad144 = ad146 := (by injection e146)
                                      replace p146 := eq_true p146
                                      replace q146 := eq_true q146
                                      have p147 : 0 ≤ (x9_4 : Int) := of_decide_eq_true (by first | (with_reducible assumption) | assumption)
                                      have q147 : x9_4 < (t135.length : Int) := of_decide_eq_true (by first | (with_reducible assumption) | assumption)
                                      obtain ⟨ad147, e147, hx147_0, hx147_1, hx147_2, hx147_3⟩ := at_T45 (Kd.R_reads' HO_6.out).2.2 x9_4 p147 q147
                                      obtain rfl : ad143 = ad147 := (by injection e147)
                                      replace p147 := eq_true p147
                                      replace q147 := eq_true q147
                                      have p148 : 0 ≤ (x9_4 : Int) := of_decide_eq_true (by first | (with_reducible assumption) | assumption)
                                      have q148 : x9_4 < (t139.length : Int) := of_decide_eq_true (by first | (with_reducible assumption) | assumption)
                                      obtain ⟨ad148, e148, hx148_0, hx148_1, hx148_2, hx148_3⟩ := PLempelSlide.at_T46 (Kd.R_reads' HO_8.out).2.2 x9_4 p148 q148
                                      obtain rfl : ad144 = ad148 := (by injection e148)
                                      replace p148 := eq_true p148
                                      replace q148 := eq_true q148
                                      have p149 : 0 ≤ (x9_4 : Int) := of_decide_eq_true (by first | (with_reducible assumption) | assumption)
                                      have q149 : x9_4 < (t135.length : Int) := of_decide_eq_true (by first | (with_reducible assumption) | assumption)
                                      obtain ⟨ad149, e149, hx149_0, hx149_1, hx149_2, hx149_3⟩ := at_T45 (Kd.R_reads' HO_6.out).2.2 x9_4 p149 q149
                                      obtain rfl : ad143 = ad149 := (by injection e149)
                                      replace p149 := eq_true p149
                                      replace q149 := eq_true q149
                                      have p150 : 0 ≤ (x9_4 : Int) := of_decide_eq_true (by first | (with_reducible assumption) | assumption)
                                      have q150 : x9_4 < (t139.length : Int) := of_decide_eq_true (by first | (with_reducible assumption) | assumption)
                                      obtain ⟨ad150, e150, hx150_0, hx150_1, hx150_2, hx150_3⟩ := PLempelSlide.at_T46 (Kd.R_reads' HO_8.out).2.2 x9_4 p150 q150
                                      obtain rfl : ad144 = ad150 := (by injection e150)
                                      replace p150 := eq_true p150
                                      replace q150 := eq_true q150
                                      go_wp2
                                      repeat (go_quiet (fail); try go_wp2)
                                      go_roundg k4
                                      case measure => have := HJ3.out; have := HJ9.out; have := HJ15.out; have := HK4.out; omega
                                      case rel => exact ⟨(wrap64 (x9_4 + 1)), (by first | rfl | (simp; done) | (simp [*]; done)), H', ⟨by have := HJ3.out; have := HJ9.out; have := HJ15.out; have := HK4.out; omega⟩, ⟨by (with_reducible repeat (first | apply Kd.R_alloc | apply Kd.R_drewN | apply Kd.R_drew)); exact HO_6.out⟩, ⟨by (with_reducible repeat (first | apply Kd.R_alloc | apply Kd.R_drewN | apply Kd.R_drew)); exact HO_8.out⟩, ⟨by repeat (first | (with_reducible first | exact HB.out | apply below_alloc | apply pw_below_drewN | apply below_drew1) | exact HB.out)⟩⟩
                                  · rw [if_neg c26] at H
                                    have c26b0 : (((rd_T45 t135 x9_4).f2) == ((PLempelSlide.rd_T46 t139 x9_4).f2)) = false := beq_eq_false_iff_ne.mpr c26
                                    have c26b1 : (((rd_T45 t135 x9_4).f2) != ((PLempelSlide.rd_T46 t139 x9_4).f2)) = true := bne_iff_ne.mpr c26
                                    obtain rfl := Option.some.inj H
                                    obtain ⟨Ao32, co32, eo32⟩ := Kd.R_slice HO_6.out
                                    subst eo32
                                    have p143 : 0 ≤ (x9_4 : Int) := of_decide_eq_true (by first | (with_reducible assumption) | assumption)
                                    have q143 : x9_4 < (t135.length : Int) := of_decide_eq_true (by first | (with_reducible assumption) | assumption)
                                    obtain ⟨ad143, e143, hx143_0, hx143_1, hx143_2, hx143_3⟩ := at_T45 (Kd.R_reads' HO_6.out).2.2 x9_4 p143 q143
                                    cases e143
                                    replace p143 := eq_true p143
                                    replace q143 := eq_true q143
                                    obtain ⟨Ao33, co33, eo33⟩ := Kd.R_slice HO_8.out
                                    subst eo33
                                    have p144 : 0 ≤ (x9_4 : Int) := of_decide_eq_true (by first | (with_reducible assumption) | assumption)
                                    have q144 : x9_4 < (t139.length : Int) := of_decide_eq_true (by first | (with_reducible assumption) | assumption)
                                    obtain ⟨ad144, e144, hx144_0, hx144_1, hx144_2, hx144_3⟩ := PLempelSlide.at_T46 (Kd.R_reads' HO_8.out).2.2 x9_4 p144 q144
                                    cases e144
                                    replace p144 := eq_true p144
                                    replace q144 := eq_true q144
                                    have p145 : 0 ≤ (x9_4 : Int) := of_decide_eq_true (by first | (with_reducible assumption) | assumption)
                                    have q145 : x9_4 < (t135.length : Int) := of_decide_eq_true (by first | (with_reducible assumption) | assumption)
                                    obtain ⟨ad145, e145, hx145_0, hx145_1, hx145_2, hx145_3⟩ := at_T45 (Kd.R_reads' HO_6.out).2.2 x9_4 p145 q145
                                    obtain rfl : ad143 = ad145 := (by injection e145)
                                    replace p145 := eq_true p145
                                    replace q145 := eq_true q145
                                    have p146 : 0 ≤ (x9_4 : Int) := of_decide_eq_true (by first | (with_reducible assumption) | assumption)
                                    have q146 : x9_4 < (t139.length : Int) := of_decide_eq_true (by first | (with_reducible assumption) | assumption)
                                    obtain ⟨ad146, e146, hx146_0, hx146_1, hx146_2, hx146_3⟩ := PLempelSlide.at_T46 (Kd.R_reads' HO_8.out).2.2 x9_4 p146 q146
                                    obtain rfl : ad144 = ad146 := (by injection e146)
                                    replace p146 := eq_true p146
                                    replace q146 := eq_true q146
                                    have p147 : 0 ≤ (x9_4 : Int) := of_decide_eq_true (by first | (with_reducible assumption) | assumption)
                                    have q147 : x9_4 < (t135.length : Int) := of_decide_eq_true (by first | (with_reducible assumption) | assumption)
                                    obtain ⟨ad147, e147, hx147_0, hx147_1, hx147_2, hx147_3⟩ := at_T45 (Kd.R_reads' HO_6.out).2.2 x9_4 p147 q147
                                    obtain rfl : ad143 = ad147 := (by injection e147)
                                    replace p147 := eq_true p147
                                    replace q147 := eq_true q147
                                    have p148 : 0 ≤ (x9_4 : Int) := of_decide_eq_true (by first | (with_reducible assumption) | assumption)
                                    have q148 : x9_4 < (t139.length : Int) := of_decide_eq_true (by first | (with_reducible assumption) | assumption)
                                    obtain ⟨ad148, e148, hx148_0, hx148_1, hx148_2, hx148_3⟩ := PLempelSlide.at_T46 (Kd.R_reads' HO_8.out).2.2 x9_4 p148 q148
                                    obtain rfl : ad144 = ad148 := (by injection e148)
                                    replace p148 := eq_true p148
                                    replace q148 := eq_true q148
                                    go_wp2
                                    repeat (go_quiet (fail); try go_wp2)
                                    go_ret
                                    exact ⟨by first | rfl | (simp [errW_none, errW_some] <;> rfl) | (simp [*, errW_none, errW_some] <;> rfl), by repeat (first | (with_reducible first | exact HB.out | apply below_alloc | apply pw_below_drewN | apply below_drew1) | exact HB.out)⟩
                                · rw [if_neg c25] at H
                                  have c25b0 : (((rd_T45 t135 x9_4).f1) == ((PLempelSlide.rd_T46 t139 x9_4).f1)) = false := beq_eq_false_iff_ne.mpr c25
                                  have c25b1 : (((rd_T45 t135 x9_4).f1) != ((PLempelSlide.rd_T46 t139 x9_4).f1)) = true := bne_iff_ne.mpr c25
                                  obtain rfl := Option.some.inj H
                                  obtain ⟨Ao34, co34, eo34⟩ := Kd.R_slice HO_6.out
                                  subst eo34
                                  have p143 : 0 ≤ (x9_4 : Int) := of_decide_eq_true (by first | (with_reducible assumption) | assumption)
                                  have q143 : x9_4 < (t135.length : Int) := of_decide_eq_true (by first | (with_reducible assumption) | assumption)
                                  obtain ⟨ad143, e143, hx143_0, hx143_1, hx143_2, hx143_3⟩ := at_T45 (Kd.R_reads' HO_6.out).2.2 x9_4 p143 q143
                                  cases e143
                                  replace p143 := eq_true p143
                                  replace q143 := eq_true q143
                                  obtain ⟨Ao35, co35, eo35⟩ := Kd.R_slice HO_8.out
                                  subst eo35
                                  have p144 : 0 ≤ (x9_4 : Int) := of_decide_eq_true (by first | (with_reducible assumption) | assumption)
                                  have q144 : x9_4 < (t139.length : Int) := of_decide_eq_true (by first | (with_reducible assumption) | assumption)
                                  obtain ⟨ad144, e144, hx144_0, hx144_1, hx144_2, hx144_3⟩ := PLempelSlide.at_T46 (Kd.R_reads' HO_8.out).2.2 x9_4 p144 q144
                                  cases e144
                                  replace p144 := eq_true p144
                                  replace q144 := eq_true q144
                                  have p145 : 0 ≤ (x9_4 : Int) := of_decide_eq_true (by first | (with_reducible assumption) | assumption)
                                  have q145 : x9_4 < (t135.length : Int) := of_decide_eq_true (by first | (with_reducible assumption) | assumption)
                                  obtain ⟨ad145, e145, hx145_0, hx145_1, hx145_2, hx145_3⟩ := at_T45 (Kd.R_reads' HO_6.out).2.2 x9_4 p145 q145
                                  obtain rfl : ad143 = ad145 := (by injection e145)
                                  replace p145 := eq_true p145
                                  replace q145 := eq_true q145
                                  have p146 : 0 ≤ (x9_4 : Int) := of_decide_eq_true (by first | (with_reducible assumption) | assumption)
                                  have q146 : x9_4 < (t139.length : Int) := of_decide_eq_true (by first | (with_reducible assumption) | assumption)
                                  obtain ⟨ad146, e146, hx146_0, hx146_1, hx146_2, hx146_3⟩ := PLempelSlide.at_T46 (Kd.R_reads' HO_8.out).2.2 x9_4 p146 q146
                                  obtain rfl : ad144 = ad146 := (by injection e146)
                                  replace p146 := eq_true p146
                                  replace q146 := eq_true q146
                                  go_wp2
                                  repeat (go_quiet (fail); try go_wp2)
                                  go_ret
                                  exact ⟨by first | rfl | (simp [errW_none, errW_some] <;> rfl) | (simp [*, errW_none, errW_some] <;> rfl), by repeat (first | (with_reducible first | exact HB.out | apply below_alloc | apply pw_below_drewN | apply below_drew1) | exact HB.out)⟩
                              · rw [if_neg c24] at H
                                have c24b0 : (((rd_T45 t135 x9_4).f0) == ((PLempelSlide.rd_T46 t139 x9_4).f0)) = false := beq_eq_false_iff_ne.mpr c24
                                have c24b1 : (((rd_T45 t135 x9_4).f0) != ((PLempelSlide.rd_T46 t139 x9_4).f0)) = true := bne_iff_ne.mpr c24
                                obtain rfl := Option.some.inj H
                                obtain ⟨Ao36, co36, eo36⟩ := Kd.R_slice HO_6.out
                                subst eo36
                                have p143 : 0 ≤ (x9_4 : Int) := of_decide_eq_true (by first | (with_reducible assumption) | assumption)
                                have q143 : x9_4 < (t135.length : Int) := of_decide_eq_true (by first | (with_reducible assumption) | assumption)
                                obtain ⟨ad143, e143, hx143_0, hx143_1, hx143_2, hx143_3⟩ := at_T45 (Kd.R_reads' HO_6.out).2.2 x9_4 p143 q143
                                cases e143
                                replace p143 := eq_true p143
                                replace q143 := eq_true q143
                                obtain ⟨Ao37, co37, eo37⟩ := Kd.R_slice HO_8.out
                                subst eo37
                                have p144 : 0 ≤ (x9_4 : Int) := of_decide_eq_true (by first | (with_reducible assumption) | assumption)
                                have q144 : x9_4 < (t139.length : Int) := of_decide_eq_true (by first | (with_reducible assumption) | assumption)
                                obtain ⟨ad144, e144, hx144_0, hx144_1, hx144_2, hx144_3⟩ := PLempelSlide.at_T46 (Kd.R_reads' HO_8.out).2.2 x9_4 p144 q144
                                cases e144
                                replace p144 := eq_true p144
                                replace q144 := eq_true q144
                                go_wp2
                                repeat (go_quiet (fail); try go_wp2)
                                go_ret
                                exact ⟨by first | rfl | (simp [errW_none, errW_some] <;> rfl) | (simp [*, errW_none, errW_some] <;> rfl), by repeat (first | (with_reducible first | exact HB.out | apply below_alloc | apply pw_below_drewN | apply below_drew1) | exact HB.out)⟩
                            · rw [if_neg c23] at H
                              exact absurd H (by simp)
                          · rw [if_neg c22] at H
                            exact absurd H (by simp)
                        · rw [if_neg c21] at H
                          have c21b0 : decide (x9_4 < (t135.length : Int)) = false := decide_eq_false c21
                          clear c21
                          obtain rfl := Option.some.inj H
                          obtain ⟨Ao38, co38, eo38⟩ := Kd.R_slice HO_6.out
                          subst eo38
                          go_wp2
                          repeat (go_quiet (fail); try go_wp2)
                          go_ret
                          exact ⟨by first | rfl | (simp [errW_none, errW_some] <;> rfl) | (simp [*, errW_none, errW_some] <;> rfl), by repeat (first | (with_reducible first | exact HB.out | apply below_alloc | apply pw_below_drewN | apply below_drew1) | exact HB.out)⟩

/-- THE ONE PURE STATEMENT of demonlaw2_LempelSlide: yours. -/
def demonlaw2_LempelSlide.Pure : Prop := ∀ (a0 : ByteArray) (a1 : Int), a0.size ≤ 140737488351232 → (Lit.int .i64 a1).wf = true → ∃ k, demonlaw2_LempelSlide.f k a0 a1 = some true
theorem demonlaw2_LempelSlide.walk (P : demonlaw2_LempelSlide.Pure) (a0 : ByteArray) (a1 : Int) (w : World) (w0 : a0.size ≤ 140737488351232) (w1 : (Lit.int .i64 a1).wf = true) :
    Calls Tryd.prog 5 #[.string a0, .int .i64 a1] w fun e w' => e = .returned (.bool true) ∧ Below w.heap.size w w' := by
  obtain ⟨k, h⟩ := P a0 a1 w0 w1
  refine (demonlaw2_LempelSlide.calls k a0 a1 true w h).mono ?_
  rintro e w' ⟨rfl, hd⟩
  exact ⟨rfl, hd⟩

end Go.Proofs.YtaonemghafoolaaDoor.V
