/-
  demonlaw2.LempelParse, by a walk.
-/
import Derived.Test.YtaonemghafoolaaDoorQ2
import Derived.Test.YtaonemghafoolaaDoorPLempelParsex1
namespace Go.Proofs.YtaonemghafoolaaDoor.V
open Go.RowKit Go.Proofs.YtaonemghafoolaaDoor.Q Go.Proofs.YtaonemghafoolaaDoorW.PrintWords Go.Proofs.YtaonemghafoolaaDoorW.PrintLast Go.Proofs.YtaonemghafoolaaDoorW.PrintMore
attribute [local go_sem] max2_int min2_int max_two min_two max_three min_three max_four min_four   -- for this text's walks alone
set_option linter.unusedVariables false
set_option linter.unusedSimpArgs false

/-! ### demonlaw2_LempelParse: function 4 -/
mutual
def demonlaw2_LempelParse.j0 : Nat → ByteArray → Bool → Bool → Option (Bool)
  | 0, _, _, _ => none
  | k + 1, x0, x3, x20 => if x20 = true then (some x3) else ((lempel_Parse.f k x0).bind fun bt134 => (if (x0.size : Int) > 4000 then (none) else ((PLempelParse.demonref2_ParseOf.f k x0).bind fun t138 => (if bt134.2.isNone = true then (demonlaw2_LempelParse.j1 k bt134.1 t138 ((bt134.1.length : Int) != (t138.length : Int))) else (demonlaw2_LempelParse.j1 k bt134.1 t138 true)))))
def demonlaw2_LempelParse.j1 : Nat → List (S31) → List (PLempelParse.S40) → Bool → Option (Bool)
  | 0, _, _, _ => none
  | k + 1, x4, x6, x47 => if x47 = true then (some false) else (demonlaw2_LempelParse.l0 k x4 x6 0)
def demonlaw2_LempelParse.l0 : Nat → List (S31) → List (PLempelParse.S40) → Int → Option (Bool)
  | 0, _, _, _ => none
  | k + 1, x4, x6, x7 => if x7 < (x4.length : Int) then (if 0 ≤ x7 then (if x7 < (x6.length : Int) then (if ((rd_T31 x4 x7).f0) = ((PLempelParse.rd_T40 x6 x7).f0) then (if ((rd_T31 x4 x7).f1) = ((PLempelParse.rd_T40 x6 x7).f1) then (if (((rd_T31 x4 x7).f2) != ((PLempelParse.rd_T40 x6 x7).f2)) = true then (some false) else (demonlaw2_LempelParse.l0 k x4 x6 (wrap64 (x7 + 1)))) else (some false)) else (some false)) else (none)) else (none)) else (some true)
end
def demonlaw2_LempelParse.f (k : Nat) (a0 : ByteArray) : Option (Bool) := (demonlaw2_abab.f k).bind fun t133 => (if t133 = true then (if (a0.size : Int) > 300 then (demonlaw2_LempelParse.j0 k a0 t133 (decide ((a0.size : Int) ≤ 4000))) else (demonlaw2_LempelParse.j0 k a0 t133 false)) else (demonlaw2_LempelParse.j0 k a0 t133 true))
theorem demonlaw2_LempelParse.mono_l : ∀ k, (∀ y0 y1 y2, LeO (demonlaw2_LempelParse.j0 k y0 y1 y2) (demonlaw2_LempelParse.j0 (k + 1) y0 y1 y2)) ∧ (∀ y0 y1 y2, LeO (demonlaw2_LempelParse.j1 k y0 y1 y2) (demonlaw2_LempelParse.j1 (k + 1) y0 y1 y2)) ∧ (∀ y0 y1 y2, LeO (demonlaw2_LempelParse.l0 k y0 y1 y2) (demonlaw2_LempelParse.l0 (k + 1) y0 y1 y2))
  | 0 => ⟨fun _ _ _ r h => by simp [demonlaw2_LempelParse.j0] at h, fun _ _ _ r h => by simp [demonlaw2_LempelParse.j1] at h, fun _ _ _ r h => by simp [demonlaw2_LempelParse.l0] at h⟩
  | k + 1 => by
    obtain ⟨ih0, ih1, ih2⟩ := demonlaw2_LempelParse.mono_l k
    refine ⟨?_, ?_, ?_⟩
    · intro y0 y1 y2
      unfold demonlaw2_LempelParse.j0
      repeat' first
      | (with_reducible exact ih0 _ _ _)
      | (with_reducible exact ih1 _ _ _)
      | (with_reducible exact ih2 _ _ _)
      | (with_reducible exact demonlaw2_abab.mono _)
      | (with_reducible exact PLempelParse.demonref2_ParseOf.mono _ _)
      | (with_reducible exact lempel_Parse.mono _ _)
      | (with_reducible exact LeO.refl _)
      | (with_reducible exact LeO.none _)
      | (with_reducible refine LeO.ite ?_ ?_)
      | (with_reducible refine LeO.bind ?_ (fun _ => ?_))
      | exact ih0 _ _ _
      | exact ih1 _ _ _
      | exact ih2 _ _ _
      | exact demonlaw2_abab.mono _
      | exact PLempelParse.demonref2_ParseOf.mono _ _
      | exact lempel_Parse.mono _ _
      | exact LeO.none _
      | refine LeO.ite ?_ ?_
      | refine LeO.bind ?_ (fun _ => ?_)
    · intro y0 y1 y2
      unfold demonlaw2_LempelParse.j1
      repeat' first
      | (with_reducible exact ih0 _ _ _)
      | (with_reducible exact ih1 _ _ _)
      | (with_reducible exact ih2 _ _ _)
      | (with_reducible exact demonlaw2_abab.mono _)
      | (with_reducible exact PLempelParse.demonref2_ParseOf.mono _ _)
      | (with_reducible exact lempel_Parse.mono _ _)
      | (with_reducible exact LeO.refl _)
      | (with_reducible exact LeO.none _)
      | (with_reducible refine LeO.ite ?_ ?_)
      | (with_reducible refine LeO.bind ?_ (fun _ => ?_))
      | exact ih0 _ _ _
      | exact ih1 _ _ _
      | exact ih2 _ _ _
      | exact demonlaw2_abab.mono _
      | exact PLempelParse.demonref2_ParseOf.mono _ _
      | exact lempel_Parse.mono _ _
      | exact LeO.none _
      | refine LeO.ite ?_ ?_
      | refine LeO.bind ?_ (fun _ => ?_)
    · intro y0 y1 y2
      unfold demonlaw2_LempelParse.l0
      repeat' first
      | (with_reducible exact ih0 _ _ _)
      | (with_reducible exact ih1 _ _ _)
      | (with_reducible exact ih2 _ _ _)
      | (with_reducible exact demonlaw2_abab.mono _)
      | (with_reducible exact PLempelParse.demonref2_ParseOf.mono _ _)
      | (with_reducible exact lempel_Parse.mono _ _)
      | (with_reducible exact LeO.refl _)
      | (with_reducible exact LeO.none _)
      | (with_reducible refine LeO.ite ?_ ?_)
      | (with_reducible refine LeO.bind ?_ (fun _ => ?_))
      | exact ih0 _ _ _
      | exact ih1 _ _ _
      | exact ih2 _ _ _
      | exact demonlaw2_abab.mono _
      | exact PLempelParse.demonref2_ParseOf.mono _ _
      | exact lempel_Parse.mono _ _
      | exact LeO.none _
      | refine LeO.ite ?_ ?_
      | refine LeO.bind ?_ (fun _ => ?_)
theorem demonlaw2_LempelParse.mono : ∀ a0 k, LeO (demonlaw2_LempelParse.f k a0) (demonlaw2_LempelParse.f (k + 1) a0) := by
  intro a0 k
  obtain ⟨ih0, ih1, ih2⟩ := demonlaw2_LempelParse.mono_l k
  unfold demonlaw2_LempelParse.f
  repeat' first
      | (with_reducible exact ih0 _ _ _)
      | (with_reducible exact ih1 _ _ _)
      | (with_reducible exact ih2 _ _ _)
      | (with_reducible exact demonlaw2_abab.mono _)
      | (with_reducible exact PLempelParse.demonref2_ParseOf.mono _ _)
      | (with_reducible exact lempel_Parse.mono _ _)
      | (with_reducible exact LeO.refl _)
      | (with_reducible exact LeO.none _)
      | (with_reducible refine LeO.ite ?_ ?_)
      | (with_reducible refine LeO.bind ?_ (fun _ => ?_))
      | exact ih0 _ _ _
      | exact ih1 _ _ _
      | exact ih2 _ _ _
      | exact demonlaw2_abab.mono _
      | exact PLempelParse.demonref2_ParseOf.mono _ _
      | exact lempel_Parse.mono _ _
      | exact LeO.none _
      | refine LeO.ite ?_ ?_
      | refine LeO.bind ?_ (fun _ => ?_)
set_option maxHeartbeats 8000000 in
set_option maxRecDepth 100000 in
theorem demonlaw2_LempelParse.calls (k : Nat) (a0 : ByteArray) (r : Bool) (w : World) (h : demonlaw2_LempelParse.f k a0 = some r) :
    Calls Tryd.prog 4 #[.string a0] w fun e w' => e = .returned (.bool r) ∧ Below w.heap.size w w' := by
  have hu25 := Tryd.underlying25
  have HB := Aside0.mk (Below.refl w.heap.size w)
  have H : ((demonlaw2_abab.f k).bind fun t133 => (if t133 = true then (if (a0.size : Int) > 300 then (demonlaw2_LempelParse.j0 k a0 t133 (decide ((a0.size : Int) ≤ 4000))) else (demonlaw2_LempelParse.j0 k a0 t133 false)) else (demonlaw2_LempelParse.j0 k a0 t133 true))) = some r := h
  clear h
  replace H := Option.bind_eq_some_iff.mp H
  obtain ⟨t133, A20, H⟩ := H
  replace H : (if t133 = true then (if (a0.size : Int) > 300 then (demonlaw2_LempelParse.j0 k a0 t133 (decide ((a0.size : Int) ≤ 4000))) else (demonlaw2_LempelParse.j0 k a0 t133 false)) else (demonlaw2_LempelParse.j0 k a0 t133 true)) = some r := H
  have A2 := Aside0.mk A20
  clear A20
  have HC3 := Aside0.mk H
  clear H
  go_enter Tryd.func4, Tryd.ntmps4
  go_upto_region 2 with (first | (go_at_call 8; (with_reducible refine (demonlaw2_abab.calls k  t133 _ A2.out).mono ?_); rintro e w4 ⟨rfl, hb⟩; have n0_ := Aside0.mk (below_step (by repeat (first | (with_reducible first | exact HB.out | apply below_alloc | apply pw_below_drewN | apply below_drew1) | exact HB.out)) hb); clear HB; have HB := n0_; clear n0_; (try clear hb); (try clear hb2); (try clear hk); (try clear hi)))
  repeat (go_quiet (first | (go_at_call 8; (with_reducible refine (demonlaw2_abab.calls k  t133 _ A2.out).mono ?_); rintro e w4 ⟨rfl, hb⟩; have n0_ := Aside0.mk (below_step (by repeat (first | (with_reducible first | exact HB.out | apply below_alloc | apply pw_below_drewN | apply below_drew1) | exact HB.out)) hb); clear HB; have HB := n0_; clear n0_; (try clear hb); (try clear hb2); (try clear hk); (try clear hi))); go_upto_region 2 with (first | (go_at_call 8; (with_reducible refine (demonlaw2_abab.calls k  t133 _ A2.out).mono ?_); rintro e w4 ⟨rfl, hb⟩; have n0_ := Aside0.mk (below_step (by repeat (first | (with_reducible first | exact HB.out | apply below_alloc | apply pw_below_drewN | apply below_drew1) | exact HB.out)) hb); clear HB; have HB := n0_; clear n0_; (try clear hb); (try clear hb2); (try clear hk); (try clear hi))))
  (try simp only [Act.put, List.setIfInBounds_toArray, List.set_cons_zero, List.set_cons_succ])
  go_cut [20] (fun v20 wc => ∃ (kq : Nat) (x20_2 : Bool), v20 = .bool x20_2 ∧ Aside0 (demonlaw2_LempelParse.j0 kq a0 t133 x20_2 = some r) ∧ Aside0 (kq ≤ k) ∧ Aside0 (Below w.heap.size w wc))
  case first =>
    have H := HC3.out
    clear HC3
    by_cases c5 : t133 = true
    · subst c5
      have H1 : (if (a0.size : Int) > 300 then (demonlaw2_LempelParse.j0 k a0 true (decide ((a0.size : Int) ≤ 4000))) else (demonlaw2_LempelParse.j0 k a0 true false)) = some r := by rw [if_pos rfl] at H; exact H
      clear H
      have H := H1
      clear H1
      by_cases c6 : (a0.size : Int) > 300
      · rw [if_pos c6] at H
        have c6b0 : decide (300 < (a0.size : Int)) = true := decide_eq_true c6
        have c6b1 : decide (300 < a0.size) = true := decide_eq_true (by omega)
        clear c6
        (first | rw [c6b0] | (simp only [i64_w, i32_w]; rw [c6b0]) | skip)
        have H' := Aside0.mk H
        clear H
        go_wp2
        repeat (go_quiet (fail); try go_wp2)
        go_meet
        case rel => exact ⟨_, (decide ((a0.size : Int) ≤ 4000)), (by first | rfl | (simp; done) | (simp [*]; done)), H', ⟨by first | omega | exact Nat.le_refl _⟩, ⟨by repeat (first | (with_reducible first | exact HB.out | apply below_alloc | apply pw_below_drewN | apply below_drew1) | exact HB.out)⟩⟩
      · rw [if_neg c6] at H
        have c6b0 : decide (300 < (a0.size : Int)) = false := decide_eq_false c6
        have c6b1 : decide (300 < a0.size) = false := decide_eq_false (by omega)
        clear c6
        (first | rw [c6b0] | (simp only [i64_w, i32_w]; rw [c6b0]) | skip)
        have H' := Aside0.mk H
        clear H
        go_wp2
        repeat (go_quiet (fail); try go_wp2)
        go_meet
        case rel => exact ⟨_, (false), (by first | rfl | (simp; done) | (simp [*]; done)), H', ⟨by first | omega | exact Nat.le_refl _⟩, ⟨by repeat (first | (with_reducible first | exact HB.out | apply below_alloc | apply pw_below_drewN | apply below_drew1) | exact HB.out)⟩⟩
    · replace c5 := Bool.eq_false_iff.mpr c5
      subst c5
      have H1 : (demonlaw2_LempelParse.j0 k a0 false true) = some r := by rw [if_neg (show ¬ (false = true) by decide)] at H; exact H
      clear H
      have H := H1
      clear H1
      have H' := Aside0.mk H
      clear H
      go_wp2
      repeat (go_quiet (fail); try go_wp2)
      go_meet
      case rel => exact ⟨_, (true), (by first | rfl | (simp; done) | (simp [*]; done)), H', ⟨by first | omega | exact Nat.le_refl _⟩, ⟨by repeat (first | (with_reducible first | exact HB.out | apply below_alloc | apply pw_below_drewN | apply below_drew1) | exact HB.out)⟩⟩
  case rest =>
    clear HC3
    try clear p2
    try clear c4
    try clear c5
    try clear c6
    try clear c6b0
    try clear c6b1
    obtain ⟨kq, x20_2, rfl, HA, HJ2, HB⟩ := hcut
    cases kq with
    | zero => exact absurd HA.out (by simp [demonlaw2_LempelParse.j0])
    | succ kj2 =>
      have H := HA.out
      clear HA
      simp only [demonlaw2_LempelParse.j0] at H
      by_cases c7 : x20_2 = true
      · subst c7
        have H1 : (some t133) = some r := by rw [if_pos rfl] at H; exact H
        clear H
        have H := H1
        clear H1
        obtain rfl := Option.some.inj H
        go_wp2
        repeat (go_quiet (fail); try go_wp2)
        go_ret
        exact ⟨by first | rfl | (simp [errW_none, errW_some] <;> rfl) | (simp [*, errW_none, errW_some] <;> rfl), by repeat (first | (with_reducible first | exact HB.out | apply below_alloc | apply pw_below_drewN | apply below_drew1) | exact HB.out)⟩
      · replace c7 := Bool.eq_false_iff.mpr c7
        subst c7
        have H1 : ((lempel_Parse.f kj2 a0).bind fun bt134 => (if (a0.size : Int) > 4000 then (none) else ((PLempelParse.demonref2_ParseOf.f kj2 a0).bind fun t138 => (if bt134.2.isNone = true then (demonlaw2_LempelParse.j1 kj2 bt134.1 t138 ((bt134.1.length : Int) != (t138.length : Int))) else (demonlaw2_LempelParse.j1 kj2 bt134.1 t138 true))))) = some r := by rw [if_neg (show ¬ (false = true) by decide)] at H; exact H
        clear H
        have H := H1
        clear H1
        replace H := Option.bind_eq_some_iff.mp H
        obtain ⟨⟨t134, t135⟩, A80, H⟩ := H
        replace H : (if (a0.size : Int) > 4000 then (none) else ((PLempelParse.demonref2_ParseOf.f kj2 a0).bind fun t138 => (if t135.isNone = true then (demonlaw2_LempelParse.j1 kj2 t134 t138 ((t134.length : Int) != (t138.length : Int))) else (demonlaw2_LempelParse.j1 kj2 t134 t138 true)))) = some r := H
        have A8 := Aside0.mk A80
        clear A80
        by_cases c9 : (a0.size : Int) > 4000
        · rw [if_pos c9] at H
          exact absurd H (by simp)
        · rw [if_neg c9] at H
          have c9b0 : decide (4000 < (a0.size : Int)) = false := decide_eq_false c9
          have c9b1 : decide (4000 < a0.size) = false := decide_eq_false (by omega)
          clear c9
          replace H := Option.bind_eq_some_iff.mp H
          obtain ⟨t138, A100, H⟩ := H
          replace H : (if t135.isNone = true then (demonlaw2_LempelParse.j1 kj2 t134 t138 ((t134.length : Int) != (t138.length : Int))) else (demonlaw2_LempelParse.j1 kj2 t134 t138 true)) = some r := H
          have A10 := Aside0.mk A100
          clear A100
          have HC11 := Aside0.mk H
          clear H
          go_upto_region 8 with (first | (go_at_call 9; (with_reducible refine (lempel_Parse.calls kj2 a0 t134 t135 _ A8.out).mono ?_); rintro e w12 ⟨v136, rfl, ho0, hb⟩; have n0_ := Aside0.mk (Kd.R_lower ho0 (below_size (by repeat (first | (with_reducible first | exact HB.out | apply below_alloc | apply pw_below_drewN | apply below_drew1) | exact HB.out)))); have n1_ := Aside0.mk (below_step (by repeat (first | (with_reducible first | exact HB.out | apply below_alloc | apply pw_below_drewN | apply below_drew1) | exact HB.out)) hb); clear HB; have HO137 := n0_; have HB := n1_; clear n0_ n1_; (try clear hb); (try clear hb2); (try clear hk); (try clear hi); (try clear ho0); (try simp only [errW_none, errW_some])) | (go_at_call 14; (with_reducible refine (PLempelParse.demonref2_ParseOf.calls kj2 a0 t138 _ A10.out).mono ?_); rintro e w13 ⟨v139, rfl, ho0, hb⟩; have n0_ := Aside0.mk (Kd.R_below (by (with_reducible repeat (first | apply Kd.R_alloc | apply Kd.R_drewN | apply Kd.R_drew)); exact HO137.out) hb); have n1_ := Aside0.mk (Kd.R_lower ho0 (below_size (by repeat (first | (with_reducible first | exact HB.out | apply below_alloc | apply pw_below_drewN | apply below_drew1) | exact HB.out)))); have n2_ := Aside0.mk (below_step (by repeat (first | (with_reducible first | exact HB.out | apply below_alloc | apply pw_below_drewN | apply below_drew1) | exact HB.out)) hb); clear HO137; clear HB; have HO137 := n0_; have HO140 := n1_; have HB := n2_; clear n0_ n1_ n2_; (try clear hb); (try clear hb2); (try clear hk); (try clear hi); (try clear ho0)))
          repeat (go_quiet (first | (go_at_call 9; (with_reducible refine (lempel_Parse.calls kj2 a0 t134 t135 _ A8.out).mono ?_); rintro e w12 ⟨v136, rfl, ho0, hb⟩; have n0_ := Aside0.mk (Kd.R_lower ho0 (below_size (by repeat (first | (with_reducible first | exact HB.out | apply below_alloc | apply pw_below_drewN | apply below_drew1) | exact HB.out)))); have n1_ := Aside0.mk (below_step (by repeat (first | (with_reducible first | exact HB.out | apply below_alloc | apply pw_below_drewN | apply below_drew1) | exact HB.out)) hb); clear HB; have HO137 := n0_; have HB := n1_; clear n0_ n1_; (try clear hb); (try clear hb2); (try clear hk); (try clear hi); (try clear ho0); (try simp only [errW_none, errW_some])) | (go_at_call 14; (with_reducible refine (PLempelParse.demonref2_ParseOf.calls kj2 a0 t138 _ A10.out).mono ?_); rintro e w13 ⟨v139, rfl, ho0, hb⟩; have n0_ := Aside0.mk (Kd.R_below (by (with_reducible repeat (first | apply Kd.R_alloc | apply Kd.R_drewN | apply Kd.R_drew)); exact HO137.out) hb); have n1_ := Aside0.mk (Kd.R_lower ho0 (below_size (by repeat (first | (with_reducible first | exact HB.out | apply below_alloc | apply pw_below_drewN | apply below_drew1) | exact HB.out)))); have n2_ := Aside0.mk (below_step (by repeat (first | (with_reducible first | exact HB.out | apply below_alloc | apply pw_below_drewN | apply below_drew1) | exact HB.out)) hb); clear HO137; clear HB; have HO137 := n0_; have HO140 := n1_; have HB := n2_; clear n0_ n1_ n2_; (try clear hb); (try clear hb2); (try clear hk); (try clear hi); (try clear ho0))); go_upto_region 8 with (first | (go_at_call 9; (with_reducible refine (lempel_Parse.calls kj2 a0 t134 t135 _ A8.out).mono ?_); rintro e w12 ⟨v136, rfl, ho0, hb⟩; have n0_ := Aside0.mk (Kd.R_lower ho0 (below_size (by repeat (first | (with_reducible first | exact HB.out | apply below_alloc | apply pw_below_drewN | apply below_drew1) | exact HB.out)))); have n1_ := Aside0.mk (below_step (by repeat (first | (with_reducible first | exact HB.out | apply below_alloc | apply pw_below_drewN | apply below_drew1) | exact HB.out)) hb); clear HB; have HO137 := n0_; have HB := n1_; clear n0_ n1_; (try clear hb); (try clear hb2); (try clear hk); (try clear hi); (try clear ho0); (try simp only [errW_none, errW_some])) | (go_at_call 14; (with_reducible refine (PLempelParse.demonref2_ParseOf.calls kj2 a0 t138 _ A10.out).mono ?_); rintro e w13 ⟨v139, rfl, ho0, hb⟩; have n0_ := Aside0.mk (Kd.R_below (by (with_reducible repeat (first | apply Kd.R_alloc | apply Kd.R_drewN | apply Kd.R_drew)); exact HO137.out) hb); have n1_ := Aside0.mk (Kd.R_lower ho0 (below_size (by repeat (first | (with_reducible first | exact HB.out | apply below_alloc | apply pw_below_drewN | apply below_drew1) | exact HB.out)))); have n2_ := Aside0.mk (below_step (by repeat (first | (with_reducible first | exact HB.out | apply below_alloc | apply pw_below_drewN | apply below_drew1) | exact HB.out)) hb); clear HO137; clear HB; have HO137 := n0_; have HO140 := n1_; have HB := n2_; clear n0_ n1_ n2_; (try clear hb); (try clear hb2); (try clear hk); (try clear hi); (try clear ho0))))
          (try simp only [Act.put, List.setIfInBounds_toArray, List.set_cons_zero, List.set_cons_succ])
          go_cut [47] (fun v47 wc => ∃ (kq : Nat) (x47_10 : Bool), v47 = .bool x47_10 ∧ Aside0 (demonlaw2_LempelParse.j1 kq t134 t138 x47_10 = some r) ∧ Aside0 (kq ≤ kj2) ∧ Aside0 (Kd.R k31 31 wc w.heap.size (fun _ => True) v136 t134) ∧ Aside0 (Kd.R PLempelParse.k40 40 wc w.heap.size (fun _ => True) v139 t138) ∧ Aside0 (Below w.heap.size w wc))
          case first =>
            have H := HC11.out
            clear HC11
            rcases t135 with _ | q141
            · have H1 : (demonlaw2_LempelParse.j1 kj2 t134 t138 ((t134.length : Int) != (t138.length : Int))) = some r := by rw [if_pos (show (none : Option Int).isNone = true by rfl)] at H; exact H
              clear H
              have H := H1
              clear H1
              try simp only [errW_none, errW_some]
              have H' := Aside0.mk H
              clear H
              obtain ⟨Ao14, co14, eo14⟩ := Kd.R_slice HO137.out
              subst eo14
              obtain ⟨Ao15, co15, eo15⟩ := Kd.R_slice HO140.out
              subst eo15
              go_wp2
              repeat (go_quiet (fail); try go_wp2)
              go_meet
              case rel => exact ⟨_, (((t134.length : Int) != (t138.length : Int))), (by first | rfl | (simp; done) | (simp [*]; done)), H', ⟨by have := HJ2.out; first | omega | exact Nat.le_refl _⟩, ⟨by (with_reducible repeat (first | apply Kd.R_alloc | apply Kd.R_drewN | apply Kd.R_drew)); exact HO137.out⟩, ⟨by (with_reducible repeat (first | apply Kd.R_alloc | apply Kd.R_drewN | apply Kd.R_drew)); exact HO140.out⟩, ⟨by repeat (first | (with_reducible first | exact HB.out | apply below_alloc | apply pw_below_drewN | apply below_drew1) | exact HB.out)⟩⟩
            · have H1 : (demonlaw2_LempelParse.j1 kj2 t134 t138 true) = some r := by rw [if_neg (show ¬ (some q141).isNone = true by simp)] at H; exact H
              clear H
              have H := H1
              clear H1
              try simp only [errW_none, errW_some]
              have H' := Aside0.mk H
              clear H
              go_wp2
              repeat (go_quiet (fail); try go_wp2)
              go_meet
              case rel => exact ⟨_, (true), (by first | rfl | (simp; done) | (simp [*]; done)), H', ⟨by have := HJ2.out; first | omega | exact Nat.le_refl _⟩, ⟨by (with_reducible repeat (first | apply Kd.R_alloc | apply Kd.R_drewN | apply Kd.R_drew)); exact HO137.out⟩, ⟨by (with_reducible repeat (first | apply Kd.R_alloc | apply Kd.R_drewN | apply Kd.R_drew)); exact HO140.out⟩, ⟨by repeat (first | (with_reducible first | exact HB.out | apply below_alloc | apply pw_below_drewN | apply below_drew1) | exact HB.out)⟩⟩
          case rest =>
            clear HC11
            try clear q1
            try clear p2
            try clear c4
            try clear c5
            try clear c6
            try clear c6b0
            try clear c6b1
            try clear c7
            try clear c9
            try clear c9b0
            try clear c9b1
            try clear q14
            try clear p2
            try clear q141
            obtain ⟨kq, x47_10, rfl, HA, HJ10, HO_4, HO_6, HB⟩ := hcut
            cases kq with
            | zero => exact absurd HA.out (by simp [demonlaw2_LempelParse.j1])
            | succ kj10 =>
              have H := HA.out
              clear HA
              simp only [demonlaw2_LempelParse.j1] at H
              by_cases c16 : x47_10 = true
              · subst c16
                have H1 : (some false) = some r := by rw [if_pos rfl] at H; exact H
                clear H
                have H := H1
                clear H1
                obtain rfl := Option.some.inj H
                go_wp2
                repeat (go_quiet (fail); try go_wp2)
                go_ret
                exact ⟨by first | rfl | (simp [errW_none, errW_some] <;> rfl) | (simp [*, errW_none, errW_some] <;> rfl), by repeat (first | (with_reducible first | exact HB.out | apply below_alloc | apply pw_below_drewN | apply below_drew1) | exact HB.out)⟩
              · replace c16 := Bool.eq_false_iff.mpr c16
                subst c16
                have H1 : (demonlaw2_LempelParse.l0 kj10 t134 t138 0) = some r := by rw [if_neg (show ¬ (false = true) by decide)] at H; exact H
                clear H
                have H := H1
                clear H1
                have H' := Aside0.mk H
                clear H
                go_wp2
                repeat (go_quiet (fail); try go_wp2)
                go_loopg [7] kj10 (fun kq v7 w' => ∃ (x7_3 : Int), v7 = .int .i64 x7_3 ∧ Aside0 (demonlaw2_LempelParse.l0 kq t134 t138 x7_3 = some r) ∧ Aside0 (kq ≤ kj10) ∧ Aside0 (Kd.R k31 31 w' w.heap.size (fun _ => True) v136 t134) ∧ Aside0 (Kd.R PLempelParse.k40 40 w' w.heap.size (fun _ => True) v139 t138) ∧ Aside0 (Below w.heap.size w w'))
                case atStart => exact ⟨(0), (by first | rfl | (simp; done) | (simp [*]; done)), H', ⟨Nat.le_refl _⟩, ⟨by (with_reducible repeat (first | apply Kd.R_alloc | apply Kd.R_drewN | apply Kd.R_drew)); exact HO_4.out⟩, ⟨by (with_reducible repeat (first | apply Kd.R_alloc | apply Kd.R_drewN | apply Kd.R_drew)); exact HO_6.out⟩, ⟨by repeat (first | (with_reducible first | exact HB.out | apply below_alloc | apply pw_below_drewN | apply below_drew1) | exact HB.out)⟩⟩
                case round =>
                  clear H'
                  try clear c1
                  try clear q1
                  try clear p2
                  try clear c4
                  try clear c5
                  try clear c6
                  try clear c6b0
                  try clear c6b1
                  try clear c7
                  try clear c9
                  try clear c9b0
                  try clear c9b1
                  try clear q14
                  try clear c16
                  try clear p2
                  try clear q1
                  try clear q14
                  try clear q141
                  obtain ⟨x7_3, rfl, HA, HK3, HO_4, HO_6, HB⟩ := hrel
                  cases gk with
                  | zero => exact absurd HA.out (by simp [demonlaw2_LempelParse.l0])
                  | succ k3 =>
                    have H := HA.out
                    clear HA
                    simp only [demonlaw2_LempelParse.l0] at H
                    by_cases c17 : x7_3 < (t134.length : Int)
                    · rw [if_pos c17] at H
                      have c17b0 : decide (x7_3 < (t134.length : Int)) = true := decide_eq_true c17
                      clear c17
                      by_cases c18 : 0 ≤ x7_3
                      · rw [if_pos c18] at H
                        have c18b0 : decide (0 ≤ x7_3) = true := decide_eq_true c18
                        clear c18
                        by_cases c19 : x7_3 < (t138.length : Int)
                        · rw [if_pos c19] at H
                          have c19b0 : decide (x7_3 < (t138.length : Int)) = true := decide_eq_true c19
                          clear c19
                          by_cases c20 : ((rd_T31 t134 x7_3).f0) = ((PLempelParse.rd_T40 t138 x7_3).f0)
                          · rw [if_pos c20] at H
                            have c20b0 : (((rd_T31 t134 x7_3).f0) == ((PLempelParse.rd_T40 t138 x7_3).f0)) = true := beq_iff_eq.mpr c20
                            have c20b1 : (((rd_T31 t134 x7_3).f0) != ((PLempelParse.rd_T40 t138 x7_3).f0)) = false := bne_eq_false_iff_eq.mpr c20
                            clear c20
                            by_cases c21 : ((rd_T31 t134 x7_3).f1) = ((PLempelParse.rd_T40 t138 x7_3).f1)
                            · rw [if_pos c21] at H
                              have c21b0 : (((rd_T31 t134 x7_3).f1) == ((PLempelParse.rd_T40 t138 x7_3).f1)) = true := beq_iff_eq.mpr c21
                              have c21b1 : (((rd_T31 t134 x7_3).f1) != ((PLempelParse.rd_T40 t138 x7_3).f1)) = false := bne_eq_false_iff_eq.mpr c21
                              clear c21
                              by_cases c22 : (((rd_T31 t134 x7_3).f2) != ((PLempelParse.rd_T40 t138 x7_3).f2)) = true
                              · rw [if_pos c22] at H
                                have c22b0 : (((rd_T31 t134 x7_3).f2) != ((PLempelParse.rd_T40 t138 x7_3).f2)) = true := c22
                                (try (have c22b1 : decide (((rd_T31 t134 x7_3).f2) = ((PLempelParse.rd_T40 t138 x7_3).f2)) = false := by simpa using c22))
                                (try (have c22b2 : (((rd_T31 t134 x7_3).f2) == ((PLempelParse.rd_T40 t138 x7_3).f2)) = false := by simpa using c22))
                                (try (have c22b3 : ¬ (((rd_T31 t134 x7_3).f2) = ((PLempelParse.rd_T40 t138 x7_3).f2)) := by simpa using c22))
                                clear c22
                                obtain rfl := Option.some.inj H
                                obtain ⟨Ao23, co23, eo23⟩ := Kd.R_slice HO_4.out
                                subst eo23
                                have p142 : 0 ≤ (x7_3 : Int) := of_decide_eq_true (by first | (with_reducible assumption) | assumption)
                                have q142 : x7_3 < (t134.length : Int) := of_decide_eq_true (by first | (with_reducible assumption) | assumption)
                                obtain ⟨ad142, e142, hx142_0, hx142_1, hx142_2⟩ := at_T31 (Kd.R_reads' HO_4.out).2.2 x7_3 p142 q142
                                cases e142
                                replace p142 := eq_true p142
                                replace q142 := eq_true q142
                                obtain ⟨Ao24, co24, eo24⟩ := Kd.R_slice HO_6.out
                                subst eo24
                                have p143 : 0 ≤ (x7_3 : Int) := of_decide_eq_true (by first | (with_reducible assumption) | assumption)
                                have q143 : x7_3 < (t138.length : Int) := of_decide_eq_true (by first | (with_reducible assumption) | assumption)
                                obtain ⟨ad143, e143, hx143_0, hx143_1, hx143_2⟩ := PLempelParse.at_T40 (Kd.R_reads' HO_6.out).2.2 x7_3 p143 q143
                                cases e143
                                replace p143 := eq_true p143
                                replace q143 := eq_true q143
                                have p144 : 0 ≤ (x7_3 : Int) := of_decide_eq_true (by first | (with_reducible assumption) | assumption)
                                have q144 : x7_3 < (t134.length : Int) := of_decide_eq_true (by first | (with_reducible assumption) | assumption)
                                obtain ⟨ad144, e144, hx144_0, hx144_1, hx144_2⟩ := at_T31 (Kd.R_reads' HO_4.out).2.2 x7_3 p144 q144
                                obtain rfl : ad142 = ad144 := (by injection e144)
                                replace p144 := eq_true p144
                                replace q144 := eq_true q144
                                have p145 : 0 ≤ (x7_3 : Int) := of_decide_eq_true (by first | (with_reducible assumption) | assumption)
                                have q145 : x7_3 < (t138.length : Int) := of_decide_eq_true (by first | (with_reducible assumption) | assumption)
                                obtain ⟨ad145, e145, hx145_0, hx145_1, hx145_2⟩ := PLempelParse.at_T40 (Kd.R_reads' HO_6.out).2.2 x7_3 p145 q145
                                obtain rfl : ad143 = ad145 := (by injection e145)
                                replace p145 := eq_true p145
                                replace q145 := eq_true q145
                                have p146 : 0 ≤ (x7_3 : Int) := of_decide_eq_true (by first | (with_reducible assumption) | assumption)
                                have q146 : x7_3 < (t134.length : Int) := of_decide_eq_true (by first | (with_reducible assumption) | assumption)
                                obtain ⟨ad146, e146, hx146_0, hx146_1, hx146_2⟩ := at_T31 (Kd.R_reads' HO_4.out).2.2 x7_3 p146 q146
                                obtain rfl : ad142 = ad146 := (by injection e146)
                                replace p146 := eq_true p146
                                replace q146 := eq_true q146
                                have p147 : 0 ≤ (x7_3 : Int) := of_decide_eq_true (by first | (with_reducible assumption) | assumption)
                                have q147 : x7_3 < (t138.length : Int) := of_decide_eq_true (by first | (with_reducible assumption) | assumption)
                                obtain ⟨ad147, e147, hx147_0, hx147_1, hx147_2⟩ := PLempelParse.at_T40 (Kd.R_reads' HO_6.out).2.2 x7_3 p147 q147
                                obtain rfl : ad143 = ad147 := (by injection e147)
                                replace p147 := eq_true p147
                                replace q147 := eq_true q147
                                go_wp2
                                repeat (go_quiet (fail); try go_wp2)
                                go_ret
                                exact ⟨by first | rfl | (simp [errW_none, errW_some] <;> rfl) | (simp [*, errW_none, errW_some] <;> rfl), by repeat (first | (with_reducible first | exact HB.out | apply below_alloc | apply pw_below_drewN | apply below_drew1) | exact HB.out)⟩
                              · rw [if_neg c22] at H
                                have c22b0 : (((rd_T31 t134 x7_3).f2) != ((PLempelParse.rd_T40 t138 x7_3).f2)) = false := by simpa using c22
                                (try (have c22b1 : decide (((rd_T31 t134 x7_3).f2) = ((PLempelParse.rd_T40 t138 x7_3).f2)) = true := by simpa using c22))
                                (try (have c22b2 : (((rd_T31 t134 x7_3).f2) == ((PLempelParse.rd_T40 t138 x7_3).f2)) = true := by simpa using c22))
                                clear c22
                                have H' := Aside0.mk H
                                clear H
                                obtain ⟨Ao25, co25, eo25⟩ := Kd.R_slice HO_4.out
                                subst eo25
                                have p142 : 0 ≤ (x7_3 : Int) := of_decide_eq_true (by first | (with_reducible assumption) | assumption)
                                have q142 : x7_3 < (t134.length : Int) := of_decide_eq_true (by first | (with_reducible assumption) | assumption)
                                obtain ⟨ad142, e142, hx142_0, hx142_1, hx142_2⟩ := at_T31 (Kd.R_reads' HO_4.out).2.2 x7_3 p142 q142
                                cases e142
                                replace p142 := eq_true p142
                                replace q142 := eq_true q142
                                obtain ⟨Ao26, co26, eo26⟩ := Kd.R_slice HO_6.out
                                subst eo26
                                have p143 : 0 ≤ (x7_3 : Int) := of_decide_eq_true (by first | (with_reducible assumption) | assumption)
                                have q143 : x7_3 < (t138.length : Int) := of_decide_eq_true (by first | (with_reducible assumption) | assumption)
                                obtain ⟨ad143, e143, hx143_0, hx143_1, hx143_2⟩ := PLempelParse.at_T40 (Kd.R_reads' HO_6.out).2.2 x7_3 p143 q143
                                cases e143
                                replace p143 := eq_true p143
                                replace q143 := eq_true q143
                                have p144 : 0 ≤ (x7_3 : Int) := of_decide_eq_true (by first | (with_reducible assumption) | assumption)
                                have q144 : x7_3 < (t134.length : Int) := of_decide_eq_true (by first | (with_reducible assumption) | assumption)
                                obtain ⟨ad144, e144, hx144_0, hx144_1, hx144_2⟩ := at_T31 (Kd.R_reads' HO_4.out).2.2 x7_3 p144 q144
                                obtain rfl : ad142 = ad144 := (by injection e144)
                                replace p144 := eq_true p144
                                replace q144 := eq_true q144
                                have p145 : 0 ≤ (x7_3 : Int) := of_decide_eq_true (by first | (with_reducible assumption) | assumption)
                                have q145 : x7_3 < (t138.length : Int) := of_decide_eq_true (by first | (with_reducible assumption) | assumption)
                                obtain ⟨ad145, e145, hx145_0, hx145_1, hx145_2⟩ := PLempelParse.at_T40 (Kd.R_reads' HO_6.out).2.2 x7_3 p145 q145
                                obtain rfl : ad143 = ad145 := (by injection e145)
                                replace p145 := eq_true p145
                                replace q145 := eq_true q145
                                have p146 : 0 ≤ (x7_3 : Int) := of_decide_eq_true (by first | (with_reducible assumption) | assumption)
                                have q146 : x7_3 < (t134.length : Int) := of_decide_eq_true (by first | (with_reducible assumption) | assumption)
                                obtain ⟨ad146, e146, hx146_0, hx146_1, hx146_2⟩ := at_T31 (Kd.R_reads' HO_4.out).2.2 x7_3 p146 q146
                                obtain rfl : ad142 = ad146 := (by injection e146)
                                replace p146 := eq_true p146
                                replace q146 := eq_true q146
                                have p147 : 0 ≤ (x7_3 : Int) := of_decide_eq_true (by first | (with_reducible assumption) | assumption)
                                have q147 : x7_3 < (t138.length : Int) := of_decide_eq_true (by first | (with_reducible assumption) | assumption)
                                obtain ⟨ad147, e147, hx147_0, hx147_1, hx147_2⟩ := PLempelParse.at_T40 (Kd.R_reads' HO_6.out).2.2 x7_3 p147 q147
                                obtain rfl : ad143 = ad147 := (by injection e147)
                                replace p147 := eq_true p147
                                replace q147 := eq_true q147
                                go_wp2
                                repeat (go_quiet (fail); try go_wp2)
                                go_roundg k3
                                case measure => have := HJ2.out; have := HJ10.out; have := HK3.out; omega
                                case rel => exact ⟨(wrap64 (x7_3 + 1)), (by first | rfl | (simp; done) | (simp [*]; done)), H', ⟨by have := HJ2.out; have := HJ10.out; have := HK3.out; omega⟩, ⟨by (with_reducible repeat (first | apply Kd.R_alloc | apply Kd.R_drewN | apply Kd.R_drew)); exact HO_4.out⟩, ⟨by (with_reducible repeat (first | apply Kd.R_alloc | apply Kd.R_drewN | apply Kd.R_drew)); exact HO_6.out⟩, ⟨by repeat (first | (with_reducible first | exact HB.out | apply below_alloc | apply pw_below_drewN | apply below_drew1) | exact HB.out)⟩⟩
                            · rw [if_neg c21] at H
                              have c21b0 : (((rd_T31 t134 x7_3).f1) == ((PLempelParse.rd_T40 t138 x7_3).f1)) = false := beq_eq_false_iff_ne.mpr c21
                              have c21b1 : (((rd_T31 t134 x7_3).f1) != ((PLempelParse.rd_T40 t138 x7_3).f1)) = true := bne_iff_ne.mpr c21
                              obtain rfl := Option.some.inj H
                              obtain ⟨Ao27, co27, eo27⟩ := Kd.R_slice HO_4.out
                              subst eo27
                              have p142 : 0 ≤ (x7_3 : Int) := of_decide_eq_true (by first | (with_reducible assumption) | assumption)
                              have q142 : x7_3 < (t134.length : Int) := of_decide_eq_true (by first | (with_reducible assumption) | assumption)
                              obtain ⟨ad142, e142, hx142_0, hx142_1, hx142_2⟩ := at_T31 (Kd.R_reads' HO_4.out).2.2 x7_3 p142 q142
                              cases e142
                              replace p142 := eq_true p142
                              replace q142 := eq_true q142
                              obtain ⟨Ao28, co28, eo28⟩ := Kd.R_slice HO_6.out
                              subst eo28
                              have p143 : 0 ≤ (x7_3 : Int) := of_decide_eq_true (by first | (with_reducible assumption) | assumption)
                              have q143 : x7_3 < (t138.length : Int) := of_decide_eq_true (by first | (with_reducible assumption) | assumption)
                              obtain ⟨ad143, e143, hx143_0, hx143_1, hx143_2⟩ := PLempelParse.at_T40 (Kd.R_reads' HO_6.out).2.2 x7_3 p143 q143
                              cases e143
                              replace p143 := eq_true p143
                              replace q143 := eq_true q143
                              have p144 : 0 ≤ (x7_3 : Int) := of_decide_eq_true (by first | (with_reducible assumption) | assumption)
                              have q144 : x7_3 < (t134.length : Int) := of_decide_eq_true (by first | (with_reducible assumption) | assumption)
                              obtain ⟨ad144, e144, hx144_0, hx144_1, hx144_2⟩ := at_T31 (Kd.R_reads' HO_4.out).2.2 x7_3 p144 q144
                              obtain rfl : ad142 = ad144 := (by injection e144)
                              replace p144 := eq_true p144
                              replace q144 := eq_true q144
                              have p145 : 0 ≤ (x7_3 : Int) := of_decide_eq_true (by first | (with_reducible assumption) | assumption)
                              have q145 : x7_3 < (t138.length : Int) := of_decide_eq_true (by first | (with_reducible assumption) | assumption)
                              obtain ⟨ad145, e145, hx145_0, hx145_1, hx145_2⟩ := PLempelParse.at_T40 (Kd.R_reads' HO_6.out).2.2 x7_3 p145 q145
                              obtain rfl : ad143 = ad145 := (by injection e145)
                              replace p145 := eq_true p145
                              replace q145 := eq_true q145
                              go_wp2
                              repeat (go_quiet (fail); try go_wp2)
                              go_ret
                              exact ⟨by first | rfl | (simp [errW_none, errW_some] <;> rfl) | (simp [*, errW_none, errW_some] <;> rfl), by repeat (first | (with_reducible first | exact HB.out | apply below_alloc | apply pw_below_drewN | apply below_drew1) | exact HB.out)⟩
                          · rw [if_neg c20] at H
                            have c20b0 : (((rd_T31 t134 x7_3).f0) == ((PLempelParse.rd_T40 t138 x7_3).f0)) = false := beq_eq_false_iff_ne.mpr c20
                            have c20b1 : (((rd_T31 t134 x7_3).f0) != ((PLempelParse.rd_T40 t138 x7_3).f0)) = true := bne_iff_ne.mpr c20
                            obtain rfl := Option.some.inj H
                            obtain ⟨Ao29, co29, eo29⟩ := Kd.R_slice HO_4.out
                            subst eo29
                            have p142 : 0 ≤ (x7_3 : Int) := of_decide_eq_true (by first | (with_reducible assumption) | assumption)
                            have q142 : x7_3 < (t134.length : Int) := of_decide_eq_true (by first | (with_reducible assumption) | assumption)
                            obtain ⟨ad142, e142, hx142_0, hx142_1, hx142_2⟩ := at_T31 (Kd.R_reads' HO_4.out).2.2 x7_3 p142 q142
                            cases e142
                            replace p142 := eq_true p142
                            replace q142 := eq_true q142
                            obtain ⟨Ao30, co30, eo30⟩ := Kd.R_slice HO_6.out
                            subst eo30
                            have p143 : 0 ≤ (x7_3 : Int) := of_decide_eq_true (by first | (with_reducible assumption) | assumption)
                            have q143 : x7_3 < (t138.length : Int) := of_decide_eq_true (by first | (with_reducible assumption) | assumption)
                            obtain ⟨ad143, e143, hx143_0, hx143_1, hx143_2⟩ := PLempelParse.at_T40 (Kd.R_reads' HO_6.out).2.2 x7_3 p143 q143
                            cases e143
                            replace p143 := eq_true p143
                            replace q143 := eq_true q143
                            go_wp2
                            repeat (go_quiet (fail); try go_wp2)
                            go_ret
                            exact ⟨by first | rfl | (simp [errW_none, errW_some] <;> rfl) | (simp [*, errW_none, errW_some] <;> rfl), by repeat (first | (with_reducible first | exact HB.out | apply below_alloc | apply pw_below_drewN | apply below_drew1) | exact HB.out)⟩
                        · rw [if_neg c19] at H
                          exact absurd H (by simp)
                      · rw [if_neg c18] at H
                        exact absurd H (by simp)
                    · rw [if_neg c17] at H
                      have c17b0 : decide (x7_3 < (t134.length : Int)) = false := decide_eq_false c17
                      clear c17
                      obtain rfl := Option.some.inj H
                      obtain ⟨Ao31, co31, eo31⟩ := Kd.R_slice HO_4.out
                      subst eo31
                      go_wp2
                      repeat (go_quiet (fail); try go_wp2)
                      go_ret
                      exact ⟨by first | rfl | (simp [errW_none, errW_some] <;> rfl) | (simp [*, errW_none, errW_some] <;> rfl), by repeat (first | (with_reducible first | exact HB.out | apply below_alloc | apply pw_below_drewN | apply below_drew1) | exact HB.out)⟩

/-- THE ONE PURE STATEMENT of demonlaw2_LempelParse: yours. -/
def demonlaw2_LempelParse.Pure : Prop := ∀ (a0 : ByteArray), a0.size ≤ 140737488351232 → ∃ k, demonlaw2_LempelParse.f k a0 = some true
theorem demonlaw2_LempelParse.walk (P : demonlaw2_LempelParse.Pure) (a0 : ByteArray) (w : World) (w0 : a0.size ≤ 140737488351232) :
    Calls Tryd.prog 4 #[.string a0] w fun e w' => e = .returned (.bool true) ∧ Below w.heap.size w w' := by
  obtain ⟨k, h⟩ := P a0 w0
  refine (demonlaw2_LempelParse.calls k a0 true w h).mono ?_
  rintro e w' ⟨rfl, hd⟩
  exact ⟨rfl, hd⟩

end Go.Proofs.YtaonemghafoolaaDoor.V
