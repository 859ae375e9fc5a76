-- scratch print
import Derived.Test.YtaonemghafoolaaDoorQ0
import Derived.Test.YtaonemghafoolaaDoorMp
import Derived.Test.YtaonemghafoolaaDoorQ1
namespace Go.Proofs.YtaonemghafoolaaDoor.Q
open Go.RowKit Go.Proofs.YtaonemghafoolaaDoorW.PrintWords Go.Proofs.YtaonemghafoolaaDoorW.PrintLast Go.Proofs.YtaonemghafoolaaDoorW.PrintMore
attribute [local go_sem] max2_int min2_int max_two min_two max_three min_three max_four min_four   -- for this text's walks alone
open Go.Proofs.YtaonemghafoolaaDoor.Mp (kHas kAt kPut kNil)
set_option linter.unusedVariables false
set_option linter.unusedSimpArgs false

attribute [local go_sem high] eqA31
/-! ### lempel_Parse: function 9 -/
mutual
def lempel_Parse.l0 : Nat → ByteArray → DataW Unit → List (S31) → Option ((List (S31)) × Option Int)
  | 0, _, _, _ => none
  | k + 1, x0, x4, x5 => if x0.toList = ([] : List UInt8) then (some (x5, none)) else (lempel_Parse.l1 k x0 x4 x5 0)
def lempel_Parse.l1 : Nat → ByteArray → DataW Unit → List (S31) → Int → Option ((List (S31)) × Option Int)
  | 0, _, _, _, _ => none
  | k + 1, x0, x4, x5, x6 => if x6 < (x0.size : Int) then (if 0 ≤ (wrap64 (x6 + 1)) then (if (wrap64 (x6 + 1)) ≤ (x0.size : Int) then (if ((kHas x4 (x0.extract 0 ((wrap64 (x6 + 1)) : Int).toNat)) = true) then (lempel_Parse.l1 k x0 x4 x5 (wrap64 (x6 + 1))) else (if x6 = (x0.size : Int) then (if x5.length < 8796093022208 then (some ((x5 ++ [(⟨kAt x4 x0, 0, true⟩ : S31)]), none)) else (none)) else (if 0 ≤ x6 then (if x6 ≤ (x0.size : Int) then (if x5.length < 8796093022208 then ((some (x5 ++ [(⟨kAt x4 (x0.extract 0 (x6 : Int).toNat), bt x0 x6, false⟩ : S31)] : List (S31))).bind fun y104 => (lempel_Parse.l0 k (x0.extract ((wrap64 (x6 + 1)) : Int).toNat x0.size) (kPut x4 (x0.extract 0 ((wrap64 (x6 + 1)) : Int).toNat) (y104.length : Int)) y104)) else (none)) else (none)) else (none)))) else (none)) else (none)) else (if x6 = (x0.size : Int) then (if x5.length < 8796093022208 then (some ((x5 ++ [(⟨kAt x4 x0, 0, true⟩ : S31)]), none)) else (none)) else (if 0 ≤ x6 then (if x6 ≤ (x0.size : Int) then (none) else (none)) else (none)))
end
def lempel_Parse.f (k : Nat) (a0 : ByteArray) : Option ((List (S31)) × Option Int) := if (a0.size : Int) > 4000 then (none) else (lempel_Parse.l0 k a0 kNil ([] : List (S31)))
theorem lempel_Parse.mono_l : ∀ k, (∀ y0 y1 y2, LeO (lempel_Parse.l0 k y0 y1 y2) (lempel_Parse.l0 (k + 1) y0 y1 y2)) ∧ (∀ y0 y1 y2 y3, LeO (lempel_Parse.l1 k y0 y1 y2 y3) (lempel_Parse.l1 (k + 1) y0 y1 y2 y3))
  | 0 => ⟨fun _ _ _ r h => by simp [lempel_Parse.l0] at h, fun _ _ _ _ r h => by simp [lempel_Parse.l1] at h⟩
  | k + 1 => by
    obtain ⟨ih0, ih1⟩ := lempel_Parse.mono_l k
    refine ⟨?_, ?_⟩
    · intro y0 y1 y2
      unfold lempel_Parse.l0
      repeat' first
      | (with_reducible exact ih0 _ _ _)
      | (with_reducible exact ih1 _ _ _ _)
      | (with_reducible exact LeO.refl _)
      | (with_reducible exact LeO.none _)
      | (with_reducible refine LeO.ite ?_ ?_)
      | (with_reducible refine LeO.bind ?_ (fun _ => ?_))
      | exact ih0 _ _ _
      | exact ih1 _ _ _ _
      | exact LeO.none _
      | refine LeO.ite ?_ ?_
      | refine LeO.bind ?_ (fun _ => ?_)
    · intro y0 y1 y2 y3
      unfold lempel_Parse.l1
      repeat' first
      | (with_reducible exact ih0 _ _ _)
      | (with_reducible exact ih1 _ _ _ _)
      | (with_reducible exact LeO.refl _)
      | (with_reducible exact LeO.none _)
      | (with_reducible refine LeO.ite ?_ ?_)
      | (with_reducible refine LeO.bind ?_ (fun _ => ?_))
      | exact ih0 _ _ _
      | exact ih1 _ _ _ _
      | exact LeO.none _
      | refine LeO.ite ?_ ?_
      | refine LeO.bind ?_ (fun _ => ?_)
theorem lempel_Parse.mono : ∀ a0 k, LeO (lempel_Parse.f k a0) (lempel_Parse.f (k + 1) a0) := by
  intro a0 k
  obtain ⟨ih0, ih1⟩ := lempel_Parse.mono_l k
  unfold lempel_Parse.f
  repeat' first
      | (with_reducible exact ih0 _ _ _)
      | (with_reducible exact ih1 _ _ _ _)
      | (with_reducible exact LeO.refl _)
      | (with_reducible exact LeO.none _)
      | (with_reducible refine LeO.ite ?_ ?_)
      | (with_reducible refine LeO.bind ?_ (fun _ => ?_))
      | exact ih0 _ _ _
      | exact ih1 _ _ _ _
      | exact LeO.none _
      | refine LeO.ite ?_ ?_
      | refine LeO.bind ?_ (fun _ => ?_)
def lempel_Parse.T13 : Bool × List (List Nat × List Nat) := (true, [([], []), ([], []), ([], []), ([], []), ([2, 3], [2, 3]), ([1, 4], [1, 4]), ([], []), ([], []), ([6, 7], [6, 7]), ([5, 8], [5, 8]), ([9], [9]), ([0, 10], [0, 10]), ([11, 11, 0, 1, 2, 3, 4, 5, 6, 7, 8, 9, 10, 11], [0, 11])])
def lempel_Parse.B13 : List Nat := [0, 0, 0, 0, 12, 30, 0, 0, 192, 510, 1022, 2047, 4095]
theorem lempel_Parse.tab13 : rtab .any (opsOf Tryd.f9 13) = lempel_Parse.T13 := by kernel_rfl
theorem lempel_Parse.bits13 : waitsOk lempel_Parse.T13.2 lempel_Parse.B13 = true := by kernel_rfl
set_option maxHeartbeats 8000000 in
set_option maxRecDepth 100000 in
theorem lempel_Parse.calls (k : Nat) (a0 : ByteArray) (r1 : List (S31)) (r2 : Option Int) (w : World) (h : lempel_Parse.f k a0 = some (r1, r2)) :
    Calls Tryd.prog 9 #[.string a0] w fun e w' => ∃ v0_ : Value, e = .returned (.tuple #[v0_, errW r2]) ∧ Kd.R k31 31 w' w.heap.size (fun _ => True) v0_ r1 ∧ Below w.heap.size w w' := by
  have hu31 := Tryd.underlying31
  have HB := Aside0.mk (Below.refl w.heap.size w)
  have H : (if (a0.size : Int) > 4000 then (none) else (lempel_Parse.l0 k a0 kNil ([] : List (S31)))) = some (r1, r2) := h
  clear h
  by_cases c2 : (a0.size : Int) > 4000
  · rw [if_pos c2] at H
    exact absurd H (by simp)
  · rw [if_neg c2] at H
    have c2b0 : decide (4000 < (a0.size : Int)) = false := decide_eq_false c2
    have c2b1 : decide (4000 < a0.size) = false := decide_eq_false (by omega)
    clear c2
    have HS0a := Aside0.mk (show a0.size ≤ 4000 by have z_ := of_decide_eq_false c2b1; omega)
    have H' := Aside0.mk H
    clear H
    go_enter Tryd.func9, Tryd.ntmps9
    go_wp2_with (first | ((with_reducible refine gate_dst (N := 13) rfl ?_); refine Mp.wp_make rfl rfl ?_; intro mb w1_ hmb hm_ hb_; have n0_ := Aside0.mk (below_step (by repeat (first | (with_reducible first | exact HB.out | apply below_alloc | apply pw_below_drewN | apply below_drew1) | exact HB.out)) hb_); have n1_ := Aside0.mk hm_; have n2_ := Aside0.mk ((by rw [hmb]; exact (below_size (by repeat (first | (with_reducible first | exact HB.out | apply below_alloc | apply pw_below_drewN | apply below_drew1) | exact HB.out)))) : w.heap.size ≤ mb); clear HB hmb hm_ hb_; have HB := n0_; have HM := n1_; have GM := n2_; clear n0_ n1_ n2_) | ((with_reducible refine gate_ (Op.insert 56 (.tmp 13) (.const (.string ⟨#[]⟩)) (.const (.int .i64 0))) rfl ?_); refine Mp.wp_insert rfl (.tmp 13) (.const (.string ⟨#[]⟩)) (.const (.int .i64 0)) rfl mb 0 (.map []) ⟨#[]⟩ 0 rfl rfl rfl (by (with_reducible repeat (first | apply Mp.isM_alloc | apply Mp.isM_drewN | apply Mp.isM_drew)); exact HM.out) (by decide) (by decide) (by decide) ?_; intro w2_ hm_ hg_; have n0_ := Aside0.mk (Mp.below_map (by repeat (first | (with_reducible first | exact HB.out | apply below_alloc | apply pw_below_drewN | apply below_drew1) | exact HB.out)) hg_ GM.out); have n1_ := Aside0.mk hm_; clear HB HM hm_ hg_; have HB := n0_; have HM := n1_; clear n0_ n1_))
    go_loopg [0, 5] k (fun kq v0 v5 w' => ∃ (x0_1 : ByteArray) (x4_1 : DataW Unit) (x5_1 : List (S31)), v0 = .string x0_1 ∧ Aside0 (lempel_Parse.l0 kq x0_1 x4_1 x5_1 = some (r1, r2)) ∧ Aside0 (kq ≤ k) ∧ Aside0 (Kd.R k31 31 w' w.heap.size (fun _ => True) v5 x5_1) ∧ Aside0 (Below w.heap.size w w') ∧ Aside0 (Mp.IsM w' mb (x5_1.length + 1) x4_1) ∧ Aside0 (x0_1.size ≤ 4000))
    case atStart => exact ⟨(a0), (kNil), (([] : List (S31))), (by first | rfl | (simp; done) | (simp [*]; done)), H', ⟨Nat.le_refl _⟩, ⟨by first | exact Kd.R_nil _ _ _ _ _ | exact Kd.N_nil _ _ _ _ _ | exact Kd.V_nil _ _ _ _ _ | exact Kd.Q_nil _ _ _ _ _ | exact Kd.S_nil _ _ _ _ _⟩, ⟨by repeat (first | (with_reducible first | exact HB.out | apply below_alloc | apply pw_below_drewN | apply below_drew1) | exact HB.out)⟩, ⟨by (with_reducible repeat (first | apply Mp.isM_alloc | apply Mp.isM_drewN | apply Mp.isM_drew)); exact HM.out⟩, HS0a⟩
    case round =>
      clear H'
      try clear c2
      try clear c2b0
      try clear c2b1
      try clear p2
      obtain ⟨x0_1, x4_1, x5_1, rfl, HA, HK1, HO_5, HB, HM, HS0⟩ := hrel
      cases gk with
      | zero => exact absurd HA.out (by simp [lempel_Parse.l0])
      | succ k1 =>
        have H := HA.out
        clear HA
        simp only [lempel_Parse.l0] at H
        by_cases c3 : x0_1.toList = ([] : List UInt8)
        · rw [if_pos c3] at H
          have c3b0 : (x0_1.toList == ([] : List UInt8)) = true := beq_iff_eq.mpr c3
          have c3b1 : (x0_1.toList != ([] : List UInt8)) = false := bne_eq_false_iff_eq.mpr c3
          clear c3
          simp only [Option.some.injEq, Prod.mk.injEq] at H
          obtain ⟨rfl, rfl⟩ := H
          go_wp2
          go_ret2
          exact ⟨_, by first | rfl | (simp [errW_none, errW_some] <;> rfl) | (simp [*, errW_none, errW_some] <;> rfl), by (with_reducible repeat (first | apply Kd.R_alloc | apply Kd.R_drewN | apply Kd.R_drew)); exact HO_5.out, by repeat (first | (with_reducible first | exact HB.out | apply below_alloc | apply pw_below_drewN | apply below_drew1) | exact HB.out)⟩
        · rw [if_neg c3] at H
          have c3b0 : (x0_1.toList == ([] : List UInt8)) = false := beq_eq_false_iff_ne.mpr c3
          have c3b1 : (x0_1.toList != ([] : List UInt8)) = true := bne_iff_ne.mpr c3
          have H' := Aside0.mk H
          clear H
          go_wp2
          go_loopg [6] k1 (fun kq v6 w' => ∃ (x6_2 : Int), v6 = .int .i64 x6_2 ∧ Aside0 (lempel_Parse.l1 kq x0_1 x4_1 x5_1 x6_2 = some (r1, r2)) ∧ Aside0 (kq ≤ k1) ∧ Aside0 (Kd.R k31 31 w' w.heap.size (fun _ => True) u5 x5_1) ∧ Aside0 (Below w.heap.size w w') ∧ Aside0 (Mp.IsM w' mb (x5_1.length + 1) x4_1))
          case atStart => exact ⟨(0), (by first | rfl | (simp; done) | (simp [*]; done)), H', ⟨Nat.le_refl _⟩, ⟨by (with_reducible repeat (first | apply Kd.R_alloc | apply Kd.R_drewN | apply Kd.R_drew)); exact HO_5.out⟩, ⟨by repeat (first | (with_reducible first | exact HB.out | apply below_alloc | apply pw_below_drewN | apply below_drew1) | exact HB.out)⟩, ⟨by (with_reducible repeat (first | apply Mp.isM_alloc | apply Mp.isM_drewN | apply Mp.isM_drew)); exact HM.out⟩⟩
          case round =>
            clear H'
            try clear c2
            try clear c2b0
            try clear c2b1
            try clear p2
            try clear c3
            try clear c3b0
            try clear c3b1
            try clear p2
            obtain ⟨x6_2, rfl, HA, HK2, HO_5, HB, HM⟩ := hrel
            cases gk with
            | zero => exact absurd HA.out (by simp [lempel_Parse.l1])
            | succ k2 =>
              have H := HA.out
              clear HA
              simp only [lempel_Parse.l1] at H
              by_cases c4 : x6_2 < (x0_1.size : Int)
              · rw [if_pos c4] at H
                have c4b0 : decide (x6_2 < (x0_1.size : Int)) = true := decide_eq_true c4
                clear c4
                obtain ⟨ji5, hji5⟩ : ∃ j_ : Int, (wrap64 (x6_2 + 1)) = j_ := ⟨_, rfl⟩
                replace H : (if 0 ≤ (ji5) then (if (ji5) ≤ (x0_1.size : Int) then (if ((kHas x4_1 (x0_1.extract 0 ((ji5) : Int).toNat)) = true) then (lempel_Parse.l1 k2 x0_1 x4_1 x5_1 ji5) else (if x6_2 = (x0_1.size : Int) then (if x5_1.length < 8796093022208 then (some ((x5_1 ++ [(⟨kAt x4_1 x0_1, 0, true⟩ : S31)]), none)) else (none)) else (if 0 ≤ x6_2 then (if x6_2 ≤ (x0_1.size : Int) then (if x5_1.length < 8796093022208 then ((some (x5_1 ++ [(⟨kAt x4_1 (x0_1.extract 0 (x6_2 : Int).toNat), bt x0_1 x6_2, false⟩ : S31)] : List (S31))).bind fun y104 => (lempel_Parse.l0 k2 (x0_1.extract ((ji5) : Int).toNat x0_1.size) (kPut x4_1 (x0_1.extract 0 ((ji5) : Int).toNat) (y104.length : Int)) y104)) else (none)) else (none)) else (none)))) else (none)) else (none)) = some (r1, r2) := by first | (rw [hji5] at H; exact H) | (simp only [hji5] at H ⊢; exact H)
                have hji5w : (IntKind.i64.wrap (x6_2 + 1)) = ji5 := (i64_w _).trans hji5
                by_cases c6 : 0 ≤ (ji5)
                · rw [if_pos c6] at H
                  have c6b0 := eq_true c6
                  have c6b1 : decide (0 ≤ (ji5)) = true := decide_eq_true c6
                  clear c6
                  by_cases c7 : (ji5) ≤ (x0_1.size : Int)
                  · rw [if_pos c7] at H
                    have c7b0 := eq_true c7
                    have c7b1 : decide ((ji5) ≤ (x0_1.size : Int)) = true := decide_eq_true c7
                    clear c7
                    by_cases c8 : ((kHas x4_1 (x0_1.extract 0 ((ji5) : Int).toNat)) = true)
                    · rw [if_pos c8] at H
                      have c8b0 : (kHas x4_1 (x0_1.extract 0 ((ji5) : Int).toNat)) = true := c8
                      clear c8
                      have H' := Aside0.mk H
                      clear H
                      go_wp2_with (at_lookup; refine Mp.wp_look_ok rfl (.tmp 22) (.tmp 26) rfl mb (x5_1.length + 1) x4_1 (x0_1.extract 0 ((ji5) : Int).toNat) rfl rfl (by (with_reducible repeat (first | apply Mp.isM_alloc | apply Mp.isM_drewN | apply Mp.isM_drew)); exact HM.out) (by have h_ := HS0.out; have h2_ : ∀ i j, (x0_1.extract i j).size ≤ x0_1.size := (by intro i j; simp [ByteArray.size_extract]; omega); first | exact Nat.le_trans (h2_ _ _) (by unfold maxLen; omega) | (unfold maxLen; omega)) ?_)
                      go_roundg k2
                      case measure => have := HK1.out; have := HK2.out; omega
                      case rel => exact ⟨(ji5), (by first | rfl | (simp; done) | (simp only [← hji5] <;> (first | rfl | simp)) | (simp [*]; done)), H', ⟨by have := HK1.out; have := HK2.out; omega⟩, ⟨by (with_reducible repeat (first | apply Kd.R_alloc | apply Kd.R_drewN | apply Kd.R_drew)); exact HO_5.out⟩, ⟨by repeat (first | (with_reducible first | exact HB.out | apply below_alloc | apply pw_below_drewN | apply below_drew1) | exact HB.out)⟩, ⟨by (with_reducible repeat (first | apply Mp.isM_alloc | apply Mp.isM_drewN | apply Mp.isM_drew)); exact HM.out⟩⟩
                    · rw [if_neg c8] at H
                      have c8b0 : (kHas x4_1 (x0_1.extract 0 ((ji5) : Int).toNat)) = false := by simpa using c8
                      clear c8
                      by_cases c9 : x6_2 = (x0_1.size : Int)
                      · have z4_ := of_decide_eq_true c4b0
                        exact absurd c9 (by omega)
                      · rw [if_neg c9] at H
                        have c9b0 : (x6_2 == (x0_1.size : Int)) = false := beq_eq_false_iff_ne.mpr c9
                        have c9b1 : (x6_2 != (x0_1.size : Int)) = true := bne_iff_ne.mpr c9
                        by_cases c12 : 0 ≤ x6_2
                        · rw [if_pos c12] at H
                          have c12b0 := eq_true c12
                          have c12b1 : decide (0 ≤ x6_2) = true := decide_eq_true c12
                          clear c12
                          by_cases c13 : x6_2 ≤ (x0_1.size : Int)
                          · rw [if_pos c13] at H
                            have c13b0 := eq_true c13
                            have c13b1 : decide (x6_2 ≤ (x0_1.size : Int)) = true := decide_eq_true c13
                            clear c13
                            by_cases c15 : x5_1.length < 8796093022208
                            · rw [if_pos c15] at H
                              have LMc15 := Aside0.mk c15
                              clear c15
                              obtain ⟨y104, hy104⟩ : ∃ y_ : List (S31), y_ = (x5_1 ++ [(⟨kAt x4_1 (x0_1.extract 0 (x6_2 : Int).toNat), bt x0_1 x6_2, false⟩ : S31)]) := ⟨_, rfl⟩
                              replace H : (lempel_Parse.l0 k2 (x0_1.extract ((ji5) : Int).toNat x0_1.size) (kPut x4_1 (x0_1.extract 0 ((ji5) : Int).toNat) (y104.length : Int)) y104) = some (r1, r2) := by first | (rw [hy104]; with_reducible exact H) | (have H2_ := (Option.bind_some _ _).symm.trans H; rw [hy104]; with_reducible exact H2_) | (have H2_ := (Option.bind_some _ _).symm.trans H; with_reducible exact H2_) | with_reducible exact H | (rw [hy104]; exact H) | exact H
                              have Ny104 := Aside0.mk hy104
                              clear hy104
                              have c16b0 := eq_true (of_decide_eq_true (by first | (with_reducible assumption) | assumption) : 0 ≤ (ji5))
                              have c17b0 := eq_true (of_decide_eq_true (by first | (with_reducible assumption) | assumption) : (ji5) ≤ (x0_1.size : Int))
                              have c18b0 := eq_true (of_decide_eq_true (by first | (with_reducible assumption) | assumption) : 0 ≤ (ji5))
                              have c19b0 := eq_true (of_decide_eq_true (by first | (with_reducible assumption) | assumption) : (ji5) ≤ (x0_1.size : Int))
                              have H' := Aside0.mk H
                              clear H
                              go_wp2_with (at_lookup; refine Mp.wp_look_ok rfl (.tmp 22) (.tmp 26) rfl mb (x5_1.length + 1) x4_1 (x0_1.extract 0 ((ji5) : Int).toNat) rfl rfl (by (with_reducible repeat (first | apply Mp.isM_alloc | apply Mp.isM_drewN | apply Mp.isM_drew)); exact HM.out) (by have h_ := HS0.out; have h2_ : ∀ i j, (x0_1.extract i j).size ≤ x0_1.size := (by intro i j; simp [ByteArray.size_extract]; omega); first | exact Nat.le_trans (h2_ _ _) (by unfold maxLen; omega) | (unfold maxLen; omega)) ?_)
                              have n0_ := Aside0.mk (Kd.R_drew HO_5.out)
                              have n1_ := Aside0.mk (below_drew1 HB.out)
                              have nm_ := Aside0.mk (Mp.isM_drew HM.out)
                              clear HO_5
                              clear HB
                              have HO_5 := n0_
                              have HB := n1_
                              clear HM
                              have HM := nm_
                              clear n0_ n1_ nm_
                              have p14 : 0 ≤ (x6_2 : Int) := of_decide_eq_true (by first | (with_reducible assumption) | assumption)
                              have q14 : x6_2 < (x0_1.size : Int) := of_decide_eq_true (by first | (with_reducible assumption) | assumption)
                              have hx14 := bt_at x0_1 x6_2
                              replace p14 := eq_true p14
                              replace q14 := eq_true q14
                              refine start_ (n := 13) (S := fun w' => Mp.IsM w' mb (x5_1.length + 1) x4_1) (ds := []) #[false, false, false, false, false, false, false, false, false, false, false, false, false] (by kernel_rfl) rfl rfl HM.out (fun hHeld => ?_); refine with_tabW lempel_Parse.tab13 lempel_Parse.bits13 (fun HT_ HW_ => ?_)
                              generalize wr.drew = w20 at HO_5 HB HM hHeld ⊢
                              refine pure_ (i := 0) (N := some 45) (v := ?_) (a' := ?_) #[true, false, false, false, false, false, false, false, false, false, false, false, false] rfl rfl (any_of HT_.out (by kernel_rfl)) (fun _ _ _ h => h) (Or.inl ⟨by rfl, ?_⟩) ?_ ?_
                              rotate_left
                              · intro w'
                                go_simp
                                with_reducible rfl
                              rotate_left
                              · simp only [Act.put, List.setIfInBounds_toArray, List.set_cons_zero, List.set_cons_succ, i64_w, i32_w]
                                rfl
                              refine pure_ (i := 1) (N := some 46) (v := ?_) (a' := ?_) #[true, true, false, false, false, false, false, false, false, false, false, false, false] rfl rfl (any_of HT_.out (by kernel_rfl)) (fun _ _ _ h => h) (Or.inl ⟨by rfl, ?_⟩) ?_ ?_
                              rotate_left
                              · intro w'
                                go_simp
                                with_reducible rfl
                              rotate_left
                              · simp only [Act.put, List.setIfInBounds_toArray, List.set_cons_zero, List.set_cons_succ, i64_w, i32_w]
                                rfl
                              refine pure_ (i := 2) (N := some 47) (v := ?_) (a' := ?_) #[true, true, true, false, false, false, false, false, false, false, false, false, false] rfl rfl (any_of HT_.out (by kernel_rfl)) (fun _ _ _ h => h) (Or.inl ⟨by rfl, ?_⟩) ?_ ?_
                              rotate_left
                              · intro w'
                                go_simp
                                with_reducible rfl
                              rotate_left
                              · simp only [Act.put, List.setIfInBounds_toArray, List.set_cons_zero, List.set_cons_succ, i64_w, i32_w]
                                rfl
                              refine pure_ (i := 3) (N := some 48) (v := ?_) (a' := ?_) #[true, true, true, true, false, false, false, false, false, false, false, false, false] rfl rfl (any_of HT_.out (by kernel_rfl)) (fun _ _ _ h => h) (Or.inl ⟨by rfl, ?_⟩) ?_ ?_
                              rotate_left
                              · intro w'
                                go_simp
                                with_reducible rfl
                              rotate_left
                              · simp only [Act.put, List.setIfInBounds_toArray, List.set_cons_zero, List.set_cons_succ, i64_w, i32_w]
                                rfl
                              refine pure_ (i := 4) (N := some 49) (v := ?_) (a' := ?_) #[true, true, true, true, true, false, false, false, false, false, false, false, false] rfl rfl (any_of HT_.out (by kernel_rfl)) (fun _ _ _ h => h) (Or.inl ⟨by rfl, ?_⟩) ?_ ?_
                              rotate_left
                              · intro w'
                                go_simp
                                with_reducible rfl
                              rotate_left
                              · simp only [Act.put, List.setIfInBounds_toArray, List.set_cons_zero, List.set_cons_succ, i64_w, i32_w]
                                rfl
                              refine pure_ (i := 6) (N := some 51) (v := ?_) (a' := ?_) #[true, true, true, true, true, false, true, false, false, false, false, false, false] rfl rfl (any_of HT_.out (by kernel_rfl)) (fun _ _ _ h => h) (Or.inl ⟨by rfl, ?_⟩) ?_ ?_
                              rotate_left
                              · intro w'
                                go_simp
                                with_reducible rfl
                              rotate_left
                              · simp only [Act.put, List.setIfInBounds_toArray, List.set_cons_zero, List.set_cons_succ, i64_w, i32_w]
                                rfl
                              refine pure_ (i := 7) (N := some 52) (v := ?_) (a' := ?_) #[true, true, true, true, true, false, true, true, false, false, false, false, false] rfl rfl (any_of HT_.out (by kernel_rfl)) (fun _ _ _ h => h) (Or.inl ⟨by rfl, ?_⟩) ?_ ?_
                              rotate_left
                              · intro w'
                                go_simp
                                with_reducible rfl
                              rotate_left
                              · simp only [Act.put, List.setIfInBounds_toArray, List.set_cons_zero, List.set_cons_succ, i64_w, i32_w]
                                rfl
                              refine take_ (i := 5) (N := some 50) (v := ?_) (a' := ?_) #[true, true, true, true, true, true, true, true, false, false, false, false, false] rfl rfl (take_ofW HT_.out HW_.out (by kernel_rfl)) (fun _ _ _ h => h) (Or.inl ⟨by rfl, ?_⟩) hHeld ?_ ?_
                              rotate_left
                              · intro w' hm_
                                have hl_ := Mp.look_run hm_ (x0_1.extract 0 (x6_2 : Int).toNat) (by have h_ := HS0.out; have h2_ : ∀ i j, (x0_1.extract i j).size ≤ x0_1.size := (by intro i j; simp [ByteArray.size_extract]; omega); first | exact Nat.le_trans (h2_ _ _) (by unfold maxLen; omega) | (unfold maxLen; omega))
                                go_simp
                                with_reducible rfl
                              rotate_left
                              · simp only [Act.put, List.setIfInBounds_toArray, List.set_cons_zero, List.set_cons_succ, i64_w, i32_w]
                                rfl
                              refine take_ (i := 8) (N := some 53) (v := ?_) (a' := ?_) #[true, true, true, true, true, true, true, true, true, false, false, false, false] rfl rfl (take_ofW HT_.out HW_.out (by kernel_rfl)) (fun _ _ _ h => h) (Or.inl ⟨by rfl, ?_⟩) hHeld ?_ ?_
                              rotate_left
                              · intro w' _
                                go_simp
                                with_reducible rfl
                              rotate_left
                              · simp only [Act.put, List.setIfInBounds_toArray, List.set_cons_zero, List.set_cons_succ, i64_w, i32_w]
                                rfl
                              refine pure_ (i := 9) (N := some 54) (v := ?_) (a' := ?_) #[true, true, true, true, true, true, true, true, true, true, false, false, false] rfl rfl (any_of HT_.out (by kernel_rfl)) (fun _ _ _ h => h) (Or.inl ⟨by rfl, ?_⟩) ?_ ?_
                              rotate_left
                              · intro w'
                                go_simp
                                with_reducible rfl
                              rotate_left
                              · simp only [Act.put, List.setIfInBounds_toArray, List.set_cons_zero, List.set_cons_succ, i64_w, i32_w]
                                rfl
                              refine one_ (i := 10) (N := some 55) #[true, true, true, true, true, true, true, true, true, true, true, false, false] rfl rfl (one_of HT_.out (by kernel_rfl)) (by decide) (fun K hK => ?_)
                              refine value_ (w1 := ?_) (v := ?_) (by rfl) rfl ?_ ?_
                              rotate_left 2
                              · go_simp
                                constructor
                                · rfl
                                · rfl
                              refine hK.out _ _ (Mp.isM_alloc HM.out _) (fun hHeld => ?_)
                              clear hK K
                              refine norm_ (a' := ?_) ?_ ?_
                              rotate_left
                              · show Act.put _ (some 55) _ = _
                                simp only [Act.put, List.setIfInBounds_toArray, List.set_cons_zero, List.set_cons_succ, i64_w, i32_w]
                                rfl
                              refine one_ (i := 11) (N := some 56) #[true, true, true, true, true, true, true, true, true, true, true, true, false] rfl rfl (one_of HT_.out (by kernel_rfl)) (by decide) (fun K hK => ?_)
                              refine Kd.R_append_step k31 (w0 := w) w.heap.size (by rfl) (.tmp 45) (.tmp 55) 23 31 (.agg #[(.int .i64 0), (.int .u8 0), (.bool false)]) 16 rfl Tryd.underlying23 info31 rfl (by decide) (by omega) u5 x5_1 (⟨kAt x4_1 (x0_1.extract 0 (x6_2 : Int).toNat), bt x0_1 x6_2, false⟩ : S31) [.int .i64 (kAt x4_1 (x0_1.extract 0 (x6_2 : Int).toNat)), .int .u8 (bt x0_1 x6_2), .bool false] (fun _ => True) (fun _ => False) rfl rfl ?aP (fun _ hk => hk.elim) ?aF ?aO ?aB ?aS ?aL ?_
                              (case aP => exact k31_mkM _ _ _ (⟨kAt x4_1 (x0_1.extract 0 (x6_2 : Int).toNat), bt x0_1 x6_2, false⟩ : S31))
                              (case aB => exact (by repeat (first | (with_reducible first | exact HB.out | apply below_alloc | apply pw_below_drewN | apply below_drew1) | exact HB.out)))
                              (case aF => exact (fun _ _ => trivial))
                              (case aO => exact (by (with_reducible repeat (first | apply Kd.R_alloc | apply Kd.R_drewN | apply Kd.R_drew)); exact HO_5.out))
                              (case aS => exact (below_size (by repeat (first | (with_reducible first | exact HB.out | apply below_alloc | apply pw_below_drewN | apply below_drew1) | exact HB.out))))
                              (case aL => have := LMc15.out; omega)
                              intro v105 w21 ho hb hg hat
                              have nm_ := Aside0.mk (Mp.isM_grown (by (with_reducible repeat (first | apply Mp.isM_alloc | apply Mp.isM_drewN | apply Mp.isM_drew)); exact HM.out) (by (with_reducible repeat (first | apply Kd.R_alloc | apply Kd.R_drewN | apply Kd.R_drew)); exact HO_5.out) hg)
                              clear HM
                              have HM := nm_
                              clear nm_
                              rw [← Ny104.out] at ho
                              have n0_ := Aside0.mk (hb)
                              have n1_ := Aside0.mk (ho)
                              clear HB
                              clear HO_5
                              have HB := n0_
                              have HO106 := n1_
                              clear n0_ n1_
                              clear ho hb hg hat
                              refine hK.out _ _ HM.out (fun hHeld => ?_)
                              clear hK K
                              refine norm_ (a' := ?_) ?_ ?_
                              rotate_left
                              · show Act.put _ (some 56) _ = _
                                simp only [Act.put, List.setIfInBounds_toArray, List.set_cons_zero, List.set_cons_succ, i64_w, i32_w]
                                rfl
                              refine pure_ (i := 12) (N := some 5) (v := ?_) (a' := ?_) #[true, true, true, true, true, true, true, true, true, true, true, true, true] rfl rfl (any_of HT_.out (by kernel_rfl)) (fun _ _ _ h => h) (Or.inl ⟨by rfl, ?_⟩) ?_ ?_
                              rotate_left
                              · intro w'
                                go_simp
                                with_reducible rfl
                              rotate_left
                              · simp only [Act.put, List.setIfInBounds_toArray, List.set_cons_zero, List.set_cons_succ, i64_w, i32_w]
                                rfl
                              refine done_ (done_of HT_.out (by kernel_rfl)) ?_
                              obtain ⟨Ao22, co22, eo22⟩ := Kd.R_slice HO106.out
                              subst eo22
                              go_wp2_with (at_mapUpdate; refine Mp.wp_update rfl (.tmp 57) (.tmp 61) (.tmp 63) rfl mb (x5_1.length + 1) x4_1 (x0_1.extract 0 ((ji5) : Int).toNat) (y104.length : Int) rfl rfl rfl (by (with_reducible repeat (first | apply Mp.isM_alloc | apply Mp.isM_drewN | apply Mp.isM_drew)); exact HM.out) (by have h_ := LMc15.out; unfold maxLen; omega) (by have h_ := HS0.out; have h2_ : ∀ i j, (x0_1.extract i j).size ≤ x0_1.size := (by intro i j; simp [ByteArray.size_extract]; omega); first | exact Nat.le_trans (h2_ _ _) (by unfold maxLen; omega) | (unfold maxLen; omega)) (WalkArith.wf_i64 (by have h_ := LMc15.out; have h2_ : y104.length = x5_1.length + 1 := (by rw [Ny104.out]; simp); omega)) ?_; intro w22_ hm_ hg_; have n0_ := Aside0.mk (Mp.below_map (by repeat (first | (with_reducible first | exact HB.out | apply below_alloc | apply pw_below_drewN | apply below_drew1) | exact HB.out)) hg_ GM.out); have n1_ := Aside0.mk hm_; have n2_ := Aside0.mk (Mp.R_map (by (with_reducible repeat (first | apply Kd.R_alloc | apply Kd.R_drewN | apply Kd.R_drew)); exact HO106.out) (by (with_reducible repeat (first | apply Mp.isM_alloc | apply Mp.isM_drewN | apply Mp.isM_drew)); exact HM.out) hg_); clear HB HM HO106 hm_ hg_; have HB := n0_; have HM := n1_; have HO106 := n2_; clear n0_ n1_ n2_)
                              go_roundg k2
                              case measure => have := HK1.out; have := HK2.out; omega
                              case rel => exact ⟨(x0_1.extract ((ji5) : Int).toNat x0_1.size), (kPut x4_1 (x0_1.extract 0 ((ji5) : Int).toNat) (y104.length : Int)), (y104), (by first | rfl | (simp; done) | (simp only [← hji5] <;> (first | rfl | simp)) | (simp [*]; done)), H', ⟨by have := HK1.out; have := HK2.out; omega⟩, ⟨by (with_reducible repeat (first | apply Kd.R_alloc | apply Kd.R_drewN | apply Kd.R_drew)); exact HO106.out⟩, ⟨by repeat (first | (with_reducible first | exact HB.out | apply below_alloc | apply pw_below_drewN | apply below_drew1) | exact HB.out)⟩, ⟨by (with_reducible repeat (first | apply Mp.isM_alloc | apply Mp.isM_drewN | apply Mp.isM_drew)); have z_ := HM.out; rw [show x5_1.length + 1 = y104.length from (by rw [Ny104.out]; simp)] at z_; exact z_⟩, ⟨by have h_ := HS0.out; simp [ByteArray.size_extract]; omega⟩⟩
                            · rw [if_neg c15] at H
                              exact absurd H (by simp)
                          · rw [if_neg c13] at H
                            exact absurd H (by simp)
                        · rw [if_neg c12] at H
                          exact absurd H (by simp)
                  · rw [if_neg c7] at H
                    exact absurd H (by simp)
                · rw [if_neg c6] at H
                  exact absurd H (by simp)
              · rw [if_neg c4] at H
                have c4b0 : decide (x6_2 < (x0_1.size : Int)) = false := decide_eq_false c4
                clear c4
                by_cases c23 : x6_2 = (x0_1.size : Int)
                · rw [if_pos c23] at H
                  have c23b0 : (x6_2 == (x0_1.size : Int)) = true := beq_iff_eq.mpr c23
                  have c23b1 : (x6_2 != (x0_1.size : Int)) = false := bne_eq_false_iff_eq.mpr c23
                  clear c23
                  by_cases c24 : x5_1.length < 8796093022208
                  · rw [if_pos c24] at H
                    have LMc24 := Aside0.mk c24
                    clear c24
                    obtain ⟨y107, hy107⟩ : ∃ y_ : List (S31), y_ = (x5_1 ++ [(⟨kAt x4_1 x0_1, 0, true⟩ : S31)]) := ⟨_, rfl⟩
                    replace H : (some (y107, none)) = some (r1, r2) := by first | (rw [hy107]; with_reducible exact H) | (have H2_ := (Option.bind_some _ _).symm.trans H; rw [hy107]; with_reducible exact H2_) | (have H2_ := (Option.bind_some _ _).symm.trans H; with_reducible exact H2_) | with_reducible exact H | (rw [hy107]; exact H) | exact H
                    have Ny107 := Aside0.mk hy107
                    clear hy107
                    simp only [Option.some.injEq, Prod.mk.injEq] at H
                    obtain ⟨rfl, rfl⟩ := H
                    go_wp2_with (first | (at_lookup; refine Mp.wp_look rfl (.tmp 39) (.tmp 40) rfl mb (x5_1.length + 1) x4_1 x0_1 rfl rfl (by (with_reducible repeat (first | apply Mp.isM_alloc | apply Mp.isM_drewN | apply Mp.isM_drew)); exact HM.out) (by have h_ := HS0.out; have h2_ : ∀ i j, (x0_1.extract i j).size ≤ x0_1.size := (by intro i j; simp [ByteArray.size_extract]; omega); first | exact Nat.le_trans (h2_ _ _) (by unfold maxLen; omega) | (unfold maxLen; omega)) ?_) | ((with_reducible refine gate_builtin (b := .append) (xs := #[.tmp 38, .tmp 43]) rfl ?_); at_builtin; refine Kd.R_append k31 (w0 := w) w.heap.size rfl (.tmp 38) (.tmp 43) 23 31 (.agg #[(.int .i64 0), (.int .u8 0), (.bool false)]) 16 rfl Tryd.underlying23 info31 rfl (by decide) (by omega) u5 x5_1 (⟨kAt x4_1 x0_1, 0, true⟩ : S31) [.int .i64 (kAt x4_1 x0_1), .int .u8 0, .bool true] (fun _ => True) (fun _ => False) rfl rfl ?aP (fun _ hk => hk.elim) ?aF ?aO ?aB ?aS ?aL ?_; (case aP => exact k31_mkM _ _ _ (⟨kAt x4_1 x0_1, 0, true⟩ : S31)); (case aB => exact (by repeat (first | (with_reducible first | exact HB.out | apply below_alloc | apply pw_below_drewN | apply below_drew1) | exact HB.out))); (case aF => exact (fun _ _ => trivial)); (case aO => exact (by (with_reducible repeat (first | apply Kd.R_alloc | apply Kd.R_drewN | apply Kd.R_drew)); exact HO_5.out)); (case aS => exact (below_size (by repeat (first | (with_reducible first | exact HB.out | apply below_alloc | apply pw_below_drewN | apply below_drew1) | exact HB.out)))); (case aL => have := LMc24.out; omega); intro v108 w25 ho hb hg hat; rw [← Ny107.out] at ho; have n0_ := Aside0.mk (hb); have n1_ := Aside0.mk (ho); clear HB; clear HO_5; have HB := n0_; have HO109 := n1_; clear n0_ n1_; clear ho hb hg hat))
                    go_ret2
                    exact ⟨_, by first | rfl | (simp [errW_none, errW_some] <;> rfl) | (simp [*, errW_none, errW_some] <;> rfl), by (with_reducible repeat (first | apply Kd.R_alloc | apply Kd.R_drewN | apply Kd.R_drew)); exact HO109.out, by repeat (first | (with_reducible first | exact HB.out | apply below_alloc | apply pw_below_drewN | apply below_drew1) | exact HB.out)⟩
                  · rw [if_neg c24] at H
                    exact absurd H (by simp)
                · rw [if_neg c23] at H
                  have c23b0 : (x6_2 == (x0_1.size : Int)) = false := beq_eq_false_iff_ne.mpr c23
                  have c23b1 : (x6_2 != (x0_1.size : Int)) = true := bne_iff_ne.mpr c23
                  by_cases c26 : 0 ≤ x6_2
                  · rw [if_pos c26] at H
                    have c26b0 := eq_true c26
                    have c26b1 : decide (0 ≤ x6_2) = true := decide_eq_true c26
                    clear c26
                    by_cases c27 : x6_2 ≤ (x0_1.size : Int)
                    · rw [if_pos c27] at H
                      have c27b0 := eq_true c27
                      have c27b1 : decide (x6_2 ≤ (x0_1.size : Int)) = true := decide_eq_true c27
                      clear c27
                      exact absurd H (by simp)
                    · rw [if_neg c27] at H
                      exact absurd H (by simp)
                  · rw [if_neg c26] at H
                    exact absurd H (by simp)

/-! ### demonlaw2_abab: function 8 -/
def demonlaw2_abab.f (k : Nat)  : Option (Bool) := (lempel_Parse.f k (⟨#[97, 97, 98]⟩ : ByteArray)).bind fun bt110 => (if bt110.2.isNone = true then (if (bt110.1.length : Int) = 2 then (if 0 < (bt110.1.length : Int) then (if (((rd_T31 bt110.1 0).f0) == 0 && (((rd_T31 bt110.1 0).f1) == 97 && (!((rd_T31 bt110.1 0).f2)))) = true then (if 1 < (bt110.1.length : Int) then (some (((rd_T31 bt110.1 1).f0) == 1 && (((rd_T31 bt110.1 1).f1) == 98 && (!((rd_T31 bt110.1 1).f2))))) else (none)) else (some false)) else (none)) else (some false)) else (some false))
theorem demonlaw2_abab.mono : ∀ k, LeO (demonlaw2_abab.f k ) (demonlaw2_abab.f (k + 1) ) := by
  intro  k
  unfold demonlaw2_abab.f
  repeat' first
      | (with_reducible exact lempel_Parse.mono _ _)
      | (with_reducible exact LeO.refl _)
      | (with_reducible exact LeO.none _)
      | (with_reducible refine LeO.ite ?_ ?_)
      | (with_reducible refine LeO.bind ?_ (fun _ => ?_))
      | exact lempel_Parse.mono _ _
      | exact LeO.none _
      | refine LeO.ite ?_ ?_
      | refine LeO.bind ?_ (fun _ => ?_)
set_option maxHeartbeats 8000000 in
set_option maxRecDepth 100000 in
theorem demonlaw2_abab.calls (k : Nat)  (r : Bool) (w : World) (h : demonlaw2_abab.f k  = some r) :
    Calls Tryd.prog 8 #[] w fun e w' => e = .returned (.bool r) ∧ Below w.heap.size w w' := by
  have hu31 := Tryd.underlying31
  have hu25 := Tryd.underlying25
  have HB := Aside0.mk (Below.refl w.heap.size w)
  have H : ((lempel_Parse.f k (⟨#[97, 97, 98]⟩ : ByteArray)).bind fun bt110 => (if bt110.2.isNone = true then (if (bt110.1.length : Int) = 2 then (if 0 < (bt110.1.length : Int) then (if (((rd_T31 bt110.1 0).f0) == 0 && (((rd_T31 bt110.1 0).f1) == 97 && (!((rd_T31 bt110.1 0).f2)))) = true then (if 1 < (bt110.1.length : Int) then (some (((rd_T31 bt110.1 1).f0) == 1 && (((rd_T31 bt110.1 1).f1) == 98 && (!((rd_T31 bt110.1 1).f2))))) else (none)) else (some false)) else (none)) else (some false)) else (some false))) = some r := h
  clear h
  replace H := Option.bind_eq_some_iff.mp H
  obtain ⟨⟨t110, t111⟩, A10, H⟩ := H
  replace H : (if t111.isNone = true then (if (t110.length : Int) = 2 then (if 0 < (t110.length : Int) then (if (((rd_T31 t110 0).f0) == 0 && (((rd_T31 t110 0).f1) == 97 && (!((rd_T31 t110 0).f2)))) = true then (if 1 < (t110.length : Int) then (some (((rd_T31 t110 1).f0) == 1 && (((rd_T31 t110 1).f1) == 98 && (!((rd_T31 t110 1).f2))))) else (none)) else (some false)) else (none)) else (some false)) else (some false)) = some r := H
  have A1 := Aside0.mk A10
  clear A10
  rcases t111 with _ | q114
  · have H1 : (if (t110.length : Int) = 2 then (if 0 < (t110.length : Int) then (if (((rd_T31 t110 0).f0) == 0 && (((rd_T31 t110 0).f1) == 97 && (!((rd_T31 t110 0).f2)))) = true then (if 1 < (t110.length : Int) then (some (((rd_T31 t110 1).f0) == 1 && (((rd_T31 t110 1).f1) == 98 && (!((rd_T31 t110 1).f2))))) else (none)) else (some false)) else (none)) else (some false)) = some r := by rw [if_pos (show (none : Option Int).isNone = true by rfl)] at H; exact H
    clear H
    have H := H1
    clear H1
    try simp only [errW_none, errW_some]
    by_cases c2 : (t110.length : Int) = 2
    · rw [if_pos c2] at H
      have c2b0 : ((t110.length : Int) == 2) = true := beq_iff_eq.mpr c2
      have c2b1 : ((t110.length : Int) != 2) = false := bne_eq_false_iff_eq.mpr c2
      clear c2
      by_cases c3 : 0 < (t110.length : Int)
      · rw [if_pos c3] at H
        have c3b0 : decide (0 < (t110.length : Int)) = true := decide_eq_true c3
        have c3b1 : decide (0 < t110.length) = true := decide_eq_true (by omega)
        clear c3
        by_cases c4 : (((rd_T31 t110 0).f0) == 0 && (((rd_T31 t110 0).f1) == 97 && (!((rd_T31 t110 0).f2)))) = true
        · rw [if_pos c4] at H
          have c4b0 : (((rd_T31 t110 0).f0) == 0 && (((rd_T31 t110 0).f1) == 97 && (!((rd_T31 t110 0).f2)))) = true := c4
          (try (have c4b1 : decide (((rd_T31 t110 0).f0) = 0 && (((rd_T31 t110 0).f1) == 97 && (!((rd_T31 t110 0).f2)))) = true := by simpa using c4))
          (try (have c4b2 : (((rd_T31 t110 0).f0) == 0 && (((rd_T31 t110 0).f1) == 97 && (!((rd_T31 t110 0).f2)))) = true := by simpa using c4))
          clear c4
          by_cases c5 : 1 < (t110.length : Int)
          · rw [if_pos c5] at H
            have c5b0 : decide (1 < (t110.length : Int)) = true := decide_eq_true c5
            have c5b1 : decide (1 < t110.length) = true := decide_eq_true (by omega)
            clear c5
            obtain rfl := Option.some.inj H
            go_enter Tryd.func8, Tryd.ntmps8
            go_wp2_with (first | ((with_reducible refine gate_callee (f := 9) rfl ?_); refine goesL_ (some 4) rfl rfl Tryd.func9 (by kernel_rfl) rfl #[.string (⟨#[97, 97, 98]⟩ : ByteArray)] rfl (by (try simp only [List.map_toArray, List.map_cons, List.map_nil]); first | done | rfl | (simp only [List.length_drop, List.length_take]; rfl)) ?_; (with_reducible refine (lempel_Parse.calls k (⟨#[97, 97, 98]⟩ : ByteArray) t110 none _ A1.out).mono ?_); rintro e w6 ⟨v112, rfl, ho0, hb⟩; refine ⟨_, rfl, ?_⟩; have n0_ := Aside0.mk (Kd.R_lower ho0 (below_size (by repeat (first | (with_reducible first | exact HB.out | apply below_alloc | apply pw_below_drewN | apply below_drew1) | exact HB.out)))); have n1_ := Aside0.mk (below_step (by repeat (first | (with_reducible first | exact HB.out | apply below_alloc | apply pw_below_drewN | apply below_drew1) | exact HB.out)) hb); clear HB; have HO113 := n0_; have HB := n1_; clear n0_ n1_; (try clear hb); (try clear hb2); (try clear hk); (try clear hi); (try clear ho0); (try simp only [errW_none, errW_some]); obtain ⟨Ao7, co7, eo7⟩ := Kd.R_slice HO113.out; subst eo7; have p115 : 0 ≤ (0 : Int) := (by omega); have q115 : 0 < (t110.length : Int) := of_decide_eq_true (by first | (with_reducible assumption) | assumption); obtain ⟨ad115, e115, hx115_0, hx115_1, hx115_2⟩ := at_T31 (Kd.R_reads' HO113.out).2.2 0 p115 q115; cases e115; have qi115 : (0 < t110.length) = True := eq_true (by omega); (try rw [show ((0 : Int)).toNat = 0 from rfl] at hx115_0); (try rw [show 0 * 3 = 0 from rfl] at hx115_0); (try rw [Addr.add_zero'] at hx115_0); (try rw [show ((0 : Int)).toNat = 0 from rfl] at hx115_1); (try rw [show 0 * 3 = 0 from rfl] at hx115_1); (try rw [Addr.add_zero'] at hx115_1); (try rw [show ((0 : Int)).toNat = 0 from rfl] at hx115_2); (try rw [show 0 * 3 = 0 from rfl] at hx115_2); (try rw [Addr.add_zero'] at hx115_2); replace p115 := eq_true p115; replace q115 := eq_true q115; have p116 : 0 ≤ (1 : Int) := (by omega); have q116 : 1 < (t110.length : Int) := of_decide_eq_true (by first | (with_reducible assumption) | assumption); obtain ⟨ad116, e116, hx116_0, hx116_1, hx116_2⟩ := at_T31 (Kd.R_reads' HO113.out).2.2 1 p116 q116; obtain rfl : ad115 = ad116 := (by injection e116); (try simp only [show (1 : Int).toNat = 1 from rfl, Nat.reduceMul, Nat.reduceEqDiff, Go.Addr.add, ↓reduceIte] at hx116_0); (try simp only [show (1 : Int).toNat = 1 from rfl, Nat.reduceMul, Nat.reduceEqDiff, Go.Addr.add, ↓reduceIte] at hx116_1); (try simp only [show (1 : Int).toNat = 1 from rfl, Nat.reduceMul, Nat.reduceEqDiff, Go.Addr.add, ↓reduceIte] at hx116_2); have qi116 : (1 < t110.length) = True := eq_true (by omega); (try rw [show ((1 : Int)).toNat = 1 from rfl] at hx116_0); (try rw [show 1 * 3 = 3 from rfl] at hx116_0); (try rw [show ((1 : Int)).toNat = 1 from rfl] at hx116_1); (try rw [show 1 * 3 = 3 from rfl] at hx116_1); (try rw [show ((1 : Int)).toNat = 1 from rfl] at hx116_2); (try rw [show 1 * 3 = 3 from rfl] at hx116_2); replace p116 := eq_true p116; replace q116 := eq_true q116))
            go_ret
            exact ⟨by first | rfl | (simp [errW_none, errW_some] <;> rfl) | (simp [*, errW_none, errW_some] <;> rfl), by repeat (first | (with_reducible first | exact HB.out | apply below_alloc | apply pw_below_drewN | apply below_drew1) | exact HB.out)⟩
          · rw [if_neg c5] at H
            exact absurd H (by simp)
        · rw [if_neg c4] at H
          have c4b0 : (((rd_T31 t110 0).f0) == 0 && (((rd_T31 t110 0).f1) == 97 && (!((rd_T31 t110 0).f2)))) = false := by simpa using c4
          (try (have c4b1 : decide (((rd_T31 t110 0).f0) = 0 && (((rd_T31 t110 0).f1) == 97 && (!((rd_T31 t110 0).f2)))) = false := by simpa using c4))
          (try (have c4b2 : (((rd_T31 t110 0).f0) == 0 && (((rd_T31 t110 0).f1) == 97 && (!((rd_T31 t110 0).f2)))) = false := by simpa using c4))
          (try (have c4b3 : ¬ (((rd_T31 t110 0).f0) = 0 && (((rd_T31 t110 0).f1) == 97 && (!((rd_T31 t110 0).f2)))) := by simpa using c4))
          clear c4
          obtain rfl := Option.some.inj H
          go_enter Tryd.func8, Tryd.ntmps8
          go_wp2_with (first | ((with_reducible refine gate_callee (f := 9) rfl ?_); refine goesL_ (some 4) rfl rfl Tryd.func9 (by kernel_rfl) rfl #[.string (⟨#[97, 97, 98]⟩ : ByteArray)] rfl (by (try simp only [List.map_toArray, List.map_cons, List.map_nil]); first | done | rfl | (simp only [List.length_drop, List.length_take]; rfl)) ?_; (with_reducible refine (lempel_Parse.calls k (⟨#[97, 97, 98]⟩ : ByteArray) t110 none _ A1.out).mono ?_); rintro e w8 ⟨v112, rfl, ho0, hb⟩; refine ⟨_, rfl, ?_⟩; have n0_ := Aside0.mk (Kd.R_lower ho0 (below_size (by repeat (first | (with_reducible first | exact HB.out | apply below_alloc | apply pw_below_drewN | apply below_drew1) | exact HB.out)))); have n1_ := Aside0.mk (below_step (by repeat (first | (with_reducible first | exact HB.out | apply below_alloc | apply pw_below_drewN | apply below_drew1) | exact HB.out)) hb); clear HB; have HO113 := n0_; have HB := n1_; clear n0_ n1_; (try clear hb); (try clear hb2); (try clear hk); (try clear hi); (try clear ho0); (try simp only [errW_none, errW_some]); obtain ⟨Ao9, co9, eo9⟩ := Kd.R_slice HO113.out; subst eo9; have p115 : 0 ≤ (0 : Int) := (by omega); have q115 : 0 < (t110.length : Int) := of_decide_eq_true (by first | (with_reducible assumption) | assumption); obtain ⟨ad115, e115, hx115_0, hx115_1, hx115_2⟩ := at_T31 (Kd.R_reads' HO113.out).2.2 0 p115 q115; cases e115; have qi115 : (0 < t110.length) = True := eq_true (by omega); (try rw [show ((0 : Int)).toNat = 0 from rfl] at hx115_0); (try rw [show 0 * 3 = 0 from rfl] at hx115_0); (try rw [Addr.add_zero'] at hx115_0); (try rw [show ((0 : Int)).toNat = 0 from rfl] at hx115_1); (try rw [show 0 * 3 = 0 from rfl] at hx115_1); (try rw [Addr.add_zero'] at hx115_1); (try rw [show ((0 : Int)).toNat = 0 from rfl] at hx115_2); (try rw [show 0 * 3 = 0 from rfl] at hx115_2); (try rw [Addr.add_zero'] at hx115_2); replace p115 := eq_true p115; replace q115 := eq_true q115))
          go_ret
          exact ⟨by first | rfl | (simp [errW_none, errW_some] <;> rfl) | (simp [*, errW_none, errW_some] <;> rfl), by repeat (first | (with_reducible first | exact HB.out | apply below_alloc | apply pw_below_drewN | apply below_drew1) | exact HB.out)⟩
      · rw [if_neg c3] at H
        exact absurd H (by simp)
    · rw [if_neg c2] at H
      have c2b0 : ((t110.length : Int) == 2) = false := beq_eq_false_iff_ne.mpr c2
      have c2b1 : ((t110.length : Int) != 2) = true := bne_iff_ne.mpr c2
      obtain rfl := Option.some.inj H
      go_enter Tryd.func8, Tryd.ntmps8
      go_wp2_with (first | ((with_reducible refine gate_callee (f := 9) rfl ?_); refine goesL_ (some 4) rfl rfl Tryd.func9 (by kernel_rfl) rfl #[.string (⟨#[97, 97, 98]⟩ : ByteArray)] rfl (by (try simp only [List.map_toArray, List.map_cons, List.map_nil]); first | done | rfl | (simp only [List.length_drop, List.length_take]; rfl)) ?_; (with_reducible refine (lempel_Parse.calls k (⟨#[97, 97, 98]⟩ : ByteArray) t110 none _ A1.out).mono ?_); rintro e w10 ⟨v112, rfl, ho0, hb⟩; refine ⟨_, rfl, ?_⟩; have n0_ := Aside0.mk (Kd.R_lower ho0 (below_size (by repeat (first | (with_reducible first | exact HB.out | apply below_alloc | apply pw_below_drewN | apply below_drew1) | exact HB.out)))); have n1_ := Aside0.mk (below_step (by repeat (first | (with_reducible first | exact HB.out | apply below_alloc | apply pw_below_drewN | apply below_drew1) | exact HB.out)) hb); clear HB; have HO113 := n0_; have HB := n1_; clear n0_ n1_; (try clear hb); (try clear hb2); (try clear hk); (try clear hi); (try clear ho0); (try simp only [errW_none, errW_some]); obtain ⟨Ao11, co11, eo11⟩ := Kd.R_slice HO113.out; subst eo11))
      go_ret
      exact ⟨by first | rfl | (simp [errW_none, errW_some] <;> rfl) | (simp [*, errW_none, errW_some] <;> rfl), by repeat (first | (with_reducible first | exact HB.out | apply below_alloc | apply pw_below_drewN | apply below_drew1) | exact HB.out)⟩
  · have H1 : (some false) = some r := by rw [if_neg (show ¬ (some q114).isNone = true by simp)] at H; exact H
    clear H
    have H := H1
    clear H1
    try simp only [errW_none, errW_some]
    obtain rfl := Option.some.inj H
    go_enter Tryd.func8, Tryd.ntmps8
    go_wp2_with (first | ((with_reducible refine gate_callee (f := 9) rfl ?_); refine goesL_ (some 4) rfl rfl Tryd.func9 (by kernel_rfl) rfl #[.string (⟨#[97, 97, 98]⟩ : ByteArray)] rfl (by (try simp only [List.map_toArray, List.map_cons, List.map_nil]); first | done | rfl | (simp only [List.length_drop, List.length_take]; rfl)) ?_; (with_reducible refine (lempel_Parse.calls k (⟨#[97, 97, 98]⟩ : ByteArray) t110 (some q114) _ A1.out).mono ?_); rintro e w12 ⟨v112, rfl, ho0, hb⟩; refine ⟨_, rfl, ?_⟩; have n0_ := Aside0.mk (Kd.R_lower ho0 (below_size (by repeat (first | (with_reducible first | exact HB.out | apply below_alloc | apply pw_below_drewN | apply below_drew1) | exact HB.out)))); have n1_ := Aside0.mk (below_step (by repeat (first | (with_reducible first | exact HB.out | apply below_alloc | apply pw_below_drewN | apply below_drew1) | exact HB.out)) hb); clear HB; have HO113 := n0_; have HB := n1_; clear n0_ n1_; (try clear hb); (try clear hb2); (try clear hk); (try clear hi); (try clear ho0); (try simp only [errW_none, errW_some])))
    go_ret
    exact ⟨by first | rfl | (simp [errW_none, errW_some] <;> rfl) | (simp [*, errW_none, errW_some] <;> rfl), by repeat (first | (with_reducible first | exact HB.out | apply below_alloc | apply pw_below_drewN | apply below_drew1) | exact HB.out)⟩

-- NOT PRINTED: function 28 (abi_NoEscape)

-- NOT PRINTED: function 25 (strings_Builder_copyCheck)

-- NOT PRINTED: function 21 (strings_Builder_WriteString)

-- NOT PRINTED: function 22 (strings_Builder_String)

end Go.Proofs.YtaonemghafoolaaDoor.Q
