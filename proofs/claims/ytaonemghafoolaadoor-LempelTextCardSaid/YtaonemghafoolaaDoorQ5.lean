-- scratch print
import Derived.Test.YtaonemghafoolaaDoorQ0
namespace Go.Proofs.YtaonemghafoolaaDoor.Q
open Go.RowKit Go.Proofs.YtaonemghafoolaaDoorW.PrintWords Go.Proofs.YtaonemghafoolaaDoorW.PrintLast Go.Proofs.YtaonemghafoolaaDoorW.PrintMore
attribute [local go_sem] max2_int min2_int max_two min_two max_three min_three max_four min_four   -- for this text's walks alone
set_option linter.unusedVariables false
set_option linter.unusedSimpArgs false

/-! ### lempel_Unslide: function 12 -/
mutual
def lempel_Unslide.l0 : Nat → List (S45) → List (S45) → Int → Int → Option (ByteArray × Option Int)
  | 0, _, _, _, _ => none
  | k + 1, x0, x16, x17, x18 => if x18 < x17 then (if 0 ≤ x18 then (if x18 < (x16.length : Int) then (if ((rd_T45 x16 x18).f1) > 4000 then (none) else (lempel_Unslide.l0 k x0 x16 x17 (wrap64 (x18 + 1)))) else (none)) else (none)) else (lempel_Unslide.l1 k x0 0 x0 (x0.length : Int) 0)
def lempel_Unslide.l1 : Nat → List (S45) → Int → List (S45) → Int → Int → Option (ByteArray × Option Int)
  | 0, _, _, _, _, _ => none
  | k + 1, x0, x6, x27, x28, x29 => if x29 < x28 then (if 0 ≤ x29 then (if x29 < (x27.length : Int) then (if ((rd_T45 x27 x29).f0) < 0 then (lempel_Unslide.j2 k x0 x6 x27 x28 x29 true ((rd_T45 x27 x29).f0) ((rd_T45 x27 x29).f1) ((rd_T45 x27 x29).f2) ((rd_T45 x27 x29).f3)) else (if ((rd_T45 x27 x29).f0) > x6 then (lempel_Unslide.j2 k x0 x6 x27 x28 x29 true ((rd_T45 x27 x29).f0) ((rd_T45 x27 x29).f1) ((rd_T45 x27 x29).f2) ((rd_T45 x27 x29).f3)) else (if ((rd_T45 x27 x29).f1) < 0 then (lempel_Unslide.j2 k x0 x6 x27 x28 x29 true ((rd_T45 x27 x29).f0) ((rd_T45 x27 x29).f1) ((rd_T45 x27 x29).f2) ((rd_T45 x27 x29).f3)) else (if ((((rd_T45 x27 x29).f0) == 0) != (((rd_T45 x27 x29).f1) == 0)) = true then (lempel_Unslide.j2 k x0 x6 x27 x28 x29 true ((rd_T45 x27 x29).f0) ((rd_T45 x27 x29).f1) ((rd_T45 x27 x29).f2) ((rd_T45 x27 x29).f3)) else (if (rd_T45 x27 x29).f3 = true then (if x29 < (wrap64 ((x0.length : Int) - 1)) then (lempel_Unslide.j2 k x0 x6 x27 x28 x29 true ((rd_T45 x27 x29).f0) ((rd_T45 x27 x29).f1) ((rd_T45 x27 x29).f2) ((rd_T45 x27 x29).f3)) else (if ((rd_T45 x27 x29).f1) = 0 then (lempel_Unslide.j2 k x0 x6 x27 x28 x29 true ((rd_T45 x27 x29).f0) ((rd_T45 x27 x29).f1) ((rd_T45 x27 x29).f2) ((rd_T45 x27 x29).f3)) else (lempel_Unslide.j2 k x0 x6 x27 x28 x29 (((rd_T45 x27 x29).f2) != 0) ((rd_T45 x27 x29).f0) ((rd_T45 x27 x29).f1) ((rd_T45 x27 x29).f2) ((rd_T45 x27 x29).f3)))) else (lempel_Unslide.j2 k x0 x6 x27 x28 x29 false ((rd_T45 x27 x29).f0) ((rd_T45 x27 x29).f1) ((rd_T45 x27 x29).f2) ((rd_T45 x27 x29).f3))))))) else (none)) else (none)) else (if x6 > 4000 then (none) else (lempel_Unslide.l2 k ([] : List Int) x0 (x0.length : Int) 0))
def lempel_Unslide.j2 : Nat → List (S45) → Int → List (S45) → Int → Int → Bool → Int → Int → Int → Bool → Option (ByteArray × Option Int)
  | 0, _, _, _, _, _, _, _, _, _, _ => none
  | k + 1, x0, x6, x27, x28, x29, x77, x155000, x155001, x155002, x155003 => if x77 = true then (none) else (if x155003 = true then (lempel_Unslide.l1 k x0 (wrap64 (x6 + x155001)) x27 x28 (wrap64 (x29 + 1))) else (lempel_Unslide.l1 k x0 (wrap64 ((wrap64 (x6 + x155001)) + 1)) x27 x28 (wrap64 (x29 + 1))))
def lempel_Unslide.l2 : Nat → List Int → List (S45) → Int → Int → Option (ByteArray × Option Int)
  | 0, _, _, _, _ => none
  | k + 1, x9, x96, x97, x98 => if x98 < x97 then (if 0 ≤ x98 then (if x98 < (x96.length : Int) then (lempel_Unslide.l3 k x9 x96 x97 x98 ((rd_T45 x96 x98).f1) 0 ((rd_T45 x96 x98).f0) ((rd_T45 x96 x98).f1) ((rd_T45 x96 x98).f2) ((rd_T45 x96 x98).f3)) else (none)) else (none)) else (some (strOfNums x9, none))
def lempel_Unslide.l3 : Nat → List Int → List (S45) → Int → Int → Int → Int → Int → Int → Int → Bool → Option (ByteArray × Option Int)
  | 0, _, _, _, _, _, _, _, _, _, _ => none
  | k + 1, x9, x96, x97, x98, x103, x104, x157000, x157001, x157002, x157003 => if x104 < x103 then (if 0 ≤ (wrap64 ((x9.length : Int) - x157000)) then (if (wrap64 ((x9.length : Int) - x157000)) < (x9.length : Int) then (if x9.length < 140737488355328 then (lempel_Unslide.l3 k (x9 ++ [rd x9 (wrap64 ((x9.length : Int) - x157000))]) x96 x97 x98 x103 (wrap64 (x104 + 1)) x157000 x157001 x157002 x157003) else (none)) else (none)) else (none)) else (if x157003 = true then (lempel_Unslide.l2 k x9 x96 x97 (wrap64 (x98 + 1))) else (if x9.length < 140737488355328 then (lempel_Unslide.l2 k (x9 ++ [x157002]) x96 x97 (wrap64 (x98 + 1))) else (none)))
end
def lempel_Unslide.f (k : Nat) (l0 : List (S45)) : Option (ByteArray × Option Int) := if (l0.length : Int) > 4000 then (none) else (lempel_Unslide.l0 k l0 l0 (l0.length : Int) 0)
theorem lempel_Unslide.mono_l : ∀ k, (∀ y0 y1 y2 y3, LeO (lempel_Unslide.l0 k y0 y1 y2 y3) (lempel_Unslide.l0 (k + 1) y0 y1 y2 y3)) ∧ (∀ y0 y1 y2 y3 y4, LeO (lempel_Unslide.l1 k y0 y1 y2 y3 y4) (lempel_Unslide.l1 (k + 1) y0 y1 y2 y3 y4)) ∧ (∀ y0 y1 y2 y3 y4 y5 y6 y7 y8 y9, LeO (lempel_Unslide.j2 k y0 y1 y2 y3 y4 y5 y6 y7 y8 y9) (lempel_Unslide.j2 (k + 1) y0 y1 y2 y3 y4 y5 y6 y7 y8 y9)) ∧ (∀ y0 y1 y2 y3, LeO (lempel_Unslide.l2 k y0 y1 y2 y3) (lempel_Unslide.l2 (k + 1) y0 y1 y2 y3)) ∧ (∀ y0 y1 y2 y3 y4 y5 y6 y7 y8 y9, LeO (lempel_Unslide.l3 k y0 y1 y2 y3 y4 y5 y6 y7 y8 y9) (lempel_Unslide.l3 (k + 1) y0 y1 y2 y3 y4 y5 y6 y7 y8 y9))
  | 0 => ⟨fun _ _ _ _ r h => by simp [lempel_Unslide.l0] at h, fun _ _ _ _ _ r h => by simp [lempel_Unslide.l1] at h, fun _ _ _ _ _ _ _ _ _ _ r h => by simp [lempel_Unslide.j2] at h, fun _ _ _ _ r h => by simp [lempel_Unslide.l2] at h, fun _ _ _ _ _ _ _ _ _ _ r h => by simp [lempel_Unslide.l3] at h⟩
  | k + 1 => by
    obtain ⟨ih0, ih1, ih2, ih3, ih4⟩ := lempel_Unslide.mono_l k
    refine ⟨?_, ?_, ?_, ?_, ?_⟩
    · intro y0 y1 y2 y3
      unfold lempel_Unslide.l0
      repeat' first
      | (with_reducible exact ih0 _ _ _ _)
      | (with_reducible exact ih1 _ _ _ _ _)
      | (with_reducible exact ih2 _ _ _ _ _ _ _ _ _ _)
      | (with_reducible exact ih3 _ _ _ _)
      | (with_reducible exact ih4 _ _ _ _ _ _ _ _ _ _)
      | (with_reducible exact LeO.refl _)
      | (with_reducible exact LeO.none _)
      | (with_reducible refine LeO.ite ?_ ?_)
      | (with_reducible refine LeO.bind ?_ (fun _ => ?_))
      | exact ih0 _ _ _ _
      | exact ih1 _ _ _ _ _
      | exact ih2 _ _ _ _ _ _ _ _ _ _
      | exact ih3 _ _ _ _
      | exact ih4 _ _ _ _ _ _ _ _ _ _
      | exact LeO.none _
      | refine LeO.ite ?_ ?_
      | refine LeO.bind ?_ (fun _ => ?_)
    · intro y0 y1 y2 y3 y4
      unfold lempel_Unslide.l1
      repeat' first
      | (with_reducible exact ih0 _ _ _ _)
      | (with_reducible exact ih1 _ _ _ _ _)
      | (with_reducible exact ih2 _ _ _ _ _ _ _ _ _ _)
      | (with_reducible exact ih3 _ _ _ _)
      | (with_reducible exact ih4 _ _ _ _ _ _ _ _ _ _)
      | (with_reducible exact LeO.refl _)
      | (with_reducible exact LeO.none _)
      | (with_reducible refine LeO.ite ?_ ?_)
      | (with_reducible refine LeO.bind ?_ (fun _ => ?_))
      | exact ih0 _ _ _ _
      | exact ih1 _ _ _ _ _
      | exact ih2 _ _ _ _ _ _ _ _ _ _
      | exact ih3 _ _ _ _
      | exact ih4 _ _ _ _ _ _ _ _ _ _
      | exact LeO.none _
      | refine LeO.ite ?_ ?_
      | refine LeO.bind ?_ (fun _ => ?_)
    · intro y0 y1 y2 y3 y4 y5 y6 y7 y8 y9
      unfold lempel_Unslide.j2
      repeat' first
      | (with_reducible exact ih0 _ _ _ _)
      | (with_reducible exact ih1 _ _ _ _ _)
      | (with_reducible exact ih2 _ _ _ _ _ _ _ _ _ _)
      | (with_reducible exact ih3 _ _ _ _)
      | (with_reducible exact ih4 _ _ _ _ _ _ _ _ _ _)
      | (with_reducible exact LeO.refl _)
      | (with_reducible exact LeO.none _)
      | (with_reducible refine LeO.ite ?_ ?_)
      | (with_reducible refine LeO.bind ?_ (fun _ => ?_))
      | exact ih0 _ _ _ _
      | exact ih1 _ _ _ _ _
      | exact ih2 _ _ _ _ _ _ _ _ _ _
      | exact ih3 _ _ _ _
      | exact ih4 _ _ _ _ _ _ _ _ _ _
      | exact LeO.none _
      | refine LeO.ite ?_ ?_
      | refine LeO.bind ?_ (fun _ => ?_)
    · intro y0 y1 y2 y3
      unfold lempel_Unslide.l2
      repeat' first
      | (with_reducible exact ih0 _ _ _ _)
      | (with_reducible exact ih1 _ _ _ _ _)
      | (with_reducible exact ih2 _ _ _ _ _ _ _ _ _ _)
      | (with_reducible exact ih3 _ _ _ _)
      | (with_reducible exact ih4 _ _ _ _ _ _ _ _ _ _)
      | (with_reducible exact LeO.refl _)
      | (with_reducible exact LeO.none _)
      | (with_reducible refine LeO.ite ?_ ?_)
      | (with_reducible refine LeO.bind ?_ (fun _ => ?_))
      | exact ih0 _ _ _ _
      | exact ih1 _ _ _ _ _
      | exact ih2 _ _ _ _ _ _ _ _ _ _
      | exact ih3 _ _ _ _
      | exact ih4 _ _ _ _ _ _ _ _ _ _
      | exact LeO.none _
      | refine LeO.ite ?_ ?_
      | refine LeO.bind ?_ (fun _ => ?_)
    · intro y0 y1 y2 y3 y4 y5 y6 y7 y8 y9
      unfold lempel_Unslide.l3
      repeat' first
      | (with_reducible exact ih0 _ _ _ _)
      | (with_reducible exact ih1 _ _ _ _ _)
      | (with_reducible exact ih2 _ _ _ _ _ _ _ _ _ _)
      | (with_reducible exact ih3 _ _ _ _)
      | (with_reducible exact ih4 _ _ _ _ _ _ _ _ _ _)
      | (with_reducible exact LeO.refl _)
      | (with_reducible exact LeO.none _)
      | (with_reducible refine LeO.ite ?_ ?_)
      | (with_reducible refine LeO.bind ?_ (fun _ => ?_))
      | exact ih0 _ _ _ _
      | exact ih1 _ _ _ _ _
      | exact ih2 _ _ _ _ _ _ _ _ _ _
      | exact ih3 _ _ _ _
      | exact ih4 _ _ _ _ _ _ _ _ _ _
      | exact LeO.none _
      | refine LeO.ite ?_ ?_
      | refine LeO.bind ?_ (fun _ => ?_)
theorem lempel_Unslide.mono : ∀ a0 k, LeO (lempel_Unslide.f k a0) (lempel_Unslide.f (k + 1) a0) := by
  intro a0 k
  obtain ⟨ih0, ih1, ih2, ih3, ih4⟩ := lempel_Unslide.mono_l k
  unfold lempel_Unslide.f
  repeat' first
      | (with_reducible exact ih0 _ _ _ _)
      | (with_reducible exact ih1 _ _ _ _ _)
      | (with_reducible exact ih2 _ _ _ _ _ _ _ _ _ _)
      | (with_reducible exact ih3 _ _ _ _)
      | (with_reducible exact ih4 _ _ _ _ _ _ _ _ _ _)
      | (with_reducible exact LeO.refl _)
      | (with_reducible exact LeO.none _)
      | (with_reducible refine LeO.ite ?_ ?_)
      | (with_reducible refine LeO.bind ?_ (fun _ => ?_))
      | exact ih0 _ _ _ _
      | exact ih1 _ _ _ _ _
      | exact ih2 _ _ _ _ _ _ _ _ _ _
      | exact ih3 _ _ _ _
      | exact ih4 _ _ _ _ _ _ _ _ _ _
      | exact LeO.none _
      | refine LeO.ite ?_ ?_
      | refine LeO.bind ?_ (fun _ => ?_)
set_option maxHeartbeats 8000000 in
set_option maxRecDepth 100000 in
theorem lempel_Unslide.calls (k : Nat) (A0 : Option Addr) (c0 : Nat) (l0 : List (S45)) (r1 : ByteArray) (r2 : Option Int) (w : World) (hr0 : Kd.C k45 w A0 l0.length l0) (hc0 : l0.length ≤ c0) (h : lempel_Unslide.f k l0 = some (r1, r2)) :
    Calls Tryd.prog 12 #[.slice A0 l0.length c0] w fun e w' => e = .returned (.tuple #[.string r1, errW r2]) ∧ Below w.heap.size w w' := by
  have hu45 := Tryd.underlying45
  have HR0 := Aside0.mk hr0
  have HC0 := Aside0.mk hc0
  clear hr0 hc0
  have HB := Aside0.mk (Below.refl w.heap.size w)
  have H : (if (l0.length : Int) > 4000 then (none) else (lempel_Unslide.l0 k l0 l0 (l0.length : Int) 0)) = some (r1, r2) := h
  clear h
  by_cases c2 : (l0.length : Int) > 4000
  · rw [if_pos c2] at H
    exact absurd H (by simp)
  · rw [if_neg c2] at H
    have c2b0 : decide (4000 < (l0.length : Int)) = false := decide_eq_false c2
    have c2b1 : decide (4000 < l0.length) = false := decide_eq_false (by omega)
    clear c2
    have H' := Aside0.mk H
    clear H
    go_enter Tryd.func12, Tryd.ntmps12
    go_wp2
    go_loopg [18] k (fun kq v18 w' => ∃ (x18_1 : Int), v18 = .int .i64 x18_1 ∧ Aside0 (lempel_Unslide.l0 kq l0 l0 (l0.length : Int) x18_1 = some (r1, r2)) ∧ Aside0 (kq ≤ k) ∧ Aside0 (Below w.heap.size w w'))
    case atStart => exact ⟨(0), (by first | rfl | (simp; done) | (simp [*]; done)), H', ⟨Nat.le_refl _⟩, ⟨by repeat (first | (with_reducible first | exact HB.out | apply below_alloc | apply pw_below_drewN | apply below_drew1) | exact HB.out)⟩⟩
    case round =>
      clear H'
      try clear c1
      try clear c2
      try clear c2b0
      try clear c2b1
      try clear p2
      obtain ⟨x18_1, rfl, HA, HK1, HB⟩ := hrel
      cases gk with
      | zero => exact absurd HA.out (by simp [lempel_Unslide.l0])
      | succ k1 =>
        have H := HA.out
        clear HA
        simp only [lempel_Unslide.l0] at H
        by_cases c3 : x18_1 < (l0.length : Int)
        · rw [if_pos c3] at H
          have c3b0 : decide (x18_1 < (l0.length : Int)) = true := decide_eq_true c3
          clear c3
          by_cases c4 : 0 ≤ x18_1
          · rw [if_pos c4] at H
            have c4b0 : decide (0 ≤ x18_1) = true := decide_eq_true c4
            clear c4
            by_cases c5 : x18_1 < (l0.length : Int)
            · rw [if_pos c5] at H
              have c5b0 : decide (x18_1 < (l0.length : Int)) = true := decide_eq_true c5
              clear c5
              by_cases c6 : ((rd_T45 l0 x18_1).f1) > 4000
              · rw [if_pos c6] at H
                exact absurd H (by simp)
              · rw [if_neg c6] at H
                have c6b0 : decide (4000 < ((rd_T45 l0 x18_1).f1)) = false := decide_eq_false c6
                clear c6
                have H' := Aside0.mk H
                clear H
                have p151 : 0 ≤ (x18_1 : Int) := of_decide_eq_true (by first | (with_reducible assumption) | assumption)
                have q151 : x18_1 < (l0.length : Int) := of_decide_eq_true (by first | (with_reducible assumption) | assumption)
                obtain ⟨ad151, e151, hx151_0, hx151_1, hx151_2, hx151_3⟩ := at_T45 HR0.out x18_1 p151 q151
                cases e151
                replace hx151_0 := (HB.out.cell (World.block_lt_of_cell? w _ hx151_0)).trans hx151_0
                replace hx151_1 := (HB.out.cell (World.block_lt_of_cell? w _ hx151_1)).trans hx151_1
                replace hx151_2 := (HB.out.cell (World.block_lt_of_cell? w _ hx151_2)).trans hx151_2
                replace hx151_3 := (HB.out.cell (World.block_lt_of_cell? w _ hx151_3)).trans hx151_3
                replace p151 := eq_true p151
                replace q151 := eq_true q151
                go_wp2_with (first | ((with_reducible refine gate_dst (N := 5) rfl ?_); (try (refine gate_guard (by rfl) ?_; dsimp only)); refine box_event ?hg (N := 5) ?hd (cs := #[.int .i64 0, .int .i64 0, .int .u8 0, .bool false]) (t := 45) ?hr ?_; (case hd => rfl); (case hg => rfl); (case hr => first | (go_simp; done) | (go_simp; rfl)); intro gb152 hg w7 hbox hb; have n0_ := Aside0.mk (below_step (by repeat (first | (with_reducible first | exact HB.out | apply below_alloc | apply pw_below_drewN | apply below_drew1) | exact HB.out)) hb); have n1_ := Aside0.mk (hbox); have n2_ := Aside0.mk ((by rw [hg]; exact (below_size (by repeat (first | (with_reducible first | exact HB.out | apply below_alloc | apply pw_below_drewN | apply below_drew1) | exact HB.out))) : w.heap.size ≤ gb152)); have n3_ := Aside0.mk ((by rw [hg]; exact (below_size (by repeat (first | (with_reducible first | exact HB.out | apply below_alloc | apply pw_below_drewN | apply below_drew1) | exact HB.out))) : w.heap.size ≤ gb152)); clear HB; have HB := n0_; have BK152 := n1_; have GW152 := n2_; have GE152 := n3_; clear n0_ n1_ n2_ n3_; clear hb hbox hg; have hcz8_0 : w7.cell? ⟨gb152, 0, none⟩ = some (.int .i64 0) := (blk_cell BK152.out 0).trans rfl; have hcz8_1 : w7.cell? ⟨gb152, 1, none⟩ = some (.int .i64 0) := (blk_cell BK152.out 1).trans rfl; have hcz8_2 : w7.cell? ⟨gb152, 2, none⟩ = some (.int .u8 0) := (blk_cell BK152.out 2).trans rfl; have hcz8_3 : w7.cell? ⟨gb152, 3, none⟩ = some (.bool false) := (blk_cell BK152.out 3).trans rfl; have hfz8_0 := blk_frozen BK152.out 0; have hfz8_1 := blk_frozen BK152.out 1; have hfz8_2 := blk_frozen BK152.out 2; have hfz8_3 := blk_frozen BK152.out 3))
                go_roundg k1
                case measure => have := HK1.out; omega
                case rel => exact ⟨(wrap64 (x18_1 + 1)), (by first | rfl | (simp; done) | (simp [*]; done)), H', ⟨by have := HK1.out; omega⟩, ⟨by repeat (first | (with_reducible first | exact HB.out | apply below_alloc | apply pw_below_drewN | apply below_drew1 | refine below_set ?_ GE152.out) | exact HB.out)⟩⟩
            · rw [if_neg c5] at H
              exact absurd H (by simp)
          · rw [if_neg c4] at H
            exact absurd H (by simp)
        · rw [if_neg c3] at H
          have c3b0 : decide (x18_1 < (l0.length : Int)) = false := decide_eq_false c3
          clear c3
          have H' := Aside0.mk H
          clear H
          go_wp2
          go_loopg [6, 29] k1 (fun kq v6 v29 w' => ∃ (x6_2 : Int) (x29_2 : Int), v6 = .int .i64 x6_2 ∧ v29 = .int .i64 x29_2 ∧ Aside0 (lempel_Unslide.l1 kq l0 x6_2 l0 (l0.length : Int) x29_2 = some (r1, r2)) ∧ Aside0 (kq ≤ k1) ∧ Aside0 (Below w.heap.size w w'))
          case atStart => exact ⟨(0), (0), (by first | rfl | (simp; done) | (simp [*]; done)), (by first | rfl | (simp; done) | (simp [*]; done)), H', ⟨Nat.le_refl _⟩, ⟨by repeat (first | (with_reducible first | exact HB.out | apply below_alloc | apply pw_below_drewN | apply below_drew1) | exact HB.out)⟩⟩
          case round =>
            clear H'
            try clear c1
            try clear p1
            try clear q1
            try clear hx1
            try clear c2
            try clear c2b0
            try clear c2b1
            try clear p2
            try clear c3
            try clear c3b0
            try clear c4
            try clear c4b0
            try clear c5
            try clear c5b0
            try clear c6
            try clear c6b0
            try clear p6
            try clear hcz8_0
            try clear hcz8_1
            try clear hcz8_2
            try clear hcz8_3
            try clear hfz8_0
            try clear hfz8_1
            try clear hfz8_2
            try clear hfz8_3
            try clear hx151_0
            try clear hx151_1
            try clear hx151_2
            try clear hx151_3
            try clear p151
            try clear p2
            try clear q151
            obtain ⟨x6_2, x29_2, rfl, rfl, HA, HK2, HB⟩ := hrel
            cases gk with
            | zero => exact absurd HA.out (by simp [lempel_Unslide.l1])
            | succ k2 =>
              have H := HA.out
              clear HA
              simp only [lempel_Unslide.l1] at H
              by_cases c9 : x29_2 < (l0.length : Int)
              · rw [if_pos c9] at H
                have c9b0 : decide (x29_2 < (l0.length : Int)) = true := decide_eq_true c9
                clear c9
                by_cases c10 : 0 ≤ x29_2
                · rw [if_pos c10] at H
                  have c10b0 : decide (0 ≤ x29_2) = true := decide_eq_true c10
                  clear c10
                  by_cases c11 : x29_2 < (l0.length : Int)
                  · rw [if_pos c11] at H
                    have c11b0 : decide (x29_2 < (l0.length : Int)) = true := decide_eq_true c11
                    clear c11
                    have HC12 := Aside0.mk H
                    clear H
                    have p153 : 0 ≤ (x29_2 : Int) := of_decide_eq_true (by first | (with_reducible assumption) | assumption)
                    have q153 : x29_2 < (l0.length : Int) := of_decide_eq_true (by first | (with_reducible assumption) | assumption)
                    obtain ⟨ad153, e153, hx153_0, hx153_1, hx153_2, hx153_3⟩ := at_T45 HR0.out x29_2 p153 q153
                    cases e153
                    replace hx153_0 := (HB.out.cell (World.block_lt_of_cell? w _ hx153_0)).trans hx153_0
                    replace hx153_1 := (HB.out.cell (World.block_lt_of_cell? w _ hx153_1)).trans hx153_1
                    replace hx153_2 := (HB.out.cell (World.block_lt_of_cell? w _ hx153_2)).trans hx153_2
                    replace hx153_3 := (HB.out.cell (World.block_lt_of_cell? w _ hx153_3)).trans hx153_3
                    replace p153 := eq_true p153
                    replace q153 := eq_true q153
                    go_upto_region 13 with (first | ((with_reducible refine gate_dst (N := 8) rfl ?_); (try (refine gate_guard (by rfl) ?_; dsimp only)); refine box_event ?hg (N := 8) ?hd (cs := #[.int .i64 0, .int .i64 0, .int .u8 0, .bool false]) (t := 45) ?hr ?_; (case hd => rfl); (case hg => rfl); (case hr => first | (go_simp; done) | (go_simp; rfl)); intro gb154 hg w13 hbox hb; have n0_ := Aside0.mk (below_step (by repeat (first | (with_reducible first | exact HB.out | apply below_alloc | apply pw_below_drewN | apply below_drew1) | exact HB.out)) hb); have n1_ := Aside0.mk (hbox); have n2_ := Aside0.mk ((by rw [hg]; exact (below_size (by repeat (first | (with_reducible first | exact HB.out | apply below_alloc | apply pw_below_drewN | apply below_drew1) | exact HB.out))) : w.heap.size ≤ gb154)); have n3_ := Aside0.mk ((by rw [hg]; exact (below_size (by repeat (first | (with_reducible first | exact HB.out | apply below_alloc | apply pw_below_drewN | apply below_drew1) | exact HB.out))) : w.heap.size ≤ gb154)); clear HB; have HB := n0_; have BK154 := n1_; have GW154 := n2_; have GE154 := n3_; clear n0_ n1_ n2_ n3_; clear hb hbox hg; have hcz14_0 : w13.cell? ⟨gb154, 0, none⟩ = some (.int .i64 0) := (blk_cell BK154.out 0).trans rfl; have hcz14_1 : w13.cell? ⟨gb154, 1, none⟩ = some (.int .i64 0) := (blk_cell BK154.out 1).trans rfl; have hcz14_2 : w13.cell? ⟨gb154, 2, none⟩ = some (.int .u8 0) := (blk_cell BK154.out 2).trans rfl; have hcz14_3 : w13.cell? ⟨gb154, 3, none⟩ = some (.bool false) := (blk_cell BK154.out 3).trans rfl; have hfz14_0 := blk_frozen BK154.out 0; have hfz14_1 := blk_frozen BK154.out 1; have hfz14_2 := blk_frozen BK154.out 2; have hfz14_3 := blk_frozen BK154.out 3))
                    (try simp only [Act.put, List.setIfInBounds_toArray, List.set_cons_zero, List.set_cons_succ])
                    go_cut [77] (fun v77 wc => ∃ (kq : Nat) (x77_11 : Bool), v77 = .bool x77_11 ∧ Aside0 (lempel_Unslide.j2 kq l0 x6_2 l0 (l0.length : Int) x29_2 x77_11 ((rd_T45 l0 x29_2).f0) ((rd_T45 l0 x29_2).f1) ((rd_T45 l0 x29_2).f2) ((rd_T45 l0 x29_2).f3) = some (r1, r2)) ∧ Aside0 (kq ≤ k2) ∧ Aside0 (wc.heap[gb154]? = some (.cells #[.int .i64 ((rd_T45 l0 x29_2).f0), .int .i64 ((rd_T45 l0 x29_2).f1), .int .u8 ((rd_T45 l0 x29_2).f2), .bool ((rd_T45 l0 x29_2).f3)] 45 (0, 0))) ∧ Aside0 (Below w.heap.size w wc))
                    case first =>
                      have H := HC12.out
                      clear HC12
                      by_cases c15 : ((rd_T45 l0 x29_2).f0) < 0
                      · rw [if_pos c15] at H
                        have c15b0 : decide (((rd_T45 l0 x29_2).f0) < 0) = true := decide_eq_true c15
                        clear c15
                        (first | rw [c15b0] | (simp only [i64_w, i32_w]; rw [c15b0]) | skip)
                        have H' := Aside0.mk H
                        clear H
                        have hcz16_0 : w13.cell? ⟨gb154, 0, none⟩ = some (.int .i64 0) := (blk_cell BK154.out 0).trans rfl
                        have hcz16_1 : w13.cell? ⟨gb154, 1, none⟩ = some (.int .i64 0) := (blk_cell BK154.out 1).trans rfl
                        have hcz16_2 : w13.cell? ⟨gb154, 2, none⟩ = some (.int .u8 0) := (blk_cell BK154.out 2).trans rfl
                        have hcz16_3 : w13.cell? ⟨gb154, 3, none⟩ = some (.bool false) := (blk_cell BK154.out 3).trans rfl
                        have hfz16_0 := blk_frozen BK154.out 0
                        have hfz16_1 := blk_frozen BK154.out 1
                        have hfz16_2 := blk_frozen BK154.out 2
                        have hfz16_3 := blk_frozen BK154.out 3
                        go_wp2
                        go_meet
                        case rel => exact ⟨_, (true), (by first | rfl | (simp; done) | (simp [*]; done)), H', ⟨by have := HK1.out; have := HK2.out; first | omega | exact Nat.le_refl _⟩, ⟨by (with_reducible repeat (first | refine blk_drewN ?_ _ | refine blk_drew ?_ | refine blk_alloc ?_ _)); refine blk_put (cs := #[.int .i64 ((rd_T45 l0 x29_2).f0), .int .i64 ((rd_T45 l0 x29_2).f1), .int .u8 ((rd_T45 l0 x29_2).f2), .bool false]) ?_ 3 _ rfl; (with_reducible repeat (first | refine blk_drewN ?_ _ | refine blk_drew ?_ | refine blk_alloc ?_ _)); refine blk_put (cs := #[.int .i64 ((rd_T45 l0 x29_2).f0), .int .i64 ((rd_T45 l0 x29_2).f1), .int .u8 0, .bool false]) ?_ 2 _ rfl; (with_reducible repeat (first | refine blk_drewN ?_ _ | refine blk_drew ?_ | refine blk_alloc ?_ _)); refine blk_put (cs := #[.int .i64 ((rd_T45 l0 x29_2).f0), .int .i64 0, .int .u8 0, .bool false]) ?_ 1 _ rfl; (with_reducible repeat (first | refine blk_drewN ?_ _ | refine blk_drew ?_ | refine blk_alloc ?_ _)); refine blk_put (cs := #[.int .i64 0, .int .i64 0, .int .u8 0, .bool false]) ?_ 0 _ rfl; (with_reducible repeat (first | refine blk_drewN ?_ _ | refine blk_drew ?_ | refine blk_alloc ?_ _)); exact BK154.out⟩, ⟨by repeat (first | (with_reducible first | exact HB.out | apply below_alloc | apply pw_below_drewN | apply below_drew1 | refine below_set ?_ GE154.out) | exact HB.out)⟩⟩
                      · rw [if_neg c15] at H
                        have c15b0 : decide (((rd_T45 l0 x29_2).f0) < 0) = false := decide_eq_false c15
                        clear c15
                        (first | rw [c15b0] | (simp only [i64_w, i32_w]; rw [c15b0]) | skip)
                        by_cases c17 : ((rd_T45 l0 x29_2).f0) > x6_2
                        · rw [if_pos c17] at H
                          have c17b0 : decide (x6_2 < ((rd_T45 l0 x29_2).f0)) = true := decide_eq_true c17
                          clear c17
                          have H' := Aside0.mk H
                          clear H
                          have hcz18_0 : w13.cell? ⟨gb154, 0, none⟩ = some (.int .i64 0) := (blk_cell BK154.out 0).trans rfl
                          have hcz18_1 : w13.cell? ⟨gb154, 1, none⟩ = some (.int .i64 0) := (blk_cell BK154.out 1).trans rfl
                          have hcz18_2 : w13.cell? ⟨gb154, 2, none⟩ = some (.int .u8 0) := (blk_cell BK154.out 2).trans rfl
                          have hcz18_3 : w13.cell? ⟨gb154, 3, none⟩ = some (.bool false) := (blk_cell BK154.out 3).trans rfl
                          have hfz18_0 := blk_frozen BK154.out 0
                          have hfz18_1 := blk_frozen BK154.out 1
                          have hfz18_2 := blk_frozen BK154.out 2
                          have hfz18_3 := blk_frozen BK154.out 3
                          go_wp2
                          go_meet
                          case rel => exact ⟨_, (true), (by first | rfl | (simp; done) | (simp [*]; done)), H', ⟨by have := HK1.out; have := HK2.out; first | omega | exact Nat.le_refl _⟩, ⟨by (with_reducible repeat (first | refine blk_drewN ?_ _ | refine blk_drew ?_ | refine blk_alloc ?_ _)); refine blk_put (cs := #[.int .i64 ((rd_T45 l0 x29_2).f0), .int .i64 ((rd_T45 l0 x29_2).f1), .int .u8 ((rd_T45 l0 x29_2).f2), .bool false]) ?_ 3 _ rfl; (with_reducible repeat (first | refine blk_drewN ?_ _ | refine blk_drew ?_ | refine blk_alloc ?_ _)); refine blk_put (cs := #[.int .i64 ((rd_T45 l0 x29_2).f0), .int .i64 ((rd_T45 l0 x29_2).f1), .int .u8 0, .bool false]) ?_ 2 _ rfl; (with_reducible repeat (first | refine blk_drewN ?_ _ | refine blk_drew ?_ | refine blk_alloc ?_ _)); refine blk_put (cs := #[.int .i64 ((rd_T45 l0 x29_2).f0), .int .i64 0, .int .u8 0, .bool false]) ?_ 1 _ rfl; (with_reducible repeat (first | refine blk_drewN ?_ _ | refine blk_drew ?_ | refine blk_alloc ?_ _)); refine blk_put (cs := #[.int .i64 0, .int .i64 0, .int .u8 0, .bool false]) ?_ 0 _ rfl; (with_reducible repeat (first | refine blk_drewN ?_ _ | refine blk_drew ?_ | refine blk_alloc ?_ _)); exact BK154.out⟩, ⟨by repeat (first | (with_reducible first | exact HB.out | apply below_alloc | apply pw_below_drewN | apply below_drew1 | refine below_set ?_ GE154.out) | exact HB.out)⟩⟩
                        · rw [if_neg c17] at H
                          have c17b0 : decide (x6_2 < ((rd_T45 l0 x29_2).f0)) = false := decide_eq_false c17
                          clear c17
                          by_cases c19 : ((rd_T45 l0 x29_2).f1) < 0
                          · rw [if_pos c19] at H
                            have c19b0 : decide (((rd_T45 l0 x29_2).f1) < 0) = true := decide_eq_true c19
                            clear c19
                            have H' := Aside0.mk H
                            clear H
                            have hcz20_0 : w13.cell? ⟨gb154, 0, none⟩ = some (.int .i64 0) := (blk_cell BK154.out 0).trans rfl
                            have hcz20_1 : w13.cell? ⟨gb154, 1, none⟩ = some (.int .i64 0) := (blk_cell BK154.out 1).trans rfl
                            have hcz20_2 : w13.cell? ⟨gb154, 2, none⟩ = some (.int .u8 0) := (blk_cell BK154.out 2).trans rfl
                            have hcz20_3 : w13.cell? ⟨gb154, 3, none⟩ = some (.bool false) := (blk_cell BK154.out 3).trans rfl
                            have hfz20_0 := blk_frozen BK154.out 0
                            have hfz20_1 := blk_frozen BK154.out 1
                            have hfz20_2 := blk_frozen BK154.out 2
                            have hfz20_3 := blk_frozen BK154.out 3
                            go_wp2
                            go_meet
                            case rel => exact ⟨_, (true), (by first | rfl | (simp; done) | (simp [*]; done)), H', ⟨by have := HK1.out; have := HK2.out; first | omega | exact Nat.le_refl _⟩, ⟨by (with_reducible repeat (first | refine blk_drewN ?_ _ | refine blk_drew ?_ | refine blk_alloc ?_ _)); refine blk_put (cs := #[.int .i64 ((rd_T45 l0 x29_2).f0), .int .i64 ((rd_T45 l0 x29_2).f1), .int .u8 ((rd_T45 l0 x29_2).f2), .bool false]) ?_ 3 _ rfl; (with_reducible repeat (first | refine blk_drewN ?_ _ | refine blk_drew ?_ | refine blk_alloc ?_ _)); refine blk_put (cs := #[.int .i64 ((rd_T45 l0 x29_2).f0), .int .i64 ((rd_T45 l0 x29_2).f1), .int .u8 0, .bool false]) ?_ 2 _ rfl; (with_reducible repeat (first | refine blk_drewN ?_ _ | refine blk_drew ?_ | refine blk_alloc ?_ _)); refine blk_put (cs := #[.int .i64 ((rd_T45 l0 x29_2).f0), .int .i64 0, .int .u8 0, .bool false]) ?_ 1 _ rfl; (with_reducible repeat (first | refine blk_drewN ?_ _ | refine blk_drew ?_ | refine blk_alloc ?_ _)); refine blk_put (cs := #[.int .i64 0, .int .i64 0, .int .u8 0, .bool false]) ?_ 0 _ rfl; (with_reducible repeat (first | refine blk_drewN ?_ _ | refine blk_drew ?_ | refine blk_alloc ?_ _)); exact BK154.out⟩, ⟨by repeat (first | (with_reducible first | exact HB.out | apply below_alloc | apply pw_below_drewN | apply below_drew1 | refine below_set ?_ GE154.out) | exact HB.out)⟩⟩
                          · rw [if_neg c19] at H
                            have c19b0 : decide (((rd_T45 l0 x29_2).f1) < 0) = false := decide_eq_false c19
                            clear c19
                            by_cases c21 : ((((rd_T45 l0 x29_2).f0) == 0) != (((rd_T45 l0 x29_2).f1) == 0)) = true
                            · rw [if_pos c21] at H
                              have c21b0 : ((((rd_T45 l0 x29_2).f0) == 0) != (((rd_T45 l0 x29_2).f1) == 0)) = true := c21
                              (try (have c21b1 : decide ((((rd_T45 l0 x29_2).f0) == 0) = (((rd_T45 l0 x29_2).f1) == 0)) = false := by simpa using c21))
                              (try (have c21b2 : ((((rd_T45 l0 x29_2).f0) == 0) == (((rd_T45 l0 x29_2).f1) == 0)) = false := by simpa using c21))
                              (try (have c21b3 : ¬ ((((rd_T45 l0 x29_2).f0) == 0) = (((rd_T45 l0 x29_2).f1) == 0)) := by simpa using c21))
                              clear c21
                              have H' := Aside0.mk H
                              clear H
                              have hcz22_0 : w13.cell? ⟨gb154, 0, none⟩ = some (.int .i64 0) := (blk_cell BK154.out 0).trans rfl
                              have hcz22_1 : w13.cell? ⟨gb154, 1, none⟩ = some (.int .i64 0) := (blk_cell BK154.out 1).trans rfl
                              have hcz22_2 : w13.cell? ⟨gb154, 2, none⟩ = some (.int .u8 0) := (blk_cell BK154.out 2).trans rfl
                              have hcz22_3 : w13.cell? ⟨gb154, 3, none⟩ = some (.bool false) := (blk_cell BK154.out 3).trans rfl
                              have hfz22_0 := blk_frozen BK154.out 0
                              have hfz22_1 := blk_frozen BK154.out 1
                              have hfz22_2 := blk_frozen BK154.out 2
                              have hfz22_3 := blk_frozen BK154.out 3
                              go_wp2
                              go_meet
                              case rel => exact ⟨_, (true), (by first | rfl | (simp; done) | (simp [*]; done)), H', ⟨by have := HK1.out; have := HK2.out; first | omega | exact Nat.le_refl _⟩, ⟨by (with_reducible repeat (first | refine blk_drewN ?_ _ | refine blk_drew ?_ | refine blk_alloc ?_ _)); refine blk_put (cs := #[.int .i64 ((rd_T45 l0 x29_2).f0), .int .i64 ((rd_T45 l0 x29_2).f1), .int .u8 ((rd_T45 l0 x29_2).f2), .bool false]) ?_ 3 _ rfl; (with_reducible repeat (first | refine blk_drewN ?_ _ | refine blk_drew ?_ | refine blk_alloc ?_ _)); refine blk_put (cs := #[.int .i64 ((rd_T45 l0 x29_2).f0), .int .i64 ((rd_T45 l0 x29_2).f1), .int .u8 0, .bool false]) ?_ 2 _ rfl; (with_reducible repeat (first | refine blk_drewN ?_ _ | refine blk_drew ?_ | refine blk_alloc ?_ _)); refine blk_put (cs := #[.int .i64 ((rd_T45 l0 x29_2).f0), .int .i64 0, .int .u8 0, .bool false]) ?_ 1 _ rfl; (with_reducible repeat (first | refine blk_drewN ?_ _ | refine blk_drew ?_ | refine blk_alloc ?_ _)); refine blk_put (cs := #[.int .i64 0, .int .i64 0, .int .u8 0, .bool false]) ?_ 0 _ rfl; (with_reducible repeat (first | refine blk_drewN ?_ _ | refine blk_drew ?_ | refine blk_alloc ?_ _)); exact BK154.out⟩, ⟨by repeat (first | (with_reducible first | exact HB.out | apply below_alloc | apply pw_below_drewN | apply below_drew1 | refine below_set ?_ GE154.out) | exact HB.out)⟩⟩
                            · rw [if_neg c21] at H
                              have c21b0 : ((((rd_T45 l0 x29_2).f0) == 0) != (((rd_T45 l0 x29_2).f1) == 0)) = false := by simpa using c21
                              (try (have c21b1 : decide ((((rd_T45 l0 x29_2).f0) == 0) = (((rd_T45 l0 x29_2).f1) == 0)) = true := by simpa using c21))
                              (try (have c21b2 : ((((rd_T45 l0 x29_2).f0) == 0) == (((rd_T45 l0 x29_2).f1) == 0)) = true := by simpa using c21))
                              clear c21
                              obtain ⟨bq23, hbq23⟩ : ∃ b_ : Bool, b_ = ((rd_T45 l0 x29_2).f3) := ⟨_, rfl⟩
                              replace H : (if bq23 = true then (if x29_2 < (wrap64 ((l0.length : Int) - 1)) then (lempel_Unslide.j2 k2 l0 x6_2 l0 (l0.length : Int) x29_2 true ((rd_T45 l0 x29_2).f0) ((rd_T45 l0 x29_2).f1) ((rd_T45 l0 x29_2).f2) bq23) else (if ((rd_T45 l0 x29_2).f1) = 0 then (lempel_Unslide.j2 k2 l0 x6_2 l0 (l0.length : Int) x29_2 true ((rd_T45 l0 x29_2).f0) ((rd_T45 l0 x29_2).f1) ((rd_T45 l0 x29_2).f2) bq23) else (lempel_Unslide.j2 k2 l0 x6_2 l0 (l0.length : Int) x29_2 (((rd_T45 l0 x29_2).f2) != 0) ((rd_T45 l0 x29_2).f0) ((rd_T45 l0 x29_2).f1) ((rd_T45 l0 x29_2).f2) bq23))) else (lempel_Unslide.j2 k2 l0 x6_2 l0 (l0.length : Int) x29_2 false ((rd_T45 l0 x29_2).f0) ((rd_T45 l0 x29_2).f1) ((rd_T45 l0 x29_2).f2) bq23)) = some (r1, r2) := by rw [← hbq23] at H; exact H
                              have Nbq23 := Aside0.mk hbq23
                              clear hbq23
                              by_cases c24 : bq23 = true
                              · subst c24
                                have H1 : (if x29_2 < (wrap64 ((l0.length : Int) - 1)) then (lempel_Unslide.j2 k2 l0 x6_2 l0 (l0.length : Int) x29_2 true ((rd_T45 l0 x29_2).f0) ((rd_T45 l0 x29_2).f1) ((rd_T45 l0 x29_2).f2) true) else (if ((rd_T45 l0 x29_2).f1) = 0 then (lempel_Unslide.j2 k2 l0 x6_2 l0 (l0.length : Int) x29_2 true ((rd_T45 l0 x29_2).f0) ((rd_T45 l0 x29_2).f1) ((rd_T45 l0 x29_2).f2) true) else (lempel_Unslide.j2 k2 l0 x6_2 l0 (l0.length : Int) x29_2 (((rd_T45 l0 x29_2).f2) != 0) ((rd_T45 l0 x29_2).f0) ((rd_T45 l0 x29_2).f1) ((rd_T45 l0 x29_2).f2) true))) = some (r1, r2) := by rw [if_pos rfl] at H; exact H
                                clear H
                                have H := H1
                                clear H1
                                by_cases c25 : x29_2 < (wrap64 ((l0.length : Int) - 1))
                                · rw [if_pos c25] at H
                                  have c25b0 : decide (x29_2 < (wrap64 ((l0.length : Int) - 1))) = true := decide_eq_true c25
                                  clear c25
                                  have H' := Aside0.mk H
                                  clear H
                                  have hcz26_0 : w13.cell? ⟨gb154, 0, none⟩ = some (.int .i64 0) := (blk_cell BK154.out 0).trans rfl
                                  have hcz26_1 : w13.cell? ⟨gb154, 1, none⟩ = some (.int .i64 0) := (blk_cell BK154.out 1).trans rfl
                                  have hcz26_2 : w13.cell? ⟨gb154, 2, none⟩ = some (.int .u8 0) := (blk_cell BK154.out 2).trans rfl
                                  have hcz26_3 : w13.cell? ⟨gb154, 3, none⟩ = some (.bool false) := (blk_cell BK154.out 3).trans rfl
                                  have hfz26_0 := blk_frozen BK154.out 0
                                  have hfz26_1 := blk_frozen BK154.out 1
                                  have hfz26_2 := blk_frozen BK154.out 2
                                  have hfz26_3 := blk_frozen BK154.out 3
                                  have hbf := Nbq23.out.symm
                                  go_wp2
                                  go_meet
                                  case rel => (try rw [hbf]); exact ⟨_, (true), (by first | rfl | (simp; done) | (simp [*]; done)), H', ⟨by have := HK1.out; have := HK2.out; first | omega | exact Nat.le_refl _⟩, ⟨by (with_reducible repeat (first | refine blk_drewN ?_ _ | refine blk_drew ?_ | refine blk_alloc ?_ _)); refine blk_put (cs := #[.int .i64 ((rd_T45 l0 x29_2).f0), .int .i64 ((rd_T45 l0 x29_2).f1), .int .u8 ((rd_T45 l0 x29_2).f2), .bool false]) ?_ 3 _ rfl; (with_reducible repeat (first | refine blk_drewN ?_ _ | refine blk_drew ?_ | refine blk_alloc ?_ _)); refine blk_put (cs := #[.int .i64 ((rd_T45 l0 x29_2).f0), .int .i64 ((rd_T45 l0 x29_2).f1), .int .u8 0, .bool false]) ?_ 2 _ rfl; (with_reducible repeat (first | refine blk_drewN ?_ _ | refine blk_drew ?_ | refine blk_alloc ?_ _)); refine blk_put (cs := #[.int .i64 ((rd_T45 l0 x29_2).f0), .int .i64 0, .int .u8 0, .bool false]) ?_ 1 _ rfl; (with_reducible repeat (first | refine blk_drewN ?_ _ | refine blk_drew ?_ | refine blk_alloc ?_ _)); refine blk_put (cs := #[.int .i64 0, .int .i64 0, .int .u8 0, .bool false]) ?_ 0 _ rfl; (with_reducible repeat (first | refine blk_drewN ?_ _ | refine blk_drew ?_ | refine blk_alloc ?_ _)); exact BK154.out⟩, ⟨by repeat (first | (with_reducible first | exact HB.out | apply below_alloc | apply pw_below_drewN | apply below_drew1 | refine below_set ?_ GE154.out) | exact HB.out)⟩⟩
                                · rw [if_neg c25] at H
                                  have c25b0 : decide (x29_2 < (wrap64 ((l0.length : Int) - 1))) = false := decide_eq_false c25
                                  clear c25
                                  by_cases c27 : ((rd_T45 l0 x29_2).f1) = 0
                                  · rw [if_pos c27] at H
                                    have c27b0 : (((rd_T45 l0 x29_2).f1) == 0) = true := beq_iff_eq.mpr c27
                                    have c27b1 : (((rd_T45 l0 x29_2).f1) != 0) = false := bne_eq_false_iff_eq.mpr c27
                                    clear c27
                                    have H' := Aside0.mk H
                                    clear H
                                    have hcz28_0 : w13.cell? ⟨gb154, 0, none⟩ = some (.int .i64 0) := (blk_cell BK154.out 0).trans rfl
                                    have hcz28_1 : w13.cell? ⟨gb154, 1, none⟩ = some (.int .i64 0) := (blk_cell BK154.out 1).trans rfl
                                    have hcz28_2 : w13.cell? ⟨gb154, 2, none⟩ = some (.int .u8 0) := (blk_cell BK154.out 2).trans rfl
                                    have hcz28_3 : w13.cell? ⟨gb154, 3, none⟩ = some (.bool false) := (blk_cell BK154.out 3).trans rfl
                                    have hfz28_0 := blk_frozen BK154.out 0
                                    have hfz28_1 := blk_frozen BK154.out 1
                                    have hfz28_2 := blk_frozen BK154.out 2
                                    have hfz28_3 := blk_frozen BK154.out 3
                                    have hbf := Nbq23.out.symm
                                    have hz0 : ((rd_T45 l0 x29_2).f0 == 0) = true := by have z := c21b2; rw [c27b0] at z; simpa using z
                                    go_wp2
                                    go_meet
                                    case rel => (try rw [hbf]); exact ⟨_, (true), (by first | rfl | (simp; done) | (simp [*]; done)), H', ⟨by have := HK1.out; have := HK2.out; first | omega | exact Nat.le_refl _⟩, ⟨by (with_reducible repeat (first | refine blk_drewN ?_ _ | refine blk_drew ?_ | refine blk_alloc ?_ _)); refine blk_put (cs := #[.int .i64 ((rd_T45 l0 x29_2).f0), .int .i64 ((rd_T45 l0 x29_2).f1), .int .u8 ((rd_T45 l0 x29_2).f2), .bool false]) ?_ 3 _ rfl; (with_reducible repeat (first | refine blk_drewN ?_ _ | refine blk_drew ?_ | refine blk_alloc ?_ _)); refine blk_put (cs := #[.int .i64 ((rd_T45 l0 x29_2).f0), .int .i64 ((rd_T45 l0 x29_2).f1), .int .u8 0, .bool false]) ?_ 2 _ rfl; (with_reducible repeat (first | refine blk_drewN ?_ _ | refine blk_drew ?_ | refine blk_alloc ?_ _)); refine blk_put (cs := #[.int .i64 ((rd_T45 l0 x29_2).f0), .int .i64 0, .int .u8 0, .bool false]) ?_ 1 _ rfl; (with_reducible repeat (first | refine blk_drewN ?_ _ | refine blk_drew ?_ | refine blk_alloc ?_ _)); refine blk_put (cs := #[.int .i64 0, .int .i64 0, .int .u8 0, .bool false]) ?_ 0 _ rfl; (with_reducible repeat (first | refine blk_drewN ?_ _ | refine blk_drew ?_ | refine blk_alloc ?_ _)); exact BK154.out⟩, ⟨by repeat (first | (with_reducible first | exact HB.out | apply below_alloc | apply pw_below_drewN | apply below_drew1 | refine below_set ?_ GE154.out) | exact HB.out)⟩⟩
                                  · rw [if_neg c27] at H
                                    have c27b0 : (((rd_T45 l0 x29_2).f1) == 0) = false := beq_eq_false_iff_ne.mpr c27
                                    have c27b1 : (((rd_T45 l0 x29_2).f1) != 0) = true := bne_iff_ne.mpr c27
                                    have H' := Aside0.mk H
                                    clear H
                                    have hcz29_0 : w13.cell? ⟨gb154, 0, none⟩ = some (.int .i64 0) := (blk_cell BK154.out 0).trans rfl
                                    have hcz29_1 : w13.cell? ⟨gb154, 1, none⟩ = some (.int .i64 0) := (blk_cell BK154.out 1).trans rfl
                                    have hcz29_2 : w13.cell? ⟨gb154, 2, none⟩ = some (.int .u8 0) := (blk_cell BK154.out 2).trans rfl
                                    have hcz29_3 : w13.cell? ⟨gb154, 3, none⟩ = some (.bool false) := (blk_cell BK154.out 3).trans rfl
                                    have hfz29_0 := blk_frozen BK154.out 0
                                    have hfz29_1 := blk_frozen BK154.out 1
                                    have hfz29_2 := blk_frozen BK154.out 2
                                    have hfz29_3 := blk_frozen BK154.out 3
                                    have hbf := Nbq23.out.symm
                                    have hz0 : ((rd_T45 l0 x29_2).f0 == 0) = false := by have z := c21b2; rw [c27b0] at z; simpa using z
                                    go_wp2
                                    go_meet
                                    case rel => (try rw [hbf]); exact ⟨_, ((((rd_T45 l0 x29_2).f2) != 0)), (by first | rfl | (simp; done) | (simp [*]; done)), H', ⟨by have := HK1.out; have := HK2.out; first | omega | exact Nat.le_refl _⟩, ⟨by (with_reducible repeat (first | refine blk_drewN ?_ _ | refine blk_drew ?_ | refine blk_alloc ?_ _)); refine blk_put (cs := #[.int .i64 ((rd_T45 l0 x29_2).f0), .int .i64 ((rd_T45 l0 x29_2).f1), .int .u8 ((rd_T45 l0 x29_2).f2), .bool false]) ?_ 3 _ rfl; (with_reducible repeat (first | refine blk_drewN ?_ _ | refine blk_drew ?_ | refine blk_alloc ?_ _)); refine blk_put (cs := #[.int .i64 ((rd_T45 l0 x29_2).f0), .int .i64 ((rd_T45 l0 x29_2).f1), .int .u8 0, .bool false]) ?_ 2 _ rfl; (with_reducible repeat (first | refine blk_drewN ?_ _ | refine blk_drew ?_ | refine blk_alloc ?_ _)); refine blk_put (cs := #[.int .i64 ((rd_T45 l0 x29_2).f0), .int .i64 0, .int .u8 0, .bool false]) ?_ 1 _ rfl; (with_reducible repeat (first | refine blk_drewN ?_ _ | refine blk_drew ?_ | refine blk_alloc ?_ _)); refine blk_put (cs := #[.int .i64 0, .int .i64 0, .int .u8 0, .bool false]) ?_ 0 _ rfl; (with_reducible repeat (first | refine blk_drewN ?_ _ | refine blk_drew ?_ | refine blk_alloc ?_ _)); exact BK154.out⟩, ⟨by repeat (first | (with_reducible first | exact HB.out | apply below_alloc | apply pw_below_drewN | apply below_drew1 | refine below_set ?_ GE154.out) | exact HB.out)⟩⟩
                              · replace c24 := Bool.eq_false_iff.mpr c24
                                subst c24
                                have H1 : (lempel_Unslide.j2 k2 l0 x6_2 l0 (l0.length : Int) x29_2 false ((rd_T45 l0 x29_2).f0) ((rd_T45 l0 x29_2).f1) ((rd_T45 l0 x29_2).f2) false) = some (r1, r2) := by rw [if_neg (show ¬ (false = true) by decide)] at H; exact H
                                clear H
                                have H := H1
                                clear H1
                                have H' := Aside0.mk H
                                clear H
                                have hcz30_0 : w13.cell? ⟨gb154, 0, none⟩ = some (.int .i64 0) := (blk_cell BK154.out 0).trans rfl
                                have hcz30_1 : w13.cell? ⟨gb154, 1, none⟩ = some (.int .i64 0) := (blk_cell BK154.out 1).trans rfl
                                have hcz30_2 : w13.cell? ⟨gb154, 2, none⟩ = some (.int .u8 0) := (blk_cell BK154.out 2).trans rfl
                                have hcz30_3 : w13.cell? ⟨gb154, 3, none⟩ = some (.bool false) := (blk_cell BK154.out 3).trans rfl
                                have hfz30_0 := blk_frozen BK154.out 0
                                have hfz30_1 := blk_frozen BK154.out 1
                                have hfz30_2 := blk_frozen BK154.out 2
                                have hfz30_3 := blk_frozen BK154.out 3
                                have hbf := Nbq23.out.symm
                                go_wp2
                                go_meet
                                case rel => (try rw [hbf]); exact ⟨_, (false), (by first | rfl | (simp; done) | (simp [*]; done)), H', ⟨by have := HK1.out; have := HK2.out; first | omega | exact Nat.le_refl _⟩, ⟨by (with_reducible repeat (first | refine blk_drewN ?_ _ | refine blk_drew ?_ | refine blk_alloc ?_ _)); refine blk_put (cs := #[.int .i64 ((rd_T45 l0 x29_2).f0), .int .i64 ((rd_T45 l0 x29_2).f1), .int .u8 ((rd_T45 l0 x29_2).f2), .bool false]) ?_ 3 _ rfl; (with_reducible repeat (first | refine blk_drewN ?_ _ | refine blk_drew ?_ | refine blk_alloc ?_ _)); refine blk_put (cs := #[.int .i64 ((rd_T45 l0 x29_2).f0), .int .i64 ((rd_T45 l0 x29_2).f1), .int .u8 0, .bool false]) ?_ 2 _ rfl; (with_reducible repeat (first | refine blk_drewN ?_ _ | refine blk_drew ?_ | refine blk_alloc ?_ _)); refine blk_put (cs := #[.int .i64 ((rd_T45 l0 x29_2).f0), .int .i64 0, .int .u8 0, .bool false]) ?_ 1 _ rfl; (with_reducible repeat (first | refine blk_drewN ?_ _ | refine blk_drew ?_ | refine blk_alloc ?_ _)); refine blk_put (cs := #[.int .i64 0, .int .i64 0, .int .u8 0, .bool false]) ?_ 0 _ rfl; (with_reducible repeat (first | refine blk_drewN ?_ _ | refine blk_drew ?_ | refine blk_alloc ?_ _)); exact BK154.out⟩, ⟨by repeat (first | (with_reducible first | exact HB.out | apply below_alloc | apply pw_below_drewN | apply below_drew1 | refine below_set ?_ GE154.out) | exact HB.out)⟩⟩
                    case rest =>
                      clear HC12
                      try clear c1
                      try clear p1
                      try clear q1
                      try clear hx1
                      try clear c2
                      try clear c2b0
                      try clear c2b1
                      try clear p2
                      try clear q2
                      try clear c3
                      try clear c3b0
                      try clear c4
                      try clear c4b0
                      try clear c5
                      try clear c5b0
                      try clear c6
                      try clear c6b0
                      try clear p6
                      try clear c9
                      try clear c9b0
                      try clear c10
                      try clear c10b0
                      try clear c11
                      try clear c11b0
                      try clear c12
                      try clear c15
                      try clear c15b0
                      try clear p15
                      try clear q15
                      try clear hx15
                      try clear c17
                      try clear c17b0
                      try clear c19
                      try clear c19b0
                      try clear c21
                      try clear c21b0
                      try clear c21b1
                      try clear c21b2
                      try clear q23
                      try clear c24
                      try clear c25
                      try clear c25b0
                      try clear c27
                      try clear c27b0
                      try clear c27b1
                      try clear hcz14_0
                      try clear hcz14_1
                      try clear hcz14_2
                      try clear hcz14_3
                      try clear hcz16_0
                      try clear hcz16_1
                      try clear hcz16_2
                      try clear hcz16_3
                      try clear hcz18_0
                      try clear hcz18_1
                      try clear hcz18_2
                      try clear hcz18_3
                      try clear hcz20_0
                      try clear hcz20_1
                      try clear hcz20_2
                      try clear hcz20_3
                      try clear hcz22_0
                      try clear hcz22_1
                      try clear hcz22_2
                      try clear hcz22_3
                      try clear hcz26_0
                      try clear hcz26_1
                      try clear hcz26_2
                      try clear hcz26_3
                      try clear hcz28_0
                      try clear hcz28_1
                      try clear hcz28_2
                      try clear hcz28_3
                      try clear hcz29_0
                      try clear hcz29_1
                      try clear hcz29_2
                      try clear hcz29_3
                      try clear hcz30_0
                      try clear hcz30_1
                      try clear hcz30_2
                      try clear hcz30_3
                      try clear hcz8_0
                      try clear hcz8_1
                      try clear hcz8_2
                      try clear hcz8_3
                      try clear hfz14_0
                      try clear hfz14_1
                      try clear hfz14_2
                      try clear hfz14_3
                      try clear hfz16_0
                      try clear hfz16_1
                      try clear hfz16_2
                      try clear hfz16_3
                      try clear hfz18_0
                      try clear hfz18_1
                      try clear hfz18_2
                      try clear hfz18_3
                      try clear hfz20_0
                      try clear hfz20_1
                      try clear hfz20_2
                      try clear hfz20_3
                      try clear hfz22_0
                      try clear hfz22_1
                      try clear hfz22_2
                      try clear hfz22_3
                      try clear hfz26_0
                      try clear hfz26_1
                      try clear hfz26_2
                      try clear hfz26_3
                      try clear hfz28_0
                      try clear hfz28_1
                      try clear hfz28_2
                      try clear hfz28_3
                      try clear hfz29_0
                      try clear hfz29_1
                      try clear hfz29_2
                      try clear hfz29_3
                      try clear hfz30_0
                      try clear hfz30_1
                      try clear hfz30_2
                      try clear hfz30_3
                      try clear hfz8_0
                      try clear hfz8_1
                      try clear hfz8_2
                      try clear hfz8_3
                      try clear hx151_0
                      try clear hx151_1
                      try clear hx151_2
                      try clear hx151_3
                      try clear hx153_0
                      try clear hx153_1
                      try clear hx153_2
                      try clear hx153_3
                      try clear p1
                      try clear p151
                      try clear p153
                      try clear p2
                      try clear p6
                      try clear q1
                      try clear q151
                      try clear q153
                      obtain ⟨kq, x77_11, rfl, HA, HJ11, BK154, HB⟩ := hcut
                      cases kq with
                      | zero => exact absurd HA.out (by simp [lempel_Unslide.j2])
                      | succ kj11 =>
                        have H := HA.out
                        clear HA
                        simp only [lempel_Unslide.j2] at H
                        by_cases c31 : x77_11 = true
                        · subst c31
                          have H1 : (none) = some (r1, r2) := by rw [if_pos rfl] at H; exact H
                          clear H
                          have H := H1
                          clear H1
                          exact absurd H (by simp)
                        · replace c31 := Bool.eq_false_iff.mpr c31
                          subst c31
                          have H1 : (if ((rd_T45 l0 x29_2).f3) = true then (lempel_Unslide.l1 kj11 l0 (wrap64 (x6_2 + ((rd_T45 l0 x29_2).f1))) l0 (l0.length : Int) (wrap64 (x29_2 + 1))) else (lempel_Unslide.l1 kj11 l0 (wrap64 ((wrap64 (x6_2 + ((rd_T45 l0 x29_2).f1))) + 1)) l0 (l0.length : Int) (wrap64 (x29_2 + 1)))) = some (r1, r2) := by rw [if_neg (show ¬ (false = true) by decide)] at H; exact H
                          clear H
                          have H := H1
                          clear H1
                          by_cases c32 : ((rd_T45 l0 x29_2).f3) = true
                          · rw [if_pos c32] at H
                            have c32b0 : ((rd_T45 l0 x29_2).f3) = true := c32
                            clear c32
                            have H' := Aside0.mk H
                            clear H
                            have hcz33_0 : wc.cell? ⟨gb154, 0, none⟩ = some (.int .i64 ((rd_T45 l0 x29_2).f0)) := (blk_cell BK154.out 0).trans rfl
                            have hcz33_1 : wc.cell? ⟨gb154, 1, none⟩ = some (.int .i64 ((rd_T45 l0 x29_2).f1)) := (blk_cell BK154.out 1).trans rfl
                            have hcz33_2 : wc.cell? ⟨gb154, 2, none⟩ = some (.int .u8 ((rd_T45 l0 x29_2).f2)) := (blk_cell BK154.out 2).trans rfl
                            have hcz33_3 : wc.cell? ⟨gb154, 3, none⟩ = some (.bool ((rd_T45 l0 x29_2).f3)) := (blk_cell BK154.out 3).trans rfl
                            have hfz33_0 := blk_frozen BK154.out 0
                            have hfz33_1 := blk_frozen BK154.out 1
                            have hfz33_2 := blk_frozen BK154.out 2
                            have hfz33_3 := blk_frozen BK154.out 3
                            go_wp2
                            go_roundg kj11
                            case measure => have := HK1.out; have := HK2.out; have := HJ11.out; omega
                            case rel => exact ⟨(wrap64 (x6_2 + ((rd_T45 l0 x29_2).f1))), (wrap64 (x29_2 + 1)), (by first | rfl | (simp; done) | (simp [*]; done)), (by first | rfl | (simp; done) | (simp [*]; done)), H', ⟨by have := HK1.out; have := HK2.out; have := HJ11.out; omega⟩, ⟨by repeat (first | (with_reducible first | exact HB.out | apply below_alloc | apply pw_below_drewN | apply below_drew1 | refine below_set ?_ GE154.out) | exact HB.out)⟩⟩
                          · rw [if_neg c32] at H
                            have c32b0 : ((rd_T45 l0 x29_2).f3) = false := by simpa using c32
                            clear c32
                            have H' := Aside0.mk H
                            clear H
                            have hcz34_0 : wc.cell? ⟨gb154, 0, none⟩ = some (.int .i64 ((rd_T45 l0 x29_2).f0)) := (blk_cell BK154.out 0).trans rfl
                            have hcz34_1 : wc.cell? ⟨gb154, 1, none⟩ = some (.int .i64 ((rd_T45 l0 x29_2).f1)) := (blk_cell BK154.out 1).trans rfl
                            have hcz34_2 : wc.cell? ⟨gb154, 2, none⟩ = some (.int .u8 ((rd_T45 l0 x29_2).f2)) := (blk_cell BK154.out 2).trans rfl
                            have hcz34_3 : wc.cell? ⟨gb154, 3, none⟩ = some (.bool ((rd_T45 l0 x29_2).f3)) := (blk_cell BK154.out 3).trans rfl
                            have hfz34_0 := blk_frozen BK154.out 0
                            have hfz34_1 := blk_frozen BK154.out 1
                            have hfz34_2 := blk_frozen BK154.out 2
                            have hfz34_3 := blk_frozen BK154.out 3
                            go_wp2
                            go_roundg kj11
                            case measure => have := HK1.out; have := HK2.out; have := HJ11.out; omega
                            case rel => exact ⟨(wrap64 ((wrap64 (x6_2 + ((rd_T45 l0 x29_2).f1))) + 1)), (wrap64 (x29_2 + 1)), (by first | rfl | (simp; done) | (simp [*]; done)), (by first | rfl | (simp; done) | (simp [*]; done)), H', ⟨by have := HK1.out; have := HK2.out; have := HJ11.out; omega⟩, ⟨by repeat (first | (with_reducible first | exact HB.out | apply below_alloc | apply pw_below_drewN | apply below_drew1 | refine below_set ?_ GE154.out) | exact HB.out)⟩⟩
                  · rw [if_neg c11] at H
                    exact absurd H (by simp)
                · rw [if_neg c10] at H
                  exact absurd H (by simp)
              · rw [if_neg c9] at H
                have c9b0 : decide (x29_2 < (l0.length : Int)) = false := decide_eq_false c9
                clear c9
                by_cases c35 : x6_2 > 4000
                · rw [if_pos c35] at H
                  exact absurd H (by simp)
                · rw [if_neg c35] at H
                  have c35b0 : decide (4000 < x6_2) = false := decide_eq_false c35
                  clear c35
                  have H' := Aside0.mk H
                  clear H
                  go_wp2
                  go_loopg [9, 98] k2 (fun kq v9 v98 w' => ∃ (x9_3 : List Int) (x98_3 : Int), v98 = .int .i64 x98_3 ∧ Aside0 (lempel_Unslide.l2 kq x9_3 l0 (l0.length : Int) x98_3 = some (r1, r2)) ∧ Aside0 (kq ≤ k2) ∧ Aside0 (Kd.R (Kd.int .u8) 5 w' w.heap.size (fun _ => True) v9 x9_3) ∧ Aside0 (Below w.heap.size w w'))
                  case atStart => exact ⟨(([] : List Int)), (0), (by first | rfl | (simp; done) | (simp [*]; done)), H', ⟨Nat.le_refl _⟩, ⟨by first | exact Kd.R_nil _ _ _ _ _ | exact Kd.N_nil _ _ _ _ _ | exact Kd.V_nil _ _ _ _ _ | exact Kd.Q_nil _ _ _ _ _ | exact Kd.S_nil _ _ _ _ _⟩, ⟨by repeat (first | (with_reducible first | exact HB.out | apply below_alloc | apply pw_below_drewN | apply below_drew1) | exact HB.out)⟩⟩
                  case round =>
                    clear H'
                    try clear c1
                    try clear p1
                    try clear q1
                    try clear hx1
                    try clear c2
                    try clear c2b0
                    try clear c2b1
                    try clear p2
                    try clear q2
                    try clear c3
                    try clear c3b0
                    try clear c4
                    try clear c4b0
                    try clear c5
                    try clear c5b0
                    try clear c6
                    try clear c6b0
                    try clear p6
                    try clear c9
                    try clear c9b0
                    try clear c10
                    try clear c10b0
                    try clear c11
                    try clear c11b0
                    try clear c12
                    try clear c15
                    try clear c15b0
                    try clear p15
                    try clear q15
                    try clear hx15
                    try clear c17
                    try clear c17b0
                    try clear c19
                    try clear c19b0
                    try clear c21
                    try clear c21b0
                    try clear c21b1
                    try clear c21b2
                    try clear q23
                    try clear c24
                    try clear c25
                    try clear c25b0
                    try clear c27
                    try clear c27b0
                    try clear c27b1
                    try clear c31
                    try clear c32
                    try clear c32b0
                    try clear c35
                    try clear c35b0
                    try clear hcz14_0
                    try clear hcz14_1
                    try clear hcz14_2
                    try clear hcz14_3
                    try clear hcz16_0
                    try clear hcz16_1
                    try clear hcz16_2
                    try clear hcz16_3
                    try clear hcz18_0
                    try clear hcz18_1
                    try clear hcz18_2
                    try clear hcz18_3
                    try clear hcz20_0
                    try clear hcz20_1
                    try clear hcz20_2
                    try clear hcz20_3
                    try clear hcz22_0
                    try clear hcz22_1
                    try clear hcz22_2
                    try clear hcz22_3
                    try clear hcz26_0
                    try clear hcz26_1
                    try clear hcz26_2
                    try clear hcz26_3
                    try clear hcz28_0
                    try clear hcz28_1
                    try clear hcz28_2
                    try clear hcz28_3
                    try clear hcz29_0
                    try clear hcz29_1
                    try clear hcz29_2
                    try clear hcz29_3
                    try clear hcz30_0
                    try clear hcz30_1
                    try clear hcz30_2
                    try clear hcz30_3
                    try clear hcz33_0
                    try clear hcz33_1
                    try clear hcz33_2
                    try clear hcz33_3
                    try clear hcz34_0
                    try clear hcz34_1
                    try clear hcz34_2
                    try clear hcz34_3
                    try clear hcz8_0
                    try clear hcz8_1
                    try clear hcz8_2
                    try clear hcz8_3
                    try clear hfz14_0
                    try clear hfz14_1
                    try clear hfz14_2
                    try clear hfz14_3
                    try clear hfz16_0
                    try clear hfz16_1
                    try clear hfz16_2
                    try clear hfz16_3
                    try clear hfz18_0
                    try clear hfz18_1
                    try clear hfz18_2
                    try clear hfz18_3
                    try clear hfz20_0
                    try clear hfz20_1
                    try clear hfz20_2
                    try clear hfz20_3
                    try clear hfz22_0
                    try clear hfz22_1
                    try clear hfz22_2
                    try clear hfz22_3
                    try clear hfz26_0
                    try clear hfz26_1
                    try clear hfz26_2
                    try clear hfz26_3
                    try clear hfz28_0
                    try clear hfz28_1
                    try clear hfz28_2
                    try clear hfz28_3
                    try clear hfz29_0
                    try clear hfz29_1
                    try clear hfz29_2
                    try clear hfz29_3
                    try clear hfz30_0
                    try clear hfz30_1
                    try clear hfz30_2
                    try clear hfz30_3
                    try clear hfz33_0
                    try clear hfz33_1
                    try clear hfz33_2
                    try clear hfz33_3
                    try clear hfz34_0
                    try clear hfz34_1
                    try clear hfz34_2
                    try clear hfz34_3
                    try clear hfz8_0
                    try clear hfz8_1
                    try clear hfz8_2
                    try clear hfz8_3
                    try clear hx151_0
                    try clear hx151_1
                    try clear hx151_2
                    try clear hx151_3
                    try clear hx153_0
                    try clear hx153_1
                    try clear hx153_2
                    try clear hx153_3
                    try clear p1
                    try clear p15
                    try clear p151
                    try clear p153
                    try clear p2
                    try clear p6
                    try clear q1
                    try clear q15
                    try clear q151
                    try clear q153
                    try clear q2
                    try clear q23
                    obtain ⟨x9_3, x98_3, rfl, HA, HK3, HO_9, HB⟩ := hrel
                    cases gk with
                    | zero => exact absurd HA.out (by simp [lempel_Unslide.l2])
                    | succ k3 =>
                      have H := HA.out
                      clear HA
                      simp only [lempel_Unslide.l2] at H
                      by_cases c36 : x98_3 < (l0.length : Int)
                      · rw [if_pos c36] at H
                        have c36b0 : decide (x98_3 < (l0.length : Int)) = true := decide_eq_true c36
                        clear c36
                        by_cases c37 : 0 ≤ x98_3
                        · rw [if_pos c37] at H
                          have c37b0 : decide (0 ≤ x98_3) = true := decide_eq_true c37
                          clear c37
                          by_cases c38 : x98_3 < (l0.length : Int)
                          · rw [if_pos c38] at H
                            have c38b0 : decide (x98_3 < (l0.length : Int)) = true := decide_eq_true c38
                            clear c38
                            have H' := Aside0.mk H
                            clear H
                            have p155 : 0 ≤ (x98_3 : Int) := of_decide_eq_true (by first | (with_reducible assumption) | assumption)
                            have q155 : x98_3 < (l0.length : Int) := of_decide_eq_true (by first | (with_reducible assumption) | assumption)
                            obtain ⟨ad155, e155, hx155_0, hx155_1, hx155_2, hx155_3⟩ := at_T45 HR0.out x98_3 p155 q155
                            cases e155
                            replace hx155_0 := (HB.out.cell (World.block_lt_of_cell? w _ hx155_0)).trans hx155_0
                            replace hx155_1 := (HB.out.cell (World.block_lt_of_cell? w _ hx155_1)).trans hx155_1
                            replace hx155_2 := (HB.out.cell (World.block_lt_of_cell? w _ hx155_2)).trans hx155_2
                            replace hx155_3 := (HB.out.cell (World.block_lt_of_cell? w _ hx155_3)).trans hx155_3
                            replace p155 := eq_true p155
                            replace q155 := eq_true q155
                            go_wp2_with (first | ((with_reducible refine gate_dst (N := 11) rfl ?_); (try (refine gate_guard (by rfl) ?_; dsimp only)); refine box_event ?hg (N := 11) ?hd (cs := #[.int .i64 0, .int .i64 0, .int .u8 0, .bool false]) (t := 45) ?hr ?_; (case hd => rfl); (case hg => rfl); (case hr => first | (go_simp; done) | (go_simp; rfl)); intro gb156 hg w39 hbox hb; have n0_ := Aside0.mk (Kd.R_below (by (with_reducible repeat (first | apply Kd.R_alloc | apply Kd.R_drewN | apply Kd.R_drew)); exact HO_9.out) hb); have n1_ := Aside0.mk (below_step (by repeat (first | (with_reducible first | exact HB.out | apply below_alloc | apply pw_below_drewN | apply below_drew1) | exact HB.out)) hb); have n2_ := Aside0.mk (hbox); have n3_ := Aside0.mk ((by rw [hg]; exact (below_size (by repeat (first | (with_reducible first | exact HB.out | apply below_alloc | apply pw_below_drewN | apply below_drew1) | exact HB.out))) : w.heap.size ≤ gb156)); have n4_ := Aside0.mk ((by rw [hg]; exact (below_size (by repeat (first | (with_reducible first | exact HB.out | apply below_alloc | apply pw_below_drewN | apply below_drew1) | exact HB.out))) : w.heap.size ≤ gb156)); clear HO_9; clear HB; have HO_9 := n0_; have HB := n1_; have BK156 := n2_; have GW156 := n3_; have GE156 := n4_; clear n0_ n1_ n2_ n3_ n4_; clear hb hbox hg; have hcz40_0 : w39.cell? ⟨gb156, 0, none⟩ = some (.int .i64 0) := (blk_cell BK156.out 0).trans rfl; have hcz40_1 : w39.cell? ⟨gb156, 1, none⟩ = some (.int .i64 0) := (blk_cell BK156.out 1).trans rfl; have hcz40_2 : w39.cell? ⟨gb156, 2, none⟩ = some (.int .u8 0) := (blk_cell BK156.out 2).trans rfl; have hcz40_3 : w39.cell? ⟨gb156, 3, none⟩ = some (.bool false) := (blk_cell BK156.out 3).trans rfl; have hfz40_0 := blk_frozen BK156.out 0; have hfz40_1 := blk_frozen BK156.out 1; have hfz40_2 := blk_frozen BK156.out 2; have hfz40_3 := blk_frozen BK156.out 3))
                            go_loopg [9, 104] k3 (fun kq v9 v104 w' => ∃ (x9_4 : List Int) (x104_4 : Int), v104 = .int .i64 x104_4 ∧ Aside0 (lempel_Unslide.l3 kq x9_4 l0 (l0.length : Int) x98_3 ((rd_T45 l0 x98_3).f1) x104_4 ((rd_T45 l0 x98_3).f0) ((rd_T45 l0 x98_3).f1) ((rd_T45 l0 x98_3).f2) ((rd_T45 l0 x98_3).f3) = some (r1, r2)) ∧ Aside0 (kq ≤ k3) ∧ Aside0 (Kd.R (Kd.int .u8) 5 w' w.heap.size (fun _ => True) v9 x9_4) ∧ Aside0 (w'.heap[gb156]? = some (.cells #[.int .i64 ((rd_T45 l0 x98_3).f0), .int .i64 ((rd_T45 l0 x98_3).f1), .int .u8 ((rd_T45 l0 x98_3).f2), .bool ((rd_T45 l0 x98_3).f3)] 45 (0, 0))) ∧ Aside0 (Below w.heap.size w w'))
                            case atStart => exact ⟨(x9_3), (0), (by first | rfl | (simp; done) | (simp [*]; done)), H', ⟨Nat.le_refl _⟩, ⟨by (with_reducible repeat (first | apply Kd.R_alloc | apply Kd.R_drewN | apply Kd.R_drew)); exact Kd.R_mono (Kd.R_far (p := ⟨gb156, 3, none⟩) (Kd.R_far (p := ⟨gb156, 2, none⟩) (Kd.R_far (p := ⟨gb156, 1, none⟩) (Kd.R_far (p := ⟨gb156, 0, none⟩) (Kd.R_types HO_9.out BK156.out (by decide)) (fun _ hk => hk.2) (.int .i64 ((rd_T45 l0 x98_3).f0))) (fun _ hk => hk.2) (.int .i64 ((rd_T45 l0 x98_3).f1))) (fun _ hk => hk.2) (.int .u8 ((rd_T45 l0 x98_3).f2))) (fun _ hk => hk.2) (.bool ((rd_T45 l0 x98_3).f3))) (fun _ hk => trivial)⟩, ⟨by (with_reducible repeat (first | refine blk_drewN ?_ _ | refine blk_drew ?_ | refine blk_alloc ?_ _)); refine blk_put (cs := #[.int .i64 ((rd_T45 l0 x98_3).f0), .int .i64 ((rd_T45 l0 x98_3).f1), .int .u8 ((rd_T45 l0 x98_3).f2), .bool false]) ?_ 3 _ rfl; (with_reducible repeat (first | refine blk_drewN ?_ _ | refine blk_drew ?_ | refine blk_alloc ?_ _)); refine blk_put (cs := #[.int .i64 ((rd_T45 l0 x98_3).f0), .int .i64 ((rd_T45 l0 x98_3).f1), .int .u8 0, .bool false]) ?_ 2 _ rfl; (with_reducible repeat (first | refine blk_drewN ?_ _ | refine blk_drew ?_ | refine blk_alloc ?_ _)); refine blk_put (cs := #[.int .i64 ((rd_T45 l0 x98_3).f0), .int .i64 0, .int .u8 0, .bool false]) ?_ 1 _ rfl; (with_reducible repeat (first | refine blk_drewN ?_ _ | refine blk_drew ?_ | refine blk_alloc ?_ _)); refine blk_put (cs := #[.int .i64 0, .int .i64 0, .int .u8 0, .bool false]) ?_ 0 _ rfl; (with_reducible repeat (first | refine blk_drewN ?_ _ | refine blk_drew ?_ | refine blk_alloc ?_ _)); exact BK156.out⟩, ⟨by repeat (first | (with_reducible first | exact HB.out | apply below_alloc | apply pw_below_drewN | apply below_drew1 | refine below_set ?_ GE156.out) | exact HB.out)⟩⟩
                            case round =>
                              clear H'
                              try clear c1
                              try clear p1
                              try clear q1
                              try clear hx1
                              try clear c2
                              try clear c2b0
                              try clear c2b1
                              try clear p2
                              try clear q2
                              try clear c3
                              try clear c3b0
                              try clear c4
                              try clear c4b0
                              try clear c5
                              try clear c5b0
                              try clear c6
                              try clear c6b0
                              try clear p6
                              try clear c9
                              try clear c9b0
                              try clear c10
                              try clear c10b0
                              try clear c11
                              try clear c11b0
                              try clear c12
                              try clear c15
                              try clear c15b0
                              try clear p15
                              try clear q15
                              try clear hx15
                              try clear c17
                              try clear c17b0
                              try clear c19
                              try clear c19b0
                              try clear c21
                              try clear c21b0
                              try clear c21b1
                              try clear c21b2
                              try clear q23
                              try clear c24
                              try clear c25
                              try clear c25b0
                              try clear c27
                              try clear c27b0
                              try clear c27b1
                              try clear c31
                              try clear c32
                              try clear c32b0
                              try clear c35
                              try clear c35b0
                              try clear c36
                              try clear c36b0
                              try clear c37
                              try clear c37b0
                              try clear c38
                              try clear c38b0
                              try clear hcz14_0
                              try clear hcz14_1
                              try clear hcz14_2
                              try clear hcz14_3
                              try clear hcz16_0
                              try clear hcz16_1
                              try clear hcz16_2
                              try clear hcz16_3
                              try clear hcz18_0
                              try clear hcz18_1
                              try clear hcz18_2
                              try clear hcz18_3
                              try clear hcz20_0
                              try clear hcz20_1
                              try clear hcz20_2
                              try clear hcz20_3
                              try clear hcz22_0
                              try clear hcz22_1
                              try clear hcz22_2
                              try clear hcz22_3
                              try clear hcz26_0
                              try clear hcz26_1
                              try clear hcz26_2
                              try clear hcz26_3
                              try clear hcz28_0
                              try clear hcz28_1
                              try clear hcz28_2
                              try clear hcz28_3
                              try clear hcz29_0
                              try clear hcz29_1
                              try clear hcz29_2
                              try clear hcz29_3
                              try clear hcz30_0
                              try clear hcz30_1
                              try clear hcz30_2
                              try clear hcz30_3
                              try clear hcz33_0
                              try clear hcz33_1
                              try clear hcz33_2
                              try clear hcz33_3
                              try clear hcz34_0
                              try clear hcz34_1
                              try clear hcz34_2
                              try clear hcz34_3
                              try clear hcz40_0
                              try clear hcz40_1
                              try clear hcz40_2
                              try clear hcz40_3
                              try clear hcz8_0
                              try clear hcz8_1
                              try clear hcz8_2
                              try clear hcz8_3
                              try clear hfz14_0
                              try clear hfz14_1
                              try clear hfz14_2
                              try clear hfz14_3
                              try clear hfz16_0
                              try clear hfz16_1
                              try clear hfz16_2
                              try clear hfz16_3
                              try clear hfz18_0
                              try clear hfz18_1
                              try clear hfz18_2
                              try clear hfz18_3
                              try clear hfz20_0
                              try clear hfz20_1
                              try clear hfz20_2
                              try clear hfz20_3
                              try clear hfz22_0
                              try clear hfz22_1
                              try clear hfz22_2
                              try clear hfz22_3
                              try clear hfz26_0
                              try clear hfz26_1
                              try clear hfz26_2
                              try clear hfz26_3
                              try clear hfz28_0
                              try clear hfz28_1
                              try clear hfz28_2
                              try clear hfz28_3
                              try clear hfz29_0
                              try clear hfz29_1
                              try clear hfz29_2
                              try clear hfz29_3
                              try clear hfz30_0
                              try clear hfz30_1
                              try clear hfz30_2
                              try clear hfz30_3
                              try clear hfz33_0
                              try clear hfz33_1
                              try clear hfz33_2
                              try clear hfz33_3
                              try clear hfz34_0
                              try clear hfz34_1
                              try clear hfz34_2
                              try clear hfz34_3
                              try clear hfz40_0
                              try clear hfz40_1
                              try clear hfz40_2
                              try clear hfz40_3
                              try clear hfz8_0
                              try clear hfz8_1
                              try clear hfz8_2
                              try clear hfz8_3
                              try clear hx151_0
                              try clear hx151_1
                              try clear hx151_2
                              try clear hx151_3
                              try clear hx153_0
                              try clear hx153_1
                              try clear hx153_2
                              try clear hx153_3
                              try clear hx155_0
                              try clear hx155_1
                              try clear hx155_2
                              try clear hx155_3
                              try clear p1
                              try clear p15
                              try clear p151
                              try clear p153
                              try clear p155
                              try clear p2
                              try clear p6
                              try clear q1
                              try clear q15
                              try clear q151
                              try clear q153
                              try clear q155
                              try clear q2
                              try clear q23
                              obtain ⟨x9_4, x104_4, rfl, HA, HK4, HO_9, BK156, HB⟩ := hrel
                              cases gk with
                              | zero => exact absurd HA.out (by simp [lempel_Unslide.l3])
                              | succ k4 =>
                                have H := HA.out
                                clear HA
                                simp only [lempel_Unslide.l3] at H
                                by_cases c41 : x104_4 < ((rd_T45 l0 x98_3).f1)
                                · rw [if_pos c41] at H
                                  have c41b0 : decide (x104_4 < ((rd_T45 l0 x98_3).f1)) = true := decide_eq_true c41
                                  clear c41
                                  obtain ⟨ji42, hji42⟩ : ∃ j_ : Int, (wrap64 ((x9_4.length : Int) - ((rd_T45 l0 x98_3).f0))) = j_ := ⟨_, rfl⟩
                                  replace H : (if 0 ≤ (ji42) then (if (ji42) < (x9_4.length : Int) then (if x9_4.length < 140737488355328 then (lempel_Unslide.l3 k4 (x9_4 ++ [rd x9_4 (ji42)]) l0 (l0.length : Int) x98_3 ((rd_T45 l0 x98_3).f1) (wrap64 (x104_4 + 1)) ((rd_T45 l0 x98_3).f0) ((rd_T45 l0 x98_3).f1) ((rd_T45 l0 x98_3).f2) ((rd_T45 l0 x98_3).f3)) else (none)) else (none)) else (none)) = some (r1, r2) := by first | (rw [hji42] at H; exact H) | (simp only [hji42] at H ⊢; exact H)
                                  have hji42w : (IntKind.i64.wrap ((x9_4.length : Int) - ((rd_T45 l0 x98_3).f0))) = ji42 := (i64_w _).trans hji42
                                  by_cases c43 : 0 ≤ (ji42)
                                  · rw [if_pos c43] at H
                                    have c43b0 : decide (0 ≤ (ji42)) = true := decide_eq_true c43
                                    clear c43
                                    by_cases c44 : (ji42) < (x9_4.length : Int)
                                    · rw [if_pos c44] at H
                                      have c44b0 : decide ((ji42) < (x9_4.length : Int)) = true := decide_eq_true c44
                                      clear c44
                                      by_cases c45 : x9_4.length < 140737488355328
                                      · rw [if_pos c45] at H
                                        have LMc45 := Aside0.mk c45
                                        clear c45
                                        obtain ⟨y158, hy158⟩ : ∃ y_ : List Int, y_ = (x9_4 ++ [rd x9_4 (ji42)]) := ⟨_, rfl⟩
                                        replace H : (lempel_Unslide.l3 k4 y158 l0 (l0.length : Int) x98_3 ((rd_T45 l0 x98_3).f1) (wrap64 (x104_4 + 1)) ((rd_T45 l0 x98_3).f0) ((rd_T45 l0 x98_3).f1) ((rd_T45 l0 x98_3).f2) ((rd_T45 l0 x98_3).f3)) = some (r1, r2) := by first | (rw [hy158]; with_reducible exact H) | (have H2_ := (Option.bind_some _ _).symm.trans H; rw [hy158]; with_reducible exact H2_) | (have H2_ := (Option.bind_some _ _).symm.trans H; with_reducible exact H2_) | with_reducible exact H | (rw [hy158]; exact H) | exact H
                                        have Ny158 := Aside0.mk hy158
                                        clear hy158
                                        have H' := Aside0.mk H
                                        clear H
                                        obtain ⟨Ao46, co46, eo46⟩ := Kd.R_slice HO_9.out
                                        subst eo46
                                        have hcz47_0 : wr.cell? ⟨gb156, 0, none⟩ = some (.int .i64 ((rd_T45 l0 x98_3).f0)) := (blk_cell BK156.out 0).trans rfl
                                        have hcz47_1 : wr.cell? ⟨gb156, 1, none⟩ = some (.int .i64 ((rd_T45 l0 x98_3).f1)) := (blk_cell BK156.out 1).trans rfl
                                        have hcz47_2 : wr.cell? ⟨gb156, 2, none⟩ = some (.int .u8 ((rd_T45 l0 x98_3).f2)) := (blk_cell BK156.out 2).trans rfl
                                        have hcz47_3 : wr.cell? ⟨gb156, 3, none⟩ = some (.bool ((rd_T45 l0 x98_3).f3)) := (blk_cell BK156.out 3).trans rfl
                                        have hfz47_0 := blk_frozen BK156.out 0
                                        have hfz47_1 := blk_frozen BK156.out 1
                                        have hfz47_2 := blk_frozen BK156.out 2
                                        have hfz47_3 := blk_frozen BK156.out 3
                                        have p157 : 0 ≤ ((ji42) : Int) := of_decide_eq_true (by first | (with_reducible assumption) | assumption)
                                        have q157 : (ji42) < (x9_4.length : Int) := of_decide_eq_true (by first | (with_reducible assumption) | assumption)
                                        obtain ⟨ad157, e157, hx157_0⟩ := Kd.at_int (Kd.R_reads' HO_9.out).2.2 (ji42) p157 q157
                                        cases e157
                                        replace p157 := eq_true p157
                                        replace q157 := eq_true q157
                                        go_wp2_with (first | ((with_reducible refine gate_builtin (b := .append) (xs := #[.tmp 106, .tmp 115]) rfl ?_); (try (refine gate_guard (by rfl) ?_; dsimp only)); at_builtin; refine Kd.R_append (Kd.int .u8) (w0 := w) w.heap.size rfl (.tmp 106) (.tmp 115) 64 5 (.int .u8 0) 1 rfl Tryd.underlying64 info5 rfl (by decide) (by omega) (.slice (some ad157) x9_4.length co46) x9_4 (rd x9_4 (ji42)) [.int .u8 (rd x9_4 (ji42))] (fun _ => True) (fun _ => False) rfl rfl ?aP (fun _ hk => hk.elim) ?aF ?aO ?aB ?aS ?aL ?_; (case aP => exact rfl); (case aB => exact (by repeat (first | (with_reducible first | exact HB.out | apply below_alloc | apply pw_below_drewN | apply below_drew1 | refine below_set ?_ GE156.out) | exact HB.out))); (case aF => exact (fun _ _ => trivial)); (case aO => exact (by (with_reducible repeat (first | apply Kd.R_alloc | apply Kd.R_drewN | apply Kd.R_drew)); exact HO_9.out)); (case aS => exact (below_size (by repeat (first | (with_reducible first | exact HB.out | apply below_alloc | apply pw_below_drewN | apply below_drew1 | refine below_set ?_ GE156.out) | exact HB.out)))); (case aL => have := LMc45.out; omega); intro v159 w48 ho hb hg hat; rw [← Ny158.out] at ho; have n0_ := Aside0.mk (blk_grown (g := gb156) (o := .cells #[.int .i64 ((rd_T45 l0 x98_3).f0), .int .i64 ((rd_T45 l0 x98_3).f1), .int .u8 ((rd_T45 l0 x98_3).f2), .bool ((rd_T45 l0 x98_3).f3)] 45 (0, 0)) (by (with_reducible repeat (first | refine blk_drewN ?_ _ | refine blk_drew ?_ | refine blk_alloc ?_ _)); exact BK156.out) hg (Kd.R_ne HO_9.out BK156.out (by decide))); have n1_ := Aside0.mk (hb); have n2_ := Aside0.mk (ho); clear BK156; clear HB; clear HO_9; have BK156 := n0_; have HB := n1_; have HO160 := n2_; clear n0_ n1_ n2_; clear ho hb hg hat))
                                        go_roundg k4
                                        case measure => have := HK1.out; have := HK2.out; have := HK3.out; have := HK4.out; omega
                                        case rel => exact ⟨(y158), (wrap64 (x104_4 + 1)), (by first | rfl | (simp; done) | (simp [*]; done)), H', ⟨by have := HK1.out; have := HK2.out; have := HK3.out; have := HK4.out; omega⟩, ⟨by (with_reducible repeat (first | apply Kd.R_alloc | apply Kd.R_drewN | apply Kd.R_drew)); exact HO160.out⟩, ⟨by (with_reducible repeat (first | refine blk_drewN ?_ _ | refine blk_drew ?_ | refine blk_alloc ?_ _)); exact BK156.out⟩, ⟨by repeat (first | (with_reducible first | exact HB.out | apply below_alloc | apply pw_below_drewN | apply below_drew1 | refine below_set ?_ GE156.out) | exact HB.out)⟩⟩
                                      · rw [if_neg c45] at H
                                        exact absurd H (by simp)
                                    · rw [if_neg c44] at H
                                      exact absurd H (by simp)
                                  · rw [if_neg c43] at H
                                    exact absurd H (by simp)
                                · rw [if_neg c41] at H
                                  have c41b0 : decide (x104_4 < ((rd_T45 l0 x98_3).f1)) = false := decide_eq_false c41
                                  clear c41
                                  by_cases c49 : ((rd_T45 l0 x98_3).f3) = true
                                  · rw [if_pos c49] at H
                                    have c49b0 : ((rd_T45 l0 x98_3).f3) = true := c49
                                    clear c49
                                    have H' := Aside0.mk H
                                    clear H
                                    have hcz50_0 : wr.cell? ⟨gb156, 0, none⟩ = some (.int .i64 ((rd_T45 l0 x98_3).f0)) := (blk_cell BK156.out 0).trans rfl
                                    have hcz50_1 : wr.cell? ⟨gb156, 1, none⟩ = some (.int .i64 ((rd_T45 l0 x98_3).f1)) := (blk_cell BK156.out 1).trans rfl
                                    have hcz50_2 : wr.cell? ⟨gb156, 2, none⟩ = some (.int .u8 ((rd_T45 l0 x98_3).f2)) := (blk_cell BK156.out 2).trans rfl
                                    have hcz50_3 : wr.cell? ⟨gb156, 3, none⟩ = some (.bool ((rd_T45 l0 x98_3).f3)) := (blk_cell BK156.out 3).trans rfl
                                    have hfz50_0 := blk_frozen BK156.out 0
                                    have hfz50_1 := blk_frozen BK156.out 1
                                    have hfz50_2 := blk_frozen BK156.out 2
                                    have hfz50_3 := blk_frozen BK156.out 3
                                    go_wp2
                                    go_roundg k4
                                    case measure => have := HK1.out; have := HK2.out; have := HK3.out; have := HK4.out; omega
                                    case rel => exact ⟨(x9_4), (wrap64 (x98_3 + 1)), (by first | rfl | (simp; done) | (simp [*]; done)), H', ⟨by have := HK1.out; have := HK2.out; have := HK3.out; have := HK4.out; omega⟩, ⟨by (with_reducible repeat (first | apply Kd.R_alloc | apply Kd.R_drewN | apply Kd.R_drew)); exact HO_9.out⟩, ⟨by repeat (first | (with_reducible first | exact HB.out | apply below_alloc | apply pw_below_drewN | apply below_drew1 | refine below_set ?_ GE156.out) | exact HB.out)⟩⟩
                                  · rw [if_neg c49] at H
                                    have c49b0 : ((rd_T45 l0 x98_3).f3) = false := by simpa using c49
                                    clear c49
                                    by_cases c51 : x9_4.length < 140737488355328
                                    · rw [if_pos c51] at H
                                      have LMc51 := Aside0.mk c51
                                      clear c51
                                      obtain ⟨y161, hy161⟩ : ∃ y_ : List Int, y_ = (x9_4 ++ [((rd_T45 l0 x98_3).f2)]) := ⟨_, rfl⟩
                                      replace H : (lempel_Unslide.l2 k4 y161 l0 (l0.length : Int) (wrap64 (x98_3 + 1))) = some (r1, r2) := by first | (rw [hy161]; with_reducible exact H) | (have H2_ := (Option.bind_some _ _).symm.trans H; rw [hy161]; with_reducible exact H2_) | (have H2_ := (Option.bind_some _ _).symm.trans H; with_reducible exact H2_) | with_reducible exact H | (rw [hy161]; exact H) | exact H
                                      have Ny161 := Aside0.mk hy161
                                      clear hy161
                                      have H' := Aside0.mk H
                                      clear H
                                      have hcz52_0 : wr.cell? ⟨gb156, 0, none⟩ = some (.int .i64 ((rd_T45 l0 x98_3).f0)) := (blk_cell BK156.out 0).trans rfl
                                      have hcz52_1 : wr.cell? ⟨gb156, 1, none⟩ = some (.int .i64 ((rd_T45 l0 x98_3).f1)) := (blk_cell BK156.out 1).trans rfl
                                      have hcz52_2 : wr.cell? ⟨gb156, 2, none⟩ = some (.int .u8 ((rd_T45 l0 x98_3).f2)) := (blk_cell BK156.out 2).trans rfl
                                      have hcz52_3 : wr.cell? ⟨gb156, 3, none⟩ = some (.bool ((rd_T45 l0 x98_3).f3)) := (blk_cell BK156.out 3).trans rfl
                                      have hfz52_0 := blk_frozen BK156.out 0
                                      have hfz52_1 := blk_frozen BK156.out 1
                                      have hfz52_2 := blk_frozen BK156.out 2
                                      have hfz52_3 := blk_frozen BK156.out 3
                                      go_wp2_with (first | ((with_reducible refine gate_builtin (b := .append) (xs := #[.tmp 121, .tmp 124]) rfl ?_); (try (refine gate_guard (by rfl) ?_; dsimp only)); at_builtin; refine Kd.R_append (Kd.int .u8) (w0 := w) w.heap.size rfl (.tmp 121) (.tmp 124) 64 5 (.int .u8 0) 1 rfl Tryd.underlying64 info5 rfl (by decide) (by omega) u9 x9_4 ((rd_T45 l0 x98_3).f2) [.int .u8 ((rd_T45 l0 x98_3).f2)] (fun _ => True) (fun _ => False) rfl rfl ?aP (fun _ hk => hk.elim) ?aF ?aO ?aB ?aS ?aL ?_; (case aP => exact rfl); (case aB => exact (by repeat (first | (with_reducible first | exact HB.out | apply below_alloc | apply pw_below_drewN | apply below_drew1 | refine below_set ?_ GE156.out) | exact HB.out))); (case aF => exact (fun _ _ => trivial)); (case aO => exact (by (with_reducible repeat (first | apply Kd.R_alloc | apply Kd.R_drewN | apply Kd.R_drew)); exact HO_9.out)); (case aS => exact (below_size (by repeat (first | (with_reducible first | exact HB.out | apply below_alloc | apply pw_below_drewN | apply below_drew1 | refine below_set ?_ GE156.out) | exact HB.out)))); (case aL => have := LMc51.out; omega); intro v162 w53 ho hb hg hat; rw [← Ny161.out] at ho; have n0_ := Aside0.mk (blk_grown (g := gb156) (o := .cells #[.int .i64 ((rd_T45 l0 x98_3).f0), .int .i64 ((rd_T45 l0 x98_3).f1), .int .u8 ((rd_T45 l0 x98_3).f2), .bool ((rd_T45 l0 x98_3).f3)] 45 (0, 0)) (by (with_reducible repeat (first | refine blk_drewN ?_ _ | refine blk_drew ?_ | refine blk_alloc ?_ _)); exact BK156.out) hg (Kd.R_ne HO_9.out BK156.out (by decide))); have n1_ := Aside0.mk (hb); have n2_ := Aside0.mk (ho); clear BK156; clear HB; clear HO_9; have BK156 := n0_; have HB := n1_; have HO163 := n2_; clear n0_ n1_ n2_; clear ho hb hg hat))
                                      go_roundg k4
                                      case measure => have := HK1.out; have := HK2.out; have := HK3.out; have := HK4.out; omega
                                      case rel => exact ⟨(y161), (wrap64 (x98_3 + 1)), (by first | rfl | (simp; done) | (simp [*]; done)), H', ⟨by have := HK1.out; have := HK2.out; have := HK3.out; have := HK4.out; omega⟩, ⟨by (with_reducible repeat (first | apply Kd.R_alloc | apply Kd.R_drewN | apply Kd.R_drew)); exact HO163.out⟩, ⟨by repeat (first | (with_reducible first | exact HB.out | apply below_alloc | apply pw_below_drewN | apply below_drew1 | refine below_set ?_ GE156.out) | exact HB.out)⟩⟩
                                    · rw [if_neg c51] at H
                                      exact absurd H (by simp)
                          · rw [if_neg c38] at H
                            exact absurd H (by simp)
                        · rw [if_neg c37] at H
                          exact absurd H (by simp)
                      · rw [if_neg c36] at H
                        have c36b0 : decide (x98_3 < (l0.length : Int)) = false := decide_eq_false c36
                        clear c36
                        simp only [Option.some.injEq, Prod.mk.injEq] at H
                        obtain ⟨rfl, rfl⟩ := H
                        have hcv54 := own_string (P := Tryd.prog) Tryd.underlying64 Tryd.underlying5 Tryd.underlying9 (Kd.own_of_R HO_9.out)
                        go_wp2
                        go_ret2
                        exact ⟨by first | rfl | (simp [errW_none, errW_some] <;> rfl) | (simp [*, errW_none, errW_some] <;> rfl), by repeat (first | (with_reducible first | exact HB.out | apply below_alloc | apply pw_below_drewN | apply below_drew1) | exact HB.out)⟩

end Go.Proofs.YtaonemghafoolaaDoor.Q
