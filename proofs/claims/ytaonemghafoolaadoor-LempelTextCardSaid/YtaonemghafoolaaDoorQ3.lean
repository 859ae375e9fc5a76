-- scratch print
import Derived.Test.YtaonemghafoolaaDoorQ0
import Derived.Test.YtaonemghafoolaaDoorBld
namespace Go.Proofs.YtaonemghafoolaaDoor.Q
open Go.RowKit Go.Proofs.YtaonemghafoolaaDoorW.PrintWords Go.Proofs.YtaonemghafoolaaDoorW.PrintLast Go.Proofs.YtaonemghafoolaaDoorW.PrintMore
attribute [local go_sem] max2_int min2_int max_two min_two max_three min_three max_four min_four   -- for this text's walks alone
set_option linter.unusedVariables false
set_option linter.unusedSimpArgs false

/-! ### lempel_Text: function 10 -/
mutual
def lempel_Text.l0 : Nat → List (S31) → List Int → Int → List (S31) → Int → Int → Option (ByteArray × Option Int)
  | 0, _, _, _, _, _, _ => none
  | k + 1, x0, x4, x5, x19, x20, x21 => if x21 < x20 then (if 0 ≤ x21 then (if x21 < (x19.length : Int) then (if ((rd_T31 x19 x21).f0) < 0 then (lempel_Text.j1 k x0 x4 x5 x19 x20 x21 true ((rd_T31 x19 x21).f0) ((rd_T31 x19 x21).f1) ((rd_T31 x19 x21).f2)) else (if ((rd_T31 x19 x21).f0) > x21 then (lempel_Text.j1 k x0 x4 x5 x19 x20 x21 true ((rd_T31 x19 x21).f0) ((rd_T31 x19 x21).f1) ((rd_T31 x19 x21).f2)) else (if (rd_T31 x19 x21).f2 = true then (if x21 < (wrap64 ((x0.length : Int) - 1)) then (lempel_Text.j1 k x0 x4 x5 x19 x20 x21 true ((rd_T31 x19 x21).f0) ((rd_T31 x19 x21).f1) ((rd_T31 x19 x21).f2)) else (if ((rd_T31 x19 x21).f0) = 0 then (lempel_Text.j1 k x0 x4 x5 x19 x20 x21 true ((rd_T31 x19 x21).f0) ((rd_T31 x19 x21).f1) ((rd_T31 x19 x21).f2)) else (lempel_Text.j1 k x0 x4 x5 x19 x20 x21 (((rd_T31 x19 x21).f1) != 0) ((rd_T31 x19 x21).f0) ((rd_T31 x19 x21).f1) ((rd_T31 x19 x21).f2)))) else (lempel_Text.j1 k x0 x4 x5 x19 x20 x21 false ((rd_T31 x19 x21).f0) ((rd_T31 x19 x21).f1) ((rd_T31 x19 x21).f2))))) else (none)) else (none)) else (if x5 > 4000 then (none) else (lempel_Text.l1 k (([(⟨#[]⟩ : ByteArray)] : List ByteArray)) (⟨#[]⟩ : ByteArray) x0 (x0.length : Int) 0))
def lempel_Text.j1 : Nat → List (S31) → List Int → Int → List (S31) → Int → Int → Bool → Int → Int → Bool → Option (ByteArray × Option Int)
  | 0, _, _, _, _, _, _, _, _, _, _ => none
  | k + 1, x0, x4, x5, x19, x20, x21, x55, x122000, x122001, x122002 => if x55 = true then (none) else (if 0 ≤ x122000 then (if x122000 < (x4.length : Int) then (if x122002 = true then (if x4.length < 17592186044416 then (lempel_Text.l0 k x0 (x4 ++ [rd x4 x122000]) (wrap64 (x5 + (rd x4 x122000))) x19 x20 (wrap64 (x21 + 1))) else (none)) else (if x4.length < 17592186044416 then (lempel_Text.l0 k x0 (x4 ++ [wrap64 ((rd x4 x122000) + 1)]) (wrap64 (x5 + (wrap64 ((rd x4 x122000) + 1)))) x19 x20 (wrap64 (x21 + 1))) else (none))) else (none)) else (none))
def lempel_Text.l1 : Nat → List ByteArray → ByteArray → List (S31) → Int → Int → Option (ByteArray × Option Int)
  | 0, _, _, _, _, _ => none
  | k + 1, x9, x10, x83, x84, x85 => if x85 < x84 then (if 0 ≤ x85 then (if x85 < (x83.length : Int) then (if 0 ≤ ((rd_T31 x83 x85).f0) then (if ((rd_T31 x83 x85).f0) < (x9.length : Int) then (if ((rd_T31 x83 x85).f2 = true) then (if x9.length < 8796093022208 then (if x10.size + (rdOf ByteArray.empty x9 ((rd_T31 x83 x85).f0)).size ≤ 140737488355328 then (lempel_Text.l1 k (x9 ++ [rdOf ByteArray.empty x9 ((rd_T31 x83 x85).f0)]) (x10 ++ (rdOf ByteArray.empty x9 ((rd_T31 x83 x85).f0))) x83 x84 (wrap64 (x85 + 1))) else (none)) else (none)) else ((some (([(rd_T31 x83 x85).f1] : List Int) : List Int)).bind fun y138 => (if (rdOf ByteArray.empty x9 ((rd_T31 x83 x85).f0)).size + (strOfNums y138).size ≤ 9223372036854775807 then (if x9.length < 8796093022208 then (if x10.size + ((rdOf ByteArray.empty x9 ((rd_T31 x83 x85).f0)) ++ (strOfNums y138)).size ≤ 140737488355328 then (lempel_Text.l1 k (x9 ++ [(rdOf ByteArray.empty x9 ((rd_T31 x83 x85).f0)) ++ (strOfNums y138)]) (x10 ++ ((rdOf ByteArray.empty x9 ((rd_T31 x83 x85).f0)) ++ (strOfNums y138))) x83 x84 (wrap64 (x85 + 1))) else (none)) else (none)) else (none)))) else (none)) else (none)) else (none)) else (none)) else (some (x10, none))
end
def lempel_Text.f (k : Nat) (l0 : List (S31)) : Option (ByteArray × Option Int) := if (l0.length : Int) > 4000 then (none) else (lempel_Text.l0 k l0 (([0] : List Int)) 0 l0 (l0.length : Int) 0)
theorem lempel_Text.mono_l : ∀ k, (∀ y0 y1 y2 y3 y4 y5, LeO (lempel_Text.l0 k y0 y1 y2 y3 y4 y5) (lempel_Text.l0 (k + 1) y0 y1 y2 y3 y4 y5)) ∧ (∀ y0 y1 y2 y3 y4 y5 y6 y7 y8 y9, LeO (lempel_Text.j1 k y0 y1 y2 y3 y4 y5 y6 y7 y8 y9) (lempel_Text.j1 (k + 1) y0 y1 y2 y3 y4 y5 y6 y7 y8 y9)) ∧ (∀ y0 y1 y2 y3 y4, LeO (lempel_Text.l1 k y0 y1 y2 y3 y4) (lempel_Text.l1 (k + 1) y0 y1 y2 y3 y4))
  | 0 => ⟨fun _ _ _ _ _ _ r h => by simp [lempel_Text.l0] at h, fun _ _ _ _ _ _ _ _ _ _ r h => by simp [lempel_Text.j1] at h, fun _ _ _ _ _ r h => by simp [lempel_Text.l1] at h⟩
  | k + 1 => by
    obtain ⟨ih0, ih1, ih2⟩ := lempel_Text.mono_l k
    refine ⟨?_, ?_, ?_⟩
    · intro y0 y1 y2 y3 y4 y5
      unfold lempel_Text.l0
      repeat' first
      | (with_reducible exact ih0 _ _ _ _ _ _)
      | (with_reducible exact ih1 _ _ _ _ _ _ _ _ _ _)
      | (with_reducible exact ih2 _ _ _ _ _)
      | (with_reducible exact LeO.refl _)
      | (with_reducible exact LeO.none _)
      | (with_reducible refine LeO.ite ?_ ?_)
      | (with_reducible refine LeO.bind ?_ (fun _ => ?_))
      | exact ih0 _ _ _ _ _ _
      | exact ih1 _ _ _ _ _ _ _ _ _ _
      | exact ih2 _ _ _ _ _
      | exact LeO.none _
      | refine LeO.ite ?_ ?_
      | refine LeO.bind ?_ (fun _ => ?_)
    · intro y0 y1 y2 y3 y4 y5 y6 y7 y8 y9
      unfold lempel_Text.j1
      repeat' first
      | (with_reducible exact ih0 _ _ _ _ _ _)
      | (with_reducible exact ih1 _ _ _ _ _ _ _ _ _ _)
      | (with_reducible exact ih2 _ _ _ _ _)
      | (with_reducible exact LeO.refl _)
      | (with_reducible exact LeO.none _)
      | (with_reducible refine LeO.ite ?_ ?_)
      | (with_reducible refine LeO.bind ?_ (fun _ => ?_))
      | exact ih0 _ _ _ _ _ _
      | exact ih1 _ _ _ _ _ _ _ _ _ _
      | exact ih2 _ _ _ _ _
      | exact LeO.none _
      | refine LeO.ite ?_ ?_
      | refine LeO.bind ?_ (fun _ => ?_)
    · intro y0 y1 y2 y3 y4
      unfold lempel_Text.l1
      repeat' first
      | (with_reducible exact ih0 _ _ _ _ _ _)
      | (with_reducible exact ih1 _ _ _ _ _ _ _ _ _ _)
      | (with_reducible exact ih2 _ _ _ _ _)
      | (with_reducible exact LeO.refl _)
      | (with_reducible exact LeO.none _)
      | (with_reducible refine LeO.ite ?_ ?_)
      | (with_reducible refine LeO.bind ?_ (fun _ => ?_))
      | exact ih0 _ _ _ _ _ _
      | exact ih1 _ _ _ _ _ _ _ _ _ _
      | exact ih2 _ _ _ _ _
      | exact LeO.none _
      | refine LeO.ite ?_ ?_
      | refine LeO.bind ?_ (fun _ => ?_)
theorem lempel_Text.mono : ∀ a0 k, LeO (lempel_Text.f k a0) (lempel_Text.f (k + 1) a0) := by
  intro a0 k
  obtain ⟨ih0, ih1, ih2⟩ := lempel_Text.mono_l k
  unfold lempel_Text.f
  repeat' first
      | (with_reducible exact ih0 _ _ _ _ _ _)
      | (with_reducible exact ih1 _ _ _ _ _ _ _ _ _ _)
      | (with_reducible exact ih2 _ _ _ _ _)
      | (with_reducible exact LeO.refl _)
      | (with_reducible exact LeO.none _)
      | (with_reducible refine LeO.ite ?_ ?_)
      | (with_reducible refine LeO.bind ?_ (fun _ => ?_))
      | exact ih0 _ _ _ _ _ _
      | exact ih1 _ _ _ _ _ _ _ _ _ _
      | exact ih2 _ _ _ _ _
      | exact LeO.none _
      | refine LeO.ite ?_ ?_
      | refine LeO.bind ?_ (fun _ => ?_)
set_option maxHeartbeats 8000000 in
set_option maxRecDepth 100000 in
theorem lempel_Text.calls (k : Nat) (A0 : Option Addr) (c0 : Nat) (l0 : List (S31)) (r1 : ByteArray) (r2 : Option Int) (w : World) (hr0 : Kd.C k31 w A0 l0.length l0) (hc0 : l0.length ≤ c0) (h : lempel_Text.f k l0 = some (r1, r2)) :
    Calls Tryd.prog 10 #[.slice A0 l0.length c0] w fun e w' => e = .returned (.tuple #[.string r1, errW r2]) ∧ Below w.heap.size w w' := by
  have hu31 := Tryd.underlying31
  have HR0 := Aside0.mk hr0
  have HC0 := Aside0.mk hc0
  clear hr0 hc0
  have HB := Aside0.mk (Below.refl w.heap.size w)
  have H : (if (l0.length : Int) > 4000 then (none) else (lempel_Text.l0 k l0 (([0] : List Int)) 0 l0 (l0.length : Int) 0)) = some (r1, r2) := h
  clear h
  by_cases c2 : (l0.length : Int) > 4000
  · rw [if_pos c2] at H
    exact absurd H (by simp)
  · rw [if_neg c2] at H
    have c2b0 : decide (4000 < (l0.length : Int)) = false := decide_eq_false c2
    have c2b1 : decide (4000 < l0.length) = false := decide_eq_false (by omega)
    clear c2
    obtain ⟨y117, hy117⟩ : ∃ y_ : List Int, y_ = (([0] : List Int)) := ⟨_, rfl⟩
    replace H : (lempel_Text.l0 k l0 y117 0 l0 (l0.length : Int) 0) = some (r1, r2) := by first | (rw [hy117]; with_reducible exact H) | (have H2_ := (Option.bind_some _ _).symm.trans H; rw [hy117]; with_reducible exact H2_) | (have H2_ := (Option.bind_some _ _).symm.trans H; with_reducible exact H2_) | with_reducible exact H | (rw [hy117]; exact H) | exact H
    have Ny117 := Aside0.mk hy117
    clear hy117
    have H' := Aside0.mk H
    clear H
    go_enter Tryd.func10, Tryd.ntmps10
    go_wp2_with (first | ((with_reducible refine gate_dst (N := 18) rfl ?_); (try (refine gate_guard (by rfl) ?_; dsimp only)); refine Kd.R_lit (Kd.int .i64) _ 3 ?hg (N := 18) ?hd (xs := ([0] : List Int)) (inner := [.int .i64 0]) (ok := fun _ => True) (okp := fun _ => True) ?hr ?hp (fun _ hk => hk) trivial (Below.refl _ _) (Nat.le_refl _) (by simp) ?_; (case hd => rfl); (case hg => rfl); (case hr => first | (go_simp; done) | (go_simp; rfl)); (case hp => exact (Reps.one (show Kd.M (Kd.int .i64) _ _ _ 0 [.int .i64 0] from rfl) (Reps.none _ _))); intro v118 w3 ho4 hb hg_ hnew_; clear hg_ hnew_; (first | rw [← Ny117.out] at ho4 | (simp only [Int.reduceToNat] at ho4; rw [← Ny117.out] at ho4)); have n0_ := Aside0.mk (Kd.R_lower ho4 (below_size (by repeat (first | (with_reducible first | exact HB.out | apply below_alloc | apply pw_below_drewN | apply below_drew1) | exact HB.out)))); have n1_ := Aside0.mk (below_step (by repeat (first | (with_reducible first | exact HB.out | apply below_alloc | apply pw_below_drewN | apply below_drew1) | exact HB.out)) hb); clear HB; have HO119 := n0_; have HB := n1_; clear n0_ n1_; clear hb ho4))
    go_loopg [4, 5, 21] k (fun kq v4 v5 v21 w' => ∃ (x4_1 : List Int) (x5_1 : Int) (x21_1 : Int), v5 = .int .i64 x5_1 ∧ v21 = .int .i64 x21_1 ∧ Aside0 (lempel_Text.l0 kq l0 x4_1 x5_1 l0 (l0.length : Int) x21_1 = some (r1, r2)) ∧ Aside0 (kq ≤ k) ∧ Aside0 (Kd.R (Kd.int .i64) 3 w' w.heap.size (fun _ => True) v4 x4_1) ∧ Aside0 (Below w.heap.size w w'))
    case atStart => exact ⟨(y117), (0), (0), (by first | rfl | (simp; done) | (simp [*]; done)), (by first | rfl | (simp; done) | (simp [*]; done)), H', ⟨Nat.le_refl _⟩, ⟨by (with_reducible repeat (first | apply Kd.R_alloc | apply Kd.R_drewN | apply Kd.R_drew)); exact HO119.out⟩, ⟨by repeat (first | (with_reducible first | exact HB.out | apply below_alloc | apply pw_below_drewN | apply below_drew1) | exact HB.out)⟩⟩
    case round =>
      clear H'
      try clear c1
      try clear c2
      try clear c2b0
      try clear c2b1
      try clear p2
      obtain ⟨x4_1, x5_1, x21_1, rfl, rfl, HA, HK1, HO_4, HB⟩ := hrel
      cases gk with
      | zero => exact absurd HA.out (by simp [lempel_Text.l0])
      | succ k1 =>
        have H := HA.out
        clear HA
        simp only [lempel_Text.l0] at H
        by_cases c5 : x21_1 < (l0.length : Int)
        · rw [if_pos c5] at H
          have c5b0 : decide (x21_1 < (l0.length : Int)) = true := decide_eq_true c5
          clear c5
          by_cases c6 : 0 ≤ x21_1
          · rw [if_pos c6] at H
            have c6b0 : decide (0 ≤ x21_1) = true := decide_eq_true c6
            clear c6
            by_cases c7 : x21_1 < (l0.length : Int)
            · rw [if_pos c7] at H
              have c7b0 : decide (x21_1 < (l0.length : Int)) = true := decide_eq_true c7
              clear c7
              have HC8 := Aside0.mk H
              clear H
              have p120 : 0 ≤ (x21_1 : Int) := of_decide_eq_true (by first | (with_reducible assumption) | assumption)
              have q120 : x21_1 < (l0.length : Int) := of_decide_eq_true (by first | (with_reducible assumption) | assumption)
              obtain ⟨ad120, e120, hx120_0, hx120_1, hx120_2⟩ := at_T31 HR0.out x21_1 p120 q120
              cases e120
              replace hx120_0 := (HB.out.cell (World.block_lt_of_cell? w _ hx120_0)).trans hx120_0
              replace hx120_1 := (HB.out.cell (World.block_lt_of_cell? w _ hx120_1)).trans hx120_1
              replace hx120_2 := (HB.out.cell (World.block_lt_of_cell? w _ hx120_2)).trans hx120_2
              replace p120 := eq_true p120
              replace q120 := eq_true q120
              go_upto_region 8 with (first | ((with_reducible refine gate_dst (N := 7) rfl ?_); (try (refine gate_guard (by rfl) ?_; dsimp only)); refine box_event ?hg (N := 7) ?hd (cs := #[.int .i64 0, .int .u8 0, .bool false]) (t := 31) ?hr ?_; (case hd => rfl); (case hg => rfl); (case hr => first | (go_simp; done) | (go_simp; rfl)); intro gb121 hg w9 hbox hb; have n0_ := Aside0.mk (Kd.R_below (by (with_reducible repeat (first | apply Kd.R_alloc | apply Kd.R_drewN | apply Kd.R_drew)); exact HO_4.out) hb); have n1_ := Aside0.mk (below_step (by repeat (first | (with_reducible first | exact HB.out | apply below_alloc | apply pw_below_drewN | apply below_drew1) | exact HB.out)) hb); have n2_ := Aside0.mk (hbox); have n3_ := Aside0.mk ((by rw [hg]; exact (below_size (by repeat (first | (with_reducible first | exact HB.out | apply below_alloc | apply pw_below_drewN | apply below_drew1) | exact HB.out))) : w.heap.size ≤ gb121)); have n4_ := Aside0.mk ((by rw [hg]; exact (below_size (by repeat (first | (with_reducible first | exact HB.out | apply below_alloc | apply pw_below_drewN | apply below_drew1) | exact HB.out))) : w.heap.size ≤ gb121)); clear HO_4; clear HB; have HO_4 := n0_; have HB := n1_; have BK121 := n2_; have GW121 := n3_; have GE121 := n4_; clear n0_ n1_ n2_ n3_ n4_; clear hb hbox hg; have hcz10_0 : w9.cell? ⟨gb121, 0, none⟩ = some (.int .i64 0) := (blk_cell BK121.out 0).trans rfl; have hcz10_1 : w9.cell? ⟨gb121, 1, none⟩ = some (.int .u8 0) := (blk_cell BK121.out 1).trans rfl; have hcz10_2 : w9.cell? ⟨gb121, 2, none⟩ = some (.bool false) := (blk_cell BK121.out 2).trans rfl; have hfz10_0 := blk_frozen BK121.out 0; have hfz10_1 := blk_frozen BK121.out 1; have hfz10_2 := blk_frozen BK121.out 2))
              (try simp only [Act.put, List.setIfInBounds_toArray, List.set_cons_zero, List.set_cons_succ])
              go_cut [55] (fun v55 wc => ∃ (kq : Nat) (x55_7 : Bool), v55 = .bool x55_7 ∧ Aside0 (lempel_Text.j1 kq l0 x4_1 x5_1 l0 (l0.length : Int) x21_1 x55_7 ((rd_T31 l0 x21_1).f0) ((rd_T31 l0 x21_1).f1) ((rd_T31 l0 x21_1).f2) = some (r1, r2)) ∧ Aside0 (kq ≤ k1) ∧ Aside0 (Kd.R (Kd.int .i64) 3 wc w.heap.size (fun _ => True) u4 x4_1) ∧ Aside0 (wc.heap[gb121]? = some (.cells #[.int .i64 ((rd_T31 l0 x21_1).f0), .int .u8 ((rd_T31 l0 x21_1).f1), .bool ((rd_T31 l0 x21_1).f2)] 31 (0, 0))) ∧ Aside0 (Below w.heap.size w wc))
              case first =>
                have H := HC8.out
                clear HC8
                by_cases c11 : ((rd_T31 l0 x21_1).f0) < 0
                · rw [if_pos c11] at H
                  have c11b0 : decide (((rd_T31 l0 x21_1).f0) < 0) = true := decide_eq_true c11
                  clear c11
                  (first | rw [c11b0] | (simp only [i64_w, i32_w]; rw [c11b0]) | skip)
                  have H' := Aside0.mk H
                  clear H
                  have hcz12_0 : w9.cell? ⟨gb121, 0, none⟩ = some (.int .i64 0) := (blk_cell BK121.out 0).trans rfl
                  have hcz12_1 : w9.cell? ⟨gb121, 1, none⟩ = some (.int .u8 0) := (blk_cell BK121.out 1).trans rfl
                  have hcz12_2 : w9.cell? ⟨gb121, 2, none⟩ = some (.bool false) := (blk_cell BK121.out 2).trans rfl
                  have hfz12_0 := blk_frozen BK121.out 0
                  have hfz12_1 := blk_frozen BK121.out 1
                  have hfz12_2 := blk_frozen BK121.out 2
                  go_wp2
                  go_meet
                  case rel => exact ⟨_, (true), (by first | rfl | (simp; done) | (simp [*]; done)), H', ⟨by have := HK1.out; first | omega | exact Nat.le_refl _⟩, ⟨by (with_reducible repeat (first | apply Kd.R_alloc | apply Kd.R_drewN | apply Kd.R_drew)); exact Kd.R_mono (Kd.R_far (p := ⟨gb121, 2, none⟩) (Kd.R_far (p := ⟨gb121, 1, none⟩) (Kd.R_far (p := ⟨gb121, 0, none⟩) (Kd.R_types HO_4.out BK121.out (by decide)) (fun _ hk => hk.2) (.int .i64 ((rd_T31 l0 x21_1).f0))) (fun _ hk => hk.2) (.int .u8 ((rd_T31 l0 x21_1).f1))) (fun _ hk => hk.2) (.bool ((rd_T31 l0 x21_1).f2))) (fun _ hk => trivial)⟩, ⟨by (with_reducible repeat (first | refine blk_drewN ?_ _ | refine blk_drew ?_ | refine blk_alloc ?_ _)); refine blk_put (cs := #[.int .i64 ((rd_T31 l0 x21_1).f0), .int .u8 ((rd_T31 l0 x21_1).f1), .bool false]) ?_ 2 _ rfl; (with_reducible repeat (first | refine blk_drewN ?_ _ | refine blk_drew ?_ | refine blk_alloc ?_ _)); refine blk_put (cs := #[.int .i64 ((rd_T31 l0 x21_1).f0), .int .u8 0, .bool false]) ?_ 1 _ rfl; (with_reducible repeat (first | refine blk_drewN ?_ _ | refine blk_drew ?_ | refine blk_alloc ?_ _)); refine blk_put (cs := #[.int .i64 0, .int .u8 0, .bool false]) ?_ 0 _ rfl; (with_reducible repeat (first | refine blk_drewN ?_ _ | refine blk_drew ?_ | refine blk_alloc ?_ _)); exact BK121.out⟩, ⟨by repeat (first | (with_reducible first | exact HB.out | apply below_alloc | apply pw_below_drewN | apply below_drew1 | refine below_set ?_ GE121.out) | exact HB.out)⟩⟩
                · rw [if_neg c11] at H
                  have c11b0 : decide (((rd_T31 l0 x21_1).f0) < 0) = false := decide_eq_false c11
                  clear c11
                  (first | rw [c11b0] | (simp only [i64_w, i32_w]; rw [c11b0]) | skip)
                  by_cases c13 : ((rd_T31 l0 x21_1).f0) > x21_1
                  · rw [if_pos c13] at H
                    have c13b0 : decide (x21_1 < ((rd_T31 l0 x21_1).f0)) = true := decide_eq_true c13
                    clear c13
                    have H' := Aside0.mk H
                    clear H
                    have hcz14_0 : w9.cell? ⟨gb121, 0, none⟩ = some (.int .i64 0) := (blk_cell BK121.out 0).trans rfl
                    have hcz14_1 : w9.cell? ⟨gb121, 1, none⟩ = some (.int .u8 0) := (blk_cell BK121.out 1).trans rfl
                    have hcz14_2 : w9.cell? ⟨gb121, 2, none⟩ = some (.bool false) := (blk_cell BK121.out 2).trans rfl
                    have hfz14_0 := blk_frozen BK121.out 0
                    have hfz14_1 := blk_frozen BK121.out 1
                    have hfz14_2 := blk_frozen BK121.out 2
                    go_wp2
                    go_meet
                    case rel => exact ⟨_, (true), (by first | rfl | (simp; done) | (simp [*]; done)), H', ⟨by have := HK1.out; first | omega | exact Nat.le_refl _⟩, ⟨by (with_reducible repeat (first | apply Kd.R_alloc | apply Kd.R_drewN | apply Kd.R_drew)); exact Kd.R_mono (Kd.R_far (p := ⟨gb121, 2, none⟩) (Kd.R_far (p := ⟨gb121, 1, none⟩) (Kd.R_far (p := ⟨gb121, 0, none⟩) (Kd.R_types HO_4.out BK121.out (by decide)) (fun _ hk => hk.2) (.int .i64 ((rd_T31 l0 x21_1).f0))) (fun _ hk => hk.2) (.int .u8 ((rd_T31 l0 x21_1).f1))) (fun _ hk => hk.2) (.bool ((rd_T31 l0 x21_1).f2))) (fun _ hk => trivial)⟩, ⟨by (with_reducible repeat (first | refine blk_drewN ?_ _ | refine blk_drew ?_ | refine blk_alloc ?_ _)); refine blk_put (cs := #[.int .i64 ((rd_T31 l0 x21_1).f0), .int .u8 ((rd_T31 l0 x21_1).f1), .bool false]) ?_ 2 _ rfl; (with_reducible repeat (first | refine blk_drewN ?_ _ | refine blk_drew ?_ | refine blk_alloc ?_ _)); refine blk_put (cs := #[.int .i64 ((rd_T31 l0 x21_1).f0), .int .u8 0, .bool false]) ?_ 1 _ rfl; (with_reducible repeat (first | refine blk_drewN ?_ _ | refine blk_drew ?_ | refine blk_alloc ?_ _)); refine blk_put (cs := #[.int .i64 0, .int .u8 0, .bool false]) ?_ 0 _ rfl; (with_reducible repeat (first | refine blk_drewN ?_ _ | refine blk_drew ?_ | refine blk_alloc ?_ _)); exact BK121.out⟩, ⟨by repeat (first | (with_reducible first | exact HB.out | apply below_alloc | apply pw_below_drewN | apply below_drew1 | refine below_set ?_ GE121.out) | exact HB.out)⟩⟩
                  · rw [if_neg c13] at H
                    have c13b0 : decide (x21_1 < ((rd_T31 l0 x21_1).f0)) = false := decide_eq_false c13
                    clear c13
                    obtain ⟨bq15, hbq15⟩ : ∃ b_ : Bool, b_ = ((rd_T31 l0 x21_1).f2) := ⟨_, rfl⟩
                    replace H : (if bq15 = true then (if x21_1 < (wrap64 ((l0.length : Int) - 1)) then (lempel_Text.j1 k1 l0 x4_1 x5_1 l0 (l0.length : Int) x21_1 true ((rd_T31 l0 x21_1).f0) ((rd_T31 l0 x21_1).f1) bq15) else (if ((rd_T31 l0 x21_1).f0) = 0 then (lempel_Text.j1 k1 l0 x4_1 x5_1 l0 (l0.length : Int) x21_1 true ((rd_T31 l0 x21_1).f0) ((rd_T31 l0 x21_1).f1) bq15) else (lempel_Text.j1 k1 l0 x4_1 x5_1 l0 (l0.length : Int) x21_1 (((rd_T31 l0 x21_1).f1) != 0) ((rd_T31 l0 x21_1).f0) ((rd_T31 l0 x21_1).f1) bq15))) else (lempel_Text.j1 k1 l0 x4_1 x5_1 l0 (l0.length : Int) x21_1 false ((rd_T31 l0 x21_1).f0) ((rd_T31 l0 x21_1).f1) bq15)) = some (r1, r2) := by rw [← hbq15] at H; exact H
                    have Nbq15 := Aside0.mk hbq15
                    clear hbq15
                    by_cases c16 : bq15 = true
                    · subst c16
                      have H1 : (if x21_1 < (wrap64 ((l0.length : Int) - 1)) then (lempel_Text.j1 k1 l0 x4_1 x5_1 l0 (l0.length : Int) x21_1 true ((rd_T31 l0 x21_1).f0) ((rd_T31 l0 x21_1).f1) true) else (if ((rd_T31 l0 x21_1).f0) = 0 then (lempel_Text.j1 k1 l0 x4_1 x5_1 l0 (l0.length : Int) x21_1 true ((rd_T31 l0 x21_1).f0) ((rd_T31 l0 x21_1).f1) true) else (lempel_Text.j1 k1 l0 x4_1 x5_1 l0 (l0.length : Int) x21_1 (((rd_T31 l0 x21_1).f1) != 0) ((rd_T31 l0 x21_1).f0) ((rd_T31 l0 x21_1).f1) true))) = some (r1, r2) := by rw [if_pos rfl] at H; exact H
                      clear H
                      have H := H1
                      clear H1
                      by_cases c17 : x21_1 < (wrap64 ((l0.length : Int) - 1))
                      · rw [if_pos c17] at H
                        have c17b0 : decide (x21_1 < (wrap64 ((l0.length : Int) - 1))) = true := decide_eq_true c17
                        clear c17
                        have H' := Aside0.mk H
                        clear H
                        have hcz18_0 : w9.cell? ⟨gb121, 0, none⟩ = some (.int .i64 0) := (blk_cell BK121.out 0).trans rfl
                        have hcz18_1 : w9.cell? ⟨gb121, 1, none⟩ = some (.int .u8 0) := (blk_cell BK121.out 1).trans rfl
                        have hcz18_2 : w9.cell? ⟨gb121, 2, none⟩ = some (.bool false) := (blk_cell BK121.out 2).trans rfl
                        have hfz18_0 := blk_frozen BK121.out 0
                        have hfz18_1 := blk_frozen BK121.out 1
                        have hfz18_2 := blk_frozen BK121.out 2
                        have hbf := Nbq15.out.symm
                        go_wp2
                        go_meet
                        case rel => (try rw [hbf]); exact ⟨_, (true), (by first | rfl | (simp; done) | (simp [*]; done)), H', ⟨by have := HK1.out; first | omega | exact Nat.le_refl _⟩, ⟨by (with_reducible repeat (first | apply Kd.R_alloc | apply Kd.R_drewN | apply Kd.R_drew)); exact Kd.R_mono (Kd.R_far (p := ⟨gb121, 2, none⟩) (Kd.R_far (p := ⟨gb121, 1, none⟩) (Kd.R_far (p := ⟨gb121, 0, none⟩) (Kd.R_types HO_4.out BK121.out (by decide)) (fun _ hk => hk.2) (.int .i64 ((rd_T31 l0 x21_1).f0))) (fun _ hk => hk.2) (.int .u8 ((rd_T31 l0 x21_1).f1))) (fun _ hk => hk.2) (.bool (true))) (fun _ hk => trivial)⟩, ⟨by (with_reducible repeat (first | refine blk_drewN ?_ _ | refine blk_drew ?_ | refine blk_alloc ?_ _)); refine blk_put (cs := #[.int .i64 ((rd_T31 l0 x21_1).f0), .int .u8 ((rd_T31 l0 x21_1).f1), .bool false]) ?_ 2 _ rfl; (with_reducible repeat (first | refine blk_drewN ?_ _ | refine blk_drew ?_ | refine blk_alloc ?_ _)); refine blk_put (cs := #[.int .i64 ((rd_T31 l0 x21_1).f0), .int .u8 0, .bool false]) ?_ 1 _ rfl; (with_reducible repeat (first | refine blk_drewN ?_ _ | refine blk_drew ?_ | refine blk_alloc ?_ _)); refine blk_put (cs := #[.int .i64 0, .int .u8 0, .bool false]) ?_ 0 _ rfl; (with_reducible repeat (first | refine blk_drewN ?_ _ | refine blk_drew ?_ | refine blk_alloc ?_ _)); exact BK121.out⟩, ⟨by repeat (first | (with_reducible first | exact HB.out | apply below_alloc | apply pw_below_drewN | apply below_drew1 | refine below_set ?_ GE121.out) | exact HB.out)⟩⟩
                      · rw [if_neg c17] at H
                        have c17b0 : decide (x21_1 < (wrap64 ((l0.length : Int) - 1))) = false := decide_eq_false c17
                        clear c17
                        by_cases c19 : ((rd_T31 l0 x21_1).f0) = 0
                        · rw [if_pos c19] at H
                          have c19b0 : (((rd_T31 l0 x21_1).f0) == 0) = true := beq_iff_eq.mpr c19
                          have c19b1 : (((rd_T31 l0 x21_1).f0) != 0) = false := bne_eq_false_iff_eq.mpr c19
                          clear c19
                          have H' := Aside0.mk H
                          clear H
                          have hcz20_0 : w9.cell? ⟨gb121, 0, none⟩ = some (.int .i64 0) := (blk_cell BK121.out 0).trans rfl
                          have hcz20_1 : w9.cell? ⟨gb121, 1, none⟩ = some (.int .u8 0) := (blk_cell BK121.out 1).trans rfl
                          have hcz20_2 : w9.cell? ⟨gb121, 2, none⟩ = some (.bool false) := (blk_cell BK121.out 2).trans rfl
                          have hfz20_0 := blk_frozen BK121.out 0
                          have hfz20_1 := blk_frozen BK121.out 1
                          have hfz20_2 := blk_frozen BK121.out 2
                          have hbf := Nbq15.out.symm
                          go_wp2
                          go_meet
                          case rel => (try rw [hbf]); exact ⟨_, (true), (by first | rfl | (simp; done) | (simp [*]; done)), H', ⟨by have := HK1.out; first | omega | exact Nat.le_refl _⟩, ⟨by (with_reducible repeat (first | apply Kd.R_alloc | apply Kd.R_drewN | apply Kd.R_drew)); exact Kd.R_mono (Kd.R_far (p := ⟨gb121, 2, none⟩) (Kd.R_far (p := ⟨gb121, 1, none⟩) (Kd.R_far (p := ⟨gb121, 0, none⟩) (Kd.R_types HO_4.out BK121.out (by decide)) (fun _ hk => hk.2) (.int .i64 ((rd_T31 l0 x21_1).f0))) (fun _ hk => hk.2) (.int .u8 ((rd_T31 l0 x21_1).f1))) (fun _ hk => hk.2) (.bool (true))) (fun _ hk => trivial)⟩, ⟨by (with_reducible repeat (first | refine blk_drewN ?_ _ | refine blk_drew ?_ | refine blk_alloc ?_ _)); refine blk_put (cs := #[.int .i64 ((rd_T31 l0 x21_1).f0), .int .u8 ((rd_T31 l0 x21_1).f1), .bool false]) ?_ 2 _ rfl; (with_reducible repeat (first | refine blk_drewN ?_ _ | refine blk_drew ?_ | refine blk_alloc ?_ _)); refine blk_put (cs := #[.int .i64 ((rd_T31 l0 x21_1).f0), .int .u8 0, .bool false]) ?_ 1 _ rfl; (with_reducible repeat (first | refine blk_drewN ?_ _ | refine blk_drew ?_ | refine blk_alloc ?_ _)); refine blk_put (cs := #[.int .i64 0, .int .u8 0, .bool false]) ?_ 0 _ rfl; (with_reducible repeat (first | refine blk_drewN ?_ _ | refine blk_drew ?_ | refine blk_alloc ?_ _)); exact BK121.out⟩, ⟨by repeat (first | (with_reducible first | exact HB.out | apply below_alloc | apply pw_below_drewN | apply below_drew1 | refine below_set ?_ GE121.out) | exact HB.out)⟩⟩
                        · rw [if_neg c19] at H
                          have c19b0 : (((rd_T31 l0 x21_1).f0) == 0) = false := beq_eq_false_iff_ne.mpr c19
                          have c19b1 : (((rd_T31 l0 x21_1).f0) != 0) = true := bne_iff_ne.mpr c19
                          have H' := Aside0.mk H
                          clear H
                          have hcz21_0 : w9.cell? ⟨gb121, 0, none⟩ = some (.int .i64 0) := (blk_cell BK121.out 0).trans rfl
                          have hcz21_1 : w9.cell? ⟨gb121, 1, none⟩ = some (.int .u8 0) := (blk_cell BK121.out 1).trans rfl
                          have hcz21_2 : w9.cell? ⟨gb121, 2, none⟩ = some (.bool false) := (blk_cell BK121.out 2).trans rfl
                          have hfz21_0 := blk_frozen BK121.out 0
                          have hfz21_1 := blk_frozen BK121.out 1
                          have hfz21_2 := blk_frozen BK121.out 2
                          have hbf := Nbq15.out.symm
                          go_wp2
                          go_meet
                          case rel => (try rw [hbf]); exact ⟨_, ((((rd_T31 l0 x21_1).f1) != 0)), (by first | rfl | (simp; done) | (simp [*]; done)), H', ⟨by have := HK1.out; first | omega | exact Nat.le_refl _⟩, ⟨by (with_reducible repeat (first | apply Kd.R_alloc | apply Kd.R_drewN | apply Kd.R_drew)); exact Kd.R_mono (Kd.R_far (p := ⟨gb121, 2, none⟩) (Kd.R_far (p := ⟨gb121, 1, none⟩) (Kd.R_far (p := ⟨gb121, 0, none⟩) (Kd.R_types HO_4.out BK121.out (by decide)) (fun _ hk => hk.2) (.int .i64 ((rd_T31 l0 x21_1).f0))) (fun _ hk => hk.2) (.int .u8 ((rd_T31 l0 x21_1).f1))) (fun _ hk => hk.2) (.bool (true))) (fun _ hk => trivial)⟩, ⟨by (with_reducible repeat (first | refine blk_drewN ?_ _ | refine blk_drew ?_ | refine blk_alloc ?_ _)); refine blk_put (cs := #[.int .i64 ((rd_T31 l0 x21_1).f0), .int .u8 ((rd_T31 l0 x21_1).f1), .bool false]) ?_ 2 _ rfl; (with_reducible repeat (first | refine blk_drewN ?_ _ | refine blk_drew ?_ | refine blk_alloc ?_ _)); refine blk_put (cs := #[.int .i64 ((rd_T31 l0 x21_1).f0), .int .u8 0, .bool false]) ?_ 1 _ rfl; (with_reducible repeat (first | refine blk_drewN ?_ _ | refine blk_drew ?_ | refine blk_alloc ?_ _)); refine blk_put (cs := #[.int .i64 0, .int .u8 0, .bool false]) ?_ 0 _ rfl; (with_reducible repeat (first | refine blk_drewN ?_ _ | refine blk_drew ?_ | refine blk_alloc ?_ _)); exact BK121.out⟩, ⟨by repeat (first | (with_reducible first | exact HB.out | apply below_alloc | apply pw_below_drewN | apply below_drew1 | refine below_set ?_ GE121.out) | exact HB.out)⟩⟩
                    · replace c16 := Bool.eq_false_iff.mpr c16
                      subst c16
                      have H1 : (lempel_Text.j1 k1 l0 x4_1 x5_1 l0 (l0.length : Int) x21_1 false ((rd_T31 l0 x21_1).f0) ((rd_T31 l0 x21_1).f1) false) = some (r1, r2) := by rw [if_neg (show ¬ (false = true) by decide)] at H; exact H
                      clear H
                      have H := H1
                      clear H1
                      have H' := Aside0.mk H
                      clear H
                      have hcz22_0 : w9.cell? ⟨gb121, 0, none⟩ = some (.int .i64 0) := (blk_cell BK121.out 0).trans rfl
                      have hcz22_1 : w9.cell? ⟨gb121, 1, none⟩ = some (.int .u8 0) := (blk_cell BK121.out 1).trans rfl
                      have hcz22_2 : w9.cell? ⟨gb121, 2, none⟩ = some (.bool false) := (blk_cell BK121.out 2).trans rfl
                      have hfz22_0 := blk_frozen BK121.out 0
                      have hfz22_1 := blk_frozen BK121.out 1
                      have hfz22_2 := blk_frozen BK121.out 2
                      have hbf := Nbq15.out.symm
                      go_wp2
                      go_meet
                      case rel => (try rw [hbf]); exact ⟨_, (false), (by first | rfl | (simp; done) | (simp [*]; done)), H', ⟨by have := HK1.out; first | omega | exact Nat.le_refl _⟩, ⟨by (with_reducible repeat (first | apply Kd.R_alloc | apply Kd.R_drewN | apply Kd.R_drew)); exact Kd.R_mono (Kd.R_far (p := ⟨gb121, 2, none⟩) (Kd.R_far (p := ⟨gb121, 1, none⟩) (Kd.R_far (p := ⟨gb121, 0, none⟩) (Kd.R_types HO_4.out BK121.out (by decide)) (fun _ hk => hk.2) (.int .i64 ((rd_T31 l0 x21_1).f0))) (fun _ hk => hk.2) (.int .u8 ((rd_T31 l0 x21_1).f1))) (fun _ hk => hk.2) (.bool (false))) (fun _ hk => trivial)⟩, ⟨by (with_reducible repeat (first | refine blk_drewN ?_ _ | refine blk_drew ?_ | refine blk_alloc ?_ _)); refine blk_put (cs := #[.int .i64 ((rd_T31 l0 x21_1).f0), .int .u8 ((rd_T31 l0 x21_1).f1), .bool false]) ?_ 2 _ rfl; (with_reducible repeat (first | refine blk_drewN ?_ _ | refine blk_drew ?_ | refine blk_alloc ?_ _)); refine blk_put (cs := #[.int .i64 ((rd_T31 l0 x21_1).f0), .int .u8 0, .bool false]) ?_ 1 _ rfl; (with_reducible repeat (first | refine blk_drewN ?_ _ | refine blk_drew ?_ | refine blk_alloc ?_ _)); refine blk_put (cs := #[.int .i64 0, .int .u8 0, .bool false]) ?_ 0 _ rfl; (with_reducible repeat (first | refine blk_drewN ?_ _ | refine blk_drew ?_ | refine blk_alloc ?_ _)); exact BK121.out⟩, ⟨by repeat (first | (with_reducible first | exact HB.out | apply below_alloc | apply pw_below_drewN | apply below_drew1 | refine below_set ?_ GE121.out) | exact HB.out)⟩⟩
              case rest =>
                clear HC8
                try clear c1
                try clear p1
                try clear q1
                try clear hx1
                try clear c2
                try clear c2b0
                try clear c2b1
                try clear p2
                try clear c5
                try clear c5b0
                try clear c6
                try clear c6b0
                try clear p6
                try clear c7
                try clear c7b0
                try clear c10
                try clear c11
                try clear c11b0
                try clear p12
                try clear q12
                try clear hx12
                try clear c13
                try clear c13b0
                try clear q15
                try clear c16
                try clear c17
                try clear c17b0
                try clear c19
                try clear c19b0
                try clear c19b1
                try clear hcz10_0
                try clear hcz10_1
                try clear hcz10_2
                try clear hcz12_0
                try clear hcz12_1
                try clear hcz12_2
                try clear hcz14_0
                try clear hcz14_1
                try clear hcz14_2
                try clear hcz18_0
                try clear hcz18_1
                try clear hcz18_2
                try clear hcz20_0
                try clear hcz20_1
                try clear hcz20_2
                try clear hcz21_0
                try clear hcz21_1
                try clear hcz21_2
                try clear hcz22_0
                try clear hcz22_1
                try clear hcz22_2
                try clear hfz10_0
                try clear hfz10_1
                try clear hfz10_2
                try clear hfz12_0
                try clear hfz12_1
                try clear hfz12_2
                try clear hfz14_0
                try clear hfz14_1
                try clear hfz14_2
                try clear hfz18_0
                try clear hfz18_1
                try clear hfz18_2
                try clear hfz20_0
                try clear hfz20_1
                try clear hfz20_2
                try clear hfz21_0
                try clear hfz21_1
                try clear hfz21_2
                try clear hfz22_0
                try clear hfz22_1
                try clear hfz22_2
                try clear hx120_0
                try clear hx120_1
                try clear hx120_2
                try clear p120
                try clear p2
                try clear q120
                obtain ⟨kq, x55_7, rfl, HA, HJ7, HO_4, BK121, HB⟩ := hcut
                cases kq with
                | zero => exact absurd HA.out (by simp [lempel_Text.j1])
                | succ kj7 =>
                  have H := HA.out
                  clear HA
                  simp only [lempel_Text.j1] at H
                  by_cases c23 : x55_7 = true
                  · subst c23
                    have H1 : (none) = some (r1, r2) := by rw [if_pos rfl] at H; exact H
                    clear H
                    have H := H1
                    clear H1
                    exact absurd H (by simp)
                  · replace c23 := Bool.eq_false_iff.mpr c23
                    subst c23
                    have H1 : (if 0 ≤ ((rd_T31 l0 x21_1).f0) then (if ((rd_T31 l0 x21_1).f0) < (x4_1.length : Int) then (if ((rd_T31 l0 x21_1).f2) = true then (if x4_1.length < 17592186044416 then (lempel_Text.l0 kj7 l0 (x4_1 ++ [rd x4_1 ((rd_T31 l0 x21_1).f0)]) (wrap64 (x5_1 + (rd x4_1 ((rd_T31 l0 x21_1).f0)))) l0 (l0.length : Int) (wrap64 (x21_1 + 1))) else (none)) else (if x4_1.length < 17592186044416 then (lempel_Text.l0 kj7 l0 (x4_1 ++ [wrap64 ((rd x4_1 ((rd_T31 l0 x21_1).f0)) + 1)]) (wrap64 (x5_1 + (wrap64 ((rd x4_1 ((rd_T31 l0 x21_1).f0)) + 1)))) l0 (l0.length : Int) (wrap64 (x21_1 + 1))) else (none))) else (none)) else (none)) = some (r1, r2) := by rw [if_neg (show ¬ (false = true) by decide)] at H; exact H
                    clear H
                    have H := H1
                    clear H1
                    by_cases c24 : 0 ≤ ((rd_T31 l0 x21_1).f0)
                    · rw [if_pos c24] at H
                      have c24b0 : decide (0 ≤ ((rd_T31 l0 x21_1).f0)) = true := decide_eq_true c24
                      clear c24
                      by_cases c25 : ((rd_T31 l0 x21_1).f0) < (x4_1.length : Int)
                      · rw [if_pos c25] at H
                        have c25b0 : decide (((rd_T31 l0 x21_1).f0) < (x4_1.length : Int)) = true := decide_eq_true c25
                        clear c25
                        by_cases c26 : ((rd_T31 l0 x21_1).f2) = true
                        · rw [if_pos c26] at H
                          have c26b0 : ((rd_T31 l0 x21_1).f2) = true := c26
                          clear c26
                          by_cases c27 : x4_1.length < 17592186044416
                          · rw [if_pos c27] at H
                            have LMc27 := Aside0.mk c27
                            clear c27
                            obtain ⟨y123, hy123⟩ : ∃ y_ : List Int, y_ = (x4_1 ++ [rd x4_1 ((rd_T31 l0 x21_1).f0)]) := ⟨_, rfl⟩
                            replace H : (lempel_Text.l0 kj7 l0 y123 (wrap64 (x5_1 + (rd x4_1 ((rd_T31 l0 x21_1).f0)))) l0 (l0.length : Int) (wrap64 (x21_1 + 1))) = some (r1, r2) := by first | (rw [hy123]; with_reducible exact H) | (have H2_ := (Option.bind_some _ _).symm.trans H; rw [hy123]; with_reducible exact H2_) | (have H2_ := (Option.bind_some _ _).symm.trans H; with_reducible exact H2_) | with_reducible exact H | (rw [hy123]; exact H) | exact H
                            have Ny123 := Aside0.mk hy123
                            clear hy123
                            have H' := Aside0.mk H
                            clear H
                            have hcz28_0 : wc.cell? ⟨gb121, 0, none⟩ = some (.int .i64 ((rd_T31 l0 x21_1).f0)) := (blk_cell BK121.out 0).trans rfl
                            have hcz28_1 : wc.cell? ⟨gb121, 1, none⟩ = some (.int .u8 ((rd_T31 l0 x21_1).f1)) := (blk_cell BK121.out 1).trans rfl
                            have hcz28_2 : wc.cell? ⟨gb121, 2, none⟩ = some (.bool ((rd_T31 l0 x21_1).f2)) := (blk_cell BK121.out 2).trans rfl
                            have hfz28_0 := blk_frozen BK121.out 0
                            have hfz28_1 := blk_frozen BK121.out 1
                            have hfz28_2 := blk_frozen BK121.out 2
                            obtain ⟨Ao29, co29, eo29⟩ := Kd.R_slice HO_4.out
                            subst eo29
                            have p122 : 0 ≤ (((rd_T31 l0 x21_1).f0) : Int) := of_decide_eq_true (by first | (with_reducible assumption) | assumption)
                            have q122 : ((rd_T31 l0 x21_1).f0) < (x4_1.length : Int) := of_decide_eq_true (by first | (with_reducible assumption) | assumption)
                            obtain ⟨ad122, e122, hx122_0⟩ := Kd.at_int (Kd.R_reads' HO_4.out).2.2 ((rd_T31 l0 x21_1).f0) p122 q122
                            cases e122
                            replace p122 := eq_true p122
                            replace q122 := eq_true q122
                            go_wp2_with (first | ((with_reducible refine gate_builtin (b := .append) (xs := #[.tmp 71, .tmp 73]) rfl ?_); (try (refine gate_guard (by rfl) ?_; dsimp only)); at_builtin; refine Kd.R_append (Kd.int .i64) (w0 := w) w.heap.size rfl (.tmp 71) (.tmp 73) 58 3 (.int .i64 0) 8 rfl Tryd.underlying58 info3 rfl (by decide) (by omega) (.slice (some ad122) x4_1.length co29) x4_1 (rd x4_1 ((rd_T31 l0 x21_1).f0)) [.int .i64 (rd x4_1 ((rd_T31 l0 x21_1).f0))] (fun _ => True) (fun _ => False) rfl rfl ?aP (fun _ hk => hk.elim) ?aF ?aO ?aB ?aS ?aL ?_; (case aP => exact rfl); (case aB => exact (by repeat (first | (with_reducible first | exact HB.out | apply below_alloc | apply pw_below_drewN | apply below_drew1 | refine below_set ?_ GE121.out) | exact HB.out))); (case aF => exact (fun _ _ => trivial)); (case aO => exact (by (with_reducible repeat (first | apply Kd.R_alloc | apply Kd.R_drewN | apply Kd.R_drew)); exact HO_4.out)); (case aS => exact (below_size (by repeat (first | (with_reducible first | exact HB.out | apply below_alloc | apply pw_below_drewN | apply below_drew1 | refine below_set ?_ GE121.out) | exact HB.out)))); (case aL => have := LMc27.out; omega); intro v124 w30 ho hb hg hat; rw [← Ny123.out] at ho; have n0_ := Aside0.mk (blk_grown (g := gb121) (o := .cells #[.int .i64 ((rd_T31 l0 x21_1).f0), .int .u8 ((rd_T31 l0 x21_1).f1), .bool ((rd_T31 l0 x21_1).f2)] 31 (0, 0)) (by (with_reducible repeat (first | refine blk_drewN ?_ _ | refine blk_drew ?_ | refine blk_alloc ?_ _)); exact BK121.out) hg (Kd.R_ne HO_4.out BK121.out (by decide))); have n1_ := Aside0.mk (hb); have n2_ := Aside0.mk (ho); clear BK121; clear HB; clear HO_4; have BK121 := n0_; have HB := n1_; have HO125 := n2_; clear n0_ n1_ n2_; clear ho hb hg hat))
                            go_roundg kj7
                            case measure => have := HK1.out; have := HJ7.out; omega
                            case rel => exact ⟨(y123), (wrap64 (x5_1 + (rd x4_1 ((rd_T31 l0 x21_1).f0)))), (wrap64 (x21_1 + 1)), (by first | rfl | (simp; done) | (simp [*]; done)), (by first | rfl | (simp; done) | (simp [*]; done)), H', ⟨by have := HK1.out; have := HJ7.out; omega⟩, ⟨by (with_reducible repeat (first | apply Kd.R_alloc | apply Kd.R_drewN | apply Kd.R_drew)); exact HO125.out⟩, ⟨by repeat (first | (with_reducible first | exact HB.out | apply below_alloc | apply pw_below_drewN | apply below_drew1 | refine below_set ?_ GE121.out) | exact HB.out)⟩⟩
                          · rw [if_neg c27] at H
                            exact absurd H (by simp)
                        · rw [if_neg c26] at H
                          have c26b0 : ((rd_T31 l0 x21_1).f2) = false := by simpa using c26
                          clear c26
                          by_cases c31 : x4_1.length < 17592186044416
                          · rw [if_pos c31] at H
                            have LMc31 := Aside0.mk c31
                            clear c31
                            obtain ⟨y126, hy126⟩ : ∃ y_ : List Int, y_ = (x4_1 ++ [wrap64 ((rd x4_1 ((rd_T31 l0 x21_1).f0)) + 1)]) := ⟨_, rfl⟩
                            replace H : (lempel_Text.l0 kj7 l0 y126 (wrap64 (x5_1 + (wrap64 ((rd x4_1 ((rd_T31 l0 x21_1).f0)) + 1)))) l0 (l0.length : Int) (wrap64 (x21_1 + 1))) = some (r1, r2) := by first | (rw [hy126]; with_reducible exact H) | (have H2_ := (Option.bind_some _ _).symm.trans H; rw [hy126]; with_reducible exact H2_) | (have H2_ := (Option.bind_some _ _).symm.trans H; with_reducible exact H2_) | with_reducible exact H | (rw [hy126]; exact H) | exact H
                            have Ny126 := Aside0.mk hy126
                            clear hy126
                            have H' := Aside0.mk H
                            clear H
                            have hcz32_0 : wc.cell? ⟨gb121, 0, none⟩ = some (.int .i64 ((rd_T31 l0 x21_1).f0)) := (blk_cell BK121.out 0).trans rfl
                            have hcz32_1 : wc.cell? ⟨gb121, 1, none⟩ = some (.int .u8 ((rd_T31 l0 x21_1).f1)) := (blk_cell BK121.out 1).trans rfl
                            have hcz32_2 : wc.cell? ⟨gb121, 2, none⟩ = some (.bool ((rd_T31 l0 x21_1).f2)) := (blk_cell BK121.out 2).trans rfl
                            have hfz32_0 := blk_frozen BK121.out 0
                            have hfz32_1 := blk_frozen BK121.out 1
                            have hfz32_2 := blk_frozen BK121.out 2
                            obtain ⟨Ao33, co33, eo33⟩ := Kd.R_slice HO_4.out
                            subst eo33
                            have p122 : 0 ≤ (((rd_T31 l0 x21_1).f0) : Int) := of_decide_eq_true (by first | (with_reducible assumption) | assumption)
                            have q122 : ((rd_T31 l0 x21_1).f0) < (x4_1.length : Int) := of_decide_eq_true (by first | (with_reducible assumption) | assumption)
                            obtain ⟨ad122, e122, hx122_0⟩ := Kd.at_int (Kd.R_reads' HO_4.out).2.2 ((rd_T31 l0 x21_1).f0) p122 q122
                            cases e122
                            replace p122 := eq_true p122
                            replace q122 := eq_true q122
                            go_wp2_with (first | ((with_reducible refine gate_builtin (b := .append) (xs := #[.tmp 71, .tmp 73]) rfl ?_); (try (refine gate_guard (by rfl) ?_; dsimp only)); at_builtin; refine Kd.R_append (Kd.int .i64) (w0 := w) w.heap.size rfl (.tmp 71) (.tmp 73) 58 3 (.int .i64 0) 8 rfl Tryd.underlying58 info3 rfl (by decide) (by omega) (.slice (some ad122) x4_1.length co33) x4_1 (wrap64 ((rd x4_1 ((rd_T31 l0 x21_1).f0)) + 1)) [.int .i64 (wrap64 ((rd x4_1 ((rd_T31 l0 x21_1).f0)) + 1))] (fun _ => True) (fun _ => False) rfl rfl ?aP (fun _ hk => hk.elim) ?aF ?aO ?aB ?aS ?aL ?_; (case aP => exact rfl); (case aB => exact (by repeat (first | (with_reducible first | exact HB.out | apply below_alloc | apply pw_below_drewN | apply below_drew1 | refine below_set ?_ GE121.out) | exact HB.out))); (case aF => exact (fun _ _ => trivial)); (case aO => exact (by (with_reducible repeat (first | apply Kd.R_alloc | apply Kd.R_drewN | apply Kd.R_drew)); exact HO_4.out)); (case aS => exact (below_size (by repeat (first | (with_reducible first | exact HB.out | apply below_alloc | apply pw_below_drewN | apply below_drew1 | refine below_set ?_ GE121.out) | exact HB.out)))); (case aL => have := LMc31.out; omega); intro v127 w34 ho hb hg hat; rw [← Ny126.out] at ho; have n0_ := Aside0.mk (blk_grown (g := gb121) (o := .cells #[.int .i64 ((rd_T31 l0 x21_1).f0), .int .u8 ((rd_T31 l0 x21_1).f1), .bool ((rd_T31 l0 x21_1).f2)] 31 (0, 0)) (by (with_reducible repeat (first | refine blk_drewN ?_ _ | refine blk_drew ?_ | refine blk_alloc ?_ _)); exact BK121.out) hg (Kd.R_ne HO_4.out BK121.out (by decide))); have n1_ := Aside0.mk (hb); have n2_ := Aside0.mk (ho); clear BK121; clear HB; clear HO_4; have BK121 := n0_; have HB := n1_; have HO128 := n2_; clear n0_ n1_ n2_; clear ho hb hg hat))
                            go_roundg kj7
                            case measure => have := HK1.out; have := HJ7.out; omega
                            case rel => exact ⟨(y126), (wrap64 (x5_1 + (wrap64 ((rd x4_1 ((rd_T31 l0 x21_1).f0)) + 1)))), (wrap64 (x21_1 + 1)), (by first | rfl | (simp; done) | (simp [*]; done)), (by first | rfl | (simp; done) | (simp [*]; done)), H', ⟨by have := HK1.out; have := HJ7.out; omega⟩, ⟨by (with_reducible repeat (first | apply Kd.R_alloc | apply Kd.R_drewN | apply Kd.R_drew)); exact HO128.out⟩, ⟨by repeat (first | (with_reducible first | exact HB.out | apply below_alloc | apply pw_below_drewN | apply below_drew1 | refine below_set ?_ GE121.out) | exact HB.out)⟩⟩
                          · rw [if_neg c31] at H
                            exact absurd H (by simp)
                      · rw [if_neg c25] at H
                        exact absurd H (by simp)
                    · rw [if_neg c24] at H
                      exact absurd H (by simp)
            · rw [if_neg c7] at H
              exact absurd H (by simp)
          · rw [if_neg c6] at H
            exact absurd H (by simp)
        · rw [if_neg c5] at H
          have c5b0 : decide (x21_1 < (l0.length : Int)) = false := decide_eq_false c5
          clear c5
          by_cases c35 : x5_1 > 4000
          · rw [if_pos c35] at H
            exact absurd H (by simp)
          · rw [if_neg c35] at H
            have c35b0 : decide (4000 < x5_1) = false := decide_eq_false c35
            clear c35
            obtain ⟨y129, hy129⟩ : ∃ y_ : List ByteArray, y_ = (([(⟨#[]⟩ : ByteArray)] : List ByteArray)) := ⟨_, rfl⟩
            replace H : (lempel_Text.l1 k1 y129 (⟨#[]⟩ : ByteArray) l0 (l0.length : Int) 0) = some (r1, r2) := by first | (rw [hy129]; with_reducible exact H) | (have H2_ := (Option.bind_some _ _).symm.trans H; rw [hy129]; with_reducible exact H2_) | (have H2_ := (Option.bind_some _ _).symm.trans H; with_reducible exact H2_) | with_reducible exact H | (rw [hy129]; exact H) | exact H
            have Ny129 := Aside0.mk hy129
            clear hy129
            have H' := Aside0.mk H
            clear H
            go_wp2_with (first | ((with_reducible refine gate_dst (N := 82) rfl ?_); (try (refine gate_guard (by rfl) ?_; dsimp only)); refine Kd.R_lit Kd.string _ 9 ?hg (N := 82) ?hd (xs := ([(⟨#[]⟩ : ByteArray)] : List ByteArray)) (inner := [.string (⟨#[]⟩ : ByteArray)]) (ok := fun _ => True) (okp := fun _ => True) ?hr ?hp (fun _ hk => hk) trivial (Below.refl _ _) (Nat.le_refl _) (by simp) ?_; (case hd => rfl); (case hg => rfl); (case hr => first | (go_simp; done) | (go_simp; rfl)); (case hp => exact (Reps.one (show Kd.M Kd.string _ _ _ (⟨#[]⟩ : ByteArray) [.string (⟨#[]⟩ : ByteArray)] from rfl) (Reps.none _ _))); intro v130 w36 ho37 hb hg_ hnew_; clear hg_ hnew_; (first | rw [← Ny129.out] at ho37 | (simp only [Int.reduceToNat] at ho37; rw [← Ny129.out] at ho37)); have n0_ := Aside0.mk (Kd.R_below (by (with_reducible repeat (first | apply Kd.R_alloc | apply Kd.R_drewN | apply Kd.R_drew)); exact HO_4.out) hb); have n1_ := Aside0.mk (Kd.R_lower ho37 (below_size (by repeat (first | (with_reducible first | exact HB.out | apply below_alloc | apply pw_below_drewN | apply below_drew1) | exact HB.out)))); have n2_ := Aside0.mk (below_step (by repeat (first | (with_reducible first | exact HB.out | apply below_alloc | apply pw_below_drewN | apply below_drew1) | exact HB.out)) hb); clear HO_4; clear HB; have HO_4 := n0_; have HO131 := n1_; have HB := n2_; clear n0_ n1_ n2_; clear hb ho37) | ((with_reducible refine gate_dst (N := 10) rfl ?_); (try (refine gate_guard (by rfl) ?_; dsimp only)); refine box_event ?hg (N := 10) ?hd (cs := #[.pointer none, .slice none 0 0]) (t := 66) ?hr ?_; (case hd => rfl); (case hg => rfl); (case hr => first | (go_simp; done) | (go_simp; rfl)); intro gbB hg wB hbox hb; have n0_ := Aside0.mk (Kd.R_below (by (with_reducible repeat (first | apply Kd.R_alloc | apply Kd.R_drewN | apply Kd.R_drew)); exact HO131.out) hb); have n1_ := Aside0.mk (below_step (by repeat (first | (with_reducible first | exact HB.out | apply below_alloc | apply pw_below_drewN | apply below_drew1) | exact HB.out)) hb); have n2_ := Aside0.mk (Bld.isB_new (B := w.heap.size) (by rw [hg]; exact (below_size (by repeat (first | (with_reducible first | exact HB.out | apply below_alloc | apply pw_below_drewN | apply below_drew1) | exact HB.out)))) hbox); clear HO131; clear HB; have HO131 := n0_; have HB := n1_; have HBd := n2_; clear n0_ n1_ n2_; clear hb hbox hg))
            go_loopg [9, 85] k1 (fun kq v9 v85 w' => ∃ (x9_2 : List ByteArray) (x10_2 : ByteArray) (x85_2 : Int), v85 = .int .i64 x85_2 ∧ Aside0 (lempel_Text.l1 kq x9_2 x10_2 l0 (l0.length : Int) x85_2 = some (r1, r2)) ∧ Aside0 (kq ≤ k1) ∧ Aside0 (Kd.R Kd.string 9 w' w.heap.size (fun _ => True) v9 x9_2) ∧ Aside0 (Below w.heap.size w w') ∧ Aside0 (Lib.IsBuilder 66 5 w.heap.size gbB (Lib.strCells x10_2) w'))
            case atStart => exact ⟨(y129), ((⟨#[]⟩ : ByteArray)), (0), (by first | rfl | (simp; done) | (simp [*]; done)), H', ⟨Nat.le_refl _⟩, ⟨by (with_reducible repeat (first | apply Kd.R_alloc | apply Kd.R_drewN | apply Kd.R_drew)); exact HO131.out⟩, ⟨by repeat (first | (with_reducible first | exact HB.out | apply below_alloc | apply pw_below_drewN | apply below_drew1) | exact HB.out)⟩, ⟨by (with_reducible repeat (first | apply Bld.isB_alloc | apply Bld.isB_drewN | apply Bld.isB_drew)); exact HBd.out⟩⟩
            case round =>
              clear H'
              try clear c1
              try clear p1
              try clear q1
              try clear hx1
              try clear c2
              try clear c2b0
              try clear c2b1
              try clear p2
              try clear c3
              try clear c5
              try clear c5b0
              try clear c6
              try clear c6b0
              try clear p6
              try clear c7
              try clear c7b0
              try clear c10
              try clear c11
              try clear c11b0
              try clear p12
              try clear q12
              try clear hx12
              try clear c13
              try clear c13b0
              try clear q15
              try clear c16
              try clear c17
              try clear c17b0
              try clear c19
              try clear c19b0
              try clear c19b1
              try clear c23
              try clear c24
              try clear c24b0
              try clear c25
              try clear c25b0
              try clear c26
              try clear c26b0
              try clear c27
              try clear c31
              try clear c35
              try clear c35b0
              try clear hcz10_0
              try clear hcz10_1
              try clear hcz10_2
              try clear hcz12_0
              try clear hcz12_1
              try clear hcz12_2
              try clear hcz14_0
              try clear hcz14_1
              try clear hcz14_2
              try clear hcz18_0
              try clear hcz18_1
              try clear hcz18_2
              try clear hcz20_0
              try clear hcz20_1
              try clear hcz20_2
              try clear hcz21_0
              try clear hcz21_1
              try clear hcz21_2
              try clear hcz22_0
              try clear hcz22_1
              try clear hcz22_2
              try clear hcz28_0
              try clear hcz28_1
              try clear hcz28_2
              try clear hcz32_0
              try clear hcz32_1
              try clear hcz32_2
              try clear hfz10_0
              try clear hfz10_1
              try clear hfz10_2
              try clear hfz12_0
              try clear hfz12_1
              try clear hfz12_2
              try clear hfz14_0
              try clear hfz14_1
              try clear hfz14_2
              try clear hfz18_0
              try clear hfz18_1
              try clear hfz18_2
              try clear hfz20_0
              try clear hfz20_1
              try clear hfz20_2
              try clear hfz21_0
              try clear hfz21_1
              try clear hfz21_2
              try clear hfz22_0
              try clear hfz22_1
              try clear hfz22_2
              try clear hfz28_0
              try clear hfz28_1
              try clear hfz28_2
              try clear hfz32_0
              try clear hfz32_1
              try clear hfz32_2
              try clear hx120_0
              try clear hx120_1
              try clear hx120_2
              try clear hx122_0
              try clear p1
              try clear p12
              try clear p120
              try clear p122
              try clear p2
              try clear p6
              try clear q1
              try clear q12
              try clear q120
              try clear q122
              try clear q15
              obtain ⟨x9_2, x10_2, x85_2, rfl, HA, HK2, HO_9, HB, HBd⟩ := hrel
              cases gk with
              | zero => exact absurd HA.out (by simp [lempel_Text.l1])
              | succ k2 =>
                have H := HA.out
                clear HA
                simp only [lempel_Text.l1] at H
                by_cases c38 : x85_2 < (l0.length : Int)
                · rw [if_pos c38] at H
                  have c38b0 : decide (x85_2 < (l0.length : Int)) = true := decide_eq_true c38
                  clear c38
                  by_cases c39 : 0 ≤ x85_2
                  · rw [if_pos c39] at H
                    have c39b0 : decide (0 ≤ x85_2) = true := decide_eq_true c39
                    clear c39
                    by_cases c40 : x85_2 < (l0.length : Int)
                    · rw [if_pos c40] at H
                      have c40b0 : decide (x85_2 < (l0.length : Int)) = true := decide_eq_true c40
                      clear c40
                      by_cases c41 : 0 ≤ ((rd_T31 l0 x85_2).f0)
                      · rw [if_pos c41] at H
                        have c41b0 : decide (0 ≤ ((rd_T31 l0 x85_2).f0)) = true := decide_eq_true c41
                        clear c41
                        by_cases c42 : ((rd_T31 l0 x85_2).f0) < (x9_2.length : Int)
                        · rw [if_pos c42] at H
                          have c42b0 : decide (((rd_T31 l0 x85_2).f0) < (x9_2.length : Int)) = true := decide_eq_true c42
                          clear c42
                          obtain ⟨bq43, hbq43⟩ : ∃ b_ : Bool, b_ = ((rd_T31 l0 x85_2).f2) := ⟨_, rfl⟩
                          replace H : (if (bq43 = true) then (if x9_2.length < 8796093022208 then (if x10_2.size + (rdOf ByteArray.empty x9_2 ((rd_T31 l0 x85_2).f0)).size ≤ 140737488355328 then (lempel_Text.l1 k2 (x9_2 ++ [rdOf ByteArray.empty x9_2 ((rd_T31 l0 x85_2).f0)]) (x10_2 ++ (rdOf ByteArray.empty x9_2 ((rd_T31 l0 x85_2).f0))) l0 (l0.length : Int) (wrap64 (x85_2 + 1))) else (none)) else (none)) else ((some (([(rd_T31 l0 x85_2).f1] : List Int) : List Int)).bind fun y138 => (if (rdOf ByteArray.empty x9_2 ((rd_T31 l0 x85_2).f0)).size + (strOfNums y138).size ≤ 9223372036854775807 then (if x9_2.length < 8796093022208 then (if x10_2.size + ((rdOf ByteArray.empty x9_2 ((rd_T31 l0 x85_2).f0)) ++ (strOfNums y138)).size ≤ 140737488355328 then (lempel_Text.l1 k2 (x9_2 ++ [(rdOf ByteArray.empty x9_2 ((rd_T31 l0 x85_2).f0)) ++ (strOfNums y138)]) (x10_2 ++ ((rdOf ByteArray.empty x9_2 ((rd_T31 l0 x85_2).f0)) ++ (strOfNums y138))) l0 (l0.length : Int) (wrap64 (x85_2 + 1))) else (none)) else (none)) else (none)))) = some (r1, r2) := by rw [← hbq43] at H; exact H
                          have Nbq43 := Aside0.mk hbq43
                          clear hbq43
                          by_cases c44 : (bq43 = true)
                          · subst c44
                            have H1 : (if x9_2.length < 8796093022208 then (if x10_2.size + (rdOf ByteArray.empty x9_2 ((rd_T31 l0 x85_2).f0)).size ≤ 140737488355328 then (lempel_Text.l1 k2 (x9_2 ++ [rdOf ByteArray.empty x9_2 ((rd_T31 l0 x85_2).f0)]) (x10_2 ++ (rdOf ByteArray.empty x9_2 ((rd_T31 l0 x85_2).f0))) l0 (l0.length : Int) (wrap64 (x85_2 + 1))) else (none)) else (none)) = some (r1, r2) := by rw [if_pos rfl] at H; exact H
                            clear H
                            have H := H1
                            clear H1
                            by_cases c45 : x9_2.length < 8796093022208
                            · rw [if_pos c45] at H
                              have LMc45 := Aside0.mk c45
                              clear c45
                              obtain ⟨y135, hy135⟩ : ∃ y_ : List ByteArray, y_ = (x9_2 ++ [rdOf ByteArray.empty x9_2 ((rd_T31 l0 x85_2).f0)]) := ⟨_, rfl⟩
                              replace H : (if x10_2.size + (rdOf ByteArray.empty x9_2 ((rd_T31 l0 x85_2).f0)).size ≤ 140737488355328 then (lempel_Text.l1 k2 y135 (x10_2 ++ (rdOf ByteArray.empty x9_2 ((rd_T31 l0 x85_2).f0))) l0 (l0.length : Int) (wrap64 (x85_2 + 1))) else (none)) = some (r1, r2) := by first | (rw [hy135]; with_reducible exact H) | (have H2_ := (Option.bind_some _ _).symm.trans H; rw [hy135]; with_reducible exact H2_) | (have H2_ := (Option.bind_some _ _).symm.trans H; with_reducible exact H2_) | with_reducible exact H | (rw [hy135]; exact H) | exact H
                              have Ny135 := Aside0.mk hy135
                              clear hy135
                              by_cases c46 : x10_2.size + (rdOf ByteArray.empty x9_2 ((rd_T31 l0 x85_2).f0)).size ≤ 140737488355328
                              · rw [if_pos c46] at H
                                have LB := Aside0.mk c46
                                have c46b0 := eq_true c46
                                have c46b1 : decide (x10_2.size + (rdOf ByteArray.empty x9_2 ((rd_T31 l0 x85_2).f0)).size ≤ 140737488355328) = true := decide_eq_true c46
                                have H' := Aside0.mk H
                                clear H
                                have p132 : 0 ≤ (x85_2 : Int) := of_decide_eq_true (by first | (with_reducible assumption) | assumption)
                                have q132 : x85_2 < (l0.length : Int) := of_decide_eq_true (by first | (with_reducible assumption) | assumption)
                                obtain ⟨ad132, e132, hx132_0, hx132_1, hx132_2⟩ := at_T31 HR0.out x85_2 p132 q132
                                (try rw [← Nbq43.out] at hx132_2)
                                cases e132
                                replace hx132_0 := (HB.out.cell (World.block_lt_of_cell? w _ hx132_0)).trans hx132_0
                                replace hx132_1 := (HB.out.cell (World.block_lt_of_cell? w _ hx132_1)).trans hx132_1
                                replace hx132_2 := (HB.out.cell (World.block_lt_of_cell? w _ hx132_2)).trans hx132_2
                                replace p132 := eq_true p132
                                replace q132 := eq_true q132
                                go_wp2_with (first | ((with_reducible refine gate_dst (N := 12) rfl ?_); (try (refine gate_guard (by rfl) ?_; dsimp only)); refine box_event ?hg (N := 12) ?hd (cs := #[.int .i64 0, .int .u8 0, .bool false]) (t := 31) ?hr ?_; (case hd => rfl); (case hg => rfl); (case hr => first | (go_simp; done) | (go_simp; rfl)); intro gb133 hg w47 hbox hb; have nb_ := Aside0.mk (Bld.isB_below (by (with_reducible repeat (first | apply Bld.isB_alloc | apply Bld.isB_drewN | apply Bld.isB_drew)); exact HBd.out) hb); clear HBd; have HBd := nb_; clear nb_; have n0_ := Aside0.mk (Kd.R_below (by (with_reducible repeat (first | apply Kd.R_alloc | apply Kd.R_drewN | apply Kd.R_drew)); exact HO_9.out) hb); have n1_ := Aside0.mk (below_step (by repeat (first | (with_reducible first | exact HB.out | apply below_alloc | apply pw_below_drewN | apply below_drew1) | exact HB.out)) hb); have n2_ := Aside0.mk (hbox); have n3_ := Aside0.mk ((by rw [hg]; exact (below_size (by repeat (first | (with_reducible first | exact HB.out | apply below_alloc | apply pw_below_drewN | apply below_drew1) | exact HB.out))) : w.heap.size ≤ gb133)); have n4_ := Aside0.mk ((by rw [hg]; exact (below_size (by repeat (first | (with_reducible first | exact HB.out | apply below_alloc | apply pw_below_drewN | apply below_drew1) | exact HB.out))) : w.heap.size ≤ gb133)); clear HO_9; clear HB; have HO_9 := n0_; have HB := n1_; have BK133 := n2_; have GW133 := n3_; have GE133 := n4_; clear n0_ n1_ n2_ n3_ n4_; clear hb hbox hg; have hcz48_0 : w47.cell? ⟨gb133, 0, none⟩ = some (.int .i64 0) := (blk_cell BK133.out 0).trans rfl; have hcz48_1 : w47.cell? ⟨gb133, 1, none⟩ = some (.int .u8 0) := (blk_cell BK133.out 1).trans rfl; have hcz48_2 : w47.cell? ⟨gb133, 2, none⟩ = some (.bool false) := (blk_cell BK133.out 2).trans rfl; have hfz48_0 := blk_frozen BK133.out 0; have hfz48_1 := blk_frozen BK133.out 1; have hfz48_2 := blk_frozen BK133.out 2; obtain ⟨Ao49, co49, eo49⟩ := Kd.R_slice HO_9.out; subst eo49; have p134 : 0 ≤ (((rd_T31 l0 x85_2).f0) : Int) := of_decide_eq_true (by first | (with_reducible assumption) | assumption); have q134 : ((rd_T31 l0 x85_2).f0) < (x9_2.length : Int) := of_decide_eq_true (by first | (with_reducible assumption) | assumption); obtain ⟨ad134, e134, hx134_0⟩ := Kd.at_string (Kd.R_reads' HO_9.out).2.2 ((rd_T31 l0 x85_2).f0) p134 q134; cases e134; have hn134_0 : ad134.block ≠ gb133 := Kd.own_blk (Kd.R_ne HO_9.out BK133.out (by decide)); have hn134_1 : ad134.block ≠ gb133 := Kd.own_blk (Kd.R_ne HO_9.out BK133.out (by decide)); have hn134_2 : ad134.block ≠ gb133 := Kd.own_blk (Kd.R_ne HO_9.out BK133.out (by decide)); replace hx134_0 := (cell_far (p := ⟨gb133, 0, none⟩) (by first | (rw [add_block]; exact hn134_0) | (show (Addr.add _ _).block ≠ _; rw [add_block]; exact hn134_0) | exact hn134_0) (.int .i64 ((rd_T31 l0 x85_2).f0))).trans hx134_0; replace hx134_0 := (cell_far (p := ⟨gb133, 1, none⟩) (by first | (rw [add_block]; exact hn134_1) | (show (Addr.add _ _).block ≠ _; rw [add_block]; exact hn134_1) | exact hn134_1) (.int .u8 ((rd_T31 l0 x85_2).f1))).trans hx134_0; replace hx134_0 := (cell_far (p := ⟨gb133, 2, none⟩) (by first | (rw [add_block]; exact hn134_2) | (show (Addr.add _ _).block ≠ _; rw [add_block]; exact hn134_2) | exact hn134_2) (.bool true)).trans hx134_0; clear hn134_0; clear hn134_1; clear hn134_2; replace p134 := eq_true p134; replace q134 := eq_true q134) | ((with_reducible refine gate_builtin (b := .append) (xs := #[.tmp 103, .tmp 105]) rfl ?_); (try (refine gate_guard (by rfl) ?_; dsimp only)); at_builtin; refine Kd.R_append Kd.string (w0 := w) w.heap.size rfl (.tmp 103) (.tmp 105) 62 9 (.string ⟨#[]⟩) 16 rfl Tryd.underlying62 info9 rfl (by decide) (by omega) (.slice (some ad134) x9_2.length co49) x9_2 (rdOf ByteArray.empty x9_2 ((rd_T31 l0 x85_2).f0)) [.string (rdOf ByteArray.empty x9_2 ((rd_T31 l0 x85_2).f0))] (fun _ => True) (fun _ => False) rfl (by first | (go_simp; done) | (go_simp; rfl)) ?aP (fun _ hk => hk.elim) ?aF ?aO ?aB ?aS ?aL ?_; (case aP => exact rfl); (case aB => exact (by repeat (first | (with_reducible first | exact HB.out | apply below_alloc | apply pw_below_drewN | apply below_drew1 | refine below_set ?_ GE133.out) | exact HB.out))); (case aF => exact (fun _ _ => trivial)); (case aO => exact (by (with_reducible repeat (first | apply Kd.R_alloc | apply Kd.R_drewN | apply Kd.R_drew)); exact Kd.R_mono (Kd.R_far (p := ⟨gb133, 2, none⟩) (Kd.R_far (p := ⟨gb133, 1, none⟩) (Kd.R_far (p := ⟨gb133, 0, none⟩) (Kd.R_types HO_9.out BK133.out (by decide)) (fun _ hk => hk.2) (.int .i64 ((rd_T31 l0 x85_2).f0))) (fun _ hk => hk.2) (.int .u8 ((rd_T31 l0 x85_2).f1))) (fun _ hk => hk.2) (.bool true)) (fun _ hk => trivial))); (case aS => exact (below_size (by repeat (first | (with_reducible first | exact HB.out | apply below_alloc | apply pw_below_drewN | apply below_drew1 | refine below_set ?_ GE133.out) | exact HB.out)))); (case aL => have := LMc45.out; omega); intro v136 w50 ho hb hg hat; rw [← Ny135.out] at ho; have nb_ := Aside0.mk (Bld.isB_grown (by (with_reducible repeat (first | apply Bld.isB_alloc | apply Bld.isB_drewN | apply Bld.isB_drew)); exact (Bld.isB_far HBd.out BK133.out (by decide) (by decide) (fun k hk => (Below.heap_setCell _ _ _ k hk).trans ((Below.heap_setCell _ _ _ k hk).trans (Below.heap_setCell _ _ _ k hk))))) (d := Kd.string) (e := 9) (base := w.heap.size) (ok := fun _ => True) (by (with_reducible repeat (first | apply Kd.R_alloc | apply Kd.R_drewN | apply Kd.R_drew)); exact Kd.R_mono (Kd.R_far (p := ⟨gb133, 2, none⟩) (Kd.R_far (p := ⟨gb133, 1, none⟩) (Kd.R_far (p := ⟨gb133, 0, none⟩) (Kd.R_types HO_9.out BK133.out (by decide)) (fun _ hk => hk.2) (.int .i64 ((rd_T31 l0 x85_2).f0))) (fun _ hk => hk.2) (.int .u8 ((rd_T31 l0 x85_2).f1))) (fun _ hk => hk.2) (.bool true)) (fun _ hk => trivial)) (by decide) (by decide) hg); clear HBd; have HBd := nb_; clear nb_; have n0_ := Aside0.mk (blk_grown (g := gb133) (o := .cells #[.int .i64 ((rd_T31 l0 x85_2).f0), .int .u8 ((rd_T31 l0 x85_2).f1), .bool true] 31 (0, 0)) (by (with_reducible repeat (first | refine blk_drewN ?_ _ | refine blk_drew ?_ | refine blk_alloc ?_ _)); refine blk_put (cs := #[.int .i64 ((rd_T31 l0 x85_2).f0), .int .u8 ((rd_T31 l0 x85_2).f1), .bool false]) ?_ 2 _ rfl; (with_reducible repeat (first | refine blk_drewN ?_ _ | refine blk_drew ?_ | refine blk_alloc ?_ _)); refine blk_put (cs := #[.int .i64 ((rd_T31 l0 x85_2).f0), .int .u8 0, .bool false]) ?_ 1 _ rfl; (with_reducible repeat (first | refine blk_drewN ?_ _ | refine blk_drew ?_ | refine blk_alloc ?_ _)); refine blk_put (cs := #[.int .i64 0, .int .u8 0, .bool false]) ?_ 0 _ rfl; (with_reducible repeat (first | refine blk_drewN ?_ _ | refine blk_drew ?_ | refine blk_alloc ?_ _)); exact BK133.out) hg (Kd.R_ne HO_9.out BK133.out (by decide))); have n1_ := Aside0.mk (hb); have n2_ := Aside0.mk (ho); clear BK133; clear HB; clear HO_9; have BK133 := n0_; have HB := n1_; have HO137 := n2_; clear n0_ n1_ n2_; clear ho hb hg hat) | (go_at_call 21; (with_reducible refine (Bld.writeString w.heap.size gbB (Lib.strCells x10_2) (rdOf ByteArray.empty x9_2 ((rd_T31 l0 x85_2).f0)) _ (by (with_reducible repeat (first | apply Bld.isB_alloc | apply Bld.isB_drewN | apply Bld.isB_drew)); exact HBd.out) (by rw [Lib.strCells_length]; exact LB.out) (below_size (by repeat (first | (with_reducible first | exact HB.out | apply below_alloc | apply pw_below_drewN | apply below_drew1 | refine below_set ?_ GE133.out) | exact HB.out)))).mono ?_); rintro e w60 ⟨rfl, hbd, hb, hkt⟩; have n0_ := Aside0.mk (Bld.R_kept (by (with_reducible repeat (first | apply Kd.R_alloc | apply Kd.R_drewN | apply Kd.R_drew)); exact HO137.out) hkt (by intro q hq; have hq9 : q = 9 := (by simpa [Kd.string, Kd.scalar] using hq); subst hq9; decide)); have n1_ := Aside0.mk (Below.trans (by repeat (first | (with_reducible first | exact HB.out | apply below_alloc | apply pw_below_drewN | apply below_drew1 | refine below_set ?_ GE133.out) | exact HB.out)) hb); have n2_ := Aside0.mk (Eq.mpr (congrArg (fun z => Lib.IsBuilder 66 5 w.heap.size gbB z w60) (Bld.strCells_app x10_2 (rdOf ByteArray.empty x9_2 ((rd_T31 l0 x85_2).f0)))) hbd); clear HO137; clear HB; clear HBd; have HO137 := n0_; have HB := n1_; have HBd := n2_; clear n0_ n1_ n2_; clear hbd hb hkt))
                                go_roundg k2
                                case measure => have := HK1.out; have := HK2.out; omega
                                case rel => exact ⟨(y135), (x10_2 ++ (rdOf ByteArray.empty x9_2 ((rd_T31 l0 x85_2).f0))), (wrap64 (x85_2 + 1)), (by first | rfl | (simp; done) | (simp [*]; done)), H', ⟨by have := HK1.out; have := HK2.out; omega⟩, ⟨by (with_reducible repeat (first | apply Kd.R_alloc | apply Kd.R_drewN | apply Kd.R_drew)); exact HO137.out⟩, ⟨by repeat (first | (with_reducible first | exact HB.out | apply below_alloc | apply pw_below_drewN | apply below_drew1 | refine below_set ?_ GE133.out) | exact HB.out)⟩, ⟨by (with_reducible repeat (first | apply Bld.isB_alloc | apply Bld.isB_drewN | apply Bld.isB_drew)); exact HBd.out⟩⟩
                              · rw [if_neg c46] at H
                                exact absurd H (by simp)
                            · rw [if_neg c45] at H
                              exact absurd H (by simp)
                          · replace c44 := Bool.eq_false_iff.mpr c44
                            subst c44
                            have H1 : ((some (([(rd_T31 l0 x85_2).f1] : List Int) : List Int)).bind fun y138 => (if (rdOf ByteArray.empty x9_2 ((rd_T31 l0 x85_2).f0)).size + (strOfNums y138).size ≤ 9223372036854775807 then (if x9_2.length < 8796093022208 then (if x10_2.size + ((rdOf ByteArray.empty x9_2 ((rd_T31 l0 x85_2).f0)) ++ (strOfNums y138)).size ≤ 140737488355328 then (lempel_Text.l1 k2 (x9_2 ++ [(rdOf ByteArray.empty x9_2 ((rd_T31 l0 x85_2).f0)) ++ (strOfNums y138)]) (x10_2 ++ ((rdOf ByteArray.empty x9_2 ((rd_T31 l0 x85_2).f0)) ++ (strOfNums y138))) l0 (l0.length : Int) (wrap64 (x85_2 + 1))) else (none)) else (none)) else (none))) = some (r1, r2) := by rw [if_neg (show ¬ (false = true) by decide)] at H; exact H
                            clear H
                            have H := H1
                            clear H1
                            obtain ⟨y138, hy138⟩ : ∃ y_ : List Int, y_ = (([(rd_T31 l0 x85_2).f1] : List Int)) := ⟨_, rfl⟩
                            replace H : (if (rdOf ByteArray.empty x9_2 ((rd_T31 l0 x85_2).f0)).size + (strOfNums y138).size ≤ 9223372036854775807 then (if x9_2.length < 8796093022208 then (if x10_2.size + ((rdOf ByteArray.empty x9_2 ((rd_T31 l0 x85_2).f0)) ++ (strOfNums y138)).size ≤ 140737488355328 then (lempel_Text.l1 k2 (x9_2 ++ [(rdOf ByteArray.empty x9_2 ((rd_T31 l0 x85_2).f0)) ++ (strOfNums y138)]) (x10_2 ++ ((rdOf ByteArray.empty x9_2 ((rd_T31 l0 x85_2).f0)) ++ (strOfNums y138))) l0 (l0.length : Int) (wrap64 (x85_2 + 1))) else (none)) else (none)) else (none)) = some (r1, r2) := by first | (rw [hy138]; with_reducible exact H) | (have H2_ := (Option.bind_some _ _).symm.trans H; rw [hy138]; with_reducible exact H2_) | (have H2_ := (Option.bind_some _ _).symm.trans H; with_reducible exact H2_) | with_reducible exact H | (rw [hy138]; exact H) | exact H
                            have Ny138 := Aside0.mk hy138
                            clear hy138
                            by_cases c51 : (rdOf ByteArray.empty x9_2 ((rd_T31 l0 x85_2).f0)).size + (strOfNums y138).size ≤ 9223372036854775807
                            · rw [if_pos c51] at H
                              have c51b0 := eq_true c51
                              have c51b1 : decide ((rdOf ByteArray.empty x9_2 ((rd_T31 l0 x85_2).f0)).size + (strOfNums y138).size ≤ 9223372036854775807) = true := decide_eq_true c51
                              try have c51b2 : (9223372036854775807 < (rdOf ByteArray.empty x9_2 ((rd_T31 l0 x85_2).f0)).size + (strOfNums y138).size) = False := eq_false (Nat.not_lt.2 c51)
                              by_cases c52 : x9_2.length < 8796093022208
                              · rw [if_pos c52] at H
                                have LMc52 := Aside0.mk c52
                                clear c52
                                obtain ⟨y141, hy141⟩ : ∃ y_ : List ByteArray, y_ = (x9_2 ++ [(rdOf ByteArray.empty x9_2 ((rd_T31 l0 x85_2).f0)) ++ (strOfNums y138)]) := ⟨_, rfl⟩
                                replace H : (if x10_2.size + ((rdOf ByteArray.empty x9_2 ((rd_T31 l0 x85_2).f0)) ++ (strOfNums y138)).size ≤ 140737488355328 then (lempel_Text.l1 k2 y141 (x10_2 ++ ((rdOf ByteArray.empty x9_2 ((rd_T31 l0 x85_2).f0)) ++ (strOfNums y138))) l0 (l0.length : Int) (wrap64 (x85_2 + 1))) else (none)) = some (r1, r2) := by first | (rw [hy141]; with_reducible exact H) | (have H2_ := (Option.bind_some _ _).symm.trans H; rw [hy141]; with_reducible exact H2_) | (have H2_ := (Option.bind_some _ _).symm.trans H; with_reducible exact H2_) | with_reducible exact H | (rw [hy141]; exact H) | exact H
                                have Ny141 := Aside0.mk hy141
                                clear hy141
                                by_cases c53 : x10_2.size + ((rdOf ByteArray.empty x9_2 ((rd_T31 l0 x85_2).f0)) ++ (strOfNums y138)).size ≤ 140737488355328
                                · rw [if_pos c53] at H
                                  have LB := Aside0.mk c53
                                  have c53b0 := eq_true c53
                                  have c53b1 : decide (x10_2.size + ((rdOf ByteArray.empty x9_2 ((rd_T31 l0 x85_2).f0)) ++ (strOfNums y138)).size ≤ 140737488355328) = true := decide_eq_true c53
                                  have H' := Aside0.mk H
                                  clear H
                                  have p132 : 0 ≤ (x85_2 : Int) := of_decide_eq_true (by first | (with_reducible assumption) | assumption)
                                  have q132 : x85_2 < (l0.length : Int) := of_decide_eq_true (by first | (with_reducible assumption) | assumption)
                                  obtain ⟨ad132, e132, hx132_0, hx132_1, hx132_2⟩ := at_T31 HR0.out x85_2 p132 q132
                                  (try rw [← Nbq43.out] at hx132_2)
                                  cases e132
                                  replace hx132_0 := (HB.out.cell (World.block_lt_of_cell? w _ hx132_0)).trans hx132_0
                                  replace hx132_1 := (HB.out.cell (World.block_lt_of_cell? w _ hx132_1)).trans hx132_1
                                  replace hx132_2 := (HB.out.cell (World.block_lt_of_cell? w _ hx132_2)).trans hx132_2
                                  replace p132 := eq_true p132
                                  replace q132 := eq_true q132
                                  go_wp2_with (first | ((with_reducible refine gate_dst (N := 12) rfl ?_); (try (refine gate_guard (by rfl) ?_; dsimp only)); refine box_event ?hg (N := 12) ?hd (cs := #[.int .i64 0, .int .u8 0, .bool false]) (t := 31) ?hr ?_; (case hd => rfl); (case hg => rfl); (case hr => first | (go_simp; done) | (go_simp; rfl)); intro gb133 hg w54 hbox hb; have nb_ := Aside0.mk (Bld.isB_below (by (with_reducible repeat (first | apply Bld.isB_alloc | apply Bld.isB_drewN | apply Bld.isB_drew)); exact HBd.out) hb); clear HBd; have HBd := nb_; clear nb_; have n0_ := Aside0.mk (Kd.R_below (by (with_reducible repeat (first | apply Kd.R_alloc | apply Kd.R_drewN | apply Kd.R_drew)); exact HO_9.out) hb); have n1_ := Aside0.mk (below_step (by repeat (first | (with_reducible first | exact HB.out | apply below_alloc | apply pw_below_drewN | apply below_drew1) | exact HB.out)) hb); have n2_ := Aside0.mk (hbox); have n3_ := Aside0.mk ((by rw [hg]; exact (below_size (by repeat (first | (with_reducible first | exact HB.out | apply below_alloc | apply pw_below_drewN | apply below_drew1) | exact HB.out))) : w.heap.size ≤ gb133)); have n4_ := Aside0.mk ((by rw [hg]; exact (below_size (by repeat (first | (with_reducible first | exact HB.out | apply below_alloc | apply pw_below_drewN | apply below_drew1) | exact HB.out))) : w.heap.size ≤ gb133)); clear HO_9; clear HB; have HO_9 := n0_; have HB := n1_; have BK133 := n2_; have GW133 := n3_; have GE133 := n4_; clear n0_ n1_ n2_ n3_ n4_; clear hb hbox hg; have hcz55_0 : w54.cell? ⟨gb133, 0, none⟩ = some (.int .i64 0) := (blk_cell BK133.out 0).trans rfl; have hcz55_1 : w54.cell? ⟨gb133, 1, none⟩ = some (.int .u8 0) := (blk_cell BK133.out 1).trans rfl; have hcz55_2 : w54.cell? ⟨gb133, 2, none⟩ = some (.bool false) := (blk_cell BK133.out 2).trans rfl; have hfz55_0 := blk_frozen BK133.out 0; have hfz55_1 := blk_frozen BK133.out 1; have hfz55_2 := blk_frozen BK133.out 2; obtain ⟨Ao56, co56, eo56⟩ := Kd.R_slice HO_9.out; subst eo56; have p134 : 0 ≤ (((rd_T31 l0 x85_2).f0) : Int) := of_decide_eq_true (by first | (with_reducible assumption) | assumption); have q134 : ((rd_T31 l0 x85_2).f0) < (x9_2.length : Int) := of_decide_eq_true (by first | (with_reducible assumption) | assumption); obtain ⟨ad134, e134, hx134_0⟩ := Kd.at_string (Kd.R_reads' HO_9.out).2.2 ((rd_T31 l0 x85_2).f0) p134 q134; cases e134; have hn134_0 : ad134.block ≠ gb133 := Kd.own_blk (Kd.R_ne HO_9.out BK133.out (by decide)); have hn134_1 : ad134.block ≠ gb133 := Kd.own_blk (Kd.R_ne HO_9.out BK133.out (by decide)); have hn134_2 : ad134.block ≠ gb133 := Kd.own_blk (Kd.R_ne HO_9.out BK133.out (by decide)); replace hx134_0 := (cell_far (p := ⟨gb133, 0, none⟩) (by first | (rw [add_block]; exact hn134_0) | (show (Addr.add _ _).block ≠ _; rw [add_block]; exact hn134_0) | exact hn134_0) (.int .i64 ((rd_T31 l0 x85_2).f0))).trans hx134_0; replace hx134_0 := (cell_far (p := ⟨gb133, 1, none⟩) (by first | (rw [add_block]; exact hn134_1) | (show (Addr.add _ _).block ≠ _; rw [add_block]; exact hn134_1) | exact hn134_1) (.int .u8 ((rd_T31 l0 x85_2).f1))).trans hx134_0; replace hx134_0 := (cell_far (p := ⟨gb133, 2, none⟩) (by first | (rw [add_block]; exact hn134_2) | (show (Addr.add _ _).block ≠ _; rw [add_block]; exact hn134_2) | exact hn134_2) (.bool false)).trans hx134_0; clear hn134_0; clear hn134_1; clear hn134_2; replace p134 := eq_true p134; replace q134 := eq_true q134) | ((with_reducible refine gate_dst (N := 100) rfl ?_); (try (refine gate_guard (by rfl) ?_; dsimp only)); refine Kd.R_lit (Kd.int .u8) _ 5 ?hg (N := 100) ?hd (xs := ([(rd_T31 l0 x85_2).f1] : List Int)) (inner := [.int .u8 ((rd_T31 l0 x85_2).f1)]) (ok := fun _ => True) (okp := fun _ => True) ?hr ?hp (fun _ hk => hk) trivial (Below.refl _ _) (Nat.le_refl _) (by simp) ?_; (case hd => rfl); (case hg => rfl); (case hr => first | (go_simp; done) | (go_simp; rfl)); (case hp => exact (Reps.one (show Kd.M (Kd.int .u8) _ _ _ ((rd_T31 l0 x85_2).f1) [.int .u8 ((rd_T31 l0 x85_2).f1)] from rfl) (Reps.none _ _))); intro v139 w57 ho58 hb hg_ hnew_; clear hg_ hnew_; (first | rw [← Ny138.out] at ho58 | (simp only [Int.reduceToNat] at ho58; rw [← Ny138.out] at ho58)); have nb_ := Aside0.mk (Bld.isB_below (by (with_reducible repeat (first | apply Bld.isB_alloc | apply Bld.isB_drewN | apply Bld.isB_drew)); exact (Bld.isB_far HBd.out BK133.out (by decide) (by decide) (fun k hk => (Below.heap_setCell _ _ _ k hk).trans ((Below.heap_setCell _ _ _ k hk).trans (Below.heap_setCell _ _ _ k hk))))) hb); clear HBd; have HBd := nb_; clear nb_; have n0_ := Aside0.mk (Kd.R_below (by (with_reducible repeat (first | apply Kd.R_alloc | apply Kd.R_drewN | apply Kd.R_drew)); exact (Kd.R_mono (Kd.R_far (p := ⟨gb133, 2, none⟩) (Kd.R_far (p := ⟨gb133, 1, none⟩) (Kd.R_far (p := ⟨gb133, 0, none⟩) (Kd.R_types HO_9.out BK133.out (by decide)) (fun _ hk => hk.2) (.int .i64 ((rd_T31 l0 x85_2).f0))) (fun _ hk => hk.2) (.int .u8 ((rd_T31 l0 x85_2).f1))) (fun _ hk => hk.2) (.bool false)) (fun _ h_ => h_.1))) hb); have n1_ := Aside0.mk (Kd.R_lower ho58 (below_size (by repeat (first | (with_reducible first | exact HB.out | apply below_alloc | apply pw_below_drewN | apply below_drew1 | refine below_set ?_ GE133.out) | exact HB.out)))); have n2_ := Aside0.mk (blk_below (g := gb133) (o := .cells #[.int .i64 ((rd_T31 l0 x85_2).f0), .int .u8 ((rd_T31 l0 x85_2).f1), .bool false] 31 (0, 0)) (by (with_reducible repeat (first | refine blk_drewN ?_ _ | refine blk_drew ?_ | refine blk_alloc ?_ _)); refine blk_put (cs := #[.int .i64 ((rd_T31 l0 x85_2).f0), .int .u8 ((rd_T31 l0 x85_2).f1), .bool false]) ?_ 2 _ rfl; (with_reducible repeat (first | refine blk_drewN ?_ _ | refine blk_drew ?_ | refine blk_alloc ?_ _)); refine blk_put (cs := #[.int .i64 ((rd_T31 l0 x85_2).f0), .int .u8 0, .bool false]) ?_ 1 _ rfl; (with_reducible repeat (first | refine blk_drewN ?_ _ | refine blk_drew ?_ | refine blk_alloc ?_ _)); refine blk_put (cs := #[.int .i64 0, .int .u8 0, .bool false]) ?_ 0 _ rfl; (with_reducible repeat (first | refine blk_drewN ?_ _ | refine blk_drew ?_ | refine blk_alloc ?_ _)); exact BK133.out) hb); have n3_ := Aside0.mk (below_step (by repeat (first | (with_reducible first | exact HB.out | apply below_alloc | apply pw_below_drewN | apply below_drew1 | refine below_set ?_ GE133.out) | exact HB.out)) hb); clear HO_9; clear BK133; clear HB; have HO_9 := n0_; have HO140 := n1_; have BK133 := n2_; have HB := n3_; clear n0_ n1_ n2_ n3_; clear hb ho58; have hcv59 := own_string (P := Tryd.prog) Tryd.underlying64 Tryd.underlying5 Tryd.underlying9 (Kd.own_of_R HO140.out)) | ((with_reducible refine gate_builtin (b := .append) (xs := #[.tmp 103, .tmp 105]) rfl ?_); (try (refine gate_guard (by rfl) ?_; dsimp only)); at_builtin; refine Kd.R_append Kd.string (w0 := w) w.heap.size rfl (.tmp 103) (.tmp 105) 62 9 (.string ⟨#[]⟩) 16 rfl Tryd.underlying62 info9 rfl (by decide) (by omega) (.slice (some ad134) x9_2.length co56) x9_2 ((rdOf ByteArray.empty x9_2 ((rd_T31 l0 x85_2).f0)) ++ (strOfNums y138)) [.string ((rdOf ByteArray.empty x9_2 ((rd_T31 l0 x85_2).f0)) ++ (strOfNums y138))] (fun _ => True) (fun _ => False) rfl rfl ?aP (fun _ hk => hk.elim) ?aF ?aO ?aB ?aS ?aL ?_; (case aP => exact rfl); (case aB => exact (by repeat (first | (with_reducible first | exact HB.out | apply below_alloc | apply pw_below_drewN | apply below_drew1 | refine below_set ?_ GE133.out) | exact HB.out))); (case aF => exact (fun _ _ => trivial)); (case aO => exact (by (with_reducible repeat (first | apply Kd.R_alloc | apply Kd.R_drewN | apply Kd.R_drew)); exact HO_9.out)); (case aS => exact (below_size (by repeat (first | (with_reducible first | exact HB.out | apply below_alloc | apply pw_below_drewN | apply below_drew1 | refine below_set ?_ GE133.out) | exact HB.out)))); (case aL => have := LMc52.out; omega); intro v142 w60 ho hb hg hat; rw [← Ny141.out] at ho; have nb_ := Aside0.mk (Bld.isB_grown (by (with_reducible repeat (first | apply Bld.isB_alloc | apply Bld.isB_drewN | apply Bld.isB_drew)); exact HBd.out) (d := Kd.string) (e := 9) (base := w.heap.size) (ok := fun _ => True) (by (with_reducible repeat (first | apply Kd.R_alloc | apply Kd.R_drewN | apply Kd.R_drew)); exact HO_9.out) (by decide) (by decide) hg); clear HBd; have HBd := nb_; clear nb_; have n0_ := Aside0.mk (blk_grown (g := gb133) (o := .cells #[.int .i64 ((rd_T31 l0 x85_2).f0), .int .u8 ((rd_T31 l0 x85_2).f1), .bool false] 31 (0, 0)) (by (with_reducible repeat (first | refine blk_drewN ?_ _ | refine blk_drew ?_ | refine blk_alloc ?_ _)); exact BK133.out) hg (Kd.R_ne HO_9.out BK133.out (by decide))); have n1_ := Aside0.mk (Kd.R_over' (by (with_reducible repeat (first | apply Kd.R_alloc | apply Kd.R_drewN | apply Kd.R_drew)); exact HO140.out) (Kd.R_typed (by (with_reducible repeat (first | apply Kd.R_alloc | apply Kd.R_drewN | apply Kd.R_drew)); exact HO_9.out)) (by decide) hg); have n2_ := Aside0.mk (hb); have n3_ := Aside0.mk (ho); clear BK133; clear HO140; clear HB; clear HO_9; have BK133 := n0_; have HO140 := n1_; have HB := n2_; have HO143 := n3_; clear n0_ n1_ n2_ n3_; clear ho hb hg hat) | (go_at_call 21; (with_reducible refine (Bld.writeString w.heap.size gbB (Lib.strCells x10_2) ((rdOf ByteArray.empty x9_2 ((rd_T31 l0 x85_2).f0)) ++ (strOfNums y138)) _ (by (with_reducible repeat (first | apply Bld.isB_alloc | apply Bld.isB_drewN | apply Bld.isB_drew)); exact HBd.out) (by rw [Lib.strCells_length]; exact LB.out) (below_size (by repeat (first | (with_reducible first | exact HB.out | apply below_alloc | apply pw_below_drewN | apply below_drew1 | refine below_set ?_ GE133.out) | exact HB.out)))).mono ?_); rintro e w60 ⟨rfl, hbd, hb, hkt⟩; have n0_ := Aside0.mk (Bld.R_kept (by (with_reducible repeat (first | apply Kd.R_alloc | apply Kd.R_drewN | apply Kd.R_drew)); exact HO143.out) hkt (by intro q hq; have hq9 : q = 9 := (by simpa [Kd.string, Kd.scalar] using hq); subst hq9; decide)); have n1_ := Aside0.mk (Below.trans (by repeat (first | (with_reducible first | exact HB.out | apply below_alloc | apply pw_below_drewN | apply below_drew1 | refine below_set ?_ GE133.out) | exact HB.out)) hb); have n2_ := Aside0.mk (Eq.mpr (congrArg (fun z => Lib.IsBuilder 66 5 w.heap.size gbB z w60) (Bld.strCells_app x10_2 ((rdOf ByteArray.empty x9_2 ((rd_T31 l0 x85_2).f0)) ++ (strOfNums y138)))) hbd); clear HO143; clear HB; clear HBd; have HO143 := n0_; have HB := n1_; have HBd := n2_; clear n0_ n1_ n2_; clear hbd hb hkt))
                                  go_roundg k2
                                  case measure => have := HK1.out; have := HK2.out; omega
                                  case rel => exact ⟨(y141), (x10_2 ++ ((rdOf ByteArray.empty x9_2 ((rd_T31 l0 x85_2).f0)) ++ (strOfNums y138))), (wrap64 (x85_2 + 1)), (by first | rfl | (simp; done) | (simp [*]; done)), H', ⟨by have := HK1.out; have := HK2.out; omega⟩, ⟨by (with_reducible repeat (first | apply Kd.R_alloc | apply Kd.R_drewN | apply Kd.R_drew)); exact HO143.out⟩, ⟨by repeat (first | (with_reducible first | exact HB.out | apply below_alloc | apply pw_below_drewN | apply below_drew1 | refine below_set ?_ GE133.out) | exact HB.out)⟩, ⟨by (with_reducible repeat (first | apply Bld.isB_alloc | apply Bld.isB_drewN | apply Bld.isB_drew)); exact HBd.out⟩⟩
                                · rw [if_neg c53] at H
                                  exact absurd H (by simp)
                              · rw [if_neg c52] at H
                                exact absurd H (by simp)
                            · rw [if_neg c51] at H
                              exact absurd H (by simp)
                        · rw [if_neg c42] at H
                          exact absurd H (by simp)
                      · rw [if_neg c41] at H
                        exact absurd H (by simp)
                    · rw [if_neg c40] at H
                      exact absurd H (by simp)
                  · rw [if_neg c39] at H
                    exact absurd H (by simp)
                · rw [if_neg c38] at H
                  have c38b0 : decide (x85_2 < (l0.length : Int)) = false := decide_eq_false c38
                  clear c38
                  simp only [Option.some.injEq, Prod.mk.injEq] at H
                  obtain ⟨rfl, rfl⟩ := H
                  go_wp2_with (go_at_call 22; (with_reducible refine (Bld.string_is w.heap.size gbB x10_2 _ (by (with_reducible repeat (first | apply Bld.isB_alloc | apply Bld.isB_drewN | apply Bld.isB_drew)); exact HBd.out) (below_size (by repeat (first | (with_reducible first | exact HB.out | apply below_alloc | apply pw_below_drewN | apply below_drew1) | exact HB.out)))).mono ?_); rintro e w61 ⟨rfl, hb⟩; have n1_ := Aside0.mk (Below.trans (by repeat (first | (with_reducible first | exact HB.out | apply below_alloc | apply pw_below_drewN | apply below_drew1) | exact HB.out)) hb); clear HB; have HB := n1_; clear n1_; clear hb)
                  go_ret2
                  exact ⟨by first | rfl | (simp [errW_none, errW_some] <;> rfl) | (simp [*, errW_none, errW_some] <;> rfl), by repeat (first | (with_reducible first | exact HB.out | apply below_alloc | apply pw_below_drewN | apply below_drew1) | exact HB.out)⟩

end Go.Proofs.YtaonemghafoolaaDoor.Q
