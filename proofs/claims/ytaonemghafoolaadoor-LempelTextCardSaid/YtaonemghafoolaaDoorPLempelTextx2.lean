-- PRINTED BY print.sh 35421559b90ae4d0a3588c463048766b98c2df88dd9212a6774a882060cdf62d: not written by this session
import Derived.Test.YtaonemghafoolaaDoorPLempelTextx0
namespace Go.Proofs.YtaonemghafoolaaDoor.PLempelText
open Go.RowKit Go.Proofs.YtaonemghafoolaaDoorW.PrintWords Go.Proofs.YtaonemghafoolaaDoorW.PrintLast Go.Proofs.YtaonemghafoolaaDoorW.PrintMore
attribute [local go_sem] max2_int min2_int max_two min_two max_three min_three max_four min_four   -- for this text's walks alone
set_option linter.unusedVariables false
set_option linter.unusedSimpArgs false

/-! ### demonref2_PhrasesText: function 20 -/
def demonref2_PhrasesText.l0 : Nat → List (S40) → List ByteArray → ByteArray → Int → Option (ByteArray)
  | 0, _, _, _, _ => none
  | k + 1, x0, x3, x4, x5 => if x5 < (x0.length : Int) then (if 0 ≤ x5 then (if 0 ≤ ((rd_T40 x0 x5).f0) then (if ((rd_T40 x0 x5).f0) < (x3.length : Int) then (if ((rd_T40 x0 x5).f2 = true) then (if x3.length < 8796093022208 then (if x4.size + (rdOf ByteArray.empty x3 ((rd_T40 x0 x5).f0)).size ≤ 9223372036854775807 then (demonref2_PhrasesText.l0 k x0 (x3 ++ [rdOf ByteArray.empty x3 ((rd_T40 x0 x5).f0)]) (x4 ++ (rdOf ByteArray.empty x3 ((rd_T40 x0 x5).f0))) (wrap64 (x5 + 1))) else (none)) else (none)) else ((some (([(rd_T40 x0 x5).f1] : List Int) : List Int)).bind fun y127 => (if (rdOf ByteArray.empty x3 ((rd_T40 x0 x5).f0)).size + (strOfNums y127).size ≤ 9223372036854775807 then (if x3.length < 8796093022208 then (if x4.size + ((rdOf ByteArray.empty x3 ((rd_T40 x0 x5).f0)) ++ (strOfNums y127)).size ≤ 9223372036854775807 then (demonref2_PhrasesText.l0 k x0 (x3 ++ [(rdOf ByteArray.empty x3 ((rd_T40 x0 x5).f0)) ++ (strOfNums y127)]) (x4 ++ ((rdOf ByteArray.empty x3 ((rd_T40 x0 x5).f0)) ++ (strOfNums y127))) (wrap64 (x5 + 1))) else (none)) else (none)) else (none)))) else (none)) else (none)) else (none)) else (some x4)
def demonref2_PhrasesText.f (k : Nat) (l0 : List (S40)) : Option (ByteArray) := demonref2_PhrasesText.l0 k l0 (([(⟨#[]⟩ : ByteArray)] : List ByteArray)) (⟨#[]⟩ : ByteArray) 0
theorem demonref2_PhrasesText.mono_l : ∀ k, (∀ y0 y1 y2 y3, LeO (demonref2_PhrasesText.l0 k y0 y1 y2 y3) (demonref2_PhrasesText.l0 (k + 1) y0 y1 y2 y3))
  | 0 => fun _ _ _ _ r h => by simp [demonref2_PhrasesText.l0] at h
  | k + 1 => by
    have ih0 := demonref2_PhrasesText.mono_l k
    · intro y0 y1 y2 y3
      unfold demonref2_PhrasesText.l0
      repeat' first
      | (with_reducible exact ih0 _ _ _ _)
      | (with_reducible exact LeO.refl _)
      | (with_reducible exact LeO.none _)
      | (with_reducible refine LeO.ite ?_ ?_)
      | (with_reducible refine LeO.bind ?_ (fun _ => ?_))
      | exact ih0 _ _ _ _
      | exact LeO.none _
      | refine LeO.ite ?_ ?_
      | refine LeO.bind ?_ (fun _ => ?_)
theorem demonref2_PhrasesText.mono : ∀ a0 k, LeO (demonref2_PhrasesText.f k a0) (demonref2_PhrasesText.f (k + 1) a0) := by
  intro a0 k
  have ih0 := demonref2_PhrasesText.mono_l k
  unfold demonref2_PhrasesText.f
  repeat' first
      | (with_reducible exact ih0 _ _ _ _)
      | (with_reducible exact LeO.refl _)
      | (with_reducible exact LeO.none _)
      | (with_reducible refine LeO.ite ?_ ?_)
      | (with_reducible refine LeO.bind ?_ (fun _ => ?_))
      | exact ih0 _ _ _ _
      | exact LeO.none _
      | refine LeO.ite ?_ ?_
      | refine LeO.bind ?_ (fun _ => ?_)
set_option maxHeartbeats 8000000 in
set_option maxRecDepth 100000 in
theorem demonref2_PhrasesText.calls (k : Nat) (A0 : Option Addr) (c0 : Nat) (l0 : List (S40)) (r : ByteArray) (w : World) (hr0 : Kd.C k40 w A0 l0.length l0) (hc0 : l0.length ≤ c0) (h : demonref2_PhrasesText.f k l0 = some r) :
    Calls Tryd.prog 20 #[.slice A0 l0.length c0] w fun e w' => e = .returned (.string r) ∧ Below w.heap.size w w' := by
  have HR0 := Aside0.mk hr0
  have HC0 := Aside0.mk hc0
  clear hr0 hc0
  have HB := Aside0.mk (Below.refl w.heap.size w)
  have H : (demonref2_PhrasesText.l0 k l0 (([(⟨#[]⟩ : ByteArray)] : List ByteArray)) (⟨#[]⟩ : ByteArray) 0) = some r := h
  clear h
  obtain ⟨y117, hy117⟩ : ∃ y_ : List ByteArray, y_ = (([(⟨#[]⟩ : ByteArray)] : List ByteArray)) := ⟨_, rfl⟩
  replace H : (demonref2_PhrasesText.l0 k l0 y117 (⟨#[]⟩ : ByteArray) 0) = some r := by first | (rw [hy117]; with_reducible exact H) | (have H2_ := (Option.bind_some _ _).symm.trans H; rw [hy117]; with_reducible exact H2_) | (have H2_ := (Option.bind_some _ _).symm.trans H; with_reducible exact H2_) | with_reducible exact H | (rw [hy117]; exact H) | exact H
  have Ny117 := Aside0.mk hy117
  clear hy117
  have H' := Aside0.mk H
  clear H
  go_enter Tryd.func20, Tryd.ntmps20
  go_wp2_with (first | ((with_reducible refine gate_dst (N := 7) rfl ?_); refine Kd.R_lit Kd.string _ 9 ?hg (N := 7) ?hd (xs := ([(⟨#[]⟩ : ByteArray)] : List ByteArray)) (inner := [.string (⟨#[]⟩ : ByteArray)]) (ok := fun _ => True) (okp := fun _ => True) ?hr ?hp (fun _ hk => hk) trivial (Below.refl _ _) (Nat.le_refl _) (by simp) ?_; (case hd => rfl); (case hg => rfl); (case hr => first | (go_simp; done) | (go_simp; rfl)); (case hp => exact (Reps.one (show Kd.M Kd.string _ _ _ (⟨#[]⟩ : ByteArray) [.string (⟨#[]⟩ : ByteArray)] from rfl) (Reps.none _ _))); intro v118 w2 ho3 hb hg_ hnew_; clear hg_ hnew_; (first | rw [← Ny117.out] at ho3 | (simp only [Int.reduceToNat] at ho3; rw [← Ny117.out] at ho3)); have n0_ := Aside0.mk (Kd.R_lower ho3 (below_size (by repeat (first | (with_reducible first | exact HB.out | apply below_alloc | apply pw_below_drewN | apply below_drew1) | exact HB.out)))); have n1_ := Aside0.mk (below_step (by repeat (first | (with_reducible first | exact HB.out | apply below_alloc | apply pw_below_drewN | apply below_drew1) | exact HB.out)) hb); clear HB; have HO119 := n0_; have HB := n1_; clear n0_ n1_; clear hb ho3))
  go_loopg [3, 4, 5] k (fun kq v3 v4 v5 w' => ∃ (x3_1 : List ByteArray) (x4_1 : ByteArray) (x5_1 : Int), v4 = .string x4_1 ∧ v5 = .int .i64 x5_1 ∧ Aside0 (demonref2_PhrasesText.l0 kq l0 x3_1 x4_1 x5_1 = some r) ∧ Aside0 (kq ≤ k) ∧ Aside0 (Kd.R Kd.string 9 w' w.heap.size (fun _ => True) v3 x3_1) ∧ Aside0 (Below w.heap.size w w'))
  case atStart => exact ⟨(y117), ((⟨#[]⟩ : ByteArray)), (0), (by first | rfl | (simp; done) | (simp [*]; done)), (by first | rfl | (simp; done) | (simp [*]; done)), H', ⟨Nat.le_refl _⟩, ⟨by (with_reducible repeat (first | apply Kd.R_alloc | apply Kd.R_drewN | apply Kd.R_drew)); exact HO119.out⟩, ⟨by repeat (first | (with_reducible first | exact HB.out | apply below_alloc | apply pw_below_drewN | apply below_drew1) | exact HB.out)⟩⟩
  case round =>
    clear H'
    try clear c2
    try clear p2
    obtain ⟨x3_1, x4_1, x5_1, rfl, rfl, HA, HK1, HO_3, HB⟩ := hrel
    cases gk with
    | zero => exact absurd HA.out (by simp [demonref2_PhrasesText.l0])
    | succ k1 =>
      have H := HA.out
      clear HA
      simp only [demonref2_PhrasesText.l0] at H
      by_cases c4 : x5_1 < (l0.length : Int)
      · rw [if_pos c4] at H
        have c4b0 : decide (x5_1 < (l0.length : Int)) = true := decide_eq_true c4
        clear c4
        by_cases c5 : 0 ≤ x5_1
        · rw [if_pos c5] at H
          have c5b0 : decide (0 ≤ x5_1) = true := decide_eq_true c5
          clear c5
          by_cases c6 : 0 ≤ ((rd_T40 l0 x5_1).f0)
          · rw [if_pos c6] at H
            have c6b0 : decide (0 ≤ ((rd_T40 l0 x5_1).f0)) = true := decide_eq_true c6
            clear c6
            by_cases c7 : ((rd_T40 l0 x5_1).f0) < (x3_1.length : Int)
            · rw [if_pos c7] at H
              have c7b0 : decide (((rd_T40 l0 x5_1).f0) < (x3_1.length : Int)) = true := decide_eq_true c7
              clear c7
              obtain ⟨bq8, hbq8⟩ : ∃ b_ : Bool, b_ = ((rd_T40 l0 x5_1).f2) := ⟨_, rfl⟩
              replace H : (if (bq8 = true) then (if x3_1.length < 8796093022208 then (if x4_1.size + (rdOf ByteArray.empty x3_1 ((rd_T40 l0 x5_1).f0)).size ≤ 9223372036854775807 then (demonref2_PhrasesText.l0 k1 l0 (x3_1 ++ [rdOf ByteArray.empty x3_1 ((rd_T40 l0 x5_1).f0)]) (x4_1 ++ (rdOf ByteArray.empty x3_1 ((rd_T40 l0 x5_1).f0))) (wrap64 (x5_1 + 1))) else (none)) else (none)) else ((some (([(rd_T40 l0 x5_1).f1] : List Int) : List Int)).bind fun y127 => (if (rdOf ByteArray.empty x3_1 ((rd_T40 l0 x5_1).f0)).size + (strOfNums y127).size ≤ 9223372036854775807 then (if x3_1.length < 8796093022208 then (if x4_1.size + ((rdOf ByteArray.empty x3_1 ((rd_T40 l0 x5_1).f0)) ++ (strOfNums y127)).size ≤ 9223372036854775807 then (demonref2_PhrasesText.l0 k1 l0 (x3_1 ++ [(rdOf ByteArray.empty x3_1 ((rd_T40 l0 x5_1).f0)) ++ (strOfNums y127)]) (x4_1 ++ ((rdOf ByteArray.empty x3_1 ((rd_T40 l0 x5_1).f0)) ++ (strOfNums y127))) (wrap64 (x5_1 + 1))) else (none)) else (none)) else (none)))) = some r := by rw [← hbq8] at H; exact H
              have Nbq8 := Aside0.mk hbq8
              clear hbq8
              by_cases c9 : (bq8 = true)
              · subst c9
                have H1 : (if x3_1.length < 8796093022208 then (if x4_1.size + (rdOf ByteArray.empty x3_1 ((rd_T40 l0 x5_1).f0)).size ≤ 9223372036854775807 then (demonref2_PhrasesText.l0 k1 l0 (x3_1 ++ [rdOf ByteArray.empty x3_1 ((rd_T40 l0 x5_1).f0)]) (x4_1 ++ (rdOf ByteArray.empty x3_1 ((rd_T40 l0 x5_1).f0))) (wrap64 (x5_1 + 1))) else (none)) else (none)) = some r := by rw [if_pos rfl] at H; exact H
                clear H
                have H := H1
                clear H1
                by_cases c10 : x3_1.length < 8796093022208
                · rw [if_pos c10] at H
                  have LMc10 := Aside0.mk c10
                  clear c10
                  obtain ⟨y123, hy123⟩ : ∃ y_ : List ByteArray, y_ = (x3_1 ++ [rdOf ByteArray.empty x3_1 ((rd_T40 l0 x5_1).f0)]) := ⟨_, rfl⟩
                  replace H : (if x4_1.size + (rdOf ByteArray.empty x3_1 ((rd_T40 l0 x5_1).f0)).size ≤ 9223372036854775807 then (demonref2_PhrasesText.l0 k1 l0 y123 (x4_1 ++ (rdOf ByteArray.empty x3_1 ((rd_T40 l0 x5_1).f0))) (wrap64 (x5_1 + 1))) else (none)) = some r := by first | (rw [hy123]; with_reducible exact H) | (have H2_ := (Option.bind_some _ _).symm.trans H; rw [hy123]; with_reducible exact H2_) | (have H2_ := (Option.bind_some _ _).symm.trans H; with_reducible exact H2_) | with_reducible exact H | (rw [hy123]; exact H) | exact H
                  have Ny123 := Aside0.mk hy123
                  clear hy123
                  by_cases c11 : x4_1.size + (rdOf ByteArray.empty x3_1 ((rd_T40 l0 x5_1).f0)).size ≤ 9223372036854775807
                  · rw [if_pos c11] at H
                    have c11b0 := eq_true c11
                    have c11b1 : decide (x4_1.size + (rdOf ByteArray.empty x3_1 ((rd_T40 l0 x5_1).f0)).size ≤ 9223372036854775807) = true := decide_eq_true c11
                    try have c11b2 : (9223372036854775807 < x4_1.size + (rdOf ByteArray.empty x3_1 ((rd_T40 l0 x5_1).f0)).size) = False := eq_false (Nat.not_lt.2 c11)
                    have H' := Aside0.mk H
                    clear H
                    have p120 : 0 ≤ (x5_1 : Int) := of_decide_eq_true (by first | (with_reducible assumption) | assumption)
                    have q120 : x5_1 < (l0.length : Int) := of_decide_eq_true (by first | (with_reducible assumption) | assumption)
                    obtain ⟨ad120, e120, hx120_0, hx120_1, hx120_2⟩ := at_T40 HR0.out x5_1 p120 q120
                    (try rw [← Nbq8.out] at hx120_2)
                    cases e120
                    replace hx120_0 := (HB.out.cell (World.block_lt_of_cell? w _ hx120_0)).trans hx120_0
                    replace hx120_1 := (HB.out.cell (World.block_lt_of_cell? w _ hx120_1)).trans hx120_1
                    replace hx120_2 := (HB.out.cell (World.block_lt_of_cell? w _ hx120_2)).trans hx120_2
                    replace p120 := eq_true p120
                    replace q120 := eq_true q120
                    obtain ⟨Ao12, co12, eo12⟩ := Kd.R_slice HO_3.out
                    subst eo12
                    have p121 : 0 ≤ (((rd_T40 l0 x5_1).f0) : Int) := of_decide_eq_true (by first | (with_reducible assumption) | assumption)
                    have q121 : ((rd_T40 l0 x5_1).f0) < (x3_1.length : Int) := of_decide_eq_true (by first | (with_reducible assumption) | assumption)
                    obtain ⟨ad121, e121, hx121_0⟩ := Kd.at_string (Kd.R_reads' HO_3.out).2.2 ((rd_T40 l0 x5_1).f0) p121 q121
                    cases e121
                    replace p121 := eq_true p121
                    replace q121 := eq_true q121
                    have p122 : 0 ≤ (x5_1 : Int) := of_decide_eq_true (by first | (with_reducible assumption) | assumption)
                    have q122 : x5_1 < (l0.length : Int) := of_decide_eq_true (by first | (with_reducible assumption) | assumption)
                    obtain ⟨ad122, e122, hx122_0, hx122_1, hx122_2⟩ := at_T40 HR0.out x5_1 p122 q122
                    (try rw [← Nbq8.out] at hx122_2)
                    obtain rfl : ad120 = ad122 := (by injection e122)
                    replace hx122_0 := (HB.out.cell (World.block_lt_of_cell? w _ hx122_0)).trans hx122_0
                    replace hx122_1 := (HB.out.cell (World.block_lt_of_cell? w _ hx122_1)).trans hx122_1
                    replace hx122_2 := (HB.out.cell (World.block_lt_of_cell? w _ hx122_2)).trans hx122_2
                    replace p122 := eq_true p122
                    replace q122 := eq_true q122
                    go_wp2_with (first | ((with_reducible refine gate_builtin (b := .append) (xs := #[.tmp 37, .tmp 39]) rfl ?_); at_builtin; refine Kd.R_append Kd.string (w0 := w) w.heap.size rfl (.tmp 37) (.tmp 39) 62 9 (.string ⟨#[]⟩) 16 rfl Tryd.underlying62 info9 rfl (by decide) (by omega) (.slice (some ad121) x3_1.length co12) x3_1 (rdOf ByteArray.empty x3_1 ((rd_T40 l0 x5_1).f0)) [.string (rdOf ByteArray.empty x3_1 ((rd_T40 l0 x5_1).f0))] (fun _ => True) (fun _ => False) rfl rfl ?aP (fun _ hk => hk.elim) ?aF ?aO ?aB ?aS ?aL ?_; (case aP => exact rfl); (case aB => exact (by repeat (first | (with_reducible first | exact HB.out | apply below_alloc | apply pw_below_drewN | apply below_drew1) | exact HB.out))); (case aF => exact (fun _ _ => trivial)); (case aO => exact (by (with_reducible repeat (first | apply Kd.R_alloc | apply Kd.R_drewN | apply Kd.R_drew)); exact HO_3.out)); (case aS => exact (below_size (by repeat (first | (with_reducible first | exact HB.out | apply below_alloc | apply pw_below_drewN | apply below_drew1) | exact HB.out)))); (case aL => have := LMc10.out; omega); intro v124 w13 ho hb hg hat; rw [← Ny123.out] at ho; have n0_ := Aside0.mk (hb); have n1_ := Aside0.mk (ho); clear HB; clear HO_3; have HB := n0_; have HO125 := n1_; clear n0_ n1_; clear ho hb hg hat))
                    go_roundg k1
                    case measure => have := HK1.out; omega
                    case rel => exact ⟨(y123), (x4_1 ++ (rdOf ByteArray.empty x3_1 ((rd_T40 l0 x5_1).f0))), (wrap64 (x5_1 + 1)), (by first | rfl | (simp; done) | (simp [*]; done)), (by first | rfl | (simp; done) | (simp [*]; done)), H', ⟨by have := HK1.out; omega⟩, ⟨by (with_reducible repeat (first | apply Kd.R_alloc | apply Kd.R_drewN | apply Kd.R_drew)); exact HO125.out⟩, ⟨by repeat (first | (with_reducible first | exact HB.out | apply below_alloc | apply pw_below_drewN | apply below_drew1) | exact HB.out)⟩⟩
                  · rw [if_neg c11] at H
                    exact absurd H (by simp)
                · rw [if_neg c10] at H
                  exact absurd H (by simp)
              · replace c9 := Bool.eq_false_iff.mpr c9
                subst c9
                have H1 : ((some (([(rd_T40 l0 x5_1).f1] : List Int) : List Int)).bind fun y127 => (if (rdOf ByteArray.empty x3_1 ((rd_T40 l0 x5_1).f0)).size + (strOfNums y127).size ≤ 9223372036854775807 then (if x3_1.length < 8796093022208 then (if x4_1.size + ((rdOf ByteArray.empty x3_1 ((rd_T40 l0 x5_1).f0)) ++ (strOfNums y127)).size ≤ 9223372036854775807 then (demonref2_PhrasesText.l0 k1 l0 (x3_1 ++ [(rdOf ByteArray.empty x3_1 ((rd_T40 l0 x5_1).f0)) ++ (strOfNums y127)]) (x4_1 ++ ((rdOf ByteArray.empty x3_1 ((rd_T40 l0 x5_1).f0)) ++ (strOfNums y127))) (wrap64 (x5_1 + 1))) else (none)) else (none)) else (none))) = some r := by rw [if_neg (show ¬ (false = true) by decide)] at H; exact H
                clear H
                have H := H1
                clear H1
                obtain ⟨y127, hy127⟩ : ∃ y_ : List Int, y_ = (([(rd_T40 l0 x5_1).f1] : List Int)) := ⟨_, rfl⟩
                replace H : (if (rdOf ByteArray.empty x3_1 ((rd_T40 l0 x5_1).f0)).size + (strOfNums y127).size ≤ 9223372036854775807 then (if x3_1.length < 8796093022208 then (if x4_1.size + ((rdOf ByteArray.empty x3_1 ((rd_T40 l0 x5_1).f0)) ++ (strOfNums y127)).size ≤ 9223372036854775807 then (demonref2_PhrasesText.l0 k1 l0 (x3_1 ++ [(rdOf ByteArray.empty x3_1 ((rd_T40 l0 x5_1).f0)) ++ (strOfNums y127)]) (x4_1 ++ ((rdOf ByteArray.empty x3_1 ((rd_T40 l0 x5_1).f0)) ++ (strOfNums y127))) (wrap64 (x5_1 + 1))) else (none)) else (none)) else (none)) = some r := by first | (rw [hy127]; with_reducible exact H) | (have H2_ := (Option.bind_some _ _).symm.trans H; rw [hy127]; with_reducible exact H2_) | (have H2_ := (Option.bind_some _ _).symm.trans H; with_reducible exact H2_) | with_reducible exact H | (rw [hy127]; exact H) | exact H
                have Ny127 := Aside0.mk hy127
                clear hy127
                by_cases c14 : (rdOf ByteArray.empty x3_1 ((rd_T40 l0 x5_1).f0)).size + (strOfNums y127).size ≤ 9223372036854775807
                · rw [if_pos c14] at H
                  have c14b0 := eq_true c14
                  have c14b1 : decide ((rdOf ByteArray.empty x3_1 ((rd_T40 l0 x5_1).f0)).size + (strOfNums y127).size ≤ 9223372036854775807) = true := decide_eq_true c14
                  try have c14b2 : (9223372036854775807 < (rdOf ByteArray.empty x3_1 ((rd_T40 l0 x5_1).f0)).size + (strOfNums y127).size) = False := eq_false (Nat.not_lt.2 c14)
                  by_cases c15 : x3_1.length < 8796093022208
                  · rw [if_pos c15] at H
                    have LMc15 := Aside0.mk c15
                    clear c15
                    obtain ⟨y130, hy130⟩ : ∃ y_ : List ByteArray, y_ = (x3_1 ++ [(rdOf ByteArray.empty x3_1 ((rd_T40 l0 x5_1).f0)) ++ (strOfNums y127)]) := ⟨_, rfl⟩
                    replace H : (if x4_1.size + ((rdOf ByteArray.empty x3_1 ((rd_T40 l0 x5_1).f0)) ++ (strOfNums y127)).size ≤ 9223372036854775807 then (demonref2_PhrasesText.l0 k1 l0 y130 (x4_1 ++ ((rdOf ByteArray.empty x3_1 ((rd_T40 l0 x5_1).f0)) ++ (strOfNums y127))) (wrap64 (x5_1 + 1))) else (none)) = some r := by first | (rw [hy130]; with_reducible exact H) | (have H2_ := (Option.bind_some _ _).symm.trans H; rw [hy130]; with_reducible exact H2_) | (have H2_ := (Option.bind_some _ _).symm.trans H; with_reducible exact H2_) | with_reducible exact H | (rw [hy130]; exact H) | exact H
                    have Ny130 := Aside0.mk hy130
                    clear hy130
                    by_cases c16 : x4_1.size + ((rdOf ByteArray.empty x3_1 ((rd_T40 l0 x5_1).f0)) ++ (strOfNums y127)).size ≤ 9223372036854775807
                    · rw [if_pos c16] at H
                      have c16b0 := eq_true c16
                      have c16b1 : decide (x4_1.size + ((rdOf ByteArray.empty x3_1 ((rd_T40 l0 x5_1).f0)) ++ (strOfNums y127)).size ≤ 9223372036854775807) = true := decide_eq_true c16
                      try have c16b2 : (9223372036854775807 < x4_1.size + ((rdOf ByteArray.empty x3_1 ((rd_T40 l0 x5_1).f0)) ++ (strOfNums y127)).size) = False := eq_false (Nat.not_lt.2 c16)
                      have H' := Aside0.mk H
                      clear H
                      have p120 : 0 ≤ (x5_1 : Int) := of_decide_eq_true (by first | (with_reducible assumption) | assumption)
                      have q120 : x5_1 < (l0.length : Int) := of_decide_eq_true (by first | (with_reducible assumption) | assumption)
                      obtain ⟨ad120, e120, hx120_0, hx120_1, hx120_2⟩ := at_T40 HR0.out x5_1 p120 q120
                      (try rw [← Nbq8.out] at hx120_2)
                      cases e120
                      replace hx120_0 := (HB.out.cell (World.block_lt_of_cell? w _ hx120_0)).trans hx120_0
                      replace hx120_1 := (HB.out.cell (World.block_lt_of_cell? w _ hx120_1)).trans hx120_1
                      replace hx120_2 := (HB.out.cell (World.block_lt_of_cell? w _ hx120_2)).trans hx120_2
                      replace p120 := eq_true p120
                      replace q120 := eq_true q120
                      obtain ⟨Ao17, co17, eo17⟩ := Kd.R_slice HO_3.out
                      subst eo17
                      have p121 : 0 ≤ (((rd_T40 l0 x5_1).f0) : Int) := of_decide_eq_true (by first | (with_reducible assumption) | assumption)
                      have q121 : ((rd_T40 l0 x5_1).f0) < (x3_1.length : Int) := of_decide_eq_true (by first | (with_reducible assumption) | assumption)
                      obtain ⟨ad121, e121, hx121_0⟩ := Kd.at_string (Kd.R_reads' HO_3.out).2.2 ((rd_T40 l0 x5_1).f0) p121 q121
                      cases e121
                      replace p121 := eq_true p121
                      replace q121 := eq_true q121
                      have p122 : 0 ≤ (x5_1 : Int) := of_decide_eq_true (by first | (with_reducible assumption) | assumption)
                      have q122 : x5_1 < (l0.length : Int) := of_decide_eq_true (by first | (with_reducible assumption) | assumption)
                      obtain ⟨ad122, e122, hx122_0, hx122_1, hx122_2⟩ := at_T40 HR0.out x5_1 p122 q122
                      (try rw [← Nbq8.out] at hx122_2)
                      obtain rfl : ad120 = ad122 := (by injection e122)
                      replace hx122_0 := (HB.out.cell (World.block_lt_of_cell? w _ hx122_0)).trans hx122_0
                      replace hx122_1 := (HB.out.cell (World.block_lt_of_cell? w _ hx122_1)).trans hx122_1
                      replace hx122_2 := (HB.out.cell (World.block_lt_of_cell? w _ hx122_2)).trans hx122_2
                      replace p122 := eq_true p122
                      replace q122 := eq_true q122
                      have p126 : 0 ≤ (x5_1 : Int) := of_decide_eq_true (by first | (with_reducible assumption) | assumption)
                      have q126 : x5_1 < (l0.length : Int) := of_decide_eq_true (by first | (with_reducible assumption) | assumption)
                      obtain ⟨ad126, e126, hx126_0, hx126_1, hx126_2⟩ := at_T40 HR0.out x5_1 p126 q126
                      (try rw [← Nbq8.out] at hx126_2)
                      obtain rfl : ad120 = ad126 := (by injection e126)
                      replace hx126_0 := (HB.out.cell (World.block_lt_of_cell? w _ hx126_0)).trans hx126_0
                      replace hx126_1 := (HB.out.cell (World.block_lt_of_cell? w _ hx126_1)).trans hx126_1
                      replace hx126_2 := (HB.out.cell (World.block_lt_of_cell? w _ hx126_2)).trans hx126_2
                      replace p126 := eq_true p126
                      replace q126 := eq_true q126
                      go_wp2_with (first | ((with_reducible refine gate_dst (N := 34) rfl ?_); refine Kd.R_lit (Kd.int .u8) _ 5 ?hg (N := 34) ?hd (xs := ([(rd_T40 l0 x5_1).f1] : List Int)) (inner := [.int .u8 ((rd_T40 l0 x5_1).f1)]) (ok := fun _ => True) (okp := fun _ => True) ?hr ?hp (fun _ hk => hk) trivial (Below.refl _ _) (Nat.le_refl _) (by simp) ?_; (case hd => rfl); (case hg => rfl); (case hr => first | (go_simp; done) | (go_simp; rfl)); (case hp => exact (Reps.one (show Kd.M (Kd.int .u8) _ _ _ ((rd_T40 l0 x5_1).f1) [.int .u8 ((rd_T40 l0 x5_1).f1)] from rfl) (Reps.none _ _))); intro v128 w18 ho19 hb hg_ hnew_; clear hg_ hnew_; (first | rw [← Ny127.out] at ho19 | (simp only [Int.reduceToNat] at ho19; rw [← Ny127.out] at ho19)); have n0_ := Aside0.mk (Kd.R_below (by (with_reducible repeat (first | apply Kd.R_alloc | apply Kd.R_drewN | apply Kd.R_drew)); exact HO_3.out) hb); have n1_ := Aside0.mk (Kd.R_lower ho19 (below_size (by repeat (first | (with_reducible first | exact HB.out | apply below_alloc | apply pw_below_drewN | apply below_drew1) | exact HB.out)))); have n2_ := Aside0.mk (below_step (by repeat (first | (with_reducible first | exact HB.out | apply below_alloc | apply pw_below_drewN | apply below_drew1) | exact HB.out)) hb); clear HO_3; clear HB; have HO_3 := n0_; have HO129 := n1_; have HB := n2_; clear n0_ n1_ n2_; clear hb ho19; have hcv20 := own_string (P := Tryd.prog) Tryd.underlying64 Tryd.underlying5 Tryd.underlying9 (Kd.own_of_R HO129.out)) | ((with_reducible refine gate_builtin (b := .append) (xs := #[.tmp 37, .tmp 39]) rfl ?_); at_builtin; refine Kd.R_append Kd.string (w0 := w) w.heap.size rfl (.tmp 37) (.tmp 39) 62 9 (.string ⟨#[]⟩) 16 rfl Tryd.underlying62 info9 rfl (by decide) (by omega) (.slice (some ad121) x3_1.length co17) x3_1 ((rdOf ByteArray.empty x3_1 ((rd_T40 l0 x5_1).f0)) ++ (strOfNums y127)) [.string ((rdOf ByteArray.empty x3_1 ((rd_T40 l0 x5_1).f0)) ++ (strOfNums y127))] (fun _ => True) (fun _ => False) rfl rfl ?aP (fun _ hk => hk.elim) ?aF ?aO ?aB ?aS ?aL ?_; (case aP => exact rfl); (case aB => exact (by repeat (first | (with_reducible first | exact HB.out | apply below_alloc | apply pw_below_drewN | apply below_drew1) | exact HB.out))); (case aF => exact (fun _ _ => trivial)); (case aO => exact (by (with_reducible repeat (first | apply Kd.R_alloc | apply Kd.R_drewN | apply Kd.R_drew)); exact HO_3.out)); (case aS => exact (below_size (by repeat (first | (with_reducible first | exact HB.out | apply below_alloc | apply pw_below_drewN | apply below_drew1) | exact HB.out)))); (case aL => have := LMc15.out; omega); intro v131 w21 ho hb hg hat; rw [← Ny130.out] at ho; have n0_ := Aside0.mk (Kd.R_over' (by (with_reducible repeat (first | apply Kd.R_alloc | apply Kd.R_drewN | apply Kd.R_drew)); exact HO129.out) (Kd.R_typed (by (with_reducible repeat (first | apply Kd.R_alloc | apply Kd.R_drewN | apply Kd.R_drew)); exact HO_3.out)) (by decide) hg); have n1_ := Aside0.mk (hb); have n2_ := Aside0.mk (ho); clear HO129; clear HB; clear HO_3; have HO129 := n0_; have HB := n1_; have HO132 := n2_; clear n0_ n1_ n2_; clear ho hb hg hat))
                      go_roundg k1
                      case measure => have := HK1.out; omega
                      case rel => exact ⟨(y130), (x4_1 ++ ((rdOf ByteArray.empty x3_1 ((rd_T40 l0 x5_1).f0)) ++ (strOfNums y127))), (wrap64 (x5_1 + 1)), (by first | rfl | (simp; done) | (simp [*]; done)), (by first | rfl | (simp; done) | (simp [*]; done)), H', ⟨by have := HK1.out; omega⟩, ⟨by (with_reducible repeat (first | apply Kd.R_alloc | apply Kd.R_drewN | apply Kd.R_drew)); exact HO132.out⟩, ⟨by repeat (first | (with_reducible first | exact HB.out | apply below_alloc | apply pw_below_drewN | apply below_drew1) | exact HB.out)⟩⟩
                    · rw [if_neg c16] at H
                      exact absurd H (by simp)
                  · rw [if_neg c15] at H
                    exact absurd H (by simp)
                · rw [if_neg c14] at H
                  exact absurd H (by simp)
            · rw [if_neg c7] at H
              exact absurd H (by simp)
          · rw [if_neg c6] at H
            exact absurd H (by simp)
        · rw [if_neg c5] at H
          exact absurd H (by simp)
      · rw [if_neg c4] at H
        have c4b0 : decide (x5_1 < (l0.length : Int)) = false := decide_eq_false c4
        clear c4
        obtain rfl := Option.some.inj H
        go_wp2
        go_ret
        exact ⟨by first | rfl | (simp [errW_none, errW_some] <;> rfl) | (simp [*, errW_none, errW_some] <;> rfl), by repeat (first | (with_reducible first | exact HB.out | apply below_alloc | apply pw_below_drewN | apply below_drew1) | exact HB.out)⟩

-- NOT PRINTED: function 7 (demonlaw2_LempelText)

end Go.Proofs.YtaonemghafoolaaDoor.PLempelText
