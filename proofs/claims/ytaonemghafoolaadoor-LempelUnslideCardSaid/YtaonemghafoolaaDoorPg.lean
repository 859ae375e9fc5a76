/-
  The plain law of LempelUnslide: Unslide's faults and texts are the document's.
-/
import Derived.Test.YtaonemghafoolaaDoorVUnslide
import Derived.Test.YtaonemghafoolaaDoorPb
import Derived.Test.YtaonemghafoolaaDoorPd
namespace Go.Proofs.YtaonemghafoolaaDoor.Pg
open Go.RowKit Go.Proofs.YtaonemghafoolaaDoorW.PrintWords Go.Proofs.YtaonemghafoolaaDoorW.PrintLast Go.Proofs.YtaonemghafoolaaDoorW.PrintMore
open Go.Proofs.YtaonemghafoolaaDoor.Q Go.Proofs.YtaonemghafoolaaDoor.V
open Go.Proofs.YtaonemghafoolaaDoor.Pc
open Go.Proofs.YtaonemghafoolaaDoor.Pa (bs bs_len bs_inj w64 abab_run)
open Go.Proofs.YtaonemghafoolaaDoor.PLempelUnslide (S46 rd_T46 demonref2_CopiesFault.l0 demonref2_CopiesFault.l1 demonref2_CopiesFault.j2 demonref2_CopiesFault.j3 demonref2_CopiesFault.j4 demonref2_CopiesFault.f demonref2_CopiesText.l0 demonref2_CopiesText.l1 demonref2_CopiesText.f)
set_option linter.unusedVariables false

/-! ### what the walk with the error ways tells more -/
theorem eu_ext : ∀ k, (∀ y0 y1 y2 y3, LeO (lempel_Unslide.l0 k y0 y1 y2 y3) (EU.lempel_Unslide.l0 k y0 y1 y2 y3)) ∧ (∀ y0 y1 y2 y3 y4, LeO (lempel_Unslide.l1 k y0 y1 y2 y3 y4) (EU.lempel_Unslide.l1 k y0 y1 y2 y3 y4)) ∧ (∀ y0 y1 y2 y3 y4 y5 y6 y7 y8 y9, LeO (lempel_Unslide.j2 k y0 y1 y2 y3 y4 y5 y6 y7 y8 y9) (EU.lempel_Unslide.j2 k y0 y1 y2 y3 y4 y5 y6 y7 y8 y9)) ∧ (∀ y0 y1 y2 y3, LeO (lempel_Unslide.l2 k y0 y1 y2 y3) (EU.lempel_Unslide.l2 k y0 y1 y2 y3)) ∧ (∀ y0 y1 y2 y3 y4 y5 y6 y7 y8 y9, LeO (lempel_Unslide.l3 k y0 y1 y2 y3 y4 y5 y6 y7 y8 y9) (EU.lempel_Unslide.l3 k y0 y1 y2 y3 y4 y5 y6 y7 y8 y9))
  | 0 => ⟨fun _ _ _ _ => LeO.none _, fun _ _ _ _ _ => LeO.none _, fun _ _ _ _ _ _ _ _ _ _ => LeO.none _, fun _ _ _ _ => LeO.none _, fun _ _ _ _ _ _ _ _ _ _ => LeO.none _⟩
  | k + 1 => by
    obtain ⟨ih0, ih1, ih2, ih3, ih4⟩ := eu_ext k
    refine ⟨?_, ?_, ?_, ?_, ?_⟩
    · intro y0 y1 y2 y3
      unfold lempel_Unslide.l0 EU.lempel_Unslide.l0
      repeat' first
      | (with_reducible exact ih0 _ _ _ _)
      | (with_reducible exact ih1 _ _ _ _ _)
      | (with_reducible exact LeO.refl _)
      | (with_reducible exact LeO.none _)
      | (with_reducible refine LeO.ite ?_ ?_)
    · intro y0 y1 y2 y3 y4
      unfold lempel_Unslide.l1 EU.lempel_Unslide.l1
      repeat' first
      | (with_reducible exact ih2 _ _ _ _ _ _ _ _ _ _)
      | (with_reducible exact ih3 _ _ _ _)
      | (with_reducible exact LeO.refl _)
      | (with_reducible exact LeO.none _)
      | (with_reducible refine LeO.ite ?_ ?_)
    · intro y0 y1 y2 y3 y4 y5 y6 y7 y8 y9
      unfold lempel_Unslide.j2 EU.lempel_Unslide.j2
      repeat' first
      | (with_reducible exact ih1 _ _ _ _ _)
      | (with_reducible exact LeO.refl _)
      | (with_reducible exact LeO.none _)
      | (with_reducible refine LeO.ite ?_ ?_)
    · intro y0 y1 y2 y3
      unfold lempel_Unslide.l2 EU.lempel_Unslide.l2
      repeat' first
      | (with_reducible exact ih4 _ _ _ _ _ _ _ _ _ _)
      | (with_reducible exact LeO.refl _)
      | (with_reducible exact LeO.none _)
      | (with_reducible refine LeO.ite ?_ ?_)
    · intro y0 y1 y2 y3 y4 y5 y6 y7 y8 y9
      unfold lempel_Unslide.l3 EU.lempel_Unslide.l3
      repeat' first
      | (with_reducible exact ih3 _ _ _ _)
      | (with_reducible exact ih4 _ _ _ _ _ _ _ _ _ _)
      | (with_reducible exact LeO.refl _)
      | (with_reducible exact LeO.none _)
      | (with_reducible refine LeO.ite ?_ ?_)
theorem eu_f (k : Nat) (l : List S45) : LeO (lempel_Unslide.f k l) (EU.lempel_Unslide.f k l) := by
  unfold lempel_Unslide.f EU.lempel_Unslide.f
  exact LeO.ite (LeO.none _) ((eu_ext k).1 _ _ _ _)

/-! ### the same copies of either package -/
def to45 (c : S46) : S45 := ⟨c.f0, c.f1, c.f2, c.f3⟩
theorem rd46_get {l : List S46} {i : Nat} {q : S46} (h : l[i]? = some q) : rd_T46 l (i : Int) = q := by
  unfold rd_T46
  rw [Int.toNat_natCast, List.getD_eq_getElem?_getD, h]
  rfl
theorem own_get {l : List S46} {i : Nat} {q : S46} (h : l[i]? = some q) : (l.map to45)[i]? = some (to45 q) := by rw [List.getElem?_map, h]; rfl

/-! ### the first loops -/
theorem first (l : List S46) (hn : l.length ≤ 4000) : ∀ (d i : Nat), l.length - i = d → i ≤ l.length →
    (Ev (fun k => demonref2_CopiesFault.l0 k l i) (2, -1) ∧ Ev (fun k => EU.lempel_Unslide.l0 k (l.map to45) (l.map to45) (l.map to45).length i) ((⟨#[]⟩ : ByteArray), some (-1))) ∨
    ((∀ j, i ≤ j → ∀ c, l[j]? = some c → c.f1 ≤ 4000) ∧ (∀ r, Ev (fun k => demonref2_CopiesFault.l1 k l 0 0) r → Ev (fun k => demonref2_CopiesFault.l0 k l i) r) ∧
      (∀ r, Ev (fun k => EU.lempel_Unslide.l1 k (l.map to45) 0 (l.map to45) (l.map to45).length 0) r → Ev (fun k => EU.lempel_Unslide.l0 k (l.map to45) (l.map to45) (l.map to45).length i) r)) := by
  have hm : (l.map to45).length = l.length := List.length_map _
  intro d
  induction d with
  | zero =>
    intro i hd hi
    right
    refine ⟨fun j hj c hc => ?_, fun r hr => ev_next (fun k => ?_) hr, fun r hr => ev_next (fun k => ?_) hr⟩
    · have := (List.getElem?_eq_some_iff.1 hc).1
      omega
    · simp only [demonref2_CopiesFault.l0]
      rw [if_neg (by omega)]
    · simp only [EU.lempel_Unslide.l0]
      rw [if_neg (by omega)]
  | succ d ih =>
    intro i hd hi
    have hlt : i < l.length := by omega
    obtain ⟨c, hc⟩ : ∃ c, l[i]? = some c := ⟨_, List.getElem?_eq_getElem hlt⟩
    have hc' := own_get hc
    by_cases h : c.f1 > 4000
    · left
      refine ⟨ev_end (fun k => ?_), ev_end (fun k => ?_)⟩
      · simp only [demonref2_CopiesFault.l0]
        rw [rd46_get hc, if_pos (by omega), if_pos (by omega), if_pos h]
      · simp only [EU.lempel_Unslide.l0]
        rw [rd_get hc', if_pos (by omega), if_pos (by omega), if_pos (by omega), if_pos (show (to45 c).f1 > 4000 from h)]
    · rcases ih (i + 1) (by omega) (by omega) with ⟨h1, h2⟩ | ⟨h1, h2, h3⟩
      · left
        refine ⟨ev_next (fun k => ?_) h1, ev_next (fun k => ?_) h2⟩
        · simp only [demonref2_CopiesFault.l0]
          rw [rd46_get hc, if_pos (by omega), if_pos (by omega), if_neg h, wsucc (by omega)]
        · simp only [EU.lempel_Unslide.l0]
          rw [rd_get hc', if_pos (by omega), if_pos (by omega), if_pos (by omega), if_neg (show ¬ (to45 c).f1 > 4000 from h), wsucc (by omega)]
      · right
        refine ⟨fun j hj q hq => ?_, fun r hr => ev_next (fun k => ?_) (h2 r hr), fun r hr => ev_next (fun k => ?_) (h3 r hr)⟩
        · by_cases e : j = i
          · subst e
            rw [hc] at hq
            obtain rfl := Option.some.inj hq
            omega
          · exact h1 j (by omega) q hq
        · simp only [demonref2_CopiesFault.l0]
          rw [rd46_get hc, if_pos (by omega), if_pos (by omega), if_neg h, wsucc (by omega)]
        · simp only [EU.lempel_Unslide.l0]
          rw [rd_get hc', if_pos (by omega), if_pos (by omega), if_pos (by omega), if_neg (show ¬ (to45 c).f1 > 4000 from h), wsucc (by omega)]

/-! ### the second loops -/
def Right (n : Nat) (S : Nat) (i : Nat) (c : S46) : Prop := 0 ≤ c.f0 ∧ c.f0 ≤ (S : Nat) ∧ 0 ≤ c.f1 ∧ (c.f0 = 0 ↔ c.f1 = 0) ∧ (c.f3 = true → i + 1 = n ∧ c.f1 ≠ 0 ∧ c.f2 = 0)

theorem xr (a b : Int) : ((a == 0) != (b == 0)) = !decide (a = 0 ↔ b = 0) := by
  by_cases e : a = 0
  · by_cases e' : b = 0
    · simp [e, e']
    · rw [beq_eq_false_iff_ne.2 e']; simp [e, e']
  · by_cases e' : b = 0
    · rw [beq_eq_false_iff_ne.2 e]; simp [e, e']
    · rw [beq_eq_false_iff_ne.2 e, beq_eq_false_iff_ne.2 e']; simp [e, e']
/-- A copy that is not right: both tell its place. -/
theorem wrong (l : List S46) (hn : l.length ≤ 4000) (S i : Nat) (c : S46) (hc : l[i]? = some c) (h : ¬ Right l.length S i c) :
    Ev (fun k => demonref2_CopiesFault.l1 k l S i) (3, (i : Int)) ∧ Ev (fun k => EU.lempel_Unslide.l1 k (l.map to45) S (l.map to45) (l.map to45).length i) ((⟨#[]⟩ : ByteArray), some (i : Int)) := by
  have hm : (l.map to45).length = l.length := List.length_map _
  have hlt := (List.getElem?_eq_some_iff.1 hc).1
  have hc' := own_get hc
  have t2 : ∀ a b q z, Ev (fun k => demonref2_CopiesFault.j2 k l S i true a b q z) (3, (i : Int)) := fun a b q z => ev_end (fun k => by simp only [demonref2_CopiesFault.j2]; rw [if_pos trivial])
  have t3 : ∀ a b q z, Ev (fun k => demonref2_CopiesFault.j3 k l S i true a b q z) (3, (i : Int)) := fun a b q z => ev_end (fun k => by simp only [demonref2_CopiesFault.j3]; rw [if_pos trivial])
  have t4 : ∀ a b q z, Ev (fun k => demonref2_CopiesFault.j4 k l S i true a b q z) (3, (i : Int)) := fun a b q z => ev_end (fun k => by simp only [demonref2_CopiesFault.j4]; rw [if_pos trivial])
  have tu : ∀ a b q z, Ev (fun k => EU.lempel_Unslide.j2 k (l.map to45) S (l.map to45) (l.map to45).length i true a b q z) ((⟨#[]⟩ : ByteArray), some (i : Int)) := fun a b q z => ev_end (fun k => by simp only [EU.lempel_Unslide.j2]; rw [if_pos trivial])
  obtain ⟨a, b, q, z⟩ := c
  have r0 : (to45 ⟨a, b, q, z⟩).f0 = a := rfl
  have r1 : (to45 ⟨a, b, q, z⟩).f1 = b := rfl
  have r2 : (to45 ⟨a, b, q, z⟩).f2 = q := rfl
  have r3 : (to45 ⟨a, b, q, z⟩).f3 = z := rfl
  by_cases h0 : a < 0
  · refine ⟨ev_next (fun k => ?_) (t2 a b q z), ev_next (fun k => ?_) (tu a b q z)⟩
    · simp only [demonref2_CopiesFault.l1]
      rw [rd46_get hc, if_pos (by omega), if_pos (by omega), if_pos h0]
    · simp only [EU.lempel_Unslide.l1]
      rw [rd_get hc', if_pos (by omega), if_pos (by omega), if_pos (by omega)]
      simp only [r0, r1, r2, r3]
      rw [if_pos h0]
  by_cases h1 : a > (S : Int)
  · refine ⟨ev_next (fun k => ?_) (t2 a b q z), ev_next (fun k => ?_) (tu a b q z)⟩
    · simp only [demonref2_CopiesFault.l1]
      rw [rd46_get hc, if_pos (by omega), if_pos (by omega), if_neg h0, if_pos h1]
    · simp only [EU.lempel_Unslide.l1]
      rw [rd_get hc', if_pos (by omega), if_pos (by omega), if_pos (by omega)]
      simp only [r0, r1, r2, r3]
      rw [if_neg h0, if_pos h1]
  by_cases h2 : b < 0
  · refine ⟨ev_next (fun k => ?_) (t2 a b q z), ev_next (fun k => ?_) (tu a b q z)⟩
    · simp only [demonref2_CopiesFault.l1]
      rw [rd46_get hc, if_pos (by omega), if_pos (by omega), if_neg h0, if_neg h1, decide_eq_true h2]
    · simp only [EU.lempel_Unslide.l1]
      rw [rd_get hc', if_pos (by omega), if_pos (by omega), if_pos (by omega)]
      simp only [r0, r1, r2, r3]
      rw [if_neg h0, if_neg h1, if_pos h2]
  have to2 : ∀ r, Ev (fun k => demonref2_CopiesFault.j2 k l S i false a b q z) r → Ev (fun k => demonref2_CopiesFault.l1 k l S i) r := by
    intro r hr
    refine ev_next (fun k => ?_) hr
    simp only [demonref2_CopiesFault.l1]
    rw [rd46_get hc, if_pos (by omega), if_pos (by omega), if_neg h0, if_neg h1, decide_eq_false h2]
  have hx := xr a b
  by_cases h3 : a = 0 ↔ b = 0
  · have to3 : ∀ r, Ev (fun k => demonref2_CopiesFault.j3 k l S i false a b q z) r → Ev (fun k => demonref2_CopiesFault.l1 k l S i) r := by
      intro r hr
      refine to2 r (ev_next (fun k => ?_) hr)
      simp only [demonref2_CopiesFault.j2]
      rw [if_neg (by simp)]
      by_cases e : a = 0
      · have := h3.1 e
        rw [if_pos e, if_neg (by omega), if_neg (by omega)]
      · have e' : b ≠ 0 := fun e' => e (h3.2 e')
        rw [if_neg e, if_pos (by omega), beq_eq_false_iff_ne.2 e']
    have uu : ∀ r, Ev (fun k => if z = true then (if (i : Int) < wrap64 (((l.map to45).length : Int) - 1) then EU.lempel_Unslide.j2 k (l.map to45) S (l.map to45) (l.map to45).length i true a b q z else if b = 0 then EU.lempel_Unslide.j2 k (l.map to45) S (l.map to45) (l.map to45).length i true a b q z else EU.lempel_Unslide.j2 k (l.map to45) S (l.map to45) (l.map to45).length i (q != 0) a b q z) else EU.lempel_Unslide.j2 k (l.map to45) S (l.map to45) (l.map to45).length i false a b q z) r →
        Ev (fun k => EU.lempel_Unslide.l1 k (l.map to45) S (l.map to45) (l.map to45).length i) r := by
      intro r hr
      refine ev_next (fun k => ?_) hr
      simp only [EU.lempel_Unslide.l1]
      rw [rd_get hc', if_pos (by omega), if_pos (by omega), if_pos (by omega)]
      simp only [r0, r1, r2, r3]
      rw [if_neg h0, if_neg h1, if_neg h2, if_neg (by rw [hx]; simp [h3])]
    cases z with
    | false =>
      exfalso
      apply h
      exact ⟨by show (0 : Int) ≤ a; omega, by show a ≤ _; omega, by show (0 : Int) ≤ b; omega, h3, fun e => by cases e⟩
    | true =>
      have cut : ∀ r, Ev (fun k => if wrap64 ((i : Int) + 1) < (l.length : Int) then demonref2_CopiesFault.j4 k l S i true a b q true else if b = 0 then demonref2_CopiesFault.j4 k l S i true a b q true else demonref2_CopiesFault.j4 k l S i (q != 0) a b q true) r → Ev (fun k => demonref2_CopiesFault.l1 k l S i) r := by
        intro r hr
        refine to3 r (ev_next (fun k => ?_) hr)
        simp only [demonref2_CopiesFault.j3]
        rw [if_neg (by simp), if_pos trivial]
      by_cases g1 : i + 1 < l.length
      · refine ⟨cut _ (ev_same (fun k => if_pos (by rw [wsucc (by omega)]; omega)) (t4 a b q true)), uu _ (ev_same (fun k => ?_) (tu a b q true))⟩
        rw [if_pos (show true = true from rfl), hm, wpred (by omega), if_pos (by omega)]
      · by_cases g2 : b = 0
        · refine ⟨cut _ (ev_same (fun k => by rw [wsucc (by omega), if_neg (by omega), if_pos g2]) (t4 a b q true)), uu _ (ev_same (fun k => ?_) (tu a b q true))⟩
          rw [if_pos (show true = true from rfl), hm, wpred (by omega), if_neg (by omega), if_pos g2]
        · by_cases g3 : q = 0
          · exfalso
            apply h
            exact ⟨by show (0 : Int) ≤ a; omega, by show a ≤ _; omega, by show (0 : Int) ≤ b; omega, h3, fun _ => ⟨by omega, g2, g3⟩⟩
          · have g4 : (q != 0) = true := bne_iff_ne.2 g3
            refine ⟨cut _ (ev_same (fun k => by rw [wsucc (by omega), if_neg (by omega), if_neg g2, g4]) (t4 a b q true)), uu _ (ev_same (fun k => ?_) (tu a b q true))⟩
            rw [if_pos (show true = true from rfl), hm, wpred (by omega), if_neg (by omega), if_neg g2, g4]
  · refine ⟨to2 _ (ev_next (fun k => ?_) (t3 a b q z)), ev_next (fun k => ?_) (tu a b q z)⟩
    · simp only [demonref2_CopiesFault.j2]
      rw [if_neg (by simp)]
      by_cases e : a = 0
      · have e' : b ≠ 0 := fun e' => h3 ⟨fun _ => e', fun _ => e⟩
        rw [if_pos e, if_pos (by omega)]
      · have e' : b = 0 := by
          by_cases e' : b = 0
          · exact e'
          · exact absurd ⟨fun h => absurd h e, fun h => absurd h e'⟩ h3
        rw [if_neg e, if_pos (by omega), e']
        rfl
    · simp only [EU.lempel_Unslide.l1]
      rw [rd_get hc', if_pos (by omega), if_pos (by omega), if_pos (by omega)]
      simp only [r0, r1, r2, r3]
      rw [if_neg h0, if_neg h1, if_neg h2, if_pos (by rw [hx]; simp [h3])]

/-- A right copy: both go on. -/
theorem right (l : List S46) (hn : l.length ≤ 4000) (S i : Nat) (c : S46) (hc : l[i]? = some c) (h : Right l.length S i c) (hS : S ≤ 900000) (h4 : c.f1 ≤ 4000) (T : Nat) (hT : T = S + c.f1.toNat + (if c.f3 = true then 0 else 1)) :
    (∀ r, Ev (fun k => demonref2_CopiesFault.l1 k l T ((i + 1 : Nat) : Int)) r → Ev (fun k => demonref2_CopiesFault.l1 k l S i) r) ∧
    (∀ r, Ev (fun k => EU.lempel_Unslide.l1 k (l.map to45) T (l.map to45) (l.map to45).length ((i + 1 : Nat) : Int)) r → Ev (fun k => EU.lempel_Unslide.l1 k (l.map to45) S (l.map to45) (l.map to45).length i) r) := by
  have hm : (l.map to45).length = l.length := List.length_map _
  have hlt := (List.getElem?_eq_some_iff.1 hc).1
  have hc' := own_get hc
  obtain ⟨a, b, q, z⟩ := c
  obtain ⟨h0, h1, h2, h3, h5⟩ := h
  have h0' : 0 ≤ a := h0
  have h1' : a ≤ (S : Int) := h1
  have h2' : 0 ≤ b := h2
  have h4' : b ≤ 4000 := h4
  have h3' : a = 0 ↔ b = 0 := h3
  have h5' : z = true → i + 1 = l.length ∧ b ≠ 0 ∧ q = 0 := h5
  clear h0 h1 h2 h3 h4 h5
  have r0 : (to45 ⟨a, b, q, z⟩).f0 = a := rfl
  have r1 : (to45 ⟨a, b, q, z⟩).f1 = b := rfl
  have r2 : (to45 ⟨a, b, q, z⟩).f2 = q := rfl
  have r3 : (to45 ⟨a, b, q, z⟩).f3 = z := rfl
  have hT' : T = S + b.toNat + (if z = true then 0 else 1) := hT
  clear hT
  have hb : b = ((b.toNat : Nat) : Int) := by omega
  have step4 : ∀ r, Ev (fun k => demonref2_CopiesFault.l1 k l T ((i + 1 : Nat) : Int)) r → Ev (fun k => demonref2_CopiesFault.j4 k l S i false a b q z) r := by
    intro r hr
    refine ev_next (fun k => ?_) hr
    simp only [demonref2_CopiesFault.j4]
    rw [if_neg (by simp), hb, wadd (by omega) (by omega), wsucc (i := i) (by omega)]
    cases z with
    | true => rw [if_pos (show true = true from rfl), hT']; rfl
    | false => rw [if_neg (by simp), wsucc (by omega), hT']; rfl
  have stepu : ∀ r, Ev (fun k => EU.lempel_Unslide.l1 k (l.map to45) T (l.map to45) (l.map to45).length ((i + 1 : Nat) : Int)) r → Ev (fun k => EU.lempel_Unslide.j2 k (l.map to45) S (l.map to45) (l.map to45).length i false a b q z) r := by
    intro r hr
    refine ev_next (fun k => ?_) hr
    simp only [EU.lempel_Unslide.j2]
    rw [if_neg (by simp), hb, wadd (by omega) (by omega), wsucc (i := i) (by omega)]
    cases z with
    | true => rw [if_pos (show true = true from rfl), hT']; rfl
    | false => rw [if_neg (by simp), wsucc (by omega), hT']; rfl
  have hx : ((a == 0) != (b == 0)) = false := by rw [xr]; simp [h3']
  constructor
  · intro r hr
    have h6 : Ev (fun k => demonref2_CopiesFault.j3 k l S i false a b q z) r := by
      refine ev_next (fun k => ?_) (step4 r hr)
      simp only [demonref2_CopiesFault.j3]
      rw [if_neg (by simp)]
      cases z with
      | true =>
        obtain ⟨g1, g2, g3⟩ := h5' rfl
        rw [if_pos (show true = true from rfl), wsucc (by omega), if_neg (by omega), if_neg g2, g3]
        rfl
      | false => rw [if_neg (by simp)]
    have h7 : Ev (fun k => demonref2_CopiesFault.j2 k l S i false a b q z) r := by
      refine ev_next (fun k => ?_) h6
      simp only [demonref2_CopiesFault.j2]
      rw [if_neg (by simp)]
      by_cases e : a = 0
      · have := h3'.1 e
        rw [if_pos e, if_neg (by omega), if_neg (by omega)]
      · have e' : b ≠ 0 := fun e' => e (h3'.2 e')
        rw [if_neg e, if_pos (by omega), beq_eq_false_iff_ne.2 e']
    refine ev_next (fun k => ?_) h7
    simp only [demonref2_CopiesFault.l1]
    rw [rd46_get hc, if_pos (by omega), if_pos (by omega), if_neg (by show ¬ a < 0; omega), if_neg (by show ¬ a > _; omega), decide_eq_false (by show ¬ b < 0; omega)]
  · intro r hr
    refine ev_next (fun k => ?_) (stepu r hr)
    simp only [EU.lempel_Unslide.l1]
    rw [rd_get hc', if_pos (by omega), if_pos (by omega), if_pos (by omega)]
    simp only [r0, r1, r2, r3]
    rw [if_neg (by omega), if_neg (by omega), if_neg (by omega), if_neg (by rw [hx]; simp)]
    cases z with
    | true =>
      obtain ⟨g1, g2, g3⟩ := h5' rfl
      rw [if_pos (show true = true from rfl), hm, wpred (by omega), if_neg (by omega), if_neg g2, g3]
      rfl
    | false => rw [if_neg (by simp)]
end Go.Proofs.YtaonemghafoolaaDoor.Pg
