/-
  The plain laws of Slide and Unslide: what Slide hands back is right and is read back by Unslide as the text.
-/
import Derived.Test.YtaonemghafoolaaDoorPa
import Derived.Test.YtaonemghafoolaaDoorQ4
import Derived.Test.YtaonemghafoolaaDoorQ5
namespace Go.Proofs.YtaonemghafoolaaDoor.Pc
open Go.RowKit Go.Proofs.YtaonemghafoolaaDoorW.PrintWords Go.Proofs.YtaonemghafoolaaDoorW.PrintLast Go.Proofs.YtaonemghafoolaaDoorW.PrintMore
open Go.Proofs.YtaonemghafoolaaDoor.Q
open Go.Proofs.YtaonemghafoolaaDoor.Pa (bs bs_len bs_inj w64)
set_option linter.unusedVariables false

theorem take_snoc {α : Type} {l : List α} {i : Nat} {p : α} (h : l[i]? = some p) : l.take (i + 1) = l.take i ++ [p] := by rw [List.take_add_one, h]; rfl
theorem wsucc {i : Nat} (h : i ≤ 1000000) : wrap64 ((i : Int) + 1) = ((i + 1 : Nat) : Int) := by rw [w64 (by omega) (by omega)]; omega
theorem wpred {i : Nat} (h : i ≤ 1000000) : wrap64 ((i : Int) - 1) = (i : Int) - 1 := w64 (by omega) (by omega)
theorem wadd {i j : Nat} (h : i ≤ 1000000) (h' : j ≤ 1000000) : wrap64 ((i : Int) + (j : Int)) = ((i + j : Nat) : Int) := by rw [w64 (by omega) (by omega)]; omega
theorem wsub {i j : Nat} (h : i ≤ 1000000) (h' : j ≤ i) : wrap64 ((i : Int) - (j : Int)) = ((i - j : Nat) : Int) := by rw [w64 (by omega) (by omega)]; omega
theorem bytesOf_len (s : ByteArray) : (bytesOf s).length = s.size := by rw [bytesOf, List.length_map, Array.length_toList]; rfl
theorem bt_rd (s : ByteArray) (i : Nat) (h : i < s.size) : bt s (i : Int) = (bytesOf s).getD i 0 := by
  unfold bt
  rw [dif_pos (by simpa using h)]
  rw [List.getD_eq_getElem?_getD, bytesOf, List.getElem?_map, List.getElem?_eq_getElem (by rw [Array.length_toList]; exact h)]
  simp only [Int.toNat_natCast, Option.map_some, Option.getD_some]
  rfl
theorem str_bytes (s : ByteArray) : strOfNums (bytesOf s) = s := by
  apply bs_inj
  have e : ((fun n : Int => UInt8.ofNat n.toNat) ∘ fun b : UInt8 => (b.toNat : Int)) = id := by funext b; simp
  simp [bs, strOfNums, bytesOf, e]

/-! ### copies -/
def copy (acc : List Int) (b : Nat) : Nat → List Int
  | 0 => acc
  | n + 1 => copy acc b n ++ [(copy acc b n).getD ((copy acc b n).length - b) 0]
theorem copy_len (acc : List Int) (b n : Nat) : (copy acc b n).length = acc.length + n := by
  induction n with
  | zero => rfl
  | succ n ih => rw [copy, List.length_append, ih]; rfl
def dec (acc : List Int) (c : S45) : List Int := copy acc c.f0.toNat c.f1.toNat ++ (if c.f3 = true then [] else [c.f2])
def decs (l : List S45) : List Int := l.foldl dec []
theorem decs_snoc (l : List S45) (c : S45) : decs (l ++ [c]) = dec (decs l) c := by simp [decs, List.foldl_append]
theorem dec_len (acc : List Int) (c : S45) : (dec acc c).length = acc.length + c.f1.toNat + (if c.f3 = true then 0 else 1) := by
  unfold dec
  rw [List.length_append, copy_len]
  split <;> simp
theorem decs_mono (l : List S45) : ∀ i j, i ≤ j → (decs (l.take i)).length ≤ (decs (l.take j)).length := by
  intro i j h
  induction j with
  | zero => rw [show i = 0 from by omega]; exact Nat.le_refl _
  | succ j ih =>
    by_cases e : i = j + 1
    · rw [e]; exact Nat.le_refl _
    · refine Nat.le_trans (ih (by omega)) ?_
      by_cases hj : j < l.length
      · rw [take_snoc (List.getElem?_eq_getElem hj), decs_snoc, dec_len]
        omega
      · rw [List.take_of_length_le (by omega), List.take_of_length_le (by omega)]
        exact Nat.le_refl _
/-- Right copies. -/
def VU (l : List S45) : Prop := ∀ (i : Nat) (c : S45), l[i]? = some c → 0 ≤ c.f0 ∧ c.f0 ≤ ((decs (l.take i)).length : Nat) ∧ 0 ≤ c.f1 ∧ c.f1 ≤ 4000 ∧ (c.f0 = 0 ↔ c.f1 = 0) ∧ (c.f3 = true → i + 1 = l.length ∧ c.f1 ≠ 0 ∧ c.f2 = 0)
theorem rd_get {l : List S45} {i : Nat} {p : S45} (h : l[i]? = some p) : rd_T45 l (i : Int) = p := by
  unfold rd_T45
  rw [Int.toNat_natCast, List.getD_eq_getElem?_getD, h]
  rfl

theorem un_first (l : List S45) (hv : VU l) (hn : l.length ≤ 4000) : ∀ (d i k : Nat), l.length - i = d → i ≤ l.length → d < k →
    ∃ k', k = k' + (d + 1) ∧ lempel_Unslide.l0 k l l l.length i = lempel_Unslide.l1 k' l 0 l l.length 0 := by
  intro d
  induction d with
  | zero =>
    intro i k hd hi hk
    obtain ⟨k, rfl⟩ : ∃ m, k = m + 1 := ⟨k - 1, by omega⟩
    obtain rfl : i = l.length := by omega
    refine ⟨k, rfl, ?_⟩
    simp only [lempel_Unslide.l0]
    rw [if_neg (by omega)]
  | succ d ih =>
    intro i k hd hi hk
    obtain ⟨k, rfl⟩ : ∃ m, k = m + 1 := ⟨k - 1, by omega⟩
    have hlt : i < l.length := by omega
    obtain ⟨c, hc⟩ : ∃ c, l[i]? = some c := ⟨_, List.getElem?_eq_getElem hlt⟩
    obtain ⟨_, _, _, h4, _, _⟩ := hv i c hc
    obtain ⟨k', hk', hrun⟩ := ih (i + 1) k (by omega) (by omega) (by omega)
    refine ⟨k', by omega, ?_⟩
    simp only [lempel_Unslide.l0]
    rw [rd_get hc, if_pos (by omega), if_pos (by omega), if_pos (by omega), if_neg (by omega), wsucc (by omega)]
    exact hrun

theorem un_second (l : List S45) (hv : VU l) (hn : l.length ≤ 4000) (ht : (decs l).length ≤ 4000) : ∀ (d i k : Nat), l.length - i = d → i ≤ l.length → 2 * d < k →
    ∃ k', k = k' + (2 * d + 1) ∧ lempel_Unslide.l1 k l ((decs (l.take i)).length : Nat) l l.length i = lempel_Unslide.l2 k' [] l l.length 0 := by
  intro d
  induction d with
  | zero =>
    intro i k hd hi hk
    obtain ⟨k, rfl⟩ : ∃ m, k = m + 1 := ⟨k - 1, by omega⟩
    obtain rfl : i = l.length := by omega
    refine ⟨k, rfl, ?_⟩
    simp only [lempel_Unslide.l1]
    rw [if_neg (by omega), List.take_length, if_neg (by omega)]
  | succ d ih =>
    intro i k hd hi hk
    obtain ⟨k, rfl⟩ : ∃ m, k = m + 1 := ⟨k - 1, by omega⟩
    obtain ⟨k, rfl⟩ : ∃ m, k = m + 1 := ⟨k - 1, by omega⟩
    have hlt : i < l.length := by omega
    obtain ⟨c, hc⟩ : ∃ c, l[i]? = some c := ⟨_, List.getElem?_eq_getElem hlt⟩
    obtain ⟨h0, h1, h2, h3, h4, h5⟩ := hv i c hc
    have hm := decs_mono l (i + 1) l.length (by omega)
    rw [List.take_length] at hm
    have hl : decs (l.take (i + 1)) = dec (decs (l.take i)) c := by rw [take_snoc hc, decs_snoc]
    have hdl := dec_len (decs (l.take i)) c
    rw [← hl] at hdl
    obtain ⟨k', hk', hrun⟩ := ih (i + 1) k (by omega) (by omega) (by omega)
    refine ⟨k', by omega, ?_⟩
    rw [← hrun]
    have he : ((c.f0 == 0) != (c.f1 == 0)) = false := by
      by_cases e : c.f0 = 0
      · rw [h4.1 e, e]; rfl
      · have e0 : (c.f0 == 0) = false := beq_eq_false_iff_ne.2 e
        have e1 : (c.f1 == 0) = false := beq_eq_false_iff_ne.2 (fun h => e (h4.2 h))
        rw [e0, e1]; rfl
    have f1 : c.f1 = ((c.f1.toNat : Nat) : Int) := by omega
    have step : lempel_Unslide.j2 (k + 1) l ((decs (l.take i)).length : Nat) l l.length i false c.f0 c.f1 c.f2 c.f3 = lempel_Unslide.l1 k l ((decs (l.take (i + 1))).length : Nat) l l.length ((i + 1 : Nat) : Int) := by
      simp only [lempel_Unslide.j2]
      rw [if_neg (by simp)]
      by_cases hf : c.f3 = true
      · rw [if_pos hf] at hdl
        rw [if_pos hf, f1, wadd (by omega) (by omega), wsucc (by omega), hdl]
        rfl
      · rw [if_neg hf] at hdl
        rw [if_neg hf, f1, wadd (by omega) (by omega), wsucc (by omega), wsucc (by omega), hdl]
    rw [← step]
    simp only [lempel_Unslide.l1]
    rw [rd_get hc, if_pos (by omega), if_pos (by omega), if_pos (by omega), if_neg (by omega), if_neg (by omega), if_neg (by omega), if_neg (by simp [he])]
    by_cases hf : c.f3 = true
    · obtain ⟨e1, e2, e3⟩ := h5 hf
      rw [if_pos hf, wpred (by omega), if_neg (by omega), if_neg e2, e3]
      rfl
    · rw [if_neg hf]

theorem un_copy (l : List S45) (i : Nat) (b n : Nat) (q : Int) (z : Bool) (acc : List Int) (hb0 : n ≠ 0 → b ≠ 0) (hb : b ≤ acc.length) (ha : acc.length + n ≤ 4000) : ∀ (d j k : Nat), n - j = d → j ≤ n → d < k →
    ∃ k', k = k' + d ∧ lempel_Unslide.l3 k (copy acc b j) l l.length i n j b n q z = lempel_Unslide.l3 k' (copy acc b n) l l.length i n n b n q z := by
  intro d
  induction d with
  | zero =>
    intro j k hd hj hk
    obtain rfl : j = n := by omega
    exact ⟨k, rfl, rfl⟩
  | succ d ih =>
    intro j k hd hj hk
    obtain ⟨k, rfl⟩ : ∃ m, k = m + 1 := ⟨k - 1, by omega⟩
    obtain ⟨k', hk', hrun⟩ := ih (j + 1) k (by omega) (by omega) (by omega)
    refine ⟨k', by omega, ?_⟩
    have hl := copy_len acc b j
    have hb1 := hb0 (by omega)
    rw [← hrun]
    simp only [lempel_Unslide.l3]
    rw [if_pos (by omega), wsub (by omega) (by omega), if_pos (by omega), if_pos (by omega), if_pos (by omega), wsucc (by omega)]
    rfl

theorem un_third (l : List S45) (hv : VU l) (hn : l.length ≤ 4000) (ht : (decs l).length ≤ 4000) : ∀ (d i k : Nat), l.length - i = d → i ≤ l.length → 2 * d + ((decs l).length - (decs (l.take i)).length) < k →
    lempel_Unslide.l2 k (decs (l.take i)) l l.length i = some (strOfNums (decs l), none) := by
  intro d
  induction d with
  | zero =>
    intro i k hd hi hk
    obtain ⟨k, rfl⟩ : ∃ m, k = m + 1 := ⟨k - 1, by omega⟩
    obtain rfl : i = l.length := by omega
    simp only [lempel_Unslide.l2]
    rw [if_neg (by omega), List.take_length]
  | succ d ih =>
    intro i k hd hi hk
    obtain ⟨k, rfl⟩ : ∃ m, k = m + 1 := ⟨k - 1, by omega⟩
    have hlt : i < l.length := by omega
    obtain ⟨c, hc⟩ : ∃ c, l[i]? = some c := ⟨_, List.getElem?_eq_getElem hlt⟩
    obtain ⟨h0, h1, h2, h3, h4, h5⟩ := hv i c hc
    have hm := decs_mono l (i + 1) l.length (by omega)
    rw [List.take_length] at hm
    have hl : decs (l.take (i + 1)) = dec (decs (l.take i)) c := by rw [take_snoc hc, decs_snoc]
    have hdl := dec_len (decs (l.take i)) c
    rw [← hl] at hdl
    have f0 : c.f0 = ((c.f0.toNat : Nat) : Int) := by omega
    have f1 : c.f1 = ((c.f1.toNat : Nat) : Int) := by omega
    have hfl : c.f1.toNat ≤ (decs (l.take (i + 1))).length - (decs (l.take i)).length := by omega
    obtain ⟨k', hk', hrun⟩ := un_copy l i c.f0.toNat c.f1.toNat c.f2 c.f3 (decs (l.take i)) (by omega) (by omega) (by omega) c.f1.toNat 0 k (by omega) (by omega) (by omega)
    have hrun' : lempel_Unslide.l3 k (decs (l.take i)) l l.length i ((c.f1.toNat : Nat) : Int) 0 ((c.f0.toNat : Nat) : Int) ((c.f1.toNat : Nat) : Int) c.f2 c.f3 = _ := hrun
    simp only [lempel_Unslide.l2]
    rw [rd_get hc, if_pos (by omega), if_pos (by omega), if_pos (by omega)]
    rw [f0, f1, hrun']
    obtain ⟨k', rfl⟩ : ∃ m, k' = m + 1 := ⟨k' - 1, by omega⟩
    have hcl := copy_len (decs (l.take i)) c.f0.toNat c.f1.toNat
    simp only [lempel_Unslide.l3]
    rw [if_neg (by omega)]
    by_cases hf : c.f3 = true
    · rw [if_pos hf] at hdl
      rw [if_pos hf, wsucc (by omega)]
      have e : copy (decs (l.take i)) c.f0.toNat c.f1.toNat = decs (l.take (i + 1)) := by rw [hl, dec, if_pos hf, List.append_nil]
      rw [e]
      exact ih (i + 1) k' (by omega) (by omega) (by omega)
    · rw [if_neg hf] at hdl
      rw [if_neg hf, if_pos (by omega), wsucc (by omega)]
      have e : copy (decs (l.take i)) c.f0.toNat c.f1.toNat ++ [c.f2] = decs (l.take (i + 1)) := by rw [hl, dec, if_neg hf]
      rw [e]
      exact ih (i + 1) k' (by omega) (by omega) (by omega)

/-- Unslide of right copies. -/
theorem unslide_run (l : List S45) (hv : VU l) (hn : l.length ≤ 4000) (ht : (decs l).length ≤ 4000) (k : Nat) (hk : 5 * l.length + 4000 + 2 < k) : lempel_Unslide.f k l = some (strOfNums (decs l), none) := by
  unfold lempel_Unslide.f
  rw [if_neg (by omega)]
  obtain ⟨k1, h1, r1⟩ := un_first l hv hn l.length 0 k (by omega) (by omega) (by omega)
  have r1' : lempel_Unslide.l0 k l l l.length 0 = _ := r1
  rw [r1']
  obtain ⟨k2, h2, r2⟩ := un_second l hv hn ht l.length 0 k1 (by omega) (by omega) (by omega)
  have r2' : lempel_Unslide.l1 k1 l 0 l l.length 0 = _ := r2
  rw [r2']
  exact un_third l hv hn ht l.length 0 k2 (by omega) (by omega) (by omega)

end Go.Proofs.YtaonemghafoolaaDoor.Pc
