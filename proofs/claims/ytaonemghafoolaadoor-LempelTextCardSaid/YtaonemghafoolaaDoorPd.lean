/-
  The plain law of Slide: what it answers, said by plain functions; and that it is right and is read back as the text.
-/
import Derived.Test.YtaonemghafoolaaDoorPc
namespace Go.Proofs.YtaonemghafoolaaDoor.Pc
open Go.RowKit Go.Proofs.YtaonemghafoolaaDoorW.PrintWords Go.Proofs.YtaonemghafoolaaDoorW.PrintLast Go.Proofs.YtaonemghafoolaaDoorW.PrintMore
open Go.Proofs.YtaonemghafoolaaDoor.Q
open Go.Proofs.YtaonemghafoolaaDoor.Pa (bs bs_len bs_inj w64)
set_option linter.unusedVariables false

theorem ev_next {α : Type} {g h : Nat → Option α} {r : α} (hs : ∀ k, g (k + 1) = h k) (hh : Ev h r) : Ev g r := by
  obtain ⟨K, hK⟩ := hh
  refine ⟨K + 1, fun k hk => ?_⟩
  obtain ⟨k, rfl⟩ : ∃ m, k = m + 1 := ⟨k - 1, by omega⟩
  rw [hs]
  exact hK k (by omega)
theorem ev_end {α : Type} {g : Nat → Option α} {r : α} (hs : ∀ k, g (k + 1) = some r) : Ev g r := by
  refine ⟨1, fun k hk => ?_⟩
  obtain ⟨k, rfl⟩ : ∃ m, k = m + 1 := ⟨k - 1, by omega⟩
  exact hs k
theorem ev_same {α : Type} {g h : Nat → Option α} {r : α} (hs : ∀ k, g k = h k) (hh : Ev h r) : Ev g r := by
  obtain ⟨K, hK⟩ := hh
  exact ⟨K, fun k hk => by rw [hs]; exact hK k hk⟩

/-- How many bytes from 'at' on stand b ahead, too. -/
def mlenF (s : ByteArray) (a b : Nat) : Nat → Nat → Nat
  | 0, n => n
  | f + 1, n => if bt s ((a + n : Nat) : Int) = bt s ((a + n - b : Nat) : Int) then mlenF s a b f (n + 1) else n
def mlen (s : ByteArray) (a b : Nat) : Nat := mlenF s a b (s.size - a) 0
def bestF (s : ByteArray) (a : Nat) : Nat → Nat → Nat × Nat → Nat × Nat
  | 0, _, c => c
  | f + 1, b, c => bestF s a f (b + 1) (if mlen s a b > c.2 then (b, mlen s a b) else c)
def best (s : ByteArray) (a w : Nat) : Nat × Nat := bestF s a (min w a) 1 (0, 0)
def slideL (s : ByteArray) (w : Nat) : Nat → Nat → List S45
  | 0, _ => []
  | f + 1, a => if a < s.size then
      (if a + (best s a w).2 = s.size then [⟨((best s a w).1 : Nat), ((best s a w).2 : Nat), 0, true⟩]
       else ⟨((best s a w).1 : Nat), ((best s a w).2 : Nat), bt s ((a + (best s a w).2 : Nat) : Int), false⟩ :: slideL s w f (a + (best s a w).2 + 1))
    else []

theorem mlenF_le (s : ByteArray) (a b : Nat) : ∀ f n, mlenF s a b f n ≤ n + f := by
  intro f
  induction f with
  | zero => intro n; exact Nat.le_refl _
  | succ f ih =>
    intro n
    rw [mlenF]
    split
    · have := ih (n + 1); omega
    · omega
theorem mlen_le (s : ByteArray) (a b : Nat) (h : a ≤ s.size) : a + mlen s a b ≤ s.size := by
  have := mlenF_le s a b (s.size - a) 0
  unfold mlen
  omega
theorem mlenF_ge (s : ByteArray) (a b : Nat) : ∀ f n, n ≤ mlenF s a b f n := by
  intro f
  induction f with
  | zero => intro n; exact Nat.le_refl _
  | succ f ih =>
    intro n
    rw [mlenF]
    split
    · have := ih (n + 1); omega
    · omega
theorem mlenF_match (s : ByteArray) (a b : Nat) : ∀ f n j, n ≤ j → j < mlenF s a b f n → bt s ((a + j : Nat) : Int) = bt s ((a + j - b : Nat) : Int) := by
  intro f
  induction f with
  | zero =>
    intro n j h1 h2
    rw [mlenF] at h2
    omega
  | succ f ih =>
    intro n j h1 h2
    rw [mlenF] at h2
    split at h2
    · rename_i h
      by_cases e : j = n
      · rw [e]; exact h
      · exact ih (n + 1) j (by omega) h2
    · omega
theorem mlen_match (s : ByteArray) (a b j : Nat) (h : j < mlen s a b) : bt s ((a + j : Nat) : Int) = bt s ((a + j - b : Nat) : Int) := mlenF_match s a b _ 0 j (Nat.zero_le _) h

/-- A right copy at a place. -/
def Right (s : ByteArray) (a w : Nat) (c : Nat × Nat) : Prop := (c.1 = 0 ∧ c.2 = 0) ∨ (1 ≤ c.1 ∧ c.1 ≤ min w a ∧ 1 ≤ c.2 ∧ c.2 = mlen s a c.1)
theorem bestF_right (s : ByteArray) (a w : Nat) : ∀ f b c, b + f = min w a + 1 → 1 ≤ b → Right s a w c → Right s a w (bestF s a f b c) := by
  intro f
  induction f with
  | zero => intro b c _ _ h; exact h
  | succ f ih =>
    intro b c hb h1 h
    rw [bestF]
    refine ih (b + 1) _ (by omega) (by omega) ?_
    split
    · rename_i hgt
      exact .inr ⟨h1, by simp only; omega, by simp only; omega, rfl⟩
    · exact h
theorem best_right (s : ByteArray) (a w : Nat) : Right s a w (best s a w) := bestF_right s a w _ 1 _ (by omega) (by omega) (.inl ⟨rfl, rfl⟩)
theorem best_le (s : ByteArray) (a w : Nat) (h : a ≤ s.size) : a + (best s a w).2 ≤ s.size := by
  rcases best_right s a w with ⟨_, h2⟩ | ⟨_, _, _, h4⟩
  · omega
  · rw [h4]; exact mlen_le s a _ h

/-! ### the loops -/
theorem slide_l2 (s : ByteArray) (w : Nat) (hs : s.size ≤ 4000) (out : List S45) (a b : Nat) (c : Nat × Nat) (r : List S45 × Option Int) (hb1 : 1 ≤ b) (hba : b ≤ a) (ha : a < s.size)
    (hn : Ev (fun k => lempel_Slide.l1 k s w out a ((b + 1 : Nat) : Int) (((if mlen s a b > c.2 then (b, mlen s a b) else c).1 : Nat) : Int) (((if mlen s a b > c.2 then (b, mlen s a b) else c).2 : Nat) : Int) 0 false) r) :
    ∀ (f n : Nat), a + n + f = s.size → mlenF s a b f n = mlen s a b → Ev (fun k => lempel_Slide.l2 k s w out a b n (c.1 : Nat) (c.2 : Nat) 0 false) r := by
  have last : ∀ k, (if ((mlen s a b : Nat) : Int) > (c.2 : Nat) then lempel_Slide.l1 k s w out a (wrap64 ((b : Int) + 1)) b ((mlen s a b : Nat) : Int) 0 false else lempel_Slide.l1 k s w out a (wrap64 ((b : Int) + 1)) (c.1 : Nat) (c.2 : Nat) 0 false)
      = lempel_Slide.l1 k s w out a ((b + 1 : Nat) : Int) (((if mlen s a b > c.2 then (b, mlen s a b) else c).1 : Nat) : Int) (((if mlen s a b > c.2 then (b, mlen s a b) else c).2 : Nat) : Int) 0 false := by
    intro k
    rw [wsucc (by omega)]
    by_cases h : mlen s a b > c.2
    · rw [if_pos (by omega), if_pos h]
    · rw [if_neg (by omega), if_neg h]
  intro f
  induction f with
  | zero =>
    intro n hn2 hm
    have hm' : n = mlen s a b := hm
    refine ev_next (fun k => ?_) hn
    rw [← last k]
    simp only [lempel_Slide.l2]
    rw [wadd (by omega) (by omega), if_neg (by omega), hm']
  | succ f ih =>
    intro n hn2 hm
    rw [mlenF] at hm
    by_cases h : bt s ((a + n : Nat) : Int) = bt s ((a + n - b : Nat) : Int)
    · rw [if_pos h] at hm
      refine ev_next (fun k => ?_) (ih (n + 1) (by omega) hm)
      simp only [lempel_Slide.l2]
      rw [wadd (i := a) (j := n) (by omega) (by omega), if_pos (by omega), if_pos (by omega), wsub (i := a + n) (j := b) (by omega) (by omega), if_pos (by omega), if_pos (by omega), if_pos h, wsucc (by omega)]
    · rw [if_neg h] at hm
      refine ev_next (fun k => ?_) hn
      rw [← last k]
      simp only [lempel_Slide.l2]
      rw [wadd (i := a) (j := n) (by omega) (by omega), if_pos (by omega), if_pos (by omega), wsub (i := a + n) (j := b) (by omega) (by omega), if_pos (by omega), if_pos (by omega), if_neg h, hm]

theorem mn_nat (w a : Nat) : mn (w : Int) (a : Int) = ((min w a : Nat) : Int) := by
  unfold mn
  split <;> omega

theorem slide_l1 (s : ByteArray) (w : Nat) (hs : s.size ≤ 4000) (out : List S45) (a : Nat) (r : List S45 × Option Int) (ha : a < s.size) : ∀ (f b : Nat) (c : Nat × Nat), b + f = min w a + 1 → 1 ≤ b →
    Ev (fun k => lempel_Slide.l1 k s w out a ((min w a + 1 : Nat) : Int) ((bestF s a f b c).1 : Nat) ((bestF s a f b c).2 : Nat) 0 false) r → Ev (fun k => lempel_Slide.l1 k s w out a b (c.1 : Nat) (c.2 : Nat) 0 false) r := by
  intro f
  induction f with
  | zero =>
    intro b c hb _ h
    rw [show min w a + 1 = b from by omega] at h
    exact h
  | succ f ih =>
    intro b c hb h1 h
    rw [bestF] at h
    have h2 := ih (b + 1) _ (by omega) (by omega) h
    have h3 := slide_l2 s w hs out a b c r h1 (by omega) ha h2 (s.size - a) 0 (by omega) rfl
    refine ev_next (fun k => ?_) h3
    simp only [lempel_Slide.l1]
    rw [mn_nat w a, if_pos (by omega)]
    rfl

theorem slide_l0 (s : ByteArray) (w : Nat) (hs : s.size ≤ 4000) : ∀ (r a : Nat) (out : List S45), s.size - a = r → a ≤ s.size → out.length + r ≤ 4000 → ∀ F, r < F → Ev (fun k => lempel_Slide.l0 k s w out a) (out ++ slideL s w F a, none) := by
  intro r
  induction r using Nat.strongRecOn with
  | _ r ih =>
  intro a out hr ha ho F hF
  obtain ⟨F, rfl⟩ : ∃ m, F = m + 1 := ⟨F - 1, by omega⟩
  rw [slideL]
  by_cases h : a < s.size
  · rw [if_pos h]
    have hb := best_le s a w ha
    have hstep : ∀ res, Ev (fun k => lempel_Slide.l1 k s w out a ((min w a + 1 : Nat) : Int) ((best s a w).1 : Nat) ((best s a w).2 : Nat) 0 false) res → Ev (fun k => lempel_Slide.l0 k s w out a) res := by
      intro res hres
      refine ev_next (fun k => ?_) (slide_l1 s w hs out a res h (min w a) 1 (0, 0) (by omega) (by omega) hres)
      simp only [lempel_Slide.l0]
      rw [if_pos (by omega)]
      rfl
    apply hstep
    by_cases e : a + (best s a w).2 = s.size
    · rw [if_pos e]
      have hend : Ev (fun k => lempel_Slide.l0 k s w (out ++ [⟨((best s a w).1 : Nat), ((best s a w).2 : Nat), 0, true⟩]) ((s.size : Nat) : Int)) (out ++ [⟨((best s a w).1 : Nat), ((best s a w).2 : Nat), 0, true⟩], none) := by
        refine ev_end (fun k => ?_)
        simp only [lempel_Slide.l0]
        rw [if_neg (by omega)]
      refine ev_next (fun k => ?_) hend
      simp only [lempel_Slide.l1]
      rw [mn_nat w a, if_neg (by omega), wadd (by omega) (by omega), e, if_pos rfl, if_pos (by omega)]
    · rw [if_neg e]
      have hrec := ih (s.size - (a + (best s a w).2 + 1)) (by omega) (a + (best s a w).2 + 1) (out ++ [⟨((best s a w).1 : Nat), ((best s a w).2 : Nat), bt s ((a + (best s a w).2 : Nat) : Int), false⟩]) rfl (by omega) (by simp; omega) F (by omega)
      rw [List.append_assoc] at hrec
      refine ev_next (fun k => ?_) hrec
      simp only [lempel_Slide.l1]
      rw [mn_nat w a, if_neg (by omega), wadd (i := a) (by omega) (by omega), if_neg (by omega), if_pos (by omega), if_pos (by omega), if_pos (by omega), wsucc (by omega)]
  · rw [if_neg h, List.append_nil]
    refine ev_end (fun k => ?_)
    simp only [lempel_Slide.l0]
    rw [if_neg (by omega)]

theorem slide_run (s : ByteArray) (w : Nat) (hs : s.size ≤ 4000) (hw : w ≤ 4000) (h1 : 1 ≤ w) : Ev (fun k => lempel_Slide.f k s w) (slideL s w (s.size + 1) 0, none) := by
  have h := slide_l0 s w hs s.size 0 [] (by omega) (by omega) (by simpa using hs) (s.size + 1) (by omega)
  refine ev_same (h := fun k => lempel_Slide.j0 k s w (decide ((w : Int) > 4000))) (fun k => ?_) ?_
  · unfold lempel_Slide.f
    rw [if_neg (by omega), if_neg (by omega)]
  · refine ev_next (fun k => ?_) h
    simp only [lempel_Slide.j0]
    rw [if_neg (by simp; omega)]
    rfl

/-! ### read back -/
theorem copy_match (s : ByteArray) (a b : Nat) (hb : 1 ≤ b) (hba : b ≤ a) : ∀ n, a + n ≤ s.size → (∀ j, j < n → bt s ((a + j : Nat) : Int) = bt s ((a + j - b : Nat) : Int)) → copy ((bytesOf s).take a) b n = (bytesOf s).take (a + n) := by
  intro n
  induction n with
  | zero => intro _ _; rfl
  | succ n ih =>
    intro h1 h2
    have hi := ih (by omega) (fun j hj => h2 j (by omega))
    rw [copy, hi]
    have hl : ((bytesOf s).take (a + n)).length = a + n := by rw [List.length_take, bytesOf_len]; omega
    rw [hl]
    have hg : ((bytesOf s).take (a + n)).getD (a + n - b) 0 = bt s ((a + n : Nat) : Int) := by
      rw [h2 n (by omega), bt_rd s _ (by omega), List.getD_eq_getElem?_getD, List.getD_eq_getElem?_getD, List.getElem?_take, if_pos (by omega)]
    rw [hg, bt_rd s _ (by omega)]
    have hsn : (bytesOf s)[a + n]? = some ((bytesOf s).getD (a + n) 0) := by
      rw [List.getD_eq_getElem?_getD, List.getElem?_eq_getElem (by rw [bytesOf_len]; omega)]
      rfl
    rw [show a + (n + 1) = a + n + 1 from by omega, take_snoc hsn]
theorem dec_best (s : ByteArray) (a w : Nat) (ha : a ≤ s.size) : copy ((bytesOf s).take a) (best s a w).1 (best s a w).2 = (bytesOf s).take (a + (best s a w).2) := by
  rcases best_right s a w with ⟨h1, h2⟩ | ⟨h1, h2, h3, h4⟩
  · rw [h2]; rfl
  · exact copy_match s a _ h1 (by omega) _ (best_le s a w ha) (fun j hj => by rw [h4] at hj; exact mlen_match s a _ j hj)

/-- What the copies so far are to the text. -/
theorem slideL_right (s : ByteArray) (w : Nat) (hs : s.size ≤ 4000) : ∀ (r a : Nat) (pre : List S45) (F : Nat), s.size - a = r → a ≤ s.size → r < F → VU pre → (∀ c ∈ pre, c.f3 = false) → decs pre = (bytesOf s).take a →
    VU (pre ++ slideL s w F a) ∧ decs (pre ++ slideL s w F a) = bytesOf s ∧ (slideL s w F a).length ≤ r := by
  intro r
  induction r using Nat.strongRecOn with
  | _ r ih =>
  intro a pre F hr ha hF hv hl hd
  obtain ⟨F, rfl⟩ : ∃ m, F = m + 1 := ⟨F - 1, by omega⟩
  rw [slideL]
  have hdl : (decs pre).length = a := by rw [hd, List.length_take, bytesOf_len]; omega
  have hext : ∀ c : S45, 0 ≤ c.f0 → c.f0 ≤ (a : Nat) → 0 ≤ c.f1 → c.f1 ≤ 4000 → (c.f0 = 0 ↔ c.f1 = 0) → (c.f3 = true → c.f1 ≠ 0 ∧ c.f2 = 0) → VU (pre ++ [c]) := by
    intro c h0 h1 h2 h3 h4 h5 i d hi
    by_cases hlt : i < pre.length
    · rw [List.getElem?_append_left hlt] at hi
      obtain ⟨g0, g1, g2, g3, g4, g5⟩ := hv i d hi
      rw [List.take_append_of_le_length (by omega)]
      refine ⟨g0, g1, g2, g3, g4, fun e => ?_⟩
      have := hl d (List.mem_of_getElem? hi)
      rw [this] at e
      cases e
    · have hi' : i = pre.length := by
        have := (List.getElem?_eq_some_iff.1 hi).1
        simp at this
        omega
      subst hi'
      rw [List.getElem?_append_right (Nat.le_refl _)] at hi
      simp only [Nat.sub_self, List.getElem?_cons_zero, Option.some.injEq] at hi
      subst hi
      rw [List.take_append_of_le_length (Nat.le_refl _), List.take_length, hdl]
      exact ⟨h0, h1, h2, h3, h4, fun e => ⟨by simp, (h5 e).1, (h5 e).2⟩⟩
  by_cases h : a < s.size
  · rw [if_pos h]
    have hb := best_le s a w ha
    have hr2 := best_right s a w
    have g0 : ((best s a w).1 : Int) ≤ (a : Nat) := by rcases hr2 with ⟨h1, h2⟩ | ⟨h1, h2, h3, h4⟩ <;> omega
    have g4 : ((best s a w).1 : Int) = 0 ↔ ((best s a w).2 : Int) = 0 := by rcases hr2 with ⟨h1, h2⟩ | ⟨h1, h2, h3, h4⟩ <;> omega
    have hdb := dec_best s a w ha
    by_cases e : a + (best s a w).2 = s.size
    · rw [if_pos e]
      refine ⟨hext _ (by simp only; omega) g0 (by simp only; omega) (by simp only; omega) g4 (fun _ => ⟨by simp only; omega, rfl⟩), ?_, by simp; omega⟩
      rw [decs_snoc, hd, dec]
      simp only [Int.toNat_natCast, if_true, List.append_nil]
      rw [hdb, e, List.take_of_length_le (by rw [bytesOf_len]; omega)]
    · rw [if_neg e]
      have hv' := hext ⟨((best s a w).1 : Nat), ((best s a w).2 : Nat), bt s ((a + (best s a w).2 : Nat) : Int), false⟩ (by simp only; omega) g0 (by simp only; omega) (by simp only; omega) g4 (fun e => by cases e)
      have hl' : ∀ c ∈ pre ++ [(⟨((best s a w).1 : Nat), ((best s a w).2 : Nat), bt s ((a + (best s a w).2 : Nat) : Int), false⟩ : S45)], c.f3 = false := by
        intro c hc
        rcases List.mem_append.1 hc with hc | hc
        · exact hl c hc
        · rw [List.mem_singleton.1 hc]
      have hd' : decs (pre ++ [(⟨((best s a w).1 : Nat), ((best s a w).2 : Nat), bt s ((a + (best s a w).2 : Nat) : Int), false⟩ : S45)]) = (bytesOf s).take (a + (best s a w).2 + 1) := by
        rw [decs_snoc, hd, dec]
        simp only [Int.toNat_natCast]
        rw [hdb, bt_rd s _ (by omega)]
        have hsn : (bytesOf s)[a + (best s a w).2]? = some ((bytesOf s).getD (a + (best s a w).2) 0) := by
          rw [List.getD_eq_getElem?_getD, List.getElem?_eq_getElem (by rw [bytesOf_len]; omega)]
          rfl
        rw [take_snoc hsn]
        rfl
      obtain ⟨q1, q2, q3⟩ := ih (s.size - (a + (best s a w).2 + 1)) (by omega) (a + (best s a w).2 + 1) _ F rfl (by omega) (by omega) hv' hl' hd'
      rw [List.append_assoc] at q1 q2
      exact ⟨q1, q2, by simp only [List.length_cons]; omega⟩
  · rw [if_neg h, List.append_nil]
    refine ⟨hv, ?_, by simp⟩
    rw [hd, List.take_of_length_le (by rw [bytesOf_len]; omega)]

/-- Slide, then Unslide. -/
theorem slide_back (s : ByteArray) (w : Nat) (hs : s.size ≤ 4000) : VU (slideL s w (s.size + 1) 0) ∧ decs (slideL s w (s.size + 1) 0) = bytesOf s ∧ (slideL s w (s.size + 1) 0).length ≤ s.size := by
  have h := slideL_right s w hs s.size 0 [] (s.size + 1) (by omega) (by omega) (by omega) (fun i c h => by simp at h) (by simp) rfl
  simpa using h

end Go.Proofs.YtaonemghafoolaaDoor.Pc
