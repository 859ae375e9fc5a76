/-
  The plain law of LempelSlide: Slide's copies are SlideOf's.
-/
import Derived.Test.YtaonemghafoolaaDoorVSlide
import Derived.Test.YtaonemghafoolaaDoorPb
import Derived.Test.YtaonemghafoolaaDoorPd
namespace Go.Proofs.YtaonemghafoolaaDoor.Pf
open Go.RowKit Go.Proofs.YtaonemghafoolaaDoorW.PrintWords Go.Proofs.YtaonemghafoolaaDoorW.PrintLast Go.Proofs.YtaonemghafoolaaDoorW.PrintMore
open Go.Proofs.YtaonemghafoolaaDoor.Q Go.Proofs.YtaonemghafoolaaDoor.V
open Go.Proofs.YtaonemghafoolaaDoor.Pc
open Go.Proofs.YtaonemghafoolaaDoor.Pa (bs bs_len bs_inj w64 abab_run)
set_option linter.unusedVariables false

def to46 (c : S45) : PLempelSlide.S46 := ⟨c.f0, c.f1, c.f2, c.f3⟩

theorem so_l2 (s : ByteArray) (w : Nat) (hs : s.size ≤ 4000) (out : List PLempelSlide.S46) (a b : Nat) (c : Nat × Nat) (r : List PLempelSlide.S46) (hb1 : 1 ≤ b) (hba : b ≤ a) (ha : a < s.size)
    (hn : Ev (fun k => demonref2_SlideOf.l1 k s w out a ((a : Int) - ((b + 1 : Nat) : Int)) (((if mlen s a b > c.2 then (b, mlen s a b) else c).1 : Nat) : Int) (((if mlen s a b > c.2 then (b, mlen s a b) else c).2 : Nat) : Int) 0 false) r) :
    ∀ (f n : Nat), a + n + f = s.size → mlenF s a b f n = mlen s a b → Ev (fun k => demonref2_SlideOf.l2 k s w out a ((a : Int) - (b : Int)) n (c.1 : Nat) (c.2 : Nat) 0 false) r := by
  have e1 : wrap64 ((a : Int) - (b : Int) - 1) = (a : Int) - ((b + 1 : Nat) : Int) := by rw [w64 (by omega) (by omega)]; omega
  have e2 : wrap64 ((a : Int) - ((a : Int) - (b : Int))) = (b : Int) := by rw [w64 (by omega) (by omega)]; omega
  have last : ∀ k, (if ((mlen s a b : Nat) : Int) > (c.2 : Nat) then demonref2_SlideOf.l1 k s w out a (wrap64 ((a : Int) - (b : Int) - 1)) (wrap64 ((a : Int) - ((a : Int) - (b : Int)))) ((mlen s a b : Nat) : Int) 0 false else demonref2_SlideOf.l1 k s w out a (wrap64 ((a : Int) - (b : Int) - 1)) (c.1 : Nat) (c.2 : Nat) 0 false)
      = demonref2_SlideOf.l1 k s w out a ((a : Int) - ((b + 1 : Nat) : Int)) (((if mlen s a b > c.2 then (b, mlen s a b) else c).1 : Nat) : Int) (((if mlen s a b > c.2 then (b, mlen s a b) else c).2 : Nat) : Int) 0 false := by
    intro k
    rw [e1, e2]
    clear e1 e2
    by_cases h : mlen s a b > c.2
    · rw [if_pos (by omega), if_pos h]
    · rw [if_neg (by omega), if_neg h]
  clear e1 e2
  have hfw : ∀ n : Nat, a + n ≤ 4000 → wrap64 ((a : Int) - (b : Int) + (n : Int)) = ((a + n - b : Nat) : Int) := fun n hn => by rw [w64 (by omega) (by omega)]; omega
  intro f
  induction f with
  | zero =>
    intro n hn2 hm
    have hm' : n = mlen s a b := hm
    refine ev_next (fun k => ?_) hn
    rw [← last k]
    simp only [demonref2_SlideOf.l2]
    rw [wadd (by omega) (by omega), if_neg (by omega), hm']
  | succ f ih =>
    intro n hn2 hm
    have hfn := hfw n (by omega)
    rw [mlenF] at hm
    by_cases h : bt s ((a + n : Nat) : Int) = bt s ((a + n - b : Nat) : Int)
    · rw [if_pos h] at hm
      refine ev_next (fun k => ?_) (ih (n + 1) (by omega) hm)
      simp only [demonref2_SlideOf.l2]
      rw [hfn, wadd (i := a) (j := n) (by omega) (by omega)]
      clear hfn
      rw [if_pos (by omega), if_pos (by omega), if_pos (by omega), if_pos (by omega), if_pos h.symm, wsucc (by omega)]
    · rw [if_neg h] at hm
      refine ev_next (fun k => ?_) hn
      rw [← last k]
      simp only [demonref2_SlideOf.l2]
      rw [hfn, wadd (i := a) (j := n) (by omega) (by omega)]
      clear hfn
      rw [if_pos (by omega), if_pos (by omega), if_pos (by omega), if_pos (by omega), if_neg (fun e => h e.symm), hm]

theorem so_l1 (s : ByteArray) (w : Nat) (hs : s.size ≤ 4000) (hw : w ≤ 4000) (out : List PLempelSlide.S46) (a : Nat) (r : List PLempelSlide.S46) (ha : a < s.size) : ∀ (f b : Nat) (c : Nat × Nat), b + f = min w a + 1 → 1 ≤ b →
    Ev (fun k => demonref2_SlideOf.j2 k s w out a ((a : Int) - ((min w a + 1 : Nat) : Int)) false ((bestF s a f b c).1 : Nat) ((bestF s a f b c).2 : Nat) 0 false) r → Ev (fun k => demonref2_SlideOf.l1 k s w out a ((a : Int) - (b : Int)) (c.1 : Nat) (c.2 : Nat) 0 false) r := by
  have hwa : wrap64 ((a : Int) - (w : Int)) = (a : Int) - (w : Int) := w64 (by omega) (by omega)
  intro f
  induction f with
  | zero =>
    intro b c hb _ h
    rw [show min w a + 1 = b from by omega] at h
    refine ev_next (fun k => ?_) h
    simp only [demonref2_SlideOf.l1]
    rw [hwa]
    clear hwa
    by_cases h0 : (a : Int) - (b : Int) ≥ 0
    · rw [if_pos h0, show decide ((a : Int) - (b : Int) ≥ (a : Int) - (w : Int)) = false from decide_eq_false (by omega)]
      rfl
    · rw [if_neg h0]
      rfl
  | succ f ih =>
    intro b c hb h1 h
    rw [bestF] at h
    have h2 := ih (b + 1) _ (by omega) (by omega) h
    have h3 := so_l2 s w hs out a b c r h1 (by omega) ha h2 (s.size - a) 0 (by omega) rfl
    refine ev_next (h := fun k => demonref2_SlideOf.j2 k s w out a ((a : Int) - (b : Int)) true (c.1 : Nat) (c.2 : Nat) 0 false) (fun k => ?_) (ev_next (fun k => ?_) h3)
    · simp only [demonref2_SlideOf.l1]
      rw [hwa]
      clear hwa
      rw [if_pos (by omega), show decide ((a : Int) - (b : Int) ≥ (a : Int) - (w : Int)) = true from decide_eq_true (by omega)]
    · simp only [demonref2_SlideOf.j2]
      rw [if_pos trivial]
      rfl

theorem so_l0 (s : ByteArray) (w : Nat) (hs : s.size ≤ 4000) (hw : w ≤ 4000) : ∀ (r a : Nat) (out : List PLempelSlide.S46), s.size - a = r → a ≤ s.size → out.length + r ≤ 4000 → ∀ F, r < F → Ev (fun k => demonref2_SlideOf.l0 k s w out a) (out ++ (slideL s w F a).map to46) := by
  intro r
  induction r using Nat.strongRecOn with
  | _ r ih =>
  intro a out hr ha ho F hF
  obtain ⟨F, rfl⟩ : ∃ m, F = m + 1 := ⟨F - 1, by omega⟩
  rw [slideL]
  by_cases h : a < s.size
  · rw [if_pos h]
    have hb := best_le s a w ha
    have hstep : ∀ res, Ev (fun k => demonref2_SlideOf.j2 k s w out a ((a : Int) - ((min w a + 1 : Nat) : Int)) false ((best s a w).1 : Nat) ((best s a w).2 : Nat) 0 false) res → Ev (fun k => demonref2_SlideOf.l0 k s w out a) res := by
      intro res hres
      refine ev_next (fun k => ?_) (so_l1 s w hs hw out a res h (min w a) 1 (0, 0) (by omega) (by omega) hres)
      simp only [demonref2_SlideOf.l0]
      rw [if_pos (by omega), wpred (by omega)]
      rfl
    apply hstep
    by_cases e : a + (best s a w).2 = s.size
    · rw [if_pos e]
      have hend : Ev (fun k => demonref2_SlideOf.l0 k s w (out ++ [⟨((best s a w).1 : Nat), ((best s a w).2 : Nat), 0, true⟩]) ((s.size : Nat) : Int)) (out ++ [⟨((best s a w).1 : Nat), ((best s a w).2 : Nat), 0, true⟩]) := by
        refine ev_end (fun k => ?_)
        simp only [demonref2_SlideOf.l0]
        rw [if_neg (by omega)]
      refine ev_next (fun k => ?_) hend
      simp only [demonref2_SlideOf.j2]
      rw [if_neg (by simp), wadd (by omega) (by omega), e, if_pos rfl, if_pos (by omega), beq_self_eq_true]
    · rw [if_neg e]
      have hrec := ih (s.size - (a + (best s a w).2 + 1)) (by omega) (a + (best s a w).2 + 1) (out ++ [⟨((best s a w).1 : Nat), ((best s a w).2 : Nat), bt s ((a + (best s a w).2 : Nat) : Int), false⟩]) rfl (by omega) (by simp; omega) F (by omega)
      rw [List.append_assoc] at hrec
      refine ev_next (fun k => ?_) hrec
      simp only [demonref2_SlideOf.j2]
      rw [if_neg (by simp), wadd (i := a) (by omega) (by omega), if_neg (by omega), if_pos (by omega), if_pos (by omega), if_pos (by omega), wsucc (by omega), show (((a + (best s a w).2 : Nat) : Int) == (s.size : Int)) = false from beq_eq_false_iff_ne.mpr (by omega)]
  · rw [if_neg h, List.map_nil, List.append_nil]
    refine ev_end (fun k => ?_)
    simp only [demonref2_SlideOf.l0]
    rw [if_neg (by omega)]

theorem so_run (s : ByteArray) (w : Nat) (hs : s.size ≤ 4000) (hw : w ≤ 4000) : Ev (fun k => demonref2_SlideOf.f k s w) ((slideL s w (s.size + 1) 0).map to46) := by
  have h := so_l0 s w hs hw s.size 0 [] (by omega) (by omega) (by simpa using hs) (s.size + 1) (by omega)
  exact h

theorem rd45_get {l : List S45} {i : Nat} {q : S45} (h : l[i]? = some q) : rd_T45 l (i : Int) = q := by
  unfold rd_T45
  rw [Int.toNat_natCast, List.getD_eq_getElem?_getD, h]
  rfl
theorem rd46_get {l : List PLempelSlide.S46} {i : Nat} {q : PLempelSlide.S46} (h : l[i]? = some q) : PLempelSlide.rd_T46 l (i : Int) = q := by
  unfold PLempelSlide.rd_T46
  rw [Int.toNat_natCast, List.getD_eq_getElem?_getD, h]
  rfl
theorem loop (o : List S45) (hl : o.length ≤ 5000) : ∀ (d i : Nat), o.length - i = d → i ≤ o.length → Ev (fun k => demonlaw2_LempelSlide.l0 k o (o.map to46) i) true := by
  intro d
  induction d with
  | zero =>
    intro i hd hi
    refine ev_end (fun k => ?_)
    simp only [demonlaw2_LempelSlide.l0]
    rw [if_neg (by omega)]
  | succ d ih =>
    intro i hd hi
    obtain ⟨p, hp⟩ : ∃ p, o[i]? = some p := ⟨_, List.getElem?_eq_getElem (by omega)⟩
    have hq : (o.map to46)[i]? = some (to46 p) := by rw [List.getElem?_map, hp]; rfl
    refine ev_next (fun k => ?_) (ih (i + 1) (by omega) (by omega))
    simp only [demonlaw2_LempelSlide.l0]
    rw [rd45_get hp, rd46_get hq, if_pos (by omega), if_pos (by omega), if_pos (by rw [List.length_map]; omega), if_pos (show p.f0 = (to46 p).f0 from rfl), if_pos (show p.f1 = (to46 p).f1 from rfl), if_pos (show p.f2 = (to46 p).f2 from rfl), if_neg (by simp [to46]), Pc.wsucc (by omega)]
theorem abab_ev : Ev (fun k => demonlaw2_abab.f k) true := Ev.of (g := fun k => demonlaw2_abab.f k) demonlaw2_abab.mono abab_run

theorem law (s : ByteArray) (win : Int) (hs : s.size ≤ 4000) (hw : (s.size : Int) > 200 ∨ (1 ≤ win ∧ win ≤ 4000)) : ∃ k, demonlaw2_LempelSlide.f k s win = some true := by
  apply Ev.rounds (g := fun k => demonlaw2_LempelSlide.f k s win)
  unfold demonlaw2_LempelSlide.f
  refine Ev.bind abab_ev ?_
  refine ev_same (fun k => if_pos rfl) ?_
  by_cases h3 : (s.size : Int) > 200
  · refine ev_same (fun k => if_pos h3) ?_
    refine ev_end (fun k => ?_)
    simp only [demonlaw2_LempelSlide.j0]
    rw [if_pos (by simp; omega)]
  · refine ev_same (fun k => if_neg h3) ?_
    have hw' : 1 ≤ win ∧ win ≤ 4000 := by rcases hw with h | h; exact absurd h h3; exact h
    clear hw
    obtain ⟨w, rfl⟩ : ∃ w : Nat, win = w := ⟨win.toNat, by omega⟩
    obtain ⟨_, _, hlen⟩ := slide_back s w hs
    refine ev_next (h := fun k => (lempel_Slide.f k s w).bind fun bt135 => demonlaw2_LempelSlide.j1 k s w bt135.1 bt135.2 false) (fun k => ?_) ?_
    · simp only [demonlaw2_LempelSlide.j0]
      rw [if_neg (by simp)]
      congr 1
      funext bt135
      rw [if_neg (by omega), if_neg (by omega), show decide ((w : Int) > 4000) = false from decide_eq_false (by omega)]
    · refine Ev.bind (slide_run s w hs (by omega) (by omega)) ?_
      refine ev_next (h := fun k => (demonref2_SlideOf.f k s w).bind fun t139 => demonlaw2_LempelSlide.j2 k (slideL s w (s.size + 1) 0) t139 (((slideL s w (s.size + 1) 0).length : Int) != (t139.length : Int))) (fun k => ?_) ?_
      · simp only [demonlaw2_LempelSlide.j1]
        rw [if_neg (by simp)]
        rfl
      · refine Ev.bind (so_run s w hs (by omega)) ?_
        refine ev_next (fun k => ?_) (loop (slideL s w (s.size + 1) 0) (by omega) (slideL s w (s.size + 1) 0).length 0 (by omega) (by omega))
        simp only [demonlaw2_LempelSlide.j2]
        rw [if_neg (by simp)]
        rfl
end Go.Proofs.YtaonemghafoolaaDoor.Pf
