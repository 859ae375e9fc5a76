/-
  LempelBack's pure statement: over numbers and lists alone, the law's printed function answers true.
-/
import Derived.Test.YtaonemghafoolaaDoorQ6
import Derived.Test.YtaonemghafoolaaDoorPb
import Derived.Test.YtaonemghafoolaaDoorPd
namespace Go.Proofs.YtaonemghafoolaaDoor.Pure
open Go.RowKit Go.Proofs.YtaonemghafoolaaDoor.Q Go.Proofs.YtaonemghafoolaaDoorW.PrintWords Go.Proofs.YtaonemghafoolaaDoorW.PrintLast
open Go.Proofs.YtaonemghafoolaaDoor.Pa Go.Proofs.YtaonemghafoolaaDoor.Pc
set_option linter.unusedVariables false

theorem abab_ev : Ev (fun k => demonlaw2_abab.f k) true := Ev.of (g := fun k => demonlaw2_abab.f k) demonlaw2_abab.mono abab_run
theorem parse_ev (s : ByteArray) (hs : s.size ≤ 4000) : ∃ out, Ev (fun k => lempel_Parse.f k s) (out, none) ∧ Final (bs s) out := by
  obtain ⟨out, h, hF⟩ := parse_run s (2 * s.size + 2) hs (by omega)
  exact ⟨out, Ev.of (g := fun k => lempel_Parse.f k s) (lempel_Parse.mono s) h, hF⟩
theorem text_ev (s : ByteArray) (hs : s.size ≤ 4000) (out : List S31) (hF : Final (bs s) out) : Ev (fun k => lempel_Text.f k out) (s, none) := by
  obtain ⟨hv, hfl⟩ := hF.valid
  have hc := hF.count
  rw [bs_len] at hc
  obtain ⟨t, h, ht⟩ := text_run out hv (by omega) (by rw [tot_flatten, hfl, bs_len]; omega) (3 * out.length + 3) (by omega)
  rw [hfl] at ht
  obtain rfl := bs_inj ht
  exact Ev.of (g := fun k => lempel_Text.f k out) (lempel_Text.mono out) h

/-- No two phrases are the same. -/
theorem apart {s : List UInt8} {out : List S31} (h : Final s out) (i j : Nat) (p q : S31) (hi : out[i]? = some p) (hj : out[j]? = some q) (hlt : j < i) : ¬ (p.f0 = q.f0 ∧ p.f1 = q.f1 ∧ p.f2 = q.f2) := by
  have good : ∀ (kn : List (List UInt8)) (o : List S31), Pa.Good kn o → o[i]? = some p → o[j]? = some q → ¬ (p.f0 = q.f0 ∧ p.f1 = q.f1 ∧ p.f2 = q.f2) := by
    rintro kn o hG hi hj ⟨e0, e1, _⟩
    obtain ⟨_, _, _, _, _, t, h1, h2⟩ := hG.step i p hi
    obtain ⟨_, _, _, _, _, t', h1', h2'⟩ := hG.step j q hj
    rw [e0, h1'] at h1
    obtain rfl := Option.some.inj h1
    rw [e1, ← h2'] at h2
    have hil : i + 1 < kn.length := by have := (List.getElem?_eq_some_iff.1 hi).1; have := hG.len; omega
    have := (List.getElem?_inj hil hG.nodup).1 h2
    omega
  obtain ⟨kn, o, hG, h | ⟨t, ht, hne, rfl, hs⟩⟩ := h
  · obtain ⟨rfl, _⟩ := h
    exact good kn out hG hi hj
  · have hl : i < o.length + 1 := by have := (List.getElem?_eq_some_iff.1 hi).1; simpa using this
    rw [List.getElem?_append_left (by omega)] at hj
    by_cases h' : i < o.length
    · rw [List.getElem?_append_left h'] at hi
      exact good kn o hG hi hj
    · have hi' : i = o.length := by omega
      subst hi'
      rw [List.getElem?_append_right (Nat.le_refl _)] at hi
      simp only [Nat.sub_self, List.getElem?_cons_zero, Option.some.injEq] at hi
      subst hi
      rintro ⟨_, _, e⟩
      obtain ⟨_, _, c⟩ := hG.valid j q hj
      rw [c] at e
      cases e

theorem slides (s : ByteArray) (hs : s.size ≤ 4000) (win : Int) : Ev (fun k => if 1 ≤ win ∧ win ≤ 4000 then ((lempel_Slide.f k s win).bind fun bt175 => (if bt175.2.isNone = true then ((lempel_Unslide.f k bt175.1).bind fun bt180 => (if bt180.2.isNone = true then (some (bt180.1.toList == s.toList)) else (some false))) else (if win < 1 then (some true) else (some (decide (win > 4000)))))) else (some true)) true := by
  by_cases hw : 1 ≤ win ∧ win ≤ 4000
  · obtain ⟨w, rfl⟩ : ∃ w : Nat, win = w := ⟨win.toNat, by omega⟩
    refine ev_same (fun k => if_pos hw) ?_
    refine Ev.bind (slide_run s w hs (by omega) (by omega)) ?_
    obtain ⟨h1, h2, h3⟩ := slide_back s w hs
    refine ev_same (fun k => if_pos rfl) ?_
    have hu := unslide_run _ h1 (by omega) (by rw [h2, bytesOf_len]; omega) (5 * (slideL s w (s.size + 1) 0).length + 4003) (by omega)
    rw [h2, str_bytes] at hu
    refine Ev.bind (Ev.of (g := fun k => lempel_Unslide.f k (slideL s w (s.size + 1) 0)) (lempel_Unslide.mono _) hu) ?_
    refine ev_same (h := fun _ => some true) (fun k => ?_) (Ev.now _)
    simp
  · exact ev_same (fun k => if_neg hw) (Ev.now _)

theorem loops (s : ByteArray) (hs : s.size ≤ 4000) (win : Int) (out : List S31) (hF : Final (bs s) out) : ∀ (d i : Nat), out.length - i = d → i ≤ out.length → Ev (fun k => demonlaw2_LempelBack.l0 k s win out i) true := by
  have hc := hF.count
  rw [bs_len] at hc
  intro d
  induction d with
  | zero =>
    intro i hd hi
    refine ev_next (fun k => ?_) (slides s hs win)
    simp only [demonlaw2_LempelBack.l0]
    rw [if_neg (by omega)]
  | succ d ih =>
    intro i hd hi
    have hnext := ih (i + 1) (by omega) (by omega)
    have inner : ∀ (e j : Nat), i - j = e → j ≤ i → Ev (fun k => demonlaw2_LempelBack.l1 k s win out i j) true := by
      intro e
      induction e with
      | zero =>
        intro j he hj
        refine ev_next (fun k => ?_) hnext
        simp only [demonlaw2_LempelBack.l1]
        rw [if_neg (by omega), Pc.wsucc (by omega)]
      | succ e ih2 =>
        intro j he hj
        refine ev_next (fun k => ?_) (ih2 (j + 1) (by omega) (by omega))
        obtain ⟨p, hp⟩ : ∃ p, out[i]? = some p := ⟨_, List.getElem?_eq_getElem (by omega)⟩
        obtain ⟨q, hq⟩ : ∃ q, out[j]? = some q := ⟨_, List.getElem?_eq_getElem (by omega)⟩
        have hap := apart hF i j p q hp hq (by omega)
        simp only [demonlaw2_LempelBack.l1]
        rw [Pa.rd_get hp, Pa.rd_get hq, if_pos (by omega), if_pos (by omega), if_pos (by omega), if_pos (by omega), if_pos (by omega), if_neg (by simpa using hap), Pc.wsucc (by omega)]
    refine ev_next (fun k => ?_) (inner i 0 (by omega) (by omega))
    simp only [demonlaw2_LempelBack.l0]
    rw [if_pos (by omega)]
    rfl

theorem LempelBack : demonlaw2_LempelBack.Pure := by
  intro s win _ _
  apply Ev.rounds (g := fun k => demonlaw2_LempelBack.f k s win)
  unfold demonlaw2_LempelBack.f
  refine Ev.bind abab_ev ?_
  refine ev_same (fun k => if_pos rfl) ?_
  by_cases hs : s.size ≤ 600
  · obtain ⟨out, hp, hF⟩ := parse_ev s (by omega)
    have hl := loops s (by omega) win out hF out.length 0 (by omega) (by omega)
    have h1 : Ev (fun k => demonlaw2_LempelBack.j1 k s win out (s.toList != s.toList)) true := by
      refine ev_next (fun k => ?_) hl
      simp only [demonlaw2_LempelBack.j1]
      rw [if_neg (by simp)]
      rfl
    refine ev_next (h := fun k => (lempel_Parse.f k s).bind fun bt165 => (if bt165.2.isNone = true then ((lempel_Text.f k bt165.1).bind fun bt170 => (if bt170.2.isNone = true then (demonlaw2_LempelBack.j1 k s win bt165.1 (bt170.1.toList != s.toList)) else (demonlaw2_LempelBack.j1 k s win bt165.1 true))) else (some false))) (fun k => ?_) ?_
    · simp only [demonlaw2_LempelBack.j0]
      rw [if_neg (by simp; omega)]
    · refine Ev.bind hp ?_
      refine ev_same (fun k => if_pos rfl) ?_
      refine Ev.bind (text_ev s (by omega) out hF) ?_
      exact ev_same (fun k => if_pos rfl) h1
  · refine ev_end (fun k => ?_)
    simp only [demonlaw2_LempelBack.j0]
    rw [if_pos (by simp; omega)]

end Go.Proofs.YtaonemghafoolaaDoor.Pure
