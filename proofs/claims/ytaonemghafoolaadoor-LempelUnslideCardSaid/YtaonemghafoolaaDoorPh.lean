/-
  The plain law of LempelUnslide, its second part: the loops' ends, CopiesText, and the law.
-/
import Derived.Test.YtaonemghafoolaaDoorPg
namespace Go.Proofs.YtaonemghafoolaaDoor.Pg
open Go.RowKit Go.Proofs.YtaonemghafoolaaDoorW.PrintWords Go.Proofs.YtaonemghafoolaaDoorW.PrintLast Go.Proofs.YtaonemghafoolaaDoorW.PrintMore
open Go.Proofs.YtaonemghafoolaaDoor.Q Go.Proofs.YtaonemghafoolaaDoor.V
open Go.Proofs.YtaonemghafoolaaDoor.Pc
open Go.Proofs.YtaonemghafoolaaDoor.Pa (bs bs_len bs_inj w64 abab_run)
open Go.Proofs.YtaonemghafoolaaDoor.PLempelUnslide (S46 rd_T46 demonref2_CopiesFault.l0 demonref2_CopiesFault.l1 demonref2_CopiesFault.f demonref2_CopiesText.l0 demonref2_CopiesText.l1 demonref2_CopiesText.f)
set_option linter.unusedVariables false

abbrev sum (l : List S46) (i : Nat) : Nat := (decs ((l.map to45).take i)).length
theorem sum_succ (l : List S46) (i : Nat) (c : S46) (hc : l[i]? = some c) : sum l (i + 1) = sum l i + c.f1.toNat + (if c.f3 = true then 0 else 1) := by
  unfold sum
  rw [take_snoc (own_get hc), decs_snoc, dec_len]
  rfl
theorem sum_le (l : List S46) (h4 : ∀ (j : Nat) (c : S46), l[j]? = some c → c.f1 ≤ 4000) : ∀ i, i ≤ l.length → sum l i ≤ 4001 * i := by
  intro i
  induction i with
  | zero => intro _; exact Nat.zero_le _
  | succ i ih =>
    intro hi
    obtain ⟨c, hc⟩ : ∃ c, l[i]? = some c := ⟨_, List.getElem?_eq_getElem (by omega)⟩
    have := h4 i c hc
    have := ih (by omega)
    rw [sum_succ l i c hc]
    split <;> omega

/-- What both second loops tell. -/
theorem second (l : List S46) (hn : l.length ≤ 200) (h4 : ∀ (j : Nat) (c : S46), l[j]? = some c → c.f1 ≤ 4000) : ∀ (d i : Nat), l.length - i = d → i ≤ l.length → (∀ j, j < i → ∀ c, l[j]? = some c → Right l.length (sum l j) j c) →
    ∃ c a, Ev (fun k => demonref2_CopiesFault.l1 k l (sum l i) i) (c, a) ∧
      ((c > 0 ∧ ∃ q, Ev (fun k => EU.lempel_Unslide.l1 k (l.map to45) (sum l i) (l.map to45) (l.map to45).length i) ((⟨#[]⟩ : ByteArray), some q) ∧ (q = -1 → c = 2 ∧ a = -1) ∧ (0 ≤ q → c = 3 ∧ a = q)) ∨
       (c = 0 ∧ VU (l.map to45) ∧ (decs (l.map to45)).length ≤ 4000)) := by
  have hm : (l.map to45).length = l.length := List.length_map _
  intro d
  induction d with
  | zero =>
    intro i hd hi hR
    obtain rfl : i = l.length := by omega
    have hs : sum l l.length = (decs (l.map to45)).length := by unfold sum; rw [← hm, List.take_length]
    by_cases h : ((sum l l.length : Nat) : Int) > 4000
    · refine ⟨2, -1, ev_end (fun k => ?_), .inl ⟨by omega, -1, ev_end (fun k => ?_), fun _ => ⟨rfl, rfl⟩, fun h => by omega⟩⟩
      · simp only [demonref2_CopiesFault.l1]
        rw [if_neg (by omega), if_pos h]
      · simp only [EU.lempel_Unslide.l1]
        rw [if_neg (by omega), if_pos h]
    · refine ⟨0, -1, ev_end (fun k => ?_), .inr ⟨rfl, ?_, by omega⟩⟩
      · simp only [demonref2_CopiesFault.l1]
        rw [if_neg (by omega), if_neg h]
      · intro i c hc
        rw [List.getElem?_map] at hc
        obtain ⟨q, hq, rfl⟩ := Option.map_eq_some_iff.1 hc
        have hlt := (List.getElem?_eq_some_iff.1 hq).1
        obtain ⟨g0, g1, g2, g3, g4⟩ := hR i hlt q hq
        refine ⟨g0, g1, g2, h4 i q hq, g3, fun e => ?_⟩
        obtain ⟨k1, k2, k3⟩ := g4 e
        exact ⟨by omega, k2, k3⟩
  | succ d ih =>
    intro i hd hi hR
    have hlt : i < l.length := by omega
    obtain ⟨c, hc⟩ : ∃ c, l[i]? = some c := ⟨_, List.getElem?_eq_getElem hlt⟩
    by_cases h : Right l.length (sum l i) i c
    · have hsl := sum_le l h4 i (by omega)
      obtain ⟨r1, r2⟩ := right l (by omega) (sum l i) i c hc h (by omega) (h4 i c hc) (sum l (i + 1)) (sum_succ l i c hc)
      obtain ⟨cc, a, e1, e2⟩ := ih (i + 1) (by omega) (by omega) (fun j hj q hq => by
        by_cases e : j = i
        · subst e
          rw [hc] at hq
          obtain rfl := Option.some.inj hq
          exact h
        · exact hR j (by omega) q hq)
      refine ⟨cc, a, r1 _ e1, ?_⟩
      rcases e2 with ⟨p1, q, p2, p3⟩ | p
      · exact .inl ⟨p1, q, r2 _ p2, p3⟩
      · exact .inr p
    · obtain ⟨w1, w2⟩ := wrong l (by omega) (sum l i) i c hc h
      exact ⟨3, i, w1, .inl ⟨by omega, i, w2, fun e => by omega, fun _ => ⟨rfl, rfl⟩⟩⟩

/-- What both tell of a fault. -/
theorem faults (l : List S46) (hn : l.length ≤ 200) : ∃ c a, Ev (fun k => demonref2_CopiesFault.f k l) (c, a) ∧
      ((c > 0 ∧ ∃ q, Ev (fun k => EU.lempel_Unslide.f k (l.map to45)) ((⟨#[]⟩ : ByteArray), some q) ∧ (q = -1 → c = 2 ∧ a = -1) ∧ (0 ≤ q → c = 3 ∧ a = q)) ∨
       (c = 0 ∧ VU (l.map to45) ∧ (decs (l.map to45)).length ≤ 4000)) := by
  have hm : (l.map to45).length = l.length := List.length_map _
  have t1 : ∀ r, Ev (fun k => demonref2_CopiesFault.l0 k l 0) r → Ev (fun k => demonref2_CopiesFault.f k l) r := fun r hr => ev_same (fun k => by unfold demonref2_CopiesFault.f; rw [if_neg (by omega)]) hr
  have t2 : ∀ r, Ev (fun k => EU.lempel_Unslide.l0 k (l.map to45) (l.map to45) (l.map to45).length 0) r → Ev (fun k => EU.lempel_Unslide.f k (l.map to45)) r := fun r hr => ev_same (fun k => by unfold EU.lempel_Unslide.f; rw [if_neg (by omega)]) hr
  rcases first l (by omega) l.length 0 (by omega) (by omega) with ⟨h1, h2⟩ | ⟨h1, h2, h3⟩
  · exact ⟨2, -1, t1 _ h1, .inl ⟨by omega, -1, t2 _ h2, fun _ => ⟨rfl, rfl⟩, fun h => by omega⟩⟩
  · obtain ⟨c, a, e1, e2⟩ := second l hn (fun j c hc => h1 j (Nat.zero_le _) c hc) l.length 0 (by omega) (by omega) (fun j hj => absurd hj (Nat.not_lt_zero _))
    refine ⟨c, a, t1 _ (h2 _ e1), ?_⟩
    rcases e2 with ⟨p1, q, p2, p3⟩ | p
    · exact .inl ⟨p1, q, t2 _ (h3 _ p2), p3⟩
    · exact .inr p
theorem long_faults (l : List S46) (hn : l.length > 4000) : Ev (fun k => demonref2_CopiesFault.f k l) (2, -1) ∧ Ev (fun k => EU.lempel_Unslide.f k (l.map to45)) ((⟨#[]⟩ : ByteArray), some (-1)) := by
  have hm : (l.map to45).length = l.length := List.length_map _
  refine ⟨ev_end (fun k => ?_), ev_end (fun k => ?_)⟩
  · unfold demonref2_CopiesFault.f
    rw [if_pos (by omega)]
  · unfold EU.lempel_Unslide.f
    rw [if_pos (by omega)]

/-! ### the text -/
theorem ct_copy (l : List S46) (i : Nat) (c : S46) (hc : l[i]? = some c) (b n : Nat) (h0 : c.f0 = (b : Int)) (h1 : c.f1 = (n : Int)) (acc : List Int) (hb0 : n ≠ 0 → b ≠ 0) (hb : b ≤ acc.length) (ha : acc.length + n ≤ 4000) (r : ByteArray)
    (hr : Ev (fun k => demonref2_CopiesText.l1 k l (copy acc b n) i n) r) : ∀ (d j : Nat), n - j = d → j ≤ n → Ev (fun k => demonref2_CopiesText.l1 k l (copy acc b j) i j) r := by
  have hlt := (List.getElem?_eq_some_iff.1 hc).1
  intro d
  induction d with
  | zero =>
    intro j hd hj
    obtain rfl : j = n := by omega
    exact hr
  | succ d ih =>
    intro j hd hj
    have hl := copy_len acc b j
    have hb1 := hb0 (by omega)
    have hi := List.getElem?_eq_some_iff.1 hc
    refine ev_next (fun k => ?_) (ih (j + 1) (by omega) (by omega))
    simp only [demonref2_CopiesText.l1]
    rw [rd46_get hc, h0, h1, if_pos (by omega), if_pos (by omega), if_pos (by omega), wsub (by omega) (by omega), if_pos (by omega), if_pos (by omega), if_pos (by omega)]
    obtain ⟨jj, hjj⟩ : ∃ jj : Nat, jj = j := ⟨_, rfl⟩
    rw [wsucc (i := j) (by omega)]
    rfl

theorem ct_run (l : List S46) (hn : l.length ≤ 200) (hv : VU (l.map to45)) (ht : (decs (l.map to45)).length ≤ 4000) : ∀ (d i : Nat), l.length - i = d → i ≤ l.length →
    Ev (fun k => demonref2_CopiesText.l0 k l (decs ((l.map to45).take i)) i) (strOfNums (decs (l.map to45))) := by
  have hm : (l.map to45).length = l.length := List.length_map _
  intro d
  induction d with
  | zero =>
    intro i hd hi
    obtain rfl : i = l.length := by omega
    refine ev_end (fun k => ?_)
    simp only [demonref2_CopiesText.l0]
    rw [if_neg (by omega), ← hm, List.take_length]
  | succ d ih =>
    intro i hd hi
    have hlt : i < l.length := by omega
    obtain ⟨c, hc⟩ : ∃ c, l[i]? = some c := ⟨_, List.getElem?_eq_getElem hlt⟩
    obtain ⟨h0, h1, h2, h3, h4, h5⟩ := hv i _ (own_get hc)
    have h0' : 0 ≤ c.f0 := h0
    have h1' : c.f0 ≤ ((sum l i : Nat) : Int) := h1
    have h2' : 0 ≤ c.f1 := h2
    have h3' : c.f1 ≤ 4000 := h3
    have h4' : c.f0 = 0 ↔ c.f1 = 0 := h4
    clear h0 h1 h2 h3 h4 h5
    have hmo := decs_mono (l.map to45) (i + 1) l.length (by omega)
    rw [← hm, List.take_length] at hmo
    have hss := sum_succ l i c hc
    have hmo' : sum l (i + 1) ≤ 4000 := Nat.le_trans hmo ht
    have hl : decs ((l.map to45).take (i + 1)) = dec (decs ((l.map to45).take i)) (to45 c) := by rw [take_snoc (own_get hc), decs_snoc]
    have hsi : sum l i = (decs ((l.map to45).take i)).length := rfl
    have hcl := copy_len (decs ((l.map to45).take i)) c.f0.toNat c.f1.toNat
    have hle : sum l i + c.f1.toNat ≤ 4000 := by
      split at hss <;> omega
    have hbig : (copy (decs ((l.map to45).take i)) c.f0.toNat c.f1.toNat).length < 140737488355328 := by omega
    refine ev_next (fun k => ?_) (ct_copy l i c hc c.f0.toNat c.f1.toNat (by omega) (by omega) (decs ((l.map to45).take i)) (by omega) (by omega) (by omega) _ ?_ c.f1.toNat 0 (by omega) (by omega))
    · simp only [demonref2_CopiesText.l0]
      rw [if_pos (by omega)]
      rfl
    · refine ev_next (fun k => ?_) (ih (i + 1) (by omega) (by omega))
      simp only [demonref2_CopiesText.l1]
      rw [rd46_get hc, if_pos (by omega), if_pos (by omega), if_neg (by omega)]
      by_cases hf : c.f3 = true
      · rw [if_pos hf, wsucc (by omega), hl, dec]
        rw [show (if (to45 c).f3 = true then ([] : List Int) else [(to45 c).f2]) = [] from if_pos hf, List.append_nil]
        rfl
      · rw [if_neg hf, if_pos hbig, wsucc (by omega), hl, dec]
        rw [show (if (to45 c).f3 = true then ([] : List Int) else [(to45 c).f2]) = [(to45 c).f2] from if_neg hf]
        rfl

theorem abab_ev : Ev (fun k => demonlaw2_abab.f k) true := Ev.of (g := fun k => demonlaw2_abab.f k) demonlaw2_abab.mono abab_run

/-- The law's loop: its own copies. -/
theorem own_run (l : List S46) (hn : l.length ≤ 6000) (r : Bool) (hr : Ev (fun k => demonlaw2_LempelUnslide.l0 k l (l.map to45) l.length) r) : ∀ (d i : Nat), l.length - i = d → i ≤ l.length → Ev (fun k => demonlaw2_LempelUnslide.l0 k l ((l.map to45).take i) i) r := by
  have hm : (l.map to45).length = l.length := List.length_map _
  intro d
  induction d with
  | zero =>
    intro i hd hi
    obtain rfl : i = l.length := by omega
    rw [← hm, List.take_length, hm]
    exact hr
  | succ d ih =>
    intro i hd hi
    obtain ⟨c, hc⟩ : ∃ c, l[i]? = some c := ⟨_, List.getElem?_eq_getElem (by omega)⟩
    refine ev_next (fun k => ?_) (ih (i + 1) (by omega) (by omega))
    simp only [demonlaw2_LempelUnslide.l0]
    rw [rd46_get hc, if_pos (by omega), if_pos (by omega), if_pos (by rw [List.length_take]; omega), wsucc (by omega), take_snoc (own_get hc)]
    rfl

theorem law (l : List S46) : ∃ k, demonlaw2_LempelUnslide.f k l = some true := by
  apply Ev.rounds (g := fun k => demonlaw2_LempelUnslide.f k l)
  unfold demonlaw2_LempelUnslide.f
  refine Ev.bind abab_ev ?_
  refine ev_same (fun k => if_pos rfl) ?_
  have skip : Ev (fun k => demonlaw2_LempelUnslide.j0 k l true true) true := ev_end (fun k => by simp only [demonlaw2_LempelUnslide.j0]; rw [if_pos trivial])
  have go : ∀ (hl : l.length ≤ 6000), Ev (fun k => demonlaw2_LempelUnslide.l0 k l (l.map to45) l.length) true → Ev (fun k => demonlaw2_LempelUnslide.j0 k l true (decide ((l.length : Int) > 6000))) true := by
    intro hl hr
    refine ev_next (fun k => ?_) (own_run l hl true hr l.length 0 (by omega) (by omega))
    simp only [demonlaw2_LempelUnslide.j0]
    rw [if_neg (by simp; omega)]
    rfl
  by_cases h2 : (l.length : Int) > 200
  · refine ev_same (fun k => if_pos h2) ?_
    by_cases h3 : (l.length : Int) ≤ 4000
    · exact ev_same (fun k => if_pos h3) skip
    · refine ev_same (fun k => if_neg h3) ?_
      by_cases h4 : (l.length : Int) > 6000
      · rw [decide_eq_true h4]
        exact skip
      · refine go (by omega) ?_
        obtain ⟨e1, e2⟩ := long_faults l (by omega)
        refine ev_next (h := fun k => (demonref2_CopiesFault.f k l).bind fun bt157 => ((EU.lempel_Unslide.f k (l.map to45)).bind fun bt160 => (if bt157.1 > 0 then (Err.okE bt160.1 bt160.2 bt157.1 bt157.2) else (if bt160.2.isNone = true then ((demonref2_CopiesText.f k l).bind fun t163 => (some (bt160.1.toList == t163.toList))) else (none))))) (fun k => ?_) ?_
        · simp only [demonlaw2_LempelUnslide.l0]
          rw [if_neg (by omega)]
        · refine Ev.bind e1 (Ev.bind e2 (ev_same (h := fun _ => some true) (fun k => ?_) (Ev.now _)))
          rfl
  · refine ev_same (fun k => if_neg h2) (go (by omega) ?_)
    obtain ⟨c, a, e1, e2⟩ := faults l (by omega)
    refine ev_next (h := fun k => (demonref2_CopiesFault.f k l).bind fun bt157 => ((EU.lempel_Unslide.f k (l.map to45)).bind fun bt160 => (if bt157.1 > 0 then (Err.okE bt160.1 bt160.2 bt157.1 bt157.2) else (if bt160.2.isNone = true then ((demonref2_CopiesText.f k l).bind fun t163 => (some (bt160.1.toList == t163.toList))) else (none))))) (fun k => ?_) ?_
    · simp only [demonlaw2_LempelUnslide.l0]
      rw [if_neg (by omega)]
    · refine Ev.bind e1 ?_
      rcases e2 with ⟨p1, q, p2, p3, p4⟩ | ⟨rfl, hv, ht⟩
      · refine Ev.bind p2 (ev_same (h := fun _ => some true) (fun k => ?_) (Ev.now _))
        simp only [Err.okE]
        rw [if_pos p1, if_pos ⟨rfl, p3, p4⟩]
      · have hu := unslide_run (l.map to45) hv (by rw [List.length_map]; omega) ht (5 * (l.map to45).length + 4003) (by omega)
        have hu' := eu_f (5 * (l.map to45).length + 4003) (l.map to45) _ hu
        refine Ev.bind (Ev.of (g := fun k => EU.lempel_Unslide.f k (l.map to45)) (EU.lempel_Unslide.mono _) hu') ?_
        refine ev_same (fun k => if_neg (by omega)) ?_
        refine ev_same (fun k => if_pos rfl) ?_
        have hc : Ev (fun k => demonref2_CopiesText.f k l) (strOfNums (decs (l.map to45))) := ct_run l (by omega) hv ht l.length 0 (by omega) (by omega)
        refine Ev.bind hc ?_
        refine ev_same (h := fun _ => some true) (fun k => ?_) (Ev.now _)
        simp
end Go.Proofs.YtaonemghafoolaaDoor.Pg
