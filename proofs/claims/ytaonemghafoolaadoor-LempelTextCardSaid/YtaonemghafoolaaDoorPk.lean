/-
  The plain law of LempelText, its second part: the loops' ends, PhrasesText, and the law.
-/
import Derived.Test.YtaonemghafoolaaDoorPj
namespace Go.Proofs.YtaonemghafoolaaDoor.Pi
open Go.RowKit Go.Proofs.YtaonemghafoolaaDoorW.PrintWords Go.Proofs.YtaonemghafoolaaDoorW.PrintLast Go.Proofs.YtaonemghafoolaaDoorW.PrintMore
open Go.Proofs.YtaonemghafoolaaDoor.Q Go.Proofs.YtaonemghafoolaaDoor.V
open Go.Proofs.YtaonemghafoolaaDoor.Pc (ev_next ev_end ev_same wsucc wpred)
open Go.Proofs.YtaonemghafoolaaDoor.Pa (bs bs_len bs_inj bs_toList w64 abab_run txts txts_snoc txts_len nxt tail1 tot tot_snoc tot_flatten lens rd_lens txts_small Valid rd_get text_run take_snoc)
open Go.Proofs.YtaonemghafoolaaDoor.PLempelText (S40 rd_T40 demonref2_PhrasesFault.l0 demonref2_PhrasesFault.j1 demonref2_PhrasesFault.j2 demonref2_PhrasesFault.f demonref2_PhrasesText.l0 demonref2_PhrasesText.f)
set_option linter.unusedVariables false

theorem second (l : List S40) (hn : l.length ≤ 4000) : ∀ (d i : Nat), l.length - i = d → i ≤ l.length → (∀ (j : Nat) (c : S40), j < i → l[j]? = some c → Right l.length j c) →
    ∃ c a, Ev (fun k => demonref2_PhrasesFault.l0 k l (pad l i) (tot (TX l i) : Nat) i) (c, a) ∧
      ((c > 0 ∧ ∃ q, Ev (fun k => ET.lempel_Text.l0 k (l.map to31) (lens (TX l i)) (tot (TX l i) : Nat) (l.map to31) (l.map to31).length i) ((⟨#[]⟩ : ByteArray), some q) ∧ (q = -1 → c = 2 ∧ a = -1) ∧ (0 ≤ q → c = 3 ∧ a = q)) ∨
       (c = 0 ∧ Valid (l.map to31) ∧ tot (txts (l.map to31)) ≤ 4000)) := by
  have hm : (l.map to31).length = l.length := List.length_map _
  intro d
  induction d with
  | zero =>
    intro i hd hi hR
    obtain rfl : i = l.length := by omega
    have hs : TX l l.length = txts (l.map to31) := by unfold TX; rw [← hm, List.take_length]
    by_cases h : ((tot (TX l l.length) : Nat) : Int) > 4000
    · refine ⟨2, -1, ev_end (fun k => ?_), .inl ⟨by omega, -1, ev_end (fun k => ?_), fun _ => ⟨rfl, rfl⟩, fun h => by omega⟩⟩
      · simp only [demonref2_PhrasesFault.l0]
        rw [if_neg (by omega), if_pos h]
      · simp only [ET.lempel_Text.l0]
        rw [if_neg (by omega), if_pos h]
    · refine ⟨0, -1, ev_end (fun k => ?_), .inr ⟨rfl, ?_, by rw [← hs]; omega⟩⟩
      · simp only [demonref2_PhrasesFault.l0]
        rw [if_neg (by omega), if_neg h]
      · intro i c hc
        rw [List.getElem?_map] at hc
        obtain ⟨q, hq, rfl⟩ := Option.map_eq_some_iff.1 hc
        have hlt := (List.getElem?_eq_some_iff.1 hq).1
        obtain ⟨g0, g1, g4⟩ := hR i q hlt hq
        refine ⟨g0, g1, fun e => ?_⟩
        obtain ⟨k1, k2, k3⟩ := g4 e
        exact ⟨by omega, k2, k3⟩
  | succ d ih =>
    intro i hd hi hR
    have hlt : i < l.length := by omega
    obtain ⟨c, hc⟩ : ∃ c, l[i]? = some c := ⟨_, List.getElem?_eq_getElem hlt⟩
    by_cases h : Right l.length i c
    · obtain ⟨r1, r2⟩ := right l (by omega) i c hc h
      obtain ⟨cc, a, e1, e2⟩ := ih (i + 1) (by omega) (by omega) (fun j q hj hq => by
        by_cases e : j = i
        · subst e
          rw [hc] at hq
          obtain rfl := Option.some.inj hq
          exact h
        · exact hR j q (by omega) hq)
      refine ⟨cc, a, r1 _ e1, ?_⟩
      rcases e2 with ⟨p1, q, p2, p3⟩ | p
      · exact .inl ⟨p1, q, r2 _ p2, p3⟩
      · exact .inr p
    · obtain ⟨w1, w2⟩ := wrong l (by omega) i c hc h (pad l i) (lens (TX l i)) (tot (TX l i) : Nat) (tot (TX l i) : Nat)
      exact ⟨3, i, w1, .inl ⟨by omega, i, w2, fun e => by omega, fun _ => ⟨rfl, rfl⟩⟩⟩

theorem pad_zero (l : List S40) : pad l 0 = List.replicate (l.length + 1) 0 := by
  unfold pad
  rw [Nat.sub_zero, List.replicate_succ]
  rfl
/-- What both tell of a fault. -/
theorem faults (l : List S40) (hn : l.length ≤ 4000) : ∃ c a, Ev (fun k => demonref2_PhrasesFault.f k l) (c, a) ∧
      ((c > 0 ∧ ∃ q, Ev (fun k => ET.lempel_Text.f k (l.map to31)) ((⟨#[]⟩ : ByteArray), some q) ∧ (q = -1 → c = 2 ∧ a = -1) ∧ (0 ≤ q → c = 3 ∧ a = q)) ∨
       (c = 0 ∧ Valid (l.map to31) ∧ tot (txts (l.map to31)) ≤ 4000)) := by
  have hm : (l.map to31).length = l.length := List.length_map _
  have t1 : ∀ r, Ev (fun k => demonref2_PhrasesFault.l0 k l (pad l 0) (tot (TX l 0) : Nat) ((0 : Nat) : Int)) r → Ev (fun k => demonref2_PhrasesFault.f k l) r := fun r hr => ev_same (fun k => by
    unfold demonref2_PhrasesFault.f
    rw [if_neg (by omega), wsucc (by omega), if_pos (by omega), if_pos (by omega), Int.toNat_natCast, ← pad_zero]
    rfl) hr
  have t2 : ∀ r, Ev (fun k => ET.lempel_Text.l0 k (l.map to31) (lens (TX l 0)) (tot (TX l 0) : Nat) (l.map to31) (l.map to31).length ((0 : Nat) : Int)) r → Ev (fun k => ET.lempel_Text.f k (l.map to31)) r := fun r hr => ev_same (fun k => by
    unfold ET.lempel_Text.f
    rw [if_neg (by omega)]
    rfl) hr
  obtain ⟨c, a, e1, e2⟩ := second l hn l.length 0 (by omega) (by omega) (fun j c hj => absurd hj (Nat.not_lt_zero _))
  refine ⟨c, a, t1 _ e1, ?_⟩
  rcases e2 with ⟨p1, q, p2, p3⟩ | p
  · exact .inl ⟨p1, q, t2 _ p2, p3⟩
  · exact .inr p
theorem long_faults (l : List S40) (hn : l.length > 4000) : Ev (fun k => demonref2_PhrasesFault.f k l) (2, -1) ∧ Ev (fun k => ET.lempel_Text.f k (l.map to31)) ((⟨#[]⟩ : ByteArray), some (-1)) := by
  have hm : (l.map to31).length = l.length := List.length_map _
  refine ⟨ev_end (fun k => ?_), ev_end (fun k => ?_)⟩
  · unfold demonref2_PhrasesFault.f
    rw [if_pos (by omega)]
  · unfold ET.lempel_Text.f
    rw [if_pos (by omega)]

/-! ### the text -/
theorem pt_run (l : List S40) (hn : l.length ≤ 4000) (hv : Valid (l.map to31)) : ∀ (d i : Nat) (x3 : List ByteArray) (x4 : ByteArray), l.length - i = d → i ≤ l.length →
    x3.map bs = TX l i → bs x4 = (TX l i).flatten → ∃ t, Ev (fun k => demonref2_PhrasesText.l0 k l x3 x4 i) t ∧ bs t = (txts (l.map to31)).flatten := by
  have hm : (l.map to31).length = l.length := List.length_map _
  intro d
  induction d with
  | zero =>
    intro i x3 x4 hd hi h9 h10
    obtain rfl : i = l.length := by omega
    refine ⟨x4, ev_end (fun k => ?_), ?_⟩
    · simp only [demonref2_PhrasesText.l0]
      rw [if_neg (by omega)]
    · rw [h10]
      unfold TX
      rw [← hm, List.take_length]
  | succ d ih =>
    intro i x3 x4 hd hi h9 h10
    have hlt : i < l.length := by omega
    obtain ⟨p, hp⟩ : ∃ p, l[i]? = some p := ⟨_, List.getElem?_eq_getElem hlt⟩
    have hp' := own_get hp
    obtain ⟨h0, h1, _⟩ := hv i _ hp'
    have h0' : 0 ≤ p.f0 := h0
    have h1' : p.f0 ≤ (i : Int) := h1
    clear h0 h1
    have hT := TX_len l i (by omega)
    have h9l : x3.length = i + 1 := by rw [← hT, ← h9, List.length_map]
    have hj : p.f0.toNat < x3.length := by omega
    have hg : bs (rdOf ByteArray.empty x3 p.f0) = (TX l i).getD p.f0.toNat [] := by
      unfold rdOf
      rw [← h9, List.getD_eq_getElem?_getD, List.getD_eq_getElem?_getD, List.getElem?_map, List.getElem?_eq_getElem hj]
      rfl
    have htx : TX l (i + 1) = TX l i ++ [nxt (TX l i) (to31 p)] := by unfold TX; rw [take_snoc hp', txts_snoc]
    have hb := txts_small (l.map to31) (show i ≤ 4000 by omega)
    have hpre : tot (TX l i) ≤ 16000000 := hb.2
    have hz10 : x4.size ≤ 16000000 := by
      rw [← bs_len, h10, ← tot_flatten]
      omega
    have hzg : (rdOf ByteArray.empty x3 p.f0).size ≤ 4000 := by
      rw [← bs_len, hg, List.getD_eq_getElem?_getD, List.getElem?_eq_getElem (by omega)]
      have := hb.1 _ (List.getElem_mem (show p.f0.toNat < (TX l i).length by omega))
      simp only [Option.getD_some]
      omega
    have app : ∀ a b : ByteArray, bs (a ++ b) = bs a ++ bs b := fun a b => by simp [bs]
    have appz : ∀ a b : ByteArray, (a ++ b).size = a.size + b.size := fun a b => by rw [← bs_len, app, List.length_append, bs_len, bs_len]
    by_cases hf : p.f2 = true
    · have e : nxt (TX l i) (to31 p) = bs (rdOf ByteArray.empty x3 p.f0) := by
        rw [hg]
        unfold nxt tail1
        rw [if_pos (show (to31 p).f2 = true from hf), List.append_nil]
        rfl
      obtain ⟨t, r1, r2⟩ := ih (i + 1) (x3 ++ [rdOf ByteArray.empty x3 p.f0]) (x4 ++ rdOf ByteArray.empty x3 p.f0) (by omega) (by omega) (by rw [List.map_append, h9, htx, e]; rfl) (by rw [app, h10, htx, List.flatten_append, e]; simp)
      refine ⟨t, ev_next (fun k => ?_) r1, r2⟩
      simp only [demonref2_PhrasesText.l0]
      rw [rd40_get hp, if_pos (by omega), if_pos (by omega), if_pos h0', if_pos (by omega), if_pos hf, if_pos (by omega), if_pos (by omega), wsucc (by omega)]
    · have hnum : bs (strOfNums [p.f1]) = tail1 (to31 p) := by
        unfold tail1
        rw [if_neg (show ¬ (to31 p).f2 = true from hf)]
        simp [bs, strOfNums, to31]
      have hnz : (strOfNums [p.f1]).size = 1 := by rw [strOfNums_size]; rfl
      have e : nxt (TX l i) (to31 p) = bs (rdOf ByteArray.empty x3 p.f0 ++ strOfNums [p.f1]) := by rw [app, hg, hnum]; rfl
      obtain ⟨t, r1, r2⟩ := ih (i + 1) (x3 ++ [rdOf ByteArray.empty x3 p.f0 ++ strOfNums [p.f1]]) (x4 ++ (rdOf ByteArray.empty x3 p.f0 ++ strOfNums [p.f1])) (by omega) (by omega) (by rw [List.map_append, h9, htx, e]; rfl) (by rw [app, h10, htx, List.flatten_append, e]; simp)
      refine ⟨t, ev_next (fun k => ?_) r1, r2⟩
      simp only [demonref2_PhrasesText.l0]
      rw [rd40_get hp, if_pos (by omega), if_pos (by omega), if_pos h0', if_pos (by omega), if_neg hf]
      simp only [Option.bind_some]
      rw [if_pos (by rw [hnz]; omega), if_pos (by omega), if_pos (by rw [appz, hnz]; omega), wsucc (by omega)]

theorem abab_ev : Ev (fun k => demonlaw2_abab.f k) true := Ev.of (g := fun k => demonlaw2_abab.f k) demonlaw2_abab.mono abab_run

/-- The law's loop: its own phrases. -/
theorem own_run (l : List S40) (hn : l.length ≤ 6000) (r : Bool) (hr : Ev (fun k => demonlaw2_LempelText.l0 k l (l.map to31) l.length) r) : ∀ (d i : Nat), l.length - i = d → i ≤ l.length → Ev (fun k => demonlaw2_LempelText.l0 k l ((l.map to31).take i) i) r := by
  have hm : (l.map to31).length = l.length := List.length_map _
  intro d
  induction d with
  | zero =>
    intro i hd hi
    obtain rfl : i = l.length := by omega
    rw [← hm, List.take_length, hm]
    exact hr
  | succ d ih =>
    intro i hd hi
    obtain ⟨c, hc⟩ : ∃ c, l[i]? = some c := ⟨_, List.getElem?_eq_getElem (by omega)⟩
    refine ev_next (fun k => ?_) (ih (i + 1) (by omega) (by omega))
    simp only [demonlaw2_LempelText.l0]
    rw [rd40_get hc, if_pos (by omega), if_pos (by omega), if_pos (by rw [List.length_take]; omega), wsucc (by omega), take_snoc (own_get hc)]
    rfl

theorem law (l : List S40) : ∃ k, demonlaw2_LempelText.f k l = some true := by
  apply Ev.rounds (g := fun k => demonlaw2_LempelText.f k l)
  unfold demonlaw2_LempelText.f
  refine Ev.bind abab_ev ?_
  refine ev_same (fun k => if_pos rfl) ?_
  have skip : Ev (fun k => demonlaw2_LempelText.j0 k l true true) true := ev_end (fun k => by simp only [demonlaw2_LempelText.j0]; rw [if_pos trivial])
  have go : ∀ (hl : l.length ≤ 6000), Ev (fun k => demonlaw2_LempelText.l0 k l (l.map to31) l.length) true → Ev (fun k => demonlaw2_LempelText.j0 k l true (decide ((l.length : Int) > 6000))) true := by
    intro hl hr
    refine ev_next (fun k => ?_) (own_run l hl true hr l.length 0 (by omega) (by omega))
    simp only [demonlaw2_LempelText.j0]
    rw [if_neg (by simp; omega)]
    rfl
  have enter : ∀ r, Ev (fun k => (demonref2_PhrasesFault.f k l).bind fun bt183 => ((ET.lempel_Text.f k (l.map to31)).bind fun bt186 => (if bt183.1 > 0 then (Err.okE bt186.1 bt186.2 bt183.1 bt183.2) else (if bt186.2.isNone = true then ((demonref2_PhrasesText.f k l).bind fun t189 => (some (bt186.1.toList == t189.toList))) else (none))))) r → Ev (fun k => demonlaw2_LempelText.l0 k l (l.map to31) l.length) r := by
    intro r hr
    refine ev_next (fun k => ?_) hr
    simp only [demonlaw2_LempelText.l0]
    rw [if_neg (by omega)]
  by_cases h2 : (l.length : Int) > 200
  · refine ev_same (fun k => if_pos h2) ?_
    by_cases h3 : (l.length : Int) ≤ 4000
    · exact ev_same (fun k => if_pos h3) skip
    · refine ev_same (fun k => if_neg h3) ?_
      by_cases h4 : (l.length : Int) > 6000
      · rw [decide_eq_true h4]
        exact skip
      · refine go (by omega) (enter _ ?_)
        obtain ⟨e1, e2⟩ := long_faults l (by omega)
        refine Ev.bind e1 (Ev.bind e2 (ev_same (h := fun _ => some true) (fun k => ?_) (Ev.now _)))
        rfl
  · refine ev_same (fun k => if_neg h2) (go (by omega) (enter _ ?_))
    obtain ⟨c, a, e1, e2⟩ := faults l (by omega)
    refine Ev.bind e1 ?_
    rcases e2 with ⟨p1, q, p2, p3, p4⟩ | ⟨rfl, hv, ht⟩
    · refine Ev.bind p2 (ev_same (h := fun _ => some true) (fun k => ?_) (Ev.now _))
      simp only [Err.okE]
      rw [if_pos p1, if_pos ⟨rfl, p3, p4⟩]
    · obtain ⟨t, hu, hbt⟩ := text_run (l.map to31) hv (by rw [List.length_map]; omega) ht (3 * (l.map to31).length + 3) (by omega)
      have hu' := et_f (3 * (l.map to31).length + 3) (l.map to31) _ hu
      refine Ev.bind (Ev.of (g := fun k => ET.lempel_Text.f k (l.map to31)) (ET.lempel_Text.mono _) hu') ?_
      refine ev_same (fun k => if_neg (by omega)) ?_
      refine ev_same (fun k => if_pos rfl) ?_
      obtain ⟨t', hp, hbt'⟩ := pt_run l (by omega) hv l.length 0 [⟨#[]⟩] ⟨#[]⟩ (by omega) (by omega) rfl rfl
      have hc : Ev (fun k => demonref2_PhrasesText.f k l) t' := hp
      refine Ev.bind hc ?_
      obtain rfl : t = t' := bs_inj (hbt.trans hbt'.symm)
      refine ev_same (h := fun _ => some true) (fun k => ?_) (Ev.now _)
      simp
end Go.Proofs.YtaonemghafoolaaDoor.Pi
