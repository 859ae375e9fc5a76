/-
  The plain law of LempelText: Text's faults and texts are the document's.
-/
import Derived.Test.YtaonemghafoolaaDoorVText
import Derived.Test.YtaonemghafoolaaDoorPb
import Derived.Test.YtaonemghafoolaaDoorPd
namespace Go.Proofs.YtaonemghafoolaaDoor.Pi
open Go.RowKit Go.Proofs.YtaonemghafoolaaDoorW.PrintWords Go.Proofs.YtaonemghafoolaaDoorW.PrintLast Go.Proofs.YtaonemghafoolaaDoorW.PrintMore
open Go.Proofs.YtaonemghafoolaaDoor.Q Go.Proofs.YtaonemghafoolaaDoor.V
open Go.Proofs.YtaonemghafoolaaDoor.Pc (ev_next ev_end ev_same wsucc wpred)
open Go.Proofs.YtaonemghafoolaaDoor.Pa (bs bs_len bs_inj w64 abab_run txts txts_snoc txts_len nxt tail1 tot tot_snoc tot_flatten lens rd_lens txts_small Valid rd_get text_run take_snoc)
open Go.Proofs.YtaonemghafoolaaDoor.PLempelText (S40 rd_T40 demonref2_PhrasesFault.l0 demonref2_PhrasesFault.j1 demonref2_PhrasesFault.j2 demonref2_PhrasesFault.f demonref2_PhrasesText.l0 demonref2_PhrasesText.f)
set_option linter.unusedVariables false

theorem et_ext : ∀ k, (∀ y0 y1 y2 y3 y4 y5, LeO (lempel_Text.l0 k y0 y1 y2 y3 y4 y5) (ET.lempel_Text.l0 k y0 y1 y2 y3 y4 y5)) ∧ (∀ y0 y1 y2 y3 y4 y5 y6 y7 y8 y9, LeO (lempel_Text.j1 k y0 y1 y2 y3 y4 y5 y6 y7 y8 y9) (ET.lempel_Text.j1 k y0 y1 y2 y3 y4 y5 y6 y7 y8 y9)) ∧ (∀ y0 y1 y2 y3 y4, LeO (lempel_Text.l1 k y0 y1 y2 y3 y4) (ET.lempel_Text.l1 k y0 y1 y2 y3 y4))
  | 0 => ⟨fun _ _ _ _ _ _ => LeO.none _, fun _ _ _ _ _ _ _ _ _ _ => LeO.none _, fun _ _ _ _ _ => LeO.none _⟩
  | k + 1 => by
    obtain ⟨ih0, ih1, ih2⟩ := et_ext k
    refine ⟨?_, ?_, ?_⟩
    · intro y0 y1 y2 y3 y4 y5
      unfold lempel_Text.l0 ET.lempel_Text.l0
      repeat' first
      | (with_reducible exact ih1 _ _ _ _ _ _ _ _ _ _)
      | (with_reducible exact ih2 _ _ _ _ _)
      | (with_reducible exact LeO.refl _)
      | (with_reducible exact LeO.none _)
      | (with_reducible refine LeO.ite ?_ ?_)
    · intro y0 y1 y2 y3 y4 y5 y6 y7 y8 y9
      unfold lempel_Text.j1 ET.lempel_Text.j1
      repeat' first
      | (with_reducible exact ih0 _ _ _ _ _ _)
      | (with_reducible exact LeO.refl _)
      | (with_reducible exact LeO.none _)
      | (with_reducible refine LeO.ite ?_ ?_)
    · intro y0 y1 y2 y3 y4
      unfold lempel_Text.l1 ET.lempel_Text.l1
      repeat' first
      | (with_reducible exact ih2 _ _ _ _ _)
      | (with_reducible exact LeO.refl _)
      | (with_reducible exact LeO.none _)
      | (with_reducible refine LeO.ite ?_ ?_)
      | (with_reducible refine LeO.bind ?_ (fun _ => ?_))
theorem et_f (k : Nat) (l : List S31) : LeO (lempel_Text.f k l) (ET.lempel_Text.f k l) := by
  unfold lempel_Text.f ET.lempel_Text.f
  exact LeO.ite (LeO.none _) ((et_ext k).1 _ _ _ _ _ _)

def to31 (c : S40) : S31 := ⟨c.f0, c.f1, c.f2⟩
theorem rd40_get {l : List S40} {i : Nat} {q : S40} (h : l[i]? = some q) : rd_T40 l (i : Int) = q := by
  unfold rd_T40
  rw [Int.toNat_natCast, List.getD_eq_getElem?_getD, h]
  rfl
theorem own_get {l : List S40} {i : Nat} {q : S40} (h : l[i]? = some q) : (l.map to31)[i]? = some (to31 q) := by rw [List.getElem?_map, h]; rfl

/-- The texts so far; their lengths, as the document's list holds them. -/
abbrev TX (l : List S40) (i : Nat) : List (List UInt8) := txts ((l.map to31).take i)
def pad (l : List S40) (i : Nat) : List Int := lens (TX l i) ++ List.replicate (l.length - i) 0
theorem TX_len (l : List S40) (i : Nat) (hi : i ≤ l.length) : (TX l i).length = i + 1 := by rw [txts_len, List.length_take, List.length_map]; omega
theorem lens_len (T : List (List UInt8)) : (lens T).length = T.length := List.length_map _
theorem pad_len (l : List S40) (i : Nat) (hi : i ≤ l.length) : (pad l i).length = l.length + 1 := by rw [pad, List.length_append, lens_len, TX_len l i hi, List.length_replicate]; omega
theorem rd_left (A B : List Int) (j : Int) (h : j.toNat < A.length) : rd (A ++ B) j = rd A j := by
  unfold rd
  rw [List.getD_eq_getElem?_getD, List.getD_eq_getElem?_getD, List.getElem?_append_left h]
theorem pad_set (l : List S40) (i : Nat) (hi : i < l.length) (v : Int) (c : S40) (hc : l[i]? = some c) (hv : v = ((nxt (TX l i) (to31 c)).length : Int)) : (pad l i).set (i + 1) v = pad l (i + 1) := by
  have hT := TX_len l i (by omega)
  have h1 : (lens (TX l i)).length = i + 1 := by rw [lens_len, hT]
  have htx : TX l (i + 1) = TX l i ++ [nxt (TX l i) (to31 c)] := by unfold TX; rw [take_snoc (own_get hc), txts_snoc]
  unfold pad
  rw [List.set_append_right _ _ (by omega), h1, Nat.sub_self, show l.length - i = (l.length - (i + 1)) + 1 from by omega, List.replicate_succ, List.set_cons_zero, htx, lens, lens, List.map_append, hv]
  simp

def Right (n i : Nat) (c : S40) : Prop := 0 ≤ c.f0 ∧ c.f0 ≤ (i : Int) ∧ (c.f2 = true → i + 1 = n ∧ c.f0 ≠ 0 ∧ c.f1 = 0)

/-- A phrase that is not right: both tell its place. -/
theorem wrong (l : List S40) (hn : l.length ≤ 4000) (i : Nat) (c : S40) (hc : l[i]? = some c) (h : ¬ Right l.length i c) (P x4 : List Int) (s s' : Int) :
    Ev (fun k => demonref2_PhrasesFault.l0 k l P s i) (3, (i : Int)) ∧ Ev (fun k => ET.lempel_Text.l0 k (l.map to31) x4 s' (l.map to31) (l.map to31).length i) ((⟨#[]⟩ : ByteArray), some (i : Int)) := by
  have hm : (l.map to31).length = l.length := List.length_map _
  have hlt := (List.getElem?_eq_some_iff.1 hc).1
  have hc' := own_get hc
  have t1 : ∀ a q z, Ev (fun k => demonref2_PhrasesFault.j1 k l P s i true a q z) (3, (i : Int)) := fun a q z => ev_end (fun k => by simp only [demonref2_PhrasesFault.j1]; rw [if_pos trivial])
  have t2 : ∀ a q z, Ev (fun k => demonref2_PhrasesFault.j2 k l P s i true a q z) (3, (i : Int)) := fun a q z => ev_end (fun k => by simp only [demonref2_PhrasesFault.j2]; rw [if_pos trivial])
  have tu : ∀ a q z, Ev (fun k => ET.lempel_Text.j1 k (l.map to31) x4 s' (l.map to31) (l.map to31).length i true a q z) ((⟨#[]⟩ : ByteArray), some (i : Int)) := fun a q z => ev_end (fun k => by simp only [ET.lempel_Text.j1]; rw [if_pos trivial])
  obtain ⟨a, q, z⟩ := c
  have r0 : (to31 ⟨a, q, z⟩).f0 = a := rfl
  have r1 : (to31 ⟨a, q, z⟩).f1 = q := rfl
  have r2 : (to31 ⟨a, q, z⟩).f2 = z := rfl
  by_cases h0 : a < 0
  · refine ⟨ev_next (fun k => ?_) (t1 a q z), ev_next (fun k => ?_) (tu a q z)⟩
    · simp only [demonref2_PhrasesFault.l0]
      rw [rd40_get hc, if_pos (by omega), if_pos (by omega), if_pos h0]
    · simp only [ET.lempel_Text.l0]
      rw [rd_get hc', if_pos (by omega), if_pos (by omega), if_pos (by omega)]
      simp only [r0, r1, r2]
      rw [if_pos h0]
  by_cases h1 : a > (i : Int)
  · refine ⟨ev_next (fun k => ?_) (t1 a q z), ev_next (fun k => ?_) (tu a q z)⟩
    · simp only [demonref2_PhrasesFault.l0]
      rw [rd40_get hc, if_pos (by omega), if_pos (by omega), if_neg h0, decide_eq_true h1]
    · simp only [ET.lempel_Text.l0]
      rw [rd_get hc', if_pos (by omega), if_pos (by omega), if_pos (by omega)]
      simp only [r0, r1, r2]
      rw [if_neg h0, if_pos h1]
  cases z with
  | false =>
    exfalso
    apply h
    exact ⟨by show (0 : Int) ≤ a; omega, by show a ≤ _; omega, fun e => by cases e⟩
  | true =>
    have cut : ∀ r, Ev (fun k => if wrap64 ((i : Int) + 1) < (l.length : Int) then demonref2_PhrasesFault.j2 k l P s i true a q true else if a = 0 then demonref2_PhrasesFault.j2 k l P s i true a q true else demonref2_PhrasesFault.j2 k l P s i (q != 0) a q true) r → Ev (fun k => demonref2_PhrasesFault.l0 k l P s i) r := by
      intro r hr
      refine ev_next (h := fun k => demonref2_PhrasesFault.j1 k l P s i false a q true) (fun k => ?_) (ev_next (fun k => ?_) hr)
      · simp only [demonref2_PhrasesFault.l0]
        rw [rd40_get hc, if_pos (by omega), if_pos (by omega), if_neg h0, decide_eq_false h1]
      · simp only [demonref2_PhrasesFault.j1]
        rw [if_neg (by simp), if_pos trivial]
    have uu : ∀ r, Ev (fun k => if (i : Int) < wrap64 (((l.map to31).length : Int) - 1) then ET.lempel_Text.j1 k (l.map to31) x4 s' (l.map to31) (l.map to31).length i true a q true else if a = 0 then ET.lempel_Text.j1 k (l.map to31) x4 s' (l.map to31) (l.map to31).length i true a q true else ET.lempel_Text.j1 k (l.map to31) x4 s' (l.map to31) (l.map to31).length i (q != 0) a q true) r →
        Ev (fun k => ET.lempel_Text.l0 k (l.map to31) x4 s' (l.map to31) (l.map to31).length i) r := by
      intro r hr
      refine ev_next (fun k => ?_) hr
      simp only [ET.lempel_Text.l0]
      rw [rd_get hc', if_pos (by omega), if_pos (by omega), if_pos (by omega)]
      simp only [r0, r1, r2]
      rw [if_neg h0, if_neg h1, if_pos trivial]
    by_cases g1 : i + 1 < l.length
    · refine ⟨cut _ (ev_same (fun k => if_pos (by rw [wsucc (by omega)]; omega)) (t2 a q true)), uu _ (ev_same (fun k => ?_) (tu a q true))⟩
      rw [hm, wpred (by omega), if_pos (by omega)]
    · by_cases g2 : a = 0
      · refine ⟨cut _ (ev_same (fun k => by rw [wsucc (by omega), if_neg (by omega), if_pos g2]) (t2 a q true)), uu _ (ev_same (fun k => ?_) (tu a q true))⟩
        rw [hm, wpred (by omega), if_neg (by omega), if_pos g2]
      · by_cases g3 : q = 0
        · exfalso
          apply h
          exact ⟨by show (0 : Int) ≤ a; omega, by show a ≤ _; omega, fun _ => ⟨by omega, g2, g3⟩⟩
        · have g4 : (q != 0) = true := bne_iff_ne.2 g3
          refine ⟨cut _ (ev_same (fun k => by rw [wsucc (by omega), if_neg (by omega), if_neg g2, g4]) (t2 a q true)), uu _ (ev_same (fun k => ?_) (tu a q true))⟩
          rw [hm, wpred (by omega), if_neg (by omega), if_neg g2, g4]

/-- A right phrase: both go on. -/
theorem right (l : List S40) (hn : l.length ≤ 4000) (i : Nat) (c : S40) (hc : l[i]? = some c) (h : Right l.length i c) :
    (∀ r, Ev (fun k => demonref2_PhrasesFault.l0 k l (pad l (i + 1)) (tot (TX l (i + 1)) : Nat) ((i + 1 : Nat) : Int)) r → Ev (fun k => demonref2_PhrasesFault.l0 k l (pad l i) (tot (TX l i) : Nat) i) r) ∧
    (∀ r, Ev (fun k => ET.lempel_Text.l0 k (l.map to31) (lens (TX l (i + 1))) (tot (TX l (i + 1)) : Nat) (l.map to31) (l.map to31).length ((i + 1 : Nat) : Int)) r → Ev (fun k => ET.lempel_Text.l0 k (l.map to31) (lens (TX l i)) (tot (TX l i) : Nat) (l.map to31) (l.map to31).length i) r) := by
  have hm : (l.map to31).length = l.length := List.length_map _
  have hlt := (List.getElem?_eq_some_iff.1 hc).1
  have hc' := own_get hc
  have hT := TX_len l i (by omega)
  have hb := txts_small (l.map to31) (show i ≤ 4000 by omega)
  have htx : TX l (i + 1) = TX l i ++ [nxt (TX l i) (to31 c)] := by unfold TX; rw [take_snoc hc', txts_snoc]
  obtain ⟨h0, h1, h2⟩ := h
  have hj : c.f0.toNat < (TX l i).length := by omega
  have hlen := rd_lens (TX l i) c.f0 hj
  have hle : ((TX l i).getD c.f0.toNat []).length ≤ i := by
    rw [List.getD_eq_getElem?_getD, List.getElem?_eq_getElem hj]
    exact hb.1 _ (List.getElem_mem hj)
  have hL : (lens (TX l i)).length = i + 1 := by rw [lens_len, hT]
  have hpl := pad_len l i (by omega)
  have hrp : rd (pad l i) c.f0 = (((TX l i).getD c.f0.toNat []).length : Int) := by
    unfold pad
    rw [rd_left _ _ _ (by omega), hlen]
  have hpre : tot (TX l i) ≤ 16000000 := hb.2
  have htot : tot (TX l (i + 1)) = tot (TX l i) + (nxt (TX l i) (to31 c)).length := by rw [htx, tot_snoc]
  have hnl : (nxt (TX l i) (to31 c)).length = ((TX l i).getD c.f0.toNat []).length + (if c.f2 = true then 0 else 1) := by
    unfold nxt tail1
    rw [List.length_append]
    show _ + (if c.f2 = true then ([] : List UInt8) else _).length = _
    split <;> rfl
  obtain ⟨g, hgdef⟩ : ∃ g, g = ((TX l i).getD c.f0.toNat []).length := ⟨_, rfl⟩
  rw [← hgdef] at hlen hle hrp hnl
  have hset : ∀ v : Int, v = ((nxt (TX l i) (to31 c)).length : Int) → (pad l i).set (i + 1) v = pad l (i + 1) := fun v hv => pad_set l i hlt v c hc hv
  have hpn : rd (pad l (i + 1)) ((i + 1 : Nat) : Int) = ((nxt (TX l i) (to31 c)).length : Int) := by
    have hT1 := TX_len l (i + 1) (by omega)
    unfold pad
    rw [rd_left _ _ _ (by rw [lens_len, hT1]; omega), rd_lens _ _ (by rw [hT1]; omega), htx, Int.toNat_natCast, List.getD_eq_getElem?_getD, List.getElem?_append_right (by omega), hT, Nat.sub_self]
    rfl
  constructor
  · intro r hr
    have s2 : Ev (fun k => demonref2_PhrasesFault.j2 k l (pad l i) (tot (TX l i) : Nat) i false c.f0 c.f1 c.f2) r := by
      refine ev_next (fun k => ?_) hr
      simp only [demonref2_PhrasesFault.j2]
      rw [if_neg (by simp), if_pos h0, if_pos (by omega), wsucc (i := i) (by omega), if_pos (by omega), if_pos (by omega), hrp, wsucc (i := g) (by omega), Int.toNat_natCast]
      simp only [Option.bind_some]
      by_cases hf : c.f2 = true
      · rw [if_pos hf] at hnl
        rw [if_pos hf]
        have hne : rd ((pad l i).set (i + 1) ((g + 1 : Nat) : Int)) c.f0 = (g : Int) := by
          rw [← hrp]
          unfold rd
          rw [List.getD_eq_getElem?_getD, List.getD_eq_getElem?_getD, List.getElem?_set_ne (by omega)]
        rw [hne, List.set_set, hset _ (by omega), hpn, w64 (by omega) (by omega), htot]
        rfl
      · rw [if_neg hf] at hnl
        rw [if_neg hf, hset _ (by omega), hpn, w64 (by omega) (by omega), htot]
        rfl
    refine ev_next (h := fun k => demonref2_PhrasesFault.j1 k l (pad l i) (tot (TX l i) : Nat) i false c.f0 c.f1 c.f2) (fun k => ?_) (ev_next (fun k => ?_) s2)
    · simp only [demonref2_PhrasesFault.l0]
      rw [rd40_get hc, if_pos (by omega), if_pos (by omega), if_neg (by omega), decide_eq_false (by omega)]
    · simp only [demonref2_PhrasesFault.j1]
      rw [if_neg (by simp)]
      by_cases hf : c.f2 = true
      · obtain ⟨e1, e2, e3⟩ := h2 hf
        rw [if_pos hf, wsucc (by omega), if_neg (by omega), if_neg e2, e3]
        rfl
      · rw [if_neg hf]
  · intro r hr
    have s2 : Ev (fun k => ET.lempel_Text.j1 k (l.map to31) (lens (TX l i)) (tot (TX l i) : Nat) (l.map to31) (l.map to31).length i false c.f0 c.f1 c.f2) r := by
      refine ev_next (fun k => ?_) hr
      simp only [ET.lempel_Text.j1]
      rw [if_neg (by simp), if_pos h0, if_pos (by omega)]
      by_cases hf : c.f2 = true
      · rw [if_pos hf] at hnl
        rw [if_pos hf, if_pos (by omega), hlen, wsucc (i := i) (by omega), w64 (by omega) (by omega), htot, htx]
        have e : lens (TX l i ++ [nxt (TX l i) (to31 c)]) = lens (TX l i) ++ [(g : Int)] := by
          rw [lens, lens, List.map_append, List.map_cons, List.map_nil, hnl]
          rfl
        rw [e, hnl]
        rfl
      · rw [if_neg hf] at hnl
        rw [if_neg hf, if_pos (by omega), hlen, wsucc (i := g) (by omega), wsucc (i := i) (by omega), w64 (by omega) (by omega), htot, htx]
        have e : lens (TX l i ++ [nxt (TX l i) (to31 c)]) = lens (TX l i) ++ [((g + 1 : Nat) : Int)] := by
          rw [lens, lens, List.map_append, List.map_cons, List.map_nil, hnl]
        rw [e, hnl]
        rfl
    refine ev_next (fun k => ?_) s2
    simp only [ET.lempel_Text.l0]
    rw [rd_get hc', if_pos (by omega), if_pos (by omega), if_pos (by omega), if_neg (show ¬ (to31 c).f0 < 0 from by show ¬ c.f0 < 0; omega), if_neg (show ¬ (to31 c).f0 > _ from by show ¬ c.f0 > _; omega)]
    by_cases hf : c.f2 = true
    · obtain ⟨e1, e2, e3⟩ := h2 hf
      rw [if_pos (show (to31 c).f2 = true from hf), hm, wpred (by omega), if_neg (by omega), if_neg (show ¬ (to31 c).f0 = 0 from e2), show ((to31 c).f1 != 0) = false from by show (c.f1 != 0) = false; rw [e3]; rfl]
      rfl
    · rw [if_neg (show ¬ (to31 c).f2 = true from hf)]
      rfl
end Go.Proofs.YtaonemghafoolaaDoor.Pi
