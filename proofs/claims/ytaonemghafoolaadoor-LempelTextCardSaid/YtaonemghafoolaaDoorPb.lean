/-
  The plain law of Text: of right phrases whose texts are not too long it answers their texts, one behind the other; and what Parse hands back is such.
-/
import Derived.Test.YtaonemghafoolaaDoorPa
import Derived.Test.YtaonemghafoolaaDoorQ3
namespace Go.Proofs.YtaonemghafoolaaDoor.Pa
open Go.RowKit Go.Proofs.YtaonemghafoolaaDoorW.PrintWords Go.Proofs.YtaonemghafoolaaDoorW.PrintLast
open Go.Proofs.YtaonemghafoolaaDoor.Q Go.Proofs.YtaonemghafoolaaDoor.Mp
set_option linter.unusedVariables false

def tail1 (p : S31) : List UInt8 := if p.f2 = true then [] else [UInt8.ofNat p.f1.toNat]
def nxt (T : List (List UInt8)) (p : S31) : List UInt8 := T.getD p.f0.toNat [] ++ tail1 p
/-- The texts of phrases, the empty one first. -/
def txts (l : List S31) : List (List UInt8) := l.foldl (fun T p => T ++ [nxt T p]) [[]]
theorem txts_snoc (l : List S31) (p : S31) : txts (l ++ [p]) = txts l ++ [nxt (txts l) p] := by simp [txts, List.foldl_append]
theorem txts_len (l : List S31) : (txts l).length = l.length + 1 := by
  have go : ∀ (l : List S31) (T : List (List UInt8)), (l.foldl (fun T p => T ++ [nxt T p]) T).length = l.length + T.length := by
    intro l
    induction l with
    | nil => intro T; simp
    | cons p r ih => intro T; rw [List.foldl_cons, ih]; simp; omega
  exact go l [[]]
def Valid (l : List S31) : Prop := ∀ (i : Nat) (p : S31), l[i]? = some p → 0 ≤ p.f0 ∧ p.f0 ≤ i ∧ (p.f2 = true → i + 1 = l.length ∧ p.f0 ≠ 0 ∧ p.f1 = 0)
def lens (T : List (List UInt8)) : List Int := T.map fun t => (t.length : Int)
def tot (T : List (List UInt8)) : Nat := (T.map List.length).sum
theorem tot_snoc (T : List (List UInt8)) (t : List UInt8) : tot (T ++ [t]) = tot T + t.length := by simp [tot]
theorem tot_flatten (T : List (List UInt8)) : tot T = T.flatten.length := by simp [tot, List.length_flatten]
theorem take_snoc {α : Type} {l : List α} {i : Nat} {p : α} (h : l[i]? = some p) : l.take (i + 1) = l.take i ++ [p] := by rw [List.take_add_one, h]; rfl
theorem tail1_len (p : S31) : (tail1 p).length ≤ 1 := by unfold tail1; split <;> simp
theorem txts_bound (l : List S31) : ∀ i, (∀ t ∈ txts (l.take i), t.length ≤ i) ∧ tot (txts (l.take i)) ≤ i * i := by
  intro i
  induction i with
  | zero => simp [txts, tot]
  | succ i ih =>
    by_cases hi : i < l.length
    · rw [take_snoc (List.getElem?_eq_getElem hi), txts_snoc]
      have hn : (nxt (txts (l.take i)) l[i]).length ≤ i + 1 := by
        unfold nxt
        have h1 := tail1_len l[i]
        have h2 : ((txts (l.take i)).getD l[i].f0.toNat []).length ≤ i := by
          rw [List.getD_eq_getElem?_getD]
          cases hg : (txts (l.take i))[l[i].f0.toNat]? with
          | none => simp
          | some t => exact ih.1 t (List.mem_of_getElem? hg)
        rw [List.length_append]
        omega
      refine ⟨fun t ht => ?_, ?_⟩
      · rcases List.mem_append.1 ht with h | h
        · have := ih.1 t h; omega
        · rw [List.mem_singleton.1 h]; exact hn
      · rw [tot_snoc]
        have h2 := ih.2
        have e : (i + 1) * (i + 1) = i * i + 2 * i + 1 := by rw [Nat.add_mul, Nat.mul_add]; omega
        omega
    · rw [List.take_of_length_le (by omega)]
      rw [List.take_of_length_le (by omega)] at ih
      refine ⟨fun t ht => Nat.le_succ_of_le (ih.1 t ht), Nat.le_trans ih.2 (Nat.mul_le_mul (by omega) (by omega))⟩
theorem rd_get {l : List S31} {i : Nat} {p : S31} (h : l[i]? = some p) : rd_T31 l (i : Int) = p := by
  unfold rd_T31
  rw [Int.toNat_natCast, List.getD_eq_getElem?_getD, h]
  rfl
theorem rd_lens (T : List (List UInt8)) (j : Int) (h : j.toNat < T.length) : rd (lens T) j = ((T.getD j.toNat []).length : Int) := by
  unfold rd lens
  rw [List.getD_eq_getElem?_getD, List.getElem?_map, List.getD_eq_getElem?_getD, List.getElem?_eq_getElem h]
  rfl

theorem sq_bound {i : Nat} (h : i ≤ 4000) : i * i ≤ 16000000 := Nat.mul_le_mul h h
theorem txts_small (l : List S31) {i : Nat} (h : i ≤ 4000) : (∀ t ∈ txts (l.take i), t.length ≤ i) ∧ tot (txts (l.take i)) ≤ 16000000 := ⟨(txts_bound l i).1, Nat.le_trans (txts_bound l i).2 (sq_bound h)⟩
theorem wsucc {i : Nat} (h : i ≤ 1000000) : wrap64 ((i : Int) + 1) = ((i + 1 : Nat) : Int) := by rw [w64 (by omega) (by omega)]; omega
theorem wpred {i : Nat} (h : i ≤ 1000000) : wrap64 ((i : Int) - 1) = (i : Int) - 1 := w64 (by omega) (by omega)

/-- The first loop: all is right, and the sum. -/
theorem text_first (l : List S31) (hv : Valid l) (hn : l.length ≤ 4000) (ht : tot (txts l) ≤ 4000) : ∀ (d i k : Nat), l.length - i = d → i ≤ l.length → 2 * d < k →
    ∃ k', k ≤ k' + (2 * d + 1) ∧ lempel_Text.l0 k l (lens (txts (l.take i))) (tot (txts (l.take i)) : Nat) l l.length i = lempel_Text.l1 k' [(⟨#[]⟩ : ByteArray)] (⟨#[]⟩ : ByteArray) l l.length 0 := by
  intro d
  induction d with
  | zero =>
    intro i k hd hi hk
    obtain ⟨k, rfl⟩ : ∃ m, k = m + 1 := ⟨k - 1, by omega⟩
    obtain rfl : i = l.length := by omega
    refine ⟨k, by omega, ?_⟩
    simp only [lempel_Text.l0]
    rw [if_neg (by omega), List.take_length, if_neg (by omega)]
  | succ d ih =>
    intro i k hd hi hk
    obtain ⟨k, rfl⟩ : ∃ m, k = m + 1 := ⟨k - 1, by omega⟩
    obtain ⟨k, rfl⟩ : ∃ m, k = m + 1 := ⟨k - 1, by omega⟩
    have hlt : i < l.length := by omega
    obtain ⟨p, hp⟩ : ∃ p, l[i]? = some p := ⟨_, List.getElem?_eq_getElem hlt⟩
    obtain ⟨h0, h1, h2⟩ := hv i p hp
    have hr := rd_get hp
    have hb := txts_small l (show i ≤ 4000 by omega)
    have hT : (txts (l.take i)).length = i + 1 := by rw [txts_len, List.length_take]; omega
    have hj : p.f0.toNat < (txts (l.take i)).length := by omega
    have hlen := rd_lens (txts (l.take i)) p.f0 hj
    have hle : ((txts (l.take i)).getD p.f0.toNat []).length ≤ i := by
      rw [List.getD_eq_getElem?_getD, List.getElem?_eq_getElem hj]
      exact hb.1 _ (List.getElem_mem hj)
    have hsn := take_snoc hp
    have htx : txts (l.take (i + 1)) = txts (l.take i) ++ [nxt (txts (l.take i)) p] := by rw [hsn, txts_snoc]
    have hL : (lens (txts (l.take i))).length = i + 1 := by rw [lens, List.length_map, hT]
    -- the second half of the round
    have step : lempel_Text.j1 (k + 1) l (lens (txts (l.take i))) (tot (txts (l.take i)) : Nat) l l.length i false p.f0 p.f1 p.f2 =
        lempel_Text.l0 k l (lens (txts (l.take (i + 1)))) (tot (txts (l.take (i + 1))) : Nat) l l.length ((i + 1 : Nat) : Int) := by
      simp only [lempel_Text.j1]
      rw [if_neg (by simp), if_pos h0, if_pos (by omega)]
      have hpre := hb.2
      by_cases hf : p.f2 = true
      · rw [if_pos hf, if_pos (by omega), hlen, wsucc (by omega), w64 (by omega) (by omega), htx, tot_snoc]
        have e : nxt (txts (l.take i)) p = (txts (l.take i)).getD p.f0.toNat [] := by simp [nxt, tail1, hf]
        rw [e, lens, lens, List.map_append]
        simp only [List.map_cons, List.map_nil, Int.natCast_add]
      · rw [if_neg hf, if_pos (by omega), hlen, wsucc (i := ((txts (l.take i)).getD p.f0.toNat []).length) (by omega), wsucc (i := i) (by omega)]
        rw [w64 (by omega) (by omega), htx, tot_snoc]
        have e : (nxt (txts (l.take i)) p).length = ((txts (l.take i)).getD p.f0.toNat []).length + 1 := by simp [nxt, tail1, hf]
        rw [lens, lens, List.map_append]
        simp only [List.map_cons, List.map_nil, e, Int.natCast_add, Int.natCast_one]
    obtain ⟨k', hk', hrun⟩ := ih (i + 1) k (by omega) (by omega) (by omega)
    refine ⟨k', by omega, ?_⟩
    rw [← hrun, ← step]
    simp only [lempel_Text.l0]
    rw [hr, if_pos (by omega), if_pos (by omega), if_pos (by omega), if_neg (by omega), if_neg (by omega)]
    by_cases hf : p.f2 = true
    · obtain ⟨e1, e2, e3⟩ := h2 hf
      rw [if_pos hf, wpred (by omega), if_neg (by omega), if_neg e2, e3]
      rfl
    · rw [if_neg hf]

/-- The second loop: the texts, one behind the other. -/
theorem text_second (l : List S31) (hv : Valid l) (hn : l.length ≤ 4000) (ht : tot (txts l) ≤ 4000) : ∀ (d i k : Nat) (x9 : List ByteArray) (x10 : ByteArray), l.length - i = d → i ≤ l.length → d < k →
    x9.map bs = txts (l.take i) → bs x10 = (txts (l.take i)).flatten →
    ∃ t, lempel_Text.l1 k x9 x10 l l.length i = some (t, none) ∧ bs t = (txts l).flatten := by
  intro d
  induction d with
  | zero =>
    intro i k x9 x10 hd hi hk h9 h10
    obtain ⟨k, rfl⟩ : ∃ m, k = m + 1 := ⟨k - 1, by omega⟩
    obtain rfl : i = l.length := by omega
    simp only [lempel_Text.l1]
    rw [if_neg (by omega)]
    rw [List.take_length] at h10
    exact ⟨x10, rfl, h10⟩
  | succ d ih =>
    intro i k x9 x10 hd hi hk h9 h10
    obtain ⟨k, rfl⟩ : ∃ m, k = m + 1 := ⟨k - 1, by omega⟩
    have hlt : i < l.length := by omega
    obtain ⟨p, hp⟩ : ∃ p, l[i]? = some p := ⟨_, List.getElem?_eq_getElem hlt⟩
    obtain ⟨h0, h1, h2⟩ := hv i p hp
    have hr := rd_get hp
    have hT : (txts (l.take i)).length = i + 1 := by rw [txts_len, List.length_take]; omega
    have h9l : x9.length = i + 1 := by rw [← hT, ← h9, List.length_map]
    have hj : p.f0.toNat < x9.length := by omega
    have hg : bs (rdOf ByteArray.empty x9 p.f0) = (txts (l.take i)).getD p.f0.toNat [] := by
      unfold rdOf
      rw [← h9, List.getD_eq_getElem?_getD, List.getD_eq_getElem?_getD, List.getElem?_map, List.getElem?_eq_getElem hj]
      rfl
    have hsn := take_snoc hp
    have htx : txts (l.take (i + 1)) = txts (l.take i) ++ [nxt (txts (l.take i)) p] := by rw [hsn, txts_snoc]
    have hb := txts_small l (show i ≤ 4000 by omega)
    have hz10 : x10.size ≤ 16000000 := by
      rw [← bs_len, h10, ← tot_flatten]
      omega
    have hzg : (rdOf ByteArray.empty x9 p.f0).size ≤ 4000 := by
      rw [← bs_len, hg, List.getD_eq_getElem?_getD, List.getElem?_eq_getElem (by omega)]
      have := hb.1 _ (List.getElem_mem (show p.f0.toNat < (txts (l.take i)).length by omega))
      simp only [Option.getD_some]
      omega
    simp only [lempel_Text.l1]
    rw [hr, if_pos (by omega), if_pos (by omega), if_pos (by omega), if_pos h0, if_pos (by omega)]
    have app : ∀ a b : ByteArray, bs (a ++ b) = bs a ++ bs b := fun a b => by simp [bs]
    have appz : ∀ a b : ByteArray, (a ++ b).size = a.size + b.size := fun a b => by rw [← bs_len, app, List.length_append, bs_len, bs_len]
    by_cases hf : p.f2 = true
    · have e : nxt (txts (l.take i)) p = bs (rdOf ByteArray.empty x9 p.f0) := by simp [nxt, tail1, hf, hg]
      rw [if_pos hf, if_pos (by omega), if_pos (by omega), wsucc (by omega)]
      refine ih (i + 1) k _ _ (by omega) (by omega) (by omega) ?_ ?_
      · rw [List.map_append, h9, htx, e]; rfl
      · rw [app, h10, htx, List.flatten_append, e]; simp
    · have hnum : bs (strOfNums [p.f1]) = tail1 p := by simp [bs, strOfNums, tail1, hf]
      have hnz : (strOfNums [p.f1]).size = 1 := by rw [strOfNums_size]; rfl
      have e : nxt (txts (l.take i)) p = bs (rdOf ByteArray.empty x9 p.f0 ++ strOfNums [p.f1]) := by rw [app, hg, hnum]; rfl
      rw [if_neg hf]
      simp only [Option.bind_some]
      rw [if_pos (by rw [hnz]; omega), if_pos (by omega), if_pos (by rw [appz, hnz]; omega), wsucc (by omega)]
      refine ih (i + 1) k _ _ (by omega) (by omega) (by omega) ?_ ?_
      · rw [List.map_append, h9, htx, e]; rfl
      · rw [app, h10, htx, List.flatten_append, e]; simp

/-- Text of right phrases. -/
theorem text_run (l : List S31) (hv : Valid l) (hn : l.length ≤ 4000) (ht : tot (txts l) ≤ 4000) (k : Nat) (hk : 3 * l.length + 2 < k) :
    ∃ t, lempel_Text.f k l = some (t, none) ∧ bs t = (txts l).flatten := by
  unfold lempel_Text.f
  rw [if_neg (by omega)]
  obtain ⟨k', h1, h2⟩ := text_first l hv hn ht l.length 0 k (by omega) (by omega) (by omega)
  have h2' : lempel_Text.l0 k l [0] 0 l l.length 0 = lempel_Text.l1 k' [(⟨#[]⟩ : ByteArray)] (⟨#[]⟩ : ByteArray) l l.length 0 := h2
  rw [h2']
  exact text_second l hv hn ht l.length 0 k' [⟨#[]⟩] ⟨#[]⟩ (by omega) (by omega) (by omega) rfl rfl

/-! ### what Parse hands back is right -/
theorem Good.txts {kn : List (List UInt8)} {o : List S31} (h : Good kn o) : ∀ i, i ≤ o.length → txts (o.take i) = kn.take (i + 1) := by
  have hl := h.len
  intro i
  induction i with
  | zero =>
    intro _
    rw [take_snoc (p := []) (show kn[0]? = some [] from h.zero)]
    rfl
  | succ i ih =>
    intro hi
    obtain ⟨p, hp⟩ : ∃ p, o[i]? = some p := ⟨_, List.getElem?_eq_getElem (by omega)⟩
    obtain ⟨h2, h0, h1, _, _, t, ht, ht'⟩ := h.step i p hp
    rw [take_snoc hp, txts_snoc, ih (by omega), take_snoc ht']
    congr 1
    have e : (kn.take (i + 1)).getD p.f0.toNat [] = t := by
      rw [List.getD_eq_getElem?_getD, List.getElem?_take, if_pos (by omega), ht]
      rfl
    rw [List.getD_eq_getElem?_getD] at e
    simp [nxt, tail1, h2, e]
theorem Good.all {kn : List (List UInt8)} {o : List S31} (h : Good kn o) : Pa.txts o = kn := by
  have := h.txts o.length (Nat.le_refl _)
  rw [List.take_length, List.take_of_length_le (by rw [h.len]; omega)] at this
  exact this
theorem Good.valid {kn : List (List UInt8)} {o : List S31} (h : Good kn o) : ∀ (i : Nat) (p : S31), o[i]? = some p → 0 ≤ p.f0 ∧ p.f0 ≤ i ∧ p.f2 = false := fun i p hp => by
  obtain ⟨h2, h0, h1, _⟩ := h.step i p hp
  exact ⟨h0, h1, h2⟩
theorem zero_idx {kn : List (List UInt8)} {o : List S31} (h : Good kn o) {t : List UInt8} (ht : t ∈ kn) (hne : t ≠ []) : kn.idxOf t ≠ 0 := by
  intro e
  have := idx_get ht
  rw [e, h.zero] at this
  exact hne (Option.some.inj this).symm
theorem Final.valid {s : List UInt8} {out : List S31} (h : Final s out) : Valid out ∧ (txts out).flatten = s := by
  obtain ⟨kn, o, hG, h | ⟨t, ht, hne, rfl, hs⟩⟩ := h
  · obtain ⟨rfl, hs⟩ := h
    refine ⟨fun i p hp => ?_, by rw [hG.all]; exact hs⟩
    obtain ⟨a, b, c⟩ := hG.valid i p hp
    exact ⟨a, b, fun e => by rw [c] at e; cases e⟩
  · have hl := List.idxOf_lt_length_iff.2 ht
    have hlen := hG.len
    refine ⟨fun i p hp => ?_, ?_⟩
    · by_cases hi : i < o.length
      · rw [List.getElem?_append_left hi] at hp
        obtain ⟨a, b, c⟩ := hG.valid i p hp
        exact ⟨a, b, fun e => by rw [c] at e; cases e⟩
      · have hi' : i = o.length := by
          have := (List.getElem?_eq_some_iff.1 hp).1
          simp at this
          omega
        subst hi'
        rw [List.getElem?_append_right (Nat.le_refl _)] at hp
        simp only [Nat.sub_self, List.getElem?_cons_zero, Option.some.injEq] at hp
        subst hp
        exact ⟨by simp only; omega, by simp only; omega, fun _ => ⟨by simp, by simp only; have := zero_idx hG ht hne; omega, rfl⟩⟩
    · rw [txts_snoc, hG.all, List.flatten_append]
      have e : kn.getD (kn.idxOf t) [] = t := by rw [List.getD_eq_getElem?_getD, idx_get ht]; rfl
      rw [← hs]
      simp [nxt, tail1, idx_get ht]
theorem Good.count {kn : List (List UInt8)} {o : List S31} (h : Good kn o) : o.length ≤ kn.flatten.length := by
  rw [← tot_flatten]
  have : ∀ i, i ≤ o.length → i ≤ tot (kn.take (i + 1)) := by
    intro i
    induction i with
    | zero => intro _; omega
    | succ i ih =>
      intro hi
      obtain ⟨p, hp⟩ : ∃ p, o[i]? = some p := ⟨_, List.getElem?_eq_getElem (by omega)⟩
      obtain ⟨_, _, _, _, _, t, _, ht'⟩ := h.step i p hp
      rw [take_snoc ht', tot_snoc]
      have := ih (by omega)
      simp
      omega
  have h1 := this o.length (Nat.le_refl _)
  rw [List.take_of_length_le (by rw [h.len]; omega)] at h1
  exact h1
theorem Final.count {s : List UInt8} {out : List S31} (h : Final s out) : out.length ≤ s.length := by
  obtain ⟨kn, o, hG, h | ⟨t, ht, hne, rfl, hs⟩⟩ := h
  · obtain ⟨rfl, hs⟩ := h
    rw [← hs]
    exact hG.count
  · have := hG.count
    have ht : 0 < t.length := List.length_pos_iff.2 hne
    rw [← hs, List.length_append, List.length_append, List.length_singleton]
    omega

end Go.Proofs.YtaonemghafoolaaDoor.Pa
