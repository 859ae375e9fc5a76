/-
  The plain law of Parse: what the printed function answers, said of lists of bytes: the known texts, the phrases.
-/
import Derived.Test.YtaonemghafoolaaDoorQ2
import Derived.Lib.Strings
namespace Go.Proofs.YtaonemghafoolaaDoor.Pa
open Go.RowKit Go.Proofs.YtaonemghafoolaaDoorW.PrintWords Go.Proofs.YtaonemghafoolaaDoorW.PrintLast
open Go.Proofs.YtaonemghafoolaaDoor.Q Go.Proofs.YtaonemghafoolaaDoor.Mp
set_option linter.unusedVariables false

/-! ### bytes -/
def bs (s : ByteArray) : List UInt8 := s.data.toList
theorem bs_len (s : ByteArray) : (bs s).length = s.size := Array.length_toList
theorem bs_inj {s t : ByteArray} (h : bs s = bs t) : s = t := ByteArray.ext (Array.toList_inj.1 h)
theorem bs_ext (s : ByteArray) (a b : Nat) : bs (s.extract a b) = ((bs s).drop a).take (b - a) := Lib.extract_data s a b
theorem bs_take (s : ByteArray) (n : Nat) : bs (s.extract 0 n) = (bs s).take n := by rw [bs_ext]; simp
theorem bs_drop (s : ByteArray) (n : Nat) : bs (s.extract n s.size) = (bs s).drop n := by
  rw [bs_ext, List.take_of_length_le]
  rw [List.length_drop, bs_len]
  omega
theorem bs_toList (s : ByteArray) : s.toList = bs s := ByteArray.toList_eq s
theorem size_ext (s : ByteArray) (a : Nat) (h : a ≤ s.size) : (s.extract a s.size).size = s.size - a := by
  rw [← bs_len, bs_drop, List.length_drop, bs_len]
theorem bt_get (s : ByteArray) (i : Nat) (h : i < s.size) : (bs s)[i]? = some (UInt8.ofNat (bt s i).toNat) := by
  unfold bt bs
  have h' : (i : Int).toNat < s.size := by simpa using h
  rw [dif_pos h']
  rw [List.getElem?_eq_getElem (by simpa [Array.length_toList] using h)]
  simp only [Int.toNat_natCast, UInt8.ofNat_toNat]
  rfl
theorem w64 {x : Int} (h0 : -9223372036854775808 ≤ x) (h1 : x ≤ 9223372036854775807) : wrap64 x = x := by
  unfold wrap64
  omega

/-! ### the map -/
structure MapIs (D : DataW Unit) (kn : List (List UInt8)) : Prop where
  isMap : Maps.IsMap D
  has : ∀ t, kHas D t = true ↔ bs t ∈ kn
  at_ : ∀ t, bs t ∈ kn → kAt D t = (kn.idxOf (bs t) : Nat)
theorem key_ne {s t : ByteArray} (h : bs t ≠ bs s) : key t ≠ key s := by
  intro e
  unfold key at e
  injection e with e
  exact h e
theorem key_is (s : ByteArray) : WideAt.IsKeyLit (key s) := by simp [key, WideAt.IsKeyLit]
theorem kHas_same {D : DataW Unit} (h : Maps.IsMap D) (s : ByteArray) (v : Int) : kHas (kPut D s v) s = true := Maps.has_put_same h (key_is s) _
theorem kHas_other {D : DataW Unit} {s t : ByteArray} (h : bs t ≠ bs s) (v : Int) : kHas (kPut D s v) t = kHas D t := Maps.has_put_other (key_ne h) _
theorem kAt_same {D : DataW Unit} (h : Maps.IsMap D) (s : ByteArray) (v : Int) : kAt (kPut D s v) s = v := by
  unfold kAt kPut
  rw [Maps.atKey_put_same h (key_is s)]
  rfl
theorem kAt_other {D : DataW Unit} {s t : ByteArray} (h : bs t ≠ bs s) (v : Int) : kAt (kPut D s v) t = kAt D t := by
  unfold kAt kPut
  rw [Maps.atKey_put_other (key_ne h)]
theorem MapIs.put {D : DataW Unit} {kn : List (List UInt8)} (h : MapIs D kn) (s : ByteArray) (hs : bs s ∉ kn) (v : Int) (hv : v = (kn.length : Nat)) : MapIs (kPut D s v) (kn ++ [bs s]) := by
  subst hv
  refine ⟨h.isMap.put _ _, fun t => ?_, fun t ht => ?_⟩
  · by_cases e : bs t = bs s
    · obtain rfl := bs_inj e
      rw [kHas_same h.isMap]
      simp
    · rw [kHas_other e, h.has]
      simp [e]
  · by_cases e : bs t = bs s
    · obtain rfl := bs_inj e
      rw [kAt_same h.isMap]
      rw [List.idxOf_append, if_neg hs]
      simp
    · rw [kAt_other e]
      have ht' : bs t ∈ kn := by
        rcases List.mem_append.1 ht with h1 | h1
        · exact h1
        · exact absurd (List.mem_singleton.1 h1) e
      rw [h.at_ t ht', List.idxOf_append, if_pos ht']
theorem MapIs.nil : MapIs kNil [[]] := by
  have h0 : Maps.IsMap (DataW.map [] : DataW Unit) := Maps.isMap_empty
  refine ⟨h0.put _ _, fun t => ?_, fun t ht => ?_⟩
  · by_cases e : bs t = bs ⟨#[]⟩
    · obtain rfl := bs_inj e
      unfold kNil
      rw [kHas_same h0]
      simp [bs]
    · unfold kNil
      rw [kHas_other e]
      have e' : bs t ≠ [] := e
      simp [kHas, Maps.has, e']
  · have e : bs t = bs ⟨#[]⟩ := List.mem_singleton.1 ht
    obtain rfl := bs_inj e
    unfold kNil
    rw [kAt_same h0]
    rfl

/-! ### one phrase -/
theorem l1_run (kn : List (List UInt8)) (D : DataW Unit) (hD : MapIs D kn) (x : ByteArray) (out : List S31) (hx : x.size ≤ 4000) (ho : out.length < 8796093022208) : ∀ (d n k : Nat), x.size - n = d → n ≤ x.size →
    (∀ j, j ≤ n → (bs x).take j ∈ kn) → 2 * d < k →
    ((bs x ∈ kn ∧ (∀ j, (bs x).take j ∈ kn) ∧ lempel_Parse.l1 k x D out n = some (out ++ [⟨(kn.idxOf (bs x) : Nat), 0, true⟩], none)) ∨
     ∃ m k', n ≤ m ∧ m < x.size ∧ (∀ j, j ≤ m → (bs x).take j ∈ kn) ∧ (bs x).take (m + 1) ∉ kn ∧ k ≤ k' + (m + 1 - n) ∧
       lempel_Parse.l1 k x D out n = lempel_Parse.l0 k' (x.extract (m + 1) x.size) (kPut D (x.extract 0 (m + 1)) ((out.length + 1 : Nat) : Int)) (out ++ [⟨(kn.idxOf ((bs x).take m) : Nat), bt x m, false⟩])) := by
  intro d
  induction d with
  | zero =>
    intro n k hd hn hp hk
    obtain ⟨k, rfl⟩ : ∃ m, k = m + 1 := ⟨k - 1, by omega⟩
    obtain rfl : n = x.size := by omega
    left
    have hfull : (bs x).take x.size = bs x := List.take_of_length_le (by rw [bs_len]; omega)
    have hmem : bs x ∈ kn := by have := hp x.size (Nat.le_refl _); rwa [hfull] at this
    refine ⟨hmem, fun j => ?_, ?_⟩
    · by_cases hj : j ≤ x.size
      · exact hp j hj
      · rw [List.take_of_length_le (by rw [bs_len]; omega)]; exact hmem
    · simp only [lempel_Parse.l1]
      rw [if_neg (by omega), if_pos trivial, if_pos ho, hD.at_ x hmem]
  | succ d ih =>
    intro n k hd hn hp hk
    obtain ⟨k, rfl⟩ : ∃ m, k = m + 1 := ⟨k - 1, by omega⟩
    have hlt : n < x.size := by omega
    have hw : wrap64 ((n : Int) + 1) = ((n + 1 : Nat) : Int) := by rw [w64 (by omega) (by omega)]; omega
    have hto : (((n + 1 : Nat) : Int)).toNat = n + 1 := by omega
    simp only [lempel_Parse.l1]
    rw [if_pos (by omega), hw, hto, if_pos (by omega), if_pos (by omega)]
    have hb := bs_take x (n + 1)
    by_cases hh : kHas D (x.extract 0 (n + 1)) = true
    · rw [if_pos hh]
      have hm : (bs x).take (n + 1) ∈ kn := by rw [← hb]; exact (hD.has _).1 hh
      have hp' : ∀ j, j ≤ n + 1 → (bs x).take j ∈ kn := by
        intro j hj
        by_cases e : j = n + 1
        · rw [e]; exact hm
        · exact hp j (by omega)
      rcases ih (n + 1) k (by omega) (by omega) hp' (by omega) with h | ⟨m, k', h1, h2, h3, h4, h5, h6⟩
      · exact .inl h
      · exact .inr ⟨m, k', by omega, h2, h3, h4, by omega, h6⟩
    · rw [if_neg hh, if_neg (by omega), if_pos (by omega), if_pos (by omega), if_pos ho]
      have hm : (bs x).take (n + 1) ∉ kn := by rw [← hb]; exact fun h => hh ((hD.has _).2 h)
      refine .inr ⟨n, k, Nat.le_refl _, hlt, hp, hm, by omega, ?_⟩
      have hb0 := bs_take x n
      have ha : kAt D (x.extract 0 n) = (kn.idxOf ((bs x).take n) : Nat) := by rw [← hb0]; exact hD.at_ _ (by rw [hb0]; exact hp n (Nat.le_refl _))
      simp only [Int.toNat_natCast, ha, Option.bind_some, List.length_append, List.length_cons, List.length_nil]

/-! ### all phrases -/
structure Good (kn : List (List UInt8)) (out : List S31) : Prop where
  len : kn.length = out.length + 1
  nodup : kn.Nodup
  zero : kn[0]? = some []
  step : ∀ (i : Nat) (p : S31), out[i]? = some p → p.f2 = false ∧ 0 ≤ p.f0 ∧ p.f0 ≤ i ∧ 0 ≤ p.f1 ∧ p.f1 ≤ 255 ∧ ∃ t, kn[p.f0.toNat]? = some t ∧ kn[i + 1]? = some (t ++ [UInt8.ofNat p.f1.toNat])
theorem idx_get {kn : List (List UInt8)} {t : List UInt8} (h : t ∈ kn) : kn[kn.idxOf t]? = some t := by
  have h1 := List.idxOf_lt_length_iff.2 h
  rw [List.getElem?_eq_getElem h1, List.getElem_idxOf h1]
theorem Good.push {kn : List (List UInt8)} {out : List S31} (h : Good kn out) {t : List UInt8} (ht : t ∈ kn) {c : Int} (c0 : 0 ≤ c) (c1 : c ≤ 255) (hn : t ++ [UInt8.ofNat c.toNat] ∉ kn) :
    Good (kn ++ [t ++ [UInt8.ofNat c.toNat]]) (out ++ [⟨(kn.idxOf t : Nat), c, false⟩]) := by
  have h1 := List.idxOf_lt_length_iff.2 ht
  have hl := h.len
  refine ⟨by simp [hl], ?_, ?_, ?_⟩
  · rw [List.nodup_append]
    refine ⟨h.nodup, by simp, ?_⟩
    intro a ha b hb
    rw [List.mem_singleton.1 hb]
    rintro rfl
    exact hn ha
  · rw [List.getElem?_append_left (by omega)]
    exact h.zero
  · intro i p hp
    by_cases hi : i < out.length
    · rw [List.getElem?_append_left hi] at hp
      obtain ⟨a, b, c', d, e, t', h2, h3⟩ := h.step i p hp
      refine ⟨a, b, c', d, e, t', ?_, ?_⟩
      · rw [List.getElem?_append_left (by omega)]; exact h2
      · rw [List.getElem?_append_left (by omega)]; exact h3
    · have hi' : i = out.length := by
        have := (List.getElem?_eq_some_iff.1 hp).1
        simp at this
        omega
      subst hi'
      rw [List.getElem?_append_right (Nat.le_refl _)] at hp
      simp only [Nat.sub_self, List.getElem?_cons_zero, Option.some.injEq] at hp
      subst hp
      refine ⟨rfl, by simp only; omega, by simp only; omega, c0, c1, t, ?_, ?_⟩
      · simp only [Int.toNat_natCast]
        rw [List.getElem?_append_left h1]
        exact idx_get ht
      · rw [List.getElem?_append_right (by omega)]
        rw [show out.length + 1 - kn.length = 0 from by omega]
        rfl
/-- What Parse hands back of the text s. -/
def Final (s : List UInt8) (out : List S31) : Prop :=
  ∃ kn o, Good kn o ∧ ((out = o ∧ kn.flatten = s) ∨ ∃ t, t ∈ kn ∧ t ≠ [] ∧ out = o ++ [⟨(kn.idxOf t : Nat), 0, true⟩] ∧ kn.flatten ++ t = s)

theorem l0_run : ∀ (r : Nat) (x : ByteArray) (D : DataW Unit) (kn : List (List UInt8)) (out : List S31) (k : Nat), x.size = r → out.length + r ≤ 4000 → MapIs D kn → Good kn out → 2 * r + 1 < k →
    ∃ out', lempel_Parse.l0 k x D out = some (out', none) ∧ Final (kn.flatten ++ bs x) out' := by
  intro r
  induction r using Nat.strongRecOn with
  | _ r ih =>
  intro x D kn out k hr ho hD hG hk
  obtain ⟨k, rfl⟩ : ∃ m, k = m + 1 := ⟨k - 1, by omega⟩
  simp only [lempel_Parse.l0]
  by_cases h0 : x.toList = []
  · rw [if_pos h0]
    refine ⟨out, rfl, kn, out, hG, .inl ⟨rfl, ?_⟩⟩
    rw [← bs_toList, h0, List.append_nil]
  · rw [if_neg h0]
    have hne : bs x ≠ [] := by rw [← bs_toList]; exact h0
    have h00 : ([] : List UInt8) ∈ kn := List.mem_of_getElem? hG.zero
    rcases l1_run kn D hD x out (by omega) (by omega) x.size 0 k (by omega) (by omega) (fun j hj => by rw [show j = 0 from by omega]; exact h00) (by omega) with ⟨h1, h2, h3⟩ | ⟨m, k', h1, h2, h3, h4, h5, h6⟩
    · have h3' : lempel_Parse.l1 k x D out 0 = _ := h3
      rw [h3']
      exact ⟨_, rfl, kn, out, hG, .inr ⟨bs x, h1, hne, rfl, rfl⟩⟩
    · have h6' : lempel_Parse.l1 k x D out 0 = _ := h6
      rw [h6']
      have hm := h3 m (Nat.le_refl _)
      have hr2 := bt_range x (m : Int)
      have htk : (bs x).take (m + 1) = (bs x).take m ++ [UInt8.ofNat (bt x (m : Int)).toNat] := by
        rw [List.take_add_one, bt_get x m h2]
        rfl
      have hG' := hG.push hm hr2.1 hr2.2 (by rw [← htk]; exact h4)
      rw [← htk] at hG'
      have hb : bs (x.extract 0 (m + 1)) = (bs x).take (m + 1) := bs_take x (m + 1)
      have hD' := hD.put (x.extract 0 (m + 1)) (by rw [hb]; exact h4) ((out.length + 1 : Nat) : Int) (by rw [hG.len])
      rw [hb] at hD'
      have hs' := size_ext x (m + 1) (by omega)
      obtain ⟨out', h7, h8⟩ := ih (x.size - (m + 1)) (by omega) (x.extract (m + 1) x.size) _ _ (out ++ [⟨(kn.idxOf ((bs x).take m) : Nat), bt x m, false⟩]) k' hs' (by simp; omega) hD' hG' (by omega)
      refine ⟨out', h7, ?_⟩
      have e : (kn ++ [(bs x).take (m + 1)]).flatten ++ bs (x.extract (m + 1) x.size) = kn.flatten ++ bs x := by
        rw [bs_drop, List.flatten_append]
        simp [List.append_assoc, List.take_append_drop]
      rw [← e]
      exact h8

theorem Good.nil : Good [[]] [] := ⟨rfl, by simp, rfl, fun i p h => by simp at h⟩
/-- Parse of a text of at most 4000 bytes. -/
theorem parse_run (s : ByteArray) (k : Nat) (hs : s.size ≤ 4000) (hk : 2 * s.size + 1 < k) : ∃ out, lempel_Parse.f k s = some (out, none) ∧ Final (bs s) out := by
  unfold lempel_Parse.f
  rw [if_neg (by omega)]
  obtain ⟨out, h1, h2⟩ := l0_run s.size s kNil [[]] [] k rfl (by simpa using hs) MapIs.nil Good.nil hk
  exact ⟨out, h1, by simpa using h2⟩
theorem abab_run : demonlaw2_abab.f 20 = some true := by kernel_rfl

end Go.Proofs.YtaonemghafoolaaDoor.Pa
