/-
  The plain law of LempelParse: Parse's phrases are ParseOf's.
-/
import Derived.Test.YtaonemghafoolaaDoorVParse
import Derived.Test.YtaonemghafoolaaDoorPb
import Derived.Test.YtaonemghafoolaaDoorPd
namespace Go.Proofs.YtaonemghafoolaaDoor.Pe
open Go.RowKit Go.Proofs.YtaonemghafoolaaDoorW.PrintWords Go.Proofs.YtaonemghafoolaaDoorW.PrintLast Go.Proofs.YtaonemghafoolaaDoorW.PrintMore
open Go.Proofs.YtaonemghafoolaaDoor.Q Go.Proofs.YtaonemghafoolaaDoor.Mp Go.Proofs.YtaonemghafoolaaDoor.V
open Go.Proofs.YtaonemghafoolaaDoor.Pa Go.Proofs.YtaonemghafoolaaDoor.Pc
set_option linter.unusedVariables false

/-- The same phrase, of either package. -/
def Eq3 (p : S31) (q : PLempelParse.S40) : Prop := p.f0 = q.f0 ∧ p.f1 = q.f1 ∧ p.f2 = q.f2
def Same (l : List S31) (m : List PLempelParse.S40) : Prop := l.length = m.length ∧ ∀ i : Nat, ∀ p q, l[i]? = some p → m[i]? = some q → Eq3 p q
theorem Same.nil : Same [] [] := ⟨rfl, fun i p q h => by simp at h⟩
theorem Same.push {l : List S31} {m : List PLempelParse.S40} (h : Same l m) {p : S31} {q : PLempelParse.S40} (e : Eq3 p q) : Same (l ++ [p]) (m ++ [q]) := by
  refine ⟨by simp [h.1], fun i p' q' hp hq => ?_⟩
  by_cases hi : i < l.length
  · rw [List.getElem?_append_left hi] at hp
    rw [List.getElem?_append_left (by rw [← h.1]; exact hi)] at hq
    exact h.2 i p' q' hp hq
  · have hl := (List.getElem?_eq_some_iff.1 hp).1
    simp at hl
    have hi' : i = l.length := by omega
    subst hi'
    rw [List.getElem?_append_right (Nat.le_refl _)] at hp
    rw [List.getElem?_append_right (by rw [h.1]; exact Nat.le_refl _)] at hq
    rw [h.1] at hq
    simp at hp hq
    rw [← hp, ← hq]
    exact e

theorem idx_of {kn : List (List UInt8)} (hn : kn.Nodup) {i : Nat} {t : List UInt8} (h : kn[i]? = some t) : kn.idxOf t = i := by
  have hi := (List.getElem?_eq_some_iff.1 h).1
  have h1 := idx_get (List.mem_of_getElem? h)
  rw [← h] at h1
  have h2 : kn.idxOf t < kn.length := List.idxOf_lt_length_iff.2 (List.mem_of_getElem? h)
  exact (List.getElem?_inj h2 hn).1 h1

/-- Every leading part of a known text is known. -/
def Closed (kn : List (List UInt8)) : Prop := ∀ t ∈ kn, ∀ j, t.take j ∈ kn

/-- What the search along the known texts has found: the longest one that the text begins with. -/
structure Inv (x : List UInt8) (kn : List (List UInt8)) (i b l : Nat) : Prop where
  le : l ≤ x.length
  mem : x.take l ∈ kn
  idx : b = kn.idxOf (x.take l)
  max : ∀ i', i' < i → ∀ t, kn[i' + 1]? = some t → x.take t.length = t → t.length ≤ l

theorem begins (t u : ByteArray) : PLempelParse.demonref2_Begins.f t u = some (decide ((bs u).take (bs t).length = bs t)) := by
  unfold PLempelParse.demonref2_Begins.f
  by_cases h : (t.size : Int) ≤ (u.size : Int)
  · rw [if_pos h, if_pos (by omega)]
    congr 1
    rw [bs_toList, bs_toList, Int.toNat_natCast, bs_take, bs_len]
    by_cases e : List.take t.size (bs u) = bs t
    · simp [e]
    · simp [e]
  · rw [if_neg h]
    congr 1
    refine (decide_eq_false ?_).symm
    intro e
    have := congrArg List.length e
    rw [List.length_take, bs_len, bs_len] at this
    omega

theorem search (s x : ByteArray) (known : List ByteArray) (kn : List (List UInt8)) (out : List PLempelParse.S40) (at_ : Nat) (r : List PLempelParse.S40)
    (hs : s.size ≤ 4000) (hat : at_ ≤ s.size) (hx : x = s.extract at_ s.size) (hkn : kn = [] :: known.map bs) (hnd : kn.Nodup) (hkl : known.length ≤ 4000)
    (hend : ∀ b l : Nat, Inv (bs x) kn known.length b l → Ev (fun k => PLempelParse.demonref2_ParseOf.l1 k s out known at_ b l known.length) r) :
    ∀ (d i b l : Nat), known.length - i = d → i ≤ known.length → Inv (bs x) kn i b l → Ev (fun k => PLempelParse.demonref2_ParseOf.l1 k s out known at_ b l i) r := by
  intro d
  induction d with
  | zero =>
    intro i b l hd hi hI
    obtain rfl : i = known.length := by omega
    exact hend b l hI
  | succ d ih =>
    intro i b l hd hi hI
    have hi' : i < known.length := by omega
    obtain ⟨t, ht⟩ : ∃ t, known[i]? = some t := ⟨_, List.getElem?_eq_getElem hi'⟩
    have hrd : rdOf ByteArray.empty known (i : Int) = t := by
      unfold rdOf
      rw [Int.toNat_natCast, List.getD_eq_getElem?_getD, ht]
      rfl
    have hk : kn[i + 1]? = some (bs t) := by rw [hkn, List.getElem?_cons_succ, List.getElem?_map, ht]; rfl
    have hskip : (bs x).take (bs t).length ≠ bs t ∨ t.size ≤ l → Inv (bs x) kn (i + 1) b l := by
      intro h
      refine ⟨hI.le, hI.mem, hI.idx, fun i' hi' u hu he => ?_⟩
      by_cases e : i' = i
      · subst e
        rw [hk] at hu
        obtain rfl := Option.some.inj hu
        rcases h with h | h
        · exact absurd he h
        · rw [bs_len]; exact h
      · exact hI.max i' (by omega) u hu he
    by_cases hl : t.size > l
    · by_cases hb : (bs x).take (bs t).length = bs t
      · have htl := congrArg List.length hb
        rw [List.length_take, bs_len, bs_len] at htl
        have hI' : Inv (bs x) kn (i + 1) (i + 1) t.size := by
          rw [bs_len] at hb
          refine ⟨by rw [bs_len]; omega, by rw [hb]; exact List.mem_of_getElem? hk, by rw [hb, idx_of hnd hk], fun i' hi' u hu he => ?_⟩
          by_cases e : i' = i
          · subst e
            rw [hk] at hu
            obtain rfl := Option.some.inj hu
            rw [bs_len]
            exact Nat.le_refl _
          · have := hI.max i' (by omega) u hu he
            omega
        refine ev_next (fun k => ?_) (ih (i + 1) (i + 1) t.size (by omega) (by omega) hI')
        simp only [PLempelParse.demonref2_ParseOf.l1]
        rw [hrd, if_pos (by omega), if_pos (by omega), if_pos (by omega), if_pos (by omega), if_pos (by omega), Int.toNat_natCast, ← hx, begins, Option.bind_some, if_pos (decide_eq_true hb), Pc.wsucc (by omega)]
      · refine ev_next (fun k => ?_) (ih (i + 1) b l (by omega) (by omega) (hskip (.inl hb)))
        simp only [PLempelParse.demonref2_ParseOf.l1]
        rw [hrd, if_pos (by omega), if_pos (by omega), if_pos (by omega), if_pos (by omega), if_pos (by omega), Int.toNat_natCast, ← hx, begins, Option.bind_some, if_neg (by simp [hb]), Pc.wsucc (by omega)]
    · refine ev_next (fun k => ?_) (ih (i + 1) b l (by omega) (by omega) (hskip (.inr (by omega))))
      simp only [PLempelParse.demonref2_ParseOf.l1]
      rw [hrd, if_pos (by omega), if_pos (by omega), if_neg (by omega), Pc.wsucc (by omega)]

/-- Both, phrase by phrase. -/
theorem both (s : ByteArray) (hs : s.size ≤ 4000) : ∀ (r : Nat) (x : ByteArray) (D : DataW Unit) (kn : List (List UInt8)) (out : List S31) (known : List ByteArray) (out' : List PLempelParse.S40) (at_ k : Nat),
    x.size = r → out.length + r ≤ 4000 → MapIs D kn → Pa.Good kn out → Closed kn → kn = [] :: known.map bs → Same out out' → x = s.extract at_ s.size → at_ + r = s.size → 2 * r + 1 < k →
    ∃ o o', lempel_Parse.l0 k x D out = some (o, none) ∧ Ev (fun k => PLempelParse.demonref2_ParseOf.l0 k s out' known at_) o' ∧ Same o o' := by
  intro r
  induction r using Nat.strongRecOn with
  | _ r ih =>
  intro x D kn out known out' at_ k hr ho hD hG hC hkn hS hx hat hk
  obtain ⟨k, rfl⟩ : ∃ m, k = m + 1 := ⟨k - 1, by omega⟩
  have hlen : known.length = out.length := by have := hG.len; rw [hkn] at this; simpa using this
  have hol : out'.length = out.length := hS.1.symm
  simp only [lempel_Parse.l0]
  by_cases h0 : x.toList = []
  · rw [if_pos h0]
    have hz : x.size = 0 := by rw [bs_toList] at h0; rw [← bs_len, h0]; rfl
    refine ⟨out, out', rfl, ev_end (fun k => ?_), hS⟩
    simp only [PLempelParse.demonref2_ParseOf.l0]
    rw [if_neg (by omega)]
  · rw [if_neg h0]
    have hne : bs x ≠ [] := by rw [← bs_toList]; exact h0
    have hz : 0 < x.size := by
      rcases Nat.eq_zero_or_pos x.size with h | h
      · rw [← bs_len] at h; exact absurd (List.length_eq_zero_iff.1 h) hne
      · exact h
    have h00 : ([] : List UInt8) ∈ kn := List.mem_of_getElem? hG.zero
    have hI0 : Inv (bs x) kn 0 0 0 := ⟨Nat.zero_le _, h00, (idx_of hG.nodup hG.zero).symm, fun i' hi' => absurd hi' (Nat.not_lt_zero _)⟩
    have hmax : ∀ b l : Nat, Inv (bs x) kn known.length b l → ∀ j, j ≤ x.size → (bs x).take j ∈ kn → j ≤ l := by
      intro b l hI j hj hm
      obtain ⟨i, hi⟩ := List.getElem?_of_mem hm
      have hjl : ((bs x).take j).length = j := by rw [List.length_take, bs_len]; omega
      rcases i with _ | i
      · rw [hG.zero] at hi
        have := congrArg List.length (Option.some.inj hi)
        rw [hjl] at this
        have : j = 0 := this.symm
        omega
      · have hil : i < known.length := by have := (List.getElem?_eq_some_iff.1 hi).1; rw [hkn] at this; simpa using this
        have := hI.max i hil _ hi (by rw [hjl])
        omega
    rcases l1_run kn D hD x out (by omega) (by omega) x.size 0 k (by omega) (by omega) (fun j hj => by rw [show j = 0 from by omega]; exact h00) (by omega) with ⟨h1, h2, h3⟩ | ⟨m, k', h1, h2, h3, h4, h5, h6⟩
    · have h3' : lempel_Parse.l1 k x D out 0 = _ := h3
      rw [h3']
      refine ⟨_, out' ++ [⟨(kn.idxOf (bs x) : Nat), 0, true⟩], rfl, ?_, hS.push ⟨rfl, rfl, rfl⟩⟩
      have hfull : (bs x).take x.size = bs x := List.take_of_length_le (by rw [bs_len]; omega)
      refine ev_next (fun k => ?_) (search s x known kn out' at_ _ hs (by omega) hx hkn hG.nodup (by omega) ?_ known.length 0 0 0 (by omega) (by omega) hI0)
      · simp only [PLempelParse.demonref2_ParseOf.l0]
        rw [if_pos (by omega)]
        rfl
      · intro b l hI
        have hl : l = x.size := by
          have := hmax b l hI x.size (Nat.le_refl _) (by rw [hfull]; exact h1)
          have := hI.le
          rw [bs_len] at this
          omega
        subst hl
        have hb := hI.idx
        rw [hfull] at hb
        refine ev_end (fun k => ?_)
        simp only [PLempelParse.demonref2_ParseOf.l1]
        rw [if_neg (by omega), w64 (by omega) (by omega), if_pos (by omega), if_pos (by omega), hb]
    · have h6' : lempel_Parse.l1 k x D out 0 = _ := h6
      rw [h6']
      have hm := h3 m (Nat.le_refl _)
      have hr2 := bt_range x (m : Int)
      have htk : (bs x).take (m + 1) = (bs x).take m ++ [UInt8.ofNat (bt x (m : Int)).toNat] := by
        rw [List.take_add_one, bt_get x m h2]
        rfl
      have hG' := hG.push hm hr2.1 hr2.2 (by rw [← htk]; exact h4)
      rw [← htk] at hG'
      have hb : bs (x.extract 0 (m + 1)) = (bs x).take (m + 1) := bs_take x (m + 1)
      have hD' := hD.put (x.extract 0 (m + 1)) (by rw [hb]; exact h4) ((out.length + 1 : Nat) : Int) (by rw [hG.len])
      rw [hb] at hD'
      have hs' := size_ext x (m + 1) (by omega)
      have hC' : Closed (kn ++ [(bs x).take (m + 1)]) := by
        intro t ht j
        rcases List.mem_append.1 ht with h | h
        · exact List.mem_append_left _ (hC t h j)
        · rw [List.mem_singleton.1 h, List.take_take]
          by_cases hj : j ≤ m
          · rw [show min j (m + 1) = j from by omega]
            exact List.mem_append_left _ (h3 j hj)
          · rw [show min j (m + 1) = m + 1 from by omega]
            exact List.mem_append_right _ (List.mem_singleton.2 rfl)
      have hxe : bs x = (bs s).drop at_ := by rw [hx, bs_drop]
      have hbt : bt x (m : Int) = bt s ((at_ + m : Nat) : Int) := by
        have g1 := bt_get x m h2
        have g2 := bt_get s (at_ + m) (by omega)
        rw [hxe, List.getElem?_drop, g2] at g1
        have g3 := Option.some.inj g1
        have r1 := bt_range x (m : Int)
        have r2 := bt_range s ((at_ + m : Nat) : Int)
        have g4 := congrArg UInt8.toNat g3
        rw [UInt8.toNat_ofNat_of_lt' (by show _ < 256; omega), UInt8.toNat_ofNat_of_lt' (by show _ < 256; omega)] at g4
        omega
      have hx' : x.extract (m + 1) x.size = s.extract (at_ + m + 1) s.size := by
        apply bs_inj
        rw [bs_drop, bs_drop, hxe, List.drop_drop]
        congr 1
      have hke : bs (s.extract at_ (at_ + m + 1)) = (bs x).take (m + 1) := by
        rw [bs_ext, hxe]
        congr 1
        omega
      obtain ⟨o, o', h7, h8, h9⟩ := ih (x.size - (m + 1)) (by omega) (x.extract (m + 1) x.size) _ _ (out ++ [⟨(kn.idxOf ((bs x).take m) : Nat), bt x m, false⟩]) (known ++ [s.extract at_ (at_ + m + 1)])
        (out' ++ [⟨(kn.idxOf ((bs x).take m) : Nat), bt x m, false⟩]) (at_ + m + 1) k' hs' (by simp; omega) hD' hG' hC' (by rw [hkn, List.map_append, ← hke]; rfl) (hS.push ⟨rfl, rfl, rfl⟩) hx' (by omega) (by omega)
      refine ⟨o, o', h7, ?_, h9⟩
      refine ev_next (fun k => ?_) (search s x known kn out' at_ _ hs (by omega) hx hkn hG.nodup (by omega) ?_ known.length 0 0 0 (by omega) (by omega) hI0)
      · simp only [PLempelParse.demonref2_ParseOf.l0]
        rw [if_pos (by omega)]
        rfl
      · intro b l hI
        have hle := hI.le
        rw [bs_len] at hle
        have hl : l = m := by
          have h10 := hmax b l hI m (by omega) hm
          by_cases h11 : l = m
          · exact h11
          · exfalso
            apply h4
            have := hC _ hI.mem (m + 1)
            rwa [List.take_take, show min (m + 1) l = m + 1 from by omega] at this
        subst hl
        have hb := hI.idx
        refine ev_next (fun k => ?_) h8
        simp only [PLempelParse.demonref2_ParseOf.l1]
        rw [if_neg (by omega), w64 (by omega) (by omega), if_neg (by omega), if_pos (by omega), if_pos (by omega), if_pos (by omega), if_pos (by omega), w64 (by omega) (by omega), if_pos (by omega), if_pos (by omega), if_pos (by omega), hb, hbt]
        rfl

theorem Closed.nil : Closed [[]] := fun t ht j => by rw [List.mem_singleton.1 ht]; simp
/-- Parse and ParseOf tell the same. -/
theorem parse_same (s : ByteArray) (hs : s.size ≤ 4000) : ∃ o o', Ev (fun k => lempel_Parse.f k s) (o, none) ∧ Ev (fun k => PLempelParse.demonref2_ParseOf.f k s) o' ∧ Same o o' := by
  obtain ⟨o, o', h1, h2, h3⟩ := both s hs s.size s kNil [[]] [] [] [] 0 (2 * s.size + 2) rfl (by simpa using hs) MapIs.nil Good.nil Closed.nil rfl Same.nil (by apply bs_inj; rw [bs_drop]; rfl) (by omega) (by omega)
  refine ⟨o, o', Ev.of (g := fun k => lempel_Parse.f k s) (lempel_Parse.mono s) (k := 2 * s.size + 2) ?_, h2, h3⟩
  show lempel_Parse.f _ s = _
  unfold lempel_Parse.f
  rw [if_neg (by omega)]
  exact h1
theorem rd40_get {l : List PLempelParse.S40} {i : Nat} {q : PLempelParse.S40} (h : l[i]? = some q) : PLempelParse.rd_T40 l (i : Int) = q := by
  unfold PLempelParse.rd_T40
  rw [Int.toNat_natCast, List.getD_eq_getElem?_getD, h]
  rfl
theorem loop (o : List S31) (o' : List PLempelParse.S40) (hS : Same o o') (hl : o.length ≤ 5000) : ∀ (d i : Nat), o.length - i = d → i ≤ o.length → Ev (fun k => demonlaw2_LempelParse.l0 k o o' i) true := by
  intro d
  induction d with
  | zero =>
    intro i hd hi
    refine ev_end (fun k => ?_)
    simp only [demonlaw2_LempelParse.l0]
    rw [if_neg (by omega)]
  | succ d ih =>
    intro i hd hi
    have h1 := hS.1
    obtain ⟨p, hp⟩ : ∃ p, o[i]? = some p := ⟨_, List.getElem?_eq_getElem (by omega)⟩
    obtain ⟨q, hq⟩ : ∃ q, o'[i]? = some q := ⟨_, List.getElem?_eq_getElem (by omega)⟩
    obtain ⟨e0, e1, e2⟩ := hS.2 i p q hp hq
    refine ev_next (fun k => ?_) (ih (i + 1) (by omega) (by omega))
    simp only [demonlaw2_LempelParse.l0]
    rw [Pa.rd_get hp, rd40_get hq, if_pos (by omega), if_pos (by omega), if_pos (by omega), if_pos e0, if_pos e1, if_neg (by rw [e2]; simp), Pc.wsucc (by omega)]
theorem abab_ev : Ev (fun k => demonlaw2_abab.f k) true := Ev.of (g := fun k => demonlaw2_abab.f k) demonlaw2_abab.mono abab_run

theorem law (s : ByteArray) (hs : s.size ≤ 4000) : ∃ k, demonlaw2_LempelParse.f k s = some true := by
  apply Ev.rounds (g := fun k => demonlaw2_LempelParse.f k s)
  unfold demonlaw2_LempelParse.f
  refine Ev.bind abab_ev ?_
  refine ev_same (fun k => if_pos rfl) ?_
  by_cases h3 : (s.size : Int) > 300
  · refine ev_same (fun k => if_pos h3) ?_
    refine ev_end (fun k => ?_)
    simp only [demonlaw2_LempelParse.j0]
    rw [if_pos (by simp; omega)]
  · refine ev_same (fun k => if_neg h3) ?_
    obtain ⟨o, o', h1, h2, hS⟩ := parse_same s hs
    obtain ⟨o2, h1', hF⟩ := parse_run s (2 * s.size + 2) hs (by omega)
    have hc := hF.count
    rw [bs_len] at hc
    have ho2 : o2 = o := by
      have e := Ev.of (g := fun k => lempel_Parse.f k s) (lempel_Parse.mono s) h1'
      obtain ⟨K1, e1⟩ := e
      obtain ⟨K2, e2⟩ := h1
      have a := e1 (max K1 K2) (by omega)
      have b := e2 (max K1 K2) (by omega)
      rw [a] at b
      exact congrArg Prod.fst (Option.some.inj b)
    rw [ho2] at hc
    refine ev_next (h := fun k => (lempel_Parse.f k s).bind fun bt134 => (if (s.size : Int) > 4000 then (none) else ((PLempelParse.demonref2_ParseOf.f k s).bind fun t138 => (if bt134.2.isNone = true then (demonlaw2_LempelParse.j1 k bt134.1 t138 ((bt134.1.length : Int) != (t138.length : Int))) else (demonlaw2_LempelParse.j1 k bt134.1 t138 true))))) (fun k => ?_) ?_
    · simp only [demonlaw2_LempelParse.j0]
      rw [if_neg (by simp)]
    · refine Ev.bind h1 ?_
      refine ev_same (fun k => if_neg (by omega)) ?_
      refine Ev.bind h2 ?_
      refine ev_same (fun k => if_pos rfl) ?_
      refine ev_next (fun k => ?_) (loop o o' hS (by omega) o.length 0 (by omega) (by omega))
      simp only [demonlaw2_LempelParse.j1]
      rw [if_neg (by simp [hS.1])]
      rfl
end Go.Proofs.YtaonemghafoolaaDoor.Pe
