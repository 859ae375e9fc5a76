/-
  strings.Builder at this dump: copyCheck and WriteString walked here, String by the shelf's contract (laid in plain words).
-/
import Derived.Shelf.Strings.Builder1
import Derived.Test.YtaonemghafoolaaDoorWWords
import Derived.Test.YtaonemghafoolaaDoorProg
import Derived.Lib.Strings
import Derived.Lib.Slices
import Derived.Lib.Walk
import Derived.Lib.Builder
import Derived.Lib.AppendStr
import Derived.Lib.UnsafeStr
import Derived.WalkKit
import Derived.Laws.Externs
namespace Go.Proofs.YtaonemghafoolaaDoor.Bld
open Go.Shelf Go.RowKit
set_option linter.unusedVariables false
def Tryd.lays169_ren : Go.Shelf.Ren := ⟨fun | 169 => 22 | n => n, fun | 70 => 63 | 9 => 9 | 0 => 0 | 72 => 66 | 37 => 64 | 127 => 73 | 3 => 3 | 5 => 5 | n => n, fun | n => n⟩
theorem Tryd.lays169 : Go.Proofs.Lays.n169 Tryd.prog Tryd.lays169_ren := {
  mixed := by kernel_rfl
  f169 := Tryd.func22.trans (congrArg some (by kernel_rfl))
  t0 := Tryd.underlying0
  a0 := Tryd.isAgg0
  z0 := Tryd.sizeOf0
  v0 := Tryd.zeroValue0
  t3 := Tryd.underlying3
  a3 := Tryd.isAgg3
  z3 := Tryd.sizeOf3
  v3 := Tryd.zeroValue3
  t9 := Tryd.underlying9
  a9 := Tryd.isAgg9
  z9 := Tryd.sizeOf9
  v9 := Tryd.zeroValue9
  t37 := Tryd.underlying64
  a37 := Tryd.isAgg64
  z37 := Tryd.sizeOf64
  v37 := Tryd.zeroValue64
  t70 := Tryd.underlying63
  a70 := Tryd.isAgg63
  z70 := Tryd.sizeOf63
  v70 := Tryd.zeroValue63
  t72 := Tryd.underlying66
  a72 := Tryd.isAgg66
  z72 := Tryd.sizeOf66
  v72 := Tryd.zeroValue66
  t127 := Tryd.underlying73
  a127 := Tryd.isAgg73
  z127 := Tryd.sizeOf73
  v127 := Tryd.zeroValue73 }
theorem Tryd.Builder_Extra_169 : Builder.Extra Tryd.prog Tryd.lays169_ren := {
  sizeBuilder := by kernel_rfl
  liesBuilder := by kernel_rfl
  t5 := Tryd.underlying5
  a5 := Tryd.isAgg5
  z5 := Tryd.sizeOf5
  v5 := Tryd.zeroValue5
  infoByte := by kernel_rfl
  cellsByte := by kernel_rfl
  sizeByte := by kernel_rfl
  neB5 := by decide }
open Go.RowKit in
theorem Tryd.Builder_String (B b : Nat) (l : List UInt8) (w : World) (h : Lib.IsBuilder 66 5 B b (Lib.byteCells l) w) (h0 : l ≠ []) :
    Calls Tryd.prog 22 #[.pointer (some ⟨b, 0, none⟩)] w fun e w' => e = .returned (.string ⟨l.toArray⟩) ∧ Below B w w' := Any.Builder_String Tryd.lays169 Tryd.Builder_Extra_169 B b l w h h0
open Go.RowKit in
theorem Tryd.Builder_String_empty (B b : Nat) (w : World) (h : Lib.IsBuilder 66 5 B b [] w) (hBw : B ≤ w.heap.size) :
    Calls Tryd.prog 22 #[.pointer (some ⟨b, 0, none⟩)] w fun e w' => e = .returned (.string ⟨#[]⟩) ∧ Below B w w' := Any.Builder_String_empty Tryd.lays169 Tryd.Builder_Extra_169 B b w h hBw
open Go.RowKit in
theorem Tryd.Builder_String_any (B b : Nat) (l : List UInt8) (w : World) (h : Lib.IsBuilder 66 5 B b (Lib.byteCells l) w) (hBw : B ≤ w.heap.size) :
    Calls Tryd.prog 22 #[.pointer (some ⟨b, 0, none⟩)] w fun e w' => e = .returned (.string ⟨l.toArray⟩) ∧ Below B w w' := Any.Builder_String_any Tryd.lays169 Tryd.Builder_Extra_169 B b l w h hBw

theorem sizeBuilder : (Tryd.prog.info? 66).map (·.size) = some 2 := by kernel_rfl
theorem liesBuilder : liesAt Tryd.prog Tryd.prog.depth 66 (2 / Tryd.prog.cellsOf 66) 0 66 1 = true := by kernel_rfl
theorem infoByte : (Tryd.prog.info? 5).map (fun i => (i.zero, i.size, i.bytes)) = some (some (.int .u8 0), 1, 1) := by kernel_rfl

set_option maxHeartbeats 1000000 in
set_option maxRecDepth 100000 in
/-- copyCheck at a builder that has been used: nothing turns. -/
theorem copyCheck_used (b : Nat) (w : World) (h0 : w.cell? ⟨b, 0, none⟩ = some (.pointer (some ⟨b, 0, none⟩))) :
    Calls Tryd.prog 25 #[.pointer (some ⟨b, 0, none⟩)] w fun e w' => e = .returned (.tuple #[]) ∧ w' = w := by
  obtain ⟨j, hj, _⟩ := Option.map_eq_some_iff.1 sizeBuilder
  go_enter Tryd.func25, Tryd.ntmps25
  go_wp2
  rw [Lib.run_neq_ptr_same w _ Tryd.underlying63 hj]
  go_wp2
  go_end0
  exact ⟨rfl, rfl⟩

set_option maxHeartbeats 1000000 in
set_option maxRecDepth 100000 in
/-- copyCheck at a fresh builder: it stores its own address. -/
theorem copyCheck_fresh (b : Nat) (w : World) (h0 : w.cell? ⟨b, 0, none⟩ = some (.pointer none)) (hsh : w.shape? b = some (66, 2)) (hfz : w.frozen? ⟨b, 0, none⟩ = false) :
    Calls Tryd.prog 25 #[.pointer (some ⟨b, 0, none⟩)] w fun e w' => e = .returned (.tuple #[]) ∧ w' = w.setCell ⟨b, 0, none⟩ (.pointer (some ⟨b, 0, none⟩)) := by
  obtain ⟨j, hj, hjs⟩ := Option.map_eq_some_iff.1 sizeBuilder
  go_enter Tryd.func25, Tryd.ntmps25
  go_wp2
  rw [Lib.run_to_unsafe w ⟨b, 0, none⟩ Tryd.underlying63 Tryd.underlying78 hj (by rw [hjs]; decide) hsh (Nat.zero_lt_succ 1)]
  simp only [Result.andThen]
  rw [Oper.upon_value]
  go_wp2
  rw [run_callFunc_extern Tryd.func28 (by kernel_rfl) (by kernel_rfl) (by kernel_rfl) (e := Extern.AbiNoEscape.same) (by kernel_rfl)]
  rw [Lib.run_noEscape]
  simp only [Result.andThen]
  rw [Oper.upon_value]
  go_wp2
  rw [Lib.run_from_unsafe w ⟨b, 0, none⟩ Tryd.underlying78 Tryd.underlying63 hj hsh liesBuilder]
  simp only [Result.andThen]
  rw [Oper.upon_value]
  go_wp2
  go_end0
  exact ⟨rfl, rfl⟩

/-- Blocks of whatever other type than strings.Builder and uint8 are as they were. -/
def KeptT (w w1 : World) : Prop := ∀ (k : Nat) (cells : Array Value) (q : TypeId), q ≠ 66 → q ≠ 5 → w.heap[k]? = some (.cells cells q (0, 0)) → w1.heap[k]? = some (.cells cells q (0, 0))
theorem KeptT.refl (w : World) : KeptT w w := fun _ _ _ _ _ h => h
theorem KeptT.trans {w w1 w2 : World} (h : KeptT w w1) (h' : KeptT w1 w2) : KeptT w w2 := fun k cells q h1 h2 hb => h' k cells q h1 h2 (h k cells q h1 h2 hb)
theorem KeptT.setB {w : World} {b : Nat} {cs : Array Value} (hb : w.heap[b]? = some (.cells cs 66 (0, 0))) (j : Nat) (u : Value) : KeptT w (w.setCell ⟨b, j, none⟩ u) := by
  intro k cells q h1 _ hk
  have hne : k ≠ b := by
    rintro rfl
    rw [hb] at hk
    injection hk with hk
    injection hk with _ hk
    exact h1 hk.symm
  exact (Below.heap_setCell w ⟨b, j, none⟩ u k hne).trans hk
theorem KeptT.grown {w w1 : World} {v : Value} {B n : Nat} {xs : List Value} (ho : w.ownsRow B 5 1 v n xs) (hg : w.grownBy w1 v.ownBlock) : KeptT w w1 := by
  intro k cells q _ h2 hk
  refine (hg.block k (Go.Proofs.YtaonemghafoolaaDoorW.PrintWords.blk_lt hk) ?_).trans hk
  intro e
  obtain ⟨cells', hc⟩ := Go.Proofs.YtaonemghafoolaaDoorW.PrintWords.own_typed ho k e.symm
  rw [hc] at hk
  injection hk with hk
  injection hk with _ hk
  exact h2 hk.symm

theorem BuilderAt.blk {B b : Nat} {p : Value} {bs : List Value} {w : World} (h : Lib.BuilderAt 66 5 B b p bs w) : ∃ cs, w.heap[b]? = some (.cells cs 66 (0, 0)) := by
  obtain ⟨_, v, hb, _⟩ := h
  exact ⟨_, hb⟩

theorem copyCheck (B b : Nat) (bs : List Value) (w : World) (h : Lib.IsBuilder 66 5 B b bs w) :
    Calls Tryd.prog 25 #[.pointer (some ⟨b, 0, none⟩)] w fun e w' => e = .returned (.tuple #[]) ∧ (Lib.BuilderAt 66 5 B b (.pointer (some ⟨b, 0, none⟩)) bs w' ∧ Below B w w') ∧ KeptT w w' := by
  rcases h with h | h
  · refine (copyCheck_fresh b w h.cell0 h.shape h.frozen0).mono ?_
    rintro e w' ⟨rfl, rfl⟩
    obtain ⟨cs, hcs⟩ := BuilderAt.blk h
    exact ⟨rfl, ⟨h.used _, (Below.refl B w).setCell (p := ⟨b, 0, none⟩) h.1 _⟩, KeptT.setB hcs 0 _⟩
  · refine (copyCheck_used b w h.cell0).mono ?_
    rintro e w' ⟨rfl, rfl⟩
    exact ⟨rfl, ⟨h, Below.refl B _⟩, KeptT.refl _⟩

set_option maxHeartbeats 2000000 in
set_option maxRecDepth 100000 in
/-- WriteString: the bytes of s go behind what the builder holds. -/
theorem writeString (B b : Nat) (bs : List Value) (s : ByteArray) (w : World) (h : Lib.IsBuilder 66 5 B b bs w) (hlen : bs.length + s.size ≤ 140737488355328) (hBw : B ≤ w.heap.size) :
    Calls Tryd.prog 21 #[.pointer (some ⟨b, 0, none⟩), .string s] w fun e w' => e = .returned (.tuple #[.int .i64 s.size, .nilIface]) ∧ Lib.IsBuilder 66 5 B b (bs ++ Lib.strCells s) w' ∧ Below B w w' ∧ KeptT w w' := by
  obtain ⟨i0, hi, hz0, hz1, hz2⟩ := info_parts infoByte
  go_enter Tryd.func21, Tryd.ntmps21
  go_wp2_with (go_at_call 25; refine (copyCheck B b bs _ h).mono ?_)
  rintro e w1 ⟨rfl, ⟨h1, hb1⟩, hk1⟩
  have HK1 : Go.Proofs.YtaonemghafoolaaDoorW.PrintWords.Aside0 _ := ⟨hk1⟩
  clear hk1
  obtain ⟨hB, v, hbk, hown, hne⟩ := h1
  have c0 : w1.cell? ⟨b, 0, none⟩ = some (.pointer (some ⟨b, 0, none⟩)) := by rw [Lib.cell_of_heap hbk]; rfl
  have c1 : w1.cell? ⟨b, 1, none⟩ = some v := by rw [Lib.cell_of_heap hbk]; rfl
  go_wp2_with (at_builtin; refine Lib.wpList_append_own_string _ rfl _ _ 64 9 rfl B 5 i0 Tryd.underlying64 Tryd.underlying9 hi hz0 hz1 hz2 _ _ _ rfl hown s rfl ?c3 ?c4 ?c5 ?_)
  case c3 => unfold maxLen; omega
  case c4 => omega
  case c5 => have := hb1.size; omega
  intro v' w2 hown' hgrow _
  have hlt : b < w1.heap.size := by
    rcases Nat.lt_or_ge b w1.heap.size with h' | h'
    · exact h'
    · simp [Array.getElem?_eq_none h'] at hbk
  have hb2 : w2.heap[b]? = some (.cells #[.pointer (some ⟨b, 0, none⟩), v] 66 (0, 0)) := by
    rw [hgrow.block b hlt (fun e => hne e.symm)]
    exact hbk
  have HK2 : Go.Proofs.YtaonemghafoolaaDoorW.PrintWords.Aside0 _ := ⟨HK1.out.trans (KeptT.grown hown hgrow)⟩
  have d0 : w2.cell? ⟨b, 0, none⟩ = some (.pointer (some ⟨b, 0, none⟩)) := by rw [Lib.cell_of_heap hb2]; rfl
  have d1 : w2.cell? ⟨b, 1, none⟩ = some v := by rw [Lib.cell_of_heap hb2]; rfl
  have f1 : w2.frozen? ⟨b, 1, none⟩ = false := Lib.frozen_of_heap hb2 1
  obtain ⟨ao, n', cap, rfl⟩ : ∃ ao n' cap, v' = .slice ao n' cap := by
    rcases hown'.2 with ⟨hv, _⟩ | ⟨g, cap, cur, hv, _⟩
    · exact ⟨_, _, _, hv⟩
    · exact ⟨_, _, _, hv⟩
  go_wp2
  go_ret2
  refine ⟨rfl, .inr ?_, ?_, ?_⟩
  · exact Lib.BuilderAt.put (T := 66) (e := 5) hB hb2 (bs' := bs ++ Lib.strCells s) (by simpa [Lib.strCells_length] using hown') (by decide)
  · exact (hb1.grown hgrow (by have := hb1.size; omega) (fun k hk => (hown.lt k hk).1)).setCell (p := ⟨b, 1, none⟩) hB _
  · exact HK2.out.trans (KeptT.setB hb2 1 _)

/-! ### the builder while other memory is written -/
section
open Go.Proofs.YtaonemghafoolaaDoorW.PrintWords
variable {B b : Nat} {bs : List Value} {w w1 : World}
theorem isB_step (h : Lib.IsBuilder 66 5 B b bs w) (hm : ∀ (k : Nat) (cells : Array Value) (q : TypeId), q = 66 ∨ q = 5 → w.heap[k]? = some (.cells cells q (0, 0)) → w1.heap[k]? = w.heap[k]?) : Lib.IsBuilder 66 5 B b bs w1 := by
  have go : ∀ p, Lib.BuilderAt 66 5 B b p bs w → Lib.BuilderAt 66 5 B b p bs w1 := by
    rintro p ⟨hB, v, hb, ho, hne⟩
    refine ⟨hB, v, (hm b _ 66 (.inl rfl) hb).trans hb, own_move ho (fun k hk => ?_), hne⟩
    obtain ⟨cells, hc⟩ := own_typed ho k hk
    exact hm k cells 5 (.inr rfl) hc
  rcases h with h | h
  · exact .inl (go _ h)
  · exact .inr (go _ h)
theorem isB_below (h : Lib.IsBuilder 66 5 B b bs w) (hb : Below w.heap.size w w1) : Lib.IsBuilder 66 5 B b bs w1 := isB_step h fun k _ _ _ hk => hb.block k (blk_lt hk)
theorem isB_alloc (h : Lib.IsBuilder 66 5 B b bs w) (o : Obj) : Lib.IsBuilder 66 5 B b bs (w.alloc o) := isB_below h (below_alloc (Below.refl _ _) o)
theorem isB_drewN (h : Lib.IsBuilder 66 5 B b bs w) (n : Nat) : Lib.IsBuilder 66 5 B b bs (w.drewN n) := h
theorem isB_drew (h : Lib.IsBuilder 66 5 B b bs w) : Lib.IsBuilder 66 5 B b bs w.drew := h
/-- A variable of the type t has been written, cell by cell. -/
theorem isB_far (h : Lib.IsBuilder 66 5 B b bs w) {g t : Nat} {cs : Array Value} (hg : w.heap[g]? = some (.cells cs t (0, 0))) (h66 : t ≠ 66) (h5 : t ≠ 5) (hW : ∀ k, k ≠ g → w1.heap[k]? = w.heap[k]?) : Lib.IsBuilder 66 5 B b bs w1 :=
  isB_step h fun k cells q hq hk => hW k (by
    rintro rfl
    rw [hg] at hk
    injection hk with hk
    injection hk with _ hk
    rcases hq with rfl | rfl
    · exact h66 hk
    · exact h5 hk)
/-- A row of elements of the type e has been written or grown. -/
theorem isB_grown (h : Lib.IsBuilder 66 5 B b bs w) {α : Type} {d : Kd α} {e base : Nat} {ok : Nat → Prop} {v : Value} {xs : List α} (hR : d.R e w base ok v xs) (h66 : e ≠ 66) (h5 : e ≠ 5) (hg : w.grownBy w1 v.ownBlock) : Lib.IsBuilder 66 5 B b bs w1 :=
  isB_step h fun k cells q hq hk => hg.block k (blk_lt hk) (by
    intro ek
    obtain ⟨_, inner, ho, _⟩ := hR
    obtain ⟨cells', hc⟩ := own_typed ho k ek.symm
    rw [hc] at hk
    injection hk with hk
    injection hk with _ hk
    rcases hq with rfl | rfl
    · exact h66 hk
    · exact h5 hk)
theorem R_kept {α : Type} {d : Kd α} {e base : Nat} {ok : Nat → Prop} {v : Value} {xs : List α} (h : d.R e w base ok v xs) (hk : KeptT w w1) (he : ∀ q, q ∈ e :: d.E → q ≠ 66 ∧ q ≠ 5) : d.R e w1 base ok v xs :=
  Kd.R_mono (Kd.R_move (Kd.R_bound h) (fun k hk' => by
    obtain ⟨_, _, _, q, hq, cells, hc⟩ := hk'
    exact (hk k cells q (he q hq).1 (he q hq).2 hc).trans hc.symm)) (fun _ hk => hk.1)
/-- A new builder. -/
theorem isB_new {B b : Nat} {w : World} (hB : B ≤ b) (hb : w.heap[b]? = some (.cells #[.pointer none, .slice none 0 0] 66 (0, 0))) : Lib.IsBuilder 66 5 B b (Lib.strCells (⟨#[]⟩ : ByteArray)) w :=
  .inl ⟨hB, .slice none 0 0, hb, own_nil _ _ _ _, by simp [Value.ownBlock]⟩
theorem strCells_app (s t : ByteArray) : Lib.strCells (s ++ t) = Lib.strCells s ++ Lib.strCells t := by
  simp [Lib.strCells]
/-- String: what the builder holds. -/
theorem string_is (B b : Nat) (s : ByteArray) (w : World) (h : Lib.IsBuilder 66 5 B b (Lib.strCells s) w) (hBw : B ≤ w.heap.size) :
    Calls Tryd.prog 22 #[.pointer (some ⟨b, 0, none⟩)] w fun e w' => e = .returned (.string s) ∧ Below B w w' := by
  have h' : Lib.IsBuilder 66 5 B b (Lib.byteCells s.data.toList) w := h
  refine (Tryd.Builder_String_any B b s.data.toList w h' hBw).mono ?_
  rintro e w' ⟨rfl, hb⟩
  exact ⟨rfl, hb⟩
end

end Go.Proofs.YtaonemghafoolaaDoor.Bld
