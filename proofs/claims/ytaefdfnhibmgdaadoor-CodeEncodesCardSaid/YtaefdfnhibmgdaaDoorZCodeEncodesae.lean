/- code.Text, walked by hand: a line for each instruction; at most 100000 instructions; the operations' table as the program lays it. -/
import Derived.Test.YtaefdfnhibmgdaaDoorProg
import Derived.Lib.Strings
import Derived.Lib.Walk
import Derived.Lib.Builder
import Derived.Lib.AppendStr
import Derived.Lib.UnsafeStr
import Derived.Lib.OthersKept
import Derived.Laws.Externs
import Derived.Test.YtaefdfnhibmgdaaDoorZCodeEncodesaa
import Derived.Test.YtaefdfnhibmgdaaDoorZCodeEncodesab
import Derived.Test.YtaefdfnhibmgdaaDoorZCodeEncodesad
section
/- What a strings.Builder is told and tells: copyCheck, WriteByte, WriteString, String; a builder that its caller made, of at most 2^40 bytes, String of one that was written to or never. (The walks turn those of the shelf's contracts to this program's numbers.) -/
namespace Go.Proofs.YtaefdfnhibmgdaaDoor.Bld
open Go Go.RowKit Go.Proofs.YtaefdfnhibmgdaaDoorW.PrintWords Go.Proofs.YtaefdfnhibmgdaaDoorW.PrintLast
set_option linter.unusedVariables false
set_option linter.unusedSimpArgs false
abbrev BT : Nat := 36
abbrev At (B b : Nat) (bs : List Value) (w : World) : Prop := Lib.BuilderAt BT 5 B b (.pointer (some ⟨b, 0, none⟩)) bs w
abbrev Is (B b : Nat) (bs : List Value) (w : World) : Prop := Lib.IsBuilder BT 5 B b bs w
theorem infoB : (Tryd.prog.info? 36).map (·.size) = some 2 := by kernel_rfl
theorem infoU : ∃ i, Tryd.prog.info? 5 = some i ∧ i.zero = some (.int .u8 0) ∧ i.size = 1 ∧ i.bytes = 1 := by
  have h : (Tryd.prog.info? 5).map (fun i => (i.zero, i.size, i.bytes)) = some (some (.int .u8 0), 1, 1) := by kernel_rfl
  obtain ⟨i, hi, e⟩ := Option.map_eq_some_iff.1 h
  injection e with e1 e
  injection e with e2 e3
  exact ⟨i, hi, e1, e2, e3⟩
set_option maxHeartbeats 1000000 in
set_option maxRecDepth 100000 in
theorem check_used (b : Nat) (w : World) (h0 : w.cell? ⟨b, 0, none⟩ = some (.pointer (some ⟨b, 0, none⟩))) :
    Calls Tryd.prog 25 #[.pointer (some ⟨b, 0, none⟩)] w fun e w' => e = .returned (.tuple #[]) ∧ w' = w := by
  obtain ⟨j, hj, _⟩ := Option.map_eq_some_iff.1 infoB
  go_enter Tryd.func25, Tryd.ntmps25
  go_wp2
  rw [Lib.run_neq_ptr_same w _ Tryd.underlying34 hj]
  go_wp2
  go_end0
  exact ⟨rfl, rfl⟩
set_option maxHeartbeats 1000000 in
set_option maxRecDepth 100000 in
theorem check_fresh (b : Nat) (w : World) (h0 : w.cell? ⟨b, 0, none⟩ = some (.pointer none)) (hsh : w.shape? b = some (BT, 2)) (hfz : w.frozen? ⟨b, 0, none⟩ = false) :
    Calls Tryd.prog 25 #[.pointer (some ⟨b, 0, none⟩)] w fun e w' => e = .returned (.tuple #[]) ∧ w' = w.setCell ⟨b, 0, none⟩ (.pointer (some ⟨b, 0, none⟩)) := by
  obtain ⟨j, hj, hjs⟩ := Option.map_eq_some_iff.1 infoB
  go_enter Tryd.func25, Tryd.ntmps25
  go_wp2
  rw [Lib.run_to_unsafe w ⟨b, 0, none⟩ Tryd.underlying34 Tryd.underlying59 hj (by rw [hjs]; decide) hsh (Nat.zero_lt_succ 1)]
  simp only [Result.andThen]
  rw [Oper.upon_value]
  go_wp2
  rw [run_callFunc_extern Tryd.func28 (by kernel_rfl) (by kernel_rfl) (by kernel_rfl) (e := Extern.AbiNoEscape.same) (by kernel_rfl)]
  rw [Lib.run_noEscape]
  simp only [Result.andThen]
  rw [Oper.upon_value]
  go_wp2
  rw [Lib.run_from_unsafe w ⟨b, 0, none⟩ Tryd.underlying59 Tryd.underlying34 hj hsh (by kernel_rfl)]
  simp only [Result.andThen]
  rw [Oper.upon_value]
  go_wp2
  go_end0
  exact ⟨rfl, rfl⟩
theorem own_kind {w : World} {B : Nat} {e : TypeId} {v : Value} {n : Nat} {xs : List Value} (h : w.ownsRow B e 1 v n xs) : ∀ g, v.ownBlock = some g → ∃ c fz, w.heap[g]? = some (.cells c e fz) := by
  intro g hg
  rcases h.2 with ⟨rfl, _⟩ | ⟨g', cap, cur, rfl, _, hgg, _⟩
  · simp [Value.ownBlock] at hg
  · simp only [Value.ownBlock, Option.some.injEq] at hg
    exact ⟨cur, (0, 0), hg ▸ hgg⟩
theorem Is.alloc {B b : Nat} {bs : List Value} {w : World} (h : Is B b bs w) (o : Obj) : Is B b bs (w.alloc o) := by
  have k : ∀ p, Lib.BuilderAt BT 5 B b p bs w → Lib.BuilderAt BT 5 B b p bs (w.alloc o) := by
    rintro p ⟨hB, v, hbk, hown, hne⟩
    exact ⟨hB, v, (Lib.alloc_old w o b (blk_lt hbk)).trans hbk, hown.alloc o, hne⟩
  rcases h with h | h
  · exact .inl (k _ h)
  · exact .inr (k _ h)
theorem check (B b : Nat) (bs : List Value) (w : World) (h : Is B b bs w) :
    Calls Tryd.prog 25 #[.pointer (some ⟨b, 0, none⟩)] w fun e w' => e = .returned (.tuple #[]) ∧ At B b bs w' ∧ Below B w w' ∧ Lib.OthersKept 5 (some b) w w' := by
  rcases h with h | h
  · refine (check_fresh b w h.cell0 h.shape h.frozen0).mono ?_
    rintro e w' ⟨rfl, rfl⟩
    exact ⟨rfl, h.used _, (Below.refl B w).setCell (p := ⟨b, 0, none⟩) h.1 _, (Lib.OthersKept.refl _ _ w).setCell ⟨b, 0, none⟩ rfl _⟩
  · refine (check_used b w h.cell0).mono ?_
    rintro e w' ⟨rfl, rfl⟩
    exact ⟨rfl, h, Below.refl B _, Lib.OthersKept.refl _ _ _⟩
set_option maxHeartbeats 2000000 in
set_option maxRecDepth 100000 in
theorem write_string (B b : Nat) (bs : List Value) (s : ByteArray) (w : World) (h : Is B b bs w) (hlen : bs.length + s.size ≤ 1099511627776) (hBw : B ≤ w.heap.size) :
    Calls Tryd.prog 13 #[.pointer (some ⟨b, 0, none⟩), .string s] w fun e w' => e = .returned (.tuple #[.int .i64 s.size, .nilIface]) ∧ At B b (bs ++ Lib.strCells s) w' ∧ Below B w w' ∧ Lib.OthersKept 5 (some b) w w' := by
  obtain ⟨i0, hi, hz0, hz1, hz2⟩ := infoU
  go_enter Tryd.func13, Tryd.ntmps13
  go_wp2_with fail
  refine (check B b bs _ h).mono ?_
  rintro e w1 ⟨rfl, h1, hb1, hk1⟩
  obtain ⟨hB, v, hbk, hown, hne⟩ := h1
  have c0 : w1.cell? ⟨b, 0, none⟩ = some (.pointer (some ⟨b, 0, none⟩)) := by rw [Lib.cell_of_heap hbk]; rfl
  have c1 : w1.cell? ⟨b, 1, none⟩ = some v := by rw [Lib.cell_of_heap hbk]; rfl
  go_wp2_with (at_builtin; refine Lib.wpList_append_own_string _ rfl (.tmp 12) (.tmp 13) 24 9 rfl B 5 i0 Tryd.underlying24 Tryd.underlying9 hi hz0 hz1 hz2 _ _ _ rfl hown s rfl ?c3 ?c4 ?c5 ?_)
  case c3 => unfold maxLen; omega
  case c4 => omega
  case c5 => have := hb1.size; omega
  intro v' w2 hown' hgrow _
  have hlt : b < w1.heap.size := blk_lt hbk
  have hb2 : w2.heap[b]? = some (.cells #[.pointer (some ⟨b, 0, none⟩), v] BT (0, 0)) := (hgrow.block b hlt (fun e => hne e.symm)).trans hbk
  have d0 : w2.cell? ⟨b, 0, none⟩ = some (.pointer (some ⟨b, 0, none⟩)) := by rw [Lib.cell_of_heap hb2]; rfl
  have d1 : w2.cell? ⟨b, 1, none⟩ = some v := by rw [Lib.cell_of_heap hb2]; rfl
  have f1 : w2.frozen? ⟨b, 1, none⟩ = false := Lib.frozen_of_heap hb2 1
  obtain ⟨ao, n', cap, rfl⟩ : ∃ ao n' cap, v' = .slice ao n' cap := by
    rcases hown'.2 with ⟨hv, _⟩ | ⟨g, cap, cur, hv, _⟩
    · exact ⟨_, _, _, hv⟩
    · exact ⟨_, _, _, hv⟩
  go_wp2
  go_ret2
  refine ⟨rfl, ?_, ?_, (hk1.grown hgrow (own_kind hown)).setCell ⟨b, 1, none⟩ rfl _⟩
  · exact Lib.BuilderAt.put (T := BT) (e := 5) hB hb2 (bs' := bs ++ Lib.strCells s) (by simpa [Lib.strCells_length] using hown') (by decide)
  · exact (hb1.grown hgrow (by have := hb1.size; omega) (fun k hk => (hown.lt k hk).1)).setCell (p := ⟨b, 1, none⟩) hB _
set_option maxHeartbeats 2000000 in
set_option maxRecDepth 100000 in
theorem string_of (B b : Nat) (l : List UInt8) (w : World) (h : Is B b (Lib.byteCells l) w) (h0 : l ≠ []) :
    Calls Tryd.prog 15 #[.pointer (some ⟨b, 0, none⟩)] w fun e w' => e = .returned (.string ⟨l.toArray⟩) ∧ Below B w w' := by
  obtain ⟨p, hB, v, hbk, hown, hne⟩ : ∃ p, Lib.BuilderAt BT 5 B b p (Lib.byteCells l) w := by
    rcases h with h | h
    · exact ⟨_, h⟩
    · exact ⟨_, h⟩
  have hl0 : l.length ≠ 0 := by simpa using h0
  rw [Lib.byteCells_length] at hown
  obtain ⟨g, cap, cur, rfl, hbg, hg, hnc, hcm, hcs, htake⟩ : ∃ g cap cur, v = .slice (some ⟨g, 0, none⟩) l.length cap ∧ B ≤ g ∧ w.heap[g]? = some (.cells cur 5 (0, 0)) ∧ l.length ≤ cap ∧ cap ≤ maxLen ∧ cur.size = cap * 1 ∧ cur.toList.take (l.length * 1) = Lib.byteCells l := by
    rcases hown.2 with ⟨_, hz⟩ | ⟨g, cap, cur, hv, r⟩
    · exact absurd hz hl0
    · exact ⟨g, cap, cur, hv, r⟩
  have c1 : w.drew.cell? ⟨b, 1, none⟩ = some (.slice (some ⟨g, 0, none⟩) l.length cap) := by
    have : w.drew.heap[b]? = some (.cells #[p, .slice (some ⟨g, 0, none⟩) l.length cap] BT (0, 0)) := hbk
    rw [Lib.cell_of_heap this]; rfl
  have hSD : (Builtin.unsafeSliceData_ #[24] 51 #[.slice (some ⟨g, 0, none⟩) l.length cap]).run Tryd.prog w.drew = .ok (.pointer (some ⟨g, 0, none⟩)) w.drew :=
    Lib.run_unsafeSliceData_row _ _ _ _ _ _ (by omega)
  have hUS : (Builtin.unsafeString_ #[51, 3] 9 #[.pointer (some ⟨g, 0, none⟩), .int .i64 l.length]).run Tryd.prog w.drew = .ok (.string ⟨l.toArray⟩) (w.drew.freeze ⟨g, 0, none⟩ l.length) := by
    refine Lib.run_unsafeString_row w.drew 51 3 9 5 Tryd.underlying51 (by kernel_rfl) g cur.size (by have hg' : w.drew.heap[g]? = some (.cells cur 5 (0, 0)) := hg; simp [World.shape?, hg']) l h0 (by omega) (by unfold maxLen at hcm; omega) ?_
    intro j x hx
    exact hown.cells (g := g) rfl j (.int .u8 x.toNat) (by simp [Lib.byteCells, hx])
  go_enter Tryd.func15, Tryd.ntmps15
  go_wp2
  go_region
  all_goals (go_wp2; go_ret; exact ⟨rfl, Lib.below_freeze (Below.drew (Below.refl B w)) (p := ⟨g, 0, none⟩) hbg _⟩)
set_option maxHeartbeats 2000000 in
set_option maxRecDepth 100000 in
theorem string_nil (B b : Nat) (p : Value) (w : World) (hbk : w.heap[b]? = some (.cells #[p, .slice none 0 0] BT (0, 0))) :
    Calls Tryd.prog 15 #[.pointer (some ⟨b, 0, none⟩)] w fun e w' => e = .returned (.string ⟨#[]⟩) ∧ Below B w w' := by
  have hUS : ∀ (W : World) (q : Option Addr), (Builtin.unsafeString_ #[51, 3] 9 #[.pointer q, .int .i64 0]).run Tryd.prog W = .ok (.string .empty) W := fun W q => Lib.run_unsafeString_none W _ _ _ q
  have c1 : w.drew.cell? ⟨b, 1, none⟩ = some (.slice none 0 0) := by
    have : w.drew.heap[b]? = some (.cells #[p, .slice none 0 0] BT (0, 0)) := hbk
    rw [Lib.cell_of_heap this]; rfl
  have hSD : (Builtin.unsafeSliceData_ #[24] 51 #[.slice none 0 0]).run Tryd.prog w.drew = .ok (.pointer none) w.drew := rfl
  go_enter Tryd.func15, Tryd.ntmps15
  go_wp2
  go_region
  all_goals (go_wp2; go_ret; exact ⟨rfl, Below.drew (Below.refl B w)⟩)
end Go.Proofs.YtaefdfnhibmgdaaDoor.Bld
end

section
/- code.Text, walked by hand: a line for each instruction; at most 100000 instructions; the operations' table as the program lays it. -/
namespace Go.Proofs.YtaefdfnhibmgdaaDoor.Given
open Go Go.RowKit Go.Proofs.YtaefdfnhibmgdaaDoorW.PrintWords Go.Proofs.YtaefdfnhibmgdaaDoorW.PrintLast Go.Proofs.YtaefdfnhibmgdaaDoor.PCod Go.Proofs.YtaefdfnhibmgdaaDoor.Pure
set_option linter.unusedVariables false
set_option linter.unusedSimpArgs false
abbrev InS := S30
def qmark (s : ByteArray) : ByteArray := if s.toList = [] then ⟨#[63]⟩ else s
def colon : ByteArray := ⟨#[58, 32]⟩
def nl : ByteArray := ⟨#[10]⟩
def rowT (i : Nat) (x : InS) : ByteArray := numS i ++ colon ++ qmark (lineM x.f0 x.f1 x.f2) ++ nl
def textF (l : List InS) : Nat → ByteArray
  | 0 => ⟨#[]⟩
  | i + 1 => textF l i ++ rowT i (rd_T30 l (i : Int))
theorem row_size (i : Nat) (x : InS) : (rowT i x).size ≤ 130 ∧ 0 < (rowT i x).size := by
  have h1 := num_size i
  have h2 := line_size x.f0 x.f1 x.f2
  have h3 : (qmark (lineM x.f0 x.f1 x.f2)).size ≤ 100 := by
    unfold qmark
    split
    · decide
    · exact h2
  have h4 : colon.size = 2 := rfl
  have h5 : nl.size = 1 := rfl
  unfold rowT
  simp only [ByteArray.size_append]
  omega
theorem text_size (l : List InS) : ∀ i, (textF l i).size ≤ 130 * i
  | 0 => Nat.le_refl _
  | i + 1 => by
    have h1 := text_size l i
    have h2 := (row_size i (rd_T30 l (i : Int))).1
    unfold textF
    rw [ByteArray.size_append]
    omega
theorem text_pos (l : List InS) (i : Nat) (h : 0 < i) : 0 < (textF l i).size := by
  obtain ⟨i, rfl⟩ : ∃ m, i = m + 1 := ⟨i - 1, by omega⟩
  have h2 := (row_size i (rd_T30 l (i : Int))).2
  unfold textF
  rw [ByteArray.size_append]
  omega
theorem cells_app (a b : ByteArray) : Lib.byteCells a.data.toList ++ Lib.strCells b = Lib.byteCells (a ++ b).data.toList := by
  rw [Lib.strCells_eq, ← Lib.byteCells_append]
  simp
theorem cells_len (a : ByteArray) : (Lib.byteCells a.data.toList).length = a.size := by
  rw [Lib.byteCells_length]
  rfl
theorem list_ne {a : ByteArray} (h : 0 < a.size) : a.data.toList ≠ [] := by
  intro e
  have e2 : a.data.size = 0 := by rw [← Array.length_toList, e]; rfl
  have e3 : a.size = a.data.size := rfl
  omega
/-- A builder at the call's own first block stays one while other blocks are made. -/
theorem is_below {B : Nat} {bs : List Value} {w w' : World} (h : Bld.Is B B bs w) (hb : Below w.heap.size w w') : Bld.Is B B bs w' := by
  have k : ∀ p, Lib.BuilderAt Bld.BT 5 B B p bs w → Lib.BuilderAt Bld.BT 5 B B p bs w' := by
    rintro p ⟨hB, v, hbk, hown, hne⟩
    refine ⟨hB, v, (hb.block _ (blk_lt hbk)).trans hbk, ?_, hne⟩
    exact hown.kept (row := some B) ⟨hb.os, hb.tape, hb.output, hb.size, fun i hi _ => hb.block i hi⟩ (.inr hne)
  rcases h with h | h
  · exact .inl (k _ h)
  · exact .inr (k _ h)
set_option maxHeartbeats 4000000 in
set_option maxRecDepth 100000 in
theorem text_calls (A0 : Option Addr) (c0 : Nat) (l : List InS) (w : World) (hC : Kd.C k30 w A0 l.length l) (hc : l.length ≤ c0) (hl : l.length ≤ 60000) (hL : LaidOps w) :
    Calls Tryd.prog 7 #[.slice A0 l.length c0] w fun e w' => e = .returned (.string (textF l l.length)) ∧ Below w.heap.size w w' := by
  have HC := Aside0.mk hC
  have HL := Aside0.mk hL
  clear hC hL
  go_enter Tryd.func7, Tryd.ntmps7
  go_wp2_with fail
  obtain ⟨W0, hW0⟩ : ∃ W, W = w.alloc (.cells #[.pointer none, .slice none 0 0] 36) := ⟨_, rfl⟩
  have HP := Aside0.mk (show Bld.Is w.heap.size w.heap.size (Lib.byteCells (textF l 0).data.toList) W0 ∧ Below w.heap.size w W0 ∧ (0 = 0 → W0.heap[w.heap.size]? = some (.cells #[.pointer none, .slice none 0 0] Bld.BT (0, 0))) from by
    subst hW0
    exact ⟨Lib.fresh_isBuilder _ _ w, (Below.refl _ _).alloc (Nat.le_refl _) _, fun _ => heap_alloc_new w _⟩)
  rw [← hW0]
  clear hW0
  generalize hB : w.heap.size = B at HP ⊢
  have HB := Aside0.mk hB
  clear hB
  go_loopw [9] (fun x wr => ∃ i : Nat, i ≤ l.length ∧ x = .int .i64 (i : Int) ∧ Aside0 (Bld.Is B B (Lib.byteCells (textF l i).data.toList) wr ∧ Below B w wr ∧ (i = 0 → wr.heap[B]? = some (.cells #[.pointer none, .slice none 0 0] Bld.BT (0, 0))))) (fun x _ => l.length - (intOf x).toNat)
  case atStart => exact ⟨0, Nat.zero_le _, rfl, HP⟩
  case round =>
    clear HP
    obtain ⟨i, hi, rfl, HP⟩ := hrel
    by_cases hil : i < l.length
    rotate_left
    · obtain rfl : i = l.length := by omega
      by_cases h0 : l.length = 0
      · have hh := HP.out.2.2 h0
        obtain rfl := List.eq_nil_of_length_eq_zero h0
        have HH := Aside0.mk hh
        clear hh
        go_wp2_with fail
        refine (Bld.string_nil B B _ wr HH.out).mono ?_
        rintro e W1 ⟨rfl, hb⟩
        go_wp2_with fail
        go_ret
        exact ⟨rfl, HB.out ▸ HP.out.2.1.trans hb⟩
      · have hp := text_pos l l.length (by omega)
        go_wp2_with fail
        refine (Bld.string_of B B (textF l l.length).data.toList wr HP.out.1 (list_ne hp)).mono ?_
        rintro e W1 ⟨rfl, hb⟩
        go_wp2_with fail
        go_ret
        exact ⟨rfl, HB.out ▸ HP.out.2.1.trans hb⟩
    · have hBw := HB.out ▸ HP.out.2.1.size
      obtain ⟨ad, rfl, e0, e1, e2⟩ := at_T30 (Kd.C_below HC.out (HB.out ▸ HP.out.2.1)) (i : Int) (by omega) (by omega)
      have hT : textF l (i + 1) = textF l i ++ rowT i (rd_T30 l (i : Int)) := rfl
      have hR := Aside0.mk (row_size i (rd_T30 l (i : Int)))
      generalize rd_T30 l (i : Int) = x at e0 e1 e2 hT hR
      rw [Int.toNat_natCast] at e0 e1 e2
      have HT := Aside0.mk hT
      clear hT
      generalize hO : Obj.cells #[.int .i64 x.f0, .int .i64 x.f1, .int .i64 x.f2] 30 = O
      have hB2 : B ≤ wr.heap.size := Nat.le_trans (Nat.le_of_eq HB.out.symm) (HB.out ▸ HP.out.2.1.size)
      have HI := Aside0.mk (show Bld.Is B B (Lib.byteCells (textF l i).data.toList) (wr.alloc O) ∧ Below B w (wr.alloc O) ∧ B ≤ (wr.alloc O).heap.size from ⟨HP.out.1.alloc O, HP.out.2.1.alloc hB2 O, by simp; omega⟩)
      have g0 : (wr.alloc O).cell? ⟨wr.heap.size, 0, none⟩ = some (.int .i64 x.f0) := by rw [← hO]; exact (blk_cell (heap_alloc_new wr _) 0).trans rfl
      have g1 : (wr.alloc O).cell? ⟨wr.heap.size, 1, none⟩ = some (.int .i64 x.f1) := by rw [← hO]; exact (blk_cell (heap_alloc_new wr _) 1).trans rfl
      have g2 : (wr.alloc O).cell? ⟨wr.heap.size, 2, none⟩ = some (.int .i64 x.f2) := by rw [← hO]; exact (blk_cell (heap_alloc_new wr _) 2).trans rfl
      have HV := Aside0.mk (line_val x.f0 x.f1 x.f2)
      have HN := Aside0.mk (print_f (i : Int) ⟨by omega, by omega⟩)
      rw [Int.toNat_natCast] at HN
      have hS := line_size x.f0 x.f1 x.f2
      have hP := num_size i
      have hT := HT.out
      unfold rowT at hT
      have HRb := hR.out.1
      unfold rowT at HRb
      generalize lineM x.f0 x.f1 x.f2 = S at HV hS hT HRb
      generalize numS i = Pn at HN hP hT HRb
      have hts := text_size l i
      generalize textF l i = Tx at hT HI hts
      generalize hTy : textF l (i + 1) = Ty at hT
      have HTy := Aside0.mk hTy
      clear hTy
      clear HP HT hR
      go_wp2_with fail
      refine (op_Line.calls _ _ _ _ _ HV.out (HL.out.below (HB.out ▸ HI.out.2.1))).mono ?_
      rintro e W1 ⟨rfl, hb1⟩
      have H1 := Aside0.mk (show Bld.Is B B (Lib.byteCells Tx.data.toList) W1 ∧ Below B w W1 ∧ B ≤ W1.heap.size from ⟨is_below HI.out.1 hb1, HI.out.2.1.trans (hb1.mono HI.out.2.2), Nat.le_trans HI.out.2.2 hb1.size⟩)
      clear hb1 HI g0 g1 g2
      obtain ⟨Q, hQ⟩ : ∃ Q, qmark S = Q := ⟨_, rfl⟩
      rw [hQ] at hT HRb
      have fin : ∀ W2 : World, Below W1.heap.size W1 W2 → Calls Tryd.prog 13 #[.pointer (some ⟨B, 0, none⟩), .string (Pn ++ ⟨#[58, 32]⟩ ++ Q ++ ⟨#[10]⟩)] W2 fun e w' => e = .returned (.tuple #[.int .i64 (Pn ++ colon ++ Q ++ nl).size, .nilIface]) ∧ Bld.Is B B (Lib.byteCells Ty.data.toList) w' ∧ Below B w w' := by
        intro W2 hb2
        refine (Bld.write_string B B _ (Pn ++ colon ++ Q ++ nl) W2 (is_below H1.out.1 hb2) (by rw [cells_len]; omega) (Nat.le_trans H1.out.2.2 hb2.size)).mono ?_
        rintro e W3 ⟨rfl, h3, hb3, _⟩
        refine ⟨rfl, .inr ?_, (H1.out.2.1.trans (hb2.mono H1.out.2.2)).trans hb3⟩
        rw [hT, ← cells_app]
        exact h3
      have FIN := Aside0.mk fin
      have HN2 := Aside0.mk (fun W => num_Print.calls (i : Int) Pn W HN.out)
      have hPs : Pn.size + 2 ≤ 9223372036854775807 := by omega
      unfold qmark at hQ
      clear fin hT HN HRb
      by_cases hq : S.toList = []
      · rw [if_pos hq] at hQ
        have hqb : (S.toList == []) = true := beq_iff_eq.2 hq
        subst hQ
        have hs1 : (Pn ++ (⟨#[58, 32]⟩ : ByteArray)).size = Pn.size + 2 := by rw [ByteArray.size_append]; rfl
        have hs2 : (Pn ++ (⟨#[58, 32]⟩ : ByteArray) ++ (⟨#[63]⟩ : ByteArray)).size = Pn.size + 3 := by rw [ByteArray.size_append, hs1]; rfl
        go_wp2_with fail
        refine (HN2.out W1).mono ?_
        rintro e W2 ⟨rfl, hb2⟩
        have HF := Aside0.mk (FIN.out W2 hb2)
        clear hb2
        go_wp2_with fail
        refine HF.out.mono ?_
        rintro e W3 ⟨rfl, h3, hb3⟩
        have HQ := Aside0.mk (show Bld.Is B B (Lib.byteCells (textF l (i + 1)).data.toList) W3 ∧ Below B w W3 ∧ (i + 1 = 0 → W3.heap[B]? = some (.cells #[.pointer none, .slice none 0 0] Bld.BT (0, 0))) from ⟨HTy.out.symm ▸ h3, hb3, fun e => by omega⟩)
        clear h3 hb3
        go_wp2_with fail
        refine ⟨⟨i + 1, by omega, by push_cast; rfl, HQ⟩, ?_⟩
        rw [show intOf (.int .i64 ((i : Int) + 1)) = (i : Int) + 1 from rfl, show intOf (.int .i64 (i : Int)) = (i : Int) from rfl]
        omega
      · rw [if_neg hq] at hQ
        have hqb : (S.toList == []) = false := beq_eq_false_iff_ne.2 hq
        subst hQ
        have hs1 : (Pn ++ (⟨#[58, 32]⟩ : ByteArray)).size = Pn.size + 2 := by rw [ByteArray.size_append]; rfl
        have hs2 : (Pn ++ (⟨#[58, 32]⟩ : ByteArray) ++ S).size = Pn.size + 2 + S.size := by rw [ByteArray.size_append, hs1]
        go_wp2_with fail
        refine (HN2.out W1).mono ?_
        rintro e W2 ⟨rfl, hb2⟩
        have HF := Aside0.mk (FIN.out W2 hb2)
        clear hb2
        go_wp2_with fail
        refine HF.out.mono ?_
        rintro e W3 ⟨rfl, h3, hb3⟩
        have HQ := Aside0.mk (show Bld.Is B B (Lib.byteCells (textF l (i + 1)).data.toList) W3 ∧ Below B w W3 ∧ (i + 1 = 0 → W3.heap[B]? = some (.cells #[.pointer none, .slice none 0 0] Bld.BT (0, 0))) from ⟨HTy.out.symm ▸ h3, hb3, fun e => by omega⟩)
        clear h3 hb3
        go_wp2_with fail
        refine ⟨⟨i + 1, by omega, by push_cast; rfl, HQ⟩, ?_⟩
        rw [show intOf (.int .i64 ((i : Int) + 1)) = (i : Int) + 1 from rfl, show intOf (.int .i64 (i : Int)) = (i : Int) from rfl]
        omega
def code_Text.f (l0 : List InS) : Option ByteArray := if l0.length ≤ 60000 then some (textF l0 l0.length) else none
theorem code_Text.calls (A0 : Option Addr) (c0 : Nat) (l0 : List InS) (r : ByteArray) (w : World) (hr0 : Kd.C k30 w A0 l0.length l0) (hc0 : l0.length ≤ c0) (h : code_Text.f l0 = some r) (hL : LaidOps w) :
    Calls Tryd.prog 7 #[.slice A0 l0.length c0] w fun e w' => e = .returned (.string r) ∧ Below w.heap.size w w' := by
  unfold code_Text.f at h
  split at h
  · rename_i hs
    obtain rfl := Option.some.inj h
    exact text_calls A0 c0 l0 w hr0 hc0 hs hL
  · cases h
end Go.Proofs.YtaefdfnhibmgdaaDoor.Given
end
