/- The law StateWrites holds for every input: the walk over its code shows that the call returns true and that what was read stays as it was; the row follows. -/
import Derived.Test.YtamajfcjcfkkjaaRows
import Derived.WalkKit
import Derived.ProofKit
import Derived.OpenShut
import Derived.ShutString
import Derived.ChangeOld
import Derived.Below
import Derived.SizedLaws
import Derived.Test.YtamajfcjcfkkjaaZStateWritesaa
import Derived.Test.YtamajfcjcfkkjaaZStateWritesag
section
/- StateWrites, walked by hand: what is written into any state is read, and nothing else has changed. -/
namespace Go.Proofs.Ytamajfcjcfkkjaa
open Go Go.RowKit Go.Proofs.Ytamajfcjcfkkjaa.PSt Go.Proofs.Ytamajfcjcfkkjaa.RPure Go.Proofs.YtamajfcjcfkkjaaW.PrintWords Go.Proofs.YtamajfcjcfkkjaaW.PrintLast Go.Proofs.YtamajfcjcfkkjaaW.PrintMore
set_option linter.unusedVariables false
set_option linter.unusedSimpArgs false
namespace StW
abbrev row (A0 : Option Addr) (c0 : Nat) (V : LL) (A1 : Option Addr) (c1 : Nat) (B : LI) (n f : Int) : Array Value := #[.slice A0 V.length c0, .slice A1 B.length c1, .int .i64 n, .int .i64 f]
/-- A state that is read. -/
structure C (w : World) (A0 : Option Addr) (c0 : Nat) (V : LL) (A1 : Option Addr) (c1 : Nat) (B : LI) : Prop where
  g0 : Kd.C (Kd.slice 3 (Kd.int .i64)) w A0 V.length V
  l0 : V.length ≤ c0
  g1 : Kd.C k69 w A1 B.length B
  l1 : B.length ≤ c1
theorem C.below {w w2 : World} {A0 : Option Addr} {c0 : Nat} {V : LL} {A1 : Option Addr} {c1 : Nat} {B : LI} (h : C w A0 c0 V A1 c1 B) (hb : Below w.heap.size w w2) : C w2 A0 c0 V A1 c1 B := ⟨Kd.C_below h.g0 hb, h.l0, Kd.C_below h.g1 hb, h.l1⟩
/-- A box that holds a state, in whatever later world. -/
def Box (w : World) (b : Nat) (cs : Array Value) : Prop := w.heap[b]? = some (.cells cs 31 (0, 0))
theorem Box.below {w w2 : World} {b : Nat} {cs : Array Value} (h : Box w b cs) (hb : Below w.heap.size w w2) : Box w2 b cs := (hb.block _ (blk_lt h)).trans h
def Two (w : World) (b : Nat) (i k : Int) : Prop := w.heap[b]? = some (.cells #[.int .i64 i, .int .i64 k] 46 (0, 0))
theorem Two.below {w w2 : World} {b : Nat} {i k : Int} (h : Two w b i k) (hb : Below w.heap.size w w2) : Two w2 b i k := (hb.block _ (blk_lt h)).trans h
section
variable {w : World} {A0 A1 A2 A3 : Option Addr} {c0 c1 c2 c3 : Nat} {V W : LL} {B D : LI} {n f n2 f2 : Int}
theorem short_c (h : C w A0 c0 V A1 c1 B) (b : Bool) (hb : ladderbacklaw23_Short.f 200 V B n f = some b) : Calls Try.prog 9 #[.agg (row A0 c0 V A1 c1 B n f)] w fun e w' => e = .returned (.bool b) ∧ Below w.heap.size w w' :=
  ladderbacklaw23_Short.calls 200 A0 c0 V A1 c1 B n f b w h.g0 h.l0 h.g1 h.l1 hb
theorem clone_c (h : C w A0 c0 V A1 c1 B) (hs : Sh V B) : Calls Try.prog 11 #[.agg (row A0 c0 V A1 c1 B n f)] w fun e w' => ∃ A2 c2 A3 c3, e = .returned (.agg (row A2 c2 V A3 c3 B n f)) ∧ C w' A2 c2 V A3 c3 B ∧ Below w.heap.size w w' :=
  (ladderbackref23_Clone.calls 400 A0 c0 V A1 c1 B n f V B n f w h.g0 h.l0 h.g1 h.l1 (rclone_is V B n f hs 400 (by decide))).mono fun e w' ⟨v0, v1, he, h0, h1, hb⟩ => by
    obtain ⟨A2, c2, rfl, l2, g2⟩ := Kd.S_reads h0
    obtain ⟨A3, c3, rfl, l3, g3⟩ := Kd.R_reads h1
    exact ⟨A2, c2, A3, c3, he, ⟨g2, l2, g3, l3⟩, hb⟩
theorem write_c (h : C w A0 c0 V A1 c1 B) (i k x : Int) (W : LL) (ok : Bool) (hf : state_Write.f 400 V B n f i k x = some (W, B, n, f, ok)) : Calls Try.prog 21 #[.agg (row A0 c0 V A1 c1 B n f), .int .i64 i, .int .i64 k, .int .i64 x] w fun e w' => ∃ A2 c2 A3 c3, e = .returned (.tuple #[.agg (row A2 c2 W A3 c3 B n f), .bool ok]) ∧ C w' A2 c2 W A3 c3 B ∧ Below w.heap.size w w' :=
  (state_Write.calls 400 A0 c0 V A1 c1 B n f i k x W B n f ok w h.g0 h.l0 h.g1 h.l1 hf).mono fun e w' ⟨v0, v1, he, h0, h1, hb⟩ => by
    obtain ⟨A2, c2, rfl, l2, g2⟩ := Kd.S_reads h0
    obtain ⟨A3, c3, rfl, l3, g3⟩ := Kd.R_reads h1
    exact ⟨A2, c2, A3, c3, he, ⟨g2, l2, g3, l3⟩, hb⟩
theorem read_c (h : C w A0 c0 V A1 c1 B) (i k y : Int) (ok : Bool) (hf : state_Read.f V B n f i k = some (y, ok)) : Calls Try.prog 22 #[.agg (row A0 c0 V A1 c1 B n f), .int .i64 i, .int .i64 k] w fun e w' => e = .returned (.tuple #[.int .i64 y, .bool ok]) ∧ Below w.heap.size w w' :=
  state_Read.calls A0 c0 V A1 c1 B n f i k y ok w h.g0 h.l0 h.g1 h.l1 hf
theorem same_c (h : C w A0 c0 V A1 c1 B) (h2 : C w A2 c2 V A3 c3 B) (hs : Sh V B) : Calls Try.prog 12 #[.agg (row A0 c0 V A1 c1 B n f), .agg (row A2 c2 V A3 c3 B n f)] w fun e w' => e = .returned (.bool true) ∧ Below w.heap.size w w' :=
  ladderbackref23_Same.calls 2000 A0 c0 V A1 c1 B n f A2 c2 V A3 c3 B n f true w h.g0 h.l0 h.g1 h.l1 h2.g0 h2.l0 h2.g1 h2.l1 (by rw [same_is V V B B n f n f hs.1 (fun l hl => by have := hs.2.2 l hl; omega) hs.2.1 2000 (by decide), eqB_self])
theorem awake_c (w : World) : Calls Try.prog 20 #[] w fun e w' => e = .returned (.bool true) ∧ Below w.heap.size w w' :=
  ladderbacklaw23_awake.calls 4 true w (awake_is 4 (by decide))
theorem below_row {w : World} {t : Nat} (cs ds : Array Value) : Below w.heap.size w ((w.alloc (.cells cs t)).setRow w.heap.size ds) :=
  below_setRow ((Below.refl _ _).alloc (Nat.le_refl _) _) (Nat.le_refl _) _
end
/-- Is there such a value? -/
def Th (V : LL) (i k : Int) : Prop := 0 ≤ i ∧ i < V.length ∧ 0 ≤ k ∧ k < (rd_L1 V i).length
theorem th_no {V : LL} {B : LI} {n f i k : Int} (h : ¬ Th V i k) : state_there.f V B n f i k = some false := by
  unfold state_there.f
  by_cases h1 : i ≥ 0
  · rw [if_pos h1]
    by_cases h2 : i < (V.length : Int)
    · rw [if_pos h2]
      by_cases h3 : k ≥ 0
      · rw [if_pos h3, if_pos (by omega), decide_eq_false (fun e => h ⟨h1, h2, h3, e⟩)]
      · rw [if_neg h3]
    · rw [if_neg h2]
  · rw [if_neg h1]
theorem th_yes {V : LL} {B : LI} {n f : Int} {i k : Nat} (hi : i < V.length) (hk : k < V[i].length) : state_there.f V B n f i k = some true := by
  unfold state_there.f
  rw [if_pos (by omega), if_pos (by omega), if_pos (by omega), if_pos (by omega), rdL V i hi, decide_eq_true (by omega)]
theorem write_no {V : LL} {B : LI} {n f i k x : Int} (hs : Sh V B) (h : ¬ Th V i k) : state_Write.f 400 V B n f i k x = some (V, B, n, f, false) := by
  unfold state_Write.f
  rw [sclone_is V B n f hs 400 (by decide), Option.bind_some, th_no h, Option.bind_some, if_neg (by decide)]
theorem read_no {V : LL} {B : LI} {n f i k : Int} (h : ¬ Th V i k) : state_Read.f V B n f i k = some (0, false) := by
  unfold state_Read.f
  rw [th_no h, Option.bind_some, if_neg (by decide)]
theorem write_yes {V : LL} {B : LI} {n f x : Int} {i k : Nat} (hs : Sh V B) (hi : i < V.length) (hk : k < V[i].length) : state_Write.f 400 V B n f i k x = some (V.set i (V[i].set k x), B, n, f, true) := by
  unfold state_Write.f
  rw [sclone_is V B n f hs 400 (by decide), Option.bind_some, th_yes hi hk, Option.bind_some, if_pos rfl, if_pos (by omega)]
  simp only
  rw [if_pos (by omega), if_pos (by omega), rdL V i hi, if_pos (by omega), Int.toNat_natCast, Int.toNat_natCast]
theorem read_yes {V : LL} {B : LI} {n f : Int} {i k : Nat} (hi : i < V.length) (hk : k < V[i].length) : state_Read.f V B n f i k = some (V[i][k], true) := by
  unfold state_Read.f
  rw [th_yes hi hk, Option.bind_some, if_pos rfl, if_pos (by omega), if_pos (by omega), if_pos (by omega), rdL V i hi, if_pos (by omega), rdn _ k hk]
theorem row_at {w : World} {A : Option Addr} {n : Nat} {xs : LL} (h : Kd.C (Kd.slice 3 (Kd.int .i64)) w A n xs) (i : Nat) (hi : i < n) (hx : i < xs.length) : ∃ ad A0 c0, A = some ad ∧ w.cell? (ad.add i) = some (.slice A0 xs[i].length c0) ∧ xs[i].length ≤ c0 ∧ (Kd.int .i64).C w A0 xs[i].length xs[i] := by
  obtain ⟨ad, c, e, _, hK, hc⟩ := Kd.C_get h [] (i : Int) (by omega) (by omega)
  rw [show xs.getD (i : Int).toNat [] = xs[i] by rw [Int.toNat_natCast, List.getD_eq_getElem?_getD, List.getElem?_eq_getElem hx]; rfl] at hK
  obtain ⟨A0, c0, rfl, l0, g0⟩ := hK
  refine ⟨ad, A0, c0, e, ?_, l0, g0⟩
  have := hc 0 _ rfl
  rw [Int.toNat_natCast] at this
  simpa [Kd.slice] using this
end StW
open StW
set_option maxHeartbeats 8000000 in
set_option maxRecDepth 100000 in
theorem StateWrites_w (A0 A1 : Option Addr) (c0 c1 : Nat) (V : LL) (B : LI) (n f i k x : Int) (w : World) (cs : C w A0 c0 V A1 c1 B) :
    Calls Try.prog 5 #[.agg #[.slice A0 V.length c0, .slice A1 B.length c1, .int .i64 n, .int .i64 f], .agg #[.int .i64 i, .int .i64 k], .int .i64 x] w fun e w' => e = .returned (.bool true) ∧ Below w.heap.size w w' := by
  have hi4 : (Try.prog.info? 31).map (·.size) = some 4 := by kernel_rfl
  obtain ⟨s1, e1, h1⟩ := short_is V B n f
  have E1 := Aside0.mk (e1 200 (by decide))
  have CS := Aside0.mk cs
  clear e1
  cases s1 with
  | false =>
    clear cs h1
    go_enter Try.func5, Try.ntmps5
    go_wp2_with fail
    obtain ⟨W0, hW0⟩ : ∃ W0, W0 = (w.alloc (.cells #[.slice A0 V.length c0, .slice A1 B.length c1, .int .i64 n, .int .i64 f] 31)).alloc (.cells #[.int .i64 i, .int .i64 k] 46) := ⟨_, rfl⟩
    have HB := Aside0.mk (show Below w.heap.size w W0 from by rw [hW0]; exact ((Below.refl w.heap.size w).alloc (Nat.le_refl _) _).alloc (by simp) _)
    rw [← hW0]
    clear hW0
    refine (short_c (n := n) (f := f) (CS.out.below HB.out) false E1.out).mono ?_
    rintro e W1 ⟨rfl, hb⟩
    replace HB := Aside0.mk (HB.out.trans (hb.mono HB.out.size))
    clear hb
    go_wp2_with fail
    refine (awake_c _).mono ?_
    rintro e W2 ⟨rfl, hb⟩
    replace HB := Aside0.mk (HB.out.trans (hb.mono HB.out.size))
    go_wp2_with fail
    go_ret
    exact ⟨rfl, HB.out⟩
  | true =>
    have HS := Aside0.mk (h1 rfl)
    clear h1
    by_cases ht : Th V i k
    · obtain ⟨t1, t2, t3, t4⟩ := ht
      obtain ⟨i, rfl⟩ := Int.eq_ofNat_of_zero_le t1
      obtain ⟨k, rfl⟩ := Int.eq_ofNat_of_zero_le t3
      have hi : i < V.length := by omega
      rw [rdL V i hi] at t4
      have hk : k < V[i].length := by omega
      have HW := Aside0.mk (write_yes (B := B) (n := n) (f := f) (x := x) HS.out hi hk)
      have HR := Aside0.mk (read_yes (B := B) (n := n) (f := f) hi hk)
      obtain ⟨W, hW⟩ : ∃ W, W = V.set i (V[i].set k x) := ⟨_, rfl⟩
      rw [← hW] at HW
      have hWl : W.length = V.length := by rw [hW, List.length_set]
      have hiW : i < W.length := by omega
      have hWi : W[i] = V[i].set k x := by simp [hW]
      have hkW : k < W[i].length := by rw [hWi, List.length_set]; exact hk
      have hsW : Sh W B := ⟨by rw [hWl]; exact HS.out.1, HS.out.2.1, fun l hl => by
        rw [hW] at hl
        rcases List.mem_or_eq_of_mem_set hl with h | rfl
        · exact HS.out.2.2 l h
        · rw [List.length_set]; exact HS.out.2.2 _ (List.getElem_mem hi)⟩
      have hx : W[i][k] = x := by simp [hWi]
      have HR2 := read_yes (B := B) (n := n) (f := f) hiW hkW
      rw [hx] at HR2
      have HR2 := Aside0.mk HR2
      have HW2 := write_yes (B := B) (n := n) (f := f) (x := V[i][k]) hsW hiW hkW
      have hV : W.set i (W[i].set k V[i][k]) = V := by rw [hWi, hW, List.set_set, List.set_set, List.set_getElem_self, List.set_getElem_self]
      rw [hV] at HW2
      have HW2 := Aside0.mk HW2
      obtain ⟨ad, B0, d0, hA, e0, m0, g0⟩ := row_at cs.g0 i hi hi
      subst hA
      have EL := Aside0.mk (fun W_ (hb : Below w.heap.size w W_) => pw_cell_below hb e0)
      obtain ⟨aq, hB, e1⟩ := Kd.at_int g0 (k : Int) (by omega) (by omega)
      subst hB
      rw [rdn _ k hk, Int.toNat_natCast] at e1
      have EL2 := Aside0.mk (fun W_ (hb : Below w.heap.size w W_) => pw_cell_below hb e1)
      clear hV hx hsW hkW hWi hiW hWl hW e0 e1 g0 cs t1 t2 t3 t4
      generalize hold : V[i][k] = old at *
      clear hold
      go_enter Try.func5, Try.ntmps5
      go_wp2_with fail
      obtain ⟨W0, hW0⟩ : ∃ W0, W0 = (w.alloc (.cells #[.slice (some ad) V.length c0, .slice A1 B.length c1, .int .i64 n, .int .i64 f] 31)).alloc (.cells #[.int .i64 i, .int .i64 k] 46) := ⟨_, rfl⟩
      have H3 := Aside0.mk (show Box W0 w.heap.size #[.slice (some ad) V.length c0, .slice A1 B.length c1, .int .i64 n, .int .i64 f] from by rw [hW0]; exact heap_alloc2_old w _ _)
      have H4 := Aside0.mk (show Two W0 (w.heap.size + 1) i k from by rw [hW0]; exact heap_alloc2_new w _ _)
      have HB := Aside0.mk (show Below w.heap.size w W0 from by rw [hW0]; exact ((Below.refl w.heap.size w).alloc (Nat.le_refl _) _).alloc (by simp) _)
      replace CS := Aside0.mk (CS.out.below HB.out)
      rw [← hW0]
      clear hW0
      obtain ⟨b4, hb4⟩ : ∃ b4, b4 = w.heap.size + 1 := ⟨_, rfl⟩
      rw [← hb4] at H4 ⊢
      clear hb4
      refine (short_c (n := n) (f := f) CS.out true E1.out).mono ?_
      rintro e W1 ⟨rfl, hb⟩
      replace H3 := Aside0.mk (H3.out.below hb)
      replace H4 := Aside0.mk (H4.out.below hb)
      replace CS := Aside0.mk (CS.out.below hb)
      replace HB := Aside0.mk (HB.out.trans (hb.mono HB.out.size))
      clear hb
      have qH30 : W1.cell? ⟨w.heap.size, 0, none⟩ = some (.slice (some ad) V.length c0) := (blk_cell H3.out 0).trans rfl
      have qH31 : W1.cell? ⟨w.heap.size, 1, none⟩ = some (.slice A1 B.length c1) := (blk_cell H3.out 1).trans rfl
      have qH32 : W1.cell? ⟨w.heap.size, 2, none⟩ = some (.int .i64 n) := (blk_cell H3.out 2).trans rfl
      have qH33 : W1.cell? ⟨w.heap.size, 3, none⟩ = some (.int .i64 f) := (blk_cell H3.out 3).trans rfl
      have qH40 : W1.cell? ⟨b4, 0, none⟩ = some (.int .i64 i) := (blk_cell H4.out 0).trans rfl
      have qH41 : W1.cell? ⟨b4, 1, none⟩ = some (.int .i64 k) := (blk_cell H4.out 1).trans rfl
      go_wp2_with fail
      clear qH30 qH31 qH32 qH33 qH40 qH41
      refine (clone_c CS.out HS.out).mono ?_
      rintro e W2 ⟨A2, c2, A3, c3, rfl, cw, hb⟩
      replace H3 := Aside0.mk (H3.out.below hb)
      replace H4 := Aside0.mk (H4.out.below hb)
      replace CS := Aside0.mk (CS.out.below hb)
      replace HB := Aside0.mk (HB.out.trans (hb.mono HB.out.size))
      clear hb
      have CW := Aside0.mk cw
      clear cw
      unfold row
      obtain ⟨b7, hb7⟩ : ∃ b, b = W2.heap.size := ⟨_, rfl⟩
      have qH30 : W2.cell? ⟨w.heap.size, 0, none⟩ = some (.slice (some ad) V.length c0) := (blk_cell H3.out 0).trans rfl
      have qH31 : W2.cell? ⟨w.heap.size, 1, none⟩ = some (.slice A1 B.length c1) := (blk_cell H3.out 1).trans rfl
      have qH32 : W2.cell? ⟨w.heap.size, 2, none⟩ = some (.int .i64 n) := (blk_cell H3.out 2).trans rfl
      have qH33 : W2.cell? ⟨w.heap.size, 3, none⟩ = some (.int .i64 f) := (blk_cell H3.out 3).trans rfl
      have qH40 : W2.cell? ⟨b4, 0, none⟩ = some (.int .i64 i) := (blk_cell H4.out 0).trans rfl
      have qH41 : W2.cell? ⟨b4, 1, none⟩ = some (.int .i64 k) := (blk_cell H4.out 1).trans rfl
      go_wp2_with ((with_reducible refine gate_store (t := 31) (p := 7) (v := .tmp 24) rfl ?_); refine wpList_store_row rfl 31 (.tmp 7) (.tmp 24) rfl W2.heap.size #[.slice A2 V.length c2, .slice A3 B.length c3, .int .i64 n, .int .i64 f] rfl rfl 31 _ (heap_alloc_new W2 _) (by rw [hi4]; rfl) rfl (by kernel_rfl) ?_; clear qH30 qH31 qH32 qH33 qH40 qH41; obtain ⟨W3, hw⟩ : ∃ W_, W_ = (W2.alloc (.cells #[.slice none 0 0, .slice none 0 0, .int .i64 0, .int .i64 0] 31)).setRow W2.heap.size #[.slice A2 V.length c2, .slice A3 B.length c3, .int .i64 n, .int .i64 f] := ⟨_, rfl⟩; have hb : Below W2.heap.size W2 W3 := hw ▸ below_row _ _; have hn : Box W3 W2.heap.size #[.slice A2 V.length c2, .slice A3 B.length c3, .int .i64 n, .int .i64 f] := hw ▸ setRow_heap _ _ _ _ _ _ (heap_alloc_new W2 _); rw [← hw]; rw [← hb7] at hn ⊢; replace H3 := Aside0.mk (H3.out.below hb); replace H4 := Aside0.mk (H4.out.below hb); replace CS := Aside0.mk (CS.out.below hb); replace CW := Aside0.mk (CW.out.below hb); replace HB := Aside0.mk (HB.out.trans (hb.mono HB.out.size)); have H7 := Aside0.mk hn; clear hb hn hw hb7; have qH30 : W3.cell? ⟨w.heap.size, 0, none⟩ = some (.slice (some ad) V.length c0) := (blk_cell H3.out 0).trans rfl; have qH31 : W3.cell? ⟨w.heap.size, 1, none⟩ = some (.slice A1 B.length c1) := (blk_cell H3.out 1).trans rfl; have qH32 : W3.cell? ⟨w.heap.size, 2, none⟩ = some (.int .i64 n) := (blk_cell H3.out 2).trans rfl; have qH33 : W3.cell? ⟨w.heap.size, 3, none⟩ = some (.int .i64 f) := (blk_cell H3.out 3).trans rfl; have qH40 : W3.cell? ⟨b4, 0, none⟩ = some (.int .i64 i) := (blk_cell H4.out 0).trans rfl; have qH41 : W3.cell? ⟨b4, 1, none⟩ = some (.int .i64 k) := (blk_cell H4.out 1).trans rfl; have qH70 : W3.cell? ⟨b7, 0, none⟩ = some (.slice A2 V.length c2) := (blk_cell H7.out 0).trans rfl; have qH71 : W3.cell? ⟨b7, 1, none⟩ = some (.slice A3 B.length c3) := (blk_cell H7.out 1).trans rfl; have qH72 : W3.cell? ⟨b7, 2, none⟩ = some (.int .i64 n) := (blk_cell H7.out 2).trans rfl; have qH73 : W3.cell? ⟨b7, 3, none⟩ = some (.int .i64 f) := (blk_cell H7.out 3).trans rfl)
      repeat (go_quiet (fail); try go_wp2_with fail)
      clear qH30 qH31 qH32 qH33 qH40 qH41 qH70 qH71 qH72 qH73
      obtain ⟨W4, hw⟩ : ∃ W_, W_ = W3.drewN nq := ⟨_, rfl⟩
      have hb : Below W3.heap.size W3 W4 := hw ▸ pw_below_drewN (Below.refl _ _) _
      rw [← hw]
      clear hw
      replace H3 := Aside0.mk (H3.out.below hb)
      replace H4 := Aside0.mk (H4.out.below hb)
      replace H7 := Aside0.mk (H7.out.below hb)
      replace CS := Aside0.mk (CS.out.below hb)
      replace CW := Aside0.mk (CW.out.below hb)
      replace HB := Aside0.mk (HB.out.trans (hb.mono HB.out.size))
      clear hb
      refine (write_c CS.out i k x W true HW.out).mono ?_
      rintro e W5 ⟨A4, c4, A5, c5, rfl, ct, hb⟩
      replace H3 := Aside0.mk (H3.out.below hb)
      replace H4 := Aside0.mk (H4.out.below hb)
      replace H7 := Aside0.mk (H7.out.below hb)
      replace CS := Aside0.mk (CS.out.below hb)
      replace CW := Aside0.mk (CW.out.below hb)
      replace HB := Aside0.mk (HB.out.trans (hb.mono HB.out.size))
      clear hb
      have CT := Aside0.mk ct
      clear ct
      unfold row
      obtain ⟨b10, hb10⟩ : ∃ b, b = W5.heap.size := ⟨_, rfl⟩
      have qH30 : W5.cell? ⟨w.heap.size, 0, none⟩ = some (.slice (some ad) V.length c0) := (blk_cell H3.out 0).trans rfl
      have qH31 : W5.cell? ⟨w.heap.size, 1, none⟩ = some (.slice A1 B.length c1) := (blk_cell H3.out 1).trans rfl
      have qH32 : W5.cell? ⟨w.heap.size, 2, none⟩ = some (.int .i64 n) := (blk_cell H3.out 2).trans rfl
      have qH33 : W5.cell? ⟨w.heap.size, 3, none⟩ = some (.int .i64 f) := (blk_cell H3.out 3).trans rfl
      have qH40 : W5.cell? ⟨b4, 0, none⟩ = some (.int .i64 i) := (blk_cell H4.out 0).trans rfl
      have qH41 : W5.cell? ⟨b4, 1, none⟩ = some (.int .i64 k) := (blk_cell H4.out 1).trans rfl
      have qH70 : W5.cell? ⟨b7, 0, none⟩ = some (.slice A2 V.length c2) := (blk_cell H7.out 0).trans rfl
      have qH71 : W5.cell? ⟨b7, 1, none⟩ = some (.slice A3 B.length c3) := (blk_cell H7.out 1).trans rfl
      have qH72 : W5.cell? ⟨b7, 2, none⟩ = some (.int .i64 n) := (blk_cell H7.out 2).trans rfl
      have qH73 : W5.cell? ⟨b7, 3, none⟩ = some (.int .i64 f) := (blk_cell H7.out 3).trans rfl
      go_wp2_with ((with_reducible refine gate_store (t := 31) (p := 10) (v := .tmp 35) rfl ?_); refine wpList_store_row rfl 31 (.tmp 10) (.tmp 35) rfl W5.heap.size #[.slice A4 W.length c4, .slice A5 B.length c5, .int .i64 n, .int .i64 f] rfl rfl 31 _ (heap_alloc_new W5 _) (by rw [hi4]; rfl) rfl (by kernel_rfl) ?_; clear qH30 qH31 qH32 qH33 qH40 qH41 qH70 qH71 qH72 qH73; obtain ⟨W6, hw⟩ : ∃ W_, W_ = (W5.alloc (.cells #[.slice none 0 0, .slice none 0 0, .int .i64 0, .int .i64 0] 31)).setRow W5.heap.size #[.slice A4 W.length c4, .slice A5 B.length c5, .int .i64 n, .int .i64 f] := ⟨_, rfl⟩; have hb : Below W5.heap.size W5 W6 := hw ▸ below_row _ _; have hn : Box W6 W5.heap.size #[.slice A4 W.length c4, .slice A5 B.length c5, .int .i64 n, .int .i64 f] := hw ▸ setRow_heap _ _ _ _ _ _ (heap_alloc_new W5 _); rw [← hw]; rw [← hb10] at hn ⊢; replace H3 := Aside0.mk (H3.out.below hb); replace H4 := Aside0.mk (H4.out.below hb); replace H7 := Aside0.mk (H7.out.below hb); replace CS := Aside0.mk (CS.out.below hb); replace CW := Aside0.mk (CW.out.below hb); replace CT := Aside0.mk (CT.out.below hb); replace HB := Aside0.mk (HB.out.trans (hb.mono HB.out.size)); have H10 := Aside0.mk hn; clear hb hn hw hb10; have qH30 : W6.cell? ⟨w.heap.size, 0, none⟩ = some (.slice (some ad) V.length c0) := (blk_cell H3.out 0).trans rfl; have qH31 : W6.cell? ⟨w.heap.size, 1, none⟩ = some (.slice A1 B.length c1) := (blk_cell H3.out 1).trans rfl; have qH32 : W6.cell? ⟨w.heap.size, 2, none⟩ = some (.int .i64 n) := (blk_cell H3.out 2).trans rfl; have qH33 : W6.cell? ⟨w.heap.size, 3, none⟩ = some (.int .i64 f) := (blk_cell H3.out 3).trans rfl; have qH40 : W6.cell? ⟨b4, 0, none⟩ = some (.int .i64 i) := (blk_cell H4.out 0).trans rfl; have qH41 : W6.cell? ⟨b4, 1, none⟩ = some (.int .i64 k) := (blk_cell H4.out 1).trans rfl; have qH70 : W6.cell? ⟨b7, 0, none⟩ = some (.slice A2 V.length c2) := (blk_cell H7.out 0).trans rfl; have qH71 : W6.cell? ⟨b7, 1, none⟩ = some (.slice A3 B.length c3) := (blk_cell H7.out 1).trans rfl; have qH72 : W6.cell? ⟨b7, 2, none⟩ = some (.int .i64 n) := (blk_cell H7.out 2).trans rfl; have qH73 : W6.cell? ⟨b7, 3, none⟩ = some (.int .i64 f) := (blk_cell H7.out 3).trans rfl; have qH100 : W6.cell? ⟨b10, 0, none⟩ = some (.slice A4 W.length c4) := (blk_cell H10.out 0).trans rfl; have qH101 : W6.cell? ⟨b10, 1, none⟩ = some (.slice A5 B.length c5) := (blk_cell H10.out 1).trans rfl; have qH102 : W6.cell? ⟨b10, 2, none⟩ = some (.int .i64 n) := (blk_cell H10.out 2).trans rfl; have qH103 : W6.cell? ⟨b10, 3, none⟩ = some (.int .i64 f) := (blk_cell H10.out 3).trans rfl; have y0 := EL.out _ HB.out)
      clear qH30 qH31 qH32 qH33 qH40 qH41 qH70 qH71 qH72 qH73 qH100 qH101 qH102 qH103
      refine (same_c (n := n) (f := f) CS.out CW.out HS.out).mono ?_
      rintro e W7 ⟨rfl, hb⟩
      replace H3 := Aside0.mk (H3.out.below hb)
      replace H4 := Aside0.mk (H4.out.below hb)
      replace H7 := Aside0.mk (H7.out.below hb)
      replace H10 := Aside0.mk (H10.out.below hb)
      replace CS := Aside0.mk (CS.out.below hb)
      replace CW := Aside0.mk (CW.out.below hb)
      replace CT := Aside0.mk (CT.out.below hb)
      replace HB := Aside0.mk (HB.out.trans (hb.mono HB.out.size))
      clear hb
      have qH30 : W7.cell? ⟨w.heap.size, 0, none⟩ = some (.slice (some ad) V.length c0) := (blk_cell H3.out 0).trans rfl
      have qH31 : W7.cell? ⟨w.heap.size, 1, none⟩ = some (.slice A1 B.length c1) := (blk_cell H3.out 1).trans rfl
      have qH32 : W7.cell? ⟨w.heap.size, 2, none⟩ = some (.int .i64 n) := (blk_cell H3.out 2).trans rfl
      have qH33 : W7.cell? ⟨w.heap.size, 3, none⟩ = some (.int .i64 f) := (blk_cell H3.out 3).trans rfl
      have qH40 : W7.cell? ⟨b4, 0, none⟩ = some (.int .i64 i) := (blk_cell H4.out 0).trans rfl
      have qH41 : W7.cell? ⟨b4, 1, none⟩ = some (.int .i64 k) := (blk_cell H4.out 1).trans rfl
      have qH70 : W7.cell? ⟨b7, 0, none⟩ = some (.slice A2 V.length c2) := (blk_cell H7.out 0).trans rfl
      have qH71 : W7.cell? ⟨b7, 1, none⟩ = some (.slice A3 B.length c3) := (blk_cell H7.out 1).trans rfl
      have qH72 : W7.cell? ⟨b7, 2, none⟩ = some (.int .i64 n) := (blk_cell H7.out 2).trans rfl
      have qH73 : W7.cell? ⟨b7, 3, none⟩ = some (.int .i64 f) := (blk_cell H7.out 3).trans rfl
      have qH100 : W7.cell? ⟨b10, 0, none⟩ = some (.slice A4 W.length c4) := (blk_cell H10.out 0).trans rfl
      have qH101 : W7.cell? ⟨b10, 1, none⟩ = some (.slice A5 B.length c5) := (blk_cell H10.out 1).trans rfl
      have qH102 : W7.cell? ⟨b10, 2, none⟩ = some (.int .i64 n) := (blk_cell H10.out 2).trans rfl
      have qH103 : W7.cell? ⟨b10, 3, none⟩ = some (.int .i64 f) := (blk_cell H10.out 3).trans rfl
      go_wp2_with fail
      clear qH30 qH31 qH32 qH33 qH40 qH41 qH70 qH71 qH72 qH73 qH100 qH101 qH102 qH103
      refine (read_c CS.out i k old true HR.out).mono ?_
      rintro e W8 ⟨rfl, hb⟩
      replace H3 := Aside0.mk (H3.out.below hb)
      replace H4 := Aside0.mk (H4.out.below hb)
      replace H7 := Aside0.mk (H7.out.below hb)
      replace H10 := Aside0.mk (H10.out.below hb)
      replace CS := Aside0.mk (CS.out.below hb)
      replace CW := Aside0.mk (CW.out.below hb)
      replace CT := Aside0.mk (CT.out.below hb)
      replace HB := Aside0.mk (HB.out.trans (hb.mono HB.out.size))
      clear hb
      have qH30 : W8.cell? ⟨w.heap.size, 0, none⟩ = some (.slice (some ad) V.length c0) := (blk_cell H3.out 0).trans rfl
      have qH31 : W8.cell? ⟨w.heap.size, 1, none⟩ = some (.slice A1 B.length c1) := (blk_cell H3.out 1).trans rfl
      have qH32 : W8.cell? ⟨w.heap.size, 2, none⟩ = some (.int .i64 n) := (blk_cell H3.out 2).trans rfl
      have qH33 : W8.cell? ⟨w.heap.size, 3, none⟩ = some (.int .i64 f) := (blk_cell H3.out 3).trans rfl
      have qH40 : W8.cell? ⟨b4, 0, none⟩ = some (.int .i64 i) := (blk_cell H4.out 0).trans rfl
      have qH41 : W8.cell? ⟨b4, 1, none⟩ = some (.int .i64 k) := (blk_cell H4.out 1).trans rfl
      have qH70 : W8.cell? ⟨b7, 0, none⟩ = some (.slice A2 V.length c2) := (blk_cell H7.out 0).trans rfl
      have qH71 : W8.cell? ⟨b7, 1, none⟩ = some (.slice A3 B.length c3) := (blk_cell H7.out 1).trans rfl
      have qH72 : W8.cell? ⟨b7, 2, none⟩ = some (.int .i64 n) := (blk_cell H7.out 2).trans rfl
      have qH73 : W8.cell? ⟨b7, 3, none⟩ = some (.int .i64 f) := (blk_cell H7.out 3).trans rfl
      have qH100 : W8.cell? ⟨b10, 0, none⟩ = some (.slice A4 W.length c4) := (blk_cell H10.out 0).trans rfl
      have qH101 : W8.cell? ⟨b10, 1, none⟩ = some (.slice A5 B.length c5) := (blk_cell H10.out 1).trans rfl
      have qH102 : W8.cell? ⟨b10, 2, none⟩ = some (.int .i64 n) := (blk_cell H10.out 2).trans rfl
      have qH103 : W8.cell? ⟨b10, 3, none⟩ = some (.int .i64 f) := (blk_cell H10.out 3).trans rfl
      go_wp2_with fail
      clear qH30 qH31 qH32 qH33 qH40 qH41 qH70 qH71 qH72 qH73 qH100 qH101 qH102 qH103
      refine (read_c CT.out i k x true HR2.out).mono ?_
      rintro e W9 ⟨rfl, hb⟩
      replace H3 := Aside0.mk (H3.out.below hb)
      replace H4 := Aside0.mk (H4.out.below hb)
      replace H7 := Aside0.mk (H7.out.below hb)
      replace H10 := Aside0.mk (H10.out.below hb)
      replace CS := Aside0.mk (CS.out.below hb)
      replace CW := Aside0.mk (CW.out.below hb)
      replace CT := Aside0.mk (CT.out.below hb)
      replace HB := Aside0.mk (HB.out.trans (hb.mono HB.out.size))
      clear hb
      have qH30 : W9.cell? ⟨w.heap.size, 0, none⟩ = some (.slice (some ad) V.length c0) := (blk_cell H3.out 0).trans rfl
      have qH31 : W9.cell? ⟨w.heap.size, 1, none⟩ = some (.slice A1 B.length c1) := (blk_cell H3.out 1).trans rfl
      have qH32 : W9.cell? ⟨w.heap.size, 2, none⟩ = some (.int .i64 n) := (blk_cell H3.out 2).trans rfl
      have qH33 : W9.cell? ⟨w.heap.size, 3, none⟩ = some (.int .i64 f) := (blk_cell H3.out 3).trans rfl
      have qH40 : W9.cell? ⟨b4, 0, none⟩ = some (.int .i64 i) := (blk_cell H4.out 0).trans rfl
      have qH41 : W9.cell? ⟨b4, 1, none⟩ = some (.int .i64 k) := (blk_cell H4.out 1).trans rfl
      have qH70 : W9.cell? ⟨b7, 0, none⟩ = some (.slice A2 V.length c2) := (blk_cell H7.out 0).trans rfl
      have qH71 : W9.cell? ⟨b7, 1, none⟩ = some (.slice A3 B.length c3) := (blk_cell H7.out 1).trans rfl
      have qH72 : W9.cell? ⟨b7, 2, none⟩ = some (.int .i64 n) := (blk_cell H7.out 2).trans rfl
      have qH73 : W9.cell? ⟨b7, 3, none⟩ = some (.int .i64 f) := (blk_cell H7.out 3).trans rfl
      have qH100 : W9.cell? ⟨b10, 0, none⟩ = some (.slice A4 W.length c4) := (blk_cell H10.out 0).trans rfl
      have qH101 : W9.cell? ⟨b10, 1, none⟩ = some (.slice A5 B.length c5) := (blk_cell H10.out 1).trans rfl
      have qH102 : W9.cell? ⟨b10, 2, none⟩ = some (.int .i64 n) := (blk_cell H10.out 2).trans rfl
      have qH103 : W9.cell? ⟨b10, 3, none⟩ = some (.int .i64 f) := (blk_cell H10.out 3).trans rfl
      go_wp2_with fail
      clear qH30 qH31 qH32 qH33 qH40 qH41 qH70 qH71 qH72 qH73 qH100 qH101 qH102 qH103
      refine (write_c CT.out i k old V true HW2.out).mono ?_
      rintro e W10 ⟨A6, c6, A7, c7, rfl, cb, hb⟩
      replace H3 := Aside0.mk (H3.out.below hb)
      replace H4 := Aside0.mk (H4.out.below hb)
      replace H7 := Aside0.mk (H7.out.below hb)
      replace H10 := Aside0.mk (H10.out.below hb)
      replace CS := Aside0.mk (CS.out.below hb)
      replace CW := Aside0.mk (CW.out.below hb)
      replace CT := Aside0.mk (CT.out.below hb)
      replace HB := Aside0.mk (HB.out.trans (hb.mono HB.out.size))
      clear hb
      have CB := Aside0.mk cb
      clear cb
      unfold row
      obtain ⟨b17, hb17⟩ : ∃ b, b = W10.heap.size := ⟨_, rfl⟩
      have qH30 : W10.cell? ⟨w.heap.size, 0, none⟩ = some (.slice (some ad) V.length c0) := (blk_cell H3.out 0).trans rfl
      have qH31 : W10.cell? ⟨w.heap.size, 1, none⟩ = some (.slice A1 B.length c1) := (blk_cell H3.out 1).trans rfl
      have qH32 : W10.cell? ⟨w.heap.size, 2, none⟩ = some (.int .i64 n) := (blk_cell H3.out 2).trans rfl
      have qH33 : W10.cell? ⟨w.heap.size, 3, none⟩ = some (.int .i64 f) := (blk_cell H3.out 3).trans rfl
      have qH40 : W10.cell? ⟨b4, 0, none⟩ = some (.int .i64 i) := (blk_cell H4.out 0).trans rfl
      have qH41 : W10.cell? ⟨b4, 1, none⟩ = some (.int .i64 k) := (blk_cell H4.out 1).trans rfl
      have qH70 : W10.cell? ⟨b7, 0, none⟩ = some (.slice A2 V.length c2) := (blk_cell H7.out 0).trans rfl
      have qH71 : W10.cell? ⟨b7, 1, none⟩ = some (.slice A3 B.length c3) := (blk_cell H7.out 1).trans rfl
      have qH72 : W10.cell? ⟨b7, 2, none⟩ = some (.int .i64 n) := (blk_cell H7.out 2).trans rfl
      have qH73 : W10.cell? ⟨b7, 3, none⟩ = some (.int .i64 f) := (blk_cell H7.out 3).trans rfl
      have qH100 : W10.cell? ⟨b10, 0, none⟩ = some (.slice A4 W.length c4) := (blk_cell H10.out 0).trans rfl
      have qH101 : W10.cell? ⟨b10, 1, none⟩ = some (.slice A5 B.length c5) := (blk_cell H10.out 1).trans rfl
      have qH102 : W10.cell? ⟨b10, 2, none⟩ = some (.int .i64 n) := (blk_cell H10.out 2).trans rfl
      have qH103 : W10.cell? ⟨b10, 3, none⟩ = some (.int .i64 f) := (blk_cell H10.out 3).trans rfl
      go_wp2_with ((with_reducible refine gate_store (t := 31) (p := 17) (v := .tmp 105) rfl ?_); refine wpList_store_row rfl 31 (.tmp 17) (.tmp 105) rfl W10.heap.size #[.slice A6 V.length c6, .slice A7 B.length c7, .int .i64 n, .int .i64 f] rfl rfl 31 _ (heap_alloc_new W10 _) (by rw [hi4]; rfl) rfl (by kernel_rfl) ?_; clear qH30 qH31 qH32 qH33 qH40 qH41 qH70 qH71 qH72 qH73 qH100 qH101 qH102 qH103; obtain ⟨W11, hw⟩ : ∃ W_, W_ = (W10.alloc (.cells #[.slice none 0 0, .slice none 0 0, .int .i64 0, .int .i64 0] 31)).setRow W10.heap.size #[.slice A6 V.length c6, .slice A7 B.length c7, .int .i64 n, .int .i64 f] := ⟨_, rfl⟩; have hb : Below W10.heap.size W10 W11 := hw ▸ below_row _ _; have hn : Box W11 W10.heap.size #[.slice A6 V.length c6, .slice A7 B.length c7, .int .i64 n, .int .i64 f] := hw ▸ setRow_heap _ _ _ _ _ _ (heap_alloc_new W10 _); rw [← hw]; rw [← hb17] at hn ⊢; replace H3 := Aside0.mk (H3.out.below hb); replace H4 := Aside0.mk (H4.out.below hb); replace H7 := Aside0.mk (H7.out.below hb); replace H10 := Aside0.mk (H10.out.below hb); replace CS := Aside0.mk (CS.out.below hb); replace CW := Aside0.mk (CW.out.below hb); replace CT := Aside0.mk (CT.out.below hb); replace CB := Aside0.mk (CB.out.below hb); replace HB := Aside0.mk (HB.out.trans (hb.mono HB.out.size)); have H17 := Aside0.mk hn; clear hb hn hw hb17; have qH30 : W11.cell? ⟨w.heap.size, 0, none⟩ = some (.slice (some ad) V.length c0) := (blk_cell H3.out 0).trans rfl; have qH31 : W11.cell? ⟨w.heap.size, 1, none⟩ = some (.slice A1 B.length c1) := (blk_cell H3.out 1).trans rfl; have qH32 : W11.cell? ⟨w.heap.size, 2, none⟩ = some (.int .i64 n) := (blk_cell H3.out 2).trans rfl; have qH33 : W11.cell? ⟨w.heap.size, 3, none⟩ = some (.int .i64 f) := (blk_cell H3.out 3).trans rfl; have qH40 : W11.cell? ⟨b4, 0, none⟩ = some (.int .i64 i) := (blk_cell H4.out 0).trans rfl; have qH41 : W11.cell? ⟨b4, 1, none⟩ = some (.int .i64 k) := (blk_cell H4.out 1).trans rfl; have qH70 : W11.cell? ⟨b7, 0, none⟩ = some (.slice A2 V.length c2) := (blk_cell H7.out 0).trans rfl; have qH71 : W11.cell? ⟨b7, 1, none⟩ = some (.slice A3 B.length c3) := (blk_cell H7.out 1).trans rfl; have qH72 : W11.cell? ⟨b7, 2, none⟩ = some (.int .i64 n) := (blk_cell H7.out 2).trans rfl; have qH73 : W11.cell? ⟨b7, 3, none⟩ = some (.int .i64 f) := (blk_cell H7.out 3).trans rfl; have qH100 : W11.cell? ⟨b10, 0, none⟩ = some (.slice A4 W.length c4) := (blk_cell H10.out 0).trans rfl; have qH101 : W11.cell? ⟨b10, 1, none⟩ = some (.slice A5 B.length c5) := (blk_cell H10.out 1).trans rfl; have qH102 : W11.cell? ⟨b10, 2, none⟩ = some (.int .i64 n) := (blk_cell H10.out 2).trans rfl; have qH103 : W11.cell? ⟨b10, 3, none⟩ = some (.int .i64 f) := (blk_cell H10.out 3).trans rfl; have qH170 : W11.cell? ⟨b17, 0, none⟩ = some (.slice A6 V.length c6) := (blk_cell H17.out 0).trans rfl; have qH171 : W11.cell? ⟨b17, 1, none⟩ = some (.slice A7 B.length c7) := (blk_cell H17.out 1).trans rfl; have qH172 : W11.cell? ⟨b17, 2, none⟩ = some (.int .i64 n) := (blk_cell H17.out 2).trans rfl; have qH173 : W11.cell? ⟨b17, 3, none⟩ = some (.int .i64 f) := (blk_cell H17.out 3).trans rfl; have y0 := EL.out _ HB.out; have y1 := EL2.out _ HB.out)
      clear qH30 qH31 qH32 qH33 qH40 qH41 qH70 qH71 qH72 qH73 qH100 qH101 qH102 qH103 qH170 qH171 qH172 qH173
      refine (same_c (n := n) (f := f) CB.out CS.out HS.out).mono ?_
      rintro e W12 ⟨rfl, hb⟩
      replace H3 := Aside0.mk (H3.out.below hb)
      replace H4 := Aside0.mk (H4.out.below hb)
      replace H7 := Aside0.mk (H7.out.below hb)
      replace H10 := Aside0.mk (H10.out.below hb)
      replace H17 := Aside0.mk (H17.out.below hb)
      replace CS := Aside0.mk (CS.out.below hb)
      replace CW := Aside0.mk (CW.out.below hb)
      replace CT := Aside0.mk (CT.out.below hb)
      replace CB := Aside0.mk (CB.out.below hb)
      replace HB := Aside0.mk (HB.out.trans (hb.mono HB.out.size))
      clear hb
      have qH30 : W12.cell? ⟨w.heap.size, 0, none⟩ = some (.slice (some ad) V.length c0) := (blk_cell H3.out 0).trans rfl
      have qH31 : W12.cell? ⟨w.heap.size, 1, none⟩ = some (.slice A1 B.length c1) := (blk_cell H3.out 1).trans rfl
      have qH32 : W12.cell? ⟨w.heap.size, 2, none⟩ = some (.int .i64 n) := (blk_cell H3.out 2).trans rfl
      have qH33 : W12.cell? ⟨w.heap.size, 3, none⟩ = some (.int .i64 f) := (blk_cell H3.out 3).trans rfl
      have qH40 : W12.cell? ⟨b4, 0, none⟩ = some (.int .i64 i) := (blk_cell H4.out 0).trans rfl
      have qH41 : W12.cell? ⟨b4, 1, none⟩ = some (.int .i64 k) := (blk_cell H4.out 1).trans rfl
      have qH70 : W12.cell? ⟨b7, 0, none⟩ = some (.slice A2 V.length c2) := (blk_cell H7.out 0).trans rfl
      have qH71 : W12.cell? ⟨b7, 1, none⟩ = some (.slice A3 B.length c3) := (blk_cell H7.out 1).trans rfl
      have qH72 : W12.cell? ⟨b7, 2, none⟩ = some (.int .i64 n) := (blk_cell H7.out 2).trans rfl
      have qH73 : W12.cell? ⟨b7, 3, none⟩ = some (.int .i64 f) := (blk_cell H7.out 3).trans rfl
      have qH100 : W12.cell? ⟨b10, 0, none⟩ = some (.slice A4 W.length c4) := (blk_cell H10.out 0).trans rfl
      have qH101 : W12.cell? ⟨b10, 1, none⟩ = some (.slice A5 B.length c5) := (blk_cell H10.out 1).trans rfl
      have qH102 : W12.cell? ⟨b10, 2, none⟩ = some (.int .i64 n) := (blk_cell H10.out 2).trans rfl
      have qH103 : W12.cell? ⟨b10, 3, none⟩ = some (.int .i64 f) := (blk_cell H10.out 3).trans rfl
      have qH170 : W12.cell? ⟨b17, 0, none⟩ = some (.slice A6 V.length c6) := (blk_cell H17.out 0).trans rfl
      have qH171 : W12.cell? ⟨b17, 1, none⟩ = some (.slice A7 B.length c7) := (blk_cell H17.out 1).trans rfl
      have qH172 : W12.cell? ⟨b17, 2, none⟩ = some (.int .i64 n) := (blk_cell H17.out 2).trans rfl
      have qH173 : W12.cell? ⟨b17, 3, none⟩ = some (.int .i64 f) := (blk_cell H17.out 3).trans rfl
      go_wp2_with fail
      clear qH30 qH31 qH32 qH33 qH40 qH41 qH70 qH71 qH72 qH73 qH100 qH101 qH102 qH103 qH170 qH171 qH172 qH173
      refine (awake_c _).mono ?_
      rintro e W13 ⟨rfl, hb⟩
      replace H3 := Aside0.mk (H3.out.below hb)
      replace H4 := Aside0.mk (H4.out.below hb)
      replace H7 := Aside0.mk (H7.out.below hb)
      replace H10 := Aside0.mk (H10.out.below hb)
      replace H17 := Aside0.mk (H17.out.below hb)
      replace CS := Aside0.mk (CS.out.below hb)
      replace CW := Aside0.mk (CW.out.below hb)
      replace CT := Aside0.mk (CT.out.below hb)
      replace CB := Aside0.mk (CB.out.below hb)
      replace HB := Aside0.mk (HB.out.trans (hb.mono HB.out.size))
      clear hb
      go_wp2_with fail
      go_ret
      exact ⟨rfl, HB.out⟩
    · have HW := Aside0.mk (write_no (n := n) (f := f) (x := x) HS.out ht)
      have HR := Aside0.mk (read_no (B := B) (n := n) (f := f) ht)
      by_cases i0 : i < 0
      · clear cs
        go_enter Try.func5, Try.ntmps5
        go_wp2_with fail
        obtain ⟨W0, hW0⟩ : ∃ W0, W0 = (w.alloc (.cells #[.slice A0 V.length c0, .slice A1 B.length c1, .int .i64 n, .int .i64 f] 31)).alloc (.cells #[.int .i64 i, .int .i64 k] 46) := ⟨_, rfl⟩
        have H3 := Aside0.mk (show Box W0 w.heap.size #[.slice A0 V.length c0, .slice A1 B.length c1, .int .i64 n, .int .i64 f] from by rw [hW0]; exact heap_alloc2_old w _ _)
        have H4 := Aside0.mk (show Two W0 (w.heap.size + 1) i k from by rw [hW0]; exact heap_alloc2_new w _ _)
        have HB := Aside0.mk (show Below w.heap.size w W0 from by rw [hW0]; exact ((Below.refl w.heap.size w).alloc (Nat.le_refl _) _).alloc (by simp) _)
        replace CS := Aside0.mk (CS.out.below HB.out)
        rw [← hW0]
        clear hW0
        obtain ⟨b4, hb4⟩ : ∃ b4, b4 = w.heap.size + 1 := ⟨_, rfl⟩
        rw [← hb4] at H4 ⊢
        clear hb4
        refine (short_c (n := n) (f := f) CS.out true E1.out).mono ?_
        rintro e W1 ⟨rfl, hb⟩
        replace H3 := Aside0.mk (H3.out.below hb)
        replace H4 := Aside0.mk (H4.out.below hb)
        replace CS := Aside0.mk (CS.out.below hb)
        replace HB := Aside0.mk (HB.out.trans (hb.mono HB.out.size))
        clear hb
        have qH30 : W1.cell? ⟨w.heap.size, 0, none⟩ = some (.slice A0 V.length c0) := (blk_cell H3.out 0).trans rfl
        have qH31 : W1.cell? ⟨w.heap.size, 1, none⟩ = some (.slice A1 B.length c1) := (blk_cell H3.out 1).trans rfl
        have qH32 : W1.cell? ⟨w.heap.size, 2, none⟩ = some (.int .i64 n) := (blk_cell H3.out 2).trans rfl
        have qH33 : W1.cell? ⟨w.heap.size, 3, none⟩ = some (.int .i64 f) := (blk_cell H3.out 3).trans rfl
        have qH40 : W1.cell? ⟨b4, 0, none⟩ = some (.int .i64 i) := (blk_cell H4.out 0).trans rfl
        have qH41 : W1.cell? ⟨b4, 1, none⟩ = some (.int .i64 k) := (blk_cell H4.out 1).trans rfl
        go_wp2_with fail
        clear qH30 qH31 qH32 qH33 qH40 qH41
        refine (clone_c CS.out HS.out).mono ?_
        rintro e W2 ⟨A2, c2, A3, c3, rfl, cw, hb⟩
        replace H3 := Aside0.mk (H3.out.below hb)
        replace H4 := Aside0.mk (H4.out.below hb)
        replace CS := Aside0.mk (CS.out.below hb)
        replace HB := Aside0.mk (HB.out.trans (hb.mono HB.out.size))
        clear hb
        have CW := Aside0.mk cw
        clear cw
        unfold row
        obtain ⟨b7, hb7⟩ : ∃ b, b = W2.heap.size := ⟨_, rfl⟩
        have qH30 : W2.cell? ⟨w.heap.size, 0, none⟩ = some (.slice A0 V.length c0) := (blk_cell H3.out 0).trans rfl
        have qH31 : W2.cell? ⟨w.heap.size, 1, none⟩ = some (.slice A1 B.length c1) := (blk_cell H3.out 1).trans rfl
        have qH32 : W2.cell? ⟨w.heap.size, 2, none⟩ = some (.int .i64 n) := (blk_cell H3.out 2).trans rfl
        have qH33 : W2.cell? ⟨w.heap.size, 3, none⟩ = some (.int .i64 f) := (blk_cell H3.out 3).trans rfl
        have qH40 : W2.cell? ⟨b4, 0, none⟩ = some (.int .i64 i) := (blk_cell H4.out 0).trans rfl
        have qH41 : W2.cell? ⟨b4, 1, none⟩ = some (.int .i64 k) := (blk_cell H4.out 1).trans rfl
        go_wp2_with ((with_reducible refine gate_store (t := 31) (p := 7) (v := .tmp 24) rfl ?_); refine wpList_store_row rfl 31 (.tmp 7) (.tmp 24) rfl W2.heap.size #[.slice A2 V.length c2, .slice A3 B.length c3, .int .i64 n, .int .i64 f] rfl rfl 31 _ (heap_alloc_new W2 _) (by rw [hi4]; rfl) rfl (by kernel_rfl) ?_; clear qH30 qH31 qH32 qH33 qH40 qH41; obtain ⟨W3, hw⟩ : ∃ W_, W_ = (W2.alloc (.cells #[.slice none 0 0, .slice none 0 0, .int .i64 0, .int .i64 0] 31)).setRow W2.heap.size #[.slice A2 V.length c2, .slice A3 B.length c3, .int .i64 n, .int .i64 f] := ⟨_, rfl⟩; have hb : Below W2.heap.size W2 W3 := hw ▸ below_row _ _; have hn : Box W3 W2.heap.size #[.slice A2 V.length c2, .slice A3 B.length c3, .int .i64 n, .int .i64 f] := hw ▸ setRow_heap _ _ _ _ _ _ (heap_alloc_new W2 _); rw [← hw]; rw [← hb7] at hn ⊢; replace H3 := Aside0.mk (H3.out.below hb); replace H4 := Aside0.mk (H4.out.below hb); replace CS := Aside0.mk (CS.out.below hb); replace CW := Aside0.mk (CW.out.below hb); replace HB := Aside0.mk (HB.out.trans (hb.mono HB.out.size)); have H7 := Aside0.mk hn; clear hb hn hw hb7; have qH30 : W3.cell? ⟨w.heap.size, 0, none⟩ = some (.slice A0 V.length c0) := (blk_cell H3.out 0).trans rfl; have qH31 : W3.cell? ⟨w.heap.size, 1, none⟩ = some (.slice A1 B.length c1) := (blk_cell H3.out 1).trans rfl; have qH32 : W3.cell? ⟨w.heap.size, 2, none⟩ = some (.int .i64 n) := (blk_cell H3.out 2).trans rfl; have qH33 : W3.cell? ⟨w.heap.size, 3, none⟩ = some (.int .i64 f) := (blk_cell H3.out 3).trans rfl; have qH40 : W3.cell? ⟨b4, 0, none⟩ = some (.int .i64 i) := (blk_cell H4.out 0).trans rfl; have qH41 : W3.cell? ⟨b4, 1, none⟩ = some (.int .i64 k) := (blk_cell H4.out 1).trans rfl; have qH70 : W3.cell? ⟨b7, 0, none⟩ = some (.slice A2 V.length c2) := (blk_cell H7.out 0).trans rfl; have qH71 : W3.cell? ⟨b7, 1, none⟩ = some (.slice A3 B.length c3) := (blk_cell H7.out 1).trans rfl; have qH72 : W3.cell? ⟨b7, 2, none⟩ = some (.int .i64 n) := (blk_cell H7.out 2).trans rfl; have qH73 : W3.cell? ⟨b7, 3, none⟩ = some (.int .i64 f) := (blk_cell H7.out 3).trans rfl)
        repeat (go_quiet (fail); try go_wp2_with fail)
        clear qH30 qH31 qH32 qH33 qH40 qH41 qH70 qH71 qH72 qH73
        obtain ⟨W4, hw⟩ : ∃ W_, W_ = W3.drewN nq := ⟨_, rfl⟩
        have hb : Below W3.heap.size W3 W4 := hw ▸ pw_below_drewN (Below.refl _ _) _
        rw [← hw]
        clear hw
        replace H3 := Aside0.mk (H3.out.below hb)
        replace H4 := Aside0.mk (H4.out.below hb)
        replace H7 := Aside0.mk (H7.out.below hb)
        replace CS := Aside0.mk (CS.out.below hb)
        replace CW := Aside0.mk (CW.out.below hb)
        replace HB := Aside0.mk (HB.out.trans (hb.mono HB.out.size))
        clear hb
        refine (write_c CS.out i k x V false HW.out).mono ?_
        rintro e W5 ⟨A4, c4, A5, c5, rfl, ct, hb⟩
        replace H3 := Aside0.mk (H3.out.below hb)
        replace H4 := Aside0.mk (H4.out.below hb)
        replace H7 := Aside0.mk (H7.out.below hb)
        replace CS := Aside0.mk (CS.out.below hb)
        replace CW := Aside0.mk (CW.out.below hb)
        replace HB := Aside0.mk (HB.out.trans (hb.mono HB.out.size))
        clear hb
        have CT := Aside0.mk ct
        clear ct
        unfold row
        obtain ⟨b10, hb10⟩ : ∃ b, b = W5.heap.size := ⟨_, rfl⟩
        have qH30 : W5.cell? ⟨w.heap.size, 0, none⟩ = some (.slice A0 V.length c0) := (blk_cell H3.out 0).trans rfl
        have qH31 : W5.cell? ⟨w.heap.size, 1, none⟩ = some (.slice A1 B.length c1) := (blk_cell H3.out 1).trans rfl
        have qH32 : W5.cell? ⟨w.heap.size, 2, none⟩ = some (.int .i64 n) := (blk_cell H3.out 2).trans rfl
        have qH33 : W5.cell? ⟨w.heap.size, 3, none⟩ = some (.int .i64 f) := (blk_cell H3.out 3).trans rfl
        have qH40 : W5.cell? ⟨b4, 0, none⟩ = some (.int .i64 i) := (blk_cell H4.out 0).trans rfl
        have qH41 : W5.cell? ⟨b4, 1, none⟩ = some (.int .i64 k) := (blk_cell H4.out 1).trans rfl
        have qH70 : W5.cell? ⟨b7, 0, none⟩ = some (.slice A2 V.length c2) := (blk_cell H7.out 0).trans rfl
        have qH71 : W5.cell? ⟨b7, 1, none⟩ = some (.slice A3 B.length c3) := (blk_cell H7.out 1).trans rfl
        have qH72 : W5.cell? ⟨b7, 2, none⟩ = some (.int .i64 n) := (blk_cell H7.out 2).trans rfl
        have qH73 : W5.cell? ⟨b7, 3, none⟩ = some (.int .i64 f) := (blk_cell H7.out 3).trans rfl
        have d1 : decide (i ≥ 0) = false := decide_eq_false (by omega)
        go_wp2_with ((with_reducible refine gate_store (t := 31) (p := 10) (v := .tmp 35) rfl ?_); refine wpList_store_row rfl 31 (.tmp 10) (.tmp 35) rfl W5.heap.size #[.slice A4 V.length c4, .slice A5 B.length c5, .int .i64 n, .int .i64 f] rfl rfl 31 _ (heap_alloc_new W5 _) (by rw [hi4]; rfl) rfl (by kernel_rfl) ?_; clear qH30 qH31 qH32 qH33 qH40 qH41 qH70 qH71 qH72 qH73; obtain ⟨W6, hw⟩ : ∃ W_, W_ = (W5.alloc (.cells #[.slice none 0 0, .slice none 0 0, .int .i64 0, .int .i64 0] 31)).setRow W5.heap.size #[.slice A4 V.length c4, .slice A5 B.length c5, .int .i64 n, .int .i64 f] := ⟨_, rfl⟩; have hb : Below W5.heap.size W5 W6 := hw ▸ below_row _ _; have hn : Box W6 W5.heap.size #[.slice A4 V.length c4, .slice A5 B.length c5, .int .i64 n, .int .i64 f] := hw ▸ setRow_heap _ _ _ _ _ _ (heap_alloc_new W5 _); rw [← hw]; rw [← hb10] at hn ⊢; replace H3 := Aside0.mk (H3.out.below hb); replace H4 := Aside0.mk (H4.out.below hb); replace H7 := Aside0.mk (H7.out.below hb); replace CS := Aside0.mk (CS.out.below hb); replace CW := Aside0.mk (CW.out.below hb); replace CT := Aside0.mk (CT.out.below hb); replace HB := Aside0.mk (HB.out.trans (hb.mono HB.out.size)); have H10 := Aside0.mk hn; clear hb hn hw hb10; have qH30 : W6.cell? ⟨w.heap.size, 0, none⟩ = some (.slice A0 V.length c0) := (blk_cell H3.out 0).trans rfl; have qH31 : W6.cell? ⟨w.heap.size, 1, none⟩ = some (.slice A1 B.length c1) := (blk_cell H3.out 1).trans rfl; have qH32 : W6.cell? ⟨w.heap.size, 2, none⟩ = some (.int .i64 n) := (blk_cell H3.out 2).trans rfl; have qH33 : W6.cell? ⟨w.heap.size, 3, none⟩ = some (.int .i64 f) := (blk_cell H3.out 3).trans rfl; have qH40 : W6.cell? ⟨b4, 0, none⟩ = some (.int .i64 i) := (blk_cell H4.out 0).trans rfl; have qH41 : W6.cell? ⟨b4, 1, none⟩ = some (.int .i64 k) := (blk_cell H4.out 1).trans rfl; have qH70 : W6.cell? ⟨b7, 0, none⟩ = some (.slice A2 V.length c2) := (blk_cell H7.out 0).trans rfl; have qH71 : W6.cell? ⟨b7, 1, none⟩ = some (.slice A3 B.length c3) := (blk_cell H7.out 1).trans rfl; have qH72 : W6.cell? ⟨b7, 2, none⟩ = some (.int .i64 n) := (blk_cell H7.out 2).trans rfl; have qH73 : W6.cell? ⟨b7, 3, none⟩ = some (.int .i64 f) := (blk_cell H7.out 3).trans rfl; have qH100 : W6.cell? ⟨b10, 0, none⟩ = some (.slice A4 V.length c4) := (blk_cell H10.out 0).trans rfl; have qH101 : W6.cell? ⟨b10, 1, none⟩ = some (.slice A5 B.length c5) := (blk_cell H10.out 1).trans rfl; have qH102 : W6.cell? ⟨b10, 2, none⟩ = some (.int .i64 n) := (blk_cell H10.out 2).trans rfl; have qH103 : W6.cell? ⟨b10, 3, none⟩ = some (.int .i64 f) := (blk_cell H10.out 3).trans rfl)
        clear qH30 qH31 qH32 qH33 qH40 qH41 qH70 qH71 qH72 qH73 qH100 qH101 qH102 qH103
        refine (same_c (n := n) (f := f) CS.out CW.out HS.out).mono ?_
        rintro e W7 ⟨rfl, hb⟩
        replace H3 := Aside0.mk (H3.out.below hb)
        replace H4 := Aside0.mk (H4.out.below hb)
        replace H7 := Aside0.mk (H7.out.below hb)
        replace H10 := Aside0.mk (H10.out.below hb)
        replace CS := Aside0.mk (CS.out.below hb)
        replace CW := Aside0.mk (CW.out.below hb)
        replace CT := Aside0.mk (CT.out.below hb)
        replace HB := Aside0.mk (HB.out.trans (hb.mono HB.out.size))
        clear hb
        have qH30 : W7.cell? ⟨w.heap.size, 0, none⟩ = some (.slice A0 V.length c0) := (blk_cell H3.out 0).trans rfl
        have qH31 : W7.cell? ⟨w.heap.size, 1, none⟩ = some (.slice A1 B.length c1) := (blk_cell H3.out 1).trans rfl
        have qH32 : W7.cell? ⟨w.heap.size, 2, none⟩ = some (.int .i64 n) := (blk_cell H3.out 2).trans rfl
        have qH33 : W7.cell? ⟨w.heap.size, 3, none⟩ = some (.int .i64 f) := (blk_cell H3.out 3).trans rfl
        have qH40 : W7.cell? ⟨b4, 0, none⟩ = some (.int .i64 i) := (blk_cell H4.out 0).trans rfl
        have qH41 : W7.cell? ⟨b4, 1, none⟩ = some (.int .i64 k) := (blk_cell H4.out 1).trans rfl
        have qH70 : W7.cell? ⟨b7, 0, none⟩ = some (.slice A2 V.length c2) := (blk_cell H7.out 0).trans rfl
        have qH71 : W7.cell? ⟨b7, 1, none⟩ = some (.slice A3 B.length c3) := (blk_cell H7.out 1).trans rfl
        have qH72 : W7.cell? ⟨b7, 2, none⟩ = some (.int .i64 n) := (blk_cell H7.out 2).trans rfl
        have qH73 : W7.cell? ⟨b7, 3, none⟩ = some (.int .i64 f) := (blk_cell H7.out 3).trans rfl
        have qH100 : W7.cell? ⟨b10, 0, none⟩ = some (.slice A4 V.length c4) := (blk_cell H10.out 0).trans rfl
        have qH101 : W7.cell? ⟨b10, 1, none⟩ = some (.slice A5 B.length c5) := (blk_cell H10.out 1).trans rfl
        have qH102 : W7.cell? ⟨b10, 2, none⟩ = some (.int .i64 n) := (blk_cell H10.out 2).trans rfl
        have qH103 : W7.cell? ⟨b10, 3, none⟩ = some (.int .i64 f) := (blk_cell H10.out 3).trans rfl
        go_wp2_with fail
        clear qH30 qH31 qH32 qH33 qH40 qH41 qH70 qH71 qH72 qH73 qH100 qH101 qH102 qH103
        refine (read_c CS.out i k 0 false HR.out).mono ?_
        rintro e W8 ⟨rfl, hb⟩
        replace H3 := Aside0.mk (H3.out.below hb)
        replace H4 := Aside0.mk (H4.out.below hb)
        replace H7 := Aside0.mk (H7.out.below hb)
        replace H10 := Aside0.mk (H10.out.below hb)
        replace CS := Aside0.mk (CS.out.below hb)
        replace CW := Aside0.mk (CW.out.below hb)
        replace CT := Aside0.mk (CT.out.below hb)
        replace HB := Aside0.mk (HB.out.trans (hb.mono HB.out.size))
        clear hb
        have qH30 : W8.cell? ⟨w.heap.size, 0, none⟩ = some (.slice A0 V.length c0) := (blk_cell H3.out 0).trans rfl
        have qH31 : W8.cell? ⟨w.heap.size, 1, none⟩ = some (.slice A1 B.length c1) := (blk_cell H3.out 1).trans rfl
        have qH32 : W8.cell? ⟨w.heap.size, 2, none⟩ = some (.int .i64 n) := (blk_cell H3.out 2).trans rfl
        have qH33 : W8.cell? ⟨w.heap.size, 3, none⟩ = some (.int .i64 f) := (blk_cell H3.out 3).trans rfl
        have qH40 : W8.cell? ⟨b4, 0, none⟩ = some (.int .i64 i) := (blk_cell H4.out 0).trans rfl
        have qH41 : W8.cell? ⟨b4, 1, none⟩ = some (.int .i64 k) := (blk_cell H4.out 1).trans rfl
        have qH70 : W8.cell? ⟨b7, 0, none⟩ = some (.slice A2 V.length c2) := (blk_cell H7.out 0).trans rfl
        have qH71 : W8.cell? ⟨b7, 1, none⟩ = some (.slice A3 B.length c3) := (blk_cell H7.out 1).trans rfl
        have qH72 : W8.cell? ⟨b7, 2, none⟩ = some (.int .i64 n) := (blk_cell H7.out 2).trans rfl
        have qH73 : W8.cell? ⟨b7, 3, none⟩ = some (.int .i64 f) := (blk_cell H7.out 3).trans rfl
        have qH100 : W8.cell? ⟨b10, 0, none⟩ = some (.slice A4 V.length c4) := (blk_cell H10.out 0).trans rfl
        have qH101 : W8.cell? ⟨b10, 1, none⟩ = some (.slice A5 B.length c5) := (blk_cell H10.out 1).trans rfl
        have qH102 : W8.cell? ⟨b10, 2, none⟩ = some (.int .i64 n) := (blk_cell H10.out 2).trans rfl
        have qH103 : W8.cell? ⟨b10, 3, none⟩ = some (.int .i64 f) := (blk_cell H10.out 3).trans rfl
        go_wp2_with fail
        clear qH30 qH31 qH32 qH33 qH40 qH41 qH70 qH71 qH72 qH73 qH100 qH101 qH102 qH103
        refine (same_c (n := n) (f := f) CT.out CS.out HS.out).mono ?_
        rintro e W9 ⟨rfl, hb⟩
        replace H3 := Aside0.mk (H3.out.below hb)
        replace H4 := Aside0.mk (H4.out.below hb)
        replace H7 := Aside0.mk (H7.out.below hb)
        replace H10 := Aside0.mk (H10.out.below hb)
        replace CS := Aside0.mk (CS.out.below hb)
        replace CW := Aside0.mk (CW.out.below hb)
        replace CT := Aside0.mk (CT.out.below hb)
        replace HB := Aside0.mk (HB.out.trans (hb.mono HB.out.size))
        clear hb
        have qH30 : W9.cell? ⟨w.heap.size, 0, none⟩ = some (.slice A0 V.length c0) := (blk_cell H3.out 0).trans rfl
        have qH31 : W9.cell? ⟨w.heap.size, 1, none⟩ = some (.slice A1 B.length c1) := (blk_cell H3.out 1).trans rfl
        have qH32 : W9.cell? ⟨w.heap.size, 2, none⟩ = some (.int .i64 n) := (blk_cell H3.out 2).trans rfl
        have qH33 : W9.cell? ⟨w.heap.size, 3, none⟩ = some (.int .i64 f) := (blk_cell H3.out 3).trans rfl
        have qH40 : W9.cell? ⟨b4, 0, none⟩ = some (.int .i64 i) := (blk_cell H4.out 0).trans rfl
        have qH41 : W9.cell? ⟨b4, 1, none⟩ = some (.int .i64 k) := (blk_cell H4.out 1).trans rfl
        have qH70 : W9.cell? ⟨b7, 0, none⟩ = some (.slice A2 V.length c2) := (blk_cell H7.out 0).trans rfl
        have qH71 : W9.cell? ⟨b7, 1, none⟩ = some (.slice A3 B.length c3) := (blk_cell H7.out 1).trans rfl
        have qH72 : W9.cell? ⟨b7, 2, none⟩ = some (.int .i64 n) := (blk_cell H7.out 2).trans rfl
        have qH73 : W9.cell? ⟨b7, 3, none⟩ = some (.int .i64 f) := (blk_cell H7.out 3).trans rfl
        have qH100 : W9.cell? ⟨b10, 0, none⟩ = some (.slice A4 V.length c4) := (blk_cell H10.out 0).trans rfl
        have qH101 : W9.cell? ⟨b10, 1, none⟩ = some (.slice A5 B.length c5) := (blk_cell H10.out 1).trans rfl
        have qH102 : W9.cell? ⟨b10, 2, none⟩ = some (.int .i64 n) := (blk_cell H10.out 2).trans rfl
        have qH103 : W9.cell? ⟨b10, 3, none⟩ = some (.int .i64 f) := (blk_cell H10.out 3).trans rfl
        go_wp2_with fail
        clear qH30 qH31 qH32 qH33 qH40 qH41 qH70 qH71 qH72 qH73 qH100 qH101 qH102 qH103
        refine (awake_c _).mono ?_
        rintro e W10 ⟨rfl, hb⟩
        replace H3 := Aside0.mk (H3.out.below hb)
        replace H4 := Aside0.mk (H4.out.below hb)
        replace H7 := Aside0.mk (H7.out.below hb)
        replace H10 := Aside0.mk (H10.out.below hb)
        replace CS := Aside0.mk (CS.out.below hb)
        replace CW := Aside0.mk (CW.out.below hb)
        replace CT := Aside0.mk (CT.out.below hb)
        replace HB := Aside0.mk (HB.out.trans (hb.mono HB.out.size))
        clear hb
        go_wp2_with fail
        go_ret
        exact ⟨rfl, HB.out⟩
      by_cases i1 : (V.length : Int) ≤ i
      · clear cs
        go_enter Try.func5, Try.ntmps5
        go_wp2_with fail
        obtain ⟨W0, hW0⟩ : ∃ W0, W0 = (w.alloc (.cells #[.slice A0 V.length c0, .slice A1 B.length c1, .int .i64 n, .int .i64 f] 31)).alloc (.cells #[.int .i64 i, .int .i64 k] 46) := ⟨_, rfl⟩
        have H3 := Aside0.mk (show Box W0 w.heap.size #[.slice A0 V.length c0, .slice A1 B.length c1, .int .i64 n, .int .i64 f] from by rw [hW0]; exact heap_alloc2_old w _ _)
        have H4 := Aside0.mk (show Two W0 (w.heap.size + 1) i k from by rw [hW0]; exact heap_alloc2_new w _ _)
        have HB := Aside0.mk (show Below w.heap.size w W0 from by rw [hW0]; exact ((Below.refl w.heap.size w).alloc (Nat.le_refl _) _).alloc (by simp) _)
        replace CS := Aside0.mk (CS.out.below HB.out)
        rw [← hW0]
        clear hW0
        obtain ⟨b4, hb4⟩ : ∃ b4, b4 = w.heap.size + 1 := ⟨_, rfl⟩
        rw [← hb4] at H4 ⊢
        clear hb4
        refine (short_c (n := n) (f := f) CS.out true E1.out).mono ?_
        rintro e W1 ⟨rfl, hb⟩
        replace H3 := Aside0.mk (H3.out.below hb)
        replace H4 := Aside0.mk (H4.out.below hb)
        replace CS := Aside0.mk (CS.out.below hb)
        replace HB := Aside0.mk (HB.out.trans (hb.mono HB.out.size))
        clear hb
        have qH30 : W1.cell? ⟨w.heap.size, 0, none⟩ = some (.slice A0 V.length c0) := (blk_cell H3.out 0).trans rfl
        have qH31 : W1.cell? ⟨w.heap.size, 1, none⟩ = some (.slice A1 B.length c1) := (blk_cell H3.out 1).trans rfl
        have qH32 : W1.cell? ⟨w.heap.size, 2, none⟩ = some (.int .i64 n) := (blk_cell H3.out 2).trans rfl
        have qH33 : W1.cell? ⟨w.heap.size, 3, none⟩ = some (.int .i64 f) := (blk_cell H3.out 3).trans rfl
        have qH40 : W1.cell? ⟨b4, 0, none⟩ = some (.int .i64 i) := (blk_cell H4.out 0).trans rfl
        have qH41 : W1.cell? ⟨b4, 1, none⟩ = some (.int .i64 k) := (blk_cell H4.out 1).trans rfl
        go_wp2_with fail
        clear qH30 qH31 qH32 qH33 qH40 qH41
        refine (clone_c CS.out HS.out).mono ?_
        rintro e W2 ⟨A2, c2, A3, c3, rfl, cw, hb⟩
        replace H3 := Aside0.mk (H3.out.below hb)
        replace H4 := Aside0.mk (H4.out.below hb)
        replace CS := Aside0.mk (CS.out.below hb)
        replace HB := Aside0.mk (HB.out.trans (hb.mono HB.out.size))
        clear hb
        have CW := Aside0.mk cw
        clear cw
        unfold row
        obtain ⟨b7, hb7⟩ : ∃ b, b = W2.heap.size := ⟨_, rfl⟩
        have qH30 : W2.cell? ⟨w.heap.size, 0, none⟩ = some (.slice A0 V.length c0) := (blk_cell H3.out 0).trans rfl
        have qH31 : W2.cell? ⟨w.heap.size, 1, none⟩ = some (.slice A1 B.length c1) := (blk_cell H3.out 1).trans rfl
        have qH32 : W2.cell? ⟨w.heap.size, 2, none⟩ = some (.int .i64 n) := (blk_cell H3.out 2).trans rfl
        have qH33 : W2.cell? ⟨w.heap.size, 3, none⟩ = some (.int .i64 f) := (blk_cell H3.out 3).trans rfl
        have qH40 : W2.cell? ⟨b4, 0, none⟩ = some (.int .i64 i) := (blk_cell H4.out 0).trans rfl
        have qH41 : W2.cell? ⟨b4, 1, none⟩ = some (.int .i64 k) := (blk_cell H4.out 1).trans rfl
        go_wp2_with ((with_reducible refine gate_store (t := 31) (p := 7) (v := .tmp 24) rfl ?_); refine wpList_store_row rfl 31 (.tmp 7) (.tmp 24) rfl W2.heap.size #[.slice A2 V.length c2, .slice A3 B.length c3, .int .i64 n, .int .i64 f] rfl rfl 31 _ (heap_alloc_new W2 _) (by rw [hi4]; rfl) rfl (by kernel_rfl) ?_; clear qH30 qH31 qH32 qH33 qH40 qH41; obtain ⟨W3, hw⟩ : ∃ W_, W_ = (W2.alloc (.cells #[.slice none 0 0, .slice none 0 0, .int .i64 0, .int .i64 0] 31)).setRow W2.heap.size #[.slice A2 V.length c2, .slice A3 B.length c3, .int .i64 n, .int .i64 f] := ⟨_, rfl⟩; have hb : Below W2.heap.size W2 W3 := hw ▸ below_row _ _; have hn : Box W3 W2.heap.size #[.slice A2 V.length c2, .slice A3 B.length c3, .int .i64 n, .int .i64 f] := hw ▸ setRow_heap _ _ _ _ _ _ (heap_alloc_new W2 _); rw [← hw]; rw [← hb7] at hn ⊢; replace H3 := Aside0.mk (H3.out.below hb); replace H4 := Aside0.mk (H4.out.below hb); replace CS := Aside0.mk (CS.out.below hb); replace CW := Aside0.mk (CW.out.below hb); replace HB := Aside0.mk (HB.out.trans (hb.mono HB.out.size)); have H7 := Aside0.mk hn; clear hb hn hw hb7; have qH30 : W3.cell? ⟨w.heap.size, 0, none⟩ = some (.slice A0 V.length c0) := (blk_cell H3.out 0).trans rfl; have qH31 : W3.cell? ⟨w.heap.size, 1, none⟩ = some (.slice A1 B.length c1) := (blk_cell H3.out 1).trans rfl; have qH32 : W3.cell? ⟨w.heap.size, 2, none⟩ = some (.int .i64 n) := (blk_cell H3.out 2).trans rfl; have qH33 : W3.cell? ⟨w.heap.size, 3, none⟩ = some (.int .i64 f) := (blk_cell H3.out 3).trans rfl; have qH40 : W3.cell? ⟨b4, 0, none⟩ = some (.int .i64 i) := (blk_cell H4.out 0).trans rfl; have qH41 : W3.cell? ⟨b4, 1, none⟩ = some (.int .i64 k) := (blk_cell H4.out 1).trans rfl; have qH70 : W3.cell? ⟨b7, 0, none⟩ = some (.slice A2 V.length c2) := (blk_cell H7.out 0).trans rfl; have qH71 : W3.cell? ⟨b7, 1, none⟩ = some (.slice A3 B.length c3) := (blk_cell H7.out 1).trans rfl; have qH72 : W3.cell? ⟨b7, 2, none⟩ = some (.int .i64 n) := (blk_cell H7.out 2).trans rfl; have qH73 : W3.cell? ⟨b7, 3, none⟩ = some (.int .i64 f) := (blk_cell H7.out 3).trans rfl)
        repeat (go_quiet (fail); try go_wp2_with fail)
        clear qH30 qH31 qH32 qH33 qH40 qH41 qH70 qH71 qH72 qH73
        obtain ⟨W4, hw⟩ : ∃ W_, W_ = W3.drewN nq := ⟨_, rfl⟩
        have hb : Below W3.heap.size W3 W4 := hw ▸ pw_below_drewN (Below.refl _ _) _
        rw [← hw]
        clear hw
        replace H3 := Aside0.mk (H3.out.below hb)
        replace H4 := Aside0.mk (H4.out.below hb)
        replace H7 := Aside0.mk (H7.out.below hb)
        replace CS := Aside0.mk (CS.out.below hb)
        replace CW := Aside0.mk (CW.out.below hb)
        replace HB := Aside0.mk (HB.out.trans (hb.mono HB.out.size))
        clear hb
        refine (write_c CS.out i k x V false HW.out).mono ?_
        rintro e W5 ⟨A4, c4, A5, c5, rfl, ct, hb⟩
        replace H3 := Aside0.mk (H3.out.below hb)
        replace H4 := Aside0.mk (H4.out.below hb)
        replace H7 := Aside0.mk (H7.out.below hb)
        replace CS := Aside0.mk (CS.out.below hb)
        replace CW := Aside0.mk (CW.out.below hb)
        replace HB := Aside0.mk (HB.out.trans (hb.mono HB.out.size))
        clear hb
        have CT := Aside0.mk ct
        clear ct
        unfold row
        obtain ⟨b10, hb10⟩ : ∃ b, b = W5.heap.size := ⟨_, rfl⟩
        have qH30 : W5.cell? ⟨w.heap.size, 0, none⟩ = some (.slice A0 V.length c0) := (blk_cell H3.out 0).trans rfl
        have qH31 : W5.cell? ⟨w.heap.size, 1, none⟩ = some (.slice A1 B.length c1) := (blk_cell H3.out 1).trans rfl
        have qH32 : W5.cell? ⟨w.heap.size, 2, none⟩ = some (.int .i64 n) := (blk_cell H3.out 2).trans rfl
        have qH33 : W5.cell? ⟨w.heap.size, 3, none⟩ = some (.int .i64 f) := (blk_cell H3.out 3).trans rfl
        have qH40 : W5.cell? ⟨b4, 0, none⟩ = some (.int .i64 i) := (blk_cell H4.out 0).trans rfl
        have qH41 : W5.cell? ⟨b4, 1, none⟩ = some (.int .i64 k) := (blk_cell H4.out 1).trans rfl
        have qH70 : W5.cell? ⟨b7, 0, none⟩ = some (.slice A2 V.length c2) := (blk_cell H7.out 0).trans rfl
        have qH71 : W5.cell? ⟨b7, 1, none⟩ = some (.slice A3 B.length c3) := (blk_cell H7.out 1).trans rfl
        have qH72 : W5.cell? ⟨b7, 2, none⟩ = some (.int .i64 n) := (blk_cell H7.out 2).trans rfl
        have qH73 : W5.cell? ⟨b7, 3, none⟩ = some (.int .i64 f) := (blk_cell H7.out 3).trans rfl
        have d1 : decide (i ≥ 0) = true := decide_eq_true (by omega)
        have d2 : decide (i < (V.length : Int)) = false := decide_eq_false (by omega)
        go_wp2_with ((with_reducible refine gate_store (t := 31) (p := 10) (v := .tmp 35) rfl ?_); refine wpList_store_row rfl 31 (.tmp 10) (.tmp 35) rfl W5.heap.size #[.slice A4 V.length c4, .slice A5 B.length c5, .int .i64 n, .int .i64 f] rfl rfl 31 _ (heap_alloc_new W5 _) (by rw [hi4]; rfl) rfl (by kernel_rfl) ?_; clear qH30 qH31 qH32 qH33 qH40 qH41 qH70 qH71 qH72 qH73; obtain ⟨W6, hw⟩ : ∃ W_, W_ = (W5.alloc (.cells #[.slice none 0 0, .slice none 0 0, .int .i64 0, .int .i64 0] 31)).setRow W5.heap.size #[.slice A4 V.length c4, .slice A5 B.length c5, .int .i64 n, .int .i64 f] := ⟨_, rfl⟩; have hb : Below W5.heap.size W5 W6 := hw ▸ below_row _ _; have hn : Box W6 W5.heap.size #[.slice A4 V.length c4, .slice A5 B.length c5, .int .i64 n, .int .i64 f] := hw ▸ setRow_heap _ _ _ _ _ _ (heap_alloc_new W5 _); rw [← hw]; rw [← hb10] at hn ⊢; replace H3 := Aside0.mk (H3.out.below hb); replace H4 := Aside0.mk (H4.out.below hb); replace H7 := Aside0.mk (H7.out.below hb); replace CS := Aside0.mk (CS.out.below hb); replace CW := Aside0.mk (CW.out.below hb); replace CT := Aside0.mk (CT.out.below hb); replace HB := Aside0.mk (HB.out.trans (hb.mono HB.out.size)); have H10 := Aside0.mk hn; clear hb hn hw hb10; have qH30 : W6.cell? ⟨w.heap.size, 0, none⟩ = some (.slice A0 V.length c0) := (blk_cell H3.out 0).trans rfl; have qH31 : W6.cell? ⟨w.heap.size, 1, none⟩ = some (.slice A1 B.length c1) := (blk_cell H3.out 1).trans rfl; have qH32 : W6.cell? ⟨w.heap.size, 2, none⟩ = some (.int .i64 n) := (blk_cell H3.out 2).trans rfl; have qH33 : W6.cell? ⟨w.heap.size, 3, none⟩ = some (.int .i64 f) := (blk_cell H3.out 3).trans rfl; have qH40 : W6.cell? ⟨b4, 0, none⟩ = some (.int .i64 i) := (blk_cell H4.out 0).trans rfl; have qH41 : W6.cell? ⟨b4, 1, none⟩ = some (.int .i64 k) := (blk_cell H4.out 1).trans rfl; have qH70 : W6.cell? ⟨b7, 0, none⟩ = some (.slice A2 V.length c2) := (blk_cell H7.out 0).trans rfl; have qH71 : W6.cell? ⟨b7, 1, none⟩ = some (.slice A3 B.length c3) := (blk_cell H7.out 1).trans rfl; have qH72 : W6.cell? ⟨b7, 2, none⟩ = some (.int .i64 n) := (blk_cell H7.out 2).trans rfl; have qH73 : W6.cell? ⟨b7, 3, none⟩ = some (.int .i64 f) := (blk_cell H7.out 3).trans rfl; have qH100 : W6.cell? ⟨b10, 0, none⟩ = some (.slice A4 V.length c4) := (blk_cell H10.out 0).trans rfl; have qH101 : W6.cell? ⟨b10, 1, none⟩ = some (.slice A5 B.length c5) := (blk_cell H10.out 1).trans rfl; have qH102 : W6.cell? ⟨b10, 2, none⟩ = some (.int .i64 n) := (blk_cell H10.out 2).trans rfl; have qH103 : W6.cell? ⟨b10, 3, none⟩ = some (.int .i64 f) := (blk_cell H10.out 3).trans rfl)
        clear qH30 qH31 qH32 qH33 qH40 qH41 qH70 qH71 qH72 qH73 qH100 qH101 qH102 qH103
        refine (same_c (n := n) (f := f) CS.out CW.out HS.out).mono ?_
        rintro e W7 ⟨rfl, hb⟩
        replace H3 := Aside0.mk (H3.out.below hb)
        replace H4 := Aside0.mk (H4.out.below hb)
        replace H7 := Aside0.mk (H7.out.below hb)
        replace H10 := Aside0.mk (H10.out.below hb)
        replace CS := Aside0.mk (CS.out.below hb)
        replace CW := Aside0.mk (CW.out.below hb)
        replace CT := Aside0.mk (CT.out.below hb)
        replace HB := Aside0.mk (HB.out.trans (hb.mono HB.out.size))
        clear hb
        have qH30 : W7.cell? ⟨w.heap.size, 0, none⟩ = some (.slice A0 V.length c0) := (blk_cell H3.out 0).trans rfl
        have qH31 : W7.cell? ⟨w.heap.size, 1, none⟩ = some (.slice A1 B.length c1) := (blk_cell H3.out 1).trans rfl
        have qH32 : W7.cell? ⟨w.heap.size, 2, none⟩ = some (.int .i64 n) := (blk_cell H3.out 2).trans rfl
        have qH33 : W7.cell? ⟨w.heap.size, 3, none⟩ = some (.int .i64 f) := (blk_cell H3.out 3).trans rfl
        have qH40 : W7.cell? ⟨b4, 0, none⟩ = some (.int .i64 i) := (blk_cell H4.out 0).trans rfl
        have qH41 : W7.cell? ⟨b4, 1, none⟩ = some (.int .i64 k) := (blk_cell H4.out 1).trans rfl
        have qH70 : W7.cell? ⟨b7, 0, none⟩ = some (.slice A2 V.length c2) := (blk_cell H7.out 0).trans rfl
        have qH71 : W7.cell? ⟨b7, 1, none⟩ = some (.slice A3 B.length c3) := (blk_cell H7.out 1).trans rfl
        have qH72 : W7.cell? ⟨b7, 2, none⟩ = some (.int .i64 n) := (blk_cell H7.out 2).trans rfl
        have qH73 : W7.cell? ⟨b7, 3, none⟩ = some (.int .i64 f) := (blk_cell H7.out 3).trans rfl
        have qH100 : W7.cell? ⟨b10, 0, none⟩ = some (.slice A4 V.length c4) := (blk_cell H10.out 0).trans rfl
        have qH101 : W7.cell? ⟨b10, 1, none⟩ = some (.slice A5 B.length c5) := (blk_cell H10.out 1).trans rfl
        have qH102 : W7.cell? ⟨b10, 2, none⟩ = some (.int .i64 n) := (blk_cell H10.out 2).trans rfl
        have qH103 : W7.cell? ⟨b10, 3, none⟩ = some (.int .i64 f) := (blk_cell H10.out 3).trans rfl
        go_wp2_with fail
        clear qH30 qH31 qH32 qH33 qH40 qH41 qH70 qH71 qH72 qH73 qH100 qH101 qH102 qH103
        refine (read_c CS.out i k 0 false HR.out).mono ?_
        rintro e W8 ⟨rfl, hb⟩
        replace H3 := Aside0.mk (H3.out.below hb)
        replace H4 := Aside0.mk (H4.out.below hb)
        replace H7 := Aside0.mk (H7.out.below hb)
        replace H10 := Aside0.mk (H10.out.below hb)
        replace CS := Aside0.mk (CS.out.below hb)
        replace CW := Aside0.mk (CW.out.below hb)
        replace CT := Aside0.mk (CT.out.below hb)
        replace HB := Aside0.mk (HB.out.trans (hb.mono HB.out.size))
        clear hb
        have qH30 : W8.cell? ⟨w.heap.size, 0, none⟩ = some (.slice A0 V.length c0) := (blk_cell H3.out 0).trans rfl
        have qH31 : W8.cell? ⟨w.heap.size, 1, none⟩ = some (.slice A1 B.length c1) := (blk_cell H3.out 1).trans rfl
        have qH32 : W8.cell? ⟨w.heap.size, 2, none⟩ = some (.int .i64 n) := (blk_cell H3.out 2).trans rfl
        have qH33 : W8.cell? ⟨w.heap.size, 3, none⟩ = some (.int .i64 f) := (blk_cell H3.out 3).trans rfl
        have qH40 : W8.cell? ⟨b4, 0, none⟩ = some (.int .i64 i) := (blk_cell H4.out 0).trans rfl
        have qH41 : W8.cell? ⟨b4, 1, none⟩ = some (.int .i64 k) := (blk_cell H4.out 1).trans rfl
        have qH70 : W8.cell? ⟨b7, 0, none⟩ = some (.slice A2 V.length c2) := (blk_cell H7.out 0).trans rfl
        have qH71 : W8.cell? ⟨b7, 1, none⟩ = some (.slice A3 B.length c3) := (blk_cell H7.out 1).trans rfl
        have qH72 : W8.cell? ⟨b7, 2, none⟩ = some (.int .i64 n) := (blk_cell H7.out 2).trans rfl
        have qH73 : W8.cell? ⟨b7, 3, none⟩ = some (.int .i64 f) := (blk_cell H7.out 3).trans rfl
        have qH100 : W8.cell? ⟨b10, 0, none⟩ = some (.slice A4 V.length c4) := (blk_cell H10.out 0).trans rfl
        have qH101 : W8.cell? ⟨b10, 1, none⟩ = some (.slice A5 B.length c5) := (blk_cell H10.out 1).trans rfl
        have qH102 : W8.cell? ⟨b10, 2, none⟩ = some (.int .i64 n) := (blk_cell H10.out 2).trans rfl
        have qH103 : W8.cell? ⟨b10, 3, none⟩ = some (.int .i64 f) := (blk_cell H10.out 3).trans rfl
        go_wp2_with fail
        clear qH30 qH31 qH32 qH33 qH40 qH41 qH70 qH71 qH72 qH73 qH100 qH101 qH102 qH103
        refine (same_c (n := n) (f := f) CT.out CS.out HS.out).mono ?_
        rintro e W9 ⟨rfl, hb⟩
        replace H3 := Aside0.mk (H3.out.below hb)
        replace H4 := Aside0.mk (H4.out.below hb)
        replace H7 := Aside0.mk (H7.out.below hb)
        replace H10 := Aside0.mk (H10.out.below hb)
        replace CS := Aside0.mk (CS.out.below hb)
        replace CW := Aside0.mk (CW.out.below hb)
        replace CT := Aside0.mk (CT.out.below hb)
        replace HB := Aside0.mk (HB.out.trans (hb.mono HB.out.size))
        clear hb
        have qH30 : W9.cell? ⟨w.heap.size, 0, none⟩ = some (.slice A0 V.length c0) := (blk_cell H3.out 0).trans rfl
        have qH31 : W9.cell? ⟨w.heap.size, 1, none⟩ = some (.slice A1 B.length c1) := (blk_cell H3.out 1).trans rfl
        have qH32 : W9.cell? ⟨w.heap.size, 2, none⟩ = some (.int .i64 n) := (blk_cell H3.out 2).trans rfl
        have qH33 : W9.cell? ⟨w.heap.size, 3, none⟩ = some (.int .i64 f) := (blk_cell H3.out 3).trans rfl
        have qH40 : W9.cell? ⟨b4, 0, none⟩ = some (.int .i64 i) := (blk_cell H4.out 0).trans rfl
        have qH41 : W9.cell? ⟨b4, 1, none⟩ = some (.int .i64 k) := (blk_cell H4.out 1).trans rfl
        have qH70 : W9.cell? ⟨b7, 0, none⟩ = some (.slice A2 V.length c2) := (blk_cell H7.out 0).trans rfl
        have qH71 : W9.cell? ⟨b7, 1, none⟩ = some (.slice A3 B.length c3) := (blk_cell H7.out 1).trans rfl
        have qH72 : W9.cell? ⟨b7, 2, none⟩ = some (.int .i64 n) := (blk_cell H7.out 2).trans rfl
        have qH73 : W9.cell? ⟨b7, 3, none⟩ = some (.int .i64 f) := (blk_cell H7.out 3).trans rfl
        have qH100 : W9.cell? ⟨b10, 0, none⟩ = some (.slice A4 V.length c4) := (blk_cell H10.out 0).trans rfl
        have qH101 : W9.cell? ⟨b10, 1, none⟩ = some (.slice A5 B.length c5) := (blk_cell H10.out 1).trans rfl
        have qH102 : W9.cell? ⟨b10, 2, none⟩ = some (.int .i64 n) := (blk_cell H10.out 2).trans rfl
        have qH103 : W9.cell? ⟨b10, 3, none⟩ = some (.int .i64 f) := (blk_cell H10.out 3).trans rfl
        go_wp2_with fail
        clear qH30 qH31 qH32 qH33 qH40 qH41 qH70 qH71 qH72 qH73 qH100 qH101 qH102 qH103
        refine (awake_c _).mono ?_
        rintro e W10 ⟨rfl, hb⟩
        replace H3 := Aside0.mk (H3.out.below hb)
        replace H4 := Aside0.mk (H4.out.below hb)
        replace H7 := Aside0.mk (H7.out.below hb)
        replace H10 := Aside0.mk (H10.out.below hb)
        replace CS := Aside0.mk (CS.out.below hb)
        replace CW := Aside0.mk (CW.out.below hb)
        replace CT := Aside0.mk (CT.out.below hb)
        replace HB := Aside0.mk (HB.out.trans (hb.mono HB.out.size))
        clear hb
        go_wp2_with fail
        go_ret
        exact ⟨rfl, HB.out⟩
      by_cases i2 : k < 0
      · clear cs
        go_enter Try.func5, Try.ntmps5
        go_wp2_with fail
        obtain ⟨W0, hW0⟩ : ∃ W0, W0 = (w.alloc (.cells #[.slice A0 V.length c0, .slice A1 B.length c1, .int .i64 n, .int .i64 f] 31)).alloc (.cells #[.int .i64 i, .int .i64 k] 46) := ⟨_, rfl⟩
        have H3 := Aside0.mk (show Box W0 w.heap.size #[.slice A0 V.length c0, .slice A1 B.length c1, .int .i64 n, .int .i64 f] from by rw [hW0]; exact heap_alloc2_old w _ _)
        have H4 := Aside0.mk (show Two W0 (w.heap.size + 1) i k from by rw [hW0]; exact heap_alloc2_new w _ _)
        have HB := Aside0.mk (show Below w.heap.size w W0 from by rw [hW0]; exact ((Below.refl w.heap.size w).alloc (Nat.le_refl _) _).alloc (by simp) _)
        replace CS := Aside0.mk (CS.out.below HB.out)
        rw [← hW0]
        clear hW0
        obtain ⟨b4, hb4⟩ : ∃ b4, b4 = w.heap.size + 1 := ⟨_, rfl⟩
        rw [← hb4] at H4 ⊢
        clear hb4
        refine (short_c (n := n) (f := f) CS.out true E1.out).mono ?_
        rintro e W1 ⟨rfl, hb⟩
        replace H3 := Aside0.mk (H3.out.below hb)
        replace H4 := Aside0.mk (H4.out.below hb)
        replace CS := Aside0.mk (CS.out.below hb)
        replace HB := Aside0.mk (HB.out.trans (hb.mono HB.out.size))
        clear hb
        have qH30 : W1.cell? ⟨w.heap.size, 0, none⟩ = some (.slice A0 V.length c0) := (blk_cell H3.out 0).trans rfl
        have qH31 : W1.cell? ⟨w.heap.size, 1, none⟩ = some (.slice A1 B.length c1) := (blk_cell H3.out 1).trans rfl
        have qH32 : W1.cell? ⟨w.heap.size, 2, none⟩ = some (.int .i64 n) := (blk_cell H3.out 2).trans rfl
        have qH33 : W1.cell? ⟨w.heap.size, 3, none⟩ = some (.int .i64 f) := (blk_cell H3.out 3).trans rfl
        have qH40 : W1.cell? ⟨b4, 0, none⟩ = some (.int .i64 i) := (blk_cell H4.out 0).trans rfl
        have qH41 : W1.cell? ⟨b4, 1, none⟩ = some (.int .i64 k) := (blk_cell H4.out 1).trans rfl
        go_wp2_with fail
        clear qH30 qH31 qH32 qH33 qH40 qH41
        refine (clone_c CS.out HS.out).mono ?_
        rintro e W2 ⟨A2, c2, A3, c3, rfl, cw, hb⟩
        replace H3 := Aside0.mk (H3.out.below hb)
        replace H4 := Aside0.mk (H4.out.below hb)
        replace CS := Aside0.mk (CS.out.below hb)
        replace HB := Aside0.mk (HB.out.trans (hb.mono HB.out.size))
        clear hb
        have CW := Aside0.mk cw
        clear cw
        unfold row
        obtain ⟨b7, hb7⟩ : ∃ b, b = W2.heap.size := ⟨_, rfl⟩
        have qH30 : W2.cell? ⟨w.heap.size, 0, none⟩ = some (.slice A0 V.length c0) := (blk_cell H3.out 0).trans rfl
        have qH31 : W2.cell? ⟨w.heap.size, 1, none⟩ = some (.slice A1 B.length c1) := (blk_cell H3.out 1).trans rfl
        have qH32 : W2.cell? ⟨w.heap.size, 2, none⟩ = some (.int .i64 n) := (blk_cell H3.out 2).trans rfl
        have qH33 : W2.cell? ⟨w.heap.size, 3, none⟩ = some (.int .i64 f) := (blk_cell H3.out 3).trans rfl
        have qH40 : W2.cell? ⟨b4, 0, none⟩ = some (.int .i64 i) := (blk_cell H4.out 0).trans rfl
        have qH41 : W2.cell? ⟨b4, 1, none⟩ = some (.int .i64 k) := (blk_cell H4.out 1).trans rfl
        go_wp2_with ((with_reducible refine gate_store (t := 31) (p := 7) (v := .tmp 24) rfl ?_); refine wpList_store_row rfl 31 (.tmp 7) (.tmp 24) rfl W2.heap.size #[.slice A2 V.length c2, .slice A3 B.length c3, .int .i64 n, .int .i64 f] rfl rfl 31 _ (heap_alloc_new W2 _) (by rw [hi4]; rfl) rfl (by kernel_rfl) ?_; clear qH30 qH31 qH32 qH33 qH40 qH41; obtain ⟨W3, hw⟩ : ∃ W_, W_ = (W2.alloc (.cells #[.slice none 0 0, .slice none 0 0, .int .i64 0, .int .i64 0] 31)).setRow W2.heap.size #[.slice A2 V.length c2, .slice A3 B.length c3, .int .i64 n, .int .i64 f] := ⟨_, rfl⟩; have hb : Below W2.heap.size W2 W3 := hw ▸ below_row _ _; have hn : Box W3 W2.heap.size #[.slice A2 V.length c2, .slice A3 B.length c3, .int .i64 n, .int .i64 f] := hw ▸ setRow_heap _ _ _ _ _ _ (heap_alloc_new W2 _); rw [← hw]; rw [← hb7] at hn ⊢; replace H3 := Aside0.mk (H3.out.below hb); replace H4 := Aside0.mk (H4.out.below hb); replace CS := Aside0.mk (CS.out.below hb); replace CW := Aside0.mk (CW.out.below hb); replace HB := Aside0.mk (HB.out.trans (hb.mono HB.out.size)); have H7 := Aside0.mk hn; clear hb hn hw hb7; have qH30 : W3.cell? ⟨w.heap.size, 0, none⟩ = some (.slice A0 V.length c0) := (blk_cell H3.out 0).trans rfl; have qH31 : W3.cell? ⟨w.heap.size, 1, none⟩ = some (.slice A1 B.length c1) := (blk_cell H3.out 1).trans rfl; have qH32 : W3.cell? ⟨w.heap.size, 2, none⟩ = some (.int .i64 n) := (blk_cell H3.out 2).trans rfl; have qH33 : W3.cell? ⟨w.heap.size, 3, none⟩ = some (.int .i64 f) := (blk_cell H3.out 3).trans rfl; have qH40 : W3.cell? ⟨b4, 0, none⟩ = some (.int .i64 i) := (blk_cell H4.out 0).trans rfl; have qH41 : W3.cell? ⟨b4, 1, none⟩ = some (.int .i64 k) := (blk_cell H4.out 1).trans rfl; have qH70 : W3.cell? ⟨b7, 0, none⟩ = some (.slice A2 V.length c2) := (blk_cell H7.out 0).trans rfl; have qH71 : W3.cell? ⟨b7, 1, none⟩ = some (.slice A3 B.length c3) := (blk_cell H7.out 1).trans rfl; have qH72 : W3.cell? ⟨b7, 2, none⟩ = some (.int .i64 n) := (blk_cell H7.out 2).trans rfl; have qH73 : W3.cell? ⟨b7, 3, none⟩ = some (.int .i64 f) := (blk_cell H7.out 3).trans rfl)
        repeat (go_quiet (fail); try go_wp2_with fail)
        clear qH30 qH31 qH32 qH33 qH40 qH41 qH70 qH71 qH72 qH73
        obtain ⟨W4, hw⟩ : ∃ W_, W_ = W3.drewN nq := ⟨_, rfl⟩
        have hb : Below W3.heap.size W3 W4 := hw ▸ pw_below_drewN (Below.refl _ _) _
        rw [← hw]
        clear hw
        replace H3 := Aside0.mk (H3.out.below hb)
        replace H4 := Aside0.mk (H4.out.below hb)
        replace H7 := Aside0.mk (H7.out.below hb)
        replace CS := Aside0.mk (CS.out.below hb)
        replace CW := Aside0.mk (CW.out.below hb)
        replace HB := Aside0.mk (HB.out.trans (hb.mono HB.out.size))
        clear hb
        refine (write_c CS.out i k x V false HW.out).mono ?_
        rintro e W5 ⟨A4, c4, A5, c5, rfl, ct, hb⟩
        replace H3 := Aside0.mk (H3.out.below hb)
        replace H4 := Aside0.mk (H4.out.below hb)
        replace H7 := Aside0.mk (H7.out.below hb)
        replace CS := Aside0.mk (CS.out.below hb)
        replace CW := Aside0.mk (CW.out.below hb)
        replace HB := Aside0.mk (HB.out.trans (hb.mono HB.out.size))
        clear hb
        have CT := Aside0.mk ct
        clear ct
        unfold row
        obtain ⟨b10, hb10⟩ : ∃ b, b = W5.heap.size := ⟨_, rfl⟩
        have qH30 : W5.cell? ⟨w.heap.size, 0, none⟩ = some (.slice A0 V.length c0) := (blk_cell H3.out 0).trans rfl
        have qH31 : W5.cell? ⟨w.heap.size, 1, none⟩ = some (.slice A1 B.length c1) := (blk_cell H3.out 1).trans rfl
        have qH32 : W5.cell? ⟨w.heap.size, 2, none⟩ = some (.int .i64 n) := (blk_cell H3.out 2).trans rfl
        have qH33 : W5.cell? ⟨w.heap.size, 3, none⟩ = some (.int .i64 f) := (blk_cell H3.out 3).trans rfl
        have qH40 : W5.cell? ⟨b4, 0, none⟩ = some (.int .i64 i) := (blk_cell H4.out 0).trans rfl
        have qH41 : W5.cell? ⟨b4, 1, none⟩ = some (.int .i64 k) := (blk_cell H4.out 1).trans rfl
        have qH70 : W5.cell? ⟨b7, 0, none⟩ = some (.slice A2 V.length c2) := (blk_cell H7.out 0).trans rfl
        have qH71 : W5.cell? ⟨b7, 1, none⟩ = some (.slice A3 B.length c3) := (blk_cell H7.out 1).trans rfl
        have qH72 : W5.cell? ⟨b7, 2, none⟩ = some (.int .i64 n) := (blk_cell H7.out 2).trans rfl
        have qH73 : W5.cell? ⟨b7, 3, none⟩ = some (.int .i64 f) := (blk_cell H7.out 3).trans rfl
        have d1 : decide (i ≥ 0) = true := decide_eq_true (by omega)
        have d2 : decide (i < (V.length : Int)) = true := decide_eq_true (by omega)
        have d3 : decide (k ≥ 0) = false := decide_eq_false (by omega)
        go_wp2_with ((with_reducible refine gate_store (t := 31) (p := 10) (v := .tmp 35) rfl ?_); refine wpList_store_row rfl 31 (.tmp 10) (.tmp 35) rfl W5.heap.size #[.slice A4 V.length c4, .slice A5 B.length c5, .int .i64 n, .int .i64 f] rfl rfl 31 _ (heap_alloc_new W5 _) (by rw [hi4]; rfl) rfl (by kernel_rfl) ?_; clear qH30 qH31 qH32 qH33 qH40 qH41 qH70 qH71 qH72 qH73; obtain ⟨W6, hw⟩ : ∃ W_, W_ = (W5.alloc (.cells #[.slice none 0 0, .slice none 0 0, .int .i64 0, .int .i64 0] 31)).setRow W5.heap.size #[.slice A4 V.length c4, .slice A5 B.length c5, .int .i64 n, .int .i64 f] := ⟨_, rfl⟩; have hb : Below W5.heap.size W5 W6 := hw ▸ below_row _ _; have hn : Box W6 W5.heap.size #[.slice A4 V.length c4, .slice A5 B.length c5, .int .i64 n, .int .i64 f] := hw ▸ setRow_heap _ _ _ _ _ _ (heap_alloc_new W5 _); rw [← hw]; rw [← hb10] at hn ⊢; replace H3 := Aside0.mk (H3.out.below hb); replace H4 := Aside0.mk (H4.out.below hb); replace H7 := Aside0.mk (H7.out.below hb); replace CS := Aside0.mk (CS.out.below hb); replace CW := Aside0.mk (CW.out.below hb); replace CT := Aside0.mk (CT.out.below hb); replace HB := Aside0.mk (HB.out.trans (hb.mono HB.out.size)); have H10 := Aside0.mk hn; clear hb hn hw hb10; have qH30 : W6.cell? ⟨w.heap.size, 0, none⟩ = some (.slice A0 V.length c0) := (blk_cell H3.out 0).trans rfl; have qH31 : W6.cell? ⟨w.heap.size, 1, none⟩ = some (.slice A1 B.length c1) := (blk_cell H3.out 1).trans rfl; have qH32 : W6.cell? ⟨w.heap.size, 2, none⟩ = some (.int .i64 n) := (blk_cell H3.out 2).trans rfl; have qH33 : W6.cell? ⟨w.heap.size, 3, none⟩ = some (.int .i64 f) := (blk_cell H3.out 3).trans rfl; have qH40 : W6.cell? ⟨b4, 0, none⟩ = some (.int .i64 i) := (blk_cell H4.out 0).trans rfl; have qH41 : W6.cell? ⟨b4, 1, none⟩ = some (.int .i64 k) := (blk_cell H4.out 1).trans rfl; have qH70 : W6.cell? ⟨b7, 0, none⟩ = some (.slice A2 V.length c2) := (blk_cell H7.out 0).trans rfl; have qH71 : W6.cell? ⟨b7, 1, none⟩ = some (.slice A3 B.length c3) := (blk_cell H7.out 1).trans rfl; have qH72 : W6.cell? ⟨b7, 2, none⟩ = some (.int .i64 n) := (blk_cell H7.out 2).trans rfl; have qH73 : W6.cell? ⟨b7, 3, none⟩ = some (.int .i64 f) := (blk_cell H7.out 3).trans rfl; have qH100 : W6.cell? ⟨b10, 0, none⟩ = some (.slice A4 V.length c4) := (blk_cell H10.out 0).trans rfl; have qH101 : W6.cell? ⟨b10, 1, none⟩ = some (.slice A5 B.length c5) := (blk_cell H10.out 1).trans rfl; have qH102 : W6.cell? ⟨b10, 2, none⟩ = some (.int .i64 n) := (blk_cell H10.out 2).trans rfl; have qH103 : W6.cell? ⟨b10, 3, none⟩ = some (.int .i64 f) := (blk_cell H10.out 3).trans rfl)
        clear qH30 qH31 qH32 qH33 qH40 qH41 qH70 qH71 qH72 qH73 qH100 qH101 qH102 qH103
        refine (same_c (n := n) (f := f) CS.out CW.out HS.out).mono ?_
        rintro e W7 ⟨rfl, hb⟩
        replace H3 := Aside0.mk (H3.out.below hb)
        replace H4 := Aside0.mk (H4.out.below hb)
        replace H7 := Aside0.mk (H7.out.below hb)
        replace H10 := Aside0.mk (H10.out.below hb)
        replace CS := Aside0.mk (CS.out.below hb)
        replace CW := Aside0.mk (CW.out.below hb)
        replace CT := Aside0.mk (CT.out.below hb)
        replace HB := Aside0.mk (HB.out.trans (hb.mono HB.out.size))
        clear hb
        have qH30 : W7.cell? ⟨w.heap.size, 0, none⟩ = some (.slice A0 V.length c0) := (blk_cell H3.out 0).trans rfl
        have qH31 : W7.cell? ⟨w.heap.size, 1, none⟩ = some (.slice A1 B.length c1) := (blk_cell H3.out 1).trans rfl
        have qH32 : W7.cell? ⟨w.heap.size, 2, none⟩ = some (.int .i64 n) := (blk_cell H3.out 2).trans rfl
        have qH33 : W7.cell? ⟨w.heap.size, 3, none⟩ = some (.int .i64 f) := (blk_cell H3.out 3).trans rfl
        have qH40 : W7.cell? ⟨b4, 0, none⟩ = some (.int .i64 i) := (blk_cell H4.out 0).trans rfl
        have qH41 : W7.cell? ⟨b4, 1, none⟩ = some (.int .i64 k) := (blk_cell H4.out 1).trans rfl
        have qH70 : W7.cell? ⟨b7, 0, none⟩ = some (.slice A2 V.length c2) := (blk_cell H7.out 0).trans rfl
        have qH71 : W7.cell? ⟨b7, 1, none⟩ = some (.slice A3 B.length c3) := (blk_cell H7.out 1).trans rfl
        have qH72 : W7.cell? ⟨b7, 2, none⟩ = some (.int .i64 n) := (blk_cell H7.out 2).trans rfl
        have qH73 : W7.cell? ⟨b7, 3, none⟩ = some (.int .i64 f) := (blk_cell H7.out 3).trans rfl
        have qH100 : W7.cell? ⟨b10, 0, none⟩ = some (.slice A4 V.length c4) := (blk_cell H10.out 0).trans rfl
        have qH101 : W7.cell? ⟨b10, 1, none⟩ = some (.slice A5 B.length c5) := (blk_cell H10.out 1).trans rfl
        have qH102 : W7.cell? ⟨b10, 2, none⟩ = some (.int .i64 n) := (blk_cell H10.out 2).trans rfl
        have qH103 : W7.cell? ⟨b10, 3, none⟩ = some (.int .i64 f) := (blk_cell H10.out 3).trans rfl
        go_wp2_with fail
        clear qH30 qH31 qH32 qH33 qH40 qH41 qH70 qH71 qH72 qH73 qH100 qH101 qH102 qH103
        refine (read_c CS.out i k 0 false HR.out).mono ?_
        rintro e W8 ⟨rfl, hb⟩
        replace H3 := Aside0.mk (H3.out.below hb)
        replace H4 := Aside0.mk (H4.out.below hb)
        replace H7 := Aside0.mk (H7.out.below hb)
        replace H10 := Aside0.mk (H10.out.below hb)
        replace CS := Aside0.mk (CS.out.below hb)
        replace CW := Aside0.mk (CW.out.below hb)
        replace CT := Aside0.mk (CT.out.below hb)
        replace HB := Aside0.mk (HB.out.trans (hb.mono HB.out.size))
        clear hb
        have qH30 : W8.cell? ⟨w.heap.size, 0, none⟩ = some (.slice A0 V.length c0) := (blk_cell H3.out 0).trans rfl
        have qH31 : W8.cell? ⟨w.heap.size, 1, none⟩ = some (.slice A1 B.length c1) := (blk_cell H3.out 1).trans rfl
        have qH32 : W8.cell? ⟨w.heap.size, 2, none⟩ = some (.int .i64 n) := (blk_cell H3.out 2).trans rfl
        have qH33 : W8.cell? ⟨w.heap.size, 3, none⟩ = some (.int .i64 f) := (blk_cell H3.out 3).trans rfl
        have qH40 : W8.cell? ⟨b4, 0, none⟩ = some (.int .i64 i) := (blk_cell H4.out 0).trans rfl
        have qH41 : W8.cell? ⟨b4, 1, none⟩ = some (.int .i64 k) := (blk_cell H4.out 1).trans rfl
        have qH70 : W8.cell? ⟨b7, 0, none⟩ = some (.slice A2 V.length c2) := (blk_cell H7.out 0).trans rfl
        have qH71 : W8.cell? ⟨b7, 1, none⟩ = some (.slice A3 B.length c3) := (blk_cell H7.out 1).trans rfl
        have qH72 : W8.cell? ⟨b7, 2, none⟩ = some (.int .i64 n) := (blk_cell H7.out 2).trans rfl
        have qH73 : W8.cell? ⟨b7, 3, none⟩ = some (.int .i64 f) := (blk_cell H7.out 3).trans rfl
        have qH100 : W8.cell? ⟨b10, 0, none⟩ = some (.slice A4 V.length c4) := (blk_cell H10.out 0).trans rfl
        have qH101 : W8.cell? ⟨b10, 1, none⟩ = some (.slice A5 B.length c5) := (blk_cell H10.out 1).trans rfl
        have qH102 : W8.cell? ⟨b10, 2, none⟩ = some (.int .i64 n) := (blk_cell H10.out 2).trans rfl
        have qH103 : W8.cell? ⟨b10, 3, none⟩ = some (.int .i64 f) := (blk_cell H10.out 3).trans rfl
        go_wp2_with fail
        clear qH30 qH31 qH32 qH33 qH40 qH41 qH70 qH71 qH72 qH73 qH100 qH101 qH102 qH103
        refine (same_c (n := n) (f := f) CT.out CS.out HS.out).mono ?_
        rintro e W9 ⟨rfl, hb⟩
        replace H3 := Aside0.mk (H3.out.below hb)
        replace H4 := Aside0.mk (H4.out.below hb)
        replace H7 := Aside0.mk (H7.out.below hb)
        replace H10 := Aside0.mk (H10.out.below hb)
        replace CS := Aside0.mk (CS.out.below hb)
        replace CW := Aside0.mk (CW.out.below hb)
        replace CT := Aside0.mk (CT.out.below hb)
        replace HB := Aside0.mk (HB.out.trans (hb.mono HB.out.size))
        clear hb
        have qH30 : W9.cell? ⟨w.heap.size, 0, none⟩ = some (.slice A0 V.length c0) := (blk_cell H3.out 0).trans rfl
        have qH31 : W9.cell? ⟨w.heap.size, 1, none⟩ = some (.slice A1 B.length c1) := (blk_cell H3.out 1).trans rfl
        have qH32 : W9.cell? ⟨w.heap.size, 2, none⟩ = some (.int .i64 n) := (blk_cell H3.out 2).trans rfl
        have qH33 : W9.cell? ⟨w.heap.size, 3, none⟩ = some (.int .i64 f) := (blk_cell H3.out 3).trans rfl
        have qH40 : W9.cell? ⟨b4, 0, none⟩ = some (.int .i64 i) := (blk_cell H4.out 0).trans rfl
        have qH41 : W9.cell? ⟨b4, 1, none⟩ = some (.int .i64 k) := (blk_cell H4.out 1).trans rfl
        have qH70 : W9.cell? ⟨b7, 0, none⟩ = some (.slice A2 V.length c2) := (blk_cell H7.out 0).trans rfl
        have qH71 : W9.cell? ⟨b7, 1, none⟩ = some (.slice A3 B.length c3) := (blk_cell H7.out 1).trans rfl
        have qH72 : W9.cell? ⟨b7, 2, none⟩ = some (.int .i64 n) := (blk_cell H7.out 2).trans rfl
        have qH73 : W9.cell? ⟨b7, 3, none⟩ = some (.int .i64 f) := (blk_cell H7.out 3).trans rfl
        have qH100 : W9.cell? ⟨b10, 0, none⟩ = some (.slice A4 V.length c4) := (blk_cell H10.out 0).trans rfl
        have qH101 : W9.cell? ⟨b10, 1, none⟩ = some (.slice A5 B.length c5) := (blk_cell H10.out 1).trans rfl
        have qH102 : W9.cell? ⟨b10, 2, none⟩ = some (.int .i64 n) := (blk_cell H10.out 2).trans rfl
        have qH103 : W9.cell? ⟨b10, 3, none⟩ = some (.int .i64 f) := (blk_cell H10.out 3).trans rfl
        go_wp2_with fail
        clear qH30 qH31 qH32 qH33 qH40 qH41 qH70 qH71 qH72 qH73 qH100 qH101 qH102 qH103
        refine (awake_c _).mono ?_
        rintro e W10 ⟨rfl, hb⟩
        replace H3 := Aside0.mk (H3.out.below hb)
        replace H4 := Aside0.mk (H4.out.below hb)
        replace H7 := Aside0.mk (H7.out.below hb)
        replace H10 := Aside0.mk (H10.out.below hb)
        replace CS := Aside0.mk (CS.out.below hb)
        replace CW := Aside0.mk (CW.out.below hb)
        replace CT := Aside0.mk (CT.out.below hb)
        replace HB := Aside0.mk (HB.out.trans (hb.mono HB.out.size))
        clear hb
        go_wp2_with fail
        go_ret
        exact ⟨rfl, HB.out⟩
      obtain ⟨i, rfl⟩ := Int.eq_ofNat_of_zero_le (show 0 ≤ i by omega)
      have hi : i < V.length := by omega
      have hkk : (V[i].length : Int) ≤ k := by
        rcases Int.lt_or_le k (V[i].length : Int) with h | h
        · exact absurd ⟨by omega, by omega, by omega, by rw [rdL V i hi]; exact h⟩ ht
        · exact h
      obtain ⟨ad, B0, d0, hA, e0, m0, g0⟩ := row_at cs.g0 i hi hi
      subst hA
      have EL := Aside0.mk (fun W_ (hb : Below w.heap.size w W_) => pw_cell_below hb e0)
      clear cs e0 g0
      go_enter Try.func5, Try.ntmps5
      go_wp2_with fail
      obtain ⟨W0, hW0⟩ : ∃ W0, W0 = (w.alloc (.cells #[.slice (some ad) V.length c0, .slice A1 B.length c1, .int .i64 n, .int .i64 f] 31)).alloc (.cells #[.int .i64 i, .int .i64 k] 46) := ⟨_, rfl⟩
      have H3 := Aside0.mk (show Box W0 w.heap.size #[.slice (some ad) V.length c0, .slice A1 B.length c1, .int .i64 n, .int .i64 f] from by rw [hW0]; exact heap_alloc2_old w _ _)
      have H4 := Aside0.mk (show Two W0 (w.heap.size + 1) i k from by rw [hW0]; exact heap_alloc2_new w _ _)
      have HB := Aside0.mk (show Below w.heap.size w W0 from by rw [hW0]; exact ((Below.refl w.heap.size w).alloc (Nat.le_refl _) _).alloc (by simp) _)
      replace CS := Aside0.mk (CS.out.below HB.out)
      rw [← hW0]
      clear hW0
      obtain ⟨b4, hb4⟩ : ∃ b4, b4 = w.heap.size + 1 := ⟨_, rfl⟩
      rw [← hb4] at H4 ⊢
      clear hb4
      refine (short_c (n := n) (f := f) CS.out true E1.out).mono ?_
      rintro e W1 ⟨rfl, hb⟩
      replace H3 := Aside0.mk (H3.out.below hb)
      replace H4 := Aside0.mk (H4.out.below hb)
      replace CS := Aside0.mk (CS.out.below hb)
      replace HB := Aside0.mk (HB.out.trans (hb.mono HB.out.size))
      clear hb
      have qH30 : W1.cell? ⟨w.heap.size, 0, none⟩ = some (.slice (some ad) V.length c0) := (blk_cell H3.out 0).trans rfl
      have qH31 : W1.cell? ⟨w.heap.size, 1, none⟩ = some (.slice A1 B.length c1) := (blk_cell H3.out 1).trans rfl
      have qH32 : W1.cell? ⟨w.heap.size, 2, none⟩ = some (.int .i64 n) := (blk_cell H3.out 2).trans rfl
      have qH33 : W1.cell? ⟨w.heap.size, 3, none⟩ = some (.int .i64 f) := (blk_cell H3.out 3).trans rfl
      have qH40 : W1.cell? ⟨b4, 0, none⟩ = some (.int .i64 i) := (blk_cell H4.out 0).trans rfl
      have qH41 : W1.cell? ⟨b4, 1, none⟩ = some (.int .i64 k) := (blk_cell H4.out 1).trans rfl
      go_wp2_with fail
      clear qH30 qH31 qH32 qH33 qH40 qH41
      refine (clone_c CS.out HS.out).mono ?_
      rintro e W2 ⟨A2, c2, A3, c3, rfl, cw, hb⟩
      replace H3 := Aside0.mk (H3.out.below hb)
      replace H4 := Aside0.mk (H4.out.below hb)
      replace CS := Aside0.mk (CS.out.below hb)
      replace HB := Aside0.mk (HB.out.trans (hb.mono HB.out.size))
      clear hb
      have CW := Aside0.mk cw
      clear cw
      unfold row
      obtain ⟨b7, hb7⟩ : ∃ b, b = W2.heap.size := ⟨_, rfl⟩
      have qH30 : W2.cell? ⟨w.heap.size, 0, none⟩ = some (.slice (some ad) V.length c0) := (blk_cell H3.out 0).trans rfl
      have qH31 : W2.cell? ⟨w.heap.size, 1, none⟩ = some (.slice A1 B.length c1) := (blk_cell H3.out 1).trans rfl
      have qH32 : W2.cell? ⟨w.heap.size, 2, none⟩ = some (.int .i64 n) := (blk_cell H3.out 2).trans rfl
      have qH33 : W2.cell? ⟨w.heap.size, 3, none⟩ = some (.int .i64 f) := (blk_cell H3.out 3).trans rfl
      have qH40 : W2.cell? ⟨b4, 0, none⟩ = some (.int .i64 i) := (blk_cell H4.out 0).trans rfl
      have qH41 : W2.cell? ⟨b4, 1, none⟩ = some (.int .i64 k) := (blk_cell H4.out 1).trans rfl
      go_wp2_with ((with_reducible refine gate_store (t := 31) (p := 7) (v := .tmp 24) rfl ?_); refine wpList_store_row rfl 31 (.tmp 7) (.tmp 24) rfl W2.heap.size #[.slice A2 V.length c2, .slice A3 B.length c3, .int .i64 n, .int .i64 f] rfl rfl 31 _ (heap_alloc_new W2 _) (by rw [hi4]; rfl) rfl (by kernel_rfl) ?_; clear qH30 qH31 qH32 qH33 qH40 qH41; obtain ⟨W3, hw⟩ : ∃ W_, W_ = (W2.alloc (.cells #[.slice none 0 0, .slice none 0 0, .int .i64 0, .int .i64 0] 31)).setRow W2.heap.size #[.slice A2 V.length c2, .slice A3 B.length c3, .int .i64 n, .int .i64 f] := ⟨_, rfl⟩; have hb : Below W2.heap.size W2 W3 := hw ▸ below_row _ _; have hn : Box W3 W2.heap.size #[.slice A2 V.length c2, .slice A3 B.length c3, .int .i64 n, .int .i64 f] := hw ▸ setRow_heap _ _ _ _ _ _ (heap_alloc_new W2 _); rw [← hw]; rw [← hb7] at hn ⊢; replace H3 := Aside0.mk (H3.out.below hb); replace H4 := Aside0.mk (H4.out.below hb); replace CS := Aside0.mk (CS.out.below hb); replace CW := Aside0.mk (CW.out.below hb); replace HB := Aside0.mk (HB.out.trans (hb.mono HB.out.size)); have H7 := Aside0.mk hn; clear hb hn hw hb7; have qH30 : W3.cell? ⟨w.heap.size, 0, none⟩ = some (.slice (some ad) V.length c0) := (blk_cell H3.out 0).trans rfl; have qH31 : W3.cell? ⟨w.heap.size, 1, none⟩ = some (.slice A1 B.length c1) := (blk_cell H3.out 1).trans rfl; have qH32 : W3.cell? ⟨w.heap.size, 2, none⟩ = some (.int .i64 n) := (blk_cell H3.out 2).trans rfl; have qH33 : W3.cell? ⟨w.heap.size, 3, none⟩ = some (.int .i64 f) := (blk_cell H3.out 3).trans rfl; have qH40 : W3.cell? ⟨b4, 0, none⟩ = some (.int .i64 i) := (blk_cell H4.out 0).trans rfl; have qH41 : W3.cell? ⟨b4, 1, none⟩ = some (.int .i64 k) := (blk_cell H4.out 1).trans rfl; have qH70 : W3.cell? ⟨b7, 0, none⟩ = some (.slice A2 V.length c2) := (blk_cell H7.out 0).trans rfl; have qH71 : W3.cell? ⟨b7, 1, none⟩ = some (.slice A3 B.length c3) := (blk_cell H7.out 1).trans rfl; have qH72 : W3.cell? ⟨b7, 2, none⟩ = some (.int .i64 n) := (blk_cell H7.out 2).trans rfl; have qH73 : W3.cell? ⟨b7, 3, none⟩ = some (.int .i64 f) := (blk_cell H7.out 3).trans rfl)
      repeat (go_quiet (fail); try go_wp2_with fail)
      clear qH30 qH31 qH32 qH33 qH40 qH41 qH70 qH71 qH72 qH73
      obtain ⟨W4, hw⟩ : ∃ W_, W_ = W3.drewN nq := ⟨_, rfl⟩
      have hb : Below W3.heap.size W3 W4 := hw ▸ pw_below_drewN (Below.refl _ _) _
      rw [← hw]
      clear hw
      replace H3 := Aside0.mk (H3.out.below hb)
      replace H4 := Aside0.mk (H4.out.below hb)
      replace H7 := Aside0.mk (H7.out.below hb)
      replace CS := Aside0.mk (CS.out.below hb)
      replace CW := Aside0.mk (CW.out.below hb)
      replace HB := Aside0.mk (HB.out.trans (hb.mono HB.out.size))
      clear hb
      refine (write_c CS.out i k x V false HW.out).mono ?_
      rintro e W5 ⟨A4, c4, A5, c5, rfl, ct, hb⟩
      replace H3 := Aside0.mk (H3.out.below hb)
      replace H4 := Aside0.mk (H4.out.below hb)
      replace H7 := Aside0.mk (H7.out.below hb)
      replace CS := Aside0.mk (CS.out.below hb)
      replace CW := Aside0.mk (CW.out.below hb)
      replace HB := Aside0.mk (HB.out.trans (hb.mono HB.out.size))
      clear hb
      have CT := Aside0.mk ct
      clear ct
      unfold row
      obtain ⟨b10, hb10⟩ : ∃ b, b = W5.heap.size := ⟨_, rfl⟩
      have qH30 : W5.cell? ⟨w.heap.size, 0, none⟩ = some (.slice (some ad) V.length c0) := (blk_cell H3.out 0).trans rfl
      have qH31 : W5.cell? ⟨w.heap.size, 1, none⟩ = some (.slice A1 B.length c1) := (blk_cell H3.out 1).trans rfl
      have qH32 : W5.cell? ⟨w.heap.size, 2, none⟩ = some (.int .i64 n) := (blk_cell H3.out 2).trans rfl
      have qH33 : W5.cell? ⟨w.heap.size, 3, none⟩ = some (.int .i64 f) := (blk_cell H3.out 3).trans rfl
      have qH40 : W5.cell? ⟨b4, 0, none⟩ = some (.int .i64 i) := (blk_cell H4.out 0).trans rfl
      have qH41 : W5.cell? ⟨b4, 1, none⟩ = some (.int .i64 k) := (blk_cell H4.out 1).trans rfl
      have qH70 : W5.cell? ⟨b7, 0, none⟩ = some (.slice A2 V.length c2) := (blk_cell H7.out 0).trans rfl
      have qH71 : W5.cell? ⟨b7, 1, none⟩ = some (.slice A3 B.length c3) := (blk_cell H7.out 1).trans rfl
      have qH72 : W5.cell? ⟨b7, 2, none⟩ = some (.int .i64 n) := (blk_cell H7.out 2).trans rfl
      have qH73 : W5.cell? ⟨b7, 3, none⟩ = some (.int .i64 f) := (blk_cell H7.out 3).trans rfl
      have d4 : decide (k < (V[i].length : Int)) = false := decide_eq_false (by omega)
      have d5 : decide (k ≥ 0) = true := decide_eq_true (by omega)
      go_wp2_with ((with_reducible refine gate_store (t := 31) (p := 10) (v := .tmp 35) rfl ?_); refine wpList_store_row rfl 31 (.tmp 10) (.tmp 35) rfl W5.heap.size #[.slice A4 V.length c4, .slice A5 B.length c5, .int .i64 n, .int .i64 f] rfl rfl 31 _ (heap_alloc_new W5 _) (by rw [hi4]; rfl) rfl (by kernel_rfl) ?_; clear qH30 qH31 qH32 qH33 qH40 qH41 qH70 qH71 qH72 qH73; obtain ⟨W6, hw⟩ : ∃ W_, W_ = (W5.alloc (.cells #[.slice none 0 0, .slice none 0 0, .int .i64 0, .int .i64 0] 31)).setRow W5.heap.size #[.slice A4 V.length c4, .slice A5 B.length c5, .int .i64 n, .int .i64 f] := ⟨_, rfl⟩; have hb : Below W5.heap.size W5 W6 := hw ▸ below_row _ _; have hn : Box W6 W5.heap.size #[.slice A4 V.length c4, .slice A5 B.length c5, .int .i64 n, .int .i64 f] := hw ▸ setRow_heap _ _ _ _ _ _ (heap_alloc_new W5 _); rw [← hw]; rw [← hb10] at hn ⊢; replace H3 := Aside0.mk (H3.out.below hb); replace H4 := Aside0.mk (H4.out.below hb); replace H7 := Aside0.mk (H7.out.below hb); replace CS := Aside0.mk (CS.out.below hb); replace CW := Aside0.mk (CW.out.below hb); replace CT := Aside0.mk (CT.out.below hb); replace HB := Aside0.mk (HB.out.trans (hb.mono HB.out.size)); have H10 := Aside0.mk hn; clear hb hn hw hb10; have qH30 : W6.cell? ⟨w.heap.size, 0, none⟩ = some (.slice (some ad) V.length c0) := (blk_cell H3.out 0).trans rfl; have qH31 : W6.cell? ⟨w.heap.size, 1, none⟩ = some (.slice A1 B.length c1) := (blk_cell H3.out 1).trans rfl; have qH32 : W6.cell? ⟨w.heap.size, 2, none⟩ = some (.int .i64 n) := (blk_cell H3.out 2).trans rfl; have qH33 : W6.cell? ⟨w.heap.size, 3, none⟩ = some (.int .i64 f) := (blk_cell H3.out 3).trans rfl; have qH40 : W6.cell? ⟨b4, 0, none⟩ = some (.int .i64 i) := (blk_cell H4.out 0).trans rfl; have qH41 : W6.cell? ⟨b4, 1, none⟩ = some (.int .i64 k) := (blk_cell H4.out 1).trans rfl; have qH70 : W6.cell? ⟨b7, 0, none⟩ = some (.slice A2 V.length c2) := (blk_cell H7.out 0).trans rfl; have qH71 : W6.cell? ⟨b7, 1, none⟩ = some (.slice A3 B.length c3) := (blk_cell H7.out 1).trans rfl; have qH72 : W6.cell? ⟨b7, 2, none⟩ = some (.int .i64 n) := (blk_cell H7.out 2).trans rfl; have qH73 : W6.cell? ⟨b7, 3, none⟩ = some (.int .i64 f) := (blk_cell H7.out 3).trans rfl; have qH100 : W6.cell? ⟨b10, 0, none⟩ = some (.slice A4 V.length c4) := (blk_cell H10.out 0).trans rfl; have qH101 : W6.cell? ⟨b10, 1, none⟩ = some (.slice A5 B.length c5) := (blk_cell H10.out 1).trans rfl; have qH102 : W6.cell? ⟨b10, 2, none⟩ = some (.int .i64 n) := (blk_cell H10.out 2).trans rfl; have qH103 : W6.cell? ⟨b10, 3, none⟩ = some (.int .i64 f) := (blk_cell H10.out 3).trans rfl; have y0 := EL.out _ HB.out)
      clear qH30 qH31 qH32 qH33 qH40 qH41 qH70 qH71 qH72 qH73 qH100 qH101 qH102 qH103
      refine (same_c (n := n) (f := f) CS.out CW.out HS.out).mono ?_
      rintro e W7 ⟨rfl, hb⟩
      replace H3 := Aside0.mk (H3.out.below hb)
      replace H4 := Aside0.mk (H4.out.below hb)
      replace H7 := Aside0.mk (H7.out.below hb)
      replace H10 := Aside0.mk (H10.out.below hb)
      replace CS := Aside0.mk (CS.out.below hb)
      replace CW := Aside0.mk (CW.out.below hb)
      replace CT := Aside0.mk (CT.out.below hb)
      replace HB := Aside0.mk (HB.out.trans (hb.mono HB.out.size))
      clear hb
      have qH30 : W7.cell? ⟨w.heap.size, 0, none⟩ = some (.slice (some ad) V.length c0) := (blk_cell H3.out 0).trans rfl
      have qH31 : W7.cell? ⟨w.heap.size, 1, none⟩ = some (.slice A1 B.length c1) := (blk_cell H3.out 1).trans rfl
      have qH32 : W7.cell? ⟨w.heap.size, 2, none⟩ = some (.int .i64 n) := (blk_cell H3.out 2).trans rfl
      have qH33 : W7.cell? ⟨w.heap.size, 3, none⟩ = some (.int .i64 f) := (blk_cell H3.out 3).trans rfl
      have qH40 : W7.cell? ⟨b4, 0, none⟩ = some (.int .i64 i) := (blk_cell H4.out 0).trans rfl
      have qH41 : W7.cell? ⟨b4, 1, none⟩ = some (.int .i64 k) := (blk_cell H4.out 1).trans rfl
      have qH70 : W7.cell? ⟨b7, 0, none⟩ = some (.slice A2 V.length c2) := (blk_cell H7.out 0).trans rfl
      have qH71 : W7.cell? ⟨b7, 1, none⟩ = some (.slice A3 B.length c3) := (blk_cell H7.out 1).trans rfl
      have qH72 : W7.cell? ⟨b7, 2, none⟩ = some (.int .i64 n) := (blk_cell H7.out 2).trans rfl
      have qH73 : W7.cell? ⟨b7, 3, none⟩ = some (.int .i64 f) := (blk_cell H7.out 3).trans rfl
      have qH100 : W7.cell? ⟨b10, 0, none⟩ = some (.slice A4 V.length c4) := (blk_cell H10.out 0).trans rfl
      have qH101 : W7.cell? ⟨b10, 1, none⟩ = some (.slice A5 B.length c5) := (blk_cell H10.out 1).trans rfl
      have qH102 : W7.cell? ⟨b10, 2, none⟩ = some (.int .i64 n) := (blk_cell H10.out 2).trans rfl
      have qH103 : W7.cell? ⟨b10, 3, none⟩ = some (.int .i64 f) := (blk_cell H10.out 3).trans rfl
      go_wp2_with fail
      clear qH30 qH31 qH32 qH33 qH40 qH41 qH70 qH71 qH72 qH73 qH100 qH101 qH102 qH103
      refine (read_c CS.out i k 0 false HR.out).mono ?_
      rintro e W8 ⟨rfl, hb⟩
      replace H3 := Aside0.mk (H3.out.below hb)
      replace H4 := Aside0.mk (H4.out.below hb)
      replace H7 := Aside0.mk (H7.out.below hb)
      replace H10 := Aside0.mk (H10.out.below hb)
      replace CS := Aside0.mk (CS.out.below hb)
      replace CW := Aside0.mk (CW.out.below hb)
      replace CT := Aside0.mk (CT.out.below hb)
      replace HB := Aside0.mk (HB.out.trans (hb.mono HB.out.size))
      clear hb
      have qH30 : W8.cell? ⟨w.heap.size, 0, none⟩ = some (.slice (some ad) V.length c0) := (blk_cell H3.out 0).trans rfl
      have qH31 : W8.cell? ⟨w.heap.size, 1, none⟩ = some (.slice A1 B.length c1) := (blk_cell H3.out 1).trans rfl
      have qH32 : W8.cell? ⟨w.heap.size, 2, none⟩ = some (.int .i64 n) := (blk_cell H3.out 2).trans rfl
      have qH33 : W8.cell? ⟨w.heap.size, 3, none⟩ = some (.int .i64 f) := (blk_cell H3.out 3).trans rfl
      have qH40 : W8.cell? ⟨b4, 0, none⟩ = some (.int .i64 i) := (blk_cell H4.out 0).trans rfl
      have qH41 : W8.cell? ⟨b4, 1, none⟩ = some (.int .i64 k) := (blk_cell H4.out 1).trans rfl
      have qH70 : W8.cell? ⟨b7, 0, none⟩ = some (.slice A2 V.length c2) := (blk_cell H7.out 0).trans rfl
      have qH71 : W8.cell? ⟨b7, 1, none⟩ = some (.slice A3 B.length c3) := (blk_cell H7.out 1).trans rfl
      have qH72 : W8.cell? ⟨b7, 2, none⟩ = some (.int .i64 n) := (blk_cell H7.out 2).trans rfl
      have qH73 : W8.cell? ⟨b7, 3, none⟩ = some (.int .i64 f) := (blk_cell H7.out 3).trans rfl
      have qH100 : W8.cell? ⟨b10, 0, none⟩ = some (.slice A4 V.length c4) := (blk_cell H10.out 0).trans rfl
      have qH101 : W8.cell? ⟨b10, 1, none⟩ = some (.slice A5 B.length c5) := (blk_cell H10.out 1).trans rfl
      have qH102 : W8.cell? ⟨b10, 2, none⟩ = some (.int .i64 n) := (blk_cell H10.out 2).trans rfl
      have qH103 : W8.cell? ⟨b10, 3, none⟩ = some (.int .i64 f) := (blk_cell H10.out 3).trans rfl
      go_wp2_with fail
      clear qH30 qH31 qH32 qH33 qH40 qH41 qH70 qH71 qH72 qH73 qH100 qH101 qH102 qH103
      refine (same_c (n := n) (f := f) CT.out CS.out HS.out).mono ?_
      rintro e W9 ⟨rfl, hb⟩
      replace H3 := Aside0.mk (H3.out.below hb)
      replace H4 := Aside0.mk (H4.out.below hb)
      replace H7 := Aside0.mk (H7.out.below hb)
      replace H10 := Aside0.mk (H10.out.below hb)
      replace CS := Aside0.mk (CS.out.below hb)
      replace CW := Aside0.mk (CW.out.below hb)
      replace CT := Aside0.mk (CT.out.below hb)
      replace HB := Aside0.mk (HB.out.trans (hb.mono HB.out.size))
      clear hb
      have qH30 : W9.cell? ⟨w.heap.size, 0, none⟩ = some (.slice (some ad) V.length c0) := (blk_cell H3.out 0).trans rfl
      have qH31 : W9.cell? ⟨w.heap.size, 1, none⟩ = some (.slice A1 B.length c1) := (blk_cell H3.out 1).trans rfl
      have qH32 : W9.cell? ⟨w.heap.size, 2, none⟩ = some (.int .i64 n) := (blk_cell H3.out 2).trans rfl
      have qH33 : W9.cell? ⟨w.heap.size, 3, none⟩ = some (.int .i64 f) := (blk_cell H3.out 3).trans rfl
      have qH40 : W9.cell? ⟨b4, 0, none⟩ = some (.int .i64 i) := (blk_cell H4.out 0).trans rfl
      have qH41 : W9.cell? ⟨b4, 1, none⟩ = some (.int .i64 k) := (blk_cell H4.out 1).trans rfl
      have qH70 : W9.cell? ⟨b7, 0, none⟩ = some (.slice A2 V.length c2) := (blk_cell H7.out 0).trans rfl
      have qH71 : W9.cell? ⟨b7, 1, none⟩ = some (.slice A3 B.length c3) := (blk_cell H7.out 1).trans rfl
      have qH72 : W9.cell? ⟨b7, 2, none⟩ = some (.int .i64 n) := (blk_cell H7.out 2).trans rfl
      have qH73 : W9.cell? ⟨b7, 3, none⟩ = some (.int .i64 f) := (blk_cell H7.out 3).trans rfl
      have qH100 : W9.cell? ⟨b10, 0, none⟩ = some (.slice A4 V.length c4) := (blk_cell H10.out 0).trans rfl
      have qH101 : W9.cell? ⟨b10, 1, none⟩ = some (.slice A5 B.length c5) := (blk_cell H10.out 1).trans rfl
      have qH102 : W9.cell? ⟨b10, 2, none⟩ = some (.int .i64 n) := (blk_cell H10.out 2).trans rfl
      have qH103 : W9.cell? ⟨b10, 3, none⟩ = some (.int .i64 f) := (blk_cell H10.out 3).trans rfl
      go_wp2_with fail
      clear qH30 qH31 qH32 qH33 qH40 qH41 qH70 qH71 qH72 qH73 qH100 qH101 qH102 qH103
      refine (awake_c _).mono ?_
      rintro e W10 ⟨rfl, hb⟩
      replace H3 := Aside0.mk (H3.out.below hb)
      replace H4 := Aside0.mk (H4.out.below hb)
      replace H7 := Aside0.mk (H7.out.below hb)
      replace H10 := Aside0.mk (H10.out.below hb)
      replace CS := Aside0.mk (CS.out.below hb)
      replace CW := Aside0.mk (CW.out.below hb)
      replace CT := Aside0.mk (CT.out.below hb)
      replace HB := Aside0.mk (HB.out.trans (hb.mono HB.out.size))
      clear hb
      go_wp2_with fail
      go_ret
      exact ⟨rfl, HB.out⟩
end Go.Proofs.Ytamajfcjcfkkjaa
end

section
/- The walk of StateWrites over what is read as data. -/
namespace Go.Proofs.Ytamajfcjcfkkjaa
open Go Go.RowKit Go.Proofs.Ytamajfcjcfkkjaa.PSt Go.Proofs.YtamajfcjcfkkjaaW.PrintWords
theorem rd_two : Bridge.Rdga Try.prog 46 (Kd.arr 2 (Kd.int .i64) (by decide)) (fun l => ∀ a ∈ l, (Lit.int .i64 a).wf = true) :=
  Bridge.Rdg.arraya Try.underlying46 (by kernel_rfl) StRow.rd_int
theorem StateWrites_walk (ca : Array Value) (a : List (List Int) × List S69 × Int × Int) (ct : Array Value) (t : List Int) (x : Int) (w : World) (ha : StRow.KState.K w a ca.toList) (_ : True) (ht : (Kd.arr 2 (Kd.int .i64) (by decide)).K w t ct.toList) (_ : ∀ a ∈ t, (Lit.int .i64 a).wf = true) (_ : (Lit.int .i64 x).wf = true) :
    Calls Try.prog 5 #[.agg ca, .agg ct, .int .i64 x] w fun e w' => e = .returned (.bool true) ∧ Below w.heap.size w w' := by
  obtain ⟨A0, c0, A1, c1, rfl, ⟨g0, l0⟩, ⟨g1, l1⟩⟩ := StRow.state_of ha
  obtain ⟨hl, hc⟩ := Kd.arr_cells ht
  match t, hl with
  | [i, k], _ =>
    obtain rfl : ct = #[.int .i64 i, .int .i64 k] := by
      rw [show ct = ct.toList.toArray by simp, hc]
      rfl
    exact StateWrites_w A0 A1 c0 c1 a.1 a.2.1 a.2.2.1 a.2.2.2 i k x w ⟨g0, l0, g1, l1⟩
end Go.Proofs.Ytamajfcjcfkkjaa
end

section
/- The law StateWrites holds for every input: the walk over its code shows that the call returns true and that what was read stays as it was; the row follows. -/
namespace Go.Proofs.Ytamajfcjcfkkjaa.stateWritesRw
open Go.ChangeShapes Go.WideShapes Go.ChangeAt Go.RowKit
open Go.ChangeMaps (open_string shut_string)
open Go.Proofs.Ytamajfcjcfkkjaa.Bridge
set_option linter.unusedVariables false
set_option linter.unusedSimpArgs false
theorem own : ownKnob Try.prog.godebug = none := by kernel_rfl
theorem laidOut : laidOutB Try.prog = true := by kernel_rfl
set_option maxRecDepth 100000 in
theorem lifted (os : Os) (started : os.Started) (H : Type) (enc : TypeId × Value → H) :
    ReturnsInHanded {} Try.checked os 5 .any (Rows.stateWritesSpec.pre6 enc Try.prog Try.f5 Rows.stateWritesRow.domain false) (Rows.stateWritesSpec.post enc Try.prog Try.f5 false true false false) := by
  refine returnsInHanded_of_change_sized (C := Try.checked) own started (by kernel_rfl) Try.func5
    (ChangeSpec.witness6 (enc := enc) (C := Try.checked) false ⟨#[], #[.agg #[.slice none 0 0, .slice none 0 0, .int .i64 0, .int .i64 0], .agg #[.int .i64 0, .int .i64 0], .int .i64 0], []⟩ 8 (by kernel_rfl) (by kernel_rfl) (by kernel_rfl) (by kernel_rfl)) ?_
  intro W base args ds gs before hval0 hW hcnd hsz0 _
  have hval : ∀ (j : Nat) t v, Try.f5.params[j]? = some t → args[j]? = some v → Value.okWide Try.prog W .any base t v := hval0
  have hsz : (DataW.weightsEach Try.prog (Try.f5.params.toList ++ Rows.stateWritesSpec.plain.varTypes Try.prog) (ds ++ gs)).all (· ≤ reachBytes) = true := hsz0
  clear hval0 hsz0 hcnd
  have hW' := hW
  obtain ⟨p, q, hA0, hV, rfl, hfz, hnd⟩ := hW
  have hA : DataW.TrodAll enc Try.prog W 0 (fun _ => true) true Try.f5.params.toList args.toList ds p := hA0
  rw [Try.params5] at hA hval hsz
  obtain ⟨v0, vs0, d0, ds0, p0, q0, hargs, rfl, rfl, h0, r0⟩ := trodAll_cons hA
  obtain ⟨v1, vs1, d1, ds1, p1, q1, rfl, rfl, rfl, h1, r1⟩ := trodAll_cons r0
  obtain ⟨v2, vs2, d2, ds2, p2, q2, rfl, rfl, rfl, h2, r2⟩ := trodAll_cons r1
  obtain ⟨rfl, rfl, rfl⟩ := trodAll_nil r2
  obtain rfl : args = #[v0, v1, v2] := by cases args; simp_all
  obtain ⟨rfl, rfl⟩ := trodVars_none hV
  clear hA0
  have k0 := h0
  have lt0 : ∀ x ∈ p0, x.block < W.heap.size := by obtain ⟨m, hm⟩ := k0; exact DataW.trod_lt m _ _ _ hm
  obtain ⟨cs0, rfl⟩ : ∃ cs, v0 = .agg cs := by
    have z := (hval 0 31 v0 rfl rfl)
    unfold Value.okWide at z
    rw [Try.underlying31] at z
    obtain ⟨cs, e, _⟩ := z
    exact ⟨cs, e⟩
  obtain ⟨x0, hk0, wf0⟩ := Rdga.trod StRow.rd_state h0
  have k1 := h1
  have lt1 : ∀ x ∈ p1, x.block < W.heap.size := by obtain ⟨m, hm⟩ := k1; exact DataW.trod_lt m _ _ _ hm
  obtain ⟨cs1, rfl⟩ : ∃ cs, v1 = .agg cs := by
    have z := (hval 1 46 v1 rfl rfl)
    unfold Value.okWide at z
    rw [Try.underlying46] at z
    obtain ⟨cs, e, _⟩ := z
    exact ⟨cs, e⟩
  obtain ⟨x1, hk1, wf1⟩ := Rdga.trod rd_two h1
  have k2 := h2
  have lt2 : ∀ x ∈ p2, x.block < W.heap.size := by obtain ⟨m, hm⟩ := k2; exact DataW.trod_lt m _ _ _ hm
  obtain ⟨a2, rfl, _, _, w2⟩ := open_int Try.underlying3 (hval 2 3 v2 rfl rfl) h2
  refine (StateWrites_walk cs0 x0 cs1 x1 a2 W hk0 wf0 hk1 wf1 w2).mono fun e W' ⟨he, bel⟩ => ?_
  subst he
  exact ⟨_, rfl, _, _, _, [], _, [], hW', trodAll_mk1 (shut_bool Try.underlying4 _), (trodAll_cons_mk (Below.trod laidOut (by kernel_rfl) (of_decide_eq_true (by kernel_rfl)) k0 bel lt0) (trodAll_cons_mk (Below.trod laidOut (by kernel_rfl) (of_decide_eq_true (by kernel_rfl)) k1 bel lt1) (trodAll_cons_mk (Below.trod laidOut (by kernel_rfl) (of_decide_eq_true (by kernel_rfl)) k2 bel lt2) trodAll_mk0))), rfl, bel.frame _, fun h => by cases h⟩
theorem over : Rows.stateWritesRow.holds Try.pinned (OpenSpec.ofChange Rows.stateWritesSpec) :=
  OpenClaim.holds_of_wide 5 Try.f5 rfl rfl rfl rfl rfl rfl rfl ⟨rfl, rfl, rfl, rfl, rfl⟩ rfl rfl rfl rfl rfl (by kernel_rfl) Try.func5 (by kernel_rfl)
    (of_decide_eq_true (by kernel_rfl)) (by unfold Func.isWrapper; first | (rw [if_pos (by decide +kernel)]; kernel_rfl) | (rw [if_neg (by decide +kernel)]; exact ⟨rfl, rfl⟩))
    (fun os started H enc _ => lifted os started H enc)
theorem proved : Rows.StateWritesSaid := over
end Go.Proofs.Ytamajfcjcfkkjaa.stateWritesRw
namespace Go.Proofs.Ytamajfcjcfkkjaa
theorem stateWrites_holds : Rows.StateWritesSaid := stateWritesRw.proved
#print axioms stateWrites_holds
end Go.Proofs.Ytamajfcjcfkkjaa
end
