/- Contracts of octet.Put and octet.Text: what they append to any bytes, if these are at most 1000000000 long. -/
import Derived.Test.YthbcliofjfhmbaaDoorWMore
import Derived.Test.YthbcliofjfhmbaaDoorProg
import Derived.Laws.CopyOwn
import Derived.Lib.SlBytesConst
namespace Go.Proofs.YthbcliofjfhmbaaDoor.Given
set_option linter.unusedVariables false
open Go.RowKit Go.Proofs.YthbcliofjfhmbaaDoorW.PrintWords Go.Proofs.YthbcliofjfhmbaaDoorW.PrintLast Go.Proofs.YthbcliofjfhmbaaDoorW.PrintMore
attribute [local go_sem] max2_int min2_int
def sh : Nat → Int → Int
  | 0, v => v
  | n + 1, v => sh n v / 256
def le : Nat → Int → List Int
  | 0, _ => []
  | n + 1, v => le n v ++ [sh n v % 256]
theorem le_length : ∀ n v, (le n v).length = n
  | 0, _ => rfl
  | n + 1, v => by simp [le, le_length n v]
/-- make([]T, n, c) of whole numbers. -/
theorem make_lc {P : Program} (t e : TypeId) (k : IntKind) (bytes : Nat) (ht : P.underlying t = some (.slice e)) (hinfo : (P.info? e).map (fun i => (i.zero, i.size, i.bytes)) = some (some (.int k 0), 1, bytes))
    (n m : Nat) (c : Int) (hc : c = (m : Int)) (hnm : n ≤ m) (hb : bytes * m ≤ 281474976710656) (h63 : m ≤ 9223372036854775807) (W : World) :
    (Instr.makeSlice t (.int .i64 (n : Int)) (.int .i64 c)).run P W = .ok (.slice (some ⟨W.heap.size, 0, none⟩) n m) (W.alloc (.cells (madeCells #[.int k 0] m) e)) := by
  subst hc
  obtain ⟨i0, hi, hz0, hz1, hz2⟩ := info_parts hinfo
  have := run_make (P := P) (w := W) t e i0 (.int k 0) ht hi hz0 .i64 .i64 (n : Int) (m : Int) (by omega) (by omega) (by rw [hz2, (Int.natCast_mul bytes m).symm]; omega) (by omega)
  rw [this, hz1]
  simp [Value.cells]
theorem own_copied {W : World} {base g n m : Nat} {e : TypeId} {k : IntKind} {Z : List Value} {xs : List Int} (hZ : Z.length = m) (hx : xs.length = n) (hnm : n ≤ m) (hm : m ≤ 9223372036854775807) (hb : base ≤ g)
    (h : W.heap[g]? = some (.cells (splice Z 0 (nums k xs)).toArray e (0, 0))) : W.ownsRow base e 1 (.slice (some ⟨g, 0, none⟩) n m) n (nums k xs) := by
  have hl : (splice Z 0 (nums k xs)).length = m := by rw [length_splice, hZ]; rw [nums_length]; omega
  refine ⟨by rw [nums_length]; omega, .inr ⟨g, m, _, rfl, hb, h, hnm, by unfold maxLen; omega, by rw [List.size_toArray, hl, Nat.mul_one], ?_⟩⟩
  simp [splice, hx, nums_length]
theorem infoU8 : (Tryd.prog.info? 5).map (fun i => (i.zero, i.size, i.bytes)) = some (some (.int .u8 0), 1, 1) := by kernel_rfl
theorem sizeU8 : (Tryd.prog.info? 5).map (·.size) = some 1 := by kernel_rfl
theorem nums_one (k : IntKind) (xs : List Int) : ∀ v ∈ nums k xs, v.oneCell' = true := by
  intro v hv
  obtain ⟨x, _, rfl⟩ := List.mem_map.1 hv
  rfl
theorem C_cells {k : IntKind} {w : World} {A : Option Addr} {n : Nat} {xs : List Int} (h : Kd.C (Kd.int k) w A n xs) (hn : 0 < n) : ∃ ad, A = some ad ∧ ∀ j v, (nums k xs)[j]? = some v → w.cell? (ad.add j) = some v := by
  have hl := h.1
  obtain ⟨ad, e, hc⟩ := h.2.2 hn
  refine ⟨ad, e, fun j v hv => ?_⟩
  have hj : j < xs.length := by
    have := (List.getElem?_eq_some_iff.1 hv).1
    rwa [nums_length] at this
  obtain ⟨c, _, hK, hcell⟩ := hc j _ (List.getElem?_eq_getElem hj)
  have hK' : c = [Value.int k xs[j]] := hK
  subst hK'
  have := hcell 0 _ rfl
  simp [nums, List.getElem?_eq_getElem hj] at hv
  subst hv
  simpa [Kd.int, Kd.scalar] using this
set_option maxHeartbeats 1000000 in
theorem octet_Put_calls (A0 : Option Addr) (c0 : Nat) (l0 : List Int) (a1 a2 : Int) (n : Nat) (w : World) (hr0 : Kd.C (Kd.int .u8) w A0 l0.length l0) (hn : mx 0 (mn a1 8) = n) (hl : l0.length ≤ 1000000000) :
    Calls Tryd.prog 41 #[.slice A0 l0.length c0, .int .i64 a1, .int .i64 a2] w fun e w' => ∃ v0_ : Value, e = .returned v0_ ∧ Kd.R (Kd.int .u8) 5 w' w.heap.size (fun _ => True) v0_ (l0 ++ le n a2) ∧ Below w.heap.size w w' := by
  obtain ⟨Z, hZ⟩ : ∃ Z : List Value, Z.toArray = madeCells #[.int .u8 0] (l0.length + 8) := ⟨_, Array.toArray_toList⟩
  have hZs : Z.length = l0.length + 8 := by have := congrArg Array.size hZ; simpa [size_madeCells] using this
  have hmk := make_lc (P := Tryd.prog) 22 5 .u8 1 Tryd.underlying22 infoU8 l0.length (l0.length + 8) ((l0.length : Int) + 8) (by omega) (by omega) (by omega) (by omega)
  rw [← hZ] at hmk
  have hn8 : n ≤ 8 := by unfold mx mn at hn; split at hn <;> split at hn <;> omega
  obtain ⟨M, hM⟩ : ∃ M : Int, (if (8 : Int) < a1 then 8 else a1) = M := ⟨_, rfl⟩
  have hN : (if (0 : Int) < M then M else 0) = (n : Int) := by rw [← hM]; exact hn
  have HZ := Aside0.mk hZs
  clear hZ hZs
  have HC := Aside0.mk hr0
  clear hn hr0
  go_enter Tryd.func41, Tryd.ntmps41
  go_wp2_with ((with_reducible refine wpList_copy_splice rfl (.tmp 14) (.tmp 15) 22 22 rfl 5 Tryd.underlying22 sizeU8 (some ⟨w.heap.size, 0, none⟩) A0 l0.length (l0.length + 8) l0.length c0 rfl rfl w.heap.size 0 Z 5 ?hg (nums .u8 l0) ?hn ?hpos ?hfit (nums_one _ _) w.heap.size w ((Below.refl _ _).alloc (Nat.le_refl _) _) (Nat.le_refl _) ?_); rotate_left 4; intro w2 HG HB2; have HO := Aside0.mk (own_copied (base := w.heap.size) HZ.out rfl (Nat.le_add_right _ 8) (by omega) (Nat.le_refl _) HG.out); clear HG)
  case hg => exact heap_alloc_new w _
  case hpos =>
    intro hp
    have hx := C_cells (Kd.C_below HC.out ((Below.refl _ _).alloc (Nat.le_refl _) (.cells Z.toArray 5))) (by rwa [nums_length] at hp)
    first | exact ⟨rfl, hx⟩ | exact hx
  case hn => (simp [nums_length])
  case hfit => (have h1 := HZ.out; have h2 := nums_length .u8 l0; omega)
  clear hM hN hmk
  have HL := Aside0.mk hl
  go_loopw [2, 7, 20] (fun x v i wr => ∃ j : Nat, j ≤ n ∧ i = .int .i64 j ∧ x = .int .i64 (sh j a2) ∧ Aside0 (wr.ownsRow w.heap.size 5 1 v (l0 ++ le j a2).length (nums .u8 (l0 ++ le j a2))) ∧ Aside0 (Below w.heap.size w wr)) (fun _ _ i _ => n - (intOf i).toNat)
  case atStart => exact ⟨0, Nat.zero_le _, rfl, rfl, ⟨by simpa [le] using HO.out⟩, ⟨HB2⟩⟩
  case round =>
    clear HO HB2
    obtain ⟨j, hj, rfl, rfl, HO, HB⟩ := hrel
    by_cases hlt : j < n
    · go_wp2_with ((at_builtin; refine print_append_num w.heap.size rfl (.tmp 22) (.tmp 25) 22 5 .u8 1 rfl Tryd.underlying22 infoU8 (by omega) _ (l0 ++ le j a2) _ rfl rfl HO.out HB.out HB.out.size ?hl ?_); (case hl => rw [List.length_append, le_length]; have := HL.out; omega); intro v1 w1 ho hb _ _; have HO1 := Aside0.mk ho; have HB1 := Aside0.mk hb; clear ho hb)
      exact ⟨⟨j + 1, by omega, by go_num, rfl, ⟨by simpa [le, List.append_assoc] using HO1.out⟩, HB1⟩, by simp [intOf]; omega⟩
    · go_wp2
      go_ret
      have : j = n := by omega
      subst this
      exact ⟨_, rfl, Kd.R_of_own HO.out (fun _ _ => trivial), HB.out⟩
/-- The bytes behind l0: as many of a2's as are asked, at most eight. -/
def octet_Put.f (l0 : List Int) (a1 a2 : Int) : Option (List Int) := if l0.length ≤ 1000000000 then some (l0 ++ le (mx 0 (mn a1 8)).toNat a2) else none
theorem mx_nat (a1 : Int) : mx 0 (mn a1 8) = ((mx 0 (mn a1 8)).toNat : Int) := by
  have : 0 ≤ mx 0 (mn a1 8) := by unfold mx; split <;> omega
  omega
theorem octet_Put.calls (A0 : Option Addr) (c0 : Nat) (l0 : List Int) (a1 : Int) (a2 : Int) (r : List Int) (w : World) (hr0 : Kd.C (Kd.int .u8) w A0 l0.length l0) (hc0 : l0.length ≤ c0) (h : octet_Put.f l0 a1 a2 = some r) :
    Calls Tryd.prog 41 #[.slice A0 l0.length c0, .int .i64 a1, .int .i64 a2] w fun e w' => ∃ v0_ : Value, e = .returned (v0_) ∧ Kd.R (Kd.int .u8) 5 w' w.heap.size (fun _ => True) v0_ r ∧ Below w.heap.size w w' := by
  unfold octet_Put.f at h
  split at h
  · rename_i hl
    injection h with h
    subst h
    exact octet_Put_calls A0 c0 l0 a1 a2 _ w hr0 (mx_nat a1) hl
  · cases h
/-- What a text's bytes are: as many as go into a byte's number. -/
def textOf (s : ByteArray) : ByteArray := s.extract 0 (min s.size 255)
set_option maxHeartbeats 1000000 in
theorem octet_Text_calls (A0 : Option Addr) (c0 : Nat) (l0 : List Int) (s : ByteArray) (m : Nat) (w : World) (hr0 : Kd.C (Kd.int .u8) w A0 l0.length l0) (hc0 : l0.length ≤ c0) (hm : m = min s.size 255) (hl : l0.length ≤ 999999000) (hs : s.size ≤ 9223372036854775807) :
    Calls Tryd.prog 39 #[.slice A0 l0.length c0, .string s] w fun e w' => ∃ v0_ : Value, e = .returned v0_ ∧ Kd.R (Kd.int .u8) 5 w' w.heap.size (fun _ => True) v0_ (l0 ++ le 1 (m : Int) ++ bytesOf (s.extract 0 m)) ∧ Below w.heap.size w w' := by
  have hm0 : m ≤ s.size := by omega
  have hm1 : m ≤ 255 := by omega
  have hM : (if (255 : Int) < (s.size : Int) then 255 else (s.size : Int)) = (m : Int) := by split <;> omega
  have hz : (s.extract 0 m).size = m := by simp; omega
  have hmn : (mx 0 (mn 1 8)).toNat = 1 := by decide
  have HP : octet_Put.f l0 1 (m : Int) = some (l0 ++ le 1 (m : Int)) := by unfold octet_Put.f; rw [if_pos (by omega), hmn]
  have HZ := Aside0.mk hz
  have HP := Aside0.mk HP
  have HC := Aside0.mk hr0
  have HL := Aside0.mk hl
  clear hz hr0 hm hl
  go_enter Tryd.func39, Tryd.ntmps39
  go_wp2_with fail
  refine (octet_Put.calls A0 c0 l0 1 (m : Int) _ _ HC.out hc0 HP.out).mono ?_
  rintro e w1 ⟨v1, rfl, ho, hb⟩
  have HO := Aside0.mk ho
  have HB := Aside0.mk hb
  clear ho hb
  go_wp2_with (at_builtin; refine print_append_str (w0 := w) w.heap.size rfl (.tmp 13) _ 22 9 5 rfl Tryd.underlying22 Tryd.underlying9 infoU8 v1 (l0 ++ le 1 (m : Int)) (s.extract 0 m) rfl rfl (Kd.own_of_R HO.out) HB.out HB.out.size ?aL ?_; (case aL => (have h1 := HL.out; have h2 := HZ.out; rw [List.length_append, le_length]; omega)); intro v2 w2 ho hb hg)
  go_ret
  exact ⟨_, rfl, Kd.R_of_own ho (fun _ _ => trivial), hb⟩
def octet_Text.f (l0 : List Int) (s : ByteArray) : Option (List Int) := if l0.length ≤ 999999000 ∧ s.size ≤ 9223372036854775807 then some (l0 ++ le 1 ((min s.size 255 : Nat) : Int) ++ bytesOf (textOf s)) else none
theorem octet_Text.calls (A0 : Option Addr) (c0 : Nat) (l0 : List Int) (a1 : ByteArray) (r : List Int) (w : World) (hr0 : Kd.C (Kd.int .u8) w A0 l0.length l0) (hc0 : l0.length ≤ c0) (h : octet_Text.f l0 a1 = some r) :
    Calls Tryd.prog 39 #[.slice A0 l0.length c0, .string a1] w fun e w' => ∃ v0_ : Value, e = .returned (v0_) ∧ Kd.R (Kd.int .u8) 5 w' w.heap.size (fun _ => True) v0_ r ∧ Below w.heap.size w w' := by
  unfold octet_Text.f at h
  split at h
  · rename_i hl
    injection h with h
    subst h
    exact octet_Text_calls A0 c0 l0 a1 _ w hr0 hc0 rfl hl.1 hl.2
  · cases h
theorem C_const {k : IntKind} (w : World) (e : TypeId) (xs : List Int) (fr : Nat × Nat) (hm : xs.length ≤ 9223372036854775807) : Kd.C (Kd.int k) (w.alloc (.cells (nums k xs).toArray e fr)) (some ⟨w.heap.size, 0, none⟩) xs.length xs := by
  refine ⟨rfl, hm, fun _ => ⟨_, rfl, fun j p hj => ⟨[.int k p], rfl, rfl, fun i u hu => ?_⟩⟩⟩
  have hi : i = 0 := by
    have := (List.getElem?_eq_some_iff.1 hu).1
    simp at this; omega
  subst hi
  simp at hu
  subst hu
  have : ((⟨w.heap.size, 0, none⟩ : Addr).add (j * (Kd.int k).sz + 0)) = ⟨w.heap.size, j, none⟩ := by rw [show j * (Kd.int k).sz + 0 = j from by simp [Kd.int, Kd.scalar]]; exact add_plain _ _
  rw [this]
  have hh : (w.alloc (.cells (nums k xs).toArray e fr)).heap[w.heap.size]? = some (.cells (nums k xs).toArray e fr) := heap_alloc_new w _
  unfold World.cell?
  simp only [hh]
  simp [nums, hj]
end Go.Proofs.YthbcliofjfhmbaaDoor.Given
