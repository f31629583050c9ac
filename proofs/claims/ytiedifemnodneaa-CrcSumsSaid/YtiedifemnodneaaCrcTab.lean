/- The table of the sum of bytes, and a step by it: what they compute, for any state and byte. -/
import Derived.Test.YtiedifemnodneaaPCrcPartsx1
import Derived.Test.YtiedifemnodneaaBlk
import Derived.Laws.CopyOwn
import Derived.Laws.BitsAllLaws
namespace Go.Proofs.Ytiedifemnodneaa
open Go.RowKit Go.Proofs.YtiedifemnodneaaW.PrintWords Go.Proofs.YtiedifemnodneaaW.PrintLast Go.Proofs.YtiedifemnodneaaW.PrintMore Go.Proofs.Ytiedifemnodneaa.PCrcParts
set_option linter.unusedVariables false
set_option linter.unusedSimpArgs false
/-- The table's numbers. -/
def tab : List Int := [0, 498536548, 997073096, 651767980, 1994146192, 1802195444, 1303535960, 1342533948, 3988292384, 4027552580, 3604390888, 3412177804, 2607071920, 2262029012, 2685067896, 3183342108]
theorem half_tab : ∀ i : Nat, i < 16 → crc_half.f 6 i = some (tab.getD i 0) := by decide +kernel
def row (j : Nat) : List Value := nums .u32 (tab.take j ++ List.replicate (16 - j) 0)
theorem row_length (j : Nat) (h : j ≤ 16) : (row j).length = 16 := by simp [row, nums, tab]; omega
theorem row_get (j : Nat) (h : j < 16) : (row j)[j]? = some (.int .u32 0) := by
  rcases (by omega : j = 0 ∨ j = 1 ∨ j = 2 ∨ j = 3 ∨ j = 4 ∨ j = 5 ∨ j = 6 ∨ j = 7 ∨ j = 8 ∨ j = 9 ∨ j = 10 ∨ j = 11 ∨ j = 12 ∨ j = 13 ∨ j = 14 ∨ j = 15) with rfl | rfl | rfl | rfl | rfl | rfl | rfl | rfl | rfl | rfl | rfl | rfl | rfl | rfl | rfl | rfl <;> rfl
theorem row_set (j : Nat) (h : j < 16) : (row j).set j (.int .u32 (tab.getD j 0)) = row (j + 1) := by
  rcases (by omega : j = 0 ∨ j = 1 ∨ j = 2 ∨ j = 3 ∨ j = 4 ∨ j = 5 ∨ j = 6 ∨ j = 7 ∨ j = 8 ∨ j = 9 ∨ j = 10 ∨ j = 11 ∨ j = 12 ∨ j = 13 ∨ j = 14 ∨ j = 15) with rfl | rfl | rfl | rfl | rfl | rfl | rfl | rfl | rfl | rfl | rfl | rfl | rfl | rfl | rfl | rfl <;> rfl
theorem table_calls (w : World) : Calls Try.prog 13 #[] w fun e w' => e = .returned (.agg (nums .u32 tab).toArray) ∧ Below w.heap.size w w' := by
  go_enter Try.func13, Try.ntmps13
  go_wp2_with fail
  go_loopw [3] (fun i wr => ∃ j : Nat, j ≤ 16 ∧ i = .int .i64 j ∧ Aside0 (Blk.Is wr w.heap.size 31 (row 0)) ∧ Aside0 (Blk.Is wr (w.heap.size + 1) 31 (row j)) ∧ Aside0 (Below w.heap.size w wr)) (fun i _ => 16 - (intOf i).toNat)
  case atStart =>
    refine ⟨0, by omega, rfl, ⟨?_⟩, ⟨?_⟩, ⟨?_⟩⟩
    · exact (Blk.Is.new w _ (row 0)).alloc _
    · have := Blk.Is.new (w.alloc (.cells (row 0).toArray 31)) 31 (row 0)
      rwa [show (w.alloc (.cells (row 0).toArray 31)).heap.size = w.heap.size + 1 from by simp] at this
    · exact (((Below.refl _ _).alloc (Nat.le_refl _) _).alloc (by simp) _)
  case round =>
    obtain ⟨j, hj, rfl, H0, H1, HB⟩ := hrel
    by_cases hlt : j < 16
    · go_wp2_with fail
      refine (crc_half.calls 6 j _ _ (half_tab j hlt)).mono ?_
      rintro e w2 ⟨rfl, m, rfl⟩
      have h1 := H1.out.drewN m
      have hc := h1.cell (row_get j hlt)
      have hf := h1.free j
      go_wp2
      have HB' := HB.out
      have hb2 : Below w.heap.size w (wr.drewN m) := pw_below_drewN HB' m
      refine ⟨⟨j + 1, by omega, by go_num, ⟨(H0.out.drewN m).other j _ (by omega)⟩, ⟨?_⟩, ⟨hb2.setCell (p := ⟨w.heap.size + 1, j, none⟩) (by simp) _⟩⟩, by simp [intOf]; omega⟩
      have := h1.set j (.int .u32 (tab.getD j 0))
      rw [row_set j hlt] at this
      simpa using this
    · obtain rfl : j = 16 := by omega
      have h1 : wr.heap[w.heap.size + 1]? = some (.cells (nums .u32 tab).toArray 31 (0, 0)) := H1.out
      have h0 : wr.heap[w.heap.size]? = some (.cells (row 0).toArray 31 (0, 0)) := H0.out
      clear H0 H1
      have hz : (row 0).toArray.size = 16 := rfl
      have hz2 : (nums .u32 tab).toArray.size = 16 := rfl
      have hu := Try.underlying31
      have hi : (Try.prog.info? 31).map (·.size) = some 16 := by kernel_rfl
      have ho : (nums .u32 tab).toArray.all (·.oneCell') = true := by kernel_rfl
      generalize hT : (nums .u32 tab).toArray = T at *
      generalize hR : (row 0).toArray = R at *
      go_wp2_with first
        | (refine wpList_load_row rfl 31 (.tmp 1) rfl (w.heap.size + 1) rfl 31 T (0, 0) _ h1 hu rfl (by rw [hi, hz2]) ?_)
        | (refine wpList_store_row rfl 31 (.tmp 0) (.tmp 12) rfl w.heap.size T rfl rfl 31 R h0 (by rw [hi, hz2]) (by rw [hz, hz2]) ho ?_)
      refine bodyPost_ret (results_cell_row rfl _ _ w.heap.size 31 T (0, 0) _ rfl (setRow_heap wr _ R T _ _ h0) hu rfl (by rw [hi, hz2])) rfl ⟨by rw [hT], below_setRow HB.out (Nat.le_refl _) _⟩
/-- The table, where a step finds it. -/
def Tab (w : World) (g : Nat) : Prop := w.heap[g]? = some (.cells (nums .u32 tab).toArray 31 (0, 0))
theorem tab_get (n : Nat) (h : n < 16) : (nums .u32 tab)[n]? = some (.int .u32 (tab.getD n 0)) := by
  rcases (by omega : n = 0 ∨ n = 1 ∨ n = 2 ∨ n = 3 ∨ n = 4 ∨ n = 5 ∨ n = 6 ∨ n = 7 ∨ n = 8 ∨ n = 9 ∨ n = 10 ∨ n = 11 ∨ n = 12 ∨ n = 13 ∨ n = 14 ∨ n = 15) with rfl | rfl | rfl | rfl | rfl | rfl | rfl | rfl | rfl | rfl | rfl | rfl | rfl | rfl | rfl | rfl <;> rfl
/-- Half a step. -/
def halfStep (s : Int) : Int := Go.bits .xor .u32 (s / 16) (tab.getD (Go.bits .and .u32 s 15).toNat 0)
def stepF (s c : Int) : Int := halfStep (halfStep (Go.bits .xor .u32 s c))
theorem and15 (s : Int) (h : 0 ≤ s ∧ s < 4294967296) : 0 ≤ Go.bits .and .u32 s 15 ∧ Go.bits .and .u32 s 15 < 16 := by
  rw [u32_and s 15 h.1 h.2 (by decide) (by decide)]
  have := Nat.and_le_right (n := s.toNat) (m := (15 : Int).toNat)
  have e : (15 : Int).toNat = 15 := rfl
  rw [e] at this ⊢
  omega
theorem xor_lim (a b : Int) : 0 ≤ Go.bits .xor .u32 a b ∧ Go.bits .xor .u32 a b < 4294967296 := by
  have h1 := bits_lo_u32 .xor a b
  have h2 := bits_hi_u32 .xor a b
  omega
set_option maxRecDepth 100000 in
theorem step_calls (g : Nat) (s c : Int) (w : World) (hT : Tab w g) (hc : 0 ≤ c ∧ c < 256) :
    Calls Try.prog 14 #[.pointer (some ⟨g, 0, none⟩), .int .u32 s, .int .u8 c] w fun e w' => e = .returned (.int .u32 (stepF s c)) ∧ Drawn0 w w' := by
  obtain ⟨r, hr⟩ : ∃ r, r = stepF s c := ⟨_, rfl⟩
  rw [← hr]
  unfold stepF halfStep at hr
  obtain ⟨x0, e0⟩ : ∃ x, Go.bits .xor .u32 s c = x := ⟨_, rfl⟩
  have l0 := xor_lim s c
  rw [e0] at hr l0
  have a0 := and15 x0 l0
  obtain ⟨i0, f0⟩ : ∃ x, Go.bits .and .u32 x0 15 = x := ⟨_, rfl⟩
  rw [f0] at hr a0
  obtain ⟨t0, g0⟩ : ∃ x, tab.getD i0.toNat 0 = x := ⟨_, rfl⟩
  obtain ⟨x1, e1⟩ : ∃ x, Go.bits .xor .u32 (x0 / 16) t0 = x := ⟨_, rfl⟩
  have l1 := xor_lim (x0 / 16) t0
  rw [g0, e1] at hr
  rw [e1] at l1
  have a1 := and15 x1 l1
  obtain ⟨i1, f1⟩ : ∃ x, Go.bits .and .u32 x1 15 = x := ⟨_, rfl⟩
  rw [f1] at hr a1
  obtain ⟨t1, g1⟩ : ∃ x, tab.getD i1.toNat 0 = x := ⟨_, rfl⟩
  rw [g1] at hr
  have hb : Blk.Is w g 31 (nums .u32 tab) := hT
  have c0 := hb.cell (tab_get i0.toNat (by omega))
  have c1 := hb.cell (tab_get i1.toNat (by omega))
  rw [g0] at c0
  rw [g1] at c1
  replace hr := hr.symm
  clear hT hb g0 g1 l0 l1
  go_enter Try.func14, Try.ntmps14
  go_wp2_with fail
  go_ret
  exact ⟨rfl, Drawn0.refl _⟩
theorem Tab.below {w w2 : World} {g : Nat} (h : Tab w g) (hb : Below w.heap.size w w2) : Tab w2 g := Blk.Is.below (xs := nums .u32 tab) h hb
theorem tab_new (w : World) (old : Array Value) (hz : old.size = 16) : Tab ((w.alloc (.cells old 31)).setRow w.heap.size (nums .u32 tab).toArray) w.heap.size := setRow_heap _ _ old _ _ _ (heap_alloc_new w _)
theorem Next_calls (s c : Int) (w : World) (hc : 0 ≤ c ∧ c < 256) : Calls Try.prog 9 #[.int .u32 s, .int .u8 c] w fun e w' => e = .returned (.int .u32 (stepF s c)) ∧ Below w.heap.size w w' := by
  go_enter Try.func9, Try.ntmps9
  go_wp2_with fail
  refine (table_calls w).mono ?_
  rintro e w1 ⟨rfl, hb⟩
  have ho : (nums .u32 tab).toArray.all (·.oneCell') = true := by kernel_rfl
  have hi : (Try.prog.info? 31).map (·.size) = some 16 := by kernel_rfl
  have hz2 : (nums .u32 tab).toArray.size = 16 := rfl
  have hT := fun old hz => tab_new w1 old hz
  have hb2 := fun old hz => tab_new w1 old hz
  generalize hTT : (nums .u32 tab).toArray = T at *
  go_wp2_with (refine wpList_store_row rfl 31 (.tmp 5) (.tmp 6) rfl w1.heap.size T rfl rfl 31 _ (heap_alloc_new w1 _) (by rw [hi, hz2]) hz2.symm ho ?_)
  refine (step_calls w1.heap.size s c _ (by rw [← hTT]; exact tab_new w1 _ rfl) hc).mono ?_
  rintro e w2 ⟨rfl, m, rfl⟩
  go_wp2
  go_ret
  exact ⟨rfl, pw_below_drewN (below_setRow (hb.alloc hb.size _) hb.size _) m⟩
/-- The sum over bytes. -/
def overF (s : Int) (l : List Int) : Int := l.foldl stepF s
set_option maxHeartbeats 1000000 in
theorem Over_calls (A : Option Addr) (c : Nat) (s : Int) (x : List Int) (w : World) (hC : (Kd.int .u8).C w A x.length x) (hle : x.length ≤ c) (hl : x.length ≤ 1000000000) (hx : ∀ a ∈ x, 0 ≤ a ∧ a < 256) :
    Calls Try.prog 7 #[.int .u32 s, .slice A x.length c] w fun e w' => e = .returned (.int .u32 (overF s x)) ∧ Below w.heap.size w w' := by
  have HC := Aside0.mk hC
  have HX := Aside0.mk hx
  clear hC hx
  have ho : (nums .u32 tab).toArray.all (·.oneCell') = true := by kernel_rfl
  have hi : (Try.prog.info? 31).map (·.size) = some 16 := by kernel_rfl
  have hz2 : (nums .u32 tab).toArray.size = 16 := rfl
  obtain ⟨T, hTT⟩ : ∃ T, T = (nums .u32 tab).toArray := ⟨_, rfl⟩
  have hT : ∀ (w1 : World) (old : Array Value), old.size = 16 → Aside0 (Tab ((w1.alloc (.cells old 31)).setRow w1.heap.size T) w1.heap.size) := fun w1 old hz => ⟨by rw [hTT]; exact tab_new w1 old hz⟩
  have HTC := Aside0.mk (fun w => table_calls w)
  rw [← hTT] at ho hz2 HTC
  clear hTT
  go_enter Try.func7, Try.ntmps7
  go_wp2_with fail
  refine (HTC.out w).mono ?_
  rintro e w1 ⟨rfl, hb⟩
  have HB1 := Aside0.mk hb
  clear hb HTC
  go_wp2_with (refine wpList_store_row rfl 31 (.tmp 5) (.tmp 8) rfl w1.heap.size T rfl rfl 31 _ (heap_alloc_new w1 _) (by rw [hi, hz2]) hz2.symm ho ?_)
  go_loopw [0, 11] (fun st i wr => ∃ j : Nat, j ≤ x.length ∧ i = .int .i64 j ∧ st = .int .u32 (overF s (x.take j)) ∧ Aside0 (Tab wr w1.heap.size) ∧ Aside0 (Below w.heap.size w wr)) (fun _ i _ => x.length - (intOf i).toNat)
  case atStart => exact ⟨0, Nat.zero_le _, rfl, rfl, hT w1 _ rfl, ⟨below_setRow (HB1.out.alloc HB1.out.size _) HB1.out.size _⟩⟩
  case round =>
    clear HB1 hT
    obtain ⟨j, hj, rfl, rfl, HT, HB⟩ := hrel
    by_cases hlt : j < x.length
    · have hx1 := HX.out x[j] (List.getElem_mem hlt)
      obtain ⟨ad, rfl, hcs⟩ := Blk.C_cells (Kd.C_below HC.out HB.out) (by omega)
      have hcj := hcs j hlt
      clear hcs
      go_wp2_with fail
      refine (step_calls w1.heap.size (overF s (x.take j)) x[j] wr HT.out hx1).mono ?_
      rintro e w2 ⟨rfl, m, rfl⟩
      go_wp2
      refine ⟨⟨j + 1, by omega, by go_num, ?_, ⟨HT.out.below (pw_below_drewN (Below.refl _ _) m)⟩, ⟨pw_below_drewN HB.out m⟩⟩, by simp [intOf]; omega⟩
      have ht : x.take (j + 1) = x.take j ++ [x[j]] := by rw [List.take_add_one, List.getElem?_eq_getElem hlt]; rfl
      rw [ht]
      unfold overF
      rw [List.foldl_append]
      rfl
    · go_wp2
      go_ret
      refine ⟨?_, HB.out⟩
      rw [List.take_of_length_le (by omega)]
      rfl
theorem stepF_lim (s c : Int) : 0 ≤ stepF s c ∧ stepF s c < 4294967296 := xor_lim _ _
theorem overF_lim (s : Int) (h : 0 ≤ s ∧ s < 4294967296) (l : List Int) : 0 ≤ overF s l ∧ overF s l < 4294967296 := by
  induction l generalizing s with
  | nil => exact h
  | cons a l ih => exact ih _ (stepF_lim s a)
theorem not32 (v : Int) (h : 0 ≤ v ∧ v < 4294967296) : Go.bits .xor .u32 IntKind.u32.max v = 4294967295 - v := by
  rw [show IntKind.u32.max = 4294967295 from by decide, u32_xor _ _ (by decide) (by decide) h.1 h.2]
  obtain ⟨n, rfl⟩ := Int.eq_ofNat_of_zero_le h.1
  have hn : n < 2 ^ 32 := by omega
  have e : (4294967295 : Int).toNat = 2 ^ 32 - 1 := rfl
  rw [e, Int.toNat_natCast]
  have : (2 ^ 32 - 1) ^^^ n = 2 ^ 32 - (n + 1) := by
    apply Nat.eq_of_testBit_eq
    intro i
    rw [Nat.testBit_xor, Nat.testBit_two_pow_sub_one, Nat.testBit_two_pow_sub_succ hn]
    by_cases hi : i < 32
    · simp [hi]
    · simp [hi]
      exact Nat.testBit_lt_two_pow (Nat.lt_of_lt_of_le hn (Nat.pow_le_pow_right (by decide) (by omega)))
  rw [this]
  omega
theorem Of_calls (A : Option Addr) (c : Nat) (x : List Int) (w : World) (hC : (Kd.int .u8).C w A x.length x) (hle : x.length ≤ c) (hl : x.length ≤ 1000000000) (hx : ∀ a ∈ x, 0 ≤ a ∧ a < 256) :
    Calls Try.prog 8 #[.slice A x.length c] w fun e w' => e = .returned (.int .u32 (4294967295 - overF 4294967295 x)) ∧ Below w.heap.size w w' := by
  have HC := Aside0.mk hC
  have HX := Aside0.mk hx
  clear hC hx
  have hn := not32 (overF 4294967295 x) (overF_lim _ (by decide) x)
  go_enter Try.func8, Try.ntmps8
  go_wp2_with fail
  refine (Over_calls A c 4294967295 x w HC.out hle hl HX.out).mono ?_
  rintro e w1 ⟨rfl, hb⟩
  go_wp2
  go_ret
  exact ⟨by rfl, hb⟩
end Go.Proofs.Ytiedifemnodneaa
