/- The contracts of crc.Over, crc.Of and crc.Next as the printed texts call them: any state, any bytes of at most 1000000000. -/
import Derived.Test.YtiedifemnodneaaCrcTab
import Derived.Lib.SlBytesConst
namespace Go.Proofs.Ytiedifemnodneaa.Given
open Go.RowKit Go.Proofs.YtiedifemnodneaaW.PrintWords Go.Proofs.YtiedifemnodneaaW.PrintLast Go.Proofs.YtiedifemnodneaaW.PrintMore Go.Proofs.Ytiedifemnodneaa
set_option linter.unusedVariables false
def okB (l : List Int) : Prop := l.length ≤ 1000000000 ∧ ∀ a ∈ l, 0 ≤ a ∧ a < 256
instance (l : List Int) : Decidable (okB l) := inferInstanceAs (Decidable (l.length ≤ 1000000000 ∧ ∀ a ∈ l, 0 ≤ a ∧ a < 256))
def crc_Over.f (a0 : Int) (l1 : List Int) : Option Int := if okB l1 then some (overF a0 l1) else none
theorem crc_Over.calls (a0 : Int) (A1 : Option Addr) (c1 : Nat) (l1 : List Int) (r : Int) (w : World) (hr1 : Kd.C (Kd.int .u8) w A1 l1.length l1) (hc1 : l1.length ≤ c1) (h : crc_Over.f a0 l1 = some r) :
    Calls Try.prog 7 #[.int .u32 a0, .slice A1 l1.length c1] w fun e w' => e = .returned (.int .u32 r) ∧ Below w.heap.size w w' := by
  unfold crc_Over.f at h
  split at h
  · rename_i ok
    injection h with h
    subst h
    exact Over_calls A1 c1 a0 l1 w hr1 hc1 ok.1 ok.2
  · cases h
def crc_Of.f (l0 : List Int) : Option Int := if okB l0 then some (4294967295 - overF 4294967295 l0) else none
theorem crc_Of.calls (A0 : Option Addr) (c0 : Nat) (l0 : List Int) (r : Int) (w : World) (hr0 : Kd.C (Kd.int .u8) w A0 l0.length l0) (hc0 : l0.length ≤ c0) (h : crc_Of.f l0 = some r) :
    Calls Try.prog 8 #[.slice A0 l0.length c0] w fun e w' => e = .returned (.int .u32 r) ∧ Below w.heap.size w w' := by
  unfold crc_Of.f at h
  split at h
  · rename_i ok
    injection h with h
    subst h
    exact Of_calls A0 c0 l0 w hr0 hc0 ok.1 ok.2
  · cases h
def crc_Next.f (a0 a1 : Int) : Option Int := if 0 ≤ a1 ∧ a1 < 256 then some (stepF a0 a1) else none
theorem crc_Next.calls (a0 a1 : Int) (r : Int) (w : World) (h : crc_Next.f a0 a1 = some r) :
    Calls Try.prog 9 #[.int .u32 a0, .int .u8 a1] w fun e w' => e = .returned (.int .u32 r) ∧ Below w.heap.size w w' := by
  unfold crc_Next.f at h
  split at h
  · rename_i ok
    injection h with h
    subst h
    exact Next_calls a0 a1 w ok
  · cases h
theorem C_const {k : IntKind} (w : World) (e : TypeId) (xs : List Int) (fr : Nat × Nat) (hm : xs.length ≤ 9223372036854775807) : Kd.C (Kd.int k) (w.alloc (.cells (nums k xs).toArray e fr)) (some ⟨w.heap.size, 0, none⟩) xs.length xs := by
  refine ⟨rfl, hm, fun _ => ⟨_, rfl, fun j p hj => ⟨[.int k p], rfl, rfl, fun i u hu => ?_⟩⟩⟩
  have hi : i = 0 := by
    have := (List.getElem?_eq_some_iff.1 hu).1
    simp at this; omega
  subst hi
  simp at hu
  subst hu
  have : ((⟨w.heap.size, 0, none⟩ : Addr).add (j * (Kd.int k).sz + 0)) = ⟨w.heap.size, j, none⟩ := by rw [show j * (Kd.int k).sz + 0 = j from by simp [Kd.int, Kd.scalar]]; exact add_plain _ _
  rw [this]
  have hh : (w.alloc (.cells (nums k xs).toArray e fr)).heap[w.heap.size]? = some (.cells (nums k xs).toArray e fr) := heap_alloc_new w _
  unfold World.cell?
  simp only [hh]
  simp [nums, hj]
theorem digits_sum : 4294967295 - overF 4294967295 [49, 50, 51, 52, 53, 54, 55, 56, 57] = 3421780262 := by decide +kernel
def ladderbacklaw02_awake.f : Option Bool := some true
theorem ladderbacklaw02_awake.calls (r : Bool) (w : World) (h : ladderbacklaw02_awake.f = some r) :
    Calls Try.prog 6 #[] w fun e w' => e = .returned (.bool r) ∧ Below w.heap.size w w' := by
  obtain rfl := Option.some.inj h
  clear h
  have kc := fun (w : World) (C : Array Value) (n c : Nat) => Lib.run_convert_bytes_const (P := Try.prog) w 23 5 C n c Try.underlying23 Try.underlying5
  go_enter Try.func6, Try.ntmps6
  go_wp2_with fail
  refine (Of_calls _ 9 [49, 50, 51, 52, 53, 54, 55, 56, 57] _ (C_const w 5 _ _ (by decide)) (by decide) (by decide) (by decide)).mono ?_
  rintro e w1 ⟨rfl, hb⟩
  rw [digits_sum]
  go_wp2
  go_ret
  exact ⟨rfl, ((Below.refl _ _).alloc (Nat.le_refl _) _).trans (hb.mono (by simp))⟩
end Go.Proofs.Ytiedifemnodneaa.Given
