/- Two readers at once: each one's contracts taken over the world cut to the blocks below it. -/
import Derived.OrdersHeld
import Derived.Deep.RegionHeld3
import Derived.Laws.BitsLemmas
import Derived.RowKit
import Derived.Test.YtaefdfnhibmgdaaProg
import Derived.Laws.CopyOwn
import Derived.Lib.SlBytesConst
import Derived.Deep.QuietTactic
import Derived.BigQuiet
import Derived.IntWalk
import Derived.Test.YtaefdfnhibmgdaaZTabBlocksaa
section
-- PRINTED BY print.sh 35421559b90ae4d0a3588c463048766b98c2df88dd9212a6774a882060cdf62d: not written by this session
/-
  PRINTED WORDS, second file: A REGION THAT DRAWS ITS ORDER, WALKED BY HAND, where its last store writes what its own loads read ('x.f = append(x.f, f(i))'). Plain theorems; no macro, no elab. A claim may hold it (turn the namespace's name).
  A load may be taken first in every world that meets S; behind the operations of ds nothing is shown; sound because each of ds waits for what is taken (Region.lastB). The kernel checks it.
  By an AI agent of Go's test side, Mon Nov 16 2026. No person has read it.
-/
namespace Go.Proofs.YtaefdfnhibmgdaaW.PrintLast

section
variable {P : Program} {ops : Array Oper} {Q : Exit → Act → World → Prop} {md : Region.Mode} {S : World → Prop} {ds : List Nat}

/-- Operation d waits for operation i, by a chain of at most 'fuel' edges. -/
def Region.reachB (md : Region.Mode) (ops : Array Oper) (i : Nat) : Nat → Nat → Bool
  | 0, _ => false
  | fuel + 1, d => match ops[d]? with
    | some o => o.after.any fun e => Region.binds md e && (e.on == i || Region.reachB md ops i fuel e.on)
    | none => false

/-- What is listed is closed under the edges. -/
def Region.closedB (md : Region.Mode) (ops : Array Oper) (listed : Array Bool) : Bool :=
  (List.range ops.size).all fun j => !listed.getD j false || match ops[j]? with
    | some o => o.after.all fun e => !Region.binds md e || listed.getD e.on false
    | none => true

/-- Each of ds that has not come up yet waits for number i. -/
def Region.lastB (md : Region.Mode) (ops : Array Oper) (listed : Array Bool) (ds : List Nat) (i : Nat) : Bool :=
  ds.all fun d => listed.getD d true || Region.reachB md ops i ops.size d

def ListedClosed (md : Region.Mode) (ops : Array Oper) (listed : Array Bool) : Prop :=
  ∀ j oj, ops[j]? = some oj → listed.getD j false = true → ∀ e ∈ oj.after, Region.binds md e = true → listed.getD e.on false = true

theorem Region.closedB_spec {listed : Array Bool} (h : Region.closedB md ops listed = true) : ListedClosed md ops listed := by
  intro j oj hj hl e he hb
  have hlt : j < ops.size := (Array.getElem?_eq_some_iff.1 hj).1
  have h1 := List.all_eq_true.1 h j (List.mem_range.2 hlt)
  simp only [hl, hj, Bool.not_true, Bool.false_or] at h1
  have h2 := Array.all_eq_true_iff_forall_mem.1 h1 e he
  simpa [hb] using h2

theorem ListedClosed.set {listed : Array Bool} {i : Nat} (h : ListedClosed md ops listed) (hi : i ∈ Region.ready md ops listed) : ListedClosed md ops (listed.setIfInBounds i true) := by
  obtain ⟨_, oi, hoi, hall⟩ := mem_ready.1 hi
  intro j oj hj hl e he hb
  by_cases hij : i = j
  · subst hij
    have : oj = oi := Option.some.inj (hj.symm.trans hoi)
    subst this
    exact getD_set_true (hall e he hb)
  · rw [getD_set_ne false hij] at hl
    exact getD_set_true (h j oj hj hl e he hb)

theorem Region.reach_listed {listed : Array Bool} {i : Nat} (hc : ListedClosed md ops listed) : ∀ (fuel d : Nat), Region.reachB md ops i fuel d = true → listed.getD d false = true → listed.getD i false = true
  | 0, _, h, _ => by simp [Region.reachB] at h
  | fuel + 1, d, h, hl => by
    unfold Region.reachB at h
    cases ho : ops[d]? with
    | none => rw [ho] at h; simp at h
    | some o =>
      rw [ho] at h
      obtain ⟨e, he, h1⟩ := Array.any_eq_true'.1 h
      simp only [Bool.and_eq_true, Bool.or_eq_true, beq_iff_eq] at h1
      have hle := hc d o ho hl e he h1.1
      rcases h1.2 with h2 | h2
      · rw [← h2]; exact hle
      · exact Region.reach_listed hc fuel e.on h2 hle

/-- What waits for i cannot come up before i is listed. -/
theorem Region.reach_not_ready {listed : Array Bool} {i d fuel : Nat} (hc : ListedClosed md ops listed) (hr : Region.reachB md ops i fuel d = true) (hun : listed.getD i true = false) : d ∉ Region.ready md ops listed := by
  intro hd
  obtain ⟨_, o, ho, hall⟩ := mem_ready.1 hd
  have hi : listed.getD i false = true := by
    cases fuel with
    | zero => simp [Region.reachB] at hr
    | succ n =>
      unfold Region.reachB at hr
      rw [ho] at hr
      obtain ⟨e, he, h1⟩ := Array.any_eq_true'.1 hr
      simp only [Bool.and_eq_true, Bool.or_eq_true, beq_iff_eq] at h1
      have hle := hall e he h1.1
      rcases h1.2 with h2 | h2
      · rw [← h2]; exact hle
      · exact Region.reach_listed hc n e.on h2 hle
  rcases Nat.lt_or_ge i listed.size with h' | h'
  · simp [h'] at hun hi
    rw [hun] at hi
    cases hi
  · simp [Array.getElem?_eq_none h'] at hun

/-- Whatever order is picked from here on, AND 'S' HOLDS BEHIND EVERY OPERATION THAT IS CARRIED OUT, those of ds apart. -/
def wpAnyLast (P : Program) (md : Region.Mode) (ops : Array Oper) (Q : Exit → Act → World → Prop) (S : World → Prop) (ds : List Nat) : Nat → Array Bool → Act → World → Prop
  | 0, listed, a, w => Region.ready md ops listed = [] ∧ Q .normal a w
  | fuel + 1, listed, a, w =>
    (Region.ready md ops listed = [] → Q .normal a w) ∧
    ∀ i ∈ Region.ready md ops listed, wpOp P ops Q i (fun a' w' => (i ∉ ds → S w → S w') ∧ wpAnyLast P md ops Q S ds fuel (listed.setIfInBounds i true) a' w') a w

theorem wpAny_of_last : ∀ (fuel : Nat) (listed : Array Bool) (a : Act) (w : World), wpAnyLast P md ops Q S ds fuel listed a w → wpAny P md ops Q fuel listed a w
  | 0, _, _, _, h => h
  | fuel + 1, _, _, _, h => ⟨h.1, fun i hi => wpOp_mono (fun a' w' h' => wpAny_of_last fuel _ a' w' h'.2) (h.2 i hi)⟩

theorem wpAnyLast_first {i : Nat} {oi : Oper} {v : Value} (hi : ops[i]? = some oi) (hsel : ∀ (j : Nat) (o : Oper) cs b, ops[j]? = some o → o.op ≠ .select cs b)
    (hQ : ∀ c a w, Q (.panic c) (a.put oi.dst v) w → Q (.panic c) a w) (n : Nat) :
    ∀ (fuel : Nat) (listed : Array Bool) (a : Act) (w : World),
      (∀ j oj, ops[j]? = some oj → j ≠ i → listed.getD j true = false → (∀ e ∈ oj.after, Region.binds md e = true → e.on ≠ i) → oi.apart ops oj = true) →
      ListedClosed md ops listed → (∀ d ∈ ds, listed.getD d true = false → Region.reachB md ops i n d = true) →
      i ∈ Region.ready md ops listed → YieldsIf P ops S oi v a → S w →
      wpAnyLast P md ops Q S ds fuel (listed.setIfInBounds i true) (a.put oi.dst v) w → wpAnyLast P md ops Q S ds (fuel + 1) listed a w := by
  intro fuel
  induction fuel with
  | zero =>
    intro listed a w _ _ _ hr hy hS H
    refine ⟨fun h => (by rw [h] at hr; cases hr), fun j hj => ?_⟩
    by_cases hji : j = i
    · subst hji; exact hy.wpOp hi hS ⟨fun _ h => h, H⟩
    · have := ready_mono hj hji
      rw [H.1] at this
      cases this
  | succ fuel ih =>
    intro listed a w hfree hc hd hr hy hS H
    refine ⟨fun h => (by rw [h] at hr; cases hr), fun j hj => ?_⟩
    by_cases hji : j = i
    · subst hji; exact hy.wpOp hi hS ⟨fun _ h => h, H⟩
    · have h1 := H.2 j (ready_mono hj hji)
      obtain ⟨hjun, oj, hoj, hall⟩ := mem_ready.1 hj
      have hiun := (mem_ready.1 hr).1
      have hnot : ∀ e ∈ oj.after, Region.binds md e = true → e.on ≠ i := fun e he hb heq => by
        have h1 := hall e he hb
        rw [heq] at h1
        rcases Nat.lt_or_ge i listed.size with h' | h'
        · simp [h'] at hiun h1; rw [hiun] at h1; cases h1
        · simp [Array.getElem?_eq_none h'] at h1
      have hjd : j ∉ ds := fun hm => Region.reach_not_ready hc (hd j hm hjun) hiun hj
      have h2 := wpOp_putIf hoj (hfree j oj hoj hji hjun hnot) (fun cs b => hsel i oi cs b hi) (fun cs b => hsel j oj cs b hoj) hQ hy h1
      have hfree' : ∀ k ok, ops[k]? = some ok → k ≠ i → (listed.setIfInBounds j true).getD k true = false →
          (∀ e ∈ ok.after, Region.binds md e = true → e.on ≠ i) → oi.apart ops ok = true := fun k ok hk hki hun hno => by
        refine hfree k ok hk hki ?_ hno
        by_cases hjk : j = k
        · subst hjk; exact hjun
        · rw [getD_set_ne true hjk] at hun; exact hun
      have hd' : ∀ d ∈ ds, (listed.setIfInBounds j true).getD d true = false → Region.reachB md ops i n d = true := fun d hm hun => by
        refine hd d hm ?_
        by_cases hjk : j = d
        · subst hjk; exact hjun
        · rw [getD_set_ne true hjk] at hun; exact hun
      refine wpOp_mono (fun a' w' h3 => ⟨h3.2.1, ih (listed.setIfInBounds j true) a' w' hfree' (hc.set hj) hd' (ready_mono hr (Ne.symm hji)) h3.1 (h3.2.1 hjd hS) ?_⟩) h2
      rw [Array.setIfInBounds_comm _ _ hji]
      exact h3.2.2

/-- Take number 'i' first, which yields whatever the world: no S is asked for, nor that anything waits for it. -/
theorem wpAnyLast_any {i : Nat} {oi : Oper} {v : Value} (hi : ops[i]? = some oi) (hsel : ∀ (j : Nat) (o : Oper) cs b, ops[j]? = some o → o.op ≠ .select cs b)
    (hQ : ∀ c a w, Q (.panic c) (a.put oi.dst v) w → Q (.panic c) a w) :
    ∀ (fuel : Nat) (listed : Array Bool) (a : Act) (w : World),
      (∀ j oj, ops[j]? = some oj → j ≠ i → listed.getD j true = false → (∀ e ∈ oj.after, Region.binds md e = true → e.on ≠ i) → oi.apart ops oj = true) →
      i ∈ Region.ready md ops listed → Yields P ops oi v a →
      wpAnyLast P md ops Q S ds fuel (listed.setIfInBounds i true) (a.put oi.dst v) w → wpAnyLast P md ops Q S ds (fuel + 1) listed a w := by
  intro fuel
  induction fuel with
  | zero =>
    intro listed a w _ hr hy H
    refine ⟨fun h => (by rw [h] at hr; cases hr), fun j hj => ?_⟩
    by_cases hji : j = i
    · subst hji; exact (hy.yieldsIf (S := fun _ => True)).wpOp hi trivial ⟨fun _ h => h, H⟩
    · have := ready_mono hj hji
      rw [H.1] at this
      cases this
  | succ fuel ih =>
    intro listed a w hfree hr hy H
    refine ⟨fun h => (by rw [h] at hr; cases hr), fun j hj => ?_⟩
    by_cases hji : j = i
    · subst hji; exact (hy.yieldsIf (S := fun _ => True)).wpOp hi trivial ⟨fun _ h => h, H⟩
    · have h1 := H.2 j (ready_mono hj hji)
      obtain ⟨hjun, oj, hoj, hall⟩ := mem_ready.1 hj
      have hiun := (mem_ready.1 hr).1
      have hnot : ∀ e ∈ oj.after, Region.binds md e = true → e.on ≠ i := fun e he hb heq => by
        have h1 := hall e he hb
        rw [heq] at h1
        rcases Nat.lt_or_ge i listed.size with h' | h'
        · simp [h'] at hiun h1; rw [hiun] at h1; cases h1
        · simp [Array.getElem?_eq_none h'] at h1
      have h2 := wpOp_put hoj (hfree j oj hoj hji hjun hnot) (fun cs b => hsel i oi cs b hi) (fun cs b => hsel j oj cs b hoj) hQ hy h1
      have hfree' : ∀ k ok, ops[k]? = some ok → k ≠ i → (listed.setIfInBounds j true).getD k true = false →
          (∀ e ∈ ok.after, Region.binds md e = true → e.on ≠ i) → oi.apart ops ok = true := fun k ok hk hki hun hno => by
        refine hfree k ok hk hki ?_ hno
        by_cases hjk : j = k
        · subst hjk; exact hjun
        · rw [getD_set_ne true hjk] at hun; exact hun
      refine wpOp_mono (fun a' w' h3 => ⟨h3.2.1, ih (listed.setIfInBounds j true) a' w' hfree' (ready_mono hr (Ne.symm hji)) h3.1 ?_⟩) h2
      rw [Array.setIfInBounds_comm _ _ hji]
      exact h3.2.2

/-- Take number 'i' first. -/
theorem wpAnyLast_take {i : Nat} {oi : Oper} {v : Value} {fuel : Nat} {listed : Array Bool} {a : Act} {w : World} (hi : ops[i]? = some oi)
    (hs : Region.noSelect ops = true) (hf : Region.free md ops listed i = true) (hr : (Region.ready md ops listed).contains i = true)
    (hc : Region.closedB md ops listed = true) (hl : Region.lastB md ops listed ds i = true)
    (hQ : ∀ c a w, Q (.panic c) (a.put oi.dst v) w → Q (.panic c) a w) (hy : YieldsIf P ops S oi v a) (hS : S w)
    (h : wpAnyLast P md ops Q S ds fuel (listed.setIfInBounds i true) (a.put oi.dst v) w) : wpAnyLast P md ops Q S ds (fuel + 1) listed a w :=
  wpAnyLast_first hi (Region.noSelect_spec hs) hQ ops.size fuel listed a w (Region.free_spec hi hf) (Region.closedB_spec hc)
    (fun d hm hun => by have := List.all_eq_true.1 hl d hm; rw [hun] at this; simpa using this) (by simpa using hr) hy hS h

theorem wpAnyLast_all {rs : List Nat} {fuel : Nat} {listed : Array Bool} {a : Act} {w : World} (hr : Region.ready md ops listed = rs) (hne : rs ≠ [])
    (h : ∀ i ∈ rs, wpOp P ops Q i (fun a' w' => (i ∉ ds → S w → S w') ∧ wpAnyLast P md ops Q S ds fuel (listed.setIfInBounds i true) a' w') a w) : wpAnyLast P md ops Q S ds (fuel + 1) listed a w :=
  ⟨fun h0 => absurd (hr ▸ h0) hne, hr ▸ h⟩

theorem wpAnyLast_done {listed : Array Bool} {a : Act} {w : World} (hr : Region.ready md ops listed = []) (h : Q .normal a w) :
    ∀ fuel, wpAnyLast P md ops Q S ds fuel listed a w
  | 0 => ⟨hr, h⟩
  | _ + 1 => ⟨fun _ => h, by rw [hr]; simp⟩

theorem wp_region_last {id : Nat} {a : Act} {w : World} (hm : P.follows .mixedOrders = true)
    (h : wpAnyLast P .any ops Q S ds ops.size (Array.replicate ops.size false) a { w with drawn := w.drawn + 1 }) : (Code.region id ops true).wp P Q a w :=
  wp_region_any hm (wpAny_of_last _ _ _ _ h)

end

section
variable {P : Program} {ops : Array Oper} {Q : Exit → Act → World → Prop} {md : Region.Mode} {S : World → Prop} {ds : List Nat}

def AllReadyL (P : Program) (md : Region.Mode) (ops : Array Oper) (Q : Exit → Act → World → Prop) (S : World → Prop) (ds : List Nat) (fuel : Nat) (listed : Array Bool) (a : Act) (w : World) (rs : List Nat) : Prop :=
  ∀ i ∈ rs, wpOp P ops Q i (fun a' w' => (i ∉ ds → S w → S w') ∧ wpAnyLast P md ops Q S ds fuel (listed.setIfInBounds i true) a' w') a w
theorem AllReadyL.nil {fuel : Nat} {listed : Array Bool} {a : Act} {w : World} : AllReadyL P md ops Q S ds fuel listed a w [] := fun _ h => by cases h
theorem AllReadyL.cons {fuel : Nat} {listed : Array Bool} {a : Act} {w : World} {i : Nat} {o : Oper} {rs : List Nat} (ho : ops[i]? = some o) (hd : i ∉ ds)
    (h : ∀ K' : Act → World → Prop, Shut (∀ a w, S w → (S w → wpAnyLast P md ops Q S ds fuel (listed.setIfInBounds i true) a w) → K' a w) → if Region.wanted o (yielded ops a.tmps) = true then Oper.wp P o a w K' Q else K' (a.put o.dst undef) w)
    (hs : AllReadyL P md ops Q S ds fuel listed a w rs) : AllReadyL P md ops Q S ds fuel listed a w (i :: rs) := fun j hj => by
  rcases List.mem_cons.1 hj with rfl | hj
  · exact wpOp_step ho (fun K' hK => h K' (fun a w hS hW => hK a w ⟨fun _ _ => hS, hW hS⟩))
  · exact hs j hj
theorem wpAnyLast_ready {rs : List Nat} {fuel : Nat} {listed : Array Bool} {a : Act} {w : World} (hr : Region.ready md ops listed = rs) (hne : rs ≠ [])
    (h : AllReadyL P md ops Q S ds fuel listed a w rs) : wpAnyLast P md ops Q S ds (fuel + 1) listed a w := wpAnyLast_all hr hne h
/-- THE SAME STEPS WITH WHAT HAS COME UP WRITTEN OUT (a literal array of Bools) and one check a step: quicker, and what is printed stays short. -/
theorem start_ {id n : Nat} {a : Act} {w : World} (l : Array Bool) (hm : P.follows .mixedOrders = true) (hn : ops.size = n) (hl : Array.replicate n false = l) (hS : S w.drew)
    (h : S w.drew → wpAnyLast P .any ops Q S ds n l a w.drew) : (Code.region id ops true).wp P Q a w := by
  subst hn
  subst hl
  exact wp_region_last hm (h hS)
def takeB (md : Region.Mode) (ops : Array Oper) (ds : List Nat) (l l' : Array Bool) (i : Nat) : Bool :=
  Region.noSelect ops && Region.free md ops l i && (Region.ready md ops l).contains i && Region.closedB md ops l && Region.lastB md ops l ds i && (l.setIfInBounds i true == l')
theorem take_ {i : Nat} {N : Option Tmp} {oi : Oper} {v : Value} {fuel : Nat} {l : Array Bool} {a : Act} {w : World} (l' : Array Bool) (hi : ops[i]? = some oi) (hN : oi.dst = N) (hc : takeB md ops ds l l' i = true)
    (hQ : ∀ c a w, Q (.panic c) (a.put oi.dst v) w → Q (.panic c) a w) (hy : YieldsIf P ops S oi v a) (hS : S w) {a' : Act} (ha : a.put N v = a')
    (h : wpAnyLast P md ops Q S ds fuel l' a' w) : wpAnyLast P md ops Q S ds (fuel + 1) l a w := by
  subst ha
  subst hN
  simp only [takeB, Bool.and_eq_true, beq_iff_eq] at hc
  obtain ⟨⟨⟨⟨⟨h1, h2⟩, h3⟩, h4⟩, h5⟩, h6⟩ := hc
  subst h6
  exact wpAnyLast_take hi h1 h2 h3 h4 h5 hQ hy hS h
def anyB (md : Region.Mode) (ops : Array Oper) (l l' : Array Bool) (i : Nat) : Bool :=
  Region.noSelect ops && Region.free md ops l i && (Region.ready md ops l).contains i && (l.setIfInBounds i true == l')
/-- An operation that yields in every world (a move, a number, an address): taken first wherever it may come up, behind a store too. -/
theorem pure_ {i : Nat} {N : Option Tmp} {oi : Oper} {v : Value} {fuel : Nat} {l : Array Bool} {a : Act} {w : World} (l' : Array Bool) (hi : ops[i]? = some oi) (hN : oi.dst = N) (hc : anyB md ops l l' i = true)
    (hQ : ∀ c a w, Q (.panic c) (a.put oi.dst v) w → Q (.panic c) a w) (hy : Yields P ops oi v a) {a' : Act} (ha : a.put N v = a')
    (h : wpAnyLast P md ops Q S ds fuel l' a' w) : wpAnyLast P md ops Q S ds (fuel + 1) l a w := by
  subst ha
  subst hN
  simp only [anyB, Bool.and_eq_true, beq_iff_eq] at hc
  obtain ⟨⟨⟨h1, h2⟩, h3⟩, h6⟩ := hc
  subst h6
  exact wpAnyLast_any hi (Region.noSelect_spec h1) hQ fuel l a w (Region.free_spec hi h2) (by simpa using h3) hy h
def readyB (md : Region.Mode) (ops : Array Oper) (l l' : Array Bool) (i : Nat) : Bool := (Region.ready md ops l == [i]) && (l.setIfInBounds i true == l')
/-- One operation alone may come up now (a call, a build, an append ..): it is run, S is shown behind it. -/
theorem one_ {i : Nat} {N : Option Tmp} {oi : Oper} {fuel : Nat} {l : Array Bool} {a : Act} {w : World} (l' : Array Bool) (hi : ops[i]? = some oi) (hN : oi.dst = N) (hc : readyB md ops l l' i = true) (hd : i ∉ ds)
    (h : ∀ K : Act → World → Prop, Shut (∀ a' w', S w' → (S w' → wpAnyLast P md ops Q S ds fuel l' a' w') → K a' w') → if Region.wanted oi (yielded ops a.tmps) = true then Oper.wp P oi a w K Q else K (a.put N undef) w) :
    wpAnyLast P md ops Q S ds (fuel + 1) l a w := by
  subst hN
  simp only [readyB, Bool.and_eq_true, beq_iff_eq] at hc
  obtain ⟨h1, h2⟩ := hc
  subst h2
  exact wpAnyLast_ready h1 (by simp) (AllReadyL.cons hi hd (fun K hK => h K hK) AllReadyL.nil)
theorem done_ {l : Array Bool} {a : Act} {w : World} {n : Nat} (hr : (Region.ready md ops l == []) = true) (h : Q .normal a w) : wpAnyLast P md ops Q S ds n l a w := wpAnyLast_done (by simpa using hr) h n
/-! ### Several operations that write or call may come up: each order is walked, what follows is shown once (join_) -/
theorem two_ {i j : Nat} {Ni Nj : Option Tmp} {oi oj : Oper} {fuel : Nat} {l : Array Bool} {a : Act} {w : World} (li lj : Array Bool) (hi : ops[i]? = some oi) (hj : ops[j]? = some oj) (hNi : oi.dst = Ni) (hNj : oj.dst = Nj)
    (hc : (Region.ready md ops l == [i, j] && l.setIfInBounds i true == li && l.setIfInBounds j true == lj) = true) (hdi : i ∉ ds) (hdj : j ∉ ds)
    (h1 : ∀ K : Act → World → Prop, Shut (∀ a' w', S w' → (S w' → wpAnyLast P md ops Q S ds fuel li a' w') → K a' w') → if Region.wanted oi (yielded ops a.tmps) = true then Oper.wp P oi a w K Q else K (a.put Ni undef) w)
    (h2 : ∀ K : Act → World → Prop, Shut (∀ a' w', S w' → (S w' → wpAnyLast P md ops Q S ds fuel lj a' w') → K a' w') → if Region.wanted oj (yielded ops a.tmps) = true then Oper.wp P oj a w K Q else K (a.put Nj undef) w) :
    wpAnyLast P md ops Q S ds (fuel + 1) l a w := by
  subst hNi
  subst hNj
  simp only [Bool.and_eq_true, beq_iff_eq] at hc
  obtain ⟨⟨h3, h4⟩, h5⟩ := hc
  subst h4
  subst h5
  exact wpAnyLast_ready h3 (by simp) (AllReadyL.cons hi hdi (fun K hK => h1 K hK) (AllReadyL.cons hj hdj (fun K hK => h2 K hK) AllReadyL.nil))
theorem three_ {i j k : Nat} {Ni Nj Nk : Option Tmp} {oi oj ok : Oper} {fuel : Nat} {l : Array Bool} {a : Act} {w : World} (li lj lk : Array Bool) (hi : ops[i]? = some oi) (hj : ops[j]? = some oj) (hk : ops[k]? = some ok) (hNi : oi.dst = Ni) (hNj : oj.dst = Nj) (hNk : ok.dst = Nk)
    (hc : (Region.ready md ops l == [i, j, k] && l.setIfInBounds i true == li && l.setIfInBounds j true == lj && l.setIfInBounds k true == lk) = true) (hdi : i ∉ ds) (hdj : j ∉ ds) (hdk : k ∉ ds)
    (h1 : ∀ K : Act → World → Prop, Shut (∀ a' w', S w' → (S w' → wpAnyLast P md ops Q S ds fuel li a' w') → K a' w') → if Region.wanted oi (yielded ops a.tmps) = true then Oper.wp P oi a w K Q else K (a.put Ni undef) w)
    (h2 : ∀ K : Act → World → Prop, Shut (∀ a' w', S w' → (S w' → wpAnyLast P md ops Q S ds fuel lj a' w') → K a' w') → if Region.wanted oj (yielded ops a.tmps) = true then Oper.wp P oj a w K Q else K (a.put Nj undef) w)
    (h3 : ∀ K : Act → World → Prop, Shut (∀ a' w', S w' → (S w' → wpAnyLast P md ops Q S ds fuel lk a' w') → K a' w') → if Region.wanted ok (yielded ops a.tmps) = true then Oper.wp P ok a w K Q else K (a.put Nk undef) w) :
    wpAnyLast P md ops Q S ds (fuel + 1) l a w := by
  subst hNi
  subst hNj
  subst hNk
  simp only [Bool.and_eq_true, beq_iff_eq] at hc
  obtain ⟨⟨⟨h4, h5⟩, h6⟩, h7⟩ := hc
  subst h5
  subst h6
  subst h7
  exact wpAnyLast_ready h4 (by simp) (AllReadyL.cons hi hdi (fun K hK => h1 K hK) (AllReadyL.cons hj hdj (fun K hK => h2 K hK) (AllReadyL.cons hk hdk (fun K hK => h3 K hK) AllReadyL.nil)))
/-- The act with some destinations filled. -/
def putAll : Act → List (Tmp × Value) → Act
  | a, [] => a
  | a, (n, v) :: r => putAll (a.put (some n) v) r
/-- What follows, once: s the values that the orders leave, F what is known of them and of the world. -/
theorem join_ {σ : Type} {fuel : Nat} {l : Array Bool} {a : Act} {w : World} (fuel' : Nat) (l' : Array Bool) (ns : σ → List (Tmp × Value)) (F : σ → World → Prop)
    (hcont : ∀ s w', F s w' → wpAnyLast P md ops Q S ds fuel' l' (putAll a (ns s)) w')
    (h : (∀ s w', F s w' → wpAnyLast P md ops Q S ds fuel' l' (putAll a (ns s)) w') → wpAnyLast P md ops Q S ds fuel l a w) : wpAnyLast P md ops Q S ds fuel l a w := h hcont
/-- The act written out. -/
theorem norm_ {fuel : Nat} {l : Array Bool} {a a' : Act} {w : World} (ha : a = a') (h : wpAnyLast P md ops Q S ds fuel l a' w) : wpAnyLast P md ops Q S ds fuel l a w := by
  subst ha
  exact h
/-- A call of a Go function, by its contract. -/
theorem call_ {oi : Oper} {N : Option Tmp} {a : Act} {w : World} {K : Act → World → Prop} (f : FuncId) (args : Array Value) (hw : Region.wanted oi (yielded ops a.tmps) = true) (hN : oi.dst = N) (hrun : (execOp a.eval oi).run P w = .ok (.enter f args) w)
    (h : Calls P f args w fun e w' => ∃ v, e = .returned v ∧ K (a.put N v) w') : if Region.wanted oi (yielded ops a.tmps) = true then Oper.wp P oi a w K Q else K (a.put N undef) w := by
  rw [if_pos hw]
  subst hN
  unfold Oper.wp
  rw [hrun, Oper.upon_enter]
  refine h.mono fun e w'' hh => ?_
  obtain ⟨v, rfl, hk⟩ := hh
  exact hk
theorem enters_ {f : FuncId} {fn : Func} (hf : P.funcs[f]? = some fn) (hname : (fn.name == "runtime.NumGoroutine") = false) (hb : fn.body.isSome = true) (args : Array Value) (w : World) : (callFunc f args).run P w = .ok (.enter f args) w := by
  have h1 : fn.name ≠ "runtime.NumGoroutine" := by simpa using hname
  obtain ⟨c, hc⟩ := Option.isSome_iff_exists.1 hb
  simp [callFunc, hf, h1, hc]
/-- The same, the operation's run shown here: 'goes_ A.func3 (by kernel_rfl) rfl #[..] (by rfl) rfl rfl (by rfl) ?_'. -/
theorem goes_ {oi : Oper} {N : Option Tmp} {a : Act} {w : World} {K : Act → World → Prop} {f : FuncId} {fn : Func} {as_ : Array Operand} {ts : Array TypeId} (hf : P.funcs[f]? = some fn) (hname : (fn.name == "runtime.NumGoroutine") = false) (hb : fn.body.isSome = true) (args : Array Value)
    (hw : Region.wanted oi (yielded ops a.tmps) = true) (hN : oi.dst = N) (hop : oi.op = .call { callee := .value (.func f), args := as_, argTypes := ts }) (hargs : as_.map a.eval = args)
    (h : Calls P f args w fun e w' => ∃ v, e = .returned v ∧ K (a.put N v) w') : if Region.wanted oi (yielded ops a.tmps) = true then Oper.wp P oi a w K Q else K (a.put N undef) w := by
  refine call_ f args hw hN ?_ h
  have he := enters_ hf hname hb args w
  unfold execOp
  simp [hop, resolve, Deferred.ofValue, invoke, Act.eval, hargs, he]
/-- A call in a plain region, as an arm of go_wp2_with ('hd' first: it fails at once at another operation). -/
theorem goesL_ {rest : List Oper} {oi : Oper} {a : Act} {w : World} (N : Option Tmp) (hd : oi.dst = N) (hg : oi.guard = none) {f : FuncId} {fn : Func} {as_ : Array Operand} {ts : Array TypeId} (hf : P.funcs[f]? = some fn) (hname : (fn.name == "runtime.NumGoroutine") = false) (hb : fn.body.isSome = true) (args : Array Value)
    (hop : oi.op = .call { callee := .value (.func f), args := as_, argTypes := ts }) (hargs : as_.map a.eval = args)
    (h : Calls P f args w fun e w' => ∃ v, e = .returned v ∧ wpList P ops Q rest (a.put N v) w') : wpList P ops Q (oi :: rest) a w := by
  refine wpList_plain hg fun K hK => ?_
  have he := enters_ hf hname hb args w
  have hrun : (execOp a.eval oi).run P w = .ok (.enter f args) w := by
    unfold execOp
    simp [hop, resolve, Deferred.ofValue, invoke, Act.eval, hargs, he]
  unfold Oper.wp
  rw [hrun, Oper.upon_enter]
  refine h.mono fun e w'' hh => ?_
  obtain ⟨v, rfl, hk⟩ := hh
  subst hd
  exact hK _ _ hk
theorem i64_w (n : Int) : IntKind.i64.wrap n = Go.RowKit.wrap64 n := by unfold Go.RowKit.wrap64; exact IntKind.wrap_i64 n
theorem i32_w (n : Int) : IntKind.i32.wrap n = Go.RowKit.wrap32 n := by unfold Go.RowKit.wrap32; exact IntKind.wrap_i32 n
end
end Go.Proofs.YtaefdfnhibmgdaaW.PrintLast
end

section
-- PRINTED BY print.sh 35421559b90ae4d0a3588c463048766b98c2df88dd9212a6774a882060cdf62d: not written by this session
/-! ### 39. Stores into a row that may begin inside its block (Q): Q_form, Q_elem, Q_seg; scalars: Q_cell, Q_putg -/
namespace Go.Proofs.YtaefdfnhibmgdaaW.PrintWords
open Go.RowKit
namespace Kd
section
variable {α : Type} {d : Kd α} {e base g o n cap : Nat} {ok okp : Nat → Prop} {w W : World} {v : Value} {xs : List α}
theorem Q_form (h : d.Q e w base ok v xs) (hp : 0 < xs.length) : ∃ g o cap, v = .slice (some ⟨g, o, none⟩) xs.length cap ∧ base ≤ g ∧ g < w.heap.size ∧ ∃ cells, w.heap[g]? = some (.cells cells e (0, 0)) := by
  obtain ⟨h0, inner, hq, hr⟩ := h
  rcases hq.2 with ⟨h1, _⟩ | ⟨g, off, cap, cur, rfl, hb, hh, r⟩
  · omega
  · exact ⟨g, off * d.sz, cap, rfl, hb, blk_lt hh, cur, hh⟩
/-- Element i of such a row: its cells. -/
theorem Q_elem (h : d.Q e W base ok (.slice (some ⟨g, o, none⟩) n cap) xs) (z : α) (i : Int) (h0 : 0 ≤ i) (h1 : i < n) :
    ∃ c, c.length = d.sz ∧ d.M W base (fun k => ok k ∧ k ≠ g) (xs.getD i.toNat z) c ∧ (∀ j u, c[j]? = some u → W.cell? ⟨g, o + i.toNat * d.sz + j, none⟩ = some u) ∧ ∀ j, W.frozen? ⟨g, o + i.toNat * d.sz + j, none⟩ = false := by
  obtain ⟨hn, hnc, hC⟩ := Q_reads' h
  obtain ⟨_, inner, ho, hr⟩ := h
  have hil : i.toNat < xs.length := by omega
  have hseg : i.toNat * d.sz + d.sz ≤ inner.length := by rw [hr.1, ← Nat.succ_mul]; exact Nat.mul_le_mul_right _ hil
  have hM := hr.2 i.toNat _ (List.getElem?_eq_getElem hil)
  refine ⟨(inner.drop (i.toNat * d.sz)).take d.sz, by rw [List.length_take, List.length_drop]; omega, ?_, fun j u hu => ?_, fun j => ?_⟩
  · rw [List.getD_eq_getElem?_getD, List.getElem?_eq_getElem hil]
    exact d.M_mono (fun k hk => ⟨hk.1, fun he => hk.2 (by rw [he]; simp [Value.ownBlock])⟩) hM
  · rw [List.getElem?_take] at hu
    split at hu
    · rw [List.getElem?_drop] at hu
      subst hn
      obtain ⟨ad, he, hc⟩ := q_cells ho (by omega)
      injection he with he
      subst he
      have := hc _ u hu
      rwa [add_at, ← Nat.add_assoc] at this
    · cases hu
  · obtain ⟨_, cells, hc⟩ := q_typed ho g (by simp [Value.ownBlock])
    exact blk_frozen hc _
/-- A run of cells of element i is written: element i is x' then. c: the element's cells before (Q_elem). -/
theorem Q_seg (h : d.Q e W base ok (.slice (some ⟨g, o, none⟩) n cap) xs) (i : Int) (h0 : 0 ≤ i) (h1 : i < n) {c seg : List Value} {j : Nat} (hcl : c.length = d.sz) (hcc : ∀ j u, c[j]? = some u → W.cell? ⟨g, o + i.toNat * d.sz + j, none⟩ = some u)
    (hj : j + seg.length ≤ d.sz) {x' : α} (hM : d.M W base okp x' (c.take j ++ seg ++ c.drop (j + seg.length))) (hokp : ∀ k, okp k → ok k ∧ k ≠ g) :
    d.Q e (W.setCells g (o + i.toNat * d.sz + j) seg) base ok (.slice (some ⟨g, o, none⟩) n cap) (xs.set i.toNat x') ∧ W.grownBy (W.setCells g (o + i.toNat * d.sz + j) seg) (some g) := by
  obtain ⟨hn, hnc, _⟩ := Q_reads' h
  obtain ⟨hok, inner, ho, hr⟩ := h
  have hil : i.toNat < xs.length := by omega
  have hseg : i.toNat * d.sz + d.sz ≤ inner.length := by rw [hr.1, ← Nat.succ_mul]; exact Nat.mul_le_mul_right _ hil
  have hin : inner.length = n * d.sz := by rw [hr.1, hn]
  obtain ⟨ho1, ho2⟩ := ho
  rcases ho2 with ⟨hz, _⟩ | ⟨g', off, cap', cur, hv, hb, hh, hnc', hcm, hcs, ht⟩
  · omega
  injection hv with ha _ hc
  injection ha with ha
  injection ha with hg hoff
  subst hg; subst hc; subst hoff
  have hcap : n * d.sz ≤ cap * d.sz := Nat.mul_le_mul_right _ hnc
  have hcs' : cur.size = off * d.sz + cap * d.sz := by rw [hcs, Nat.add_mul]
  have hfit : off * d.sz + i.toNat * d.sz + j + seg.length ≤ cur.size := by omega
  obtain ⟨cur', h3, h4, h5⟩ := setCells_row seg (off * d.sz + i.toNat * d.sz + j) W cur hh hfit
  obtain ⟨s1, s2, s3, s4⟩ := setCells_same g seg (off * d.sz + i.toNat * d.sz + j) W
  have hfar : ∀ k, k ≠ g → (W.setCells g (off * d.sz + i.toNat * d.sz + j) seg).heap[k]? = W.heap[k]? := fun k hk => setCells_far seg _ k hk
  rw [← hn] at ht
  -- the row's cells are the block's from off on
  have hat : ∀ q, q < n * d.sz → cur.toList[off * d.sz + q]? = inner[q]? := by
    intro q hq
    rw [← ht, List.getElem?_take, if_pos hq, List.getElem?_drop]
  have hcin : ∀ q, q < d.sz → c[q]? = inner[i.toNat * d.sz + q]? := by
    intro q hq
    have hq' : q < c.length := by omega
    have h6 := hcc q _ (List.getElem?_eq_getElem hq')
    rw [cell_of_row W g _ cur e (0, 0) hh] at h6
    rw [List.getElem?_eq_getElem hq', ← h6, ← hat _ (by omega), Array.getElem?_toList, Nat.add_assoc]
  refine ⟨⟨hok, inner.take (i.toNat * d.sz + j) ++ seg ++ inner.drop (i.toNat * d.sz + j + seg.length), ⟨?_, .inr ⟨g, off, cap, cur', by rw [List.length_set, hn], hb, h3, by rw [List.length_set, ← hn]; exact hnc, hcm, by rw [h4, hcs], ?_⟩⟩, ?_⟩,
    ⟨s1, s2, s3, by rw [s4]; exact Nat.le_refl _, fun k _ hk => hfar k (fun he => hk (by rw [he]))⟩⟩
  · rw [List.length_set]
    simp only [List.length_append, List.length_take, List.length_drop]
    rw [hr.1] at hseg ⊢
    omega
  · rw [List.length_set, ← hn]
    apply List.ext_getElem?
    intro q
    rw [List.getElem?_take, List.getElem?_drop, h5]
    rw [seg_get cur.toList seg (off * d.sz + i.toNat * d.sz + j) (by rw [Array.length_toList]; omega) (off * d.sz + q), seg_get inner seg (i.toNat * d.sz + j) (by omega) q]
    by_cases hq : q < n * d.sz
    · rw [if_pos hq]
      by_cases hq1 : q < i.toNat * d.sz + j
      · rw [if_pos (by omega), if_pos hq1, hat q hq]
      · rw [if_neg (by omega), if_neg hq1]
        by_cases hq2 : q < i.toNat * d.sz + j + seg.length
        · rw [if_pos (by omega), if_pos hq2]
          congr 1
          omega
        · rw [if_neg (by omega), if_neg hq2, hat q hq]
    · rw [if_neg hq, if_neg (by omega), if_neg (by omega), List.getElem?_eq_none (by omega)]
  · refine ⟨?_, fun m p hm => ?_⟩
    · rw [List.length_set]
      simp only [List.length_append, List.length_take, List.length_drop]
      rw [hr.1] at hseg ⊢
      omega
    · have hml : m < xs.length := by
        have := (List.getElem?_eq_some_iff.1 hm).1
        rwa [List.length_set] at this
      have hmfit : m * d.sz + d.sz ≤ inner.length := by rw [hr.1, ← Nat.succ_mul]; exact Nat.mul_le_mul_right _ hml
      have hgo : some g = (Value.slice (some ⟨g, off * d.sz, none⟩) n cap).ownBlock := by simp [Value.ownBlock]
      by_cases hmi : m = i.toNat
      · subst hmi
        rw [List.getElem?_set_self (by omega)] at hm
        injection hm with hm
        subst hm
        have hcells : ((inner.take (i.toNat * d.sz + j) ++ seg ++ inner.drop (i.toNat * d.sz + j + seg.length)).drop (i.toNat * d.sz)).take d.sz = c.take j ++ seg ++ c.drop (j + seg.length) := by
          apply List.ext_getElem?
          intro q
          rw [List.getElem?_take, List.getElem?_drop, seg_get inner seg _ (by omega), seg_get c seg j (by omega) q]
          by_cases hq : q < d.sz
          · rw [if_pos hq, hcin q hq]
            by_cases hq1 : q < j
            · rw [if_pos (by omega), if_pos hq1]
            · rw [if_neg (by omega), if_neg hq1]
              by_cases hq2 : q < j + seg.length
              · rw [if_pos (by omega), if_pos hq2]
                congr 1
                omega
              · rw [if_neg (by omega), if_neg hq2]
          · rw [if_neg hq, if_neg (by omega), if_neg (by omega), List.getElem?_eq_none (by omega)]
        rw [hcells]
        refine d.M_mono (fun k hk => ?_) (d.M_move (w1 := W.setCells g (off * d.sz + i.toNat * d.sz + j) seg) (fun k hk => hfar k (hokp k hk).2) hM)
        exact ⟨(hokp k hk).1, fun he => (hokp k hk).2 (by rw [← hgo] at he; injection he)⟩
      · rw [List.getElem?_set_ne (by omega)] at hm
        have hold := hr.2 m p hm
        have hcells : ((inner.take (i.toNat * d.sz + j) ++ seg ++ inner.drop (i.toNat * d.sz + j + seg.length)).drop (m * d.sz)).take d.sz = (inner.drop (m * d.sz)).take d.sz := by
          apply List.ext_getElem?
          intro q
          rw [List.getElem?_take, List.getElem?_take, List.getElem?_drop, List.getElem?_drop, seg_get inner seg _ (by omega)]
          by_cases hq : q < d.sz
          · rw [if_pos hq, if_pos hq]
            rcases Nat.lt_or_gt_of_ne hmi with hlt | hgt
            · have : m * d.sz + d.sz ≤ i.toNat * d.sz := by rw [← Nat.succ_mul]; exact Nat.mul_le_mul_right _ hlt
              rw [if_pos (by omega)]
            · have : i.toNat * d.sz + d.sz ≤ m * d.sz := by rw [← Nat.succ_mul]; exact Nat.mul_le_mul_right _ hgt
              rw [if_neg (by omega), if_neg (by omega)]
          · rw [if_neg hq, if_neg hq]
        rw [hcells]
        refine d.M_move (fun k hk => hfar k (fun he => hk.2 (by rw [he]; exact hgo))) hold
end
section
variable {α : Type} {enc : α → Value} {h1 : ∀ x, (enc x).oneCell' = true} {e base g o n cap : Nat} {ok : Nat → Prop} {W : World} {xs : List α}
theorem Q_cell (d : α) (h : (scalar enc h1).Q e W base ok (.slice (some ⟨g, o, none⟩) n cap) xs) (i : Int) (h0 : 0 ≤ i) (hi : i < n) : W.cell? ⟨g, o + i.toNat, none⟩ = some (enc (rdOf d xs i)) ∧ W.frozen? ⟨g, o + i.toNat, none⟩ = false := by
  obtain ⟨c, _, hM, hcc, hf⟩ := Q_elem h d i h0 hi
  have hM' : c = [enc (xs.getD i.toNat d)] := hM
  subst hM'
  have h2 := hcc 0 _ rfl
  have h3 := hf 0
  rw [show (scalar enc h1).sz = 1 from rfl, Nat.mul_one, Nat.add_zero] at h2 h3
  exact ⟨h2, h3⟩
theorem Q_putg (h : (scalar enc h1).Q e W base ok (.slice (some ⟨g, o, none⟩) n cap) xs) (i : Int) (h0 : 0 ≤ i) (hi : i < n) (x : α) : (scalar enc h1).Q e (W.setCell ⟨g, o + i.toNat, none⟩ (enc x)) base ok (.slice (some ⟨g, o, none⟩) n cap) (xs.set i.toNat x) ∧ W.grownBy (W.setCell ⟨g, o + i.toNat, none⟩ (enc x)) (some g) := by
  have hp : 0 < xs.length := by have := (Q_reads' h).1; omega
  obtain ⟨c, hcl, _, hcc, _⟩ := Q_elem h (xs[0]'hp) i h0 hi
  have h2 := Q_seg h i h0 hi (c := c) (seg := [enc x]) (j := 0) (okp := fun _ => False) (x' := x) hcl hcc (Nat.le_refl 1) (by
    have hl : c.length = 1 := hcl
    show c.take 0 ++ [enc x] ++ c.drop (0 + 1) = [enc x]
    rw [List.drop_eq_nil_of_le (by omega)]
    rfl) (fun _ hk => hk.elim)
  rw [show (scalar enc h1).sz = 1 from rfl, Nat.mul_one, Nat.add_zero] at h2
  exact h2
end
end Kd
end Go.Proofs.YtaefdfnhibmgdaaW.PrintWords
end

section
-- PRINTED BY print.sh 35421559b90ae4d0a3588c463048766b98c2df88dd9212a6774a882060cdf62d: not written by this session
/-! ### 40. Elements whose inner rows lie apart: what is stored into one says nothing of the others.
   S: as_ R, with an owner function f (block to element's index). H: as_ S with a hole: of element i its cells alone are told, its blocks are oki. -/
namespace Go.Proofs.YtaefdfnhibmgdaaW.PrintWords
open Go.RowKit
namespace Kd
/-- An element with its index: its blocks are those that f gives to it. -/
def tag {α : Type} (f : Nat → Nat) (d : Kd α) : Kd (α × Nat) where
  sz := d.sz
  E := d.E
  K := fun w x cs => d.K w x.1 cs
  M := fun w base ok x cs => d.M w base (fun k => ok k ∧ f k = x.2) x.1 cs
  K_len := fun h => d.K_len h
  K_one := fun h => d.K_one h
  K_below := fun hb h => d.K_below hb h
  K_of_M := fun h => d.K_of_M h
  M_mono := fun hok h => d.M_mono (fun k hk => ⟨hok k hk.1, hk.2⟩) h
  M_bound := fun h => d.M_mono (fun _ hk => ⟨⟨hk.1.1, hk.2⟩, hk.1.2⟩) (d.M_bound h)
  M_move := fun hm h => d.M_move (fun k hk => hm k hk.1) h
  M_lower := fun hb h => d.M_lower hb h
/-- Nothing but its cells: no block is said of it. -/
def bare {α : Type} (d : Kd α) : Kd α where
  sz := d.sz
  E := d.E
  K := d.K
  M := fun w base _ x cs => d.M w base (fun _ => False) x cs
  K_len := fun h => d.K_len h
  K_one := fun h => d.K_one h
  K_below := fun hb h => d.K_below hb h
  K_of_M := fun h => d.K_of_M h
  M_mono := fun _ h => h
  M_bound := fun h => h
  M_move := fun _ h => d.M_move (fun _ hk => hk.elim) h
  M_lower := fun hb h => d.M_lower hb h
/-- The cells themselves. -/
def raw (sz : Nat) : Kd (List Value) where
  sz := sz
  E := []
  K := fun _ x cs => cs = x ∧ cs.length = sz ∧ ∀ u ∈ cs, u.oneCell' = true
  M := fun _ _ _ x cs => cs = x ∧ cs.length = sz ∧ ∀ u ∈ cs, u.oneCell' = true
  K_len := fun h => h.2.1
  K_one := fun h => h.2.2
  K_below := fun _ h => h
  K_of_M := fun h => h
  M_mono := fun _ h => h
  M_bound := fun h => h
  M_move := fun _ h => h
  M_lower := fun _ h => h
/-- A row of elements (type e) of the call's own, no two of which lead to one block. -/
def S {α : Type} (d : Kd α) (e : Nat) (w : World) (base : Nat) (ok : Nat → Prop) (v : Value) (xs : List α) : Prop := ∃ f, (tag f d).R e w base ok v xs.zipIdx
section
variable {α β : Type} {d : Kd α} {d' : Kd β} {e e' : Nat} {w w1 W : World} {base b : Nat} {ok ok' okv oku : Nat → Prop} {u v : Value} {xs : List α} {ys : List β}
theorem S_nil (d : Kd α) (e : Nat) (w : World) (base : Nat) (ok : Nat → Prop) : S d e w base ok (.slice none 0 0) [] := ⟨fun _ => 0, R_nil _ _ _ _ _⟩
end
section
variable {α β : Type} {d : Kd α} {d' : Kd β} {e e' g : Nat} {w w1 W : World} {base b : Nat} {ok ok' okv oku : Nat → Prop} {u v : Value} {xs : List α} {ys : List β}
end
/-! #### append, make, literals: the new element's blocks are none of the elder ones' -/
section
variable {P : Program} {ops : Array Oper} {rest : List Oper} {o : Oper} {a : Act} {Q : Exit → Act → World → Prop} {Kc : Act → World → Prop} {α : Type}
end
/-! #### a row with a hole: element i is lent, its blocks are oki; of it the row says its cells alone -/
/-- Element i is these cells; the others are d's. -/
def gap {α : Type} (f : Nat → Nat) (d : Kd α) (i : Nat) (c : List Value) : Kd (α × Nat) where
  sz := d.sz
  E := d.E
  K := fun w x cs => (x.2 = i → cs = c ∧ cs.length = d.sz ∧ ∀ u ∈ cs, u.oneCell' = true) ∧ (x.2 ≠ i → d.K w x.1 cs)
  M := fun w base ok x cs => (x.2 = i → cs = c ∧ cs.length = d.sz ∧ ∀ u ∈ cs, u.oneCell' = true) ∧ (x.2 ≠ i → d.M w base (fun k => ok k ∧ f k = x.2) x.1 cs)
  K_len := fun {w x cs} h => by
    by_cases hx : x.2 = i
    · exact (h.1 hx).2.1
    · exact d.K_len (h.2 hx)
  K_one := fun {w x cs} h => by
    by_cases hx : x.2 = i
    · exact (h.1 hx).2.2
    · exact d.K_one (h.2 hx)
  K_below := fun hb h => ⟨h.1, fun hx => d.K_below hb (h.2 hx)⟩
  K_of_M := fun h => ⟨h.1, fun hx => d.K_of_M (h.2 hx)⟩
  M_mono := fun hok h => ⟨h.1, fun hx => d.M_mono (fun k hk => ⟨hok k hk.1, hk.2⟩) (h.2 hx)⟩
  M_bound := fun h => ⟨h.1, fun hx => d.M_mono (fun _ hk => ⟨⟨hk.1.1, hk.2⟩, hk.1.2⟩) (d.M_bound (h.2 hx))⟩
  M_move := fun hm h => ⟨h.1, fun hx => d.M_move (fun k hk => hm k hk.1) (h.2 hx)⟩
  M_lower := fun hb h => ⟨h.1, fun hx => d.M_lower hb (h.2 hx)⟩
def H {α : Type} (d : Kd α) (e : Nat) (w : World) (base : Nat) (ok : Nat → Prop) (v : Value) (xs : List α) (i : Int) (oki : Nat → Prop) (c : List Value) : Prop :=
  (∀ k, oki k → ok k) ∧ ∃ f, (gap f d i.toNat c).R e w base (fun k => ok k ∧ ¬ oki k) v xs.zipIdx
section
variable {α β : Type} {d : Kd α} {e e' g n cap : Nat} {w w1 W : World} {base : Nat} {ok ok' oki okp : Nat → Prop} {u v : Value} {xs : List α} {i : Int} {c : List Value}
end
section
variable {P : Program} {ops : Array Oper} {rest : List Oper} {o : Oper} {a : Act} {Q : Exit → Act → World → Prop} {α : Type}
end
end Kd
end Go.Proofs.YtaefdfnhibmgdaaW.PrintWords
end

section
-- PRINTED BY print.sh 35421559b90ae4d0a3588c463048766b98c2df88dd9212a6774a882060cdf62d: not written by this session
/-! ### 41. Arrays '[n]T' as_ values: a kind (a field, an element of a row), an element read, an element set -/
namespace Go.Proofs.YtaefdfnhibmgdaaW.PrintWords
open Go.RowKit
namespace Kd
theorem reps_one {α : Type} {R : α → List Value → Prop} {size : Nat} {ps : List α} {cs : List Value} (h : Reps R size ps cs) (hs0 : 0 < size) (hR : ∀ p c, R p c → ∀ u ∈ c, u.oneCell' = true) : ∀ u ∈ cs, u.oneCell' = true := by
  intro u hu
  obtain ⟨q, hq, rfl⟩ := List.mem_iff_getElem.1 hu
  have hql : q / size < ps.length := by
    rw [Nat.div_lt_iff_lt_mul hs0, ← h.1]
    exact hq
  refine hR _ _ (h.2 (q / size) _ (List.getElem?_eq_getElem hql)) _ ?_
  rw [List.mem_iff_getElem?]
  refine ⟨q % size, ?_⟩
  rw [List.getElem?_take, if_pos (Nat.mod_lt _ hs0), List.getElem?_drop, Nat.mul_comm, Nat.div_add_mod, List.getElem?_eq_getElem hq]
/-- An array of n elements of kind d. -/
def arr {α : Type} (n : Nat) (d : Kd α) (hs : 0 < d.sz) : Kd (List α) where
  sz := n * d.sz
  E := d.E
  K := fun w xs cs => xs.length = n ∧ Reps (d.K w) d.sz xs cs
  M := fun w base ok xs cs => xs.length = n ∧ Reps (d.M w base ok) d.sz xs cs
  K_len := fun h => by rw [← h.1]; exact h.2.1
  K_one := fun h => reps_one h.2 hs (fun _ _ hk => d.K_one hk)
  K_below := fun hb h => ⟨h.1, h.2.imp_ (fun _ _ hk => d.K_below hb hk)⟩
  K_of_M := fun h => ⟨h.1, h.2.imp_ (fun _ _ hk => d.K_of_M hk)⟩
  M_mono := fun hok h => ⟨h.1, h.2.imp_ (fun _ _ hk => d.M_mono hok hk)⟩
  M_bound := fun h => ⟨h.1, h.2.imp_ (fun _ _ hk => d.M_bound hk)⟩
  M_move := fun hm h => ⟨h.1, h.2.imp_ (fun _ _ hk => d.M_move hm hk)⟩
  M_lower := fun hb h => ⟨h.1, h.2.imp_ (fun _ _ hk => d.M_lower hb hk)⟩
section
variable {α : Type} {n : Nat} {d : Kd α} {hs : 0 < d.sz} {w : World} {base : Nat} {ok : Nat → Prop} {xs : List α} {cs : List Value}
end
section
variable {α : Type} {n : Nat} {enc : α → Value} {h1 : ∀ x, (enc x).oneCell' = true} {hs : 0 < (scalar enc h1).sz} {w : World} {base : Nat} {ok : Nat → Prop} {xs : List α} {cs : List Value}
end
end Kd
end Go.Proofs.YtaefdfnhibmgdaaW.PrintWords
end

section
-- PRINTED BY print.sh 35421559b90ae4d0a3588c463048766b98c2df88dd9212a6774a882060cdf62d: not written by this session
/-! ### 42. append(v, make([]T, n)...): the operation comes as_ append with the number in the second place -/
namespace Go.Proofs.YtaefdfnhibmgdaaW.PrintWords
open Go.RowKit
section
variable {P : Program}
end
namespace Kd
section
variable {P : Program} {ops : Array Oper} {rest : List Oper} {o : Oper} {a : Act} {Q : Exit → Act → World → Prop} {Kc : Act → World → Prop} {α : Type}
end
/-! #### the same for rows whose elements lie apart -/
/-- As_ tag; an element without index leads to nothing. -/
def tagO {α : Type} (f : Nat → Nat) (d : Kd α) : Kd (α × Option Nat) where
  sz := d.sz
  E := d.E
  K := fun w x cs => d.K w x.1 cs
  M := fun w base ok x cs => d.M w base (fun k => ok k ∧ some (f k) = x.2) x.1 cs
  K_len := fun h => d.K_len h
  K_one := fun h => d.K_one h
  K_below := fun hb h => d.K_below hb h
  K_of_M := fun h => d.K_of_M h
  M_mono := fun hok h => d.M_mono (fun k hk => ⟨hok k hk.1, hk.2⟩) h
  M_bound := fun h => d.M_mono (fun _ hk => ⟨⟨hk.1.1, hk.2⟩, hk.1.2⟩) (d.M_bound h)
  M_move := fun hm h => d.M_move (fun k hk => hm k hk.1) h
  M_lower := fun hb h => d.M_lower hb h
section
variable {α : Type} {d : Kd α} {e : Nat} {w : World} {base : Nat} {ok : Nat → Prop} {v : Value} {xs : List α}
def zipO (xs : List α) (z : α) (m : Nat) : List (α × Option Nat) := xs.zipIdx.map (fun p => (p.1, some p.2)) ++ List.replicate m (z, none)
end
section
variable {P : Program} {ops : Array Oper} {rest : List Oper} {o : Oper} {a : Act} {Q : Exit → Act → World → Prop} {Kc : Act → World → Prop} {α : Type}
end
end Kd
end Go.Proofs.YtaefdfnhibmgdaaW.PrintWords
end

section
-- PRINTED BY print.sh 35421559b90ae4d0a3588c463048766b98c2df88dd9212a6774a882060cdf62d: not written by this session
/-! ### 43. What is read beside a state: it stays read whatever the state's calls turn ('∀ W', KeepBut w W' g none → d.C W' A n xs') -/
namespace Go.Proofs.YtaefdfnhibmgdaaW.PrintWords
open Go.RowKit
namespace Kd
/-- What a kind reads lies in the blocks: nothing else of the world is looked at. -/
structure Heap {α : Type} (d : Kd α) : Prop where
  K : ∀ {w w1 : World} {x : α} {cs : List Value}, (∀ k, k < w.heap.size → w1.heap[k]? = w.heap[k]?) → d.K w x cs → d.K w1 x cs
theorem cell_heap {w w1 : World} (hb : ∀ k, k < w.heap.size → w1.heap[k]? = w.heap[k]?) {a : Addr} {v : Value} (h : w.cell? a = some v) : w1.cell? a = some v := by
  have := hb a.block (World.block_lt_of_cell? w a h)
  simpa [World.cell?, this] using h
theorem Heap.C {α : Type} {d : Kd α} (hd : Heap d) {w w1 : World} {A : Option Addr} {n : Nat} {xs : List α} (hb : ∀ k, k < w.heap.size → w1.heap[k]? = w.heap[k]?) (h : d.C w A n xs) : d.C w1 A n xs :=
  ⟨h.1, h.2.1, fun hn => by
    obtain ⟨ad, e, hc⟩ := h.2.2 hn
    refine ⟨ad, e, fun j p hj => ?_⟩
    obtain ⟨c, hs, hr, hcell⟩ := hc j p hj
    exact ⟨c, hs, hd.K hb hr, fun i u hu => cell_heap hb (hcell i u hu)⟩⟩
section
variable {α : Type} {d : Kd α} {e base g n c : Nat} {ok : Nat → Prop} {w w0 W : World} {A : Option Addr} {xs : List α}
end
end Kd
end Go.Proofs.YtaefdfnhibmgdaaW.PrintWords
end

section
-- PRINTED BY print.sh 35421559b90ae4d0a3588c463048766b98c2df88dd9212a6774a882060cdf62d: not written by this session
/-! ### 45. What a call keeps: all but the blocks of S (the rows that it was given to write) and what is new since -/
namespace Go.Proofs.YtaefdfnhibmgdaaW.PrintWords
open Go.RowKit
def Kept (w W : World) (S : Nat → Prop) : Prop := w.heap.size ≤ W.heap.size ∧ ∀ i, i < w.heap.size → ¬ S i → W.heap[i]? = w.heap[i]?
section
variable {w W W2 : World} {S S2 S' : Nat → Prop}
theorem Kept.refl (w : World) (S : Nat → Prop) : Kept w w S := ⟨Nat.le_refl _, fun _ _ _ => rfl⟩
theorem Kept.of_below (h : Below w.heap.size w W) (S : Nat → Prop) : Kept w W S := ⟨h.size, fun i hi _ => h.block i hi⟩
theorem Kept.mono (h : Kept w W S) (hs : ∀ k, S k → S' k) : Kept w W S' := ⟨h.1, fun i hi hn => h.2 i hi (fun hk => hn (hs i hk))⟩
theorem Kept.then_ (h : Kept w W S) (k : Kept W W2 S2) (hs : ∀ k, S2 k → S k ∨ w.heap.size ≤ k) : Kept w W2 S :=
  ⟨Nat.le_trans h.1 k.1, fun i hi hn => (k.2 i (Nat.lt_of_lt_of_le hi h.1) (fun h2 => (hs i h2).elim hn (fun h3 => by omega))).trans (h.2 i hi hn)⟩
theorem Kept.below (h : Kept w W S) (hb : Below W.heap.size W W2) : Kept w W2 S := h.then_ (Kept.of_below hb (fun _ => False)) (fun _ hk => hk.elim)
theorem Kept.alloc (h : Kept w W S) (o : Obj) : Kept w (W.alloc o) S := h.below (below_alloc (Below.refl _ _) o)
theorem Kept.drew (h : Kept w W S) : Kept w W.drew S := h
theorem Kept.drewN (h : Kept w W S) (m : Nat) : Kept w (W.drewN m) S := h
theorem Kept.setCell (h : Kept w W S) {p : Addr} (hp : S p.block ∨ w.heap.size ≤ p.block) (u : Value) : Kept w (W.setCell p u) S :=
  h.then_ (S2 := fun k => k = p.block) ⟨by simp [World.setCell], fun i _ hn => Below.heap_setCell W p u i hn⟩ (fun k hk => by rw [hk]; exact hp)
theorem blk_kept {g : Nat} {o : Obj} (hb : W.heap[g]? = some o) (hk : Kept W W2 S) (hne : ¬ S g) : W2.heap[g]? = some o := (hk.2 g (blk_lt hb) hne).trans hb
end
namespace Kd
section
variable {α : Type} {d : Kd α} {e base n c : Nat} {ok oki S S2 : Nat → Prop} {w w0 W W1 W2 : World} {v : Value} {A : Option Addr} {xs : List α} {i : Int} {cs : List Value}
end
end Kd
end Go.Proofs.YtaefdfnhibmgdaaW.PrintWords
end

section
-- PRINTED BY print.sh 35421559b90ae4d0a3588c463048766b98c2df88dd9212a6774a882060cdf62d: not written by this session
/-! ### 46. Values that share: what is only read, with the blocks it lies in (its footprint 'ok'): Foot, F (a row that is read), FK (an element's cells) -/
namespace Go.Proofs.YtaefdfnhibmgdaaW.PrintWords
open Go.RowKit
/-- P holds in W and in every world that has W's blocks of ok. -/
def Foot (P : World → Prop) (W : World) (ok : Nat → Prop) : Prop := ∀ W' : World, (∀ k, ok k → k < W.heap.size → W'.heap[k]? = W.heap[k]?) → P W'
theorem heap_lt {W W1 : World} {k : Nat} (h : W1.heap[k]? = W.heap[k]?) (hlt : k < W.heap.size) : k < W1.heap.size := by
  rw [Array.getElem?_eq_getElem hlt] at h
  exact (Array.getElem?_eq_some_iff.1 h).1
namespace Foot
variable {P Q : World → Prop} {W W1 : World} {ok ok' : Nat → Prop}
theorem now (h : Foot P W ok) : P W := h W (fun _ _ _ => rfl)
theorem mono (h : Foot P W ok) (hok : ∀ k, ok k → ok' k) : Foot P W ok' := fun W' hW => h W' (fun k hk hlt => hW k (hok k hk) hlt)
theorem bound (h : Foot P W ok) : Foot P W (fun k => ok k ∧ k < W.heap.size) := fun W' hW => h W' (fun k hk hlt => hW k ⟨hk, hlt⟩ hlt)
theorem step (h : Foot P W ok) (hm : ∀ k, ok k → k < W.heap.size → W1.heap[k]? = W.heap[k]?) : Foot P W1 ok := fun W' hW => h W' (fun k hk hlt => (hW k hk (heap_lt (hm k hk hlt) hlt)).trans (hm k hk hlt))
theorem imp (h : Foot P W ok) (hi : ∀ W', P W' → Q W') : Foot Q W ok := fun W' hW => hi W' (h W' hW)
/-- Moved, and still elder than what is new since W. -/
theorem old (h : Foot P W ok) (hb : Below W.heap.size W W1) : Foot P W1 (fun k => ok k ∧ k < W.heap.size) := (h.bound).step (fun k _ hlt => hb.block k hlt)
end Foot
namespace Kd
/-- A row that is only read: what it leads to lies in ok. -/
def F {α : Type} (d : Kd α) (W : World) (ok : Nat → Prop) (A : Option Addr) (n : Nat) (xs : List α) : Prop := Foot (fun W => d.C W A n xs) W ok
/-- An element's cells: what they lead to lies in ok. -/
def FK {α : Type} (d : Kd α) (W : World) (ok : Nat → Prop) (x : α) (c : List Value) : Prop := Foot (fun W => d.K W x c) W ok
section
variable {α β : Type} {d : Kd α} {e base n n' cc g N : Nat} {ok ok' okp S : Nat → Prop} {w w0 w1 W W1 : World} {A A' : Option Addr} {u v v1 : Value} {xs : List α} {xs' : List β} {d' : Kd β} {x : α} {c : List Value}
theorem F_nil (d : Kd α) (W : World) (ok : Nat → Prop) : F d W ok none ([] : List α).length [] := fun W' _ => C_nil d W'
theorem FK_of_M (h : d.M W base ok x c) : FK d W ok x c := fun _ hW => d.K_of_M (M_step h hW)
end
end Kd
end Go.Proofs.YtaefdfnhibmgdaaW.PrintWords
end

section
-- PRINTED BY print.sh 35421559b90ae4d0a3588c463048766b98c2df88dd9212a6774a882060cdf62d: not written by this session
/-! ### 47. N: a row of the call's own whose elements share (what they lead to is only read) -/
namespace Go.Proofs.YtaefdfnhibmgdaaW.PrintWords
open Go.RowKit
namespace Kd
/-- The cells one behind the other, element by element. -/
def chunks (sz : Nat) (n : Nat) (inner : List Value) : List (List Value) := (List.range n).map fun j => (inner.drop (j * sz)).take sz
theorem chunks_length (sz n : Nat) (inner : List Value) : (chunks sz n inner).length = n := by simp [chunks]
theorem chunks_at {sz n : Nat} {inner : List Value} {j : Nat} (hj : j < n) : (chunks sz n inner)[j]? = some ((inner.drop (j * sz)).take sz) := by simp [chunks, hj]
theorem chunks_get {sz n : Nat} {inner : List Value} {j : Nat} {c : List Value} (h : (chunks sz n inner)[j]? = some c) : c = (inner.drop (j * sz)).take sz := by
  have hj : j < n := by have := (List.getElem?_eq_some_iff.1 h).1; rwa [chunks_length] at this
  rw [chunks_at hj] at h
  injection h with h
  exact h.symm
theorem reps_raw {α : Type} {Rr : α → List Value → Prop} {sz : Nat} {xs : List α} {inner : List Value} (h : Reps Rr sz xs inner) (hR : ∀ x c, Rr x c → c.length = sz ∧ ∀ u ∈ c, u.oneCell' = true) : Reps (fun x cs => cs = x ∧ cs.length = sz ∧ ∀ u ∈ cs, u.oneCell' = true) sz (chunks sz xs.length inner) inner := by
  refine ⟨by rw [chunks_length]; exact h.1, fun j p hj => ?_⟩
  have hjl : j < xs.length := by have := (List.getElem?_eq_some_iff.1 hj).1; rwa [chunks_length] at this
  have hp := chunks_get hj
  exact ⟨hp.symm, hR _ _ (h.2 j _ (List.getElem?_eq_getElem hjl))⟩
section
variable {α : Type} {d : Kd α} {e base n cc g : Nat} {ok ok' okp S : Nat → Prop} {w w1 W W1 : World} {A : Option Addr} {u v v1 : Value} {xs : List α} {x : α} {c : List Value}
/-- A row of elements (type e) of the call's own; what the elements lead to is only read, and is not this row. -/
def N {α : Type} (d : Kd α) (e : Nat) (w : World) (base : Nat) (ok : Nat → Prop) (v : Value) (xs : List α) : Prop :=
  (∀ k, v.ownBlock = some k → ok k) ∧ ∃ rows : List (List Value), rows.length = xs.length ∧ (raw d.sz).R e w base (fun k => some k = v.ownBlock) v rows ∧ ∀ (j : Nat) (x : α) (c : List Value), xs[j]? = some x → rows[j]? = some c → FK d w (fun k => ok k ∧ some k ≠ v.ownBlock) x c
theorem R_N (h : d.R e w base ok v xs) : N d e w base ok v xs := by
  obtain ⟨h0, inner, ho, hr⟩ := h
  refine ⟨h0, chunks d.sz xs.length inner, chunks_length _ _ _, ⟨fun k hk => hk.symm, inner, by rw [chunks_length]; exact ho, reps_raw hr (fun x c hp => ⟨d.K_len (d.K_of_M hp), d.K_one (d.K_of_M hp)⟩)⟩, fun j x c hx hc => ?_⟩
  rw [chunks_get hc]
  exact FK_of_M (hr.2 j x hx)
theorem N_nil (d : Kd α) (e : Nat) (w : World) (base : Nat) (ok : Nat → Prop) : N d e w base ok (.slice none 0 0) [] := R_N (R_nil _ _ _ _ _)
end
end Kd
end Go.Proofs.YtaefdfnhibmgdaaW.PrintWords
end

section
-- PRINTED BY print.sh 35421559b90ae4d0a3588c463048766b98c2df88dd9212a6774a882060cdf62d: not written by this session
/-! ### 48. N's events: append, a whole row appended, zeros appended, literals, make, stores, cuts, an element taken out -/
namespace Go.Proofs.YtaefdfnhibmgdaaW.PrintWords
open Go.RowKit
namespace Kd
section
variable {α : Type} {d : Kd α} {e base n cap g : Nat} {ok ok' okp : Nat → Prop} {w w1 W : World} {v v1 : Value} {xs ys : List α}
end
section
variable {P : Program} {ops : Array Oper} {rest : List Oper} {o : Oper} {a : Act} {Q : Exit → Act → World → Prop} {Kc : Act → World → Prop} {α : Type}
end
end Kd
end Go.Proofs.YtaefdfnhibmgdaaW.PrintWords
end

section
-- PRINTED BY print.sh 35421559b90ae4d0a3588c463048766b98c2df88dd9212a6774a882060cdf62d: not written by this session
-- PRINTED WORDS (module Derived/Print/More.lean): go-gate-2's additions: an AI agent of Go's test side, Tue Nov 17 2026; no person has read it. Lean checks it.
namespace Go.Proofs.YtaefdfnhibmgdaaW.PrintMore
open Go.RowKit Go.Proofs.YtaefdfnhibmgdaaW.PrintWords
namespace Kd
open Go.Proofs.YtaefdfnhibmgdaaW.PrintWords.Kd
end Kd

namespace Kd
open Go.Proofs.YtaefdfnhibmgdaaW.PrintWords.Kd
section
variable {α : Type} {d : Kd α} {e base g N : Nat} {ok : Nat → Prop} {W w1 : World} {u v : Value} {xs : List α}
end
end Kd
/-- 'max' and 'min' of two whole numbers. -/
theorem max2_int (k k' : IntKind) (x y : Int) : Builtin.max2 (.int k x) (.int k' y) = pure (.int k (if x < y then y else x)) := by simp only [Builtin.max2, gt_iff_lt]
theorem min2_int (k k' : IntKind) (x y : Int) : Builtin.min2 (.int k x) (.int k' y) = pure (.int k (if y < x then y else x)) := by simp only [Builtin.min2]
theorem max_two (ats : Array TypeId) (ty : TypeId) (a b : Value) : Builtin.max_ ats ty #[a, b] = (Builtin.max2 a b >>= fun s => pure s) := by simp only [Builtin.max_, List.foldlM_cons, List.foldlM_nil]
theorem min_two (ats : Array TypeId) (ty : TypeId) (a b : Value) : Builtin.min_ ats ty #[a, b] = (Builtin.min2 a b >>= fun s => pure s) := by simp only [Builtin.min_, List.foldlM_cons, List.foldlM_nil]
theorem max_three (ats : Array TypeId) (ty : TypeId) (a b c : Value) : Builtin.max_ ats ty #[a, b, c] = (Builtin.max2 a b >>= fun s => Builtin.max2 s c >>= fun s => pure s) := by simp only [Builtin.max_, List.foldlM_cons, List.foldlM_nil]
theorem min_three (ats : Array TypeId) (ty : TypeId) (a b c : Value) : Builtin.min_ ats ty #[a, b, c] = (Builtin.min2 a b >>= fun s => Builtin.min2 s c >>= fun s => pure s) := by simp only [Builtin.min_, List.foldlM_cons, List.foldlM_nil]
theorem max_four (ats : Array TypeId) (ty : TypeId) (a b c d : Value) : Builtin.max_ ats ty #[a, b, c, d] = (Builtin.max2 a b >>= fun s => Builtin.max2 s c >>= fun s => Builtin.max2 s d >>= fun s => pure s) := by simp only [Builtin.max_, List.foldlM_cons, List.foldlM_nil]
theorem min_four (ats : Array TypeId) (ty : TypeId) (a b c d : Value) : Builtin.min_ ats ty #[a, b, c, d] = (Builtin.min2 a b >>= fun s => Builtin.min2 s c >>= fun s => Builtin.min2 s d >>= fun s => pure s) := by simp only [Builtin.min_, List.foldlM_cons, List.foldlM_nil]
end Go.Proofs.YtaefdfnhibmgdaaW.PrintMore
namespace Go.Proofs.YtaefdfnhibmgdaaW.PrintWords
open Go.RowKit
section
variable {P : Program} {ops : Array Oper} {rest : List Oper} {o : Oper} {a : Act} {Q : Exit → Act → World → Prop} {W : World}
/-- The operation is a call of this function (a cheap look ahead of a dear step). -/
theorem gate_callee {f : FuncId} {as_ : Array Operand} {ts : Array TypeId} (_ho : o.op = .call { callee := .value (.func f), args := as_, argTypes := ts }) (h : wpList P ops Q (o :: rest) a W) : wpList P ops Q (o :: rest) a W := h
/-- The operation is a builtin over these places. -/
theorem gate_builtin {b : Builtin} {xs : Array Operand} {ts : Array TypeId} (_ho : o.op = .call { callee := .builtin b, args := xs, argTypes := ts }) (h : wpList P ops Q (o :: rest) a W) : wpList P ops Q (o :: rest) a W := h
end
/-- The greater of two whole numbers, as Go's max tells it. -/
def mx (a b : Int) : Int := if a < b then b else a
/-- The smaller of two whole numbers, as Go's min tells it. -/
def mn (a b : Int) : Int := if b < a then b else a
/-- A shift to the left, as Go tells it: a count beyond the width leaves nothing. -/
def shl (k : IntKind) (x y : Int) : Int := k.wrap (x * 2 ^ min y.toNat k.bits)
/-- A shift to the right: a count beyond the width leaves the sign. -/
def shr (k : IntKind) (x y : Int) : Int := x / 2 ^ min y.toNat k.bits
/-- It says x = x, and that is its use: 'rw [drewN_self w]' fails where the world was not drawn, and the row behind it is skipped. -/
theorem drewN_self (w : World) (n : Nat) : w.drewN n = w.drewN n := rfl
namespace Kd
section
variable {α : Type} {d : Kd α} {e base : Nat} {ok : Nat → Prop} {W w1 : World} {v : Value} {xs : List α}
end
section
variable {α : Type} {d : Kd α} {e base g n cap : Nat} {ok oki okp : Nat → Prop} {W : World} {xs : List α} {i : Int} {c : List Value}
end
section
variable {α : Type} {d : Kd α} {e base b b' g N : Nat} {ok ok1 : Nat → Prop} {W W2 w1 : World} {u v : Value} {xs ys : List α} {S : Nat → Prop}
end
end Kd
end Go.Proofs.YtaefdfnhibmgdaaW.PrintWords
namespace Go.Proofs.YtaefdfnhibmgdaaW.PrintWords
open Go.RowKit
namespace Kd
/-- A row that is only read, told by its value: its form, its length, what it leads to (in ok). e and base say nothing; they make it as the others are. -/
def V {α : Type} (d : Kd α) (_e : Nat) (W : World) (_base : Nat) (ok : Nat → Prop) (v : Value) (xs : List α) : Prop := ∃ A c, v = .slice A xs.length c ∧ xs.length ≤ c ∧ F d W ok A xs.length xs
section
variable {α β : Type} {d : Kd α} {e base base' n m c g N' lo hi : Nat} {ok ok' S : Nat → Prop} {w W w1 : World} {A : Option Addr} {ad : Addr} {u v v1 : Value} {xs : List α}
theorem V_nil (d : Kd α) (e : Nat) (W : World) (base : Nat) (ok : Nat → Prop) : V d e W base ok (.slice none 0 0) [] := ⟨none, 0, rfl, Nat.le_refl _, F_nil d W ok⟩
end
end Kd
end Go.Proofs.YtaefdfnhibmgdaaW.PrintWords
end

section
/- Contracts of octet.Put and octet.Text: what they append to any bytes, if these are at most 1000000000 long. -/
namespace Go.Proofs.Ytaefdfnhibmgdaa.Given
set_option linter.unusedVariables false
open Go.RowKit Go.Proofs.YtaefdfnhibmgdaaW.PrintWords Go.Proofs.YtaefdfnhibmgdaaW.PrintLast Go.Proofs.YtaefdfnhibmgdaaW.PrintMore
attribute [local go_sem] max2_int min2_int
def sh : Nat → Int → Int
  | 0, v => v
  | n + 1, v => sh n v / 256
def le : Nat → Int → List Int
  | 0, _ => []
  | n + 1, v => le n v ++ [sh n v % 256]
theorem le_length : ∀ n v, (le n v).length = n
  | 0, _ => rfl
  | n + 1, v => by simp [le, le_length n v]
/-- make([]T, n, c) of whole numbers. -/
theorem make_lc {P : Program} (t e : TypeId) (k : IntKind) (bytes : Nat) (ht : P.underlying t = some (.slice e)) (hinfo : (P.info? e).map (fun i => (i.zero, i.size, i.bytes)) = some (some (.int k 0), 1, bytes))
    (n m : Nat) (c : Int) (hc : c = (m : Int)) (hnm : n ≤ m) (hb : bytes * m ≤ 281474976710656) (h63 : m ≤ 9223372036854775807) (W : World) :
    (Instr.makeSlice t (.int .i64 (n : Int)) (.int .i64 c)).run P W = .ok (.slice (some ⟨W.heap.size, 0, none⟩) n m) (W.alloc (.cells (madeCells #[.int k 0] m) e)) := by
  subst hc
  obtain ⟨i0, hi, hz0, hz1, hz2⟩ := info_parts hinfo
  have := run_make (P := P) (w := W) t e i0 (.int k 0) ht hi hz0 .i64 .i64 (n : Int) (m : Int) (by omega) (by omega) (by rw [hz2, (Int.natCast_mul bytes m).symm]; omega) (by omega)
  rw [this, hz1]
  simp [Value.cells]
theorem own_copied {W : World} {base g n m : Nat} {e : TypeId} {k : IntKind} {Z : List Value} {xs : List Int} (hZ : Z.length = m) (hx : xs.length = n) (hnm : n ≤ m) (hm : m ≤ 9223372036854775807) (hb : base ≤ g)
    (h : W.heap[g]? = some (.cells (splice Z 0 (nums k xs)).toArray e (0, 0))) : W.ownsRow base e 1 (.slice (some ⟨g, 0, none⟩) n m) n (nums k xs) := by
  have hl : (splice Z 0 (nums k xs)).length = m := by rw [length_splice, hZ]; rw [nums_length]; omega
  refine ⟨by rw [nums_length]; omega, .inr ⟨g, m, _, rfl, hb, h, hnm, by unfold maxLen; omega, by rw [List.size_toArray, hl, Nat.mul_one], ?_⟩⟩
  simp [splice, hx, nums_length]
theorem infoU8 : (Try.prog.info? 5).map (fun i => (i.zero, i.size, i.bytes)) = some (some (.int .u8 0), 1, 1) := by kernel_rfl
theorem sizeU8 : (Try.prog.info? 5).map (·.size) = some 1 := by kernel_rfl
theorem nums_one (k : IntKind) (xs : List Int) : ∀ v ∈ nums k xs, v.oneCell' = true := by
  intro v hv
  obtain ⟨x, _, rfl⟩ := List.mem_map.1 hv
  rfl
theorem C_cells {k : IntKind} {w : World} {A : Option Addr} {n : Nat} {xs : List Int} (h : Kd.C (Kd.int k) w A n xs) (hn : 0 < n) : ∃ ad, A = some ad ∧ ∀ j v, (nums k xs)[j]? = some v → w.cell? (ad.add j) = some v := by
  have hl := h.1
  obtain ⟨ad, e, hc⟩ := h.2.2 hn
  refine ⟨ad, e, fun j v hv => ?_⟩
  have hj : j < xs.length := by
    have := (List.getElem?_eq_some_iff.1 hv).1
    rwa [nums_length] at this
  obtain ⟨c, _, hK, hcell⟩ := hc j _ (List.getElem?_eq_getElem hj)
  have hK' : c = [Value.int k xs[j]] := hK
  subst hK'
  have := hcell 0 _ rfl
  simp [nums, List.getElem?_eq_getElem hj] at hv
  subst hv
  simpa [Kd.int, Kd.scalar] using this
set_option maxHeartbeats 1000000 in
theorem octet_Put_calls (A0 : Option Addr) (c0 : Nat) (l0 : List Int) (a1 a2 : Int) (n : Nat) (w : World) (hr0 : Kd.C (Kd.int .u8) w A0 l0.length l0) (hn : mx 0 (mn a1 8) = n) (hl : l0.length ≤ 1000000000) :
    Calls Try.prog 26 #[.slice A0 l0.length c0, .int .i64 a1, .int .i64 a2] w fun e w' => ∃ v0_ : Value, e = .returned v0_ ∧ Kd.R (Kd.int .u8) 5 w' w.heap.size (fun _ => True) v0_ (l0 ++ le n a2) ∧ Below w.heap.size w w' := by
  obtain ⟨Z, hZ⟩ : ∃ Z : List Value, Z.toArray = madeCells #[.int .u8 0] (l0.length + 8) := ⟨_, Array.toArray_toList⟩
  have hZs : Z.length = l0.length + 8 := by have := congrArg Array.size hZ; simpa [size_madeCells] using this
  have hmk := make_lc (P := Try.prog) 23 5 .u8 1 Try.underlying23 infoU8 l0.length (l0.length + 8) ((l0.length : Int) + 8) (by omega) (by omega) (by omega) (by omega)
  rw [← hZ] at hmk
  have hn8 : n ≤ 8 := by unfold mx mn at hn; split at hn <;> split at hn <;> omega
  obtain ⟨M, hM⟩ : ∃ M : Int, (if (8 : Int) < a1 then 8 else a1) = M := ⟨_, rfl⟩
  have hN : (if (0 : Int) < M then M else 0) = (n : Int) := by rw [← hM]; exact hn
  have HZ := Aside0.mk hZs
  clear hZ hZs
  have HC := Aside0.mk hr0
  clear hn hr0
  go_enter Try.func26, Try.ntmps26
  go_wp2_with ((with_reducible refine wpList_copy_splice rfl (.tmp 14) (.tmp 15) 23 23 rfl 5 Try.underlying23 sizeU8 (some ⟨w.heap.size, 0, none⟩) A0 l0.length (l0.length + 8) l0.length c0 rfl rfl w.heap.size 0 Z 5 ?hg (nums .u8 l0) ?hn ?hpos ?hfit (nums_one _ _) w.heap.size w ((Below.refl _ _).alloc (Nat.le_refl _) _) (Nat.le_refl _) ?_); rotate_left 4; intro w2 HG HB2; have HO := Aside0.mk (own_copied (base := w.heap.size) HZ.out rfl (Nat.le_add_right _ 8) (by omega) (Nat.le_refl _) HG.out); clear HG)
  case hg => exact heap_alloc_new w _
  case hpos =>
    intro hp
    have hx := C_cells (Kd.C_below HC.out ((Below.refl _ _).alloc (Nat.le_refl _) (.cells Z.toArray 5))) (by rwa [nums_length] at hp)
    first | exact ⟨rfl, hx⟩ | exact hx
  case hn => (simp [nums_length])
  case hfit => (have h1 := HZ.out; have h2 := nums_length .u8 l0; omega)
  clear hM hN hmk
  have HL := Aside0.mk hl
  go_loopw [2, 7, 20] (fun x v i wr => ∃ j : Nat, j ≤ n ∧ i = .int .i64 j ∧ x = .int .i64 (sh j a2) ∧ Aside0 (wr.ownsRow w.heap.size 5 1 v (l0 ++ le j a2).length (nums .u8 (l0 ++ le j a2))) ∧ Aside0 (Below w.heap.size w wr)) (fun _ _ i _ => n - (intOf i).toNat)
  case atStart => exact ⟨0, Nat.zero_le _, rfl, rfl, ⟨by simpa [le] using HO.out⟩, ⟨HB2⟩⟩
  case round =>
    clear HO HB2
    obtain ⟨j, hj, rfl, rfl, HO, HB⟩ := hrel
    by_cases hlt : j < n
    · go_wp2_with ((at_builtin; refine print_append_num w.heap.size rfl (.tmp 22) (.tmp 25) 23 5 .u8 1 rfl Try.underlying23 infoU8 (by omega) _ (l0 ++ le j a2) _ rfl rfl HO.out HB.out HB.out.size ?hl ?_); (case hl => rw [List.length_append, le_length]; have := HL.out; omega); intro v1 w1 ho hb _ _; have HO1 := Aside0.mk ho; have HB1 := Aside0.mk hb; clear ho hb)
      exact ⟨⟨j + 1, by omega, by go_num, rfl, ⟨by simpa [le, List.append_assoc] using HO1.out⟩, HB1⟩, by simp [intOf]; omega⟩
    · go_wp2
      go_ret
      have : j = n := by omega
      subst this
      exact ⟨_, rfl, Kd.R_of_own HO.out (fun _ _ => trivial), HB.out⟩
/-- The bytes behind l0: as many of a2's as are asked, at most eight. -/
def octet_Put.f (l0 : List Int) (a1 a2 : Int) : Option (List Int) := if l0.length ≤ 1000000000 then some (l0 ++ le (mx 0 (mn a1 8)).toNat a2) else none
theorem mx_nat (a1 : Int) : mx 0 (mn a1 8) = ((mx 0 (mn a1 8)).toNat : Int) := by
  have : 0 ≤ mx 0 (mn a1 8) := by unfold mx; split <;> omega
  omega
theorem octet_Put.calls (A0 : Option Addr) (c0 : Nat) (l0 : List Int) (a1 : Int) (a2 : Int) (r : List Int) (w : World) (hr0 : Kd.C (Kd.int .u8) w A0 l0.length l0) (hc0 : l0.length ≤ c0) (h : octet_Put.f l0 a1 a2 = some r) :
    Calls Try.prog 26 #[.slice A0 l0.length c0, .int .i64 a1, .int .i64 a2] w fun e w' => ∃ v0_ : Value, e = .returned (v0_) ∧ Kd.R (Kd.int .u8) 5 w' w.heap.size (fun _ => True) v0_ r ∧ Below w.heap.size w w' := by
  unfold octet_Put.f at h
  split at h
  · rename_i hl
    injection h with h
    subst h
    exact octet_Put_calls A0 c0 l0 a1 a2 _ w hr0 (mx_nat a1) hl
  · cases h
/-- What a text's bytes are: as many as go into a byte's number. -/
def textOf (s : ByteArray) : ByteArray := s.extract 0 (min s.size 255)
set_option maxHeartbeats 1000000 in
theorem octet_Text_calls (A0 : Option Addr) (c0 : Nat) (l0 : List Int) (s : ByteArray) (m : Nat) (w : World) (hr0 : Kd.C (Kd.int .u8) w A0 l0.length l0) (hc0 : l0.length ≤ c0) (hm : m = min s.size 255) (hl : l0.length ≤ 999999000) (hs : s.size ≤ 9223372036854775807) :
    Calls Try.prog 39 #[.slice A0 l0.length c0, .string s] w fun e w' => ∃ v0_ : Value, e = .returned v0_ ∧ Kd.R (Kd.int .u8) 5 w' w.heap.size (fun _ => True) v0_ (l0 ++ le 1 (m : Int) ++ bytesOf (s.extract 0 m)) ∧ Below w.heap.size w w' := by
  have hm0 : m ≤ s.size := by omega
  have hm1 : m ≤ 255 := by omega
  have hM : (if (255 : Int) < (s.size : Int) then 255 else (s.size : Int)) = (m : Int) := by split <;> omega
  have hz : (s.extract 0 m).size = m := by simp; omega
  have hmn : (mx 0 (mn 1 8)).toNat = 1 := by decide
  have HP : octet_Put.f l0 1 (m : Int) = some (l0 ++ le 1 (m : Int)) := by unfold octet_Put.f; rw [if_pos (by omega), hmn]
  have HZ := Aside0.mk hz
  have HP := Aside0.mk HP
  have HC := Aside0.mk hr0
  have HL := Aside0.mk hl
  clear hz hr0 hm hl
  go_enter Try.func39, Try.ntmps39
  go_wp2_with fail
  refine (octet_Put.calls A0 c0 l0 1 (m : Int) _ _ HC.out hc0 HP.out).mono ?_
  rintro e w1 ⟨v1, rfl, ho, hb⟩
  have HO := Aside0.mk ho
  have HB := Aside0.mk hb
  clear ho hb
  go_wp2_with (at_builtin; refine print_append_str (w0 := w) w.heap.size rfl (.tmp 13) _ 23 9 5 rfl Try.underlying23 Try.underlying9 infoU8 v1 (l0 ++ le 1 (m : Int)) (s.extract 0 m) rfl rfl (Kd.own_of_R HO.out) HB.out HB.out.size ?aL ?_; (case aL => (have h1 := HL.out; have h2 := HZ.out; rw [List.length_append, le_length]; omega)); intro v2 w2 ho hb hg)
  go_ret
  exact ⟨_, rfl, Kd.R_of_own ho (fun _ _ => trivial), hb⟩
def octet_Text.f (l0 : List Int) (s : ByteArray) : Option (List Int) := if l0.length ≤ 999999000 ∧ s.size ≤ 9223372036854775807 then some (l0 ++ le 1 ((min s.size 255 : Nat) : Int) ++ bytesOf (textOf s)) else none
theorem octet_Text.calls (A0 : Option Addr) (c0 : Nat) (l0 : List Int) (a1 : ByteArray) (r : List Int) (w : World) (hr0 : Kd.C (Kd.int .u8) w A0 l0.length l0) (hc0 : l0.length ≤ c0) (h : octet_Text.f l0 a1 = some r) :
    Calls Try.prog 39 #[.slice A0 l0.length c0, .string a1] w fun e w' => ∃ v0_ : Value, e = .returned (v0_) ∧ Kd.R (Kd.int .u8) 5 w' w.heap.size (fun _ => True) v0_ r ∧ Below w.heap.size w w' := by
  unfold octet_Text.f at h
  split at h
  · rename_i hl
    injection h with h
    subst h
    exact octet_Text_calls A0 c0 l0 a1 _ w hr0 hc0 rfl hl.1 hl.2
  · cases h
end Go.Proofs.Ytaefdfnhibmgdaa.Given
end

section
/- A reader of octets in memory, as the program's: what printed texts ask of it; no conditions. -/
namespace Go.Proofs.Ytaefdfnhibmgdaa.Given
set_option linter.unusedVariables false
open Go.RowKit Go.Proofs.YtaefdfnhibmgdaaW.PrintWords Go.Proofs.YtaefdfnhibmgdaaW.PrintLast Go.Proofs.YtaefdfnhibmgdaaW.PrintMore
/-- The cells of a reader: its bytes came by w0, and it's not past its end. -/
def CsR (w0 : World) (cs : Array Value) (f0 : List Int) (f1 : Int) (f2 : Bool) : Prop := ∃ a c, cs = #[.slice (some a) f0.length c, .int .i64 f1, .bool f2] ∧ Kd.C (Kd.int .u8) w0 (some a) f0.length f0 ∧ f0.length ≤ c ∧ 0 ≤ f1 ∧ f1 ≤ f0.length
/-- A state of this type at block g of W. -/
def IsS87 (w0 W : World) (g : Nat) (f0 : List Int) (f1 : Int) (f2 : Bool) : Prop := ∃ cs, W.heap[g]? = some (.cells cs 87 (0, 0)) ∧ w0.heap.size ≤ g ∧ CsR w0 cs f0 f1 f2
theorem IsS87.grown {w0 W : World} {g : Nat} {f0 : List Int} {f1 : Int} {f2 : Bool} {W1 : World} {row : Option Nat} (h : IsS87 w0 W g f0 f1 f2) (hw : W.grownBy W1 row) (hne : some g ≠ row) : IsS87 w0 W1 g f0 f1 f2 := by
  obtain ⟨cs, hb, hg, hx⟩ := h
  exact ⟨cs, blk_grown hb hw hne, hg, hx⟩
theorem IsS87.kept {w0 W : World} {g : Nat} {f0 : List Int} {f1 : Int} {f2 : Bool} {W1 : World} {S : Nat → Prop} (h : IsS87 w0 W g f0 f1 f2) (hk : Kept W W1 S) (hne : ¬ S g) : IsS87 w0 W1 g f0 f1 f2 := by
  obtain ⟨cs, hb, hg, hx⟩ := h
  exact ⟨cs, blk_kept hb hk hne, hg, hx⟩
theorem IsS87.below {w0 W : World} {g : Nat} {f0 : List Int} {f1 : Int} {f2 : Bool} {W1 : World} (h : IsS87 w0 W g f0 f1 f2) (hw : Below W.heap.size W W1) : IsS87 w0 W1 g f0 f1 f2 := h.grown (grown_of_below hw none) (by simp)
theorem IsS87.alloc {w0 W : World} {g : Nat} {f0 : List Int} {f1 : Int} {f2 : Bool} (h : IsS87 w0 W g f0 f1 f2) (o : Obj) : IsS87 w0 (W.alloc o) g f0 f1 f2 := h.below (below_alloc (Below.refl _ _) o)
theorem IsS87.drewN {w0 W : World} {g : Nat} {f0 : List Int} {f1 : Int} {f2 : Bool} (h : IsS87 w0 W g f0 f1 f2) (m : Nat) : IsS87 w0 (W.drewN m) g f0 f1 f2 := h
theorem IsS87.drew {w0 W : World} {g : Nat} {f0 : List Int} {f1 : Int} {f2 : Bool} (h : IsS87 w0 W g f0 f1 f2) : IsS87 w0 W.drew g f0 f1 f2 := h
theorem IsS87.at_ {w0 W : World} {g : Nat} {f0 : List Int} {f1 : Int} {f2 : Bool} {w' : World} {m : Nat} (hq : W.drewN m = w') (h : IsS87 w0 W g f0 f1 f2) : IsS87 w0 w' g f0 f1 f2 := by subst hq; exact IsS87.drewN h m
theorem IsS87.apart {w0 W : World} {g : Nat} {f0 : List Int} {f1 : Int} {f2 : Bool} {α : Type} {d : Kd α} {e : Nat} {base : Nat} {ok : Nat → Prop} {v : Value} {xs : List α} (h : IsS87 w0 W g f0 f1 f2) (ho : d.R e W base ok v xs) (ht : ∀ q, q ∈ e :: d.E → q ≠ 87) : d.R e W base (fun k => ok k ∧ k ≠ g) v xs := by
  obtain ⟨cs, hb, hg, hx⟩ := h
  exact Kd.R_types ho hb ht
theorem IsS87.own_ne {w0 W : World} {g : Nat} {f0 : List Int} {f1 : Int} {f2 : Bool} {α : Type} {d : Kd α} {e : Nat} {base : Nat} {ok : Nat → Prop} {v : Value} {xs : List α} (h : IsS87 w0 W g f0 f1 f2) (ho : d.R e W base ok v xs) (ht : e ≠ 87) : some g ≠ v.ownBlock := by
  obtain ⟨cs, hb, hg, hx⟩ := h
  exact Kd.R_ne ho hb ht
theorem IsS87.lt {w0 W : World} {g : Nat} {f0 : List Int} {f1 : Int} {f2 : Bool} (h : IsS87 w0 W g f0 f1 f2) : g < W.heap.size := by
  obtain ⟨cs, hb, hg, hx⟩ := h
  exact blk_lt hb
theorem IsS87.far {w0 W : World} {g : Nat} {f0 : List Int} {f1 : Int} {f2 : Bool} {p : Addr} (h : IsS87 w0 W g f0 f1 f2) (hne : g ≠ p.block) (u : Value) : IsS87 w0 (W.setCell p u) g f0 f1 f2 := by
  obtain ⟨cs, hb, hg, hx⟩ := h
  exact ⟨cs, blk_far hb hne u, hg, hx⟩
end Go.Proofs.Ytaefdfnhibmgdaa.Given
end

section
/- The reader of octets, as the program reads: the next bytes of a reader; any reader that is not past its end. -/
namespace Go.Proofs.Ytaefdfnhibmgdaa.Given
set_option linter.unusedVariables false
set_option linter.unusedSimpArgs false
open Go.RowKit Go.Proofs.YtaefdfnhibmgdaaW.PrintWords Go.Proofs.YtaefdfnhibmgdaaW.PrintLast Go.Proofs.YtaefdfnhibmgdaaW.PrintMore
set_option maxHeartbeats 1000000 in
theorem next_ok (g : Nat) (w0 w : World) (b : List Int) (at_ : Int) (n : Int) (hI : IsS87 w0 w g b at_ false) (hB : Below w0.heap.size w0 w) (h0 : 0 ≤ n) (h1 : n ≤ b.length - at_) :
    Calls Try.prog 54 #[.pointer (some ⟨g, 0, none⟩), .int .i64 n] w fun e w' =>
      (∃ A c, e = .returned (.tuple #[.slice (some A) n.toNat c, .bool true]) ∧ Kd.C (Kd.int .u8) w0 (some A) n.toNat ((b.drop at_.toNat).take n.toNat) ∧ n.toNat ≤ c ∧ IsS87 w0 w' g b (at_ + n) false) ∧ Below w0.heap.size w0 w' ∧ KeepBut w w' g none := by
  obtain ⟨_, hb, hg, a, c, rfl, hr, hc, ha0, ha1⟩ := hI
  have c0 : w.cell? ⟨g, 0, none⟩ = some (.slice (some a) b.length c) := (blk_cell hb 0).trans rfl
  have c1 : w.cell? ⟨g, 1, none⟩ = some (.int .i64 at_) := (blk_cell hb 1).trans rfl
  have c2 : w.cell? ⟨g, 2, none⟩ = some (.bool false) := (blk_cell hb 2).trans rfl
  have hbl : b.length ≤ 9223372036854775807 := hr.2.1
  have hK := KeepBut.refl w g none
  have f1 := blk_frozen hb 1
  have f2 := blk_frozen hb 2
  have d0 : decide (n < 0) = false := decide_eq_false (by omega)
  have hw : IntKind.i64.wrap ((b.length : Int) - at_) = (b.length : Int) - at_ := IntWalk.i64_in _ (by omega)
  have d1 : decide ((b.length : Int) - at_ < n) = false := decide_eq_false (by omega)
  go_enter Try.func54, Try.ntmps54
  go_wp2_with fail
  go_quiet (fail)
  go_wp2_with fail
  obtain ⟨W1, hW1⟩ : ∃ W1, W1 = (w.drewN nq).setCell ⟨g, 1, none⟩ (.int .i64 (at_ + n)) := ⟨_, rfl⟩
  have hb1 : W1.heap[g]? = some (.cells #[.slice (some a) b.length c, .int .i64 (at_ + n), .bool false] 87 (0, 0)) := by rw [hW1]; exact blk_put (w := w.drewN nq) hb 1 _ rfl
  have hB1 : Below w0.heap.size w0 W1 := by rw [hW1]; exact below_set (pw_below_drewN hB nq) hg
  have hK1 : KeepBut w W1 g none := by rw [hW1]; exact KeepBut.set_ (keep_drewN hK nq) 1 _
  rw [← hW1]
  have hl := Kd.C_mid (k := Kd.int .u8) (lo := at_.toNat) (hi := (at_ + n).toNat) (c := c) hr (by omega) (by omega) hc
  have he : (b.take (at_ + n).toNat).drop at_.toNat = (b.drop at_.toNat).take n.toNat := by rw [List.drop_take]; congr 1; omega
  have hle : ((b.drop at_.toNat).take n.toNat).length = n.toNat := by simp; omega
  rw [he, hle] at hl
  have hnn : (at_ + n).toNat - at_.toNat = n.toNat := by omega
  have hl := Aside0.mk hl
  have hnn := Aside0.mk hnn
  clear hW1 c0 c1 c2 f1 f2 hb hK d0 d1 hw he hle
  have c0 : W1.cell? ⟨g, 0, none⟩ = some (.slice (some a) b.length c) := (blk_cell hb1 0).trans rfl
  have c1 : W1.cell? ⟨g, 1, none⟩ = some (.int .i64 (at_ + n)) := (blk_cell hb1 1).trans rfl
  have hs : IntKind.i64.wrap (at_ + n - n) = at_ := by rw [show at_ + n - n = at_ by omega]; exact IntWalk.i64_in _ (by omega)
  have s1 : at_ ≤ at_ + n := by omega
  have s2 : at_ + n ≤ (c : Int) := by omega
  go_quiet (fail)
  go_wp2_with fail
  · go_ret2
    rename_i h
    have hl := hl.out
    rw [if_pos h] at hl
    refine ⟨⟨a, 0, ?_, hl, by omega, _, hb1, hg, a, c, rfl, hr, hc, by omega, by omega⟩, pw_below_drewN hB1 _, keep_drewN hK1 _⟩
    rw [← hnn.out]
    rfl
  · go_ret2
    rename_i h
    have hl := hl.out
    rw [if_neg h, show at_.toNat * (Kd.int .u8).sz = at_.toNat from Nat.mul_one _] at hl
    refine ⟨⟨a.add at_.toNat, c - at_.toNat, ?_, hl, by omega, _, hb1, hg, a, c, rfl, hr, hc, by omega, by omega⟩, pw_below_drewN hB1 _, keep_drewN hK1 _⟩
    rw [← hnn.out]
    rfl
set_option maxHeartbeats 1000000 in
theorem next_bad (g : Nat) (w0 w : World) (b : List Int) (at_ : Int) (bad : Bool) (n : Int) (hI : IsS87 w0 w g b at_ bad) (hB : Below w0.heap.size w0 w) (h : ¬ (bad = false ∧ 0 ≤ n ∧ n ≤ b.length - at_)) :
    Calls Try.prog 54 #[.pointer (some ⟨g, 0, none⟩), .int .i64 n] w fun e w' =>
      (e = .returned (.tuple #[.slice none 0 0, .bool false]) ∧ IsS87 w0 w' g b at_ true) ∧ Below w0.heap.size w0 w' ∧ KeepBut w w' g none := by
  obtain ⟨_, hb, hg, a, c, rfl, hr, hc, ha0, ha1⟩ := hI
  have c0 : w.cell? ⟨g, 0, none⟩ = some (.slice (some a) b.length c) := (blk_cell hb 0).trans rfl
  have c1 : w.cell? ⟨g, 1, none⟩ = some (.int .i64 at_) := (blk_cell hb 1).trans rfl
  have c2 : w.cell? ⟨g, 2, none⟩ = some (.bool bad) := (blk_cell hb 2).trans rfl
  have hbl : b.length ≤ 9223372036854775807 := hr.2.1
  have hK := KeepBut.refl w g none
  have f1 := blk_frozen hb 1
  have f2 := blk_frozen hb 2
  cases bad
  · by_cases h0 : n < 0
    · have d0 : decide (n < 0) = true := decide_eq_true h0
      go_enter Try.func54, Try.ntmps54
      go_wp2_with fail
      go_quiet (fail)
      go_wp2_with fail
      go_ret2
      exact ⟨⟨rfl, _, blk_put (w := w.drewN nq) hb 2 _ rfl, hg, a, c, rfl, hr, hc, ha0, ha1⟩, below_set (pw_below_drewN hB nq) hg, KeepBut.set_ (keep_drewN hK nq) 2 _⟩
    · have d0 : decide (n < 0) = false := decide_eq_false h0
      have hw : IntKind.i64.wrap ((b.length : Int) - at_) = (b.length : Int) - at_ := IntWalk.i64_in _ (by omega)
      have d1 : decide ((b.length : Int) - at_ < n) = true := decide_eq_true (by by_cases h1 : n ≤ b.length - at_; exact absurd ⟨rfl, by omega, h1⟩ h; omega)
      go_enter Try.func54, Try.ntmps54
      go_wp2_with fail
      go_quiet (fail)
      go_wp2_with fail
      go_ret2
      exact ⟨⟨rfl, _, blk_put (w := w.drewN nq) hb 2 _ rfl, hg, a, c, rfl, hr, hc, ha0, ha1⟩, below_set (pw_below_drewN hB nq) hg, KeepBut.set_ (keep_drewN hK nq) 2 _⟩
  · go_enter Try.func54, Try.ntmps54
    go_wp2_with fail
    go_ret2
    exact ⟨⟨rfl, _, hb, hg, a, c, rfl, hr, hc, ha0, ha1⟩, hB, hK⟩
end Go.Proofs.Ytaefdfnhibmgdaa.Given
end

section
/- The reader of octets, as the program reads: a number, bytes, a text; any reader that is not past its end. -/
namespace Go.Proofs.Ytaefdfnhibmgdaa.Given
set_option linter.unusedVariables false
set_option linter.unusedSimpArgs false
open Go.RowKit Go.Proofs.YtaefdfnhibmgdaaW.PrintWords Go.Proofs.YtaefdfnhibmgdaaW.PrintLast Go.Proofs.YtaefdfnhibmgdaaW.PrintMore
attribute [local go_sem] max2_int min2_int
/-- The number whose bytes are l, the least first. -/
def leN : List Int → Int
  | [] => 0
  | x :: xs => x + 256 * leN xs
theorem leN_app (xs : List Int) (x : Int) : leN (xs ++ [x]) = leN xs + x * 2 ^ (8 * xs.length) := by
  induction xs with
  | nil => simp [leN]
  | cons y ys ih =>
    simp only [List.cons_append, leN, ih, List.length_cons]
    rw [show 8 * (ys.length + 1) = 8 * ys.length + 8 by omega, Int.pow_add, Int.mul_add, Int.add_assoc]
    congr 2
    rw [show (2 : Int) ^ 8 = 256 from rfl, Int.mul_comm 256, Int.mul_assoc]
theorem leN_lim (xs : List Int) (h : ∀ x ∈ xs, 0 ≤ x ∧ x < 256) : 0 ≤ leN xs ∧ leN xs < 2 ^ (8 * xs.length) := by
  induction xs with
  | nil => simp [leN]
  | cons y ys ih =>
    have h1 := h y (by simp)
    have h2 := ih (fun x hx => h x (by simp [hx]))
    simp only [leN, List.length_cons]
    rw [show 8 * (ys.length + 1) = 8 * ys.length + 8 by omega, Int.pow_add, show (2 : Int) ^ 8 = 256 from rfl]
    generalize (2 : Int) ^ (8 * ys.length) = p at *
    omega
theorem ofInt64 (n : Nat) (h : n < 2 ^ 64) : (BitVec.ofInt 64 (n : Int)).toNat = n := by
  rw [BitVec.toNat_ofInt]
  omega
theorem or_add (n x k : Nat) (hn : n < 2 ^ k) (h : x * 2 ^ k + n < 2 ^ 64) : Go.bits .or .u64 (n : Int) ((x * 2 ^ k : Nat) : Int) = ((n + x * 2 ^ k : Nat) : Int) := by
  have e : n ||| x * 2 ^ k = n + x * 2 ^ k := by
    rw [Nat.or_comm, Nat.mul_comm, ← Nat.two_pow_add_eq_or_of_lt hn, Nat.add_comm]
  show IntKind.u64.wrap ((BitVec.ofInt 64 (n : Int) ||| BitVec.ofInt 64 ((x * 2 ^ k : Nat) : Int)).toNat : Int) = _
  rw [BitVec.toNat_or, ofInt64 n (by omega), ofInt64 _ (by omega), e]
  show ((n + x * 2 ^ k : Nat) : Int) % 18446744073709551616 = _
  omega
theorem or_step (v x : Int) (j : Nat) (hj : j < 8) (hv : 0 ≤ v ∧ v < 2 ^ (8 * j)) (hx : 0 ≤ x ∧ x < 256) : Go.bits .or .u64 v (IntKind.u64.wrap (x * 2 ^ (8 * j))) = v + x * 2 ^ (8 * j) := by
  obtain ⟨n, rfl⟩ := Int.eq_ofNat_of_zero_le hv.1
  obtain ⟨y, rfl⟩ := Int.eq_ofNat_of_zero_le hx.1
  have hn : n < 2 ^ (8 * j) := by have := hv.2; exact_mod_cast this
  have hy : y < 256 := by omega
  have hp : y * 2 ^ (8 * j) + n < 2 ^ 64 := by
    have h2 : 2 ^ (8 * j) * 2 ^ (64 - 8 * j) = 2 ^ 64 := by rw [← Nat.pow_add]; congr 1; omega
    have h3 : 256 ≤ 2 ^ (64 - 8 * j) := by
      have : 2 ^ 8 ≤ 2 ^ (64 - 8 * j) := Nat.pow_le_pow_right (by omega) (by omega)
      simpa using this
    have h4 : 2 ^ (8 * j) * 256 ≤ 2 ^ 64 := by rw [← h2]; exact Nat.mul_le_mul_left _ h3
    have h5 : (y + 1) * 2 ^ (8 * j) ≤ 2 ^ (8 * j) * 256 := by rw [Nat.mul_comm]; exact Nat.mul_le_mul_left _ (by omega)
    rw [Nat.add_mul] at h5
    omega
  have e2 : (y : Int) * 2 ^ (8 * j) = ((y * 2 ^ (8 * j) : Nat) : Int) := by push_cast; rfl
  have e3 : IntKind.u64.wrap ((y * 2 ^ (8 * j) : Nat) : Int) = ((y * 2 ^ (8 * j) : Nat) : Int) := by
    show ((y * 2 ^ (8 * j) : Nat) : Int) % 18446744073709551616 = _
    omega
  show Go.bits .or .u64 (n : Int) (IntKind.u64.wrap ((y : Int) * 2 ^ (8 * j))) = (n : Int) + (y : Int) * 2 ^ (8 * j)
  rw [e2, e3, or_add n y _ hn hp]
  push_cast
  rfl
set_option maxHeartbeats 1000000 in
theorem num_ok (g : Nat) (w0 w : World) (b : List Int) (at_ : Int) (many m : Int) (hm : mx 0 (mn many 8) = m) (L : List Int) (hL : L = (b.drop at_.toNat).take m.toNat) (hI : IsS87 w0 w g b at_ false) (hB : Below w0.heap.size w0 w) (h1 : m ≤ b.length - at_) (hb : ∀ x ∈ b, 0 ≤ x ∧ x < 256) :
    Calls Try.prog 31 #[.pointer (some ⟨g, 0, none⟩), .int .i64 many] w fun e w' =>
      (e = .returned (.int .i64 (wrap64 (leN L))) ∧ IsS87 w0 w' g b (at_ + m) false) ∧ Below w0.heap.size w0 w' ∧ KeepBut w w' g none := by
  obtain ⟨M, hM⟩ : ∃ M : Int, (if (8 : Int) < many then 8 else many) = M := ⟨_, rfl⟩
  have hN : (if (0 : Int) < M then M else 0) = m := by rw [← hM, ← hm]; unfold mx mn; (repeat' split) <;> omega
  have hm0 : 0 ≤ m := by rw [← hN]; split <;> omega
  have hm8 : m ≤ 8 := by rw [← hN, ← hM]; (repeat' split) <;> omega
  go_enter Try.func31, Try.ntmps31
  go_wp2_with fail
  refine (next_ok g w0 _ b at_ m hI hB hm0 h1).mono ?_
  rintro e w1 ⟨⟨A, c, rfl, hC, hc, hI1⟩, hB1, hK1⟩
  go_wp2_with fail
  rw [← hL] at hC
  have hlen : L.length = m.toNat := by have := hC.1; omega
  have hcells : ∀ j : Nat, ∀ h : j < L.length, w1.cell? (A.add j) = some (.int .u8 L[j]) := by
    intro j h
    obtain ⟨ad, e, hc⟩ := C_cells (Kd.C_below hC hB1) (by omega)
    cases e
    exact hc j _ (by simp [nums, h])
  have hrange : ∀ x ∈ L, 0 ≤ x ∧ x < 256 := by
    intro x hx
    rw [hL] at hx
    exact hb x (List.mem_of_mem_drop (List.mem_of_mem_take hx))
  have HL := Aside0.mk hrange
  have HN := Aside0.mk hlen
  clear hM hN hm h1 hL hb hrange hlen
  go_loopw [7, 22] (fun x i wr => ∃ j : Nat, j ≤ m.toNat ∧ i = .int .i64 j ∧ x = .int .u64 (leN (L.take j)) ∧ wr = w1) (fun _ i _ => m.toNat - (intOf i).toNat)
  case atStart => exact ⟨0, Nat.zero_le _, rfl, rfl, rfl⟩
  case round =>
    obtain ⟨j, hj, rfl, rfl, rfl⟩ := hrel
    by_cases hlt : j < m.toNat
    · have hlj : j < L.length := by have := HN.out; omega
      have hlen := HN.out
      have hce := hcells j hlj
      have hx := HL.out _ (List.getElem_mem hlj)
      have ht : leN (L.take j) + L[j] * 2 ^ (8 * j) = leN (L.take (j + 1)) := by
        rw [List.take_succ_eq_append_getElem (by omega), leN_app, List.length_take, Nat.min_eq_left (by omega)]
      have hv := leN_lim (L.take j) (fun x h => HL.out x (List.mem_of_mem_take h))
      rw [List.length_take, Nat.min_eq_left (by omega)] at hv
      have ho := Aside0.mk (or_step (leN (L.take j)) L[j] j (by omega) hv hx)
      have ht := Aside0.mk ht
      clear hv
      clear hlen
      go_wp2_with fail
      refine ⟨⟨j + 1, by omega, rfl, ?_, trivial⟩, by simp [intOf]; omega⟩
      rw [ho.out, ht.out]
    · go_wp2_with fail
      go_ret
      have : j = L.length := by have := HN.out; omega
      subst this
      rw [List.take_length] at *
      exact ⟨⟨rfl, hI1⟩, hB1, hK1⟩
set_option maxHeartbeats 1000000 in
theorem num_bad (g : Nat) (w0 w : World) (b : List Int) (at_ : Int) (bad : Bool) (many m : Int) (hm : mx 0 (mn many 8) = m) (hI : IsS87 w0 w g b at_ bad) (hB : Below w0.heap.size w0 w) (h : ¬ (bad = false ∧ 0 ≤ m ∧ m ≤ b.length - at_)) :
    Calls Try.prog 31 #[.pointer (some ⟨g, 0, none⟩), .int .i64 many] w fun e w' =>
      (e = .returned (.int .i64 0) ∧ IsS87 w0 w' g b at_ true) ∧ Below w0.heap.size w0 w' ∧ KeepBut w w' g none := by
  obtain ⟨M, hM⟩ : ∃ M : Int, (if (8 : Int) < many then 8 else many) = M := ⟨_, rfl⟩
  have hN : (if (0 : Int) < M then M else 0) = m := by rw [← hM, ← hm]; unfold mx mn; (repeat' split) <;> omega
  go_enter Try.func31, Try.ntmps31
  go_wp2_with fail
  refine (next_bad g w0 _ b at_ bad m hI hB h).mono ?_
  rintro e w1 ⟨⟨rfl, hI1⟩, hB1, hK1⟩
  go_wp2_with fail
  go_ret
  exact ⟨⟨rfl, hI1⟩, hB1, hK1⟩
set_option maxHeartbeats 1000000 in
theorem take_bad (g : Nat) (w0 w : World) (b : List Int) (at_ : Int) (bad : Bool) (n : Int) (hI : IsS87 w0 w g b at_ bad) (hB : Below w0.heap.size w0 w) (h : ¬ (bad = false ∧ 0 ≤ n ∧ n ≤ b.length - at_)) :
    Calls Try.prog 56 #[.pointer (some ⟨g, 0, none⟩), .int .i64 n] w fun e w' =>
      (e = .returned (.slice none 0 0) ∧ IsS87 w0 w' g b at_ true) ∧ Below w0.heap.size w0 w' ∧ KeepBut w w' g none := by
  go_enter Try.func56, Try.ntmps56
  go_wp2_with fail
  refine (next_bad g w0 _ b at_ bad n hI hB h).mono ?_
  rintro e w1 ⟨⟨rfl, hI1⟩, hB1, hK1⟩
  go_wp2_with fail
  go_ret
  exact ⟨⟨rfl, hI1⟩, hB1, hK1⟩
set_option maxHeartbeats 1000000 in
theorem take_ok (g : Nat) (w0 w : World) (b : List Int) (at_ : Int) (n : Int) (L : List Int) (hL : L = (b.drop at_.toNat).take n.toNat) (hI : IsS87 w0 w g b at_ false) (hB : Below w0.heap.size w0 w) (h0 : 0 ≤ n) (h1 : n ≤ b.length - at_) (hbl : b.length ≤ 1000000000) (ha : 0 ≤ at_) :
    Calls Try.prog 56 #[.pointer (some ⟨g, 0, none⟩), .int .i64 n] w fun e w' =>
      (∃ v0_ : Value, e = .returned v0_ ∧ Kd.R (Kd.int .u8) 5 w' w.heap.size (fun _ => True) v0_ L ∧ IsS87 w0 w' g b (at_ + n) false) ∧ Below w0.heap.size w0 w' ∧ KeepBut w w' g none := by
  have hlen : L.length = n.toNat := by rw [hL]; simp; omega
  go_enter Try.func56, Try.ntmps56
  go_wp2_with fail
  refine (next_ok g w0 _ b at_ n hI hB h0 h1).mono ?_
  rintro e w1 ⟨⟨A, c, rfl, hC, hc, hI1⟩, hB1, hK1⟩
  rw [← hL, ← hlen] at hC
  rw [← hlen] at hc ⊢
  obtain ⟨Z, hZ⟩ : ∃ Z : List Value, Z.toArray = madeCells #[.int .u8 0] L.length := ⟨_, Array.toArray_toList⟩
  have hZs : Z.length = L.length := by have := congrArg Array.size hZ; simpa [size_madeCells] using this
  have hmk := make_lc (P := Try.prog) 23 5 .u8 1 Try.underlying23 infoU8 L.length L.length (L.length : Int) (by omega) (by omega) (by omega) (by omega)
  rw [← hZ] at hmk
  have HZ := Aside0.mk hZs
  have HL := Aside0.mk (show L.length ≤ 9223372036854775807 by omega)
  have HC := Aside0.mk hC
  clear hL hZ hZs hlen h1 hC
  go_wp2_with ((with_reducible refine wpList_copy_splice rfl (.tmp 19) (.tmp 20) 23 23 rfl 5 Try.underlying23 sizeU8 (some ⟨w1.heap.size, 0, none⟩) (some A) L.length L.length L.length c rfl rfl w1.heap.size 0 Z 5 ?hg (nums .u8 L) ?hn ?hpos ?hfit (nums_one _ _) w1.heap.size w1 ((Below.refl _ _).alloc (Nat.le_refl _) _) (Nat.le_refl _) ?_); rotate_left 4; intro w2 HG HB2; have HO := Aside0.mk (own_copied (base := w.heap.size) HZ.out rfl (Nat.le_refl _) HL.out hK1.1 HG.out); clear HG)
  case hg => exact heap_alloc_new w1 _
  case hpos =>
    intro hp
    obtain ⟨ad, e, hx⟩ := C_cells (Kd.C_below HC.out (hB1.alloc hB1.size (.cells Z.toArray 5))) (by rwa [nums_length] at hp)
    cases e
    exact hx
  case hn => (simp [nums_length])
  case hfit => (have h1 := HZ.out; have h2 := nums_length .u8 L; omega)
  go_ret
  exact ⟨⟨_, rfl, Kd.R_of_own HO.out (fun _ _ => trivial), hI1.below HB2⟩, below_then hB1 hB1.size HB2, hK1.trans (KeepBut.of_below HB2 g none) (.inl rfl)⟩
end Go.Proofs.Ytaefdfnhibmgdaa.Given
end

section
/- The reader of octets, as the program reads: a text, what is left, where it is, whether it's bad, and a new one; any reader that is not past its end. -/
namespace Go.Proofs.Ytaefdfnhibmgdaa.Given
set_option linter.unusedVariables false
set_option linter.unusedSimpArgs false
open Go.RowKit Go.Proofs.YtaefdfnhibmgdaaW.PrintWords Go.Proofs.YtaefdfnhibmgdaaW.PrintLast Go.Proofs.YtaefdfnhibmgdaaW.PrintMore
attribute [local go_sem] max2_int min2_int
set_option maxHeartbeats 1000000 in
theorem bad_calls (g : Nat) (w0 w : World) (b : List Int) (at_ : Int) (bad : Bool) (hI : IsS87 w0 w g b at_ bad) :
    Calls Try.prog 52 #[.pointer (some ⟨g, 0, none⟩)] w fun e w' => e = .returned (.bool bad) ∧ Drawn0 w w' := by
  obtain ⟨_, hb, hg, a, c, rfl, hr, hc, ha0, ha1⟩ := hI
  have c2 : w.cell? ⟨g, 2, none⟩ = some (.bool bad) := (blk_cell hb 2).trans rfl
  go_enter Try.func52, Try.ntmps52
  go_wp2_with fail
  go_ret
  exact ⟨rfl, Drawn0.refl _⟩
set_option maxHeartbeats 1000000 in
theorem left_calls (g : Nat) (w0 w : World) (b : List Int) (at_ : Int) (bad : Bool) (hI : IsS87 w0 w g b at_ bad) :
    Calls Try.prog 53 #[.pointer (some ⟨g, 0, none⟩)] w fun e w' => e = .returned (.int .i64 (if bad then 0 else b.length - at_)) ∧ Drawn0 w w' := by
  have hbad := Aside0.mk (bad_calls g w0 w b at_ bad hI)
  obtain ⟨_, hb, hg, a, c, rfl, hr, hc, ha0, ha1⟩ := hI
  have c0 : w.cell? ⟨g, 0, none⟩ = some (.slice (some a) b.length c) := (blk_cell hb 0).trans rfl
  have c1 : w.cell? ⟨g, 1, none⟩ = some (.int .i64 at_) := (blk_cell hb 1).trans rfl
  have hbl : b.length ≤ 9223372036854775807 := hr.2.1
  have hw : IntKind.i64.wrap ((b.length : Int) - at_) = (b.length : Int) - at_ := IntWalk.i64_in _ (by omega)
  cases bad
  · go_enter Try.func53, Try.ntmps53
    go_wp2_with fail
    refine hbad.out.mono ?_
    rintro e w1 ⟨rfl, n, rfl⟩
    go_wp2_with fail
    go_quiet (fail)
    go_wp2_with fail
    go_ret
    exact ⟨rfl, n + nq, rfl⟩
  · go_enter Try.func53, Try.ntmps53
    go_wp2_with fail
    refine hbad.out.mono ?_
    rintro e w1 ⟨rfl, n, rfl⟩
    go_wp2_with fail
    go_ret
    exact ⟨rfl, n, rfl⟩
/-- What a reader tells of the next n bytes. -/
def okR (b : List Int) (at_ : Int) (bad : Bool) (n : Int) : Prop := bad = false ∧ 0 ≤ n ∧ n ≤ b.length - at_
instance (b : List Int) (at_ : Int) (bad : Bool) (n : Int) : Decidable (okR b at_ bad n) := by unfold okR; infer_instance
def cutR (b : List Int) (at_ n : Int) : List Int := (b.drop at_.toNat).take n.toNat
def numR (b : List Int) (at_ : Int) (bad : Bool) (many : Int) : Int × Int × Bool := if okR b at_ bad (mx 0 (mn many 8)) then (wrap64 (leN (cutR b at_ (mx 0 (mn many 8)))), at_ + mx 0 (mn many 8), false) else (0, at_, true)
def takeR (b : List Int) (at_ : Int) (bad : Bool) (n : Int) : List Int × Int × Bool := if okR b at_ bad n then (cutR b at_ n, at_ + n, false) else ([], at_, true)
def okB (b : List Int) : Bool := b.all (fun x => decide (0 ≤ x) && decide (x < 256)) && decide (b.length ≤ 1000000000)
theorem okB_all {b : List Int} (h : okB b = true) : (∀ x ∈ b, 0 ≤ x ∧ x < 256) ∧ b.length ≤ 1000000000 := by
  unfold okB at h
  simp only [Bool.and_eq_true, List.all_eq_true, decide_eq_true_eq] at h
  exact h
theorem num_calls (g : Nat) (w0 w : World) (b : List Int) (at_ : Int) (bad : Bool) (many : Int) (hI : IsS87 w0 w g b at_ bad) (hB : Below w0.heap.size w0 w) (hb : okB b = true) :
    Calls Try.prog 31 #[.pointer (some ⟨g, 0, none⟩), .int .i64 many] w fun e w' =>
      e = .returned (.int .i64 (numR b at_ bad many).1) ∧ IsS87 w0 w' g b (numR b at_ bad many).2.1 (numR b at_ bad many).2.2 ∧ Below w0.heap.size w0 w' ∧ KeepBut w w' g none := by
  unfold numR
  by_cases h : okR b at_ bad (mx 0 (mn many 8))
  · rw [if_pos h]
    obtain ⟨rfl, h0, h1⟩ := h
    exact (num_ok g w0 w b at_ many _ rfl _ rfl hI hB h1 (okB_all hb).1).mono fun e w' ⟨⟨h1, h2⟩, h3, h4⟩ => ⟨h1, h2, h3, h4⟩
  · rw [if_neg h]
    exact (num_bad g w0 w b at_ bad many _ rfl hI hB h).mono fun e w' ⟨⟨h1, h2⟩, h3, h4⟩ => ⟨h1, h2, h3, h4⟩
theorem take_calls (g : Nat) (w0 w : World) (b : List Int) (at_ : Int) (bad : Bool) (n : Int) (hI : IsS87 w0 w g b at_ bad) (hB : Below w0.heap.size w0 w) (hb : okB b = true) :
    Calls Try.prog 56 #[.pointer (some ⟨g, 0, none⟩), .int .i64 n] w fun e w' =>
      ∃ v0_ : Value, e = .returned v0_ ∧ Kd.R (Kd.int .u8) 5 w' w.heap.size (fun _ => True) v0_ (takeR b at_ bad n).1 ∧ IsS87 w0 w' g b (takeR b at_ bad n).2.1 (takeR b at_ bad n).2.2 ∧ Below w0.heap.size w0 w' ∧ KeepBut w w' g none := by
  unfold takeR
  by_cases h : okR b at_ bad n
  · rw [if_pos h]
    obtain ⟨rfl, h0, h1⟩ := h
    have ha : 0 ≤ at_ := by obtain ⟨_, _, _, _, _, _, _, _, ha, _⟩ := hI; exact ha
    exact (take_ok g w0 w b at_ n _ rfl hI hB h0 h1 (okB_all hb).2 ha).mono fun e w' ⟨⟨v, h1, h2, h3⟩, h4, h5⟩ => ⟨v, h1, h2, h3, h4, h5⟩
  · rw [if_neg h]
    exact (take_bad g w0 w b at_ bad n hI hB h).mono fun e w' ⟨⟨h1, h2⟩, h3, h4⟩ => ⟨_, h1, Kd.R_nil _ _ _ _ _, h2, h3, h4⟩
/-- A text: as many bytes as the next byte says. -/
def textR (b : List Int) (at_ : Int) (bad : Bool) : ByteArray × Int × Bool :=
  let t := numR b at_ bad 1
  let u := takeR b t.2.1 t.2.2 t.1
  (strOfNums u.1, u.2.1, u.2.2)
set_option maxHeartbeats 1000000 in
theorem text_calls (g : Nat) (w0 w : World) (b : List Int) (at_ : Int) (bad : Bool) (hI : IsS87 w0 w g b at_ bad) (hB : Below w0.heap.size w0 w) (hb : okB b = true) :
    Calls Try.prog 43 #[.pointer (some ⟨g, 0, none⟩)] w fun e w' =>
      e = .returned (.string (textR b at_ bad).1) ∧ IsS87 w0 w' g b (textR b at_ bad).2.1 (textR b at_ bad).2.2 ∧ Below w0.heap.size w0 w' ∧ KeepBut w w' g none := by
  unfold textR
  dsimp only
  generalize ht : numR b at_ bad 1 = t
  generalize hu : takeR b t.2.1 t.2.2 t.1 = u
  have HT := Aside0.mk ht
  have HU := Aside0.mk hu
  have HB := Aside0.mk hb
  clear ht hu hb
  go_enter Try.func43, Try.ntmps43
  go_wp2_with fail
  refine (num_calls g w0 _ b at_ bad 1 hI hB HB.out).mono ?_
  rw [HT.out]
  rintro e w1 ⟨rfl, hI1, hB1, hK1⟩
  go_wp2_with fail
  refine (take_calls g w0 _ b t.2.1 t.2.2 t.1 hI1 hB1 HB.out).mono ?_
  rw [HU.out]
  rintro e w2 ⟨v, rfl, ho, hI2, hB2, hK2⟩
  have hcv := own_string (P := Try.prog) Try.underlying23 Try.underlying5 Try.underlying9 (Kd.own_of_R ho)
  go_wp2_with fail
  go_ret
  exact ⟨rfl, hI2, hB2, hK1.trans hK2 (.inl rfl)⟩
set_option maxHeartbeats 1000000 in
theorem new_calls (A0 : Option Addr) (c0 : Nat) (L : List Int) (w : World) (hr0 : Kd.C (Kd.int .u8) w A0 L.length L) (hc0 : L.length ≤ c0) (hl : L.length ≤ 1000000000) :
    Calls Try.prog 51 #[.slice A0 L.length c0] w fun e w' => ∃ (w1 : World) (g : Nat), e = .returned (.pointer (some ⟨g, 0, none⟩)) ∧ IsS87 w1 w' g L 0 false ∧ Below w.heap.size w w1 ∧ Below w1.heap.size w1 w' := by
  obtain ⟨Z, hZ⟩ : ∃ Z : List Value, Z.toArray = madeCells #[.int .u8 0] L.length := ⟨_, Array.toArray_toList⟩
  have hZs : Z.length = L.length := by have := congrArg Array.size hZ; simpa [size_madeCells] using this
  have hmk := make_lc (P := Try.prog) 23 5 .u8 1 Try.underlying23 infoU8 L.length L.length (L.length : Int) (by omega) (by omega) (by omega) (by omega)
  rw [← hZ] at hmk
  have HZ := Aside0.mk hZs
  have HL := Aside0.mk (show L.length ≤ 9223372036854775807 by omega)
  have HC := Aside0.mk hr0
  clear hZ hZs hr0 hl
  go_enter Try.func51, Try.ntmps51
  go_wp2_with ((with_reducible refine wpList_copy_splice rfl (.tmp 7) (.tmp 8) 23 23 rfl 5 Try.underlying23 sizeU8 (some ⟨w.heap.size, 0, none⟩) A0 L.length L.length L.length c0 rfl rfl w.heap.size 0 Z 5 ?hg (nums .u8 L) ?hn ?hpos ?hfit (nums_one _ _) w.heap.size w ((Below.refl _ _).alloc (Nat.le_refl _) _) (Nat.le_refl _) ?_); rotate_left 4; intro w2 HG HB2; have HO := Aside0.mk (own_copied (base := w.heap.size) HZ.out rfl (Nat.le_refl _) HL.out (Nat.le_refl _) HG.out); clear HG)
  case hg => exact heap_alloc_new w _
  case hpos =>
    intro hp
    have hx := C_cells (Kd.C_below HC.out ((Below.refl _ _).alloc (Nat.le_refl _) (.cells Z.toArray 5))) (by rwa [nums_length] at hp)
    first | exact ⟨rfl, hx⟩ | exact hx
  case hn => (simp [nums_length])
  case hfit => (have h1 := HZ.out; have h2 := nums_length .u8 L; omega)
  go_ret
  have hR : Kd.R (Kd.int .u8) 5 w2 w.heap.size (fun _ => True) (.slice (some ⟨w.heap.size, 0, none⟩) L.length L.length) L := Kd.R_of_own HO.out (fun _ _ => trivial)
  have hCC := (Kd.R_reads' hR).2.2
  exact ⟨w2, w2.heap.size, rfl, ⟨_, heap_alloc_new _ _, Nat.le_refl _, ⟨w.heap.size, 0, none⟩, L.length, rfl, hCC, Nat.le_refl _, Int.le_refl _, Int.natCast_nonneg _⟩, HB2, (Below.refl _ _).alloc (Nat.le_refl _) _⟩
end Go.Proofs.Ytaefdfnhibmgdaa.Given
end

section
/- The document's reader of octets: what it tells of the next bytes; any reader that is not past its end. -/
namespace Go.Proofs.Ytaefdfnhibmgdaa.Given
set_option linter.unusedVariables false
set_option linter.unusedSimpArgs false
open Go.RowKit Go.Proofs.YtaefdfnhibmgdaaW.PrintWords Go.Proofs.YtaefdfnhibmgdaaW.PrintLast Go.Proofs.YtaefdfnhibmgdaaW.PrintMore
attribute [local go_sem] max2_int min2_int
/-- The cells of a document's reader of f0, that is at f1: what is left lies behind. -/
def CsF (w0 : World) (cs : Array Value) (f0 : List Int) (f1 : Int) (f2 : Bool) : Prop := ∃ a c, cs = #[.slice a (f0.drop f1.toNat).length c, .int .i64 f1, .bool f2] ∧ Kd.C (Kd.int .u8) w0 a (f0.drop f1.toNat).length (f0.drop f1.toNat) ∧ (f0.drop f1.toNat).length ≤ c ∧ 0 ≤ f1 ∧ f1 ≤ f0.length
/-- A state of this type at block g of W. -/
def IsS84 (w0 W : World) (g : Nat) (f0 : List Int) (f1 : Int) (f2 : Bool) : Prop := ∃ cs, W.heap[g]? = some (.cells cs 84 (0, 0)) ∧ w0.heap.size ≤ g ∧ CsF w0 cs f0 f1 f2
theorem IsS84.grown {w0 W : World} {g : Nat} {f0 : List Int} {f1 : Int} {f2 : Bool} {W1 : World} {row : Option Nat} (h : IsS84 w0 W g f0 f1 f2) (hw : W.grownBy W1 row) (hne : some g ≠ row) : IsS84 w0 W1 g f0 f1 f2 := by
  obtain ⟨cs, hb, hg, hx⟩ := h
  exact ⟨cs, blk_grown hb hw hne, hg, hx⟩
theorem IsS84.kept {w0 W : World} {g : Nat} {f0 : List Int} {f1 : Int} {f2 : Bool} {W1 : World} {S : Nat → Prop} (h : IsS84 w0 W g f0 f1 f2) (hk : Kept W W1 S) (hne : ¬ S g) : IsS84 w0 W1 g f0 f1 f2 := by
  obtain ⟨cs, hb, hg, hx⟩ := h
  exact ⟨cs, blk_kept hb hk hne, hg, hx⟩
theorem IsS84.below {w0 W : World} {g : Nat} {f0 : List Int} {f1 : Int} {f2 : Bool} {W1 : World} (h : IsS84 w0 W g f0 f1 f2) (hw : Below W.heap.size W W1) : IsS84 w0 W1 g f0 f1 f2 := h.grown (grown_of_below hw none) (by simp)
theorem IsS84.alloc {w0 W : World} {g : Nat} {f0 : List Int} {f1 : Int} {f2 : Bool} (h : IsS84 w0 W g f0 f1 f2) (o : Obj) : IsS84 w0 (W.alloc o) g f0 f1 f2 := h.below (below_alloc (Below.refl _ _) o)
theorem IsS84.drewN {w0 W : World} {g : Nat} {f0 : List Int} {f1 : Int} {f2 : Bool} (h : IsS84 w0 W g f0 f1 f2) (m : Nat) : IsS84 w0 (W.drewN m) g f0 f1 f2 := h
theorem IsS84.drew {w0 W : World} {g : Nat} {f0 : List Int} {f1 : Int} {f2 : Bool} (h : IsS84 w0 W g f0 f1 f2) : IsS84 w0 W.drew g f0 f1 f2 := h
theorem IsS84.at_ {w0 W : World} {g : Nat} {f0 : List Int} {f1 : Int} {f2 : Bool} {w' : World} {m : Nat} (hq : W.drewN m = w') (h : IsS84 w0 W g f0 f1 f2) : IsS84 w0 w' g f0 f1 f2 := by subst hq; exact IsS84.drewN h m
theorem IsS84.apart {w0 W : World} {g : Nat} {f0 : List Int} {f1 : Int} {f2 : Bool} {α : Type} {d : Kd α} {e : Nat} {base : Nat} {ok : Nat → Prop} {v : Value} {xs : List α} (h : IsS84 w0 W g f0 f1 f2) (ho : d.R e W base ok v xs) (ht : ∀ q, q ∈ e :: d.E → q ≠ 84) : d.R e W base (fun k => ok k ∧ k ≠ g) v xs := by
  obtain ⟨cs, hb, hg, hx⟩ := h
  exact Kd.R_types ho hb ht
theorem IsS84.own_ne {w0 W : World} {g : Nat} {f0 : List Int} {f1 : Int} {f2 : Bool} {α : Type} {d : Kd α} {e : Nat} {base : Nat} {ok : Nat → Prop} {v : Value} {xs : List α} (h : IsS84 w0 W g f0 f1 f2) (ho : d.R e W base ok v xs) (ht : e ≠ 84) : some g ≠ v.ownBlock := by
  obtain ⟨cs, hb, hg, hx⟩ := h
  exact Kd.R_ne ho hb ht
theorem IsS84.lt {w0 W : World} {g : Nat} {f0 : List Int} {f1 : Int} {f2 : Bool} (h : IsS84 w0 W g f0 f1 f2) : g < W.heap.size := by
  obtain ⟨cs, hb, hg, hx⟩ := h
  exact blk_lt hb
theorem IsS84.far {w0 W : World} {g : Nat} {f0 : List Int} {f1 : Int} {f2 : Bool} {p : Addr} (h : IsS84 w0 W g f0 f1 f2) (hne : g ≠ p.block) (u : Value) : IsS84 w0 (W.setCell p u) g f0 f1 f2 := by
  obtain ⟨cs, hb, hg, hx⟩ := h
  exact ⟨cs, blk_far hb hne u, hg, hx⟩
set_option maxHeartbeats 1000000 in
theorem rtake_ok (g : Nat) (w0 w : World) (b : List Int) (at_ : Int) (n : Int) (hI : IsS84 w0 w g b at_ false) (hB : Below w0.heap.size w0 w) (h0 : 0 ≤ n) (h1 : n ≤ b.length - at_) (hbl : b.length ≤ 1000000000) :
    Calls Try.prog 55 #[.pointer (some ⟨g, 0, none⟩), .int .i64 n] w fun e w' =>
      (∃ A c, e = .returned (.slice A n.toNat c) ∧ Kd.C (Kd.int .u8) w0 A n.toNat (cutR b at_ n) ∧ n.toNat ≤ c ∧ IsS84 w0 w' g b (at_ + n) false) ∧ Below w0.heap.size w0 w' ∧ KeepBut w w' g none := by
  obtain ⟨_, hb, hg, a, c, rfl, hr, hc, ha0, ha1⟩ := hI
  obtain ⟨L, hL⟩ : ∃ L, L = b.drop at_.toNat := ⟨_, rfl⟩
  have hLl : (L.length : Int) = b.length - at_ := by rw [hL]; simp; omega
  have hcut : cutR b at_ n = L.take n.toNat := by unfold cutR; rw [hL]
  have hnx : b.drop (at_ + n).toNat = L.drop n.toNat := by rw [hL, List.drop_drop]; congr 1; omega
  rw [← hL] at hb hr hc
  rw [hcut]
  have hD := Kd.C_drop (k := Kd.int .u8) (m := n.toNat) (c := c) hr (by omega) hc
  have hT := Kd.C_take (k := Kd.int .u8) (m := n.toNat) hr (by omega)
  rw [show (L.take n.toNat).length = n.toNat by simp; omega] at hT
  rw [show n.toNat * (Kd.int .u8).sz = n.toNat from Nat.mul_one _] at hD
  have HN := Aside0.mk (show ∀ (W1 : World) (A' : Option Addr) (c' : Nat), W1.heap[g]? = some (.cells #[.slice A' (L.length - n.toNat) c', .int .i64 (at_ + n), .bool false] 84 (0, 0)) → (if c = n.toNat then a else a.map (·.add n.toNat)) = A' → c' = c - n.toNat → IsS84 w0 W1 g b (at_ + n) false by
    intro W1 A' c' hb1 hA hc'
    rw [hA] at hD
    refine ⟨_, hb1, hg, A', c', ?_, ?_, ?_, by omega, by omega⟩
    · rw [hnx, List.length_drop]
    · rw [hnx]; exact hD
    · rw [hnx, List.length_drop]; omega)
  have HT := Aside0.mk hT
  have hab : at_ + n ≤ 1000000000 := by omega
  have hwb : 0 ≤ at_ + n := by omega
  have hcm : n.toNat ≤ c := by omega
  clear hL hnx hD hT hcut
  have hK := KeepBut.refl w g none
  have hLb : L.length ≤ 9223372036854775807 := hr.2.1
  have c0 : w.cell? ⟨g, 0, none⟩ = some (.slice a L.length c) := (blk_cell hb 0).trans rfl
  have c1 : w.cell? ⟨g, 1, none⟩ = some (.int .i64 at_) := (blk_cell hb 1).trans rfl
  have c2 : w.cell? ⟨g, 2, none⟩ = some (.bool false) := (blk_cell hb 2).trans rfl
  have f0 := blk_frozen hb 0
  have f1 := blk_frozen hb 1
  have f2 := blk_frozen hb 2
  have d0 : decide (n < 0) = false := decide_eq_false (by omega)
  have d1 : decide ((L.length : Int) < n) = false := decide_eq_false (by omega)
  go_enter Try.func55, Try.ntmps55
  go_wp2_with fail
  all_goals go_ret
  · rename_i h
    refine ⟨⟨a, n.toNat, rfl, HT.out, by omega, HN.out _ a 0 (blk_put (blk_put hb 0 _ rfl) 1 _ rfl) (if_pos h) (by omega)⟩, below_set (below_set hB hg) hg, KeepBut.set_ (KeepBut.set_ hK 0 _) 1 _⟩
  · rename_i h
    refine ⟨⟨a, c, rfl, HT.out, by omega, HN.out _ (a.map (·.add n.toNat)) (c - n.toNat) (blk_put (blk_put hb 0 _ rfl) 1 _ rfl) (if_neg h) rfl⟩, below_set (below_set hB hg) hg, KeepBut.set_ (KeepBut.set_ hK 0 _) 1 _⟩
set_option maxHeartbeats 1000000 in
theorem rtake_bad (g : Nat) (w0 w : World) (b : List Int) (at_ : Int) (bad : Bool) (n : Int) (hI : IsS84 w0 w g b at_ bad) (hB : Below w0.heap.size w0 w) (h : ¬ okR b at_ bad n) :
    Calls Try.prog 55 #[.pointer (some ⟨g, 0, none⟩), .int .i64 n] w fun e w' =>
      (e = .returned (.slice none 0 0) ∧ IsS84 w0 w' g b at_ true) ∧ Below w0.heap.size w0 w' ∧ KeepBut w w' g none := by
  unfold okR at h
  obtain ⟨_, hb, hg, a, c, rfl, hr, hc, ha0, ha1⟩ := hI
  have HX := Aside0.mk (show ∀ W1 : World, W1.heap[g]? = some (.cells #[.slice a (b.drop at_.toNat).length c, .int .i64 at_, .bool true] 84 (0, 0)) → IsS84 w0 W1 g b at_ true from fun W1 hb1 => ⟨_, hb1, hg, a, c, rfl, hr, hc, ha0, ha1⟩)
  have hLl : (((b.drop at_.toNat).length : Nat) : Int) = b.length - at_ := by simp; omega
  generalize b.drop at_.toNat = L at *
  have hK := KeepBut.refl w g none
  have c0 : w.cell? ⟨g, 0, none⟩ = some (.slice a L.length c) := (blk_cell hb 0).trans rfl
  have c2 : w.cell? ⟨g, 2, none⟩ = some (.bool bad) := (blk_cell hb 2).trans rfl
  have f2 := blk_frozen hb 2
  have HF := Aside0.mk hb
  cases bad
  · by_cases h0 : n < 0
    · have d0 : decide (n < 0) = true := decide_eq_true h0
      clear h hLl
      go_enter Try.func55, Try.ntmps55
      go_wp2_with fail
      go_ret
      exact ⟨⟨rfl, HX.out _ (blk_put HF.out 2 _ rfl)⟩, below_set hB hg, KeepBut.set_ hK 2 _⟩
    · have d0 : decide (n < 0) = false := decide_eq_false h0
      have h1 : (L.length : Int) < n := by by_cases h1 : n ≤ b.length - at_; exact absurd ⟨rfl, by omega, h1⟩ h; omega
      have d1 : decide ((L.length : Int) < n) = true := decide_eq_true h1
      clear h hLl
      go_enter Try.func55, Try.ntmps55
      go_wp2_with fail
      go_ret
      exact ⟨⟨rfl, HX.out _ (blk_put HF.out 2 _ rfl)⟩, below_set hB hg, KeepBut.set_ hK 2 _⟩
  · clear h hLl
    go_enter Try.func55, Try.ntmps55
    go_wp2_with fail
    go_ret
    exact ⟨⟨rfl, HX.out _ (blk_put HF.out 2 _ rfl)⟩, below_set hB hg, KeepBut.set_ hK 2 _⟩
theorem held_calls (many : Int) (w : World) : Calls Try.prog 50 #[.int .i64 many] w fun e w' => e = .returned (.int .i64 (mx 0 (mn many 8))) ∧ w' = w := by
  by_cases h0 : many < 0
  · rw [show mx 0 (mn many 8) = 0 by unfold mx mn; (repeat' split) <;> omega]
    go_enter Try.func50, Try.ntmps50
    go_wp2_with fail
    go_ret
    exact ⟨rfl, rfl⟩
  · by_cases h8 : 8 < many
    · rw [show mx 0 (mn many 8) = 8 by unfold mx mn; (repeat' split) <;> omega]
      go_enter Try.func50, Try.ntmps50
      go_wp2_with fail
      go_ret
      exact ⟨rfl, rfl⟩
    · rw [show mx 0 (mn many 8) = many by unfold mx mn; (repeat' split) <;> omega]
      go_enter Try.func50, Try.ntmps50
      go_wp2_with fail
      go_ret
      exact ⟨rfl, rfl⟩
theorem leN_drop (L : List Int) (j : Nat) (h : j < L.length) : leN (L.drop j) = L[j] + 256 * leN (L.drop (j + 1)) := by
  rw [List.drop_eq_getElem_cons h]
  rfl
theorem leN_8 (L : List Int) (hb : ∀ x ∈ L, 0 ≤ x ∧ x < 256) (j : Nat) (hj : L.length ≤ j + 8) : 0 ≤ leN (L.drop j) ∧ leN (L.drop j) < 18446744073709551616 := by
  have h := leN_lim (L.drop j) (fun x hx => hb x (List.mem_of_mem_drop hx))
  have hp : (2 : Int) ^ (8 * (L.drop j).length) ≤ 2 ^ 64 := by
    have : 2 ^ (8 * (L.drop j).length) ≤ 2 ^ 64 := Nat.pow_le_pow_right (by decide) (by simp; omega)
    exact_mod_cast this
  refine ⟨h.1, ?_⟩
  have : (2 : Int) ^ 64 = 18446744073709551616 := rfl
  omega
set_option maxHeartbeats 2000000 in
theorem rnum_ok (g : Nat) (w0 w : World) (b : List Int) (at_ : Int) (many m : Int) (hm : mx 0 (mn many 8) = m) (L : List Int) (hL : L = cutR b at_ m) (hI : IsS84 w0 w g b at_ false) (hB : Below w0.heap.size w0 w) (h1 : m ≤ b.length - at_) (hb : ∀ x ∈ b, 0 ≤ x ∧ x < 256) (hbl : b.length ≤ 1000000000) (ha : 0 ≤ at_) :
    Calls Try.prog 33 #[.pointer (some ⟨g, 0, none⟩), .int .i64 many] w fun e w' =>
      (e = .returned (.int .i64 (wrap64 (leN L))) ∧ IsS84 w0 w' g b (at_ + m) false) ∧ Below w0.heap.size w0 w' ∧ KeepBut w w' g none := by
  have hm0 : 0 ≤ m := by rw [← hm]; unfold mx; split <;> omega
  have hm8 : m ≤ 8 := by rw [← hm]; unfold mx mn; (repeat' split) <;> omega
  have hH := Aside0.mk (held_calls many w)
  rw [hm] at hH
  go_enter Try.func33, Try.ntmps33
  go_wp2_with fail
  refine hH.out.mono ?_
  rintro e w2 ⟨rfl, rfl⟩
  go_wp2_with fail
  refine (rtake_ok g w0 _ b at_ m hI hB hm0 h1 hbl).mono ?_
  rintro e w1 ⟨⟨A, c, rfl, hC, hc, hI1⟩, hB1, hK1⟩
  rw [← hL] at hC
  have hlen : L.length = m.toNat := by have := hC.1; omega
  have hcells : ∀ j : Nat, ∀ h : j < L.length, ∃ ad, A = some ad ∧ w1.cell? (ad.add j) = some (.int .u8 L[j]) := by
    intro j h
    obtain ⟨ad, e, hc⟩ := C_cells (Kd.C_below hC hB1) (by omega)
    exact ⟨ad, e, hc j _ (by simp [nums, h])⟩
  have hrange : ∀ x ∈ L, 0 ≤ x ∧ x < 256 := by
    intro x hx
    rw [hL] at hx
    exact hb x (List.mem_of_mem_drop (List.mem_of_mem_take hx))
  have HL := Aside0.mk hrange
  have HN := Aside0.mk hlen
  have HC := Aside0.mk hcells
  have HM := Aside0.mk hm8
  clear hm h1 hL hb hrange hlen hcells hC hH ha hbl
  go_wp2_with fail
  go_loopw [6, 7] (fun x i wr => ∃ j : Nat, j ≤ m.toNat ∧ i = .int .i64 ((j : Int) - 1) ∧ x = .int .u64 (leN (L.drop j)) ∧ wr = w1) (fun _ i _ => (intOf i + 1).toNat)
  case atStart => exact ⟨m.toNat, Nat.le_refl _, by congr 1; omega, by rw [List.drop_of_length_le (by have := HN.out; omega)]; rfl, rfl⟩
  case round =>
    obtain ⟨j, hj, rfl, rfl, rfl⟩ := hrel
    cases j with
    | zero =>
      go_wp2_with fail
      go_ret
      rw [List.drop_zero]
      exact ⟨⟨rfl, hI1⟩, hB1, hK1⟩
    | succ j =>
      have hlj : j < L.length := by have := HN.out; omega
      obtain ⟨ad, rfl, hce⟩ := HC.out j hlj
      have hx := HL.out _ (List.getElem_mem hlj)
      have hs := leN_drop L j hlj
      have h8 := leN_8 L HL.out j (by have := HN.out; omega)
      have h9 := leN_8 L HL.out (j + 1) (by have := HN.out; omega)
      generalize leN (L.drop (j + 1)) = v at *
      have hs := Aside0.mk hs
      have h8 := Aside0.mk h8
      rw [show ((j + 1 : Nat) : Int) - 1 = (j : Int) by omega]
      go_wp2_with fail
      refine ⟨⟨j, by omega, rfl, ?_, trivial⟩, by first | (simp [intOf]; done) | (simp [intOf]; omega)⟩
      rw [hs.out]
      congr 1
      omega
theorem rnum_bad (g : Nat) (w0 w : World) (b : List Int) (at_ : Int) (bad : Bool) (many m : Int) (hm : mx 0 (mn many 8) = m) (hI : IsS84 w0 w g b at_ bad) (hB : Below w0.heap.size w0 w) (h : ¬ okR b at_ bad m) :
    Calls Try.prog 33 #[.pointer (some ⟨g, 0, none⟩), .int .i64 many] w fun e w' =>
      (e = .returned (.int .i64 0) ∧ IsS84 w0 w' g b at_ true) ∧ Below w0.heap.size w0 w' ∧ KeepBut w w' g none := by
  have hH := Aside0.mk (held_calls many w)
  rw [hm] at hH
  go_enter Try.func33, Try.ntmps33
  go_wp2_with fail
  refine hH.out.mono ?_
  rintro e w2 ⟨rfl, rfl⟩
  go_wp2_with fail
  refine (rtake_bad g w0 _ b at_ bad m hI hB h).mono ?_
  rintro e w1 ⟨⟨rfl, hI1⟩, hB1, hK1⟩
  go_wp2_with fail
  go_loopw [6, 7] (fun x i wr => i = .int .i64 (-1) ∧ x = .int .u64 0 ∧ wr = w1) (fun _ _ _ => 0)
  case atStart => exact ⟨rfl, rfl, rfl⟩
  case round =>
    obtain ⟨rfl, rfl, rfl⟩ := hrel
    go_wp2_with fail
    go_ret
    exact ⟨⟨rfl, hI1⟩, hB1, hK1⟩
theorem at_range {w0 w : World} {g : Nat} {b : List Int} {at_ : Int} {bad : Bool} (hI : IsS84 w0 w g b at_ bad) : 0 ≤ at_ := by
  obtain ⟨_, _, _, _, _, _, _, _, ha, _⟩ := hI
  exact ha
theorem rnum_calls (g : Nat) (w0 w : World) (b : List Int) (at_ : Int) (bad : Bool) (many : Int) (hI : IsS84 w0 w g b at_ bad) (hB : Below w0.heap.size w0 w) (hb : okB b = true) :
    Calls Try.prog 33 #[.pointer (some ⟨g, 0, none⟩), .int .i64 many] w fun e w' =>
      e = .returned (.int .i64 (numR b at_ bad many).1) ∧ IsS84 w0 w' g b (numR b at_ bad many).2.1 (numR b at_ bad many).2.2 ∧ Below w0.heap.size w0 w' ∧ KeepBut w w' g none := by
  unfold numR
  by_cases h : okR b at_ bad (mx 0 (mn many 8))
  · rw [if_pos h]
    obtain ⟨rfl, h0, h1⟩ := h
    exact (rnum_ok g w0 w b at_ many _ rfl _ rfl hI hB h1 (okB_all hb).1 (okB_all hb).2 (at_range hI)).mono fun e w' ⟨⟨h1, h2⟩, h3, h4⟩ => ⟨h1, h2, h3, h4⟩
  · rw [if_neg h]
    exact (rnum_bad g w0 w b at_ bad many _ rfl hI hB h).mono fun e w' ⟨⟨h1, h2⟩, h3, h4⟩ => ⟨h1, h2, h3, h4⟩
theorem rtake_calls (g : Nat) (w0 w : World) (b : List Int) (at_ : Int) (bad : Bool) (n : Int) (hI : IsS84 w0 w g b at_ bad) (hB : Below w0.heap.size w0 w) (hb : okB b = true) :
    Calls Try.prog 55 #[.pointer (some ⟨g, 0, none⟩), .int .i64 n] w fun e w' =>
      ∃ A c, e = .returned (.slice A (takeR b at_ bad n).1.length c) ∧ Kd.C (Kd.int .u8) w0 A (takeR b at_ bad n).1.length (takeR b at_ bad n).1 ∧ (takeR b at_ bad n).1.length ≤ c ∧ IsS84 w0 w' g b (takeR b at_ bad n).2.1 (takeR b at_ bad n).2.2 ∧ Below w0.heap.size w0 w' ∧ KeepBut w w' g none := by
  unfold takeR
  by_cases h : okR b at_ bad n
  · rw [if_pos h]
    obtain ⟨rfl, h0, h1⟩ := h
    have hl : (cutR b at_ n).length = n.toNat := by have := at_range hI; unfold cutR; simp; omega
    refine (rtake_ok g w0 w b at_ n hI hB h0 h1 (okB_all hb).2).mono fun e w' ⟨⟨A, c, h1, h2, h3, h4⟩, h5, h6⟩ => ⟨A, c, ?_, ?_, ?_, h4, h5, h6⟩
    · rw [h1]; dsimp only; rw [hl]
    · dsimp only; rw [hl]; exact h2
    · dsimp only; rw [hl]; exact h3
  · rw [if_neg h]
    exact (rtake_bad g w0 w b at_ bad n hI hB h).mono fun e w' ⟨⟨h1, h2⟩, h3, h4⟩ => ⟨none, 0, h1, ⟨rfl, Nat.zero_le _, fun h => absurd h (Nat.lt_irrefl 0)⟩, Nat.le_refl _, h2, h3, h4⟩
set_option maxHeartbeats 1000000 in
theorem rtext_calls (g : Nat) (w0 w : World) (b : List Int) (at_ : Int) (bad : Bool) (hI : IsS84 w0 w g b at_ bad) (hB : Below w0.heap.size w0 w) (hb : okB b = true) :
    Calls Try.prog 44 #[.pointer (some ⟨g, 0, none⟩)] w fun e w' =>
      e = .returned (.string (textR b at_ bad).1) ∧ IsS84 w0 w' g b (textR b at_ bad).2.1 (textR b at_ bad).2.2 ∧ Below w0.heap.size w0 w' ∧ KeepBut w w' g none := by
  unfold textR
  dsimp only
  generalize ht : numR b at_ bad 1 = t
  generalize hu : takeR b t.2.1 t.2.2 t.1 = u
  have HT := Aside0.mk ht
  have HU := Aside0.mk hu
  have HB := Aside0.mk hb
  clear ht hu hb
  go_enter Try.func44, Try.ntmps44
  go_wp2_with fail
  refine (rnum_calls g w0 _ b at_ bad 1 hI hB HB.out).mono ?_
  rw [HT.out]
  rintro e w1 ⟨rfl, hI1, hB1, hK1⟩
  go_wp2_with fail
  refine (rtake_calls g w0 _ b t.2.1 t.2.2 t.1 hI1 hB1 HB.out).mono ?_
  rw [HU.out]
  rintro e w2 ⟨A, c, rfl, hC, hc, hI2, hB2, hK2⟩
  have hcv := Kd.C_string (c := c) (P := Try.prog) Try.underlying23 Try.underlying5 Try.underlying9 (Kd.C_below hC hB2)
  go_wp2_with fail
  go_ret
  exact ⟨rfl, hI2, hB2, hK1.trans hK2 (.inl rfl)⟩
end Go.Proofs.Ytaefdfnhibmgdaa.Given
end

section
/- Two readers at once: each one's contracts taken over the world cut to the blocks below it. -/
namespace Go.Proofs.Ytaefdfnhibmgdaa.Given
open Go Go.RowKit Go.Proofs.YtaefdfnhibmgdaaW.PrintWords Go.Proofs.YtaefdfnhibmgdaaW.PrintLast Go.Proofs.YtaefdfnhibmgdaaW.PrintMore
set_option linter.unusedVariables false
/-- The world's blocks below g alone. -/
def cut (w : World) (g : Nat) : World := { w with heap := w.heap.extract 0 g }
theorem cut_size {w : World} {g : Nat} (h : g ≤ w.heap.size) : (cut w g).heap.size = g := by simp [cut]; omega
theorem cut_get {w : World} {g k : Nat} (hk : k < g) (h : g ≤ w.heap.size) : (cut w g).heap[k]? = w.heap[k]? := by
  simp only [cut, Array.getElem?_extract]
  rw [if_pos (by omega), Nat.zero_add]
theorem cut_below {w : World} {g : Nat} (h : g ≤ w.heap.size) : Below (cut w g).heap.size (cut w g) w := ⟨rfl, rfl, rfl, by rw [cut_size h]; exact h, fun k hk => by rw [cut_size h] at hk; exact (cut_get hk h).symm⟩
theorem C_same {w w1 : World} {A : Option Addr} {b : List Int} (h : Kd.C (Kd.int .u8) w A b.length b) (hs : 0 < b.length → ∀ ad, A = some ad → w1.heap[ad.block]? = w.heap[ad.block]?) : Kd.C (Kd.int .u8) w1 A b.length b :=
  ⟨h.1, h.2.1, fun hn => by
    obtain ⟨ad, e, hc⟩ := h.2.2 hn
    refine ⟨ad, e, fun j p hj => ?_⟩
    obtain ⟨c, hz, hr, hcell⟩ := hc j p hj
    exact ⟨c, hz, hr, fun i u hu => (World.cell?_of_block (w := w) (by rw [add_block]; exact hs hn ad e)).trans (hcell i u hu)⟩⟩
theorem C_lt {w : World} {a : Addr} {b : List Int} (h : Kd.C (Kd.int .u8) w (some a) b.length b) (hn : 0 < b.length) : a.block < w.heap.size := by
  obtain ⟨ad, e, hc⟩ := Kd.at_int h 0 (by omega) (by omega)
  injection e with e
  subst e
  have := World.block_lt_of_cell? w _ hc
  rw [add_block] at this
  exact this
/-- The program's reader, of any world. -/
def RI (W : World) (g : Nat) (b : List Int) (at_ : Int) (bad : Bool) : Prop := ∃ a c, W.heap[g]? = some (.cells #[.slice (some a) b.length c, .int .i64 at_, .bool bad] 87 (0, 0)) ∧ Kd.C (Kd.int .u8) W (some a) b.length b ∧ b.length ≤ c ∧ 0 ≤ at_ ∧ at_ ≤ b.length ∧ (0 < b.length → a.block < g)
theorem RI.of {w0 W : World} {g : Nat} {b : List Int} {at_ : Int} {bad : Bool} (h : IsS87 w0 W g b at_ bad) (hB : Below w0.heap.size w0 W) : RI W g b at_ bad := by
  obtain ⟨cs, hb, hg, a, c, rfl, hC, hle, h0, h1⟩ := h
  exact ⟨a, c, hb, Kd.C_below hC hB, hle, h0, h1, fun hn => Nat.lt_of_lt_of_le (C_lt hC hn) hg⟩
theorem RI.cut {W : World} {g : Nat} {b : List Int} {at_ : Int} {bad : Bool} (h : RI W g b at_ bad) : IsS87 (cut W g) W g b at_ bad ∧ Below (Given.cut W g).heap.size (Given.cut W g) W := by
  obtain ⟨a, c, hb, hC, hle, h0, h1, hl⟩ := h
  have hg : g ≤ W.heap.size := Nat.le_of_lt (blk_lt hb)
  refine ⟨⟨_, hb, by rw [cut_size hg]; exact Nat.le_refl _, a, c, rfl, C_same hC (fun hn ad e => by injection e with e; subst e; exact cut_get (hl hn) hg), hle, h0, h1⟩, cut_below hg⟩
theorem cut_bk {W w' : World} {g : Nat} (hk : KeepBut W w' g none) (hB : Below (cut W g).heap.size (cut W g) w') (hg : g ≤ W.heap.size) : Below g W w' :=
  ⟨hB.os, hB.tape, hB.output, hk.1, fun k hlt => (hB.block k (by rw [cut_size hg]; exact hlt)).trans (cut_get hlt hg)⟩
theorem RI.lt {W : World} {g : Nat} {b : List Int} {at_ : Int} {bad : Bool} (h : RI W g b at_ bad) : g ≤ W.heap.size := by
  obtain ⟨_, _, hb, _⟩ := h
  exact Nat.le_of_lt (blk_lt hb)
theorem num_i (g : Nat) (W : World) (b : List Int) (at_ : Int) (bad : Bool) (many : Int) (h : RI W g b at_ bad) (hb : okB b = true) :
    Calls Try.prog 31 #[.pointer (some ⟨g, 0, none⟩), .int .i64 many] W fun e w' => e = .returned (.int .i64 (numR b at_ bad many).1) ∧ RI w' g b (numR b at_ bad many).2.1 (numR b at_ bad many).2.2 ∧ KeepBut W w' g none ∧ Below g W w' :=
  (num_calls g (cut W g) W b at_ bad many h.cut.1 h.cut.2 hb).mono fun e w' ⟨h1, h2, h3, h4⟩ => ⟨h1, RI.of h2 h3, h4, cut_bk h4 h3 h.lt⟩
/-- The document's reader, of any world. -/
def RJ (W : World) (g : Nat) (b : List Int) (at_ : Int) (bad : Bool) : Prop := ∃ a c, W.heap[g]? = some (.cells #[.slice a (b.drop at_.toNat).length c, .int .i64 at_, .bool bad] 84 (0, 0)) ∧ Kd.C (Kd.int .u8) W a (b.drop at_.toNat).length (b.drop at_.toNat) ∧ (b.drop at_.toNat).length ≤ c ∧ 0 ≤ at_ ∧ at_ ≤ b.length ∧ (∀ ad, a = some ad → 0 < (b.drop at_.toNat).length → ad.block < g)
theorem RJ.of {w0 W : World} {g : Nat} {b : List Int} {at_ : Int} {bad : Bool} (h : IsS84 w0 W g b at_ bad) (hB : Below w0.heap.size w0 W) : RJ W g b at_ bad := by
  obtain ⟨cs, hb, hg, a, c, rfl, hC, hle, h0, h1⟩ := h
  exact ⟨a, c, hb, Kd.C_below hC hB, hle, h0, h1, fun ad e hn => by subst e; exact Nat.lt_of_lt_of_le (C_lt hC hn) hg⟩
theorem RJ.lt {W : World} {g : Nat} {b : List Int} {at_ : Int} {bad : Bool} (h : RJ W g b at_ bad) : g ≤ W.heap.size := by
  obtain ⟨_, _, hb, _⟩ := h
  exact Nat.le_of_lt (blk_lt hb)
theorem RJ.cut {W : World} {g : Nat} {b : List Int} {at_ : Int} {bad : Bool} (h : RJ W g b at_ bad) : IsS84 (cut W g) W g b at_ bad ∧ Below (Given.cut W g).heap.size (Given.cut W g) W := by
  have hg := h.lt
  obtain ⟨a, c, hb, hC, hle, h0, h1, hl⟩ := h
  exact ⟨⟨_, hb, by rw [cut_size hg]; exact Nat.le_refl _, a, c, rfl, C_same hC (fun hn ad e => cut_get (hl ad e hn) hg), hle, h0, h1⟩, cut_below hg⟩
theorem rnum_j (g : Nat) (W : World) (b : List Int) (at_ : Int) (bad : Bool) (many : Int) (h : RJ W g b at_ bad) (hb : okB b = true) :
    Calls Try.prog 33 #[.pointer (some ⟨g, 0, none⟩), .int .i64 many] W fun e w' => e = .returned (.int .i64 (numR b at_ bad many).1) ∧ RJ w' g b (numR b at_ bad many).2.1 (numR b at_ bad many).2.2 ∧ KeepBut W w' g none ∧ Below g W w' :=
  (rnum_calls g (cut W g) W b at_ bad many h.cut.1 h.cut.2 hb).mono fun e w' ⟨h1, h2, h3, h4⟩ => ⟨h1, RJ.of h2 h3, h4, cut_bk h4 h3 h.lt⟩
theorem text_i (g : Nat) (W : World) (b : List Int) (at_ : Int) (bad : Bool) (h : RI W g b at_ bad) (hb : okB b = true) :
    Calls Try.prog 43 #[.pointer (some ⟨g, 0, none⟩)] W fun e w' => e = .returned (.string (textR b at_ bad).1) ∧ RI w' g b (textR b at_ bad).2.1 (textR b at_ bad).2.2 ∧ KeepBut W w' g none ∧ Below g W w' :=
  (text_calls g (cut W g) W b at_ bad h.cut.1 h.cut.2 hb).mono fun e w' ⟨h1, h2, h3, h4⟩ => ⟨h1, RI.of h2 h3, h4, cut_bk h4 h3 h.lt⟩
theorem rtext_j (g : Nat) (W : World) (b : List Int) (at_ : Int) (bad : Bool) (h : RJ W g b at_ bad) (hb : okB b = true) :
    Calls Try.prog 44 #[.pointer (some ⟨g, 0, none⟩)] W fun e w' => e = .returned (.string (textR b at_ bad).1) ∧ RJ w' g b (textR b at_ bad).2.1 (textR b at_ bad).2.2 ∧ KeepBut W w' g none ∧ Below g W w' :=
  (rtext_calls g (cut W g) W b at_ bad h.cut.1 h.cut.2 hb).mono fun e w' ⟨h1, h2, h3, h4⟩ => ⟨h1, RJ.of h2 h3, h4, cut_bk h4 h3 h.lt⟩
end Go.Proofs.Ytaefdfnhibmgdaa.Given
end
