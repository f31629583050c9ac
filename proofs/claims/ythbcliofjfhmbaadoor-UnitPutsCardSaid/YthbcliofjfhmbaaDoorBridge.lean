/- What argument data of a type reads as, in the words of the printed contracts; no conditions. -/
import Derived.Test.YthbcliofjfhmbaaDoorWWords
import Derived.OpenShut
import Derived.Lib.LaidTab
namespace Go.Proofs.YthbcliofjfhmbaaDoor.Bridge
open Go Go.Proofs.YthbcliofjfhmbaaDoorW.PrintWords
set_option linter.unusedVariables false
/-- Values of type t that are read as data (at most m deep) are read as d says, and wf holds of what is read. -/
def Rdg (P : Program) (m : Nat) (t : TypeId) {α : Type} (d : Kd α) (wf : α → Prop) : Prop :=
  P.cellsOf t = d.sz ∧ ∀ (H : Type) (enc : TypeId × Value → H) (w : World) (base : Nat) (sp : Nat → Bool) (held : Bool) (fuel : Nat), fuel ≤ m → ∀ (cs : List Value) (x : DataW H × List MemPlace), DataW.trod enc P w base sp held fuel t cs = some x → ∃ a, d.K w a cs ∧ wf a
def Rdga (P : Program) (t : TypeId) {α : Type} (d : Kd α) (wf : α → Prop) : Prop := ∀ m, Rdg P m t d wf
section
variable {P : Program} {t e : TypeId} {α β : Type} {d : Kd α} {wf : α → Prop}
theorem Rdg.zero (hc : P.cellsOf t = d.sz) : Rdg P 0 t d wf := by
  refine ⟨hc, fun H enc w base sp held fuel hm cs x h => ?_⟩
  obtain rfl : fuel = 0 := by omega
  simp [DataW.trod] at h
theorem Rdg.int {k : IntKind} (hu : P.underlying t = some (.int k)) (hc : P.cellsOf t = 1) : Rdga P t (Kd.int k) (fun a => (Lit.int k a).wf = true) := fun m => ⟨hc, fun H enc w base sp held fuel hm cs x h => by
  obtain ⟨z, rfl, _, hz⟩ := DataW.trod_int hu h
  exact ⟨z, rfl, hz⟩⟩
theorem Rdg.bool (hu : P.underlying t = some .bool) (hc : P.cellsOf t = 1) : Rdga P t Kd.bool (fun _ => True) := fun m => ⟨hc, fun H enc w base sp held fuel hm cs x h => by
  obtain ⟨z, rfl, _⟩ := DataW.trod_bool hu h
  exact ⟨z, rfl, trivial⟩⟩
theorem Rdg.string (hu : P.underlying t = some .string) (hc : P.cellsOf t = 1) : Rdga P t Kd.string (fun s => s.size ≤ 9223372036854775807) := fun m => ⟨hc, fun H enc w base sp held fuel hm cs x h => by
  obtain ⟨z, rfl, _, hz⟩ := DataW.trod_string hu h
  exact ⟨z, rfl, hz⟩⟩
theorem addr_add (a : Addr) (i j : Nat) : (a.add i).add j = a.add (i + j) := by
  unfold Addr.add
  by_cases h1 : i = 0 <;> by_cases h2 : j = 0 <;> simp [h1, h2, Nat.add_assoc]
theorem pick_list {Q : Nat → α → Prop} : ∀ n, (∀ i, i < n → ∃ a, Q i a) → ∃ xs : List α, xs.length = n ∧ ∀ i a, xs[i]? = some a → Q i a
  | 0, _ => ⟨[], rfl, fun i a h => by simp at h⟩
  | n + 1, h => by
    obtain ⟨xs, hl, hx⟩ := pick_list n (fun i hi => h i (by omega))
    obtain ⟨a, ha⟩ := h n (by omega)
    refine ⟨xs ++ [a], by simp [hl], fun i b hb => ?_⟩
    rcases Nat.lt_or_ge i xs.length with hi | hi
    · rw [List.getElem?_append_left hi] at hb; exact hx i b hb
    · have hi' : i = xs.length := by
        have := (List.getElem?_eq_some_iff.1 hb).1
        simp at this; omega
      subst hi'
      simp at hb; subst hb; rw [hl]; exact ha
theorem cells_some {w : World} {base n : Nat} {a : Addr} {c : List Value} (h : w.cells? base a n = some c) : c.length = n ∧ ∀ i u, c[i]? = some u → w.cell? (a.add i) = some u := by
  unfold World.cells? at h
  split at h
  · have hl := Lib.mapM_length h
    refine ⟨by simpa using hl, fun i u hu => ?_⟩
    have hi : i < n := by have := (List.getElem?_eq_some_iff.1 hu).1; simp at hl; omega
    obtain ⟨b, hb, hf⟩ := Lib.mapM_at h i i (by simp [hi])
    rw [hb] at hu; cases hu; exact hf
  · cases h
theorem Rdg.slice {m : Nat} (hu : P.underlying t = some (.slice e)) (hc : P.cellsOf t = 1) (hd : Rdg P m e d wf) : Rdg P (m + 1) t (Kd.slice e d) (fun l => ∀ a ∈ l, wf a) := by
  refine ⟨hc, fun H enc w base sp held fuel hm cs x h => ?_⟩
  cases fuel with
  | zero => simp [DataW.trod] at h
  | succ fuel =>
    unfold DataW.trod at h
    rw [hu] at h
    split at h <;> try (simp_all; done)
    · exact ⟨[], ⟨none, 0, by simp, by simp, rfl, by simp, fun h => absurd h (by simp)⟩, by simp⟩
    · rename_i e' a len cap he
      cases he
      simp only at h
      split at h
      · rename_i hb
        obtain ⟨hb1, hb2, hb3⟩ := hb
        obtain ⟨elems, hel, _⟩ := Option.bind_eq_some_iff.1 h
        have hel' := Lib.mapM_length hel
        have key : ∀ i, i < len → ∃ p, (∃ c : List Value, c.length = d.sz ∧ d.K w p c ∧ ∀ j u, c[j]? = some u → w.cell? (a.add (i * d.sz + j)) = some u) ∧ wf p := by
          intro i hi
          obtain ⟨b, _, hf⟩ := Lib.mapM_at hel i i (by simp [hi])
          obtain ⟨c, hcell, htr⟩ := Option.bind_eq_some_iff.1 hf
          obtain ⟨hlen, hcells⟩ := cells_some hcell
          obtain ⟨p, hp, hw⟩ := hd.2 H enc w base sp held fuel (by omega) c b htr
          refine ⟨p, ⟨c, by rw [hlen, hd.1], hp, fun j u hu => ?_⟩, hw⟩
          have := hcells j u hu
          rwa [addr_add, hd.1] at this
        obtain ⟨xs, hl, hx⟩ := pick_list len key
        refine ⟨xs, ⟨some a, cap, by rw [hl], by omega, rfl, ?_, fun _ => ⟨a, rfl, fun j p hj => (hx j p hj).1⟩⟩, fun p hp => ?_⟩
        · unfold maxLen at hb3; omega
        · obtain ⟨j, hj⟩ := List.getElem?_of_mem hp
          exact (hx j p hj).2
      · cases h
theorem Rdg.slicea (hu : P.underlying t = some (.slice e)) (hc : P.cellsOf t = 1) (hd : Rdga P e d wf) : Rdga P t (Kd.slice e d) (fun l => ∀ a ∈ l, wf a)
  | 0 => Rdg.zero hc
  | m + 1 => Rdg.slice hu hc (hd m)
/-- A struct's fields from offset k on. -/
def RdgF (P : Program) (m : Nat) (fs : List Field) (k : Nat) {α : Type} (d : Kd α) (wf : α → Prop) : Prop :=
  ∀ (H : Type) (enc : TypeId × Value → H) (w : World) (base : Nat) (sp : Nat → Bool) (held : Bool) (fuel : Nat), fuel ≤ m → ∀ (cs : List Value) (xs : List (DataW H × List MemPlace)), cs.length = k + d.sz →
    fs.mapM (fun f => DataW.trod enc P w base sp held fuel f.type ((cs.drop f.offset).take (P.cellsOf f.type))) = some xs → ∃ a, d.K w a (cs.drop k) ∧ wf a
theorem RdgF.one {m k : Nat} {f : Field} (hk : f.offset = k) (h : Rdg P m f.type d wf) : RdgF P m [f] k d wf := by
  intro H enc w base sp held fuel hm cs xs hl hx
  simp only [List.mapM_cons, List.mapM_nil, Option.bind_eq_bind, Option.bind_eq_some_iff, Option.pure_def] at hx
  obtain ⟨b, hb, _⟩ := hx
  rw [hk, h.1, List.take_of_length_le (by rw [List.length_drop]; omega)] at hb
  exact h.2 H enc w base sp held fuel hm _ b hb
theorem RdgF.cons {m k : Nat} {f : Field} {fs : List Field} {d2 : Kd β} {wf2 : β → Prop} (hk : f.offset = k) (h : Rdg P m f.type d wf) (h2 : RdgF P m fs (k + d.sz) d2 wf2) : RdgF P m (f :: fs) k (Kd.pair d d2) (fun x => wf x.1 ∧ wf2 x.2) := by
  intro H enc w base sp held fuel hm cs xs hl hx
  have hl' : cs.length = k + (d.sz + d2.sz) := hl
  simp only [List.mapM_cons, Option.bind_eq_bind, Option.bind_eq_some_iff, Option.pure_def, Option.some.injEq] at hx
  obtain ⟨b, hb, r, hr, _⟩ := hx
  rw [hk, h.1] at hb
  obtain ⟨a, ha, hw⟩ := h.2 H enc w base sp held fuel hm _ b hb
  obtain ⟨a2, ha2, hw2⟩ := h2 H enc w base sp held fuel hm cs r (by omega) hr
  refine ⟨(a, a2), ⟨(cs.drop k).take d.sz, cs.drop (k + d.sz), ?_, ha, ha2⟩, hw, hw2⟩
  rw [← List.drop_drop, List.take_append_drop]
theorem Rdg.struct {m : Nat} {fs : Array Field} (hu : P.underlying t = some (.struct fs)) (hc : P.cellsOf t = d.sz) (h : RdgF P m fs.toList 0 d wf) : Rdg P (m + 1) t d wf := by
  refine ⟨hc, fun H enc w base sp held fuel hm cs x hx => ?_⟩
  cases fuel with
  | zero => simp [DataW.trod] at hx
  | succ fuel =>
    unfold DataW.trod at hx
    rw [hu] at hx
    simp only at hx
    split at hx
    · rename_i hl
      obtain ⟨xs, hm', _⟩ := Option.map_eq_some_iff.1 hx
      have := h H enc w base sp held fuel (by omega) cs xs (by omega) hm'
      simpa using this
    · cases hx
theorem Rdg.structa {fs : Array Field} (hu : P.underlying t = some (.struct fs)) (hc : P.cellsOf t = d.sz) (h : ∀ m, RdgF P m fs.toList 0 d wf) : Rdga P t d wf
  | 0 => Rdg.zero hc
  | m + 1 => Rdg.struct hu hc (h m)
theorem Rdg.iso {m : Nat} (f : β → α) (g : α → β) (hfg : ∀ a, f (g a) = a) (h : Rdg P m t d wf) : Rdg P m t (Kd.iso d f) (fun b => wf (f b)) :=
  ⟨h.1, fun H enc w base sp held fuel hm cs x hx => by
    obtain ⟨a, ha, hw⟩ := h.2 H enc w base sp held fuel hm cs x hx
    exact ⟨g a, by show d.K w (f (g a)) cs; rw [hfg]; exact ha, by show wf (f (g a)); rw [hfg]; exact hw⟩⟩
theorem Rdg.imp {m : Nat} {wf2 : α → Prop} (h : Rdg P m t d wf) (hw : ∀ a, wf a → wf2 a) : Rdg P m t d wf2 :=
  ⟨h.1, fun H enc w base sp held fuel hm cs x hx => by
    obtain ⟨a, ha, h2⟩ := h.2 H enc w base sp held fuel hm cs x hx
    exact ⟨a, ha, hw a h2⟩⟩
theorem Rdg.fix {F : Kd α → Kd α} {sz : Nat} {E : List Nat} {hs : ∀ n, (Kd.upto F sz E n).sz = sz} {hE : ∀ n q, q ∈ (Kd.upto F sz E n).E → q ∈ E} (hc : P.cellsOf t = sz)
    (h : ∀ (m : Nat) (d : Kd α), Rdg P m t d wf → Rdg P (m + 1) t (F d) wf) : Rdga P t (Kd.fix F sz E hs hE) wf := by
  have key : ∀ m, Rdg P m t (Kd.upto F sz E m) wf := by
    intro m
    induction m with
    | zero => exact Rdg.zero hc
    | succ m ih => exact h m _ ih
  exact fun m => ⟨hc, fun H enc w base sp held fuel hm cs x hx => by
    obtain ⟨a, ha, hw⟩ := (key m).2 H enc w base sp held fuel hm cs x hx
    exact ⟨a, ⟨m, ha⟩, hw⟩⟩
/-- An argument, opened. -/
theorem Rdga.trod (h : Rdga P t d wf) {H : Type} {enc : TypeId × Value → H} {w : World} {base : Nat} {sp : Nat → Bool} {held : Bool} {v : Value} {x : DataW H} {ps : List MemPlace} (hx : DataW.Trod enc P w base sp held t v x ps) : ∃ a, d.K w a v.cells.toList ∧ wf a := by
  obtain ⟨fuel, hf⟩ := hx
  exact (h fuel).2 H enc w base sp held fuel (Nat.le_refl _) _ _ hf
end
end Go.Proofs.YthbcliofjfhmbaaDoor.Bridge
