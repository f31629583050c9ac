/- Arrays as data are read as lists of so many; and a block of ten numbers as ten numbers; no conditions. -/
import Derived.Test.YtohdabkhafcdkaaDoorBridge
import Derived.Test.YtohdabkhafcdkaaDoorWArr
import Derived.Test.YtohdabkhafcdkaaDoorProg
namespace Go.Proofs.YtohdabkhafcdkaaDoor.Bridge
open Go Go.RowKit Go.Proofs.YtohdabkhafcdkaaDoorW.PrintWords
variable {P : Program} {t e n : Nat} {α : Type} {d : Kd α} {wf : α → Prop}
theorem Rdg.array {m : Nat} {hs : 0 < d.sz} (hu : P.underlying t = some (.array n e)) (hc : P.cellsOf t = n * d.sz) (hd : Rdg P m e d wf) : Rdg P (m + 1) t (Kd.arr n d hs) (fun l => ∀ a ∈ l, wf a) := by
  refine ⟨hc, fun H enc w base sp held fuel hm cs x h => ?_⟩
  cases fuel with
  | zero => simp [DataW.trod] at h
  | succ fuel =>
    unfold DataW.trod at h
    rw [hu] at h
    simp only at h
    split at h
    · rename_i hl
      obtain ⟨elems, hel, _⟩ := Option.map_eq_some_iff.1 h
      have key : ∀ i, i < n → ∃ p, d.K w p ((cs.drop (i * d.sz)).take d.sz) ∧ wf p := by
        intro i hi
        obtain ⟨b, _, hf⟩ := Lib.mapM_at hel i i (by simp [hi])
        rw [hd.1] at hf
        obtain ⟨p, hp, hw⟩ := hd.2 H enc w base sp held fuel (by omega) _ b hf
        exact ⟨p, hp, hw⟩
      obtain ⟨xs, hxl, hx⟩ := pick_list n key
      refine ⟨xs, ⟨hxl, by rw [hl, hc, hxl], fun j p hj => (hx j p hj).1⟩, fun p hp => ?_⟩
      obtain ⟨j, hj⟩ := List.getElem?_of_mem hp
      exact (hx j p hj).2
    · cases h
theorem Rdg.arraya {hs : 0 < d.sz} (hu : P.underlying t = some (.array n e)) (hc : P.cellsOf t = n * d.sz) (hd : Rdga P e d wf) : Rdga P t (Kd.arr n d hs) (fun l => ∀ a ∈ l, wf a)
  | 0 => Rdg.zero hc
  | m + 1 => Rdg.array hu hc (hd m)
end Go.Proofs.YtohdabkhafcdkaaDoor.Bridge
