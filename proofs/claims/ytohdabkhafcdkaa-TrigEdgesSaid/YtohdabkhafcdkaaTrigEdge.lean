/- How often a list of truths rises, and falls: what trig.Edges tells of any list of at most 200. -/
import Derived.Test.YtohdabkhafcdkaaTrigRef
namespace Go.Proofs.Ytohdabkhafcdkaa
open Go Go.RowKit Go.Proofs.YtohdabkhafcdkaaW.PrintWords Go.Proofs.YtohdabkhafcdkaaW.PrintLast Go.Proofs.YtohdabkhafcdkaaW.PrintMore
set_option linter.unusedVariables false
set_option linter.unusedSimpArgs false
def edgeStep (s : Int × Int × Bool) (b : Bool) : Int × Int × Bool := (if b && !s.2.2 then s.1 + 1 else s.1, if s.2.2 && !b then s.2.1 + 1 else s.2.1, b)
def bi : Bool → Int
  | true => 1
  | false => 0
def edges (l : List Bool) : Int × Int × Bool := l.foldl edgeStep (0, 0, false)
theorem edges_take (l : List Bool) (j : Nat) (h : j < l.length) : edges (l.take (j + 1)) = edgeStep (edges (l.take j)) l[j] := by
  have ht : l.take (j + 1) = l.take j ++ [l[j]] := by rw [List.take_add_one, List.getElem?_eq_getElem h]; rfl
  rw [ht]
  unfold edges
  rw [List.foldl_append]
  rfl
theorem edges_lim (l : List Bool) : 0 ≤ (edges l).1 ∧ 0 ≤ (edges l).2.1 ∧ (edges l).1 ≤ l.length ∧ (edges l).2.1 ≤ l.length ∧ (edges l).1 - (edges l).2.1 = bi (edges l).2.2 := by
  have key : ∀ (l : List Bool) (s : Int × Int × Bool) (n : Int), 0 ≤ s.1 ∧ 0 ≤ s.2.1 ∧ s.1 ≤ n ∧ s.2.1 ≤ n ∧ s.1 - s.2.1 = bi s.2.2 →
      0 ≤ (l.foldl edgeStep s).1 ∧ 0 ≤ (l.foldl edgeStep s).2.1 ∧ (l.foldl edgeStep s).1 ≤ n + l.length ∧ (l.foldl edgeStep s).2.1 ≤ n + l.length ∧ (l.foldl edgeStep s).1 - (l.foldl edgeStep s).2.1 = bi (l.foldl edgeStep s).2.2 := by
    intro l
    induction l with
    | nil => intro s n h; simpa using h
    | cons b l ih =>
      intro s n h
      have := ih (edgeStep s b) (n + 1) (by
        obtain ⟨u, d, p⟩ := s
        unfold edgeStep
        cases b <;> cases p <;> simp [bi] at h ⊢ <;> omega)
      simp only [List.foldl_cons, List.length_cons]
      refine ⟨this.1, this.2.1, by have := this.2.2.1; push_cast; omega, by have := this.2.2.2.1; push_cast; omega, this.2.2.2.2⟩
  have := key l (0, 0, false) 0 (by simp [bi])
  simpa [edges] using this
theorem C_bools {w : World} {A : Option Addr} {n : Nat} {xs : List Bool} (h : Kd.C Kd.bool w A n xs) (hn : 0 < n) : ∃ ad, A = some ad ∧ ∀ j (hj : j < xs.length), w.cell? (ad.add j) = some (.bool xs[j]) := by
  have hl := h.1
  obtain ⟨ad, e, hc⟩ := h.2.2 hn
  refine ⟨ad, e, fun j hj => ?_⟩
  obtain ⟨c, _, hK, hcell⟩ := hc j _ (List.getElem?_eq_getElem hj)
  have hK' : c = [Value.bool xs[j]] := hK
  subst hK'
  have := hcell 0 _ rfl
  simpa [Kd.bool, Kd.scalar] using this
set_option maxHeartbeats 1000000 in
theorem Edges_calls (A : Option Addr) (c : Nat) (l : List Bool) (w : World) (hC : Kd.C Kd.bool w A l.length l) (hl : l.length ≤ 200) :
    Calls Try.prog 13 #[.slice A l.length c] w fun e w' => e = .returned (.tuple #[.int .i64 (edges l).1, .int .i64 (edges l).2.1]) ∧ Drawn0 w w' := by
  have HC := Aside0.mk hC
  clear hC
  go_enter Try.func13, Try.ntmps13
  go_wp2_with fail
  go_loopw [4, 5, 6, 11] (fun u d p i wr => ∃ j : Nat, j ≤ l.length ∧ i = .int .i64 j ∧ u = .int .i64 (edges (l.take j)).1 ∧ d = .int .i64 (edges (l.take j)).2.1 ∧ p = .bool (edges (l.take j)).2.2 ∧ Drawn0 w wr) (fun _ _ _ i _ => l.length - (intOf i).toNat)
  case atStart => exact ⟨0, Nat.zero_le _, rfl, rfl, rfl, rfl, Drawn0.refl _⟩
  case round =>
    obtain ⟨j, hj, rfl, rfl, rfl, rfl, m, rfl⟩ := hrel
    by_cases hlt : j < l.length
    · obtain ⟨ad, rfl, hcs⟩ := C_bools HC.out (by omega)
      have hcj := hcs j hlt
      clear hcs
      have hlim := edges_lim (l.take j)
      have hst := edges_take l j hlt
      have hlen : (l.take j).length = j := by simp; omega
      rw [hlen] at hlim
      generalize edges (l.take j) = s at *
      obtain ⟨u, d, p⟩ := s
      generalize hb : l[j] = b at *
      simp only at hlim
      cases b <;> cases p <;> simp only [bi] at hlim
      · go_wp2
        exact ⟨⟨j + 1, by omega, rfl, by rw [hst]; rfl, by rw [hst]; rfl, by rw [hst]; rfl, ⟨m, rfl⟩⟩, by simp [intOf]; omega⟩
      · go_wp2
        exact ⟨⟨j + 1, by omega, rfl, by rw [hst]; rfl, by rw [hst]; rfl, by rw [hst]; rfl, ⟨m, rfl⟩⟩, by simp [intOf]; omega⟩
      · go_wp2
        exact ⟨⟨j + 1, by omega, rfl, by rw [hst]; rfl, by rw [hst]; rfl, by rw [hst]; rfl, ⟨m, rfl⟩⟩, by simp [intOf]; omega⟩
      · go_wp2
        exact ⟨⟨j + 1, by omega, rfl, by rw [hst]; rfl, by rw [hst]; rfl, by rw [hst]; rfl, ⟨m, rfl⟩⟩, by simp [intOf]; omega⟩
    · go_wp2
      go_ret2
      refine ⟨?_, ⟨m, rfl⟩⟩
      rw [List.take_of_length_le (by omega)]
      rfl
end Go.Proofs.Ytohdabkhafcdkaa
