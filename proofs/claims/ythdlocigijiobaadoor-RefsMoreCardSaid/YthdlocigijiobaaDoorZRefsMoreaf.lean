/- block.Field and stack.field, of a field that is there; the tables lie as the program lays them. -/
import Derived.Test.YthdlocigijiobaaDoorZRefsMoreac
import Derived.Test.YthdlocigijiobaaDoorZRefsMoreae
section
/- stack.typed, walked by hand: what an operation with a type takes, and leaves. The tables lie as the program lays them. -/
namespace Go.Proofs.YthdlocigijiobaaDoor.Given
open Go Go.RowKit Go.Proofs.YthdlocigijiobaaDoor.PSk Go.Proofs.YthdlocigijiobaaDoor.RPure Go.Proofs.YthdlocigijiobaaDoorW.PrintWords Go.Proofs.YthdlocigijiobaaDoorW.PrintLast Go.Proofs.YthdlocigijiobaaDoorW.PrintMore
set_option linter.unusedVariables false
set_option linter.unusedSimpArgs false
/-- What two own rows are, in the printed form. -/
def Two (w w' : World) (e : Ending) (r1 r2 : List Int) : Prop := ∃ v0_ v1_ : Value, e = .returned (.tuple #[v0_, v1_]) ∧ Kd.R (Kd.int .i64) 3 w' w.heap.size (fun k_ => some k_ ≠ (v1_ : Value).ownBlock) v0_ r1 ∧ Kd.R (Kd.int .i64) 3 w' w.heap.size (fun k_ => some k_ ≠ (v0_ : Value).ownBlock) v1_ r2 ∧ Below w.heap.size w w'
theorem Two.lits {w w' : World} {r1 r2 : List Int} {g1 g2 : Nat} (l1 : w.heap.size ≤ g1) (b1 : w'.heap[g1]? = some (.cells (r1.map (Value.int .i64)).toArray 3 (0, 0))) (m1 : r1.length ≤ 1000) (l2 : w.heap.size ≤ g2) (b2 : w'.heap[g2]? = some (.cells (r2.map (Value.int .i64)).toArray 3 (0, 0))) (m2 : r2.length ≤ 1000) (hne : g1 ≠ g2) (hb : Below w.heap.size w w') :
    Two w w' (.returned (.tuple #[.slice (some ⟨g1, 0, none⟩) r1.length r1.length, .slice (some ⟨g2, 0, none⟩) r2.length r2.length])) r1 r2 :=
  ⟨_, _, rfl, Reg.lit_own l1 b1 m1 (fun e : some g1 = some g2 => hne (Option.some.inj e)), Reg.lit_own l2 b2 m2 (fun e : some g2 = some g1 => hne (Option.some.inj e).symm), hb⟩
def stack_typed.f (x y z : Int) : Option (List Int × List Int) := if x = 26 then some ([y], [z]) else if x = 18 ∨ x = 19 then some ([y, 2], [y]) else (alu_Binary.f x).bind fun b => if b = true then (alu_Result.f x y).bind fun r => some ([y, y], [r]) else some ([y], [y])
set_option maxHeartbeats 8000000 in
set_option maxRecDepth 100000 in
theorem typed_w (x y z : Int) (r1 r2 : List Int) (w : World) (h : stack_typed.f x y z = some (r1, r2)) (hL : LaidAll w) : Calls Tryd.prog 39 #[.agg #[.int .i64 x, .int .i64 y, .int .i64 z]] w fun e w' => Two w w' e r1 r2 := by
  unfold stack_typed.f at h
  have HL := Aside0.mk hL
  clear hL
  obtain ⟨W, hW⟩ : ∃ W, W = w.alloc (.cells #[.int .i64 x, .int .i64 y, .int .i64 z] 29) := ⟨_, rfl⟩
  have HB := Aside0.mk (show Below w.heap.size w W by rw [hW]; exact (Below.refl _ _).alloc (Nat.le_refl _) _)
  have HI := Aside0.mk (show W.heap[w.heap.size]? = some (.cells #[.int .i64 x, .int .i64 y, .int .i64 z] 29 (0, 0)) by rw [hW]; exact heap_alloc_new _ _)
  have HSZ := Aside0.mk HB.out.size
  have C := Aside0.mk ((blk_cell HI.out 0).trans rfl : W.cell? ⟨w.heap.size, 0, none⟩ = some (.int .i64 x))
  by_cases c1 : x = 26
  · rw [if_pos c1] at h
    obtain ⟨rfl, rfl⟩ := Prod.mk.inj (Option.some.inj h)
    subst c1
    have C0 := C.out
    go_enter Tryd.func39, Tryd.ntmps39
    go_wp2_with fail
    rw [← hW]
    have HB0 := Aside0.mk HB.out
    clear C hW
    generalize hb0_ : w.heap.size = b0_ at HI HSZ ⊢
    obtain ⟨g, hg⟩ : ∃ g, g = b0_ := ⟨_, rfl⟩
    rw [← hg] at HI ⊢
    clear hg
    refine Reg.region_e (Reg.Dis [10, 11, 2] [14, 15, 3]) [some 8, some 9, some 10, some 11, some 12, some 13, some 14, some 15, some 2, some 3] [0, 1, 3, 7, 0, 16, 48, 127, 255, 511] (true, [([], []), ([0], [0]), ([1], [1]), ([2], [2]), ([], []), ([4], [4]), ([5], [5]), ([6, 3], [6]), ([3, 7, 0, 1, 2, 3], [3]), ([7, 8, 0, 1, 2, 3, 4, 5, 6, 7, 8], [7])]) (fun i => ([(fun _ v_ => v_ = (.pointer (some ⟨g, 1, none⟩))), (fun _ v_ => v_ = (.int .i64 y)), (Reg.Lit b0_ ([y] : List Int)), (Reg.Lit b0_ ([y] : List Int)), (fun _ v_ => v_ = (.pointer (some ⟨g, 2, none⟩))), (fun _ v_ => v_ = (.int .i64 z)), (Reg.Lit b0_ ([z] : List Int)), (Reg.Lit b0_ ([z] : List Int)), (Reg.Lit b0_ ([y] : List Int)), (Reg.Lit b0_ ([z] : List Int))] : List (World → Value → Prop)).getD i (fun _ _ => False))
        (by kernel_rfl) (by kernel_rfl) (by kernel_rfl) (by kernel_rfl) (by kernel_rfl) (by decide) (by rfl) (Reg.mono_getD ?_) [0, 1, 2, 3, 4, 5, 6, 7, 8, 9] (by kernel_rfl) ?_ ?_ ?_
    · exact Reg.monoS_cons (Reg.monoS_eq _) (Reg.monoS_cons (Reg.monoS_eq _) (Reg.monoS_cons (Reg.lit_mono _ _) (Reg.monoS_cons (Reg.lit_mono _ _) (Reg.monoS_cons (Reg.monoS_eq _) (Reg.monoS_cons (Reg.monoS_eq _) (Reg.monoS_cons (Reg.lit_mono _ _) (Reg.monoS_cons (Reg.lit_mono _ _) (Reg.monoS_cons (Reg.lit_mono _ _) (Reg.monoS_cons (Reg.lit_mono _ _) Reg.monoS_nil)))))))))
    · intro w hw; exact Reg.dis_start (by rfl)
    · skip
      refine Reg.re_cons (Reg.RStepE.of_r (fun oi hoi a w v w' he hs => by cases hoi; exact Reg.dis_keep he (by decide) hs) ?_) ?_
      · intro a w hb hs hel hon
        have e1 : a.tmps[1]? = some (.pointer (some ⟨g, 0, none⟩)) := (hel 1 (by decide)).trans rfl
        obtain ⟨_, g1⟩ := Array.getElem?_eq_some_iff.1 e1
        refine ⟨_, rfl, fun K hK => ?_⟩
        refine value_ (w1 := w) (v := .pointer (some ⟨g, 1, none⟩)) (by rfl) rfl ?_ (hK.out _ _ (Below.refl _ _) (rfl))
        · go_simp
          (try simp only [i64_w, g1])
          (try go_simp)
          try rfl
      refine Reg.re_cons (Reg.RStepE.of_r (fun oi hoi a w v w' he hs => by cases hoi; exact Reg.dis_keep he (by decide) hs) ?_) ?_
      · intro a w hb hs hel hon
        obtain ⟨_, e8, rfl⟩ := hon 0 8 (by kernel_rfl) rfl
        obtain ⟨_, g8⟩ := Array.getElem?_eq_some_iff.1 e8
        refine ⟨_, rfl, fun K hK => ?_⟩
        have q1 : w.cell? ⟨g, 1, none⟩ = some (.int .i64 y) := (blk_cell ((hb.block _ (blk_lt HI.out)).trans HI.out) 1).trans rfl
        refine value_ (w1 := w) (v := .int .i64 y) (by rfl) rfl ?_ (hK.out _ _ (Below.refl _ _) (rfl))
        · go_simp
          (try simp only [i64_w, g8])
          (try go_simp)
          try rfl
      refine Reg.re_cons ?_ ?_
      · intro a w hb hs hel hE hon
        obtain ⟨_, e9, rfl⟩ := hon 1 9 (by kernel_rfl) rfl
        obtain ⟨_, g9⟩ := Array.getElem?_eq_some_iff.1 e9
        refine ⟨_, rfl, fun K hK => ?_⟩
        refine value_ (w1 := w.alloc (.cells #[.int .i64 y] 3)) (v := .slice (some ⟨w.heap.size, 0, none⟩) ([y] : List Int).length ([y] : List Int).length) (by rfl) rfl ?_ (hK.out _ _ ((Below.refl _ _).alloc (Nat.le_refl _) _) (Reg.lit_of_alloc w ([y] : List Int) (Nat.le_trans HSZ.out hb.size) _ (by rfl)) (Reg.dis_new hE (by decide) (by simp)))
        · go_simp
          (try simp only [i64_w, g9])
          (try go_simp)
          try rfl
      refine Reg.re_cons ?_ ?_
      · intro a w hb hs hel hE hon
        obtain ⟨_, e10, gq, rfl, hg0, hg⟩ := hon 2 10 (by kernel_rfl) rfl
        refine ⟨_, rfl, fun K hK => ?_⟩
        refine goes_ Tryd.func23 (by kernel_rfl) rfl #[.slice (some ⟨gq, 0, none⟩) ([y] : List Int).length ([y] : List Int).length] (by rfl) rfl rfl (by first | (simp only [List.map_toArray, List.map_cons, List.map_nil, Act.eval, Array.getD_eq_getD_getElem?, Option.getD_some, e10]; done) | (simp only [List.map_toArray, List.map_cons, List.map_nil, Act.eval, Array.getD_eq_getD_getElem?, Option.getD_some, e10]; rfl) | rfl) ?_
        refine (Reg.of_w _ _ _ _).mono ?_
        rintro e w2 ⟨rfl, hd⟩
        have hb2 := drewN_of hd
        exact ⟨_, rfl, hK.out _ _ hb2 ⟨gq, rfl, hg0, (hb2.block gq (blk_lt hg)).trans hg⟩ (Reg.dis_copy hE (s := 10) (by decide) ⟨_, e10⟩ (by decide) hb2.size)⟩
      refine Reg.re_cons (Reg.RStepE.of_r (fun oi hoi a w v w' he hs => by cases hoi; exact Reg.dis_keep he (by decide) hs) ?_) ?_
      · intro a w hb hs hel hon
        have e1 : a.tmps[1]? = some (.pointer (some ⟨g, 0, none⟩)) := (hel 1 (by decide)).trans rfl
        obtain ⟨_, g1⟩ := Array.getElem?_eq_some_iff.1 e1
        refine ⟨_, rfl, fun K hK => ?_⟩
        refine value_ (w1 := w) (v := .pointer (some ⟨g, 2, none⟩)) (by rfl) rfl ?_ (hK.out _ _ (Below.refl _ _) (rfl))
        · go_simp
          (try simp only [i64_w, g1])
          (try go_simp)
          try rfl
      refine Reg.re_cons (Reg.RStepE.of_r (fun oi hoi a w v w' he hs => by cases hoi; exact Reg.dis_keep he (by decide) hs) ?_) ?_
      · intro a w hb hs hel hon
        obtain ⟨_, e12, rfl⟩ := hon 4 12 (by kernel_rfl) rfl
        obtain ⟨_, g12⟩ := Array.getElem?_eq_some_iff.1 e12
        refine ⟨_, rfl, fun K hK => ?_⟩
        have q2 : w.cell? ⟨g, 2, none⟩ = some (.int .i64 z) := (blk_cell ((hb.block _ (blk_lt HI.out)).trans HI.out) 2).trans rfl
        refine value_ (w1 := w) (v := .int .i64 z) (by rfl) rfl ?_ (hK.out _ _ (Below.refl _ _) (rfl))
        · go_simp
          (try simp only [i64_w, g12])
          (try go_simp)
          try rfl
      refine Reg.re_cons ?_ ?_
      · intro a w hb hs hel hE hon
        obtain ⟨_, e13, rfl⟩ := hon 5 13 (by kernel_rfl) rfl
        obtain ⟨_, g13⟩ := Array.getElem?_eq_some_iff.1 e13
        refine ⟨_, rfl, fun K hK => ?_⟩
        refine value_ (w1 := w.alloc (.cells #[.int .i64 z] 3)) (v := .slice (some ⟨w.heap.size, 0, none⟩) ([z] : List Int).length ([z] : List Int).length) (by rfl) rfl ?_ (hK.out _ _ ((Below.refl _ _).alloc (Nat.le_refl _) _) (Reg.lit_of_alloc w ([z] : List Int) (Nat.le_trans HSZ.out hb.size) _ (by rfl)) (Reg.dis_swap (Reg.dis_new (Reg.dis_swap hE) (by decide) (by simp))))
        · go_simp
          (try simp only [i64_w, g13])
          (try go_simp)
          try rfl
      refine Reg.re_cons ?_ ?_
      · intro a w hb hs hel hE hon
        obtain ⟨_, e14, gq, rfl, hg0, hg⟩ := hon 6 14 (by kernel_rfl) rfl
        refine ⟨_, rfl, fun K hK => ?_⟩
        refine goes_ Tryd.func23 (by kernel_rfl) rfl #[.slice (some ⟨gq, 0, none⟩) ([z] : List Int).length ([z] : List Int).length] (by rfl) rfl rfl (by first | (simp only [List.map_toArray, List.map_cons, List.map_nil, Act.eval, Array.getD_eq_getD_getElem?, Option.getD_some, e14]; done) | (simp only [List.map_toArray, List.map_cons, List.map_nil, Act.eval, Array.getD_eq_getD_getElem?, Option.getD_some, e14]; rfl) | rfl) ?_
        refine (Reg.of_w _ _ _ _).mono ?_
        rintro e w2 ⟨rfl, hd⟩
        have hb2 := drewN_of hd
        exact ⟨_, rfl, hK.out _ _ hb2 ⟨gq, rfl, hg0, (hb2.block gq (blk_lt hg)).trans hg⟩ (Reg.dis_swap (Reg.dis_copy (Reg.dis_swap hE) (s := 14) (by decide) ⟨_, e14⟩ (by decide) hb2.size))⟩
      refine Reg.re_cons ?_ ?_
      · intro a w hb hs hel hE hon
        obtain ⟨_, e11, gq, rfl, hg0, hg⟩ := hon 3 11 (by kernel_rfl) rfl
        obtain ⟨_, g11⟩ := Array.getElem?_eq_some_iff.1 e11
        refine ⟨_, rfl, fun K hK => ?_⟩
        refine value_ (w1 := w) (v := .slice (some ⟨gq, 0, none⟩) ([y] : List Int).length ([y] : List Int).length) (by rfl) rfl ?_ (hK.out _ _ (Below.refl _ _) ⟨gq, rfl, hg0, hg⟩ (Reg.dis_copy hE (s := 11) (by decide) ⟨_, e11⟩ (by decide) (Nat.le_refl _)))
        · go_simp
          (try simp only [g11])
          (try go_simp)
          try rfl
      refine Reg.re_cons ?_ ?_
      · intro a w hb hs hel hE hon
        obtain ⟨_, e15, gq, rfl, hg0, hg⟩ := hon 7 15 (by kernel_rfl) rfl
        obtain ⟨_, g15⟩ := Array.getElem?_eq_some_iff.1 e15
        refine ⟨_, rfl, fun K hK => ?_⟩
        refine value_ (w1 := w) (v := .slice (some ⟨gq, 0, none⟩) ([z] : List Int).length ([z] : List Int).length) (by rfl) rfl ?_ (hK.out _ _ (Below.refl _ _) ⟨gq, rfl, hg0, hg⟩ (Reg.dis_swap (Reg.dis_copy (Reg.dis_swap hE) (s := 15) (by decide) ⟨_, e15⟩ (by decide) (Nat.le_refl _))))
        · go_simp
          (try simp only [g15])
          (try go_simp)
          try rfl
      exact Reg.re_nil
    · intro a w hw_
      obtain ⟨hI, hE⟩ := hw_
      rename_i K_ hK_
      refine hK_ a w ?_
      obtain ⟨_, e2, ga, rfl, la, ba⟩ := hI.vals 8 2 rfl rfl
      obtain ⟨_, e3, gb, rfl, lb, bb⟩ := hI.vals 9 3 rfl rfl
      have hne : ga ≠ gb := fun e => hE.2 ga ⟨2, by decide, _, e2⟩ ⟨3, by decide, _, by rw [e]; exact e3⟩
      have HT := Aside0.mk (Two.lits (Nat.le_trans (Nat.le_of_eq hb0_) la) ba (by simp) (Nat.le_trans (Nat.le_of_eq hb0_) lb) bb (by simp) hne (HB0.out.trans (hI.below.mono HB0.out.size)))
      have G1 := Reg.getD_of e2
      have G2 := Reg.getD_of e3
      have hfr := hI.frame
      rw [hfr]
      simp only [Reg.puts, Act.put, List.setIfInBounds_toArray, List.set_cons_zero, List.set_cons_succ]
      rw [G1, G2]
      generalize a.tmps = ts_
      clear hI hE hfr e2 e3 G1 G2 hK_ ba bb la lb hne
      go_wp2_with fail
      go_ret2
      exact HT.out
  rw [if_neg c1] at h
  have d1 : (x == 26) = false := beq_eq_false_iff_ne.mpr c1
  by_cases c2 : x = 18 ∨ x = 19
  · rw [if_pos c2] at h
    obtain ⟨rfl, rfl⟩ := Prod.mk.inj (Option.some.inj h)
    rcases c2 with rfl | rfl
    · have C0 := C.out
      go_enter Tryd.func39, Tryd.ntmps39
      go_wp2_with fail
      rw [← hW]
      have HB0 := Aside0.mk HB.out
      clear C hW
      generalize hb0_ : w.heap.size = b0_ at HI HSZ ⊢
      obtain ⟨g, hg⟩ : ∃ g, g = b0_ := ⟨_, rfl⟩
      rw [← hg] at HI ⊢
      clear hg
      refine Reg.region_e (Reg.Dis [27, 28, 2] [31, 32, 3]) [some 25, some 26, some 27, some 28, some 29, some 30, some 31, some 32, some 2, some 3] [0, 1, 3, 7, 0, 16, 48, 127, 255, 511] (true, [([], []), ([0], [0]), ([1], [1]), ([2], [2]), ([], []), ([4], [4]), ([5], [5]), ([6, 3], [6]), ([3, 7, 0, 1, 2, 3], [3]), ([7, 8, 0, 1, 2, 3, 4, 5, 6, 7, 8], [7])]) (fun i => ([(fun _ v_ => v_ = (.pointer (some ⟨g, 1, none⟩))), (fun _ v_ => v_ = (.int .i64 y)), (Reg.Lit b0_ ([y, 2] : List Int)), (Reg.Lit b0_ ([y, 2] : List Int)), (fun _ v_ => v_ = (.pointer (some ⟨g, 1, none⟩))), (fun _ v_ => v_ = (.int .i64 y)), (Reg.Lit b0_ ([y] : List Int)), (Reg.Lit b0_ ([y] : List Int)), (Reg.Lit b0_ ([y, 2] : List Int)), (Reg.Lit b0_ ([y] : List Int))] : List (World → Value → Prop)).getD i (fun _ _ => False))
          (by kernel_rfl) (by kernel_rfl) (by kernel_rfl) (by kernel_rfl) (by kernel_rfl) (by decide) (by rfl) (Reg.mono_getD ?_) [0, 1, 2, 3, 4, 5, 6, 7, 8, 9] (by kernel_rfl) ?_ ?_ ?_
      · exact Reg.monoS_cons (Reg.monoS_eq _) (Reg.monoS_cons (Reg.monoS_eq _) (Reg.monoS_cons (Reg.lit_mono _ _) (Reg.monoS_cons (Reg.lit_mono _ _) (Reg.monoS_cons (Reg.monoS_eq _) (Reg.monoS_cons (Reg.monoS_eq _) (Reg.monoS_cons (Reg.lit_mono _ _) (Reg.monoS_cons (Reg.lit_mono _ _) (Reg.monoS_cons (Reg.lit_mono _ _) (Reg.monoS_cons (Reg.lit_mono _ _) Reg.monoS_nil)))))))))
      · intro w hw; exact Reg.dis_start (by rfl)
      · skip
        refine Reg.re_cons (Reg.RStepE.of_r (fun oi hoi a w v w' he hs => by cases hoi; exact Reg.dis_keep he (by decide) hs) ?_) ?_
        · intro a w hb hs hel hon
          have e1 : a.tmps[1]? = some (.pointer (some ⟨g, 0, none⟩)) := (hel 1 (by decide)).trans rfl
          obtain ⟨_, g1⟩ := Array.getElem?_eq_some_iff.1 e1
          refine ⟨_, rfl, fun K hK => ?_⟩
          refine value_ (w1 := w) (v := .pointer (some ⟨g, 1, none⟩)) (by rfl) rfl ?_ (hK.out _ _ (Below.refl _ _) (rfl))
          · go_simp
            (try simp only [i64_w, g1])
            (try go_simp)
            try rfl
        refine Reg.re_cons (Reg.RStepE.of_r (fun oi hoi a w v w' he hs => by cases hoi; exact Reg.dis_keep he (by decide) hs) ?_) ?_
        · intro a w hb hs hel hon
          obtain ⟨_, e25, rfl⟩ := hon 0 25 (by kernel_rfl) rfl
          obtain ⟨_, g25⟩ := Array.getElem?_eq_some_iff.1 e25
          refine ⟨_, rfl, fun K hK => ?_⟩
          have q1 : w.cell? ⟨g, 1, none⟩ = some (.int .i64 y) := (blk_cell ((hb.block _ (blk_lt HI.out)).trans HI.out) 1).trans rfl
          refine value_ (w1 := w) (v := .int .i64 y) (by rfl) rfl ?_ (hK.out _ _ (Below.refl _ _) (rfl))
          · go_simp
            (try simp only [i64_w, g25])
            (try go_simp)
            try rfl
        refine Reg.re_cons ?_ ?_
        · intro a w hb hs hel hE hon
          obtain ⟨_, e26, rfl⟩ := hon 1 26 (by kernel_rfl) rfl
          obtain ⟨_, g26⟩ := Array.getElem?_eq_some_iff.1 e26
          refine ⟨_, rfl, fun K hK => ?_⟩
          refine value_ (w1 := w.alloc (.cells #[.int .i64 y, .int .i64 2] 3)) (v := .slice (some ⟨w.heap.size, 0, none⟩) ([y, 2] : List Int).length ([y, 2] : List Int).length) (by rfl) rfl ?_ (hK.out _ _ ((Below.refl _ _).alloc (Nat.le_refl _) _) (Reg.lit_of_alloc w ([y, 2] : List Int) (Nat.le_trans HSZ.out hb.size) _ (by rfl)) (Reg.dis_new hE (by decide) (by simp)))
          · go_simp
            (try simp only [i64_w, g26])
            (try go_simp)
            try rfl
        refine Reg.re_cons ?_ ?_
        · intro a w hb hs hel hE hon
          obtain ⟨_, e27, gq, rfl, hg0, hg⟩ := hon 2 27 (by kernel_rfl) rfl
          refine ⟨_, rfl, fun K hK => ?_⟩
          refine goes_ Tryd.func23 (by kernel_rfl) rfl #[.slice (some ⟨gq, 0, none⟩) ([y, 2] : List Int).length ([y, 2] : List Int).length] (by rfl) rfl rfl (by first | (simp only [List.map_toArray, List.map_cons, List.map_nil, Act.eval, Array.getD_eq_getD_getElem?, Option.getD_some, e27]; done) | (simp only [List.map_toArray, List.map_cons, List.map_nil, Act.eval, Array.getD_eq_getD_getElem?, Option.getD_some, e27]; rfl) | rfl) ?_
          refine (Reg.of_w _ _ _ _).mono ?_
          rintro e w2 ⟨rfl, hd⟩
          have hb2 := drewN_of hd
          exact ⟨_, rfl, hK.out _ _ hb2 ⟨gq, rfl, hg0, (hb2.block gq (blk_lt hg)).trans hg⟩ (Reg.dis_copy hE (s := 27) (by decide) ⟨_, e27⟩ (by decide) hb2.size)⟩
        refine Reg.re_cons (Reg.RStepE.of_r (fun oi hoi a w v w' he hs => by cases hoi; exact Reg.dis_keep he (by decide) hs) ?_) ?_
        · intro a w hb hs hel hon
          have e1 : a.tmps[1]? = some (.pointer (some ⟨g, 0, none⟩)) := (hel 1 (by decide)).trans rfl
          obtain ⟨_, g1⟩ := Array.getElem?_eq_some_iff.1 e1
          refine ⟨_, rfl, fun K hK => ?_⟩
          refine value_ (w1 := w) (v := .pointer (some ⟨g, 1, none⟩)) (by rfl) rfl ?_ (hK.out _ _ (Below.refl _ _) (rfl))
          · go_simp
            (try simp only [i64_w, g1])
            (try go_simp)
            try rfl
        refine Reg.re_cons (Reg.RStepE.of_r (fun oi hoi a w v w' he hs => by cases hoi; exact Reg.dis_keep he (by decide) hs) ?_) ?_
        · intro a w hb hs hel hon
          obtain ⟨_, e29, rfl⟩ := hon 4 29 (by kernel_rfl) rfl
          obtain ⟨_, g29⟩ := Array.getElem?_eq_some_iff.1 e29
          refine ⟨_, rfl, fun K hK => ?_⟩
          have q1 : w.cell? ⟨g, 1, none⟩ = some (.int .i64 y) := (blk_cell ((hb.block _ (blk_lt HI.out)).trans HI.out) 1).trans rfl
          refine value_ (w1 := w) (v := .int .i64 y) (by rfl) rfl ?_ (hK.out _ _ (Below.refl _ _) (rfl))
          · go_simp
            (try simp only [i64_w, g29])
            (try go_simp)
            try rfl
        refine Reg.re_cons ?_ ?_
        · intro a w hb hs hel hE hon
          obtain ⟨_, e30, rfl⟩ := hon 5 30 (by kernel_rfl) rfl
          obtain ⟨_, g30⟩ := Array.getElem?_eq_some_iff.1 e30
          refine ⟨_, rfl, fun K hK => ?_⟩
          refine value_ (w1 := w.alloc (.cells #[.int .i64 y] 3)) (v := .slice (some ⟨w.heap.size, 0, none⟩) ([y] : List Int).length ([y] : List Int).length) (by rfl) rfl ?_ (hK.out _ _ ((Below.refl _ _).alloc (Nat.le_refl _) _) (Reg.lit_of_alloc w ([y] : List Int) (Nat.le_trans HSZ.out hb.size) _ (by rfl)) (Reg.dis_swap (Reg.dis_new (Reg.dis_swap hE) (by decide) (by simp))))
          · go_simp
            (try simp only [i64_w, g30])
            (try go_simp)
            try rfl
        refine Reg.re_cons ?_ ?_
        · intro a w hb hs hel hE hon
          obtain ⟨_, e31, gq, rfl, hg0, hg⟩ := hon 6 31 (by kernel_rfl) rfl
          refine ⟨_, rfl, fun K hK => ?_⟩
          refine goes_ Tryd.func23 (by kernel_rfl) rfl #[.slice (some ⟨gq, 0, none⟩) ([y] : List Int).length ([y] : List Int).length] (by rfl) rfl rfl (by first | (simp only [List.map_toArray, List.map_cons, List.map_nil, Act.eval, Array.getD_eq_getD_getElem?, Option.getD_some, e31]; done) | (simp only [List.map_toArray, List.map_cons, List.map_nil, Act.eval, Array.getD_eq_getD_getElem?, Option.getD_some, e31]; rfl) | rfl) ?_
          refine (Reg.of_w _ _ _ _).mono ?_
          rintro e w2 ⟨rfl, hd⟩
          have hb2 := drewN_of hd
          exact ⟨_, rfl, hK.out _ _ hb2 ⟨gq, rfl, hg0, (hb2.block gq (blk_lt hg)).trans hg⟩ (Reg.dis_swap (Reg.dis_copy (Reg.dis_swap hE) (s := 31) (by decide) ⟨_, e31⟩ (by decide) hb2.size))⟩
        refine Reg.re_cons ?_ ?_
        · intro a w hb hs hel hE hon
          obtain ⟨_, e28, gq, rfl, hg0, hg⟩ := hon 3 28 (by kernel_rfl) rfl
          obtain ⟨_, g28⟩ := Array.getElem?_eq_some_iff.1 e28
          refine ⟨_, rfl, fun K hK => ?_⟩
          refine value_ (w1 := w) (v := .slice (some ⟨gq, 0, none⟩) ([y, 2] : List Int).length ([y, 2] : List Int).length) (by rfl) rfl ?_ (hK.out _ _ (Below.refl _ _) ⟨gq, rfl, hg0, hg⟩ (Reg.dis_copy hE (s := 28) (by decide) ⟨_, e28⟩ (by decide) (Nat.le_refl _)))
          · go_simp
            (try simp only [g28])
            (try go_simp)
            try rfl
        refine Reg.re_cons ?_ ?_
        · intro a w hb hs hel hE hon
          obtain ⟨_, e32, gq, rfl, hg0, hg⟩ := hon 7 32 (by kernel_rfl) rfl
          obtain ⟨_, g32⟩ := Array.getElem?_eq_some_iff.1 e32
          refine ⟨_, rfl, fun K hK => ?_⟩
          refine value_ (w1 := w) (v := .slice (some ⟨gq, 0, none⟩) ([y] : List Int).length ([y] : List Int).length) (by rfl) rfl ?_ (hK.out _ _ (Below.refl _ _) ⟨gq, rfl, hg0, hg⟩ (Reg.dis_swap (Reg.dis_copy (Reg.dis_swap hE) (s := 32) (by decide) ⟨_, e32⟩ (by decide) (Nat.le_refl _))))
          · go_simp
            (try simp only [g32])
            (try go_simp)
            try rfl
        exact Reg.re_nil
      · intro a w hw_
        obtain ⟨hI, hE⟩ := hw_
        rename_i K_ hK_
        refine hK_ a w ?_
        obtain ⟨_, e2, ga, rfl, la, ba⟩ := hI.vals 8 2 rfl rfl
        obtain ⟨_, e3, gb, rfl, lb, bb⟩ := hI.vals 9 3 rfl rfl
        have hne : ga ≠ gb := fun e => hE.2 ga ⟨2, by decide, _, e2⟩ ⟨3, by decide, _, by rw [e]; exact e3⟩
        have HT := Aside0.mk (Two.lits (Nat.le_trans (Nat.le_of_eq hb0_) la) ba (by simp) (Nat.le_trans (Nat.le_of_eq hb0_) lb) bb (by simp) hne (HB0.out.trans (hI.below.mono HB0.out.size)))
        have G1 := Reg.getD_of e2
        have G2 := Reg.getD_of e3
        have hfr := hI.frame
        rw [hfr]
        simp only [Reg.puts, Act.put, List.setIfInBounds_toArray, List.set_cons_zero, List.set_cons_succ]
        rw [G1, G2]
        generalize a.tmps = ts_
        clear hI hE hfr e2 e3 G1 G2 hK_ ba bb la lb hne
        go_wp2_with fail
        go_ret2
        exact HT.out
    · have C0 := C.out
      go_enter Tryd.func39, Tryd.ntmps39
      go_wp2_with fail
      rw [← hW]
      have HB0 := Aside0.mk HB.out
      clear C hW
      generalize hb0_ : w.heap.size = b0_ at HI HSZ ⊢
      obtain ⟨g, hg⟩ : ∃ g, g = b0_ := ⟨_, rfl⟩
      rw [← hg] at HI ⊢
      clear hg
      refine Reg.region_e (Reg.Dis [27, 28, 2] [31, 32, 3]) [some 25, some 26, some 27, some 28, some 29, some 30, some 31, some 32, some 2, some 3] [0, 1, 3, 7, 0, 16, 48, 127, 255, 511] (true, [([], []), ([0], [0]), ([1], [1]), ([2], [2]), ([], []), ([4], [4]), ([5], [5]), ([6, 3], [6]), ([3, 7, 0, 1, 2, 3], [3]), ([7, 8, 0, 1, 2, 3, 4, 5, 6, 7, 8], [7])]) (fun i => ([(fun _ v_ => v_ = (.pointer (some ⟨g, 1, none⟩))), (fun _ v_ => v_ = (.int .i64 y)), (Reg.Lit b0_ ([y, 2] : List Int)), (Reg.Lit b0_ ([y, 2] : List Int)), (fun _ v_ => v_ = (.pointer (some ⟨g, 1, none⟩))), (fun _ v_ => v_ = (.int .i64 y)), (Reg.Lit b0_ ([y] : List Int)), (Reg.Lit b0_ ([y] : List Int)), (Reg.Lit b0_ ([y, 2] : List Int)), (Reg.Lit b0_ ([y] : List Int))] : List (World → Value → Prop)).getD i (fun _ _ => False))
          (by kernel_rfl) (by kernel_rfl) (by kernel_rfl) (by kernel_rfl) (by kernel_rfl) (by decide) (by rfl) (Reg.mono_getD ?_) [0, 1, 2, 3, 4, 5, 6, 7, 8, 9] (by kernel_rfl) ?_ ?_ ?_
      · exact Reg.monoS_cons (Reg.monoS_eq _) (Reg.monoS_cons (Reg.monoS_eq _) (Reg.monoS_cons (Reg.lit_mono _ _) (Reg.monoS_cons (Reg.lit_mono _ _) (Reg.monoS_cons (Reg.monoS_eq _) (Reg.monoS_cons (Reg.monoS_eq _) (Reg.monoS_cons (Reg.lit_mono _ _) (Reg.monoS_cons (Reg.lit_mono _ _) (Reg.monoS_cons (Reg.lit_mono _ _) (Reg.monoS_cons (Reg.lit_mono _ _) Reg.monoS_nil)))))))))
      · intro w hw; exact Reg.dis_start (by rfl)
      · skip
        refine Reg.re_cons (Reg.RStepE.of_r (fun oi hoi a w v w' he hs => by cases hoi; exact Reg.dis_keep he (by decide) hs) ?_) ?_
        · intro a w hb hs hel hon
          have e1 : a.tmps[1]? = some (.pointer (some ⟨g, 0, none⟩)) := (hel 1 (by decide)).trans rfl
          obtain ⟨_, g1⟩ := Array.getElem?_eq_some_iff.1 e1
          refine ⟨_, rfl, fun K hK => ?_⟩
          refine value_ (w1 := w) (v := .pointer (some ⟨g, 1, none⟩)) (by rfl) rfl ?_ (hK.out _ _ (Below.refl _ _) (rfl))
          · go_simp
            (try simp only [i64_w, g1])
            (try go_simp)
            try rfl
        refine Reg.re_cons (Reg.RStepE.of_r (fun oi hoi a w v w' he hs => by cases hoi; exact Reg.dis_keep he (by decide) hs) ?_) ?_
        · intro a w hb hs hel hon
          obtain ⟨_, e25, rfl⟩ := hon 0 25 (by kernel_rfl) rfl
          obtain ⟨_, g25⟩ := Array.getElem?_eq_some_iff.1 e25
          refine ⟨_, rfl, fun K hK => ?_⟩
          have q1 : w.cell? ⟨g, 1, none⟩ = some (.int .i64 y) := (blk_cell ((hb.block _ (blk_lt HI.out)).trans HI.out) 1).trans rfl
          refine value_ (w1 := w) (v := .int .i64 y) (by rfl) rfl ?_ (hK.out _ _ (Below.refl _ _) (rfl))
          · go_simp
            (try simp only [i64_w, g25])
            (try go_simp)
            try rfl
        refine Reg.re_cons ?_ ?_
        · intro a w hb hs hel hE hon
          obtain ⟨_, e26, rfl⟩ := hon 1 26 (by kernel_rfl) rfl
          obtain ⟨_, g26⟩ := Array.getElem?_eq_some_iff.1 e26
          refine ⟨_, rfl, fun K hK => ?_⟩
          refine value_ (w1 := w.alloc (.cells #[.int .i64 y, .int .i64 2] 3)) (v := .slice (some ⟨w.heap.size, 0, none⟩) ([y, 2] : List Int).length ([y, 2] : List Int).length) (by rfl) rfl ?_ (hK.out _ _ ((Below.refl _ _).alloc (Nat.le_refl _) _) (Reg.lit_of_alloc w ([y, 2] : List Int) (Nat.le_trans HSZ.out hb.size) _ (by rfl)) (Reg.dis_new hE (by decide) (by simp)))
          · go_simp
            (try simp only [i64_w, g26])
            (try go_simp)
            try rfl
        refine Reg.re_cons ?_ ?_
        · intro a w hb hs hel hE hon
          obtain ⟨_, e27, gq, rfl, hg0, hg⟩ := hon 2 27 (by kernel_rfl) rfl
          refine ⟨_, rfl, fun K hK => ?_⟩
          refine goes_ Tryd.func23 (by kernel_rfl) rfl #[.slice (some ⟨gq, 0, none⟩) ([y, 2] : List Int).length ([y, 2] : List Int).length] (by rfl) rfl rfl (by first | (simp only [List.map_toArray, List.map_cons, List.map_nil, Act.eval, Array.getD_eq_getD_getElem?, Option.getD_some, e27]; done) | (simp only [List.map_toArray, List.map_cons, List.map_nil, Act.eval, Array.getD_eq_getD_getElem?, Option.getD_some, e27]; rfl) | rfl) ?_
          refine (Reg.of_w _ _ _ _).mono ?_
          rintro e w2 ⟨rfl, hd⟩
          have hb2 := drewN_of hd
          exact ⟨_, rfl, hK.out _ _ hb2 ⟨gq, rfl, hg0, (hb2.block gq (blk_lt hg)).trans hg⟩ (Reg.dis_copy hE (s := 27) (by decide) ⟨_, e27⟩ (by decide) hb2.size)⟩
        refine Reg.re_cons (Reg.RStepE.of_r (fun oi hoi a w v w' he hs => by cases hoi; exact Reg.dis_keep he (by decide) hs) ?_) ?_
        · intro a w hb hs hel hon
          have e1 : a.tmps[1]? = some (.pointer (some ⟨g, 0, none⟩)) := (hel 1 (by decide)).trans rfl
          obtain ⟨_, g1⟩ := Array.getElem?_eq_some_iff.1 e1
          refine ⟨_, rfl, fun K hK => ?_⟩
          refine value_ (w1 := w) (v := .pointer (some ⟨g, 1, none⟩)) (by rfl) rfl ?_ (hK.out _ _ (Below.refl _ _) (rfl))
          · go_simp
            (try simp only [i64_w, g1])
            (try go_simp)
            try rfl
        refine Reg.re_cons (Reg.RStepE.of_r (fun oi hoi a w v w' he hs => by cases hoi; exact Reg.dis_keep he (by decide) hs) ?_) ?_
        · intro a w hb hs hel hon
          obtain ⟨_, e29, rfl⟩ := hon 4 29 (by kernel_rfl) rfl
          obtain ⟨_, g29⟩ := Array.getElem?_eq_some_iff.1 e29
          refine ⟨_, rfl, fun K hK => ?_⟩
          have q1 : w.cell? ⟨g, 1, none⟩ = some (.int .i64 y) := (blk_cell ((hb.block _ (blk_lt HI.out)).trans HI.out) 1).trans rfl
          refine value_ (w1 := w) (v := .int .i64 y) (by rfl) rfl ?_ (hK.out _ _ (Below.refl _ _) (rfl))
          · go_simp
            (try simp only [i64_w, g29])
            (try go_simp)
            try rfl
        refine Reg.re_cons ?_ ?_
        · intro a w hb hs hel hE hon
          obtain ⟨_, e30, rfl⟩ := hon 5 30 (by kernel_rfl) rfl
          obtain ⟨_, g30⟩ := Array.getElem?_eq_some_iff.1 e30
          refine ⟨_, rfl, fun K hK => ?_⟩
          refine value_ (w1 := w.alloc (.cells #[.int .i64 y] 3)) (v := .slice (some ⟨w.heap.size, 0, none⟩) ([y] : List Int).length ([y] : List Int).length) (by rfl) rfl ?_ (hK.out _ _ ((Below.refl _ _).alloc (Nat.le_refl _) _) (Reg.lit_of_alloc w ([y] : List Int) (Nat.le_trans HSZ.out hb.size) _ (by rfl)) (Reg.dis_swap (Reg.dis_new (Reg.dis_swap hE) (by decide) (by simp))))
          · go_simp
            (try simp only [i64_w, g30])
            (try go_simp)
            try rfl
        refine Reg.re_cons ?_ ?_
        · intro a w hb hs hel hE hon
          obtain ⟨_, e31, gq, rfl, hg0, hg⟩ := hon 6 31 (by kernel_rfl) rfl
          refine ⟨_, rfl, fun K hK => ?_⟩
          refine goes_ Tryd.func23 (by kernel_rfl) rfl #[.slice (some ⟨gq, 0, none⟩) ([y] : List Int).length ([y] : List Int).length] (by rfl) rfl rfl (by first | (simp only [List.map_toArray, List.map_cons, List.map_nil, Act.eval, Array.getD_eq_getD_getElem?, Option.getD_some, e31]; done) | (simp only [List.map_toArray, List.map_cons, List.map_nil, Act.eval, Array.getD_eq_getD_getElem?, Option.getD_some, e31]; rfl) | rfl) ?_
          refine (Reg.of_w _ _ _ _).mono ?_
          rintro e w2 ⟨rfl, hd⟩
          have hb2 := drewN_of hd
          exact ⟨_, rfl, hK.out _ _ hb2 ⟨gq, rfl, hg0, (hb2.block gq (blk_lt hg)).trans hg⟩ (Reg.dis_swap (Reg.dis_copy (Reg.dis_swap hE) (s := 31) (by decide) ⟨_, e31⟩ (by decide) hb2.size))⟩
        refine Reg.re_cons ?_ ?_
        · intro a w hb hs hel hE hon
          obtain ⟨_, e28, gq, rfl, hg0, hg⟩ := hon 3 28 (by kernel_rfl) rfl
          obtain ⟨_, g28⟩ := Array.getElem?_eq_some_iff.1 e28
          refine ⟨_, rfl, fun K hK => ?_⟩
          refine value_ (w1 := w) (v := .slice (some ⟨gq, 0, none⟩) ([y, 2] : List Int).length ([y, 2] : List Int).length) (by rfl) rfl ?_ (hK.out _ _ (Below.refl _ _) ⟨gq, rfl, hg0, hg⟩ (Reg.dis_copy hE (s := 28) (by decide) ⟨_, e28⟩ (by decide) (Nat.le_refl _)))
          · go_simp
            (try simp only [g28])
            (try go_simp)
            try rfl
        refine Reg.re_cons ?_ ?_
        · intro a w hb hs hel hE hon
          obtain ⟨_, e32, gq, rfl, hg0, hg⟩ := hon 7 32 (by kernel_rfl) rfl
          obtain ⟨_, g32⟩ := Array.getElem?_eq_some_iff.1 e32
          refine ⟨_, rfl, fun K hK => ?_⟩
          refine value_ (w1 := w) (v := .slice (some ⟨gq, 0, none⟩) ([y] : List Int).length ([y] : List Int).length) (by rfl) rfl ?_ (hK.out _ _ (Below.refl _ _) ⟨gq, rfl, hg0, hg⟩ (Reg.dis_swap (Reg.dis_copy (Reg.dis_swap hE) (s := 32) (by decide) ⟨_, e32⟩ (by decide) (Nat.le_refl _))))
          · go_simp
            (try simp only [g32])
            (try go_simp)
            try rfl
        exact Reg.re_nil
      · intro a w hw_
        obtain ⟨hI, hE⟩ := hw_
        rename_i K_ hK_
        refine hK_ a w ?_
        obtain ⟨_, e2, ga, rfl, la, ba⟩ := hI.vals 8 2 rfl rfl
        obtain ⟨_, e3, gb, rfl, lb, bb⟩ := hI.vals 9 3 rfl rfl
        have hne : ga ≠ gb := fun e => hE.2 ga ⟨2, by decide, _, e2⟩ ⟨3, by decide, _, by rw [e]; exact e3⟩
        have HT := Aside0.mk (Two.lits (Nat.le_trans (Nat.le_of_eq hb0_) la) ba (by simp) (Nat.le_trans (Nat.le_of_eq hb0_) lb) bb (by simp) hne (HB0.out.trans (hI.below.mono HB0.out.size)))
        have G1 := Reg.getD_of e2
        have G2 := Reg.getD_of e3
        have hfr := hI.frame
        rw [hfr]
        simp only [Reg.puts, Act.put, List.setIfInBounds_toArray, List.set_cons_zero, List.set_cons_succ]
        rw [G1, G2]
        generalize a.tmps = ts_
        clear hI hE hfr e2 e3 G1 G2 hK_ ba bb la lb hne
        go_wp2_with fail
        go_ret2
        exact HT.out
  rw [if_neg c2] at h
  have d2 : (x == 18) = false := beq_eq_false_iff_ne.mpr (fun e => c2 (.inl e))
  have d3 : (x == 19) = false := beq_eq_false_iff_ne.mpr (fun e => c2 (.inr e))
  obtain ⟨b, hbin, h⟩ := Option.bind_eq_some_iff.1 h
  have PB := Aside0.mk (fun W => alu_Binary.calls x b W hbin)
  cases b with
  | false =>
    rw [if_neg (by decide)] at h
    obtain ⟨rfl, rfl⟩ := Prod.mk.inj (Option.some.inj h)
    have C0 := C.out
    go_enter Tryd.func39, Tryd.ntmps39
    go_wp2_with fail
    rw [← hW]
    refine (PB.out _).mono ?_
    rintro e w1 ⟨rfl, hd⟩
    have hb1 := drewN_of hd
    replace HB := Aside0.mk (HB.out.trans (hb1.mono HB.out.size))
    replace HI := Aside0.mk ((hb1.block _ (blk_lt HI.out)).trans HI.out)
    replace HSZ := Aside0.mk HB.out.size
    clear hd C0
    have C0 := ((blk_cell HI.out 0).trans rfl : w1.cell? ⟨w.heap.size, 0, none⟩ = some (.int .i64 x))
    go_wp2_with fail
    clear hb1 C0 PB
    have HB0 := Aside0.mk HB.out
    clear C hW
    generalize hb0_ : w.heap.size = b0_ at HI HSZ ⊢
    obtain ⟨g, hg⟩ : ∃ g, g = b0_ := ⟨_, rfl⟩
    rw [← hg] at HI ⊢
    clear hg
    refine Reg.region_e (Reg.Dis [52, 53, 2] [56, 57, 3]) [some 50, some 51, some 52, some 53, some 54, some 55, some 56, some 57, some 2, some 3] [0, 1, 3, 7, 0, 16, 48, 127, 255, 511] (true, [([], []), ([0], [0]), ([1], [1]), ([2], [2]), ([], []), ([4], [4]), ([5], [5]), ([6, 3], [6]), ([3, 7, 0, 1, 2, 3], [3]), ([7, 8, 0, 1, 2, 3, 4, 5, 6, 7, 8], [7])]) (fun i => ([(fun _ v_ => v_ = (.pointer (some ⟨g, 1, none⟩))), (fun _ v_ => v_ = (.int .i64 y)), (Reg.Lit b0_ ([y] : List Int)), (Reg.Lit b0_ ([y] : List Int)), (fun _ v_ => v_ = (.pointer (some ⟨g, 1, none⟩))), (fun _ v_ => v_ = (.int .i64 y)), (Reg.Lit b0_ ([y] : List Int)), (Reg.Lit b0_ ([y] : List Int)), (Reg.Lit b0_ ([y] : List Int)), (Reg.Lit b0_ ([y] : List Int))] : List (World → Value → Prop)).getD i (fun _ _ => False))
        (by kernel_rfl) (by kernel_rfl) (by kernel_rfl) (by kernel_rfl) (by kernel_rfl) (by decide) (by rfl) (Reg.mono_getD ?_) [0, 1, 2, 3, 4, 5, 6, 7, 8, 9] (by kernel_rfl) ?_ ?_ ?_
    · exact Reg.monoS_cons (Reg.monoS_eq _) (Reg.monoS_cons (Reg.monoS_eq _) (Reg.monoS_cons (Reg.lit_mono _ _) (Reg.monoS_cons (Reg.lit_mono _ _) (Reg.monoS_cons (Reg.monoS_eq _) (Reg.monoS_cons (Reg.monoS_eq _) (Reg.monoS_cons (Reg.lit_mono _ _) (Reg.monoS_cons (Reg.lit_mono _ _) (Reg.monoS_cons (Reg.lit_mono _ _) (Reg.monoS_cons (Reg.lit_mono _ _) Reg.monoS_nil)))))))))
    · intro w hw; exact Reg.dis_start (by rfl)
    · skip
      refine Reg.re_cons (Reg.RStepE.of_r (fun oi hoi a w v w' he hs => by cases hoi; exact Reg.dis_keep he (by decide) hs) ?_) ?_
      · intro a w hb hs hel hon
        have e1 : a.tmps[1]? = some (.pointer (some ⟨g, 0, none⟩)) := (hel 1 (by decide)).trans rfl
        obtain ⟨_, g1⟩ := Array.getElem?_eq_some_iff.1 e1
        refine ⟨_, rfl, fun K hK => ?_⟩
        refine value_ (w1 := w) (v := .pointer (some ⟨g, 1, none⟩)) (by rfl) rfl ?_ (hK.out _ _ (Below.refl _ _) (rfl))
        · go_simp
          (try simp only [i64_w, g1])
          (try go_simp)
          try rfl
      refine Reg.re_cons (Reg.RStepE.of_r (fun oi hoi a w v w' he hs => by cases hoi; exact Reg.dis_keep he (by decide) hs) ?_) ?_
      · intro a w hb hs hel hon
        obtain ⟨_, e50, rfl⟩ := hon 0 50 (by kernel_rfl) rfl
        obtain ⟨_, g50⟩ := Array.getElem?_eq_some_iff.1 e50
        refine ⟨_, rfl, fun K hK => ?_⟩
        have q1 : w.cell? ⟨g, 1, none⟩ = some (.int .i64 y) := (blk_cell ((hb.block _ (blk_lt HI.out)).trans HI.out) 1).trans rfl
        refine value_ (w1 := w) (v := .int .i64 y) (by rfl) rfl ?_ (hK.out _ _ (Below.refl _ _) (rfl))
        · go_simp
          (try simp only [i64_w, g50])
          (try go_simp)
          try rfl
      refine Reg.re_cons ?_ ?_
      · intro a w hb hs hel hE hon
        obtain ⟨_, e51, rfl⟩ := hon 1 51 (by kernel_rfl) rfl
        obtain ⟨_, g51⟩ := Array.getElem?_eq_some_iff.1 e51
        refine ⟨_, rfl, fun K hK => ?_⟩
        refine value_ (w1 := w.alloc (.cells #[.int .i64 y] 3)) (v := .slice (some ⟨w.heap.size, 0, none⟩) ([y] : List Int).length ([y] : List Int).length) (by rfl) rfl ?_ (hK.out _ _ ((Below.refl _ _).alloc (Nat.le_refl _) _) (Reg.lit_of_alloc w ([y] : List Int) (Nat.le_trans HSZ.out hb.size) _ (by rfl)) (Reg.dis_new hE (by decide) (by simp)))
        · go_simp
          (try simp only [i64_w, g51])
          (try go_simp)
          try rfl
      refine Reg.re_cons ?_ ?_
      · intro a w hb hs hel hE hon
        obtain ⟨_, e52, gq, rfl, hg0, hg⟩ := hon 2 52 (by kernel_rfl) rfl
        refine ⟨_, rfl, fun K hK => ?_⟩
        refine goes_ Tryd.func23 (by kernel_rfl) rfl #[.slice (some ⟨gq, 0, none⟩) ([y] : List Int).length ([y] : List Int).length] (by rfl) rfl rfl (by first | (simp only [List.map_toArray, List.map_cons, List.map_nil, Act.eval, Array.getD_eq_getD_getElem?, Option.getD_some, e52]; done) | (simp only [List.map_toArray, List.map_cons, List.map_nil, Act.eval, Array.getD_eq_getD_getElem?, Option.getD_some, e52]; rfl) | rfl) ?_
        refine (Reg.of_w _ _ _ _).mono ?_
        rintro e w2 ⟨rfl, hd⟩
        have hb2 := drewN_of hd
        exact ⟨_, rfl, hK.out _ _ hb2 ⟨gq, rfl, hg0, (hb2.block gq (blk_lt hg)).trans hg⟩ (Reg.dis_copy hE (s := 52) (by decide) ⟨_, e52⟩ (by decide) hb2.size)⟩
      refine Reg.re_cons (Reg.RStepE.of_r (fun oi hoi a w v w' he hs => by cases hoi; exact Reg.dis_keep he (by decide) hs) ?_) ?_
      · intro a w hb hs hel hon
        have e1 : a.tmps[1]? = some (.pointer (some ⟨g, 0, none⟩)) := (hel 1 (by decide)).trans rfl
        obtain ⟨_, g1⟩ := Array.getElem?_eq_some_iff.1 e1
        refine ⟨_, rfl, fun K hK => ?_⟩
        refine value_ (w1 := w) (v := .pointer (some ⟨g, 1, none⟩)) (by rfl) rfl ?_ (hK.out _ _ (Below.refl _ _) (rfl))
        · go_simp
          (try simp only [i64_w, g1])
          (try go_simp)
          try rfl
      refine Reg.re_cons (Reg.RStepE.of_r (fun oi hoi a w v w' he hs => by cases hoi; exact Reg.dis_keep he (by decide) hs) ?_) ?_
      · intro a w hb hs hel hon
        obtain ⟨_, e54, rfl⟩ := hon 4 54 (by kernel_rfl) rfl
        obtain ⟨_, g54⟩ := Array.getElem?_eq_some_iff.1 e54
        refine ⟨_, rfl, fun K hK => ?_⟩
        have q1 : w.cell? ⟨g, 1, none⟩ = some (.int .i64 y) := (blk_cell ((hb.block _ (blk_lt HI.out)).trans HI.out) 1).trans rfl
        refine value_ (w1 := w) (v := .int .i64 y) (by rfl) rfl ?_ (hK.out _ _ (Below.refl _ _) (rfl))
        · go_simp
          (try simp only [i64_w, g54])
          (try go_simp)
          try rfl
      refine Reg.re_cons ?_ ?_
      · intro a w hb hs hel hE hon
        obtain ⟨_, e55, rfl⟩ := hon 5 55 (by kernel_rfl) rfl
        obtain ⟨_, g55⟩ := Array.getElem?_eq_some_iff.1 e55
        refine ⟨_, rfl, fun K hK => ?_⟩
        refine value_ (w1 := w.alloc (.cells #[.int .i64 y] 3)) (v := .slice (some ⟨w.heap.size, 0, none⟩) ([y] : List Int).length ([y] : List Int).length) (by rfl) rfl ?_ (hK.out _ _ ((Below.refl _ _).alloc (Nat.le_refl _) _) (Reg.lit_of_alloc w ([y] : List Int) (Nat.le_trans HSZ.out hb.size) _ (by rfl)) (Reg.dis_swap (Reg.dis_new (Reg.dis_swap hE) (by decide) (by simp))))
        · go_simp
          (try simp only [i64_w, g55])
          (try go_simp)
          try rfl
      refine Reg.re_cons ?_ ?_
      · intro a w hb hs hel hE hon
        obtain ⟨_, e56, gq, rfl, hg0, hg⟩ := hon 6 56 (by kernel_rfl) rfl
        refine ⟨_, rfl, fun K hK => ?_⟩
        refine goes_ Tryd.func23 (by kernel_rfl) rfl #[.slice (some ⟨gq, 0, none⟩) ([y] : List Int).length ([y] : List Int).length] (by rfl) rfl rfl (by first | (simp only [List.map_toArray, List.map_cons, List.map_nil, Act.eval, Array.getD_eq_getD_getElem?, Option.getD_some, e56]; done) | (simp only [List.map_toArray, List.map_cons, List.map_nil, Act.eval, Array.getD_eq_getD_getElem?, Option.getD_some, e56]; rfl) | rfl) ?_
        refine (Reg.of_w _ _ _ _).mono ?_
        rintro e w2 ⟨rfl, hd⟩
        have hb2 := drewN_of hd
        exact ⟨_, rfl, hK.out _ _ hb2 ⟨gq, rfl, hg0, (hb2.block gq (blk_lt hg)).trans hg⟩ (Reg.dis_swap (Reg.dis_copy (Reg.dis_swap hE) (s := 56) (by decide) ⟨_, e56⟩ (by decide) hb2.size))⟩
      refine Reg.re_cons ?_ ?_
      · intro a w hb hs hel hE hon
        obtain ⟨_, e53, gq, rfl, hg0, hg⟩ := hon 3 53 (by kernel_rfl) rfl
        obtain ⟨_, g53⟩ := Array.getElem?_eq_some_iff.1 e53
        refine ⟨_, rfl, fun K hK => ?_⟩
        refine value_ (w1 := w) (v := .slice (some ⟨gq, 0, none⟩) ([y] : List Int).length ([y] : List Int).length) (by rfl) rfl ?_ (hK.out _ _ (Below.refl _ _) ⟨gq, rfl, hg0, hg⟩ (Reg.dis_copy hE (s := 53) (by decide) ⟨_, e53⟩ (by decide) (Nat.le_refl _)))
        · go_simp
          (try simp only [g53])
          (try go_simp)
          try rfl
      refine Reg.re_cons ?_ ?_
      · intro a w hb hs hel hE hon
        obtain ⟨_, e57, gq, rfl, hg0, hg⟩ := hon 7 57 (by kernel_rfl) rfl
        obtain ⟨_, g57⟩ := Array.getElem?_eq_some_iff.1 e57
        refine ⟨_, rfl, fun K hK => ?_⟩
        refine value_ (w1 := w) (v := .slice (some ⟨gq, 0, none⟩) ([y] : List Int).length ([y] : List Int).length) (by rfl) rfl ?_ (hK.out _ _ (Below.refl _ _) ⟨gq, rfl, hg0, hg⟩ (Reg.dis_swap (Reg.dis_copy (Reg.dis_swap hE) (s := 57) (by decide) ⟨_, e57⟩ (by decide) (Nat.le_refl _))))
        · go_simp
          (try simp only [g57])
          (try go_simp)
          try rfl
      exact Reg.re_nil
    · intro a w hw_
      obtain ⟨hI, hE⟩ := hw_
      rename_i K_ hK_
      refine hK_ a w ?_
      obtain ⟨_, e2, ga, rfl, la, ba⟩ := hI.vals 8 2 rfl rfl
      obtain ⟨_, e3, gb, rfl, lb, bb⟩ := hI.vals 9 3 rfl rfl
      have hne : ga ≠ gb := fun e => hE.2 ga ⟨2, by decide, _, e2⟩ ⟨3, by decide, _, by rw [e]; exact e3⟩
      have HT := Aside0.mk (Two.lits (Nat.le_trans (Nat.le_of_eq hb0_) la) ba (by simp) (Nat.le_trans (Nat.le_of_eq hb0_) lb) bb (by simp) hne (HB0.out.trans (hI.below.mono HB0.out.size)))
      have G1 := Reg.getD_of e2
      have G2 := Reg.getD_of e3
      have hfr := hI.frame
      rw [hfr]
      simp only [Reg.puts, Act.put, List.setIfInBounds_toArray, List.set_cons_zero, List.set_cons_succ]
      rw [G1, G2]
      generalize a.tmps = ts_
      clear hI hE hfr e2 e3 G1 G2 hK_ ba bb la lb hne
      go_wp2_with fail
      go_ret2
      exact HT.out
  | true =>
    rw [if_pos rfl] at h
    obtain ⟨q, hres, h⟩ := Option.bind_eq_some_iff.1 h
    obtain ⟨rfl, rfl⟩ := Prod.mk.inj (Option.some.inj h)
    have PR := Aside0.mk (fun W (hL : LaidAll W) => alu_Result.calls x y q W hres hL)
    have C0 := C.out
    go_enter Tryd.func39, Tryd.ntmps39
    go_wp2_with fail
    rw [← hW]
    refine (PB.out _).mono ?_
    rintro e w1 ⟨rfl, hd⟩
    have hb1 := drewN_of hd
    replace HB := Aside0.mk (HB.out.trans (hb1.mono HB.out.size))
    replace HI := Aside0.mk ((hb1.block _ (blk_lt HI.out)).trans HI.out)
    replace HSZ := Aside0.mk HB.out.size
    clear hd C0
    have C0 := ((blk_cell HI.out 0).trans rfl : w1.cell? ⟨w.heap.size, 0, none⟩ = some (.int .i64 x))
    go_wp2_with fail
    clear hb1 C0 PB
    have HB0 := Aside0.mk HB.out
    clear C hW
    generalize hb0_ : w.heap.size = b0_ at HI HSZ ⊢
    obtain ⟨g, hg⟩ : ∃ g, g = b0_ := ⟨_, rfl⟩
    rw [← hg] at HI ⊢
    clear hg
    refine Reg.region_e (Reg.Dis [41, 42, 2] [48, 49, 3]) [some 37, some 38, some 39, some 40, some 41, some 42, some 43, some 44, some 45, some 46, some 47, some 48, some 49, some 2, some 3] [0, 1, 0, 4, 15, 31, 0, 64, 0, 256, 1023, 2047, 4095, 8191, 16383] (true, [([], []), ([0], [0]), ([], []), ([2], [2]), ([1, 3], [1, 3]), ([4], [4]), ([], []), ([6], [6]), ([], []), ([8], [8]), ([7, 9, 5], [7, 9]), ([10], [10]), ([11, 10], [11]), ([5, 12, 0, 1, 2, 3, 4, 5], [5]), ([12, 13, 0, 1, 2, 3, 4, 5, 6, 7, 8, 9, 10, 11, 12, 13], [12])]) (fun i => ([(fun _ v_ => v_ = (.pointer (some ⟨g, 1, none⟩))), (fun _ v_ => v_ = (.int .i64 y)), (fun _ v_ => v_ = (.pointer (some ⟨g, 1, none⟩))), (fun _ v_ => v_ = (.int .i64 y)), (Reg.Lit b0_ ([y, y] : List Int)), (Reg.Lit b0_ ([y, y] : List Int)), (fun _ v_ => v_ = (.pointer (some ⟨g, 0, none⟩))), (fun _ v_ => v_ = (.int .i64 x)), (fun _ v_ => v_ = (.pointer (some ⟨g, 1, none⟩))), (fun _ v_ => v_ = (.int .i64 y)), (fun _ v_ => v_ = (.int .i64 q)), (Reg.Lit b0_ ([q] : List Int)), (Reg.Lit b0_ ([q] : List Int)), (Reg.Lit b0_ ([y, y] : List Int)), (Reg.Lit b0_ ([q] : List Int))] : List (World → Value → Prop)).getD i (fun _ _ => False))
        (by kernel_rfl) (by kernel_rfl) (by kernel_rfl) (by kernel_rfl) (by kernel_rfl) (by decide) (by rfl) (Reg.mono_getD ?_) [0, 1, 2, 3, 4, 5, 6, 7, 8, 9, 10, 11, 12, 13, 14] (by kernel_rfl) ?_ ?_ ?_
    · exact Reg.monoS_cons (Reg.monoS_eq _) (Reg.monoS_cons (Reg.monoS_eq _) (Reg.monoS_cons (Reg.monoS_eq _) (Reg.monoS_cons (Reg.monoS_eq _) (Reg.monoS_cons (Reg.lit_mono _ _) (Reg.monoS_cons (Reg.lit_mono _ _) (Reg.monoS_cons (Reg.monoS_eq _) (Reg.monoS_cons (Reg.monoS_eq _) (Reg.monoS_cons (Reg.monoS_eq _) (Reg.monoS_cons (Reg.monoS_eq _) (Reg.monoS_cons (Reg.monoS_eq _) (Reg.monoS_cons (Reg.lit_mono _ _) (Reg.monoS_cons (Reg.lit_mono _ _) (Reg.monoS_cons (Reg.lit_mono _ _) (Reg.monoS_cons (Reg.lit_mono _ _) Reg.monoS_nil))))))))))))))
    · intro w hw; exact Reg.dis_start (by rfl)
    · skip
      refine Reg.re_cons (Reg.RStepE.of_r (fun oi hoi a w v w' he hs => by cases hoi; exact Reg.dis_keep he (by decide) hs) ?_) ?_
      · intro a w hb hs hel hon
        have e1 : a.tmps[1]? = some (.pointer (some ⟨g, 0, none⟩)) := (hel 1 (by decide)).trans rfl
        obtain ⟨_, g1⟩ := Array.getElem?_eq_some_iff.1 e1
        refine ⟨_, rfl, fun K hK => ?_⟩
        refine value_ (w1 := w) (v := .pointer (some ⟨g, 1, none⟩)) (by rfl) rfl ?_ (hK.out _ _ (Below.refl _ _) (rfl))
        · go_simp
          (try simp only [i64_w, g1])
          (try go_simp)
          try rfl
      refine Reg.re_cons (Reg.RStepE.of_r (fun oi hoi a w v w' he hs => by cases hoi; exact Reg.dis_keep he (by decide) hs) ?_) ?_
      · intro a w hb hs hel hon
        obtain ⟨_, e37, rfl⟩ := hon 0 37 (by kernel_rfl) rfl
        obtain ⟨_, g37⟩ := Array.getElem?_eq_some_iff.1 e37
        refine ⟨_, rfl, fun K hK => ?_⟩
        have q1 : w.cell? ⟨g, 1, none⟩ = some (.int .i64 y) := (blk_cell ((hb.block _ (blk_lt HI.out)).trans HI.out) 1).trans rfl
        refine value_ (w1 := w) (v := .int .i64 y) (by rfl) rfl ?_ (hK.out _ _ (Below.refl _ _) (rfl))
        · go_simp
          (try simp only [i64_w, g37])
          (try go_simp)
          try rfl
      refine Reg.re_cons (Reg.RStepE.of_r (fun oi hoi a w v w' he hs => by cases hoi; exact Reg.dis_keep he (by decide) hs) ?_) ?_
      · intro a w hb hs hel hon
        have e1 : a.tmps[1]? = some (.pointer (some ⟨g, 0, none⟩)) := (hel 1 (by decide)).trans rfl
        obtain ⟨_, g1⟩ := Array.getElem?_eq_some_iff.1 e1
        refine ⟨_, rfl, fun K hK => ?_⟩
        refine value_ (w1 := w) (v := .pointer (some ⟨g, 1, none⟩)) (by rfl) rfl ?_ (hK.out _ _ (Below.refl _ _) (rfl))
        · go_simp
          (try simp only [i64_w, g1])
          (try go_simp)
          try rfl
      refine Reg.re_cons (Reg.RStepE.of_r (fun oi hoi a w v w' he hs => by cases hoi; exact Reg.dis_keep he (by decide) hs) ?_) ?_
      · intro a w hb hs hel hon
        obtain ⟨_, e39, rfl⟩ := hon 2 39 (by kernel_rfl) rfl
        obtain ⟨_, g39⟩ := Array.getElem?_eq_some_iff.1 e39
        refine ⟨_, rfl, fun K hK => ?_⟩
        have q1 : w.cell? ⟨g, 1, none⟩ = some (.int .i64 y) := (blk_cell ((hb.block _ (blk_lt HI.out)).trans HI.out) 1).trans rfl
        refine value_ (w1 := w) (v := .int .i64 y) (by rfl) rfl ?_ (hK.out _ _ (Below.refl _ _) (rfl))
        · go_simp
          (try simp only [i64_w, g39])
          (try go_simp)
          try rfl
      refine Reg.re_cons ?_ ?_
      · intro a w hb hs hel hE hon
        obtain ⟨_, e38, rfl⟩ := hon 1 38 (by kernel_rfl) rfl
        obtain ⟨_, e40, rfl⟩ := hon 3 40 (by kernel_rfl) rfl
        obtain ⟨_, g38⟩ := Array.getElem?_eq_some_iff.1 e38
        obtain ⟨_, g40⟩ := Array.getElem?_eq_some_iff.1 e40
        refine ⟨_, rfl, fun K hK => ?_⟩
        refine value_ (w1 := w.alloc (.cells #[.int .i64 y, .int .i64 y] 3)) (v := .slice (some ⟨w.heap.size, 0, none⟩) ([y, y] : List Int).length ([y, y] : List Int).length) (by rfl) rfl ?_ (hK.out _ _ ((Below.refl _ _).alloc (Nat.le_refl _) _) (Reg.lit_of_alloc w ([y, y] : List Int) (Nat.le_trans HSZ.out hb.size) _ (by rfl)) (Reg.dis_new hE (by decide) (by simp)))
        · go_simp
          (try simp only [i64_w, g38, g40])
          (try go_simp)
          try rfl
      refine Reg.re_cons ?_ ?_
      · intro a w hb hs hel hE hon
        obtain ⟨_, e41, gq, rfl, hg0, hg⟩ := hon 4 41 (by kernel_rfl) rfl
        refine ⟨_, rfl, fun K hK => ?_⟩
        refine goes_ Tryd.func23 (by kernel_rfl) rfl #[.slice (some ⟨gq, 0, none⟩) ([y, y] : List Int).length ([y, y] : List Int).length] (by rfl) rfl rfl (by first | (simp only [List.map_toArray, List.map_cons, List.map_nil, Act.eval, Array.getD_eq_getD_getElem?, Option.getD_some, e41]; done) | (simp only [List.map_toArray, List.map_cons, List.map_nil, Act.eval, Array.getD_eq_getD_getElem?, Option.getD_some, e41]; rfl) | rfl) ?_
        refine (Reg.of_w _ _ _ _).mono ?_
        rintro e w2 ⟨rfl, hd⟩
        have hb2 := drewN_of hd
        exact ⟨_, rfl, hK.out _ _ hb2 ⟨gq, rfl, hg0, (hb2.block gq (blk_lt hg)).trans hg⟩ (Reg.dis_copy hE (s := 41) (by decide) ⟨_, e41⟩ (by decide) hb2.size)⟩
      refine Reg.re_cons (Reg.RStepE.of_r (fun oi hoi a w v w' he hs => by cases hoi; exact Reg.dis_keep he (by decide) hs) ?_) ?_
      · intro a w hb hs hel hon
        have e1 : a.tmps[1]? = some (.pointer (some ⟨g, 0, none⟩)) := (hel 1 (by decide)).trans rfl
        obtain ⟨_, g1⟩ := Array.getElem?_eq_some_iff.1 e1
        refine ⟨_, rfl, fun K hK => ?_⟩
        refine value_ (w1 := w) (v := .pointer (some ⟨g, 0, none⟩)) (by rfl) rfl ?_ (hK.out _ _ (Below.refl _ _) (rfl))
        · go_simp
          (try simp only [i64_w, g1])
          (try go_simp)
          try rfl
      refine Reg.re_cons (Reg.RStepE.of_r (fun oi hoi a w v w' he hs => by cases hoi; exact Reg.dis_keep he (by decide) hs) ?_) ?_
      · intro a w hb hs hel hon
        obtain ⟨_, e43, rfl⟩ := hon 6 43 (by kernel_rfl) rfl
        obtain ⟨_, g43⟩ := Array.getElem?_eq_some_iff.1 e43
        refine ⟨_, rfl, fun K hK => ?_⟩
        have q0 : w.cell? ⟨g, 0, none⟩ = some (.int .i64 x) := (blk_cell ((hb.block _ (blk_lt HI.out)).trans HI.out) 0).trans rfl
        refine value_ (w1 := w) (v := .int .i64 x) (by rfl) rfl ?_ (hK.out _ _ (Below.refl _ _) (rfl))
        · go_simp
          (try simp only [i64_w, g43])
          (try go_simp)
          try rfl
      refine Reg.re_cons (Reg.RStepE.of_r (fun oi hoi a w v w' he hs => by cases hoi; exact Reg.dis_keep he (by decide) hs) ?_) ?_
      · intro a w hb hs hel hon
        have e1 : a.tmps[1]? = some (.pointer (some ⟨g, 0, none⟩)) := (hel 1 (by decide)).trans rfl
        obtain ⟨_, g1⟩ := Array.getElem?_eq_some_iff.1 e1
        refine ⟨_, rfl, fun K hK => ?_⟩
        refine value_ (w1 := w) (v := .pointer (some ⟨g, 1, none⟩)) (by rfl) rfl ?_ (hK.out _ _ (Below.refl _ _) (rfl))
        · go_simp
          (try simp only [i64_w, g1])
          (try go_simp)
          try rfl
      refine Reg.re_cons (Reg.RStepE.of_r (fun oi hoi a w v w' he hs => by cases hoi; exact Reg.dis_keep he (by decide) hs) ?_) ?_
      · intro a w hb hs hel hon
        obtain ⟨_, e45, rfl⟩ := hon 8 45 (by kernel_rfl) rfl
        obtain ⟨_, g45⟩ := Array.getElem?_eq_some_iff.1 e45
        refine ⟨_, rfl, fun K hK => ?_⟩
        have q1 : w.cell? ⟨g, 1, none⟩ = some (.int .i64 y) := (blk_cell ((hb.block _ (blk_lt HI.out)).trans HI.out) 1).trans rfl
        refine value_ (w1 := w) (v := .int .i64 y) (by rfl) rfl ?_ (hK.out _ _ (Below.refl _ _) (rfl))
        · go_simp
          (try simp only [i64_w, g45])
          (try go_simp)
          try rfl
      refine Reg.re_cons (Reg.RStepE.of_r (fun oi hoi a w v w' he hs => by cases hoi; exact Reg.dis_keep he (by decide) hs) ?_) ?_
      · intro a w hb hs hel hon
        obtain ⟨_, e44, rfl⟩ := hon 7 44 (by kernel_rfl) rfl
        obtain ⟨_, e46, rfl⟩ := hon 9 46 (by kernel_rfl) rfl
        refine ⟨_, rfl, fun K hK => ?_⟩
        refine goes_ Tryd.func45 (by kernel_rfl) rfl #[.int .i64 x, .int .i64 y] (by rfl) rfl rfl (by first | (simp only [List.map_toArray, List.map_cons, List.map_nil, Act.eval, Array.getD_eq_getD_getElem?, Option.getD_some, e44, e46]; done) | (simp only [List.map_toArray, List.map_cons, List.map_nil, Act.eval, Array.getD_eq_getD_getElem?, Option.getD_some, e44, e46]; rfl) | rfl) ?_
        refine (PR.out w (HL.out.below (HB0.out.trans (hb.mono HB0.out.size)))).mono ?_
        rintro e w2 ⟨rfl, hb2⟩
        exact ⟨_, rfl, hK.out _ _ hb2 rfl⟩
      refine Reg.re_cons ?_ ?_
      · intro a w hb hs hel hE hon
        obtain ⟨_, e47, rfl⟩ := hon 10 47 (by kernel_rfl) rfl
        obtain ⟨_, g47⟩ := Array.getElem?_eq_some_iff.1 e47
        refine ⟨_, rfl, fun K hK => ?_⟩
        refine value_ (w1 := w.alloc (.cells #[.int .i64 q] 3)) (v := .slice (some ⟨w.heap.size, 0, none⟩) ([q] : List Int).length ([q] : List Int).length) (by rfl) rfl ?_ (hK.out _ _ ((Below.refl _ _).alloc (Nat.le_refl _) _) (Reg.lit_of_alloc w ([q] : List Int) (Nat.le_trans HSZ.out hb.size) _ (by rfl)) (Reg.dis_swap (Reg.dis_new (Reg.dis_swap hE) (by decide) (by simp))))
        · go_simp
          (try simp only [i64_w, g47])
          (try go_simp)
          try rfl
      refine Reg.re_cons ?_ ?_
      · intro a w hb hs hel hE hon
        obtain ⟨_, e48, gq, rfl, hg0, hg⟩ := hon 11 48 (by kernel_rfl) rfl
        refine ⟨_, rfl, fun K hK => ?_⟩
        refine goes_ Tryd.func23 (by kernel_rfl) rfl #[.slice (some ⟨gq, 0, none⟩) ([q] : List Int).length ([q] : List Int).length] (by rfl) rfl rfl (by first | (simp only [List.map_toArray, List.map_cons, List.map_nil, Act.eval, Array.getD_eq_getD_getElem?, Option.getD_some, e48]; done) | (simp only [List.map_toArray, List.map_cons, List.map_nil, Act.eval, Array.getD_eq_getD_getElem?, Option.getD_some, e48]; rfl) | rfl) ?_
        refine (Reg.of_w _ _ _ _).mono ?_
        rintro e w2 ⟨rfl, hd⟩
        have hb2 := drewN_of hd
        exact ⟨_, rfl, hK.out _ _ hb2 ⟨gq, rfl, hg0, (hb2.block gq (blk_lt hg)).trans hg⟩ (Reg.dis_swap (Reg.dis_copy (Reg.dis_swap hE) (s := 48) (by decide) ⟨_, e48⟩ (by decide) hb2.size))⟩
      refine Reg.re_cons ?_ ?_
      · intro a w hb hs hel hE hon
        obtain ⟨_, e42, gq, rfl, hg0, hg⟩ := hon 5 42 (by kernel_rfl) rfl
        obtain ⟨_, g42⟩ := Array.getElem?_eq_some_iff.1 e42
        refine ⟨_, rfl, fun K hK => ?_⟩
        refine value_ (w1 := w) (v := .slice (some ⟨gq, 0, none⟩) ([y, y] : List Int).length ([y, y] : List Int).length) (by rfl) rfl ?_ (hK.out _ _ (Below.refl _ _) ⟨gq, rfl, hg0, hg⟩ (Reg.dis_copy hE (s := 42) (by decide) ⟨_, e42⟩ (by decide) (Nat.le_refl _)))
        · go_simp
          (try simp only [g42])
          (try go_simp)
          try rfl
      refine Reg.re_cons ?_ ?_
      · intro a w hb hs hel hE hon
        obtain ⟨_, e49, gq, rfl, hg0, hg⟩ := hon 12 49 (by kernel_rfl) rfl
        obtain ⟨_, g49⟩ := Array.getElem?_eq_some_iff.1 e49
        refine ⟨_, rfl, fun K hK => ?_⟩
        refine value_ (w1 := w) (v := .slice (some ⟨gq, 0, none⟩) ([q] : List Int).length ([q] : List Int).length) (by rfl) rfl ?_ (hK.out _ _ (Below.refl _ _) ⟨gq, rfl, hg0, hg⟩ (Reg.dis_swap (Reg.dis_copy (Reg.dis_swap hE) (s := 49) (by decide) ⟨_, e49⟩ (by decide) (Nat.le_refl _))))
        · go_simp
          (try simp only [g49])
          (try go_simp)
          try rfl
      exact Reg.re_nil
    · intro a w hw_
      obtain ⟨hI, hE⟩ := hw_
      rename_i K_ hK_
      refine hK_ a w ?_
      obtain ⟨_, e2, ga, rfl, la, ba⟩ := hI.vals 13 2 rfl rfl
      obtain ⟨_, e3, gb, rfl, lb, bb⟩ := hI.vals 14 3 rfl rfl
      have hne : ga ≠ gb := fun e => hE.2 ga ⟨2, by decide, _, e2⟩ ⟨3, by decide, _, by rw [e]; exact e3⟩
      have HT := Aside0.mk (Two.lits (Nat.le_trans (Nat.le_of_eq hb0_) la) ba (by simp) (Nat.le_trans (Nat.le_of_eq hb0_) lb) bb (by simp) hne (HB0.out.trans (hI.below.mono HB0.out.size)))
      have G1 := Reg.getD_of e2
      have G2 := Reg.getD_of e3
      have hfr := hI.frame
      rw [hfr]
      simp only [Reg.puts, Act.put, List.setIfInBounds_toArray, List.set_cons_zero, List.set_cons_succ]
      rw [G1, G2]
      generalize a.tmps = ts_
      clear hI hE hfr e2 e3 G1 G2 hK_ ba bb la lb hne
      go_wp2_with fail
      go_ret2
      exact HT.out
/-- In the printed form. -/
theorem stack_typed.calls (a0_0 : Int) (a0_1 : Int) (a0_2 : Int) (r1 : List Int) (r2 : List Int) (w : World) (h : stack_typed.f a0_0 a0_1 a0_2 = some (r1, r2)) (hL_ : LaidAll w) :
    Calls Tryd.prog 39 #[.agg #[.int .i64 a0_0, .int .i64 a0_1, .int .i64 a0_2]] w fun e w' => ∃ v0_ v1_ : Value, e = .returned (.tuple #[v0_, v1_]) ∧ Kd.R (Kd.int .i64) 3 w' w.heap.size (fun k_ => some k_ ≠ (v1_ : Value).ownBlock) v0_ r1 ∧ Kd.R (Kd.int .i64) 3 w' w.heap.size (fun k_ => some k_ ≠ (v0_ : Value).ownBlock) v1_ r2 ∧ Below w.heap.size w w' := typed_w a0_0 a0_1 a0_2 r1 r2 w h hL_
end Go.Proofs.YthdlocigijiobaaDoor.Given
end

section
/- block.Field and stack.field, of a field that is there; the tables lie as the program lays them. -/
namespace Go.Proofs.YthdlocigijiobaaDoor.Given
open Go Go.RowKit Go.Proofs.YthdlocigijiobaaDoor.PSk Go.Proofs.YthdlocigijiobaaDoor.RPure Go.Proofs.YthdlocigijiobaaDoorW.PrintWords Go.Proofs.YthdlocigijiobaaDoorW.PrintLast Go.Proofs.YthdlocigijiobaaDoorW.PrintMore
set_option linter.unusedVariables false
set_option linter.unusedSimpArgs false
set_option maxRecDepth 100000 in
theorem row_names (t : Int) (j : Nat) (hj : j < 8) : ∃ s : ByteArray, (blkRow t)[2 + j * 2]? = some (.string s) := by
  rcases kinds t with h | h
  · rcases h with rfl | rfl | rfl | rfl | rfl | rfl | rfl | rfl <;>
    · rcases (by omega : j = 0 ∨ j = 1 ∨ j = 2 ∨ j = 3 ∨ j = 4 ∨ j = 5 ∨ j = 6 ∨ j = 7) with rfl | rfl | rfl | rfl | rfl | rfl | rfl | rfl <;> exact ⟨_, rfl⟩
  · have h1 : blkRow t = zeroRow := if_neg h
    rw [h1]
    rcases (by omega : j = 0 ∨ j = 1 ∨ j = 2 ∨ j = 3 ∨ j = 4 ∨ j = 5 ∨ j = 6 ∨ j = 7) with rfl | rfl | rfl | rfl | rfl | rfl | rfl | rfl <;> exact ⟨_, rfl⟩
theorem fields_le (t : Int) : fieldsOf t ≤ 8 := by unfold fieldsOf; split <;> (try split) <;> (try split) <;> (try split) <;> omega
set_option maxHeartbeats 2000000 in
set_option maxRecDepth 100000 in
theorem bfield_w (t z : Int) (w : World) (h0 : 0 ≤ z) (h1 : z < fieldsOf t) (hL : LaidBlk w) : Calls Tryd.prog 46 #[.int .i64 t, .int .i64 z] w fun e w' => (∃ s : ByteArray, e = .returned (.tuple #[.string s, .int .i64 ((typesOf t).getD z.toNat 0)])) ∧ Below w.heap.size w w' := by
  obtain ⟨L, hr, hl, hone, -, ht⟩ := row_facts t
  have h8 := fields_le t
  obtain ⟨j, rfl⟩ : ∃ j : Nat, z = j := ⟨z.toNat, by omega⟩
  obtain ⟨s, hs⟩ := row_names t j (by omega)
  have hv := ht j (by omega)
  rw [hr, List.getElem?_toArray] at hs
  rw [Int.toNat_natCast]
  generalize (typesOf t).getD j 0 = q at hv ⊢
  have HO := Aside0.mk (of_calls t)
  rw [hr] at HO
  have HF := Aside0.mk (fields_calls t)
  have HL := Aside0.mk hL
  have n0 : decide ((j : Int) < 0) = false := decide_eq_false (by omega)
  have n1 : decide (fieldsOf t ≤ (j : Int)) = false := decide_eq_false (by omega)
  match L, hl with
  | [x0, x1, x2, x3, x4, x5, x6, x7, x8, x9, x10, x11, x12, x13, x14, x15, x16, x17], _ =>
    have hfd : ∀ w : World, (Instr.field 79 (.agg #[x0, x1, x2, x3, x4, x5, x6, x7, x8, x9, x10, x11, x12, x13, x14, x15, x16, x17]) 2).run Tryd.prog w = .ok (.agg #[x2, x3, x4, x5, x6, x7, x8, x9, x10, x11, x12, x13, x14, x15, x16, x17]) w := fun _ => by kernel_rfl
    have hix : ∀ w : World, (Instr.index 77 (.agg #[x2, x3, x4, x5, x6, x7, x8, x9, x10, x11, x12, x13, x14, x15, x16, x17]) (.int .i64 (j : Int))).run Tryd.prog w = .ok (.agg #[.string s, .int .i64 q]) w := fun w => by
      rcases (by omega : j = 0 ∨ j = 1 ∨ j = 2 ∨ j = 3 ∨ j = 4 ∨ j = 5 ∨ j = 6 ∨ j = 7) with rfl | rfl | rfl | rfl | rfl | rfl | rfl | rfl <;> (simp at hs hv; subst hs hv; kernel_rfl)
    clear hr hL ht hs hv hone
    go_enter Tryd.func46, Tryd.ntmps46
    go_wp2_with fail
    refine (HF.out _ HL.out).mono ?_
    rintro e w1 ⟨rfl, hb⟩
    have HL1 := Aside0.mk (HL.out.below hb)
    have HB := Aside0.mk hb
    clear hb HL HF
    go_wp2_with fail
    refine (HO.out _ HL1.out).mono ?_
    rintro e w2 ⟨rfl, hb⟩
    have HB2 := Aside0.mk (HB.out.trans (hb.mono HB.out.size))
    clear hb HL1 HB HO
    go_wp2_with fail
    have HG := Aside0.mk (heap_alloc_new w2 (.cells #[.string s, .int .i64 q] 76))
    have HB3 := Aside0.mk (HB2.out.alloc HB2.out.size (.cells #[.string s, .int .i64 q] 76))
    generalize w2.alloc (.cells #[.string s, .int .i64 q] 76) = W at HG HB3 ⊢
    generalize w2.heap.size = g at HG ⊢
    clear HB2 hfd hix
    refine Reg.region_any [some 20, some 21, some 22, some 23, some 4, some 5] [0, 1, 0, 4, 3, 31] (true, [([], []), ([0], [0]), ([], []), ([2], [2]), ([1, 0, 1], [1]), ([3, 4, 0, 1, 2, 3, 4], [3])]) (fun i => ([(fun _ v_ => v_ = (.pointer (some ⟨g, 0, none⟩))), (fun _ v_ => v_ = (.string s)), (fun _ v_ => v_ = (.pointer (some ⟨g, 1, none⟩))), (fun _ v_ => v_ = (.int .i64 q)), (fun _ v_ => v_ = (.string s)), (fun _ v_ => v_ = (.int .i64 q))] : List (World → Value → Prop)).getD i (fun _ _ => False))
        (by kernel_rfl) (by kernel_rfl) (by kernel_rfl) (by kernel_rfl) (by kernel_rfl) (by decide) (by rfl) (Reg.mono_getD ?_) [0, 1, 2, 3, 4, 5] (by kernel_rfl) ?_ ?_
    · exact Reg.monoS_cons (Reg.monoS_eq _) (Reg.monoS_cons (Reg.monoS_eq _) (Reg.monoS_cons (Reg.monoS_eq _) (Reg.monoS_cons (Reg.monoS_eq _) (Reg.monoS_cons (Reg.monoS_eq _) (Reg.monoS_cons (Reg.monoS_eq _) Reg.monoS_nil)))))
    · skip
      refine Reg.rs_cons ?_ ?_
      · intro a w hb hs hel hon
        have e6 : a.tmps[6]? = some (.pointer (some ⟨g, 0, none⟩)) := (hel 6 (by decide)).trans rfl
        obtain ⟨_, g6⟩ := Array.getElem?_eq_some_iff.1 e6
        refine ⟨_, rfl, fun K hK => ?_⟩
        refine value_ (w1 := w) (v := .pointer (some ⟨g, 0, none⟩)) (by rfl) rfl ?_ (hK.out _ _ (Below.refl _ _) (rfl))
        · go_simp
          (try simp only [i64_w, g6])
          (try go_simp)
          try rfl
      refine Reg.rs_cons ?_ ?_
      · intro a w hb hs hel hon
        obtain ⟨_, e20, rfl⟩ := hon 0 20 (by kernel_rfl) rfl
        obtain ⟨_, g20⟩ := Array.getElem?_eq_some_iff.1 e20
        refine ⟨_, rfl, fun K hK => ?_⟩
        have qa0 : w.cell? ⟨g, 0, none⟩ = some (.string s) := (blk_cell ((hb.block _ (blk_lt HG.out)).trans HG.out) 0).trans rfl
        refine value_ (w1 := w) (v := .string s) (by rfl) rfl ?_ (hK.out _ _ (Below.refl _ _) (rfl))
        · go_simp
          (try simp only [i64_w, g20])
          (try go_simp)
          try rfl
      refine Reg.rs_cons ?_ ?_
      · intro a w hb hs hel hon
        have e6 : a.tmps[6]? = some (.pointer (some ⟨g, 0, none⟩)) := (hel 6 (by decide)).trans rfl
        obtain ⟨_, g6⟩ := Array.getElem?_eq_some_iff.1 e6
        refine ⟨_, rfl, fun K hK => ?_⟩
        refine value_ (w1 := w) (v := .pointer (some ⟨g, 1, none⟩)) (by rfl) rfl ?_ (hK.out _ _ (Below.refl _ _) (rfl))
        · go_simp
          (try simp only [i64_w, g6])
          (try go_simp)
          try rfl
      refine Reg.rs_cons ?_ ?_
      · intro a w hb hs hel hon
        obtain ⟨_, e22, rfl⟩ := hon 2 22 (by kernel_rfl) rfl
        obtain ⟨_, g22⟩ := Array.getElem?_eq_some_iff.1 e22
        refine ⟨_, rfl, fun K hK => ?_⟩
        have qa1 : w.cell? ⟨g, 1, none⟩ = some (.int .i64 q) := (blk_cell ((hb.block _ (blk_lt HG.out)).trans HG.out) 1).trans rfl
        refine value_ (w1 := w) (v := .int .i64 q) (by rfl) rfl ?_ (hK.out _ _ (Below.refl _ _) (rfl))
        · go_simp
          (try simp only [i64_w, g22])
          (try go_simp)
          try rfl
      refine Reg.rs_cons ?_ ?_
      · intro a w hb hs hel hon
        obtain ⟨_, e21, rfl⟩ := hon 1 21 (by kernel_rfl) rfl
        obtain ⟨_, g21⟩ := Array.getElem?_eq_some_iff.1 e21
        refine ⟨_, rfl, fun K hK => ?_⟩
        refine value_ (w1 := w) (v := .string s) (by rfl) rfl ?_ (hK.out _ _ (Below.refl _ _) (rfl))
        · go_simp
          (try simp only [i64_w, g21])
          (try go_simp)
          try rfl
      refine Reg.rs_cons ?_ ?_
      · intro a w hb hs hel hon
        obtain ⟨_, e23, rfl⟩ := hon 3 23 (by kernel_rfl) rfl
        obtain ⟨_, g23⟩ := Array.getElem?_eq_some_iff.1 e23
        refine ⟨_, rfl, fun K hK => ?_⟩
        refine value_ (w1 := w) (v := .int .i64 q) (by rfl) rfl ?_ (hK.out _ _ (Below.refl _ _) (rfl))
        · go_simp
          (try simp only [i64_w, g23])
          (try go_simp)
          try rfl
      exact Reg.rs_nil
    · intro a w hI
      rename_i K_ hK_
      refine hK_ a w ?_
      obtain ⟨_, e4, rfl⟩ := hI.vals 4 4 rfl rfl
      obtain ⟨_, e5, rfl⟩ := hI.vals 5 5 rfl rfl
      have g4 := Reg.getD_of e4
      have g5 := Reg.getD_of e5
      have hfr := hI.frame
      have HE := Aside0.mk (HB3.out.trans (hI.below.mono HB3.out.size))
      rw [hfr]
      simp only [Reg.puts, Act.put, List.setIfInBounds_toArray, List.set_cons_zero, List.set_cons_succ]
      rw [g4, g5]
      generalize a.tmps = ts_
      clear hI hfr hK_ e4 g4 e5 g5
      go_wp2_with fail
      go_ret2
      exact ⟨⟨s, rfl⟩, HE.out⟩
/-- The type of the field that an instruction names. -/
def fieldF (B : LB) (y z : Int) : Int := (typesOf (rd_T39 B y).f1).getD z.toNat 0
set_option maxHeartbeats 2000000 in
set_option maxRecDepth 100000 in
theorem sfield_w (A0 : Option Addr) (c0 : Nat) (C : LC) (A1 : Option Addr) (c1 : Nat) (V : LV) (A2 : Option Addr) (c2 : Nat) (B : LB) (A3 : Option Addr) (c3 : Nat) (U : LU) (x y z : Int) (w : World) (h2 : Kd.C k39 w A2 B.length B) (hy : 0 ≤ y) (hy1 : y < (B.length : Int)) (hz : 0 ≤ z) (hz1 : z < fieldsOf (rd_T39 B y).f1) (hL : LaidBlk w) :
    Calls Tryd.prog 40 #[.agg #[.slice A0 C.length c0, .slice A1 V.length c1, .slice A2 B.length c2, .slice A3 U.length c3], .agg #[.int .i64 x, .int .i64 y, .int .i64 z]] w fun e w' => e = .returned (.int .i64 (fieldF B y z)) ∧ Below w.heap.size w w' := by
  obtain ⟨m, rfl⟩ : ∃ m : Nat, y = m := ⟨y.toNat, by omega⟩
  have hm : m < B.length := by omega
  have hmx := h2.2.1
  unfold fieldF
  have HF := Aside0.mk (fun W => bfield_w (rd_T39 B (m : Int)).f1 z W hz hz1)
  obtain ⟨ad, rfl, k0, k1⟩ := at_T39 h2 (m : Int) (by omega) (by omega)
  rw [Int.toNat_natCast] at k0 k1
  generalize (typesOf (rd_T39 B (m : Int)).f1).getD z.toNat 0 = q at HF ⊢
  generalize (rd_T39 B (m : Int)).f1 = k at HF k1
  clear k0 hz hz1 hy hy1
  have HL := Aside0.mk hL
  have HP := Aside0.mk (heap_alloc2_old w (.cells #[.slice A0 C.length c0, .slice A1 V.length c1, .slice (some ad) B.length c2, .slice A3 U.length c3] 27) (.cells #[.int .i64 x, .int .i64 (m : Int), .int .i64 z] 29))
  have HI := Aside0.mk (heap_alloc2_new w (.cells #[.slice A0 C.length c0, .slice A1 V.length c1, .slice (some ad) B.length c2, .slice A3 U.length c3] 27) (.cells #[.int .i64 x, .int .i64 (m : Int), .int .i64 z] 29))
  have HB3 := Aside0.mk (((Below.refl w.heap.size w).alloc (Nat.le_refl _) (.cells #[.slice A0 C.length c0, .slice A1 V.length c1, .slice (some ad) B.length c2, .slice A3 U.length c3] 27)).alloc (by simp) (.cells #[.int .i64 x, .int .i64 (m : Int), .int .i64 z] 29))
  have HK := Aside0.mk (pw_cell_below HB3.out k1)
  clear k1 h2 hL
  go_enter Tryd.func40, Tryd.ntmps40
  go_wp2_with fail
  generalize (w.alloc (.cells #[.slice A0 C.length c0, .slice A1 V.length c1, .slice (some ad) B.length c2, .slice A3 U.length c3] 27)).alloc (.cells #[.int .i64 x, .int .i64 (m : Int), .int .i64 z] 29) = W at HP HI HB3 HK ⊢
  obtain ⟨b1, hb1⟩ : ∃ b, b = w.heap.size + 1 := ⟨_, rfl⟩
  rw [← hb1] at HI ⊢
  obtain ⟨b0, hb0⟩ : ∃ b, b = w.heap.size := ⟨_, rfl⟩
  rw [← hb0] at HP ⊢
  clear hb1 hb0
  refine Reg.region_any [some 8, some 9, some 10, some 11, some 12, some 13, some 14, some 15, some 16, some 17, some 7, some 18, some 19, some 5, some 6] [0, 1, 0, 4, 15, 31, 63, 0, 128, 511, 1023, 2047, 2047, 4095, 16383] (true, [([], []), ([0], [0]), ([], []), ([2], [2]), ([1, 3], [1, 3]), ([4], [4]), ([5], [5]), ([], []), ([7], [7]), ([6, 8], [6, 8]), ([9], [9]), ([10], [10]), ([10], [10]), ([11, 9, 0, 1, 2, 3, 4, 5, 6, 7, 8, 9, 10, 11], [11]), ([12, 13, 0, 1, 2, 3, 4, 5, 6, 7, 8, 9, 10, 11, 12, 13], [12])]) (fun i => ([(fun _ v_ => v_ = (.pointer (some ⟨b0, 2, none⟩))), (fun _ v_ => v_ = (.slice (some ad) B.length c2)), (fun _ v_ => v_ = (.pointer (some ⟨b1, 1, none⟩))), (fun _ v_ => v_ = (.int .i64 (m : Int))), (fun _ v_ => v_ = (.pointer (some (ad.add (m * 2))))), (fun _ v_ => v_ = (.pointer (some ⟨(ad.add (m * 2)).block, (ad.add (m * 2)).off + 1, none⟩))), (fun _ v_ => v_ = (.int .i64 k)), (fun _ v_ => v_ = (.pointer (some ⟨b1, 2, none⟩))), (fun _ v_ => v_ = (.int .i64 z)), (fun _ v_ => ∃ s : ByteArray, v_ = .tuple #[.string s, .int .i64 q]), (fun _ v_ => ∃ s : ByteArray, v_ = .tuple #[.string s, .int .i64 q]), (fun _ v_ => ∃ s : ByteArray, v_ = .string s), (fun _ v_ => v_ = (.int .i64 q)), (fun _ v_ => ∃ s : ByteArray, v_ = .string s), (fun _ v_ => v_ = (.int .i64 q))] : List (World → Value → Prop)).getD i (fun _ _ => False))
      (by kernel_rfl) (by kernel_rfl) (by kernel_rfl) (by kernel_rfl) (by kernel_rfl) (by decide) (by rfl) (Reg.mono_getD ?_) [0, 1, 2, 3, 4, 5, 6, 7, 8, 9, 10, 11, 12, 13, 14] (by kernel_rfl) ?_ ?_
  · exact Reg.monoS_cons (Reg.monoS_eq _) (Reg.monoS_cons (Reg.monoS_eq _) (Reg.monoS_cons (Reg.monoS_eq _) (Reg.monoS_cons (Reg.monoS_eq _) (Reg.monoS_cons (Reg.monoS_eq _) (Reg.monoS_cons (Reg.monoS_eq _) (Reg.monoS_cons (Reg.monoS_eq _) (Reg.monoS_cons (Reg.monoS_eq _) (Reg.monoS_cons (Reg.monoS_eq _) (Reg.monoS_cons (fun _ _ _ _ h => h) (Reg.monoS_cons (fun _ _ _ _ h => h) (Reg.monoS_cons (fun _ _ _ _ h => h) (Reg.monoS_cons (Reg.monoS_eq _) (Reg.monoS_cons (fun _ _ _ _ h => h) (Reg.monoS_cons (Reg.monoS_eq _) Reg.monoS_nil))))))))))))))
  · skip
    refine Reg.rs_cons ?_ ?_
    · intro a w hb hs hel hon
      have e2 : a.tmps[2]? = some (.pointer (some ⟨b0, 0, none⟩)) := (hel 2 (by decide)).trans rfl
      obtain ⟨_, g2⟩ := Array.getElem?_eq_some_iff.1 e2
      refine ⟨_, rfl, fun K hK => ?_⟩
      refine value_ (w1 := w) (v := .pointer (some ⟨b0, 2, none⟩)) (by rfl) rfl ?_ (hK.out _ _ (Below.refl _ _) (rfl))
      · go_simp
        (try simp only [i64_w, g2])
        (try go_simp)
        try rfl
    refine Reg.rs_cons ?_ ?_
    · intro a w hb hs hel hon
      obtain ⟨_, e8, rfl⟩ := hon 0 8 (by kernel_rfl) rfl
      obtain ⟨_, g8⟩ := Array.getElem?_eq_some_iff.1 e8
      refine ⟨_, rfl, fun K hK => ?_⟩
      have qp2 : w.cell? ⟨b0, 2, none⟩ = some (.slice (some ad) B.length c2) := (blk_cell ((hb.block _ (blk_lt HP.out)).trans HP.out) 2).trans rfl
      refine value_ (w1 := w) (v := .slice (some ad) B.length c2) (by rfl) rfl ?_ (hK.out _ _ (Below.refl _ _) (rfl))
      · go_simp
        (try simp only [i64_w, g8])
        (try go_simp)
        try rfl
    refine Reg.rs_cons ?_ ?_
    · intro a w hb hs hel hon
      have e3 : a.tmps[3]? = some (.pointer (some ⟨b1, 0, none⟩)) := (hel 3 (by decide)).trans rfl
      obtain ⟨_, g3⟩ := Array.getElem?_eq_some_iff.1 e3
      refine ⟨_, rfl, fun K hK => ?_⟩
      refine value_ (w1 := w) (v := .pointer (some ⟨b1, 1, none⟩)) (by rfl) rfl ?_ (hK.out _ _ (Below.refl _ _) (rfl))
      · go_simp
        (try simp only [i64_w, g3])
        (try go_simp)
        try rfl
    refine Reg.rs_cons ?_ ?_
    · intro a w hb hs hel hon
      obtain ⟨_, e10, rfl⟩ := hon 2 10 (by kernel_rfl) rfl
      obtain ⟨_, g10⟩ := Array.getElem?_eq_some_iff.1 e10
      refine ⟨_, rfl, fun K hK => ?_⟩
      have qi1 : w.cell? ⟨b1, 1, none⟩ = some (.int .i64 (m : Int)) := (blk_cell ((hb.block _ (blk_lt HI.out)).trans HI.out) 1).trans rfl
      refine value_ (w1 := w) (v := .int .i64 (m : Int)) (by rfl) rfl ?_ (hK.out _ _ (Below.refl _ _) (rfl))
      · go_simp
        (try simp only [i64_w, g10])
        (try go_simp)
        try rfl
    refine Reg.rs_cons ?_ ?_
    · intro a w hb hs hel hon
      obtain ⟨_, e9, rfl⟩ := hon 1 9 (by kernel_rfl) rfl
      obtain ⟨_, e11, rfl⟩ := hon 3 11 (by kernel_rfl) rfl
      obtain ⟨_, g9⟩ := Array.getElem?_eq_some_iff.1 e9
      obtain ⟨_, g11⟩ := Array.getElem?_eq_some_iff.1 e11
      refine ⟨_, rfl, fun K hK => ?_⟩
      have hm2_ : (m : Int) < (B.length : Int) := by omega
      refine value_ (w1 := w) (v := .pointer (some (ad.add (m * 2)))) (by rfl) rfl ?_ (hK.out _ _ (Below.refl _ _) (rfl))
      · go_simp
        (try simp only [i64_w, g9, g11])
        (try go_simp)
        try rfl
    refine Reg.rs_cons ?_ ?_
    · intro a w hb hs hel hon
      obtain ⟨_, e12, rfl⟩ := hon 4 12 (by kernel_rfl) rfl
      obtain ⟨_, g12⟩ := Array.getElem?_eq_some_iff.1 e12
      refine ⟨_, rfl, fun K hK => ?_⟩
      refine value_ (w1 := w) (v := .pointer (some ⟨(ad.add (m * 2)).block, (ad.add (m * 2)).off + 1, none⟩)) (by rfl) rfl ?_ (hK.out _ _ (Below.refl _ _) (rfl))
      · go_simp
        (try simp only [i64_w, g12])
        (try go_simp)
        try rfl
    refine Reg.rs_cons ?_ ?_
    · intro a w hb hs hel hon
      obtain ⟨_, e13, rfl⟩ := hon 5 13 (by kernel_rfl) rfl
      obtain ⟨_, g13⟩ := Array.getElem?_eq_some_iff.1 e13
      refine ⟨_, rfl, fun K hK => ?_⟩
      have kk_ := pw_cell_below hb HK.out
      refine value_ (w1 := w) (v := .int .i64 k) (by rfl) rfl ?_ (hK.out _ _ (Below.refl _ _) (rfl))
      · go_simp
        (try simp only [i64_w, g13])
        (try go_simp)
        try rfl
    refine Reg.rs_cons ?_ ?_
    · intro a w hb hs hel hon
      have e3 : a.tmps[3]? = some (.pointer (some ⟨b1, 0, none⟩)) := (hel 3 (by decide)).trans rfl
      obtain ⟨_, g3⟩ := Array.getElem?_eq_some_iff.1 e3
      refine ⟨_, rfl, fun K hK => ?_⟩
      refine value_ (w1 := w) (v := .pointer (some ⟨b1, 2, none⟩)) (by rfl) rfl ?_ (hK.out _ _ (Below.refl _ _) (rfl))
      · go_simp
        (try simp only [i64_w, g3])
        (try go_simp)
        try rfl
    refine Reg.rs_cons ?_ ?_
    · intro a w hb hs hel hon
      obtain ⟨_, e15, rfl⟩ := hon 7 15 (by kernel_rfl) rfl
      obtain ⟨_, g15⟩ := Array.getElem?_eq_some_iff.1 e15
      refine ⟨_, rfl, fun K hK => ?_⟩
      have qi2 : w.cell? ⟨b1, 2, none⟩ = some (.int .i64 z) := (blk_cell ((hb.block _ (blk_lt HI.out)).trans HI.out) 2).trans rfl
      refine value_ (w1 := w) (v := .int .i64 z) (by rfl) rfl ?_ (hK.out _ _ (Below.refl _ _) (rfl))
      · go_simp
        (try simp only [i64_w, g15])
        (try go_simp)
        try rfl
    refine Reg.rs_cons ?_ ?_
    · intro a w hb hs hel hon
      obtain ⟨_, e14, rfl⟩ := hon 6 14 (by kernel_rfl) rfl
      obtain ⟨_, e16, rfl⟩ := hon 8 16 (by kernel_rfl) rfl
      refine ⟨_, rfl, fun K hK => ?_⟩
      refine goes_ Tryd.func46 (by kernel_rfl) rfl #[.int .i64 k, .int .i64 z] (by rfl) rfl rfl (by first | (simp only [List.map_toArray, List.map_cons, List.map_nil, Act.eval, Array.getD_eq_getD_getElem?, Option.getD_some, e14, e16]; done) | (simp only [List.map_toArray, List.map_cons, List.map_nil, Act.eval, Array.getD_eq_getD_getElem?, Option.getD_some, e14, e16]; rfl) | rfl) ?_
      refine (HF.out w (HL.out.below (HB3.out.trans (hb.mono HB3.out.size)))).mono ?_
      rintro e w2 ⟨⟨s, rfl⟩, hb2⟩
      exact ⟨_, rfl, hK.out _ _ hb2 ⟨s, rfl⟩⟩
    refine Reg.rs_cons ?_ ?_
    · intro a w hb hs hel hon
      obtain ⟨x17, e17, ⟨s_9, rfl⟩⟩ := hon 9 17 (by kernel_rfl) rfl
      obtain ⟨_, g17⟩ := Array.getElem?_eq_some_iff.1 e17
      refine ⟨_, rfl, fun K hK => ?_⟩
      refine value_ (w1 := w) (v := .tuple #[.string s_9, .int .i64 q]) (by rfl) rfl ?_ (hK.out _ _ (Below.refl _ _) (⟨s_9, rfl⟩))
      · go_simp
        (try simp only [i64_w, g17])
        (try go_simp)
        try rfl
    refine Reg.rs_cons ?_ ?_
    · intro a w hb hs hel hon
      obtain ⟨x7, e7, ⟨s_10, rfl⟩⟩ := hon 10 7 (by kernel_rfl) rfl
      obtain ⟨_, g7⟩ := Array.getElem?_eq_some_iff.1 e7
      refine ⟨_, rfl, fun K hK => ?_⟩
      refine value_ (w1 := w) (v := .string s_10) (by rfl) rfl ?_ (hK.out _ _ (Below.refl _ _) (⟨s_10, rfl⟩))
      · go_simp
        (try simp only [i64_w, g7])
        (try go_simp)
        try rfl
    refine Reg.rs_cons ?_ ?_
    · intro a w hb hs hel hon
      obtain ⟨x7, e7, ⟨s_10, rfl⟩⟩ := hon 10 7 (by kernel_rfl) rfl
      obtain ⟨_, g7⟩ := Array.getElem?_eq_some_iff.1 e7
      refine ⟨_, rfl, fun K hK => ?_⟩
      refine value_ (w1 := w) (v := .int .i64 q) (by rfl) rfl ?_ (hK.out _ _ (Below.refl _ _) (rfl))
      · go_simp
        (try simp only [i64_w, g7])
        (try go_simp)
        try rfl
    refine Reg.rs_cons ?_ ?_
    · intro a w hb hs hel hon
      obtain ⟨x18, e18, ⟨s_11, rfl⟩⟩ := hon 11 18 (by kernel_rfl) rfl
      obtain ⟨_, g18⟩ := Array.getElem?_eq_some_iff.1 e18
      refine ⟨_, rfl, fun K hK => ?_⟩
      refine value_ (w1 := w) (v := .string s_11) (by rfl) rfl ?_ (hK.out _ _ (Below.refl _ _) (⟨s_11, rfl⟩))
      · go_simp
        (try simp only [i64_w, g18])
        (try go_simp)
        try rfl
    refine Reg.rs_cons ?_ ?_
    · intro a w hb hs hel hon
      obtain ⟨_, e19, rfl⟩ := hon 12 19 (by kernel_rfl) rfl
      obtain ⟨_, g19⟩ := Array.getElem?_eq_some_iff.1 e19
      refine ⟨_, rfl, fun K hK => ?_⟩
      refine value_ (w1 := w) (v := .int .i64 q) (by rfl) rfl ?_ (hK.out _ _ (Below.refl _ _) (rfl))
      · go_simp
        (try simp only [i64_w, g19])
        (try go_simp)
        try rfl
    exact Reg.rs_nil
  · intro a w hI
    rename_i K_ hK_
    refine hK_ a w ?_
    obtain ⟨_, e6, rfl⟩ := hI.vals 14 6 rfl rfl
    have g6 := Reg.getD_of e6
    have hfr := hI.frame
    have HE := Aside0.mk (HB3.out.trans (hI.below.mono HB3.out.size))
    rw [hfr]
    simp only [Reg.puts, Act.put, List.setIfInBounds_toArray, List.set_cons_zero, List.set_cons_succ]
    rw [g6]
    generalize a.tmps = ts_
    clear hI hfr hK_ e6 g6
    go_wp2_with fail
    go_ret
    exact ⟨rfl, HE.out⟩
/-- In the printed form. -/
def stack_field.f (l0_0 : List (S35)) (l0_1 : List (S37)) (l0_2 : List (S39)) (l0_3 : List (S43)) (a1_0 : Int) (a1_1 : Int) (a1_2 : Int) : Option Int := if 0 ≤ a1_1 ∧ a1_1 < (l0_2.length : Int) ∧ 0 ≤ a1_2 ∧ a1_2 < fieldsOf (rd_T39 l0_2 a1_1).f1 then some (fieldF l0_2 a1_1 a1_2) else none
theorem stack_field.calls (A0_0 : Option Addr) (c0_0 : Nat) (l0_0 : List (S35)) (A0_1 : Option Addr) (c0_1 : Nat) (l0_1 : List (S37)) (A0_2 : Option Addr) (c0_2 : Nat) (l0_2 : List (S39)) (A0_3 : Option Addr) (c0_3 : Nat) (l0_3 : List (S43)) (a1_0 : Int) (a1_1 : Int) (a1_2 : Int) (r : Int) (w : World) (hr0_2 : Kd.C k39 w A0_2 l0_2.length l0_2) (h : stack_field.f l0_0 l0_1 l0_2 l0_3 a1_0 a1_1 a1_2 = some r) (hL_ : LaidAll w) :
    Calls Tryd.prog 40 #[.agg #[.slice A0_0 l0_0.length c0_0, .slice A0_1 l0_1.length c0_1, .slice A0_2 l0_2.length c0_2, .slice A0_3 l0_3.length c0_3], .agg #[.int .i64 a1_0, .int .i64 a1_1, .int .i64 a1_2]] w fun e w' => e = .returned (.int .i64 r) ∧ Below w.heap.size w w' := by
  unfold stack_field.f at h
  split at h
  · rename_i hh
    obtain rfl := Option.some.inj h
    exact sfield_w A0_0 c0_0 l0_0 A0_1 c0_1 l0_1 A0_2 c0_2 l0_2 A0_3 c0_3 l0_3 a1_0 a1_1 a1_2 w hr0_2 hh.1 hh.2.1 hh.2.2.1 hh.2.2.2 hL_.blk
  · cases h
end Go.Proofs.YthdlocigijiobaaDoor.Given
end
