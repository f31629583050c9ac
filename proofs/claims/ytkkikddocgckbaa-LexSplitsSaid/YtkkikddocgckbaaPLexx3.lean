/- Printed by a program of this session (wip/pg.py, over the print of the kit): functions, their Lean twins, and the proofs that the calls come to them; each under the conditions that it names. -/
import Derived.Test.YtkkikddocgckbaaPLexx0
import Derived.Test.YtkkikddocgckbaaPLexx2
namespace Go.Proofs.Ytkkikddocgckbaa.PLex
open Go.Proofs.Ytkkikddocgckbaa.Given
open Go.RowKit Go.Proofs.YtkkikddocgckbaaW.PrintWords Go.Proofs.YtkkikddocgckbaaW.PrintLast Go.Proofs.YtkkikddocgckbaaW.PrintMore
attribute [local go_sem] max2_int min2_int max_two min_two max_three min_three max_four min_four   -- for this text's walks alone
set_option linter.unusedVariables false
set_option linter.unusedSimpArgs false

/-! ### ladderbackref47_Split: function 30 -/
mutual
def ladderbackref47_Split.l0 : Nat → ByteArray → List (S58) → Int → Bool → Int → Option ((List (S58)) × Int)
  | 0, _, _, _, _, _ => none
  | k + 1, x0, x4, x5, x6, x7 => if x7 < (x0.size : Int) then (if 0 ≤ x7 then (if x6 = true then (if 0 ≤ (wrap64 (x7 - 1)) then (if (wrap64 (x7 - 1)) < (x0.size : Int) then (ladderbackref47_Split.j1 k x0 x4 x5 x6 x7 (bt x0 x7) (bt x0 (wrap64 (x7 - 1)))) else (none)) else (none)) else (ladderbackref47_Split.j1 k x0 x4 x5 x6 x7 (bt x0 x7) 0)) else (none)) else (some (x4, 0))
def ladderbackref47_Split.j1 : Nat → ByteArray → List (S58) → Int → Bool → Int → Int → Int → Option ((List (S58)) × Int)
  | 0, _, _, _, _, _, _, _ => none
  | k + 1, x0, x4, x5, x6, x7, x8, x9 => (ladderbackref47_part.f k x8 x9).bind fun t116 => (if t116 = true then (if x6 = true then (if 0 ≤ (wrap64 ((x4.length : Int) - 1)) then (if (wrap64 ((x4.length : Int) - 1)) < (x4.length : Int) then (if 0 ≤ x7 then (if x7 ≤ (wrap64 (x7 + 1)) then (if (wrap64 (x7 + 1)) ≤ (x0.size : Int) then (if ((rd_T58 x4 (wrap64 ((x4.length : Int) - 1))).f2).size + (x0.extract (x7 : Int).toNat ((wrap64 (x7 + 1)) : Int).toNat).size ≤ 9223372036854775807 then (ladderbackref47_Split.l0 k x0 (x4.set ((wrap64 ((x4.length : Int) - 1)) : Int).toNat (⟨(rd_T58 x4 (wrap64 ((x4.length : Int) - 1))).f0, (rd_T58 x4 (wrap64 ((x4.length : Int) - 1))).f1, ((rd_T58 x4 (wrap64 ((x4.length : Int) - 1))).f2) ++ (x0.extract (x7 : Int).toNat ((wrap64 (x7 + 1)) : Int).toNat)⟩ : S58)) x5 true (wrap64 (x7 + 1))) else (none)) else (none)) else (none)) else (none)) else (none)) else (none)) else (if x4.length < 4398046511104 then ((some (x4 ++ [(⟨1, x5, (⟨#[]⟩ : ByteArray)⟩ : S58)] : List (S58))).bind fun y119 => (if 0 ≤ (wrap64 ((y119.length : Int) - 1)) then (if (wrap64 ((y119.length : Int) - 1)) < (y119.length : Int) then (if 0 ≤ x7 then (if x7 ≤ (wrap64 (x7 + 1)) then (if (wrap64 (x7 + 1)) ≤ (x0.size : Int) then (if ((rd_T58 y119 (wrap64 ((y119.length : Int) - 1))).f2).size + (x0.extract (x7 : Int).toNat ((wrap64 (x7 + 1)) : Int).toNat).size ≤ 9223372036854775807 then (ladderbackref47_Split.l0 k x0 (y119.set ((wrap64 ((y119.length : Int) - 1)) : Int).toNat (⟨(rd_T58 y119 (wrap64 ((y119.length : Int) - 1))).f0, (rd_T58 y119 (wrap64 ((y119.length : Int) - 1))).f1, ((rd_T58 y119 (wrap64 ((y119.length : Int) - 1))).f2) ++ (x0.extract (x7 : Int).toNat ((wrap64 (x7 + 1)) : Int).toNat)⟩ : S58)) x5 true (wrap64 (x7 + 1))) else (none)) else (none)) else (none)) else (none)) else (none)) else (none))) else (none))) else (if x8 = 10 then (ladderbackref47_Split.j2 k x0 x4 (wrap64 (x5 + 1)) false x7 x8) else (ladderbackref47_Split.j2 k x0 x4 x5 false x7 x8)))
def ladderbackref47_Split.j2 : Nat → ByteArray → List (S58) → Int → Bool → Int → Int → Option ((List (S58)) × Int)
  | 0, _, _, _, _, _, _ => none
  | k + 1, x0, x4, x5, x6, x7, x8 => if x8 = 32 then (ladderbackref47_Split.j3 k x0 x4 x5 x6 x7 x8 true) else (if x8 = 9 then (ladderbackref47_Split.j3 k x0 x4 x5 x6 x7 x8 true) else (if x8 = 13 then (ladderbackref47_Split.j3 k x0 x4 x5 x6 x7 x8 true) else (ladderbackref47_Split.j3 k x0 x4 x5 x6 x7 x8 (x8 == 10))))
def ladderbackref47_Split.j3 : Nat → ByteArray → List (S58) → Int → Bool → Int → Int → Bool → Option ((List (S58)) × Int)
  | 0, _, _, _, _, _, _, _ => none
  | k + 1, x0, x4, x5, x6, x7, x8, x71 => if x71 = true then (ladderbackref47_Split.l0 k x0 x4 x5 x6 (wrap64 (x7 + 1))) else ((ladderbackref47_in.f k (⟨#[40, 41, 91, 93, 123, 125, 44, 59, 58, 46, 43, 45, 42, 47, 61, 60, 62]⟩ : ByteArray) x8).bind fun t124 => (if t124 = true then (if (wrap64 (x7 + 1)) < (x0.size : Int) then (if x8 = 58 then (if 0 ≤ (wrap64 (x7 + 1)) then (if (bt x0 (wrap64 (x7 + 1))) = 61 then (if 0 ≤ (wrap64 ((wrap64 (x7 + 1)) - 1)) then (if (wrap64 ((wrap64 (x7 + 1)) - 1)) ≤ (wrap64 ((wrap64 (x7 + 1)) + 1)) then (if (wrap64 ((wrap64 (x7 + 1)) + 1)) ≤ (x0.size : Int) then (if x4.length < 4398046511104 then (ladderbackref47_Split.l0 k x0 (x4 ++ [(⟨2, x5, x0.extract ((wrap64 ((wrap64 (x7 + 1)) - 1)) : Int).toNat ((wrap64 ((wrap64 (x7 + 1)) + 1)) : Int).toNat⟩ : S58)]) x5 x6 (wrap64 ((wrap64 (x7 + 1)) + 1))) else (none)) else (none)) else (none)) else (none)) else (if x8 = 60 then (if x8 = 62 then (if (bt x0 (wrap64 (x7 + 1))) = 62 then (if 0 ≤ (wrap64 ((wrap64 (x7 + 1)) - 1)) then (if (wrap64 ((wrap64 (x7 + 1)) - 1)) ≤ (wrap64 ((wrap64 (x7 + 1)) + 1)) then (if (wrap64 ((wrap64 (x7 + 1)) + 1)) ≤ (x0.size : Int) then (if x4.length < 4398046511104 then (ladderbackref47_Split.l0 k x0 (x4 ++ [(⟨2, x5, x0.extract ((wrap64 ((wrap64 (x7 + 1)) - 1)) : Int).toNat ((wrap64 ((wrap64 (x7 + 1)) + 1)) : Int).toNat⟩ : S58)]) x5 x6 (wrap64 ((wrap64 (x7 + 1)) + 1))) else (none)) else (none)) else (none)) else (none)) else (if 0 ≤ (wrap64 ((wrap64 (x7 + 1)) - 1)) then (if (wrap64 ((wrap64 (x7 + 1)) - 1)) ≤ (wrap64 (x7 + 1)) then (if (wrap64 (x7 + 1)) ≤ (x0.size : Int) then (if x4.length < 4398046511104 then (ladderbackref47_Split.l0 k x0 (x4 ++ [(⟨2, x5, x0.extract ((wrap64 ((wrap64 (x7 + 1)) - 1)) : Int).toNat ((wrap64 (x7 + 1)) : Int).toNat⟩ : S58)]) x5 x6 (wrap64 (x7 + 1))) else (none)) else (none)) else (none)) else (none))) else (if (bt x0 (wrap64 (x7 + 1))) = 62 then (if 0 ≤ (wrap64 ((wrap64 (x7 + 1)) - 1)) then (if (wrap64 ((wrap64 (x7 + 1)) - 1)) ≤ (wrap64 ((wrap64 (x7 + 1)) + 1)) then (if (wrap64 ((wrap64 (x7 + 1)) + 1)) ≤ (x0.size : Int) then (if x4.length < 4398046511104 then (ladderbackref47_Split.l0 k x0 (x4 ++ [(⟨2, x5, x0.extract ((wrap64 ((wrap64 (x7 + 1)) - 1)) : Int).toNat ((wrap64 ((wrap64 (x7 + 1)) + 1)) : Int).toNat⟩ : S58)]) x5 x6 (wrap64 ((wrap64 (x7 + 1)) + 1))) else (none)) else (none)) else (none)) else (none)) else (if 0 ≤ (wrap64 ((wrap64 (x7 + 1)) - 1)) then (if (wrap64 ((wrap64 (x7 + 1)) - 1)) ≤ (wrap64 (x7 + 1)) then (if (wrap64 (x7 + 1)) ≤ (x0.size : Int) then (if x4.length < 4398046511104 then (ladderbackref47_Split.l0 k x0 (x4 ++ [(⟨2, x5, x0.extract ((wrap64 ((wrap64 (x7 + 1)) - 1)) : Int).toNat ((wrap64 (x7 + 1)) : Int).toNat⟩ : S58)]) x5 x6 (wrap64 (x7 + 1))) else (none)) else (none)) else (none)) else (none)))) else (if x8 = 62 then (if 0 ≤ (wrap64 ((wrap64 (x7 + 1)) - 1)) then (if (wrap64 ((wrap64 (x7 + 1)) - 1)) ≤ (wrap64 (x7 + 1)) then (if (wrap64 (x7 + 1)) ≤ (x0.size : Int) then (if x4.length < 4398046511104 then (ladderbackref47_Split.l0 k x0 (x4 ++ [(⟨2, x5, x0.extract ((wrap64 ((wrap64 (x7 + 1)) - 1)) : Int).toNat ((wrap64 (x7 + 1)) : Int).toNat⟩ : S58)]) x5 x6 (wrap64 (x7 + 1))) else (none)) else (none)) else (none)) else (none)) else (if 0 ≤ (wrap64 ((wrap64 (x7 + 1)) - 1)) then (if (wrap64 ((wrap64 (x7 + 1)) - 1)) ≤ (wrap64 (x7 + 1)) then (if (wrap64 (x7 + 1)) ≤ (x0.size : Int) then (if x4.length < 4398046511104 then (ladderbackref47_Split.l0 k x0 (x4 ++ [(⟨2, x5, x0.extract ((wrap64 ((wrap64 (x7 + 1)) - 1)) : Int).toNat ((wrap64 (x7 + 1)) : Int).toNat⟩ : S58)]) x5 x6 (wrap64 (x7 + 1))) else (none)) else (none)) else (none)) else (none))))) else (none)) else (if x8 = 60 then (if 0 ≤ (wrap64 (x7 + 1)) then (if (bt x0 (wrap64 (x7 + 1))) = 61 then (if 0 ≤ (wrap64 ((wrap64 (x7 + 1)) - 1)) then (if (wrap64 ((wrap64 (x7 + 1)) - 1)) ≤ (wrap64 ((wrap64 (x7 + 1)) + 1)) then (if (wrap64 ((wrap64 (x7 + 1)) + 1)) ≤ (x0.size : Int) then (if x4.length < 4398046511104 then (ladderbackref47_Split.l0 k x0 (x4 ++ [(⟨2, x5, x0.extract ((wrap64 ((wrap64 (x7 + 1)) - 1)) : Int).toNat ((wrap64 ((wrap64 (x7 + 1)) + 1)) : Int).toNat⟩ : S58)]) x5 x6 (wrap64 ((wrap64 (x7 + 1)) + 1))) else (none)) else (none)) else (none)) else (none)) else (if x8 = 62 then (if (bt x0 (wrap64 (x7 + 1))) = 62 then (if 0 ≤ (wrap64 ((wrap64 (x7 + 1)) - 1)) then (if (wrap64 ((wrap64 (x7 + 1)) - 1)) ≤ (wrap64 ((wrap64 (x7 + 1)) + 1)) then (if (wrap64 ((wrap64 (x7 + 1)) + 1)) ≤ (x0.size : Int) then (if x4.length < 4398046511104 then (ladderbackref47_Split.l0 k x0 (x4 ++ [(⟨2, x5, x0.extract ((wrap64 ((wrap64 (x7 + 1)) - 1)) : Int).toNat ((wrap64 ((wrap64 (x7 + 1)) + 1)) : Int).toNat⟩ : S58)]) x5 x6 (wrap64 ((wrap64 (x7 + 1)) + 1))) else (none)) else (none)) else (none)) else (none)) else (if 0 ≤ (wrap64 ((wrap64 (x7 + 1)) - 1)) then (if (wrap64 ((wrap64 (x7 + 1)) - 1)) ≤ (wrap64 (x7 + 1)) then (if (wrap64 (x7 + 1)) ≤ (x0.size : Int) then (if x4.length < 4398046511104 then (ladderbackref47_Split.l0 k x0 (x4 ++ [(⟨2, x5, x0.extract ((wrap64 ((wrap64 (x7 + 1)) - 1)) : Int).toNat ((wrap64 (x7 + 1)) : Int).toNat⟩ : S58)]) x5 x6 (wrap64 (x7 + 1))) else (none)) else (none)) else (none)) else (none))) else (if (bt x0 (wrap64 (x7 + 1))) = 62 then (if 0 ≤ (wrap64 ((wrap64 (x7 + 1)) - 1)) then (if (wrap64 ((wrap64 (x7 + 1)) - 1)) ≤ (wrap64 ((wrap64 (x7 + 1)) + 1)) then (if (wrap64 ((wrap64 (x7 + 1)) + 1)) ≤ (x0.size : Int) then (if x4.length < 4398046511104 then (ladderbackref47_Split.l0 k x0 (x4 ++ [(⟨2, x5, x0.extract ((wrap64 ((wrap64 (x7 + 1)) - 1)) : Int).toNat ((wrap64 ((wrap64 (x7 + 1)) + 1)) : Int).toNat⟩ : S58)]) x5 x6 (wrap64 ((wrap64 (x7 + 1)) + 1))) else (none)) else (none)) else (none)) else (none)) else (if 0 ≤ (wrap64 ((wrap64 (x7 + 1)) - 1)) then (if (wrap64 ((wrap64 (x7 + 1)) - 1)) ≤ (wrap64 (x7 + 1)) then (if (wrap64 (x7 + 1)) ≤ (x0.size : Int) then (if x4.length < 4398046511104 then (ladderbackref47_Split.l0 k x0 (x4 ++ [(⟨2, x5, x0.extract ((wrap64 ((wrap64 (x7 + 1)) - 1)) : Int).toNat ((wrap64 (x7 + 1)) : Int).toNat⟩ : S58)]) x5 x6 (wrap64 (x7 + 1))) else (none)) else (none)) else (none)) else (none))))) else (none)) else (if x8 = 62 then (if 0 ≤ (wrap64 (x7 + 1)) then (if (bt x0 (wrap64 (x7 + 1))) = 61 then (if 0 ≤ (wrap64 ((wrap64 (x7 + 1)) - 1)) then (if (wrap64 ((wrap64 (x7 + 1)) - 1)) ≤ (wrap64 ((wrap64 (x7 + 1)) + 1)) then (if (wrap64 ((wrap64 (x7 + 1)) + 1)) ≤ (x0.size : Int) then (if x4.length < 4398046511104 then (ladderbackref47_Split.l0 k x0 (x4 ++ [(⟨2, x5, x0.extract ((wrap64 ((wrap64 (x7 + 1)) - 1)) : Int).toNat ((wrap64 ((wrap64 (x7 + 1)) + 1)) : Int).toNat⟩ : S58)]) x5 x6 (wrap64 ((wrap64 (x7 + 1)) + 1))) else (none)) else (none)) else (none)) else (none)) else (if 0 ≤ (wrap64 ((wrap64 (x7 + 1)) - 1)) then (if (wrap64 ((wrap64 (x7 + 1)) - 1)) ≤ (wrap64 (x7 + 1)) then (if (wrap64 (x7 + 1)) ≤ (x0.size : Int) then (if x4.length < 4398046511104 then (ladderbackref47_Split.l0 k x0 (x4 ++ [(⟨2, x5, x0.extract ((wrap64 ((wrap64 (x7 + 1)) - 1)) : Int).toNat ((wrap64 (x7 + 1)) : Int).toNat⟩ : S58)]) x5 x6 (wrap64 (x7 + 1))) else (none)) else (none)) else (none)) else (none))) else (none)) else (if 0 ≤ (wrap64 ((wrap64 (x7 + 1)) - 1)) then (if (wrap64 ((wrap64 (x7 + 1)) - 1)) ≤ (wrap64 (x7 + 1)) then (if (wrap64 (x7 + 1)) ≤ (x0.size : Int) then (if x4.length < 4398046511104 then (ladderbackref47_Split.l0 k x0 (x4 ++ [(⟨2, x5, x0.extract ((wrap64 ((wrap64 (x7 + 1)) - 1)) : Int).toNat ((wrap64 (x7 + 1)) : Int).toNat⟩ : S58)]) x5 x6 (wrap64 (x7 + 1))) else (none)) else (none)) else (none)) else (none))))) else (if 0 ≤ (wrap64 ((wrap64 (x7 + 1)) - 1)) then (if (wrap64 ((wrap64 (x7 + 1)) - 1)) ≤ (wrap64 (x7 + 1)) then (if (wrap64 (x7 + 1)) ≤ (x0.size : Int) then (if x4.length < 4398046511104 then (ladderbackref47_Split.l0 k x0 (x4 ++ [(⟨2, x5, x0.extract ((wrap64 ((wrap64 (x7 + 1)) - 1)) : Int).toNat ((wrap64 (x7 + 1)) : Int).toNat⟩ : S58)]) x5 x6 (wrap64 (x7 + 1))) else (none)) else (none)) else (none)) else (none))) else (some (([] : List (S58)), x5))))
end
def ladderbackref47_Split.f (k : Nat) (a0 : ByteArray) : Option ((List (S58)) × Int) := ladderbackref47_Split.l0 k a0 ([] : List (S58)) 1 false 0
theorem ladderbackref47_Split.mono_l : ∀ k, (∀ y0 y1 y2 y3 y4, LeO (ladderbackref47_Split.l0 k y0 y1 y2 y3 y4) (ladderbackref47_Split.l0 (k + 1) y0 y1 y2 y3 y4)) ∧ (∀ y0 y1 y2 y3 y4 y5 y6, LeO (ladderbackref47_Split.j1 k y0 y1 y2 y3 y4 y5 y6) (ladderbackref47_Split.j1 (k + 1) y0 y1 y2 y3 y4 y5 y6)) ∧ (∀ y0 y1 y2 y3 y4 y5, LeO (ladderbackref47_Split.j2 k y0 y1 y2 y3 y4 y5) (ladderbackref47_Split.j2 (k + 1) y0 y1 y2 y3 y4 y5)) ∧ (∀ y0 y1 y2 y3 y4 y5 y6, LeO (ladderbackref47_Split.j3 k y0 y1 y2 y3 y4 y5 y6) (ladderbackref47_Split.j3 (k + 1) y0 y1 y2 y3 y4 y5 y6))
  | 0 => ⟨fun _ _ _ _ _ r h => by simp [ladderbackref47_Split.l0] at h, fun _ _ _ _ _ _ _ r h => by simp [ladderbackref47_Split.j1] at h, fun _ _ _ _ _ _ r h => by simp [ladderbackref47_Split.j2] at h, fun _ _ _ _ _ _ _ r h => by simp [ladderbackref47_Split.j3] at h⟩
  | k + 1 => by
    obtain ⟨ih0, ih1, ih2, ih3⟩ := ladderbackref47_Split.mono_l k
    refine ⟨?_, ?_, ?_, ?_⟩
    · intro y0 y1 y2 y3 y4
      unfold ladderbackref47_Split.l0
      repeat' first
      | (with_reducible exact ih0 _ _ _ _ _)
      | (with_reducible exact ih1 _ _ _ _ _ _ _)
      | (with_reducible exact ih2 _ _ _ _ _ _)
      | (with_reducible exact ih3 _ _ _ _ _ _ _)
      | (with_reducible exact ladderbackref47_in.mono _ _ _)
      | (with_reducible exact ladderbackref47_part.mono _ _ _)
      | (with_reducible exact LeO.refl _)
      | (with_reducible exact LeO.none _)
      | (with_reducible refine LeO.ite ?_ ?_)
      | (with_reducible refine LeO.bind ?_ (fun _ => ?_))
      | exact ih0 _ _ _ _ _
      | exact ih1 _ _ _ _ _ _ _
      | exact ih2 _ _ _ _ _ _
      | exact ih3 _ _ _ _ _ _ _
      | exact ladderbackref47_in.mono _ _ _
      | exact ladderbackref47_part.mono _ _ _
      | exact LeO.none _
      | refine LeO.ite ?_ ?_
      | refine LeO.bind ?_ (fun _ => ?_)
    · intro y0 y1 y2 y3 y4 y5 y6
      unfold ladderbackref47_Split.j1
      repeat' first
      | (with_reducible exact ih0 _ _ _ _ _)
      | (with_reducible exact ih1 _ _ _ _ _ _ _)
      | (with_reducible exact ih2 _ _ _ _ _ _)
      | (with_reducible exact ih3 _ _ _ _ _ _ _)
      | (with_reducible exact ladderbackref47_in.mono _ _ _)
      | (with_reducible exact ladderbackref47_part.mono _ _ _)
      | (with_reducible exact LeO.refl _)
      | (with_reducible exact LeO.none _)
      | (with_reducible refine LeO.ite ?_ ?_)
      | (with_reducible refine LeO.bind ?_ (fun _ => ?_))
      | exact ih0 _ _ _ _ _
      | exact ih1 _ _ _ _ _ _ _
      | exact ih2 _ _ _ _ _ _
      | exact ih3 _ _ _ _ _ _ _
      | exact ladderbackref47_in.mono _ _ _
      | exact ladderbackref47_part.mono _ _ _
      | exact LeO.none _
      | refine LeO.ite ?_ ?_
      | refine LeO.bind ?_ (fun _ => ?_)
    · intro y0 y1 y2 y3 y4 y5
      unfold ladderbackref47_Split.j2
      repeat' first
      | (with_reducible exact ih0 _ _ _ _ _)
      | (with_reducible exact ih1 _ _ _ _ _ _ _)
      | (with_reducible exact ih2 _ _ _ _ _ _)
      | (with_reducible exact ih3 _ _ _ _ _ _ _)
      | (with_reducible exact ladderbackref47_in.mono _ _ _)
      | (with_reducible exact ladderbackref47_part.mono _ _ _)
      | (with_reducible exact LeO.refl _)
      | (with_reducible exact LeO.none _)
      | (with_reducible refine LeO.ite ?_ ?_)
      | (with_reducible refine LeO.bind ?_ (fun _ => ?_))
      | exact ih0 _ _ _ _ _
      | exact ih1 _ _ _ _ _ _ _
      | exact ih2 _ _ _ _ _ _
      | exact ih3 _ _ _ _ _ _ _
      | exact ladderbackref47_in.mono _ _ _
      | exact ladderbackref47_part.mono _ _ _
      | exact LeO.none _
      | refine LeO.ite ?_ ?_
      | refine LeO.bind ?_ (fun _ => ?_)
    · intro y0 y1 y2 y3 y4 y5 y6
      unfold ladderbackref47_Split.j3
      repeat' first
      | (with_reducible exact ih0 _ _ _ _ _)
      | (with_reducible exact ih1 _ _ _ _ _ _ _)
      | (with_reducible exact ih2 _ _ _ _ _ _)
      | (with_reducible exact ih3 _ _ _ _ _ _ _)
      | (with_reducible exact ladderbackref47_in.mono _ _ _)
      | (with_reducible exact ladderbackref47_part.mono _ _ _)
      | (with_reducible exact LeO.refl _)
      | (with_reducible exact LeO.none _)
      | (with_reducible refine LeO.ite ?_ ?_)
      | (with_reducible refine LeO.bind ?_ (fun _ => ?_))
      | exact ih0 _ _ _ _ _
      | exact ih1 _ _ _ _ _ _ _
      | exact ih2 _ _ _ _ _ _
      | exact ih3 _ _ _ _ _ _ _
      | exact ladderbackref47_in.mono _ _ _
      | exact ladderbackref47_part.mono _ _ _
      | exact LeO.none _
      | refine LeO.ite ?_ ?_
      | refine LeO.bind ?_ (fun _ => ?_)
theorem ladderbackref47_Split.mono : ∀ a0 k, LeO (ladderbackref47_Split.f k a0) (ladderbackref47_Split.f (k + 1) a0) := by
  intro a0 k
  obtain ⟨ih0, ih1, ih2, ih3⟩ := ladderbackref47_Split.mono_l k
  unfold ladderbackref47_Split.f
  repeat' first
      | (with_reducible exact ih0 _ _ _ _ _)
      | (with_reducible exact ih1 _ _ _ _ _ _ _)
      | (with_reducible exact ih2 _ _ _ _ _ _)
      | (with_reducible exact ih3 _ _ _ _ _ _ _)
      | (with_reducible exact ladderbackref47_in.mono _ _ _)
      | (with_reducible exact ladderbackref47_part.mono _ _ _)
      | (with_reducible exact LeO.refl _)
      | (with_reducible exact LeO.none _)
      | (with_reducible refine LeO.ite ?_ ?_)
      | (with_reducible refine LeO.bind ?_ (fun _ => ?_))
      | exact ih0 _ _ _ _ _
      | exact ih1 _ _ _ _ _ _ _
      | exact ih2 _ _ _ _ _ _
      | exact ih3 _ _ _ _ _ _ _
      | exact ladderbackref47_in.mono _ _ _
      | exact ladderbackref47_part.mono _ _ _
      | exact LeO.none _
      | refine LeO.ite ?_ ?_
      | refine LeO.bind ?_ (fun _ => ?_)
def ladderbackref47_Split.T15 : Bool × List (List Nat × List Nat) := (true, [([], []), ([], []), ([1], [1]), ([2], [2]), ([], []), ([], []), ([5], [5]), ([6], [6]), ([4, 7], [4, 7]), ([8], [8]), ([9], [9]), ([], []), ([], []), ([], []), ([13], [13]), ([11, 12, 14], [11, 12, 14]), ([10, 15], [10, 15]), ([0, 3, 0, 1, 2, 3, 4, 5, 6, 7, 8, 9, 10, 11, 12, 13, 14, 15, 16], [0, 3]), ([17, 0, 1, 2, 3, 4, 5, 6, 7, 8, 9, 10, 11, 12, 13, 14, 15, 16], [17]), ([18, 16, 0, 1, 2, 3, 4, 5, 6, 7, 8, 9, 10, 11, 12, 13, 14, 15, 16], [16, 18])])
def ladderbackref47_Split.B15 : List Nat := [0, 0, 2, 6, 0, 0, 32, 96, 240, 496, 1008, 0, 0, 0, 8192, 30720, 65520, 131071, 262143, 524287]
theorem ladderbackref47_Split.tab15 : rtab .any (opsOf Try.f30 15) = ladderbackref47_Split.T15 := by kernel_rfl
theorem ladderbackref47_Split.bits15 : waitsOk ladderbackref47_Split.T15.2 ladderbackref47_Split.B15 = true := by kernel_rfl
set_option maxHeartbeats 8000000 in
set_option maxRecDepth 100000 in
theorem ladderbackref47_Split.calls (k : Nat) (a0 : ByteArray) (r1 : List (S58)) (r2 : Int) (w : World) (h : ladderbackref47_Split.f k a0 = some (r1, r2)) :
    Calls Try.prog 30 #[.string a0] w fun e w' => ∃ v0_ : Value, e = .returned (.tuple #[v0_, .int .i64 r2]) ∧ Kd.R k58 58 w' w.heap.size (fun _ => True) v0_ r1 ∧ Below w.heap.size w w' := by
  have hu58 := Try.underlying58
  have HB := Aside0.mk (Below.refl w.heap.size w)
  have H : (ladderbackref47_Split.l0 k a0 ([] : List (S58)) 1 false 0) = some (r1, r2) := h
  clear h
  have H' := Aside0.mk H
  clear H
  go_enter Try.func30, Try.ntmps30
  go_wp2
  go_loopg [4, 5, 6, 7] k (fun kq v4 v5 v6 v7 w' => ∃ (x4_1 : List (S58)) (x5_1 : Int) (x6_1 : Bool) (x7_1 : Int), v5 = .int .i64 x5_1 ∧ v6 = .bool x6_1 ∧ v7 = .int .i64 x7_1 ∧ Aside0 (ladderbackref47_Split.l0 kq a0 x4_1 x5_1 x6_1 x7_1 = some (r1, r2)) ∧ Aside0 (kq ≤ k) ∧ Aside0 (Kd.R k58 58 w' w.heap.size (fun _ => True) v4 x4_1) ∧ Aside0 (Below w.heap.size w w'))
  case atStart => exact ⟨(([] : List (S58))), (1), (false), (0), (by first | rfl | (simp; done) | (simp [*]; done)), (by first | rfl | (simp; done) | (simp [*]; done)), (by first | rfl | (simp; done) | (simp [*]; done)), H', ⟨Nat.le_refl _⟩, ⟨by first | exact Kd.R_nil _ _ _ _ _ | exact Kd.N_nil _ _ _ _ _ | exact Kd.V_nil _ _ _ _ _ | exact Kd.Q_nil _ _ _ _ _ | exact Kd.S_nil _ _ _ _ _⟩, ⟨by repeat (first | (with_reducible first | exact HB.out | apply below_alloc | apply pw_below_drewN | apply below_drew1) | exact HB.out)⟩⟩
  case round =>
    clear H'
    obtain ⟨x4_1, x5_1, x6_1, x7_1, rfl, rfl, rfl, HA, HK1, HO_4, HB⟩ := hrel
    cases gk with
    | zero => exact absurd HA.out (by simp [ladderbackref47_Split.l0])
    | succ k1 =>
      have H := HA.out
      clear HA
      simp only [ladderbackref47_Split.l0] at H
      by_cases c2 : x7_1 < (a0.size : Int)
      · rw [if_pos c2] at H
        have c2b0 : decide (x7_1 < (a0.size : Int)) = true := decide_eq_true c2
        clear c2
        by_cases c3 : 0 ≤ x7_1
        · rw [if_pos c3] at H
          have c3b0 : decide (0 ≤ x7_1) = true := decide_eq_true c3
          clear c3
          have HC5 := Aside0.mk H
          clear H
          have p4 : 0 ≤ (x7_1 : Int) := of_decide_eq_true (by first | (with_reducible assumption) | assumption)
          have q4 : x7_1 < (a0.size : Int) := of_decide_eq_true (by first | (with_reducible assumption) | assumption)
          have hx4 := bt_at a0 x7_1
          replace p4 := eq_true p4
          replace q4 := eq_true q4
          go_upto_if 20 with (fail)
          go_cut [9] (fun v9 wc => ∃ (kq : Nat) (x9_4 : Int), v9 = .int .u8 x9_4 ∧ Aside0 (ladderbackref47_Split.j1 kq a0 x4_1 x5_1 x6_1 x7_1 (bt a0 x7_1) x9_4 = some (r1, r2)) ∧ Aside0 (kq ≤ k1) ∧ Aside0 (Kd.R k58 58 wc w.heap.size (fun _ => True) u4 x4_1) ∧ Aside0 (Below w.heap.size w wc))
          case first =>
            have H := HC5.out
            clear HC5
            by_cases c6 : x6_1 = true
            · subst c6
              have H1 : (if 0 ≤ (wrap64 (x7_1 - 1)) then (if (wrap64 (x7_1 - 1)) < (a0.size : Int) then (ladderbackref47_Split.j1 k1 a0 x4_1 x5_1 true x7_1 (bt a0 x7_1) (bt a0 (wrap64 (x7_1 - 1)))) else (none)) else (none)) = some (r1, r2) := by rw [if_pos rfl] at H; exact H
              clear H
              have H := H1
              clear H1
              obtain ⟨ji7, hji7⟩ : ∃ j_ : Int, (wrap64 (x7_1 - 1)) = j_ := ⟨_, rfl⟩
              replace H : (if 0 ≤ (ji7) then (if (ji7) < (a0.size : Int) then (ladderbackref47_Split.j1 k1 a0 x4_1 x5_1 true x7_1 (bt a0 x7_1) (bt a0 (ji7))) else (none)) else (none)) = some (r1, r2) := by first | (rw [hji7] at H; exact H) | (simp only [hji7] at H ⊢; exact H)
              have hji7w : (IntKind.i64.wrap (x7_1 - 1)) = ji7 := (i64_w _).trans hji7
              by_cases c8 : 0 ≤ (ji7)
              · rw [if_pos c8] at H
                have c8b0 : decide (0 ≤ (ji7)) = true := decide_eq_true c8
                clear c8
                (first | rw [c8b0] | (simp only [i64_w, i32_w]; rw [c8b0]) | skip)
                by_cases c9 : (ji7) < (a0.size : Int)
                · rw [if_pos c9] at H
                  have c9b0 : decide ((ji7) < (a0.size : Int)) = true := decide_eq_true c9
                  clear c9
                  as_aux_lemma =>
                    have H' := Aside0.mk H
                    clear H
                    have p10 : 0 ≤ ((ji7) : Int) := of_decide_eq_true (by first | (with_reducible assumption) | assumption)
                    have q10 : (ji7) < (a0.size : Int) := of_decide_eq_true (by first | (with_reducible assumption) | assumption)
                    have hx10 := bt_at a0 (ji7)
                    replace p10 := eq_true p10
                    replace q10 := eq_true q10
                    go_wp2
                    go_meet
                    case rel => exact ⟨_, (bt a0 (ji7)), (by first | rfl | (simp; done) | (simp only [← hji7] <;> (first | rfl | simp)) | (simp [*]; done)), H', ⟨by have := HK1.out; first | omega | exact Nat.le_refl _⟩, ⟨by (with_reducible repeat (first | apply Kd.R_alloc | apply Kd.R_drewN | apply Kd.R_drew)); exact HO_4.out⟩, ⟨by repeat (first | (with_reducible first | exact HB.out | apply below_alloc | apply pw_below_drewN | apply below_drew1) | exact HB.out)⟩⟩
                · rw [if_neg c9] at H
                  exact absurd H (by simp)
              · rw [if_neg c8] at H
                exact absurd H (by simp)
            · replace c6 := Bool.eq_false_iff.mpr c6
              subst c6
              have H1 : (ladderbackref47_Split.j1 k1 a0 x4_1 x5_1 false x7_1 (bt a0 x7_1) 0) = some (r1, r2) := by rw [if_neg (show ¬ (false = true) by decide)] at H; exact H
              clear H
              have H := H1
              clear H1
              as_aux_lemma =>
                have H' := Aside0.mk H
                clear H
                go_wp2
                go_meet
                case rel => exact ⟨_, (0), (by first | rfl | (simp; done) | (simp [*]; done)), H', ⟨by have := HK1.out; first | omega | exact Nat.le_refl _⟩, ⟨by (with_reducible repeat (first | apply Kd.R_alloc | apply Kd.R_drewN | apply Kd.R_drew)); exact HO_4.out⟩, ⟨by repeat (first | (with_reducible first | exact HB.out | apply below_alloc | apply pw_below_drewN | apply below_drew1) | exact HB.out)⟩⟩
          case rest =>
            clear HC5
            try clear p1
            try clear q1
            try clear hx1
            try clear c2
            try clear c2b0
            try clear p2
            try clear c3
            try clear c3b0
            try clear p4
            try clear q4
            try clear hx4
            try clear c6
            try clear p6
            try clear c8
            try clear c8b0
            try clear c9
            try clear c9b0
            try clear p10
            try clear q10
            try clear hx10
            try clear p10
            try clear p4
            try clear q10
            try clear q4
            obtain ⟨kq, x9_4, rfl, HA, HJ4, HO_4, HB⟩ := hcut
            cases kq with
            | zero => exact absurd HA.out (by simp [ladderbackref47_Split.j1])
            | succ kj4 =>
              have H := HA.out
              clear HA
              simp only [ladderbackref47_Split.j1] at H
              replace H := Option.bind_eq_some_iff.mp H
              obtain ⟨t116, A110, H⟩ := H
              replace H : (if t116 = true then (if x6_1 = true then (if 0 ≤ (wrap64 ((x4_1.length : Int) - 1)) then (if (wrap64 ((x4_1.length : Int) - 1)) < (x4_1.length : Int) then (if 0 ≤ x7_1 then (if x7_1 ≤ (wrap64 (x7_1 + 1)) then (if (wrap64 (x7_1 + 1)) ≤ (a0.size : Int) then (if ((rd_T58 x4_1 (wrap64 ((x4_1.length : Int) - 1))).f2).size + (a0.extract (x7_1 : Int).toNat ((wrap64 (x7_1 + 1)) : Int).toNat).size ≤ 9223372036854775807 then (ladderbackref47_Split.l0 kj4 a0 (x4_1.set ((wrap64 ((x4_1.length : Int) - 1)) : Int).toNat (⟨(rd_T58 x4_1 (wrap64 ((x4_1.length : Int) - 1))).f0, (rd_T58 x4_1 (wrap64 ((x4_1.length : Int) - 1))).f1, ((rd_T58 x4_1 (wrap64 ((x4_1.length : Int) - 1))).f2) ++ (a0.extract (x7_1 : Int).toNat ((wrap64 (x7_1 + 1)) : Int).toNat)⟩ : S58)) x5_1 true (wrap64 (x7_1 + 1))) else (none)) else (none)) else (none)) else (none)) else (none)) else (none)) else (if x4_1.length < 4398046511104 then ((some (x4_1 ++ [(⟨1, x5_1, (⟨#[]⟩ : ByteArray)⟩ : S58)] : List (S58))).bind fun y119 => (if 0 ≤ (wrap64 ((y119.length : Int) - 1)) then (if (wrap64 ((y119.length : Int) - 1)) < (y119.length : Int) then (if 0 ≤ x7_1 then (if x7_1 ≤ (wrap64 (x7_1 + 1)) then (if (wrap64 (x7_1 + 1)) ≤ (a0.size : Int) then (if ((rd_T58 y119 (wrap64 ((y119.length : Int) - 1))).f2).size + (a0.extract (x7_1 : Int).toNat ((wrap64 (x7_1 + 1)) : Int).toNat).size ≤ 9223372036854775807 then (ladderbackref47_Split.l0 kj4 a0 (y119.set ((wrap64 ((y119.length : Int) - 1)) : Int).toNat (⟨(rd_T58 y119 (wrap64 ((y119.length : Int) - 1))).f0, (rd_T58 y119 (wrap64 ((y119.length : Int) - 1))).f1, ((rd_T58 y119 (wrap64 ((y119.length : Int) - 1))).f2) ++ (a0.extract (x7_1 : Int).toNat ((wrap64 (x7_1 + 1)) : Int).toNat)⟩ : S58)) x5_1 true (wrap64 (x7_1 + 1))) else (none)) else (none)) else (none)) else (none)) else (none)) else (none))) else (none))) else (if (bt a0 x7_1) = 10 then (ladderbackref47_Split.j2 kj4 a0 x4_1 (wrap64 (x5_1 + 1)) false x7_1 (bt a0 x7_1)) else (ladderbackref47_Split.j2 kj4 a0 x4_1 x5_1 false x7_1 (bt a0 x7_1)))) = some (r1, r2) := H
              have A11 := Aside0.mk A110
              clear A110
              by_cases c12 : t116 = true
              · subst c12
                have H1 : (if x6_1 = true then (if 0 ≤ (wrap64 ((x4_1.length : Int) - 1)) then (if (wrap64 ((x4_1.length : Int) - 1)) < (x4_1.length : Int) then (if 0 ≤ x7_1 then (if x7_1 ≤ (wrap64 (x7_1 + 1)) then (if (wrap64 (x7_1 + 1)) ≤ (a0.size : Int) then (if ((rd_T58 x4_1 (wrap64 ((x4_1.length : Int) - 1))).f2).size + (a0.extract (x7_1 : Int).toNat ((wrap64 (x7_1 + 1)) : Int).toNat).size ≤ 9223372036854775807 then (ladderbackref47_Split.l0 kj4 a0 (x4_1.set ((wrap64 ((x4_1.length : Int) - 1)) : Int).toNat (⟨(rd_T58 x4_1 (wrap64 ((x4_1.length : Int) - 1))).f0, (rd_T58 x4_1 (wrap64 ((x4_1.length : Int) - 1))).f1, ((rd_T58 x4_1 (wrap64 ((x4_1.length : Int) - 1))).f2) ++ (a0.extract (x7_1 : Int).toNat ((wrap64 (x7_1 + 1)) : Int).toNat)⟩ : S58)) x5_1 true (wrap64 (x7_1 + 1))) else (none)) else (none)) else (none)) else (none)) else (none)) else (none)) else (if x4_1.length < 4398046511104 then ((some (x4_1 ++ [(⟨1, x5_1, (⟨#[]⟩ : ByteArray)⟩ : S58)] : List (S58))).bind fun y119 => (if 0 ≤ (wrap64 ((y119.length : Int) - 1)) then (if (wrap64 ((y119.length : Int) - 1)) < (y119.length : Int) then (if 0 ≤ x7_1 then (if x7_1 ≤ (wrap64 (x7_1 + 1)) then (if (wrap64 (x7_1 + 1)) ≤ (a0.size : Int) then (if ((rd_T58 y119 (wrap64 ((y119.length : Int) - 1))).f2).size + (a0.extract (x7_1 : Int).toNat ((wrap64 (x7_1 + 1)) : Int).toNat).size ≤ 9223372036854775807 then (ladderbackref47_Split.l0 kj4 a0 (y119.set ((wrap64 ((y119.length : Int) - 1)) : Int).toNat (⟨(rd_T58 y119 (wrap64 ((y119.length : Int) - 1))).f0, (rd_T58 y119 (wrap64 ((y119.length : Int) - 1))).f1, ((rd_T58 y119 (wrap64 ((y119.length : Int) - 1))).f2) ++ (a0.extract (x7_1 : Int).toNat ((wrap64 (x7_1 + 1)) : Int).toNat)⟩ : S58)) x5_1 true (wrap64 (x7_1 + 1))) else (none)) else (none)) else (none)) else (none)) else (none)) else (none))) else (none))) = some (r1, r2) := by rw [if_pos rfl] at H; exact H
                clear H
                have H := H1
                clear H1
                by_cases c13 : x6_1 = true
                · subst c13
                  have H1 : (if 0 ≤ (wrap64 ((x4_1.length : Int) - 1)) then (if (wrap64 ((x4_1.length : Int) - 1)) < (x4_1.length : Int) then (if 0 ≤ x7_1 then (if x7_1 ≤ (wrap64 (x7_1 + 1)) then (if (wrap64 (x7_1 + 1)) ≤ (a0.size : Int) then (if ((rd_T58 x4_1 (wrap64 ((x4_1.length : Int) - 1))).f2).size + (a0.extract (x7_1 : Int).toNat ((wrap64 (x7_1 + 1)) : Int).toNat).size ≤ 9223372036854775807 then (ladderbackref47_Split.l0 kj4 a0 (x4_1.set ((wrap64 ((x4_1.length : Int) - 1)) : Int).toNat (⟨(rd_T58 x4_1 (wrap64 ((x4_1.length : Int) - 1))).f0, (rd_T58 x4_1 (wrap64 ((x4_1.length : Int) - 1))).f1, ((rd_T58 x4_1 (wrap64 ((x4_1.length : Int) - 1))).f2) ++ (a0.extract (x7_1 : Int).toNat ((wrap64 (x7_1 + 1)) : Int).toNat)⟩ : S58)) x5_1 true (wrap64 (x7_1 + 1))) else (none)) else (none)) else (none)) else (none)) else (none)) else (none)) = some (r1, r2) := by rw [if_pos rfl] at H; exact H
                  clear H
                  have H := H1
                  clear H1
                  obtain ⟨ji14, hji14⟩ : ∃ j_ : Int, (wrap64 ((x4_1.length : Int) - 1)) = j_ := ⟨_, rfl⟩
                  replace H : (if 0 ≤ (ji14) then (if (ji14) < (x4_1.length : Int) then (if 0 ≤ x7_1 then (if x7_1 ≤ (wrap64 (x7_1 + 1)) then (if (wrap64 (x7_1 + 1)) ≤ (a0.size : Int) then (if ((rd_T58 x4_1 (ji14)).f2).size + (a0.extract (x7_1 : Int).toNat ((wrap64 (x7_1 + 1)) : Int).toNat).size ≤ 9223372036854775807 then (ladderbackref47_Split.l0 kj4 a0 (x4_1.set ((ji14) : Int).toNat (⟨(rd_T58 x4_1 (ji14)).f0, (rd_T58 x4_1 (ji14)).f1, ((rd_T58 x4_1 (ji14)).f2) ++ (a0.extract (x7_1 : Int).toNat ((wrap64 (x7_1 + 1)) : Int).toNat)⟩ : S58)) x5_1 true (wrap64 (x7_1 + 1))) else (none)) else (none)) else (none)) else (none)) else (none)) else (none)) = some (r1, r2) := by first | (rw [hji14] at H; exact H) | (simp only [hji14] at H ⊢; exact H)
                  (try rw [hji14] at A11)
                  have hji14w : (IntKind.i64.wrap ((x4_1.length : Int) - 1)) = ji14 := (i64_w _).trans hji14
                  by_cases c15 : 0 ≤ (ji14)
                  · rw [if_pos c15] at H
                    have c15b0 : decide (0 ≤ (ji14)) = true := decide_eq_true c15
                    clear c15
                    by_cases c16 : (ji14) < (x4_1.length : Int)
                    · rw [if_pos c16] at H
                      have c16b0 : decide ((ji14) < (x4_1.length : Int)) = true := decide_eq_true c16
                      clear c16
                      by_cases c17 : 0 ≤ x7_1
                      · rw [if_pos c17] at H
                        have c17b0 := eq_true c17
                        have c17b1 : decide (0 ≤ x7_1) = true := decide_eq_true c17
                        clear c17
                        by_cases c18 : x7_1 ≤ (wrap64 (x7_1 + 1))
                        · rw [if_pos c18] at H
                          have c18b0 := eq_true c18
                          have c18b1 : decide (x7_1 ≤ (wrap64 (x7_1 + 1))) = true := decide_eq_true c18
                          by_cases c19 : (wrap64 (x7_1 + 1)) ≤ (a0.size : Int)
                          · rw [if_pos c19] at H
                            have c19b0 := eq_true c19
                            have c19b1 : decide ((wrap64 (x7_1 + 1)) ≤ (a0.size : Int)) = true := decide_eq_true c19
                            by_cases c20 : ((rd_T58 x4_1 (ji14)).f2).size + (a0.extract (x7_1 : Int).toNat ((wrap64 (x7_1 + 1)) : Int).toNat).size ≤ 9223372036854775807
                            · rw [if_pos c20] at H
                              have c20b0 := eq_true c20
                              have c20b1 : decide (((rd_T58 x4_1 (ji14)).f2).size + (a0.extract (x7_1 : Int).toNat ((wrap64 (x7_1 + 1)) : Int).toNat).size ≤ 9223372036854775807) = true := decide_eq_true c20
                              try have c20b2 : (9223372036854775807 < ((rd_T58 x4_1 (ji14)).f2).size + (a0.extract (x7_1 : Int).toNat ((wrap64 (x7_1 + 1)) : Int).toNat).size) = False := eq_false (Nat.not_lt.2 c20)
                              have c20b3 : (9223372036854775807 < ((rd_T58 x4_1 (ji14)).f2).size + ((wrap64 (x7_1 + 1)).toNat - x7_1.toNat)) = False := eq_false (by have h_ := Nat.not_lt.2 c20; rw [ByteArray.size_extract] at h_; have h2_ : min (wrap64 (x7_1 + 1)).toNat a0.size = (wrap64 (x7_1 + 1)).toNat := Nat.min_eq_left (by omega); rw [h2_] at h_; exact h_)
                              obtain ⟨y118, hy118⟩ : ∃ y_ : List (S58), y_ = (x4_1.set ((ji14) : Int).toNat (⟨(rd_T58 x4_1 (ji14)).f0, (rd_T58 x4_1 (ji14)).f1, ((rd_T58 x4_1 (ji14)).f2) ++ (a0.extract (x7_1 : Int).toNat ((wrap64 (x7_1 + 1)) : Int).toNat)⟩ : S58)) := ⟨_, rfl⟩
                              replace H : (ladderbackref47_Split.l0 kj4 a0 y118 x5_1 true (wrap64 (x7_1 + 1))) = some (r1, r2) := by first | (rw [hy118]; with_reducible exact H) | (have H2_ := (Option.bind_some _ _).symm.trans H; rw [hy118]; with_reducible exact H2_) | (have H2_ := (Option.bind_some _ _).symm.trans H; with_reducible exact H2_) | with_reducible exact H | (rw [hy118]; exact H) | exact H
                              have Ny118 := Aside0.mk hy118
                              clear hy118
                              as_aux_lemma =>
                                have H' := Aside0.mk H
                                clear H
                                try go_wp2_with (first | ((with_reducible refine gate_callee (f := 55) rfl ?_); refine goesL_ (some 27) rfl rfl Try.func55 (by kernel_rfl) rfl #[.int .u8 (bt a0 x7_1), .int .u8 x9_4] rfl (by (try simp only [List.map_toArray, List.map_cons, List.map_nil]); first | done | rfl | (simp only [List.length_drop, List.length_take]; rfl)) ?_; (with_reducible refine (ladderbackref47_part.calls kj4 (bt a0 x7_1) x9_4 true _ A11.out).mono ?_); rintro e w' ⟨rfl, ⟨nd, rfl⟩⟩; refine ⟨_, rfl, ?_⟩; (try (rw [drewN_self wc]; generalize hq_ : World.drewN wc _ = wc; have n0_ : Aside0 (Kd.R k58 58 wc w.heap.size (fun _ => True) u4 x4_1) := ⟨by rw [← hq_]; exact (by (with_reducible repeat (first | apply Kd.R_alloc | apply Kd.R_drewN | apply Kd.R_drew)); exact HO_4.out)⟩; have n1_ : Aside0 (Below w.heap.size w wc) := ⟨by rw [← hq_]; exact (by repeat (first | (with_reducible first | exact HB.out | apply below_alloc | apply pw_below_drewN | apply below_drew1) | exact HB.out))⟩; clear HO_4 HB hq_; have HO_4 := n0_; have HB := n1_; clear n0_ n1_))))
                                have n0_ := Aside0.mk (Kd.R_drew HO_4.out)
                                have n1_ := Aside0.mk (below_drew1 HB.out)
                                clear HO_4
                                clear HB
                                have HO_4 := n0_
                                have HB := n1_
                                clear n0_ n1_
                                obtain ⟨Ao23, co23, eo23⟩ := Kd.R_slice HO_4.out
                                (first | subst eo23 | (injection eo23 with f1_ f2_ f3_; have f4_ := f1_.symm; have f5_ := f3_.symm; clear f1_ f2_ f3_; subst f4_; subst f5_))
                                have p117 : 0 ≤ ((ji14) : Int) := of_decide_eq_true (by first | (with_reducible assumption) | assumption)
                                have q117 : (ji14) < (x4_1.length : Int) := of_decide_eq_true (by first | (with_reducible assumption) | assumption)
                                obtain ⟨ad117, e117, hx117_0, hx117_1, hx117_2⟩ := at_T58 (Kd.R_reads' HO_4.out).2.2 (ji14) p117 q117
                                cases e117
                                replace p117 := eq_true p117
                                replace q117 := eq_true q117
                                have p21 : 0 ≤ ((ji14) : Int) := of_decide_eq_true (by first | (with_reducible assumption) | assumption)
                                have q21 : ((ji14) : Int) < ((x4_1.length : Int) : Int) := of_decide_eq_true (by first | (with_reducible assumption) | assumption)
                                obtain ⟨go21, co21, eo21, gb21, gl21, cl21, HG21⟩ := Kd.R_form HO_4.out (by omega)
                                (first | cases eo21 | (injection eo21 with ea_ en_ ec_; (first | subst ea_ | (injection ea_ with ea_; subst ea_)); subst ec_; clear en_))
                                have GB21 := Aside0.mk gb21
                                have GG21 := Aside0.mk HG21
                                clear gb21 gl21 HG21
                                (first | simp only [add_plain] at hx117_0 | skip)
                                (first | simp only [add_plain] at hx117_1 | skip)
                                (first | simp only [add_plain] at hx117_2 | skip)
                                obtain ⟨ce21, hcl21, hM21, hcc21, hfr21⟩ := Kd.R_elem HO_4.out z58 ((ji14) : Int) p21 q21
                                obtain rfl := k58_openM hM21
                                have hx21_0 : World.cell? _ ⟨go21, ((ji14) : Int).toNat * 3, none⟩ = some (.int .i64 ((rd_T58 x4_1 (ji14)).f0)) := hcc21 0 _ rfl
                                have hx21_1 : World.cell? _ ⟨go21, ((ji14) : Int).toNat * 3 + 1, none⟩ = some (.int .i64 ((rd_T58 x4_1 (ji14)).f1)) := hcc21 1 _ rfl
                                have hx21_2 : World.cell? _ ⟨go21, ((ji14) : Int).toNat * 3 + 2, none⟩ = some (.string ((rd_T58 x4_1 (ji14)).f2)) := hcc21 2 _ rfl
                                have hf21_0 : World.frozen? _ ⟨go21, ((ji14) : Int).toNat * 3, none⟩ = false := hfr21 0
                                have hf21_1 : World.frozen? _ ⟨go21, ((ji14) : Int).toNat * 3 + 1, none⟩ = false := hfr21 1
                                have hf21_2 : World.frozen? _ ⟨go21, ((ji14) : Int).toNat * 3 + 2, none⟩ = false := hfr21 2
                                clear hcl21 hcc21 hfr21 hM21
                                replace p21 := eq_true p21
                                replace q21 := eq_true q21
                                obtain ⟨ce24, hcl24, hM24, hcc24, hfr24⟩ := Kd.R_elem HO_4.out z58 ((ji14) : Int) (of_decide_eq_true (by first | (with_reducible assumption) | assumption)) (by have h_ : ((ji14) : Int) < ((x4_1.length : Int) : Int) := of_decide_eq_true (by first | (with_reducible assumption) | assumption); first | exact h_ | (have e_ := (Kd.R_reads' HO_4.out).1; omega) | simpa using h_)
                                obtain rfl := k58_openM hM24
                                have HP24 := (Kd.R_seg HO_4.out ((ji14) : Int) (of_decide_eq_true (by first | (with_reducible assumption) | assumption)) (by have h_ : ((ji14) : Int) < ((x4_1.length : Int) : Int) := of_decide_eq_true (by first | (with_reducible assumption) | assumption); first | exact h_ | (have e_ := (Kd.R_reads' HO_4.out).1; omega) | simpa using h_) (seg := [.string (((rd_T58 x4_1 (ji14)).f2) ++ (a0.extract (x7_1 : Int).toNat ((wrap64 (x7_1 + 1)) : Int).toNat))]) (j := 2) hcl24 hcc24 (show 3 ≤ 3 from by decide) (x' := (⟨(rd_T58 x4_1 (ji14)).f0, (rd_T58 x4_1 (ji14)).f1, ((rd_T58 x4_1 (ji14)).f2) ++ (a0.extract (x7_1 : Int).toNat ((wrap64 (x7_1 + 1)) : Int).toNat)⟩ : S58)) (k58_mkM _ _ _ (⟨(rd_T58 x4_1 (ji14)).f0, (rd_T58 x4_1 (ji14)).f1, ((rd_T58 x4_1 (ji14)).f2) ++ (a0.extract (x7_1 : Int).toNat ((wrap64 (x7_1 + 1)) : Int).toNat)⟩ : S58) ) (fun _ hk => hk)).1
                                rw [← Ny118.out] at HP24
                                have HQ24 := Aside0.mk HP24
                                clear hcl24 hcc24 hfr24 hM24 HP24
                                refine start_ (n := 20) (S := fun w' => w'.cell? (⟨go21, (((ji14)).toNat * 3), none⟩ : Addr) = some (.int .i64 ((rd_T58 x4_1 (ji14)).f0)) ∧ w'.cell? ⟨(⟨go21, (((ji14)).toNat * 3), none⟩ : Addr).block, (⟨go21, (((ji14)).toNat * 3), none⟩ : Addr).off + 1, none⟩ = some (.int .i64 ((rd_T58 x4_1 (ji14)).f1)) ∧ w'.cell? ⟨(⟨go21, (((ji14)).toNat * 3), none⟩ : Addr).block, (⟨go21, (((ji14)).toNat * 3), none⟩ : Addr).off + 2, none⟩ = some (.string ((rd_T58 x4_1 (ji14)).f2))) (ds := [19]) #[false, false, false, false, false, false, false, false, false, false, false, false, false, false, false, false, false, false, false, false] (by kernel_rfl) rfl rfl ⟨hx117_0, hx117_1, hx117_2⟩ (fun hHeld => ?_); refine with_tabW ladderbackref47_Split.tab15 ladderbackref47_Split.bits15 (fun HT_ HW_ => ?_)
                                generalize wc.drew = w22 at HO_4 HB GG21 HQ24 hf21_0 hf21_1 hf21_2 hx117_0 hx117_1 hx117_2 hx21_0 hx21_1 hx21_2 hHeld ⊢
                                refine pure_ (i := 0) (N := some 35) (v := ?_) (a' := ?_) #[true, false, false, false, false, false, false, false, false, false, false, false, false, false, false, false, false, false, false, false] rfl rfl (any_of HT_.out (by kernel_rfl)) (fun _ _ _ h => h) (Or.inl ⟨by rfl, ?_⟩) ?_ ?_
                                rotate_left
                                · intro w'
                                  go_simp
                                  with_reducible rfl
                                rotate_left
                                · simp only [Act.put, List.setIfInBounds_toArray, List.set_cons_zero, List.set_cons_succ, i64_w, i32_w]
                                  rfl
                                refine pure_ (i := 1) (N := some 36) (v := ?_) (a' := ?_) #[true, true, false, false, false, false, false, false, false, false, false, false, false, false, false, false, false, false, false, false] rfl rfl (any_of HT_.out (by kernel_rfl)) (fun _ _ _ h => h) (Or.inl ⟨by rfl, ?_⟩) ?_ ?_
                                rotate_left
                                · intro w'
                                  go_simp
                                  with_reducible rfl
                                rotate_left
                                · simp only [Act.put, List.setIfInBounds_toArray, List.set_cons_zero, List.set_cons_succ, i64_w, i32_w]
                                  rfl
                                refine pure_ (i := 2) (N := some 37) (v := ?_) (a' := ?_) #[true, true, true, false, false, false, false, false, false, false, false, false, false, false, false, false, false, false, false, false] rfl rfl (any_of HT_.out (by kernel_rfl)) (fun _ _ _ h => h) (Or.inl ⟨by rfl, ?_⟩) ?_ ?_
                                rotate_left
                                · intro w'
                                  go_simp
                                  with_reducible rfl
                                rotate_left
                                · simp only [Act.put, List.setIfInBounds_toArray, List.set_cons_zero, List.set_cons_succ, i64_w, i32_w]
                                  rfl
                                refine pure_ (i := 3) (N := some 38) (v := ?_) (a' := ?_) #[true, true, true, true, false, false, false, false, false, false, false, false, false, false, false, false, false, false, false, false] rfl rfl (any_of HT_.out (by kernel_rfl)) (fun _ _ _ h => h) (Or.inl ⟨by rfl, ?_⟩) ?_ ?_
                                rotate_left
                                · intro w'
                                  go_simp
                                  with_reducible rfl
                                rotate_left
                                · simp only [Act.put, List.setIfInBounds_toArray, List.set_cons_zero, List.set_cons_succ, i64_w, i32_w]
                                  rfl
                                refine pure_ (i := 4) (N := some 39) (v := ?_) (a' := ?_) #[true, true, true, true, true, false, false, false, false, false, false, false, false, false, false, false, false, false, false, false] rfl rfl (any_of HT_.out (by kernel_rfl)) (fun _ _ _ h => h) (Or.inl ⟨by rfl, ?_⟩) ?_ ?_
                                rotate_left
                                · intro w'
                                  go_simp
                                  with_reducible rfl
                                rotate_left
                                · simp only [Act.put, List.setIfInBounds_toArray, List.set_cons_zero, List.set_cons_succ, i64_w, i32_w]
                                  rfl
                                refine pure_ (i := 5) (N := some 40) (v := ?_) (a' := ?_) #[true, true, true, true, true, true, false, false, false, false, false, false, false, false, false, false, false, false, false, false] rfl rfl (any_of HT_.out (by kernel_rfl)) (fun _ _ _ h => h) (Or.inl ⟨by rfl, ?_⟩) ?_ ?_
                                rotate_left
                                · intro w'
                                  go_simp
                                  with_reducible rfl
                                rotate_left
                                · simp only [Act.put, List.setIfInBounds_toArray, List.set_cons_zero, List.set_cons_succ, i64_w, i32_w]
                                  rfl
                                refine pure_ (i := 6) (N := some 41) (v := ?_) (a' := ?_) #[true, true, true, true, true, true, true, false, false, false, false, false, false, false, false, false, false, false, false, false] rfl rfl (any_of HT_.out (by kernel_rfl)) (fun _ _ _ h => h) (Or.inl ⟨by rfl, ?_⟩) ?_ ?_
                                rotate_left
                                · intro w'
                                  go_simp
                                  with_reducible rfl
                                rotate_left
                                · simp only [Act.put, List.setIfInBounds_toArray, List.set_cons_zero, List.set_cons_succ, i64_w, i32_w]
                                  rfl
                                refine pure_ (i := 7) (N := some 42) (v := ?_) (a' := ?_) #[true, true, true, true, true, true, true, true, false, false, false, false, false, false, false, false, false, false, false, false] rfl rfl (any_of HT_.out (by kernel_rfl)) (fun _ _ _ h => h) (Or.inl ⟨by rfl, ?_⟩) ?_ ?_
                                rotate_left
                                · intro w'
                                  go_simp
                                  with_reducible rfl
                                rotate_left
                                · simp only [Act.put, List.setIfInBounds_toArray, List.set_cons_zero, List.set_cons_succ, i64_w, i32_w]
                                  rfl
                                refine pure_ (i := 8) (N := some 43) (v := ?_) (a' := ?_) #[true, true, true, true, true, true, true, true, true, false, false, false, false, false, false, false, false, false, false, false] rfl rfl (any_of HT_.out (by kernel_rfl)) (fun _ _ _ h => h) (Or.inl ⟨by rfl, ?_⟩) ?_ ?_
                                rotate_left
                                · intro w'
                                  go_simp
                                  with_reducible rfl
                                rotate_left
                                · simp only [Act.put, List.setIfInBounds_toArray, List.set_cons_zero, List.set_cons_succ, i64_w, i32_w]
                                  rfl
                                refine pure_ (i := 9) (N := some 44) (v := ?_) (a' := ?_) #[true, true, true, true, true, true, true, true, true, true, false, false, false, false, false, false, false, false, false, false] rfl rfl (any_of HT_.out (by kernel_rfl)) (fun _ _ _ h => h) (Or.inl ⟨by rfl, ?_⟩) ?_ ?_
                                rotate_left
                                · intro w'
                                  go_simp
                                  with_reducible rfl
                                rotate_left
                                · simp only [Act.put, List.setIfInBounds_toArray, List.set_cons_zero, List.set_cons_succ, i64_w, i32_w]
                                  rfl
                                refine pure_ (i := 11) (N := some 46) (v := ?_) (a' := ?_) #[true, true, true, true, true, true, true, true, true, true, false, true, false, false, false, false, false, false, false, false] rfl rfl (any_of HT_.out (by kernel_rfl)) (fun _ _ _ h => h) (Or.inl ⟨by rfl, ?_⟩) ?_ ?_
                                rotate_left
                                · intro w'
                                  go_simp
                                  with_reducible rfl
                                rotate_left
                                · simp only [Act.put, List.setIfInBounds_toArray, List.set_cons_zero, List.set_cons_succ, i64_w, i32_w]
                                  rfl
                                refine pure_ (i := 12) (N := some 47) (v := ?_) (a' := ?_) #[true, true, true, true, true, true, true, true, true, true, false, true, true, false, false, false, false, false, false, false] rfl rfl (any_of HT_.out (by kernel_rfl)) (fun _ _ _ h => h) (Or.inl ⟨by rfl, ?_⟩) ?_ ?_
                                rotate_left
                                · intro w'
                                  go_simp
                                  with_reducible rfl
                                rotate_left
                                · simp only [Act.put, List.setIfInBounds_toArray, List.set_cons_zero, List.set_cons_succ, i64_w, i32_w]
                                  rfl
                                refine pure_ (i := 13) (N := some 48) (v := ?_) (a' := ?_) #[true, true, true, true, true, true, true, true, true, true, false, true, true, true, false, false, false, false, false, false] rfl rfl (any_of HT_.out (by kernel_rfl)) (fun _ _ _ h => h) (Or.inl ⟨by rfl, ?_⟩) ?_ ?_
                                rotate_left
                                · intro w'
                                  go_simp
                                  with_reducible rfl
                                rotate_left
                                · simp only [Act.put, List.setIfInBounds_toArray, List.set_cons_zero, List.set_cons_succ, i64_w, i32_w]
                                  rfl
                                refine pure_ (i := 14) (N := some 49) (v := ?_) (a' := ?_) #[true, true, true, true, true, true, true, true, true, true, false, true, true, true, true, false, false, false, false, false] rfl rfl (any_of HT_.out (by kernel_rfl)) (fun _ _ _ h => h) (Or.inl ⟨by rfl, ?_⟩) ?_ ?_
                                rotate_left
                                · intro w'
                                  go_simp
                                  with_reducible rfl
                                rotate_left
                                · simp only [Act.put, List.setIfInBounds_toArray, List.set_cons_zero, List.set_cons_succ, i64_w, i32_w]
                                  rfl
                                refine pure_ (i := 15) (N := some 50) (v := ?_) (a' := ?_) #[true, true, true, true, true, true, true, true, true, true, false, true, true, true, true, true, false, false, false, false] rfl rfl (any_of HT_.out (by kernel_rfl)) (fun _ _ _ h => h) (Or.inl ⟨by rfl, ?_⟩) ?_ ?_
                                rotate_left
                                · intro w'
                                  go_simp
                                  with_reducible rfl
                                rotate_left
                                · simp only [Act.put, List.setIfInBounds_toArray, List.set_cons_zero, List.set_cons_succ, i64_w, i32_w]
                                  rfl
                                refine take_ (i := 10) (N := some 45) (v := ?_) (a' := ?_) #[true, true, true, true, true, true, true, true, true, true, true, true, true, true, true, true, false, false, false, false] rfl rfl (take_ofW HT_.out HW_.out (by kernel_rfl)) (fun _ _ _ h => h) (Or.inl ⟨by rfl, ?_⟩) hHeld ?_ ?_
                                rotate_left
                                · rintro w' ⟨s0, s1, s2⟩
                                  go_simp
                                  with_reducible rfl
                                rotate_left
                                · simp only [Act.put, List.setIfInBounds_toArray, List.set_cons_zero, List.set_cons_succ, i64_w, i32_w]
                                  rfl
                                refine pure_ (i := 16) (N := some 51) (v := ?_) (a' := ?_) #[true, true, true, true, true, true, true, true, true, true, true, true, true, true, true, true, true, false, false, false] rfl rfl (any_of HT_.out (by kernel_rfl)) (fun _ _ _ h => h) (Or.inl ⟨by rfl, ?_⟩) ?_ ?_
                                rotate_left
                                · intro w'
                                  go_simp
                                  with_reducible rfl
                                rotate_left
                                · simp only [Act.put, List.setIfInBounds_toArray, List.set_cons_zero, List.set_cons_succ, i64_w, i32_w]
                                  rfl
                                refine pure_ (i := 17) (N := some 52) (v := ?_) (a' := ?_) #[true, true, true, true, true, true, true, true, true, true, true, true, true, true, true, true, true, true, false, false] rfl rfl (any_of HT_.out (by kernel_rfl)) (fun _ _ _ h => h) (Or.inl ⟨by rfl, ?_⟩) ?_ ?_
                                rotate_left
                                · intro w'
                                  go_simp
                                  with_reducible rfl
                                rotate_left
                                · simp only [Act.put, List.setIfInBounds_toArray, List.set_cons_zero, List.set_cons_succ, i64_w, i32_w]
                                  rfl
                                refine pure_ (i := 18) (N := some 53) (v := ?_) (a' := ?_) #[true, true, true, true, true, true, true, true, true, true, true, true, true, true, true, true, true, true, true, false] rfl rfl (any_of HT_.out (by kernel_rfl)) (fun _ _ _ h => h) (Or.inl ⟨by rfl, ?_⟩) ?_ ?_
                                rotate_left
                                · intro w'
                                  go_simp
                                  with_reducible rfl
                                rotate_left
                                · simp only [Act.put, List.setIfInBounds_toArray, List.set_cons_zero, List.set_cons_succ, i64_w, i32_w]
                                  rfl
                                refine last_ (i := 19) (N := none) #[true, true, true, true, true, true, true, true, true, true, true, true, true, true, true, true, true, true, true, true] rfl rfl (one_of HT_.out (by kernel_rfl)) (by decide) (fun K hK => ?_)
                                refine skip_ (w1 := ?_) (by rfl) rfl ?_ ?_
                                rotate_left
                                · go_simp
                                  rfl
                                refine hK.out _ _ ?_
                                clear hK K
                                refine done_ (done_of HT_.out (by kernel_rfl)) ?_
                                try go_wp2
                                go_roundg kj4
                                case measure => have := HK1.out; have := HJ4.out; omega
                                case rel => exact ⟨(y118), (x5_1), (true), (wrap64 (x7_1 + 1)), (by first | rfl | (simp; done) | (simp [*]; done)), (by first | rfl | (simp; done) | (simp [*]; done)), (by first | rfl | (simp; done) | (simp [*]; done)), H', ⟨by have := HK1.out; have := HJ4.out; omega⟩, ⟨by (with_reducible repeat (first | apply Kd.R_alloc | apply Kd.R_drewN | apply Kd.R_drew)); exact HQ24.out⟩, ⟨by repeat (first | (with_reducible first | exact HB.out | apply below_alloc | apply pw_below_drewN | apply below_drew1 | refine below_set ?_ GB21.out) | exact HB.out)⟩⟩
                            · rw [if_neg c20] at H
                              exact absurd H (by simp)
                          · rw [if_neg c19] at H
                            exact absurd H (by simp)
                        · rw [if_neg c18] at H
                          exact absurd H (by simp)
                      · rw [if_neg c17] at H
                        exact absurd H (by simp)
                    · rw [if_neg c16] at H
                      exact absurd H (by simp)
                  · rw [if_neg c15] at H
                    exact absurd H (by simp)
                · replace c13 := Bool.eq_false_iff.mpr c13
                  subst c13
                  have H1 : (if x4_1.length < 4398046511104 then ((some (x4_1 ++ [(⟨1, x5_1, (⟨#[]⟩ : ByteArray)⟩ : S58)] : List (S58))).bind fun y119 => (if 0 ≤ (wrap64 ((y119.length : Int) - 1)) then (if (wrap64 ((y119.length : Int) - 1)) < (y119.length : Int) then (if 0 ≤ x7_1 then (if x7_1 ≤ (wrap64 (x7_1 + 1)) then (if (wrap64 (x7_1 + 1)) ≤ (a0.size : Int) then (if ((rd_T58 y119 (wrap64 ((y119.length : Int) - 1))).f2).size + (a0.extract (x7_1 : Int).toNat ((wrap64 (x7_1 + 1)) : Int).toNat).size ≤ 9223372036854775807 then (ladderbackref47_Split.l0 kj4 a0 (y119.set ((wrap64 ((y119.length : Int) - 1)) : Int).toNat (⟨(rd_T58 y119 (wrap64 ((y119.length : Int) - 1))).f0, (rd_T58 y119 (wrap64 ((y119.length : Int) - 1))).f1, ((rd_T58 y119 (wrap64 ((y119.length : Int) - 1))).f2) ++ (a0.extract (x7_1 : Int).toNat ((wrap64 (x7_1 + 1)) : Int).toNat)⟩ : S58)) x5_1 true (wrap64 (x7_1 + 1))) else (none)) else (none)) else (none)) else (none)) else (none)) else (none))) else (none)) = some (r1, r2) := by rw [if_neg (show ¬ (false = true) by decide)] at H; exact H
                  clear H
                  have H := H1
                  clear H1
                  by_cases c25 : x4_1.length < 4398046511104
                  · rw [if_pos c25] at H
                    have LMc25 := Aside0.mk c25
                    clear c25
                    obtain ⟨y119, hy119⟩ : ∃ y_ : List (S58), y_ = (x4_1 ++ [(⟨1, x5_1, (⟨#[]⟩ : ByteArray)⟩ : S58)]) := ⟨_, rfl⟩
                    replace H : (if 0 ≤ (wrap64 ((y119.length : Int) - 1)) then (if (wrap64 ((y119.length : Int) - 1)) < (y119.length : Int) then (if 0 ≤ x7_1 then (if x7_1 ≤ (wrap64 (x7_1 + 1)) then (if (wrap64 (x7_1 + 1)) ≤ (a0.size : Int) then (if ((rd_T58 y119 (wrap64 ((y119.length : Int) - 1))).f2).size + (a0.extract (x7_1 : Int).toNat ((wrap64 (x7_1 + 1)) : Int).toNat).size ≤ 9223372036854775807 then (ladderbackref47_Split.l0 kj4 a0 (y119.set ((wrap64 ((y119.length : Int) - 1)) : Int).toNat (⟨(rd_T58 y119 (wrap64 ((y119.length : Int) - 1))).f0, (rd_T58 y119 (wrap64 ((y119.length : Int) - 1))).f1, ((rd_T58 y119 (wrap64 ((y119.length : Int) - 1))).f2) ++ (a0.extract (x7_1 : Int).toNat ((wrap64 (x7_1 + 1)) : Int).toNat)⟩ : S58)) x5_1 true (wrap64 (x7_1 + 1))) else (none)) else (none)) else (none)) else (none)) else (none)) else (none)) = some (r1, r2) := by first | (rw [hy119]; with_reducible exact H) | (have H2_ := (Option.bind_some _ _).symm.trans H; rw [hy119]; with_reducible exact H2_) | (have H2_ := (Option.bind_some _ _).symm.trans H; with_reducible exact H2_) | with_reducible exact H | (rw [hy119]; exact H) | exact H
                    have Ny119 := Aside0.mk hy119
                    clear hy119
                    obtain ⟨ji26, hji26⟩ : ∃ j_ : Int, (wrap64 ((y119.length : Int) - 1)) = j_ := ⟨_, rfl⟩
                    replace H : (if 0 ≤ (ji26) then (if (ji26) < (y119.length : Int) then (if 0 ≤ x7_1 then (if x7_1 ≤ (wrap64 (x7_1 + 1)) then (if (wrap64 (x7_1 + 1)) ≤ (a0.size : Int) then (if ((rd_T58 y119 (ji26)).f2).size + (a0.extract (x7_1 : Int).toNat ((wrap64 (x7_1 + 1)) : Int).toNat).size ≤ 9223372036854775807 then (ladderbackref47_Split.l0 kj4 a0 (y119.set ((ji26) : Int).toNat (⟨(rd_T58 y119 (ji26)).f0, (rd_T58 y119 (ji26)).f1, ((rd_T58 y119 (ji26)).f2) ++ (a0.extract (x7_1 : Int).toNat ((wrap64 (x7_1 + 1)) : Int).toNat)⟩ : S58)) x5_1 true (wrap64 (x7_1 + 1))) else (none)) else (none)) else (none)) else (none)) else (none)) else (none)) = some (r1, r2) := by first | (rw [hji26] at H; exact H) | (simp only [hji26] at H ⊢; exact H)
                    (try rw [hji26] at A11)
                    have hji26w : (IntKind.i64.wrap ((y119.length : Int) - 1)) = ji26 := (i64_w _).trans hji26
                    by_cases c27 : 0 ≤ (ji26)
                    · rw [if_pos c27] at H
                      have c27b0 : decide (0 ≤ (ji26)) = true := decide_eq_true c27
                      clear c27
                      by_cases c28 : (ji26) < (y119.length : Int)
                      · rw [if_pos c28] at H
                        have c28b0 : decide ((ji26) < (y119.length : Int)) = true := decide_eq_true c28
                        clear c28
                        by_cases c29 : 0 ≤ x7_1
                        · rw [if_pos c29] at H
                          have c29b0 := eq_true c29
                          have c29b1 : decide (0 ≤ x7_1) = true := decide_eq_true c29
                          clear c29
                          by_cases c30 : x7_1 ≤ (wrap64 (x7_1 + 1))
                          · rw [if_pos c30] at H
                            have c30b0 := eq_true c30
                            have c30b1 : decide (x7_1 ≤ (wrap64 (x7_1 + 1))) = true := decide_eq_true c30
                            by_cases c31 : (wrap64 (x7_1 + 1)) ≤ (a0.size : Int)
                            · rw [if_pos c31] at H
                              have c31b0 := eq_true c31
                              have c31b1 : decide ((wrap64 (x7_1 + 1)) ≤ (a0.size : Int)) = true := decide_eq_true c31
                              by_cases c32 : ((rd_T58 y119 (ji26)).f2).size + (a0.extract (x7_1 : Int).toNat ((wrap64 (x7_1 + 1)) : Int).toNat).size ≤ 9223372036854775807
                              · rw [if_pos c32] at H
                                have c32b0 := eq_true c32
                                have c32b1 : decide (((rd_T58 y119 (ji26)).f2).size + (a0.extract (x7_1 : Int).toNat ((wrap64 (x7_1 + 1)) : Int).toNat).size ≤ 9223372036854775807) = true := decide_eq_true c32
                                try have c32b2 : (9223372036854775807 < ((rd_T58 y119 (ji26)).f2).size + (a0.extract (x7_1 : Int).toNat ((wrap64 (x7_1 + 1)) : Int).toNat).size) = False := eq_false (Nat.not_lt.2 c32)
                                have c32b3 : (9223372036854775807 < ((rd_T58 y119 (ji26)).f2).size + ((wrap64 (x7_1 + 1)).toNat - x7_1.toNat)) = False := eq_false (by have h_ := Nat.not_lt.2 c32; rw [ByteArray.size_extract] at h_; have h2_ : min (wrap64 (x7_1 + 1)).toNat a0.size = (wrap64 (x7_1 + 1)).toNat := Nat.min_eq_left (by omega); rw [h2_] at h_; exact h_)
                                obtain ⟨y123, hy123⟩ : ∃ y_ : List (S58), y_ = (y119.set ((ji26) : Int).toNat (⟨(rd_T58 y119 (ji26)).f0, (rd_T58 y119 (ji26)).f1, ((rd_T58 y119 (ji26)).f2) ++ (a0.extract (x7_1 : Int).toNat ((wrap64 (x7_1 + 1)) : Int).toNat)⟩ : S58)) := ⟨_, rfl⟩
                                replace H : (ladderbackref47_Split.l0 kj4 a0 y123 x5_1 true (wrap64 (x7_1 + 1))) = some (r1, r2) := by first | (rw [hy123]; with_reducible exact H) | (have H2_ := (Option.bind_some _ _).symm.trans H; rw [hy123]; with_reducible exact H2_) | (have H2_ := (Option.bind_some _ _).symm.trans H; with_reducible exact H2_) | with_reducible exact H | (rw [hy123]; exact H) | exact H
                                have Ny123 := Aside0.mk hy123
                                clear hy123
                                as_aux_lemma =>
                                  have H' := Aside0.mk H
                                  clear H
                                  try go_wp2_with (first | ((with_reducible refine gate_callee (f := 55) rfl ?_); refine goesL_ (some 27) rfl rfl Try.func55 (by kernel_rfl) rfl #[.int .u8 (bt a0 x7_1), .int .u8 x9_4] rfl (by (try simp only [List.map_toArray, List.map_cons, List.map_nil]); first | done | rfl | (simp only [List.length_drop, List.length_take]; rfl)) ?_; (with_reducible refine (ladderbackref47_part.calls kj4 (bt a0 x7_1) x9_4 true _ A11.out).mono ?_); rintro e w' ⟨rfl, ⟨nd, rfl⟩⟩; refine ⟨_, rfl, ?_⟩; (try (rw [drewN_self wc]; generalize hq_ : World.drewN wc _ = wc; have n0_ : Aside0 (Kd.R k58 58 wc w.heap.size (fun _ => True) u4 x4_1) := ⟨by rw [← hq_]; exact (by (with_reducible repeat (first | apply Kd.R_alloc | apply Kd.R_drewN | apply Kd.R_drew)); exact HO_4.out)⟩; have n1_ : Aside0 (Below w.heap.size w wc) := ⟨by rw [← hq_]; exact (by repeat (first | (with_reducible first | exact HB.out | apply below_alloc | apply pw_below_drewN | apply below_drew1) | exact HB.out))⟩; clear HO_4 HB hq_; have HO_4 := n0_; have HB := n1_; clear n0_ n1_))) | ((with_reducible refine gate_builtin (b := .append) (xs := #[.tmp 30, .tmp 33]) rfl ?_); at_builtin; refine Kd.R_append k58 (w0 := w) w.heap.size rfl (.tmp 30) (.tmp 33) 52 58 (.agg #[(.int .i64 0), (.int .i64 0), (.string ⟨#[]⟩)]) 32 rfl Try.underlying52 info58 rfl (by decide) (by omega) u4 x4_1 (⟨1, x5_1, (⟨#[]⟩ : ByteArray)⟩ : S58) [.int .i64 1, .int .i64 x5_1, .string (⟨#[]⟩ : ByteArray)] (fun _ => True) (fun _ => False) rfl rfl ?aP (fun _ hk => hk.elim) ?aF ?aO ?aB ?aS ?aL ?_; (case aP => exact k58_mkM _ _ _ (⟨1, x5_1, (⟨#[]⟩ : ByteArray)⟩ : S58)); (case aB => exact (by repeat (first | (with_reducible first | exact HB.out | apply below_alloc | apply pw_below_drewN | apply below_drew1) | exact HB.out))); (case aF => exact (fun _ _ => trivial)); (case aO => exact (by (with_reducible repeat (first | apply Kd.R_alloc | apply Kd.R_drewN | apply Kd.R_drew)); exact HO_4.out)); (case aS => exact (below_size (by repeat (first | (with_reducible first | exact HB.out | apply below_alloc | apply pw_below_drewN | apply below_drew1) | exact HB.out)))); (case aL => have := LMc25.out; omega); intro v120 w34 ho hb hg hat; rw [← Ny119.out] at ho; have n0_ := Aside0.mk (hb); have n1_ := Aside0.mk (ho); clear HB; clear HO_4; have HB := n0_; have HO121 := n1_; clear n0_ n1_; clear ho hb hg hat))
                                  have n0_ := Aside0.mk (Kd.R_drew HO121.out)
                                  have n1_ := Aside0.mk (below_drew1 HB.out)
                                  clear HO121
                                  clear HB
                                  have HO121 := n0_
                                  have HB := n1_
                                  clear n0_ n1_
                                  obtain ⟨Ao36, co36, eo36⟩ := Kd.R_slice HO121.out
                                  (first | subst eo36 | (injection eo36 with f1_ f2_ f3_; have f4_ := f1_.symm; have f5_ := f3_.symm; clear f1_ f2_ f3_; subst f4_; subst f5_))
                                  have p122 : 0 ≤ ((ji26) : Int) := of_decide_eq_true (by first | (with_reducible assumption) | assumption)
                                  have q122 : (ji26) < (y119.length : Int) := of_decide_eq_true (by first | (with_reducible assumption) | assumption)
                                  obtain ⟨ad122, e122, hx122_0, hx122_1, hx122_2⟩ := at_T58 (Kd.R_reads' HO121.out).2.2 (ji26) p122 q122
                                  cases e122
                                  replace p122 := eq_true p122
                                  replace q122 := eq_true q122
                                  have p33 : 0 ≤ ((ji26) : Int) := of_decide_eq_true (by first | (with_reducible assumption) | assumption)
                                  have q33 : ((ji26) : Int) < ((y119.length : Int) : Int) := of_decide_eq_true (by first | (with_reducible assumption) | assumption)
                                  obtain ⟨go33, co33, eo33, gb33, gl33, cl33, HG33⟩ := Kd.R_form HO121.out (by omega)
                                  (first | cases eo33 | (injection eo33 with ea_ en_ ec_; (first | subst ea_ | (injection ea_ with ea_; subst ea_)); subst ec_; clear en_))
                                  have GB33 := Aside0.mk gb33
                                  have GG33 := Aside0.mk HG33
                                  clear gb33 gl33 HG33
                                  (first | simp only [add_plain] at hx122_0 | skip)
                                  (first | simp only [add_plain] at hx122_1 | skip)
                                  (first | simp only [add_plain] at hx122_2 | skip)
                                  obtain ⟨ce33, hcl33, hM33, hcc33, hfr33⟩ := Kd.R_elem HO121.out z58 ((ji26) : Int) p33 q33
                                  obtain rfl := k58_openM hM33
                                  have hx33_0 : World.cell? _ ⟨go33, ((ji26) : Int).toNat * 3, none⟩ = some (.int .i64 ((rd_T58 y119 (ji26)).f0)) := hcc33 0 _ rfl
                                  have hx33_1 : World.cell? _ ⟨go33, ((ji26) : Int).toNat * 3 + 1, none⟩ = some (.int .i64 ((rd_T58 y119 (ji26)).f1)) := hcc33 1 _ rfl
                                  have hx33_2 : World.cell? _ ⟨go33, ((ji26) : Int).toNat * 3 + 2, none⟩ = some (.string ((rd_T58 y119 (ji26)).f2)) := hcc33 2 _ rfl
                                  have hf33_0 : World.frozen? _ ⟨go33, ((ji26) : Int).toNat * 3, none⟩ = false := hfr33 0
                                  have hf33_1 : World.frozen? _ ⟨go33, ((ji26) : Int).toNat * 3 + 1, none⟩ = false := hfr33 1
                                  have hf33_2 : World.frozen? _ ⟨go33, ((ji26) : Int).toNat * 3 + 2, none⟩ = false := hfr33 2
                                  clear hcl33 hcc33 hfr33 hM33
                                  replace p33 := eq_true p33
                                  replace q33 := eq_true q33
                                  obtain ⟨ce37, hcl37, hM37, hcc37, hfr37⟩ := Kd.R_elem HO121.out z58 ((ji26) : Int) (of_decide_eq_true (by first | (with_reducible assumption) | assumption)) (by have h_ : ((ji26) : Int) < ((y119.length : Int) : Int) := of_decide_eq_true (by first | (with_reducible assumption) | assumption); first | exact h_ | (have e_ := (Kd.R_reads' HO121.out).1; omega) | simpa using h_)
                                  obtain rfl := k58_openM hM37
                                  have HP37 := (Kd.R_seg HO121.out ((ji26) : Int) (of_decide_eq_true (by first | (with_reducible assumption) | assumption)) (by have h_ : ((ji26) : Int) < ((y119.length : Int) : Int) := of_decide_eq_true (by first | (with_reducible assumption) | assumption); first | exact h_ | (have e_ := (Kd.R_reads' HO121.out).1; omega) | simpa using h_) (seg := [.string (((rd_T58 y119 (ji26)).f2) ++ (a0.extract (x7_1 : Int).toNat ((wrap64 (x7_1 + 1)) : Int).toNat))]) (j := 2) hcl37 hcc37 (show 3 ≤ 3 from by decide) (x' := (⟨(rd_T58 y119 (ji26)).f0, (rd_T58 y119 (ji26)).f1, ((rd_T58 y119 (ji26)).f2) ++ (a0.extract (x7_1 : Int).toNat ((wrap64 (x7_1 + 1)) : Int).toNat)⟩ : S58)) (k58_mkM _ _ _ (⟨(rd_T58 y119 (ji26)).f0, (rd_T58 y119 (ji26)).f1, ((rd_T58 y119 (ji26)).f2) ++ (a0.extract (x7_1 : Int).toNat ((wrap64 (x7_1 + 1)) : Int).toNat)⟩ : S58) ) (fun _ hk => hk)).1
                                  rw [← Ny123.out] at HP37
                                  have HQ37 := Aside0.mk HP37
                                  clear hcl37 hcc37 hfr37 hM37 HP37
                                  refine start_ (n := 20) (S := fun w' => w'.cell? (⟨go33, (((ji26)).toNat * 3), none⟩ : Addr) = some (.int .i64 ((rd_T58 y119 (ji26)).f0)) ∧ w'.cell? ⟨(⟨go33, (((ji26)).toNat * 3), none⟩ : Addr).block, (⟨go33, (((ji26)).toNat * 3), none⟩ : Addr).off + 1, none⟩ = some (.int .i64 ((rd_T58 y119 (ji26)).f1)) ∧ w'.cell? ⟨(⟨go33, (((ji26)).toNat * 3), none⟩ : Addr).block, (⟨go33, (((ji26)).toNat * 3), none⟩ : Addr).off + 2, none⟩ = some (.string ((rd_T58 y119 (ji26)).f2))) (ds := [19]) #[false, false, false, false, false, false, false, false, false, false, false, false, false, false, false, false, false, false, false, false] (by kernel_rfl) rfl rfl ⟨hx122_0, hx122_1, hx122_2⟩ (fun hHeld => ?_); refine with_tabW ladderbackref47_Split.tab15 ladderbackref47_Split.bits15 (fun HT_ HW_ => ?_)
                                  generalize w34.drew = w35 at HO121 HB GG33 HQ37 hf33_0 hf33_1 hf33_2 hx122_0 hx122_1 hx122_2 hx33_0 hx33_1 hx33_2 hHeld ⊢
                                  refine pure_ (i := 0) (N := some 35) (v := ?_) (a' := ?_) #[true, false, false, false, false, false, false, false, false, false, false, false, false, false, false, false, false, false, false, false] rfl rfl (any_of HT_.out (by kernel_rfl)) (fun _ _ _ h => h) (Or.inl ⟨by rfl, ?_⟩) ?_ ?_
                                  rotate_left
                                  · intro w'
                                    go_simp
                                    with_reducible rfl
                                  rotate_left
                                  · simp only [Act.put, List.setIfInBounds_toArray, List.set_cons_zero, List.set_cons_succ, i64_w, i32_w]
                                    rfl
                                  refine pure_ (i := 1) (N := some 36) (v := ?_) (a' := ?_) #[true, true, false, false, false, false, false, false, false, false, false, false, false, false, false, false, false, false, false, false] rfl rfl (any_of HT_.out (by kernel_rfl)) (fun _ _ _ h => h) (Or.inl ⟨by rfl, ?_⟩) ?_ ?_
                                  rotate_left
                                  · intro w'
                                    go_simp
                                    with_reducible rfl
                                  rotate_left
                                  · simp only [Act.put, List.setIfInBounds_toArray, List.set_cons_zero, List.set_cons_succ, i64_w, i32_w]
                                    rfl
                                  refine pure_ (i := 2) (N := some 37) (v := ?_) (a' := ?_) #[true, true, true, false, false, false, false, false, false, false, false, false, false, false, false, false, false, false, false, false] rfl rfl (any_of HT_.out (by kernel_rfl)) (fun _ _ _ h => h) (Or.inl ⟨by rfl, ?_⟩) ?_ ?_
                                  rotate_left
                                  · intro w'
                                    go_simp
                                    with_reducible rfl
                                  rotate_left
                                  · simp only [Act.put, List.setIfInBounds_toArray, List.set_cons_zero, List.set_cons_succ, i64_w, i32_w]
                                    rfl
                                  refine pure_ (i := 3) (N := some 38) (v := ?_) (a' := ?_) #[true, true, true, true, false, false, false, false, false, false, false, false, false, false, false, false, false, false, false, false] rfl rfl (any_of HT_.out (by kernel_rfl)) (fun _ _ _ h => h) (Or.inl ⟨by rfl, ?_⟩) ?_ ?_
                                  rotate_left
                                  · intro w'
                                    go_simp
                                    with_reducible rfl
                                  rotate_left
                                  · simp only [Act.put, List.setIfInBounds_toArray, List.set_cons_zero, List.set_cons_succ, i64_w, i32_w]
                                    rfl
                                  refine pure_ (i := 4) (N := some 39) (v := ?_) (a' := ?_) #[true, true, true, true, true, false, false, false, false, false, false, false, false, false, false, false, false, false, false, false] rfl rfl (any_of HT_.out (by kernel_rfl)) (fun _ _ _ h => h) (Or.inl ⟨by rfl, ?_⟩) ?_ ?_
                                  rotate_left
                                  · intro w'
                                    go_simp
                                    with_reducible rfl
                                  rotate_left
                                  · simp only [Act.put, List.setIfInBounds_toArray, List.set_cons_zero, List.set_cons_succ, i64_w, i32_w]
                                    rfl
                                  refine pure_ (i := 5) (N := some 40) (v := ?_) (a' := ?_) #[true, true, true, true, true, true, false, false, false, false, false, false, false, false, false, false, false, false, false, false] rfl rfl (any_of HT_.out (by kernel_rfl)) (fun _ _ _ h => h) (Or.inl ⟨by rfl, ?_⟩) ?_ ?_
                                  rotate_left
                                  · intro w'
                                    go_simp
                                    with_reducible rfl
                                  rotate_left
                                  · simp only [Act.put, List.setIfInBounds_toArray, List.set_cons_zero, List.set_cons_succ, i64_w, i32_w]
                                    rfl
                                  refine pure_ (i := 6) (N := some 41) (v := ?_) (a' := ?_) #[true, true, true, true, true, true, true, false, false, false, false, false, false, false, false, false, false, false, false, false] rfl rfl (any_of HT_.out (by kernel_rfl)) (fun _ _ _ h => h) (Or.inl ⟨by rfl, ?_⟩) ?_ ?_
                                  rotate_left
                                  · intro w'
                                    go_simp
                                    with_reducible rfl
                                  rotate_left
                                  · simp only [Act.put, List.setIfInBounds_toArray, List.set_cons_zero, List.set_cons_succ, i64_w, i32_w]
                                    rfl
                                  refine pure_ (i := 7) (N := some 42) (v := ?_) (a' := ?_) #[true, true, true, true, true, true, true, true, false, false, false, false, false, false, false, false, false, false, false, false] rfl rfl (any_of HT_.out (by kernel_rfl)) (fun _ _ _ h => h) (Or.inl ⟨by rfl, ?_⟩) ?_ ?_
                                  rotate_left
                                  · intro w'
                                    go_simp
                                    with_reducible rfl
                                  rotate_left
                                  · simp only [Act.put, List.setIfInBounds_toArray, List.set_cons_zero, List.set_cons_succ, i64_w, i32_w]
                                    rfl
                                  refine pure_ (i := 8) (N := some 43) (v := ?_) (a' := ?_) #[true, true, true, true, true, true, true, true, true, false, false, false, false, false, false, false, false, false, false, false] rfl rfl (any_of HT_.out (by kernel_rfl)) (fun _ _ _ h => h) (Or.inl ⟨by rfl, ?_⟩) ?_ ?_
                                  rotate_left
                                  · intro w'
                                    go_simp
                                    with_reducible rfl
                                  rotate_left
                                  · simp only [Act.put, List.setIfInBounds_toArray, List.set_cons_zero, List.set_cons_succ, i64_w, i32_w]
                                    rfl
                                  refine pure_ (i := 9) (N := some 44) (v := ?_) (a' := ?_) #[true, true, true, true, true, true, true, true, true, true, false, false, false, false, false, false, false, false, false, false] rfl rfl (any_of HT_.out (by kernel_rfl)) (fun _ _ _ h => h) (Or.inl ⟨by rfl, ?_⟩) ?_ ?_
                                  rotate_left
                                  · intro w'
                                    go_simp
                                    with_reducible rfl
                                  rotate_left
                                  · simp only [Act.put, List.setIfInBounds_toArray, List.set_cons_zero, List.set_cons_succ, i64_w, i32_w]
                                    rfl
                                  refine pure_ (i := 11) (N := some 46) (v := ?_) (a' := ?_) #[true, true, true, true, true, true, true, true, true, true, false, true, false, false, false, false, false, false, false, false] rfl rfl (any_of HT_.out (by kernel_rfl)) (fun _ _ _ h => h) (Or.inl ⟨by rfl, ?_⟩) ?_ ?_
                                  rotate_left
                                  · intro w'
                                    go_simp
                                    with_reducible rfl
                                  rotate_left
                                  · simp only [Act.put, List.setIfInBounds_toArray, List.set_cons_zero, List.set_cons_succ, i64_w, i32_w]
                                    rfl
                                  refine pure_ (i := 12) (N := some 47) (v := ?_) (a' := ?_) #[true, true, true, true, true, true, true, true, true, true, false, true, true, false, false, false, false, false, false, false] rfl rfl (any_of HT_.out (by kernel_rfl)) (fun _ _ _ h => h) (Or.inl ⟨by rfl, ?_⟩) ?_ ?_
                                  rotate_left
                                  · intro w'
                                    go_simp
                                    with_reducible rfl
                                  rotate_left
                                  · simp only [Act.put, List.setIfInBounds_toArray, List.set_cons_zero, List.set_cons_succ, i64_w, i32_w]
                                    rfl
                                  refine pure_ (i := 13) (N := some 48) (v := ?_) (a' := ?_) #[true, true, true, true, true, true, true, true, true, true, false, true, true, true, false, false, false, false, false, false] rfl rfl (any_of HT_.out (by kernel_rfl)) (fun _ _ _ h => h) (Or.inl ⟨by rfl, ?_⟩) ?_ ?_
                                  rotate_left
                                  · intro w'
                                    go_simp
                                    with_reducible rfl
                                  rotate_left
                                  · simp only [Act.put, List.setIfInBounds_toArray, List.set_cons_zero, List.set_cons_succ, i64_w, i32_w]
                                    rfl
                                  refine pure_ (i := 14) (N := some 49) (v := ?_) (a' := ?_) #[true, true, true, true, true, true, true, true, true, true, false, true, true, true, true, false, false, false, false, false] rfl rfl (any_of HT_.out (by kernel_rfl)) (fun _ _ _ h => h) (Or.inl ⟨by rfl, ?_⟩) ?_ ?_
                                  rotate_left
                                  · intro w'
                                    go_simp
                                    with_reducible rfl
                                  rotate_left
                                  · simp only [Act.put, List.setIfInBounds_toArray, List.set_cons_zero, List.set_cons_succ, i64_w, i32_w]
                                    rfl
                                  refine pure_ (i := 15) (N := some 50) (v := ?_) (a' := ?_) #[true, true, true, true, true, true, true, true, true, true, false, true, true, true, true, true, false, false, false, false] rfl rfl (any_of HT_.out (by kernel_rfl)) (fun _ _ _ h => h) (Or.inl ⟨by rfl, ?_⟩) ?_ ?_
                                  rotate_left
                                  · intro w'
                                    go_simp
                                    with_reducible rfl
                                  rotate_left
                                  · simp only [Act.put, List.setIfInBounds_toArray, List.set_cons_zero, List.set_cons_succ, i64_w, i32_w]
                                    rfl
                                  refine take_ (i := 10) (N := some 45) (v := ?_) (a' := ?_) #[true, true, true, true, true, true, true, true, true, true, true, true, true, true, true, true, false, false, false, false] rfl rfl (take_ofW HT_.out HW_.out (by kernel_rfl)) (fun _ _ _ h => h) (Or.inl ⟨by rfl, ?_⟩) hHeld ?_ ?_
                                  rotate_left
                                  · rintro w' ⟨s0, s1, s2⟩
                                    go_simp
                                    with_reducible rfl
                                  rotate_left
                                  · simp only [Act.put, List.setIfInBounds_toArray, List.set_cons_zero, List.set_cons_succ, i64_w, i32_w]
                                    rfl
                                  refine pure_ (i := 16) (N := some 51) (v := ?_) (a' := ?_) #[true, true, true, true, true, true, true, true, true, true, true, true, true, true, true, true, true, false, false, false] rfl rfl (any_of HT_.out (by kernel_rfl)) (fun _ _ _ h => h) (Or.inl ⟨by rfl, ?_⟩) ?_ ?_
                                  rotate_left
                                  · intro w'
                                    go_simp
                                    with_reducible rfl
                                  rotate_left
                                  · simp only [Act.put, List.setIfInBounds_toArray, List.set_cons_zero, List.set_cons_succ, i64_w, i32_w]
                                    rfl
                                  refine pure_ (i := 17) (N := some 52) (v := ?_) (a' := ?_) #[true, true, true, true, true, true, true, true, true, true, true, true, true, true, true, true, true, true, false, false] rfl rfl (any_of HT_.out (by kernel_rfl)) (fun _ _ _ h => h) (Or.inl ⟨by rfl, ?_⟩) ?_ ?_
                                  rotate_left
                                  · intro w'
                                    go_simp
                                    with_reducible rfl
                                  rotate_left
                                  · simp only [Act.put, List.setIfInBounds_toArray, List.set_cons_zero, List.set_cons_succ, i64_w, i32_w]
                                    rfl
                                  refine pure_ (i := 18) (N := some 53) (v := ?_) (a' := ?_) #[true, true, true, true, true, true, true, true, true, true, true, true, true, true, true, true, true, true, true, false] rfl rfl (any_of HT_.out (by kernel_rfl)) (fun _ _ _ h => h) (Or.inl ⟨by rfl, ?_⟩) ?_ ?_
                                  rotate_left
                                  · intro w'
                                    go_simp
                                    with_reducible rfl
                                  rotate_left
                                  · simp only [Act.put, List.setIfInBounds_toArray, List.set_cons_zero, List.set_cons_succ, i64_w, i32_w]
                                    rfl
                                  refine last_ (i := 19) (N := none) #[true, true, true, true, true, true, true, true, true, true, true, true, true, true, true, true, true, true, true, true] rfl rfl (one_of HT_.out (by kernel_rfl)) (by decide) (fun K hK => ?_)
                                  refine skip_ (w1 := ?_) (by rfl) rfl ?_ ?_
                                  rotate_left
                                  · go_simp
                                    rfl
                                  refine hK.out _ _ ?_
                                  clear hK K
                                  refine done_ (done_of HT_.out (by kernel_rfl)) ?_
                                  try go_wp2
                                  go_roundg kj4
                                  case measure => have := HK1.out; have := HJ4.out; omega
                                  case rel => exact ⟨(y123), (x5_1), (true), (wrap64 (x7_1 + 1)), (by first | rfl | (simp; done) | (simp [*]; done)), (by first | rfl | (simp; done) | (simp [*]; done)), (by first | rfl | (simp; done) | (simp [*]; done)), H', ⟨by have := HK1.out; have := HJ4.out; omega⟩, ⟨by (with_reducible repeat (first | apply Kd.R_alloc | apply Kd.R_drewN | apply Kd.R_drew)); exact HQ37.out⟩, ⟨by repeat (first | (with_reducible first | exact HB.out | apply below_alloc | apply pw_below_drewN | apply below_drew1 | refine below_set ?_ GB33.out) | exact HB.out)⟩⟩
                              · rw [if_neg c32] at H
                                exact absurd H (by simp)
                            · rw [if_neg c31] at H
                              exact absurd H (by simp)
                          · rw [if_neg c30] at H
                            exact absurd H (by simp)
                        · rw [if_neg c29] at H
                          exact absurd H (by simp)
                      · rw [if_neg c28] at H
                        exact absurd H (by simp)
                    · rw [if_neg c27] at H
                      exact absurd H (by simp)
                  · rw [if_neg c25] at H
                    exact absurd H (by simp)
              · replace c12 := Bool.eq_false_iff.mpr c12
                subst c12
                have H1 : (if (bt a0 x7_1) = 10 then (ladderbackref47_Split.j2 kj4 a0 x4_1 (wrap64 (x5_1 + 1)) false x7_1 (bt a0 x7_1)) else (ladderbackref47_Split.j2 kj4 a0 x4_1 x5_1 false x7_1 (bt a0 x7_1))) = some (r1, r2) := by rw [if_neg (show ¬ (false = true) by decide)] at H; exact H
                clear H
                have H := H1
                clear H1
                have HC38 := Aside0.mk H
                clear H
                go_upto_if 55 with (first | ((with_reducible refine gate_callee (f := 55) rfl ?_); refine goesL_ (some 27) rfl rfl Try.func55 (by kernel_rfl) rfl #[.int .u8 (bt a0 x7_1), .int .u8 x9_4] rfl (by (try simp only [List.map_toArray, List.map_cons, List.map_nil]); first | done | rfl | (simp only [List.length_drop, List.length_take]; rfl)) ?_; (with_reducible refine (ladderbackref47_part.calls kj4 (bt a0 x7_1) x9_4 false _ A11.out).mono ?_); rintro e w' ⟨rfl, ⟨nd, rfl⟩⟩; refine ⟨_, rfl, ?_⟩))
                (try simp only [Act.put, List.setIfInBounds_toArray, List.set_cons_zero, List.set_cons_succ])
                go_cut [5] (fun v5 wc => ∃ (kq : Nat) (x5_37 : Int), v5 = .int .i64 x5_37 ∧ Aside0 (ladderbackref47_Split.j2 kq a0 x4_1 x5_37 false x7_1 (bt a0 x7_1) = some (r1, r2)) ∧ Aside0 (kq ≤ kj4) ∧ Aside0 (Kd.R k58 58 wc w.heap.size (fun _ => True) u4 x4_1) ∧ Aside0 (Below w.heap.size w wc))
                case first =>
                  have H := HC38.out
                  clear HC38
                  by_cases c39 : (bt a0 x7_1) = 10
                  · rw [if_pos c39] at H
                    have c39b0 : ((bt a0 x7_1) == 10) = true := beq_iff_eq.mpr c39
                    have c39b1 : ((bt a0 x7_1) != 10) = false := bne_eq_false_iff_eq.mpr c39
                    clear c39
                    (first | rw [c39b0] | (simp only [i64_w, i32_w]; rw [c39b0]) | skip)
                    as_aux_lemma =>
                      have H' := Aside0.mk H
                      clear H
                      go_wp2
                      go_meet
                      case rel => exact ⟨_, (wrap64 (x5_1 + 1)), (by first | rfl | (simp; done) | (simp [*]; done)), H', ⟨by have := HK1.out; have := HJ4.out; first | omega | exact Nat.le_refl _⟩, ⟨by (with_reducible repeat (first | apply Kd.R_alloc | apply Kd.R_drewN | apply Kd.R_drew)); exact HO_4.out⟩, ⟨by repeat (first | (with_reducible first | exact HB.out | apply below_alloc | apply pw_below_drewN | apply below_drew1) | exact HB.out)⟩⟩
                  · rw [if_neg c39] at H
                    have c39b0 : ((bt a0 x7_1) == 10) = false := beq_eq_false_iff_ne.mpr c39
                    have c39b1 : ((bt a0 x7_1) != 10) = true := bne_iff_ne.mpr c39
                    (first | rw [c39b0] | (simp only [i64_w, i32_w]; rw [c39b0]) | skip)
                    as_aux_lemma =>
                      have H' := Aside0.mk H
                      clear H
                      go_wp2
                      go_meet
                      case rel => exact ⟨_, (x5_1), (by first | rfl | (simp; done) | (simp [*]; done)), H', ⟨by have := HK1.out; have := HJ4.out; first | omega | exact Nat.le_refl _⟩, ⟨by (with_reducible repeat (first | apply Kd.R_alloc | apply Kd.R_drewN | apply Kd.R_drew)); exact HO_4.out⟩, ⟨by repeat (first | (with_reducible first | exact HB.out | apply below_alloc | apply pw_below_drewN | apply below_drew1) | exact HB.out)⟩⟩
                case rest =>
                  clear HC38
                  try clear c1
                  try clear p1
                  try clear q1
                  try clear hx1
                  try clear c2
                  try clear p2
                  try clear q2
                  try clear hx2
                  try clear hf2
                  try clear c3
                  try clear p3
                  try clear q3
                  try clear hx3
                  try clear hf3
                  try clear p4
                  try clear q4
                  try clear c5
                  try clear p6
                  try clear p10
                  try clear q10
                  try clear hx10
                  try clear p11
                  try clear q11
                  try clear hx11
                  try clear c12
                  try clear p12
                  try clear q12
                  try clear hx12
                  try clear c13
                  try clear c15
                  try clear c15b0
                  try clear c16
                  try clear c16b0
                  try clear c17
                  try clear c17b0
                  try clear c17b1
                  try clear c18
                  try clear c18b0
                  try clear c18b1
                  try clear c19
                  try clear c19b0
                  try clear c19b1
                  try clear c20
                  try clear c20b0
                  try clear c20b1
                  try clear c20b2
                  try clear c21
                  try clear p21
                  try clear q21
                  try clear hx21
                  try clear hf21
                  try clear c24
                  try clear c25
                  try clear c27
                  try clear c27b0
                  try clear c28
                  try clear c28b0
                  try clear c29
                  try clear c29b0
                  try clear c29b1
                  try clear c30
                  try clear c30b0
                  try clear c30b1
                  try clear c31
                  try clear c31b0
                  try clear c31b1
                  try clear c32
                  try clear c32b0
                  try clear c32b1
                  try clear c32b2
                  try clear c33
                  try clear p33
                  try clear q33
                  try clear hx33
                  try clear hf33
                  try clear c37
                  try clear c39
                  try clear c39b0
                  try clear c39b1
                  try clear hx117_0
                  try clear hx117_1
                  try clear hx117_2
                  try clear hx122_0
                  try clear hx122_1
                  try clear hx122_2
                  try clear hx21_0
                  try clear hx21_1
                  try clear hx21_2
                  try clear hx33_0
                  try clear hx33_1
                  try clear hx33_2
                  try clear p10
                  try clear p117
                  try clear p122
                  try clear p21
                  try clear p33
                  try clear p4
                  try clear q10
                  try clear q117
                  try clear q122
                  try clear q21
                  try clear q33
                  try clear q4
                  obtain ⟨kq, x5_37, rfl, HA, HJ37, HO_4, HB⟩ := hcut
                  cases kq with
                  | zero => exact absurd HA.out (by simp [ladderbackref47_Split.j2])
                  | succ kj37 =>
                    have H := HA.out
                    clear HA
                    simp only [ladderbackref47_Split.j2] at H
                    have HC40 := Aside0.mk H
                    clear H
                    go_upto_region 19 with (fail)
                    go_cut [71] (fun v71 wc => ∃ (kq : Nat) (x71_39 : Bool), v71 = .bool x71_39 ∧ Aside0 (ladderbackref47_Split.j3 kq a0 x4_1 x5_37 false x7_1 (bt a0 x7_1) x71_39 = some (r1, r2)) ∧ Aside0 (kq ≤ kj37) ∧ Aside0 (Kd.R k58 58 wc w.heap.size (fun _ => True) u4 x4_1) ∧ Aside0 (Below w.heap.size w wc))
                    case first =>
                      have H := HC40.out
                      clear HC40
                      by_cases c41 : (bt a0 x7_1) = 32
                      · rw [if_pos c41] at H
                        have c41b0 : ((bt a0 x7_1) == 32) = true := beq_iff_eq.mpr c41
                        have c41b1 : ((bt a0 x7_1) != 32) = false := bne_eq_false_iff_eq.mpr c41
                        clear c41
                        (first | rw [c41b0] | (simp only [i64_w, i32_w]; rw [c41b0]) | skip)
                        as_aux_lemma =>
                          have H' := Aside0.mk H
                          clear H
                          go_wp2
                          go_meet
                          case rel => exact ⟨_, (true), (by first | rfl | (simp; done) | (simp [*]; done)), H', ⟨by have := HK1.out; have := HJ4.out; have := HJ37.out; first | omega | exact Nat.le_refl _⟩, ⟨by (with_reducible repeat (first | apply Kd.R_alloc | apply Kd.R_drewN | apply Kd.R_drew)); exact HO_4.out⟩, ⟨by repeat (first | (with_reducible first | exact HB.out | apply below_alloc | apply pw_below_drewN | apply below_drew1) | exact HB.out)⟩⟩
                      · rw [if_neg c41] at H
                        have c41b0 : ((bt a0 x7_1) == 32) = false := beq_eq_false_iff_ne.mpr c41
                        have c41b1 : ((bt a0 x7_1) != 32) = true := bne_iff_ne.mpr c41
                        (first | rw [c41b0] | (simp only [i64_w, i32_w]; rw [c41b0]) | skip)
                        by_cases c42 : (bt a0 x7_1) = 9
                        · rw [if_pos c42] at H
                          have c42b0 : ((bt a0 x7_1) == 9) = true := beq_iff_eq.mpr c42
                          have c42b1 : ((bt a0 x7_1) != 9) = false := bne_eq_false_iff_eq.mpr c42
                          clear c42
                          as_aux_lemma =>
                            have H' := Aside0.mk H
                            clear H
                            go_wp2
                            go_meet
                            case rel => exact ⟨_, (true), (by first | rfl | (simp; done) | (simp [*]; done)), H', ⟨by have := HK1.out; have := HJ4.out; have := HJ37.out; first | omega | exact Nat.le_refl _⟩, ⟨by (with_reducible repeat (first | apply Kd.R_alloc | apply Kd.R_drewN | apply Kd.R_drew)); exact HO_4.out⟩, ⟨by repeat (first | (with_reducible first | exact HB.out | apply below_alloc | apply pw_below_drewN | apply below_drew1) | exact HB.out)⟩⟩
                        · rw [if_neg c42] at H
                          have c42b0 : ((bt a0 x7_1) == 9) = false := beq_eq_false_iff_ne.mpr c42
                          have c42b1 : ((bt a0 x7_1) != 9) = true := bne_iff_ne.mpr c42
                          by_cases c43 : (bt a0 x7_1) = 13
                          · rw [if_pos c43] at H
                            have c43b0 : ((bt a0 x7_1) == 13) = true := beq_iff_eq.mpr c43
                            have c43b1 : ((bt a0 x7_1) != 13) = false := bne_eq_false_iff_eq.mpr c43
                            clear c43
                            as_aux_lemma =>
                              have H' := Aside0.mk H
                              clear H
                              go_wp2
                              go_meet
                              case rel => exact ⟨_, (true), (by first | rfl | (simp; done) | (simp [*]; done)), H', ⟨by have := HK1.out; have := HJ4.out; have := HJ37.out; first | omega | exact Nat.le_refl _⟩, ⟨by (with_reducible repeat (first | apply Kd.R_alloc | apply Kd.R_drewN | apply Kd.R_drew)); exact HO_4.out⟩, ⟨by repeat (first | (with_reducible first | exact HB.out | apply below_alloc | apply pw_below_drewN | apply below_drew1) | exact HB.out)⟩⟩
                          · rw [if_neg c43] at H
                            have c43b0 : ((bt a0 x7_1) == 13) = false := beq_eq_false_iff_ne.mpr c43
                            have c43b1 : ((bt a0 x7_1) != 13) = true := bne_iff_ne.mpr c43
                            as_aux_lemma =>
                              have H' := Aside0.mk H
                              clear H
                              go_wp2
                              go_meet
                              case rel => exact ⟨_, (((bt a0 x7_1) == 10)), (by first | rfl | (simp; done) | (simp [*]; done)), H', ⟨by have := HK1.out; have := HJ4.out; have := HJ37.out; first | omega | exact Nat.le_refl _⟩, ⟨by (with_reducible repeat (first | apply Kd.R_alloc | apply Kd.R_drewN | apply Kd.R_drew)); exact HO_4.out⟩, ⟨by repeat (first | (with_reducible first | exact HB.out | apply below_alloc | apply pw_below_drewN | apply below_drew1) | exact HB.out)⟩⟩
                    case rest =>
                      clear HC40
                      try clear c1
                      try clear p1
                      try clear q1
                      try clear hx1
                      try clear c2
                      try clear p2
                      try clear q2
                      try clear hx2
                      try clear hf2
                      try clear c3
                      try clear p3
                      try clear q3
                      try clear hx3
                      try clear hf3
                      try clear c4
                      try clear p4
                      try clear q4
                      try clear c5
                      try clear p6
                      try clear p10
                      try clear q10
                      try clear hx10
                      try clear p11
                      try clear q11
                      try clear hx11
                      try clear c12
                      try clear p12
                      try clear q12
                      try clear hx12
                      try clear c13
                      try clear c15
                      try clear c15b0
                      try clear c16
                      try clear c16b0
                      try clear c17
                      try clear c17b0
                      try clear c17b1
                      try clear c18
                      try clear c18b0
                      try clear c18b1
                      try clear c19
                      try clear c19b0
                      try clear c19b1
                      try clear c20
                      try clear c20b0
                      try clear c20b1
                      try clear c20b2
                      try clear c21
                      try clear p21
                      try clear q21
                      try clear hx21
                      try clear hf21
                      try clear c24
                      try clear c25
                      try clear c27
                      try clear c27b0
                      try clear c28
                      try clear c28b0
                      try clear c29
                      try clear c29b0
                      try clear c29b1
                      try clear c30
                      try clear c30b0
                      try clear c30b1
                      try clear c31
                      try clear c31b0
                      try clear c31b1
                      try clear c32
                      try clear c32b0
                      try clear c32b1
                      try clear c32b2
                      try clear c33
                      try clear p33
                      try clear q33
                      try clear hx33
                      try clear hf33
                      try clear c37
                      try clear c39
                      try clear c39b0
                      try clear c39b1
                      try clear c41
                      try clear c41b0
                      try clear c41b1
                      try clear c42
                      try clear c42b0
                      try clear c42b1
                      try clear c43
                      try clear c43b0
                      try clear c43b1
                      try clear hx117_0
                      try clear hx117_1
                      try clear hx117_2
                      try clear hx122_0
                      try clear hx122_1
                      try clear hx122_2
                      try clear hx21_0
                      try clear hx21_1
                      try clear hx21_2
                      try clear hx33_0
                      try clear hx33_1
                      try clear hx33_2
                      try clear p1
                      try clear p10
                      try clear p11
                      try clear p117
                      try clear p12
                      try clear p122
                      try clear p2
                      try clear p21
                      try clear p3
                      try clear p33
                      try clear p4
                      try clear p6
                      try clear q1
                      try clear q10
                      try clear q11
                      try clear q117
                      try clear q12
                      try clear q122
                      try clear q2
                      try clear q21
                      try clear q3
                      try clear q33
                      try clear q4
                      obtain ⟨kq, x71_39, rfl, HA, HJ39, HO_4, HB⟩ := hcut
                      cases kq with
                      | zero => exact absurd HA.out (by simp [ladderbackref47_Split.j3])
                      | succ kj39 =>
                        have H := HA.out
                        clear HA
                        simp only [ladderbackref47_Split.j3] at H
                        by_cases c44 : x71_39 = true
                        · subst c44
                          have H1 : (ladderbackref47_Split.l0 kj39 a0 x4_1 x5_37 false (wrap64 (x7_1 + 1))) = some (r1, r2) := by rw [if_pos rfl] at H; exact H
                          clear H
                          have H := H1
                          clear H1
                          as_aux_lemma =>
                            have H' := Aside0.mk H
                            clear H
                            go_wp2
                            go_roundg kj39
                            case measure => have := HK1.out; have := HJ4.out; have := HJ37.out; have := HJ39.out; omega
                            case rel => exact ⟨(x4_1), (x5_37), (false), (wrap64 (x7_1 + 1)), (by first | rfl | (simp; done) | (simp [*]; done)), (by first | rfl | (simp; done) | (simp [*]; done)), (by first | rfl | (simp; done) | (simp [*]; done)), H', ⟨by have := HK1.out; have := HJ4.out; have := HJ37.out; have := HJ39.out; omega⟩, ⟨by (with_reducible repeat (first | apply Kd.R_alloc | apply Kd.R_drewN | apply Kd.R_drew)); exact HO_4.out⟩, ⟨by repeat (first | (with_reducible first | exact HB.out | apply below_alloc | apply pw_below_drewN | apply below_drew1) | exact HB.out)⟩⟩
                        · replace c44 := Bool.eq_false_iff.mpr c44
                          subst c44
                          have H1 : ((ladderbackref47_in.f kj39 (⟨#[40, 41, 91, 93, 123, 125, 44, 59, 58, 46, 43, 45, 42, 47, 61, 60, 62]⟩ : ByteArray) (bt a0 x7_1)).bind fun t124 => (if t124 = true then (if (wrap64 (x7_1 + 1)) < (a0.size : Int) then (if (bt a0 x7_1) = 58 then (if 0 ≤ (wrap64 (x7_1 + 1)) then (if (bt a0 (wrap64 (x7_1 + 1))) = 61 then (if 0 ≤ (wrap64 ((wrap64 (x7_1 + 1)) - 1)) then (if (wrap64 ((wrap64 (x7_1 + 1)) - 1)) ≤ (wrap64 ((wrap64 (x7_1 + 1)) + 1)) then (if (wrap64 ((wrap64 (x7_1 + 1)) + 1)) ≤ (a0.size : Int) then (if x4_1.length < 4398046511104 then (ladderbackref47_Split.l0 kj39 a0 (x4_1 ++ [(⟨2, x5_37, a0.extract ((wrap64 ((wrap64 (x7_1 + 1)) - 1)) : Int).toNat ((wrap64 ((wrap64 (x7_1 + 1)) + 1)) : Int).toNat⟩ : S58)]) x5_37 false (wrap64 ((wrap64 (x7_1 + 1)) + 1))) else (none)) else (none)) else (none)) else (none)) else (if (bt a0 x7_1) = 60 then (if (bt a0 x7_1) = 62 then (if (bt a0 (wrap64 (x7_1 + 1))) = 62 then (if 0 ≤ (wrap64 ((wrap64 (x7_1 + 1)) - 1)) then (if (wrap64 ((wrap64 (x7_1 + 1)) - 1)) ≤ (wrap64 ((wrap64 (x7_1 + 1)) + 1)) then (if (wrap64 ((wrap64 (x7_1 + 1)) + 1)) ≤ (a0.size : Int) then (if x4_1.length < 4398046511104 then (ladderbackref47_Split.l0 kj39 a0 (x4_1 ++ [(⟨2, x5_37, a0.extract ((wrap64 ((wrap64 (x7_1 + 1)) - 1)) : Int).toNat ((wrap64 ((wrap64 (x7_1 + 1)) + 1)) : Int).toNat⟩ : S58)]) x5_37 false (wrap64 ((wrap64 (x7_1 + 1)) + 1))) else (none)) else (none)) else (none)) else (none)) else (if 0 ≤ (wrap64 ((wrap64 (x7_1 + 1)) - 1)) then (if (wrap64 ((wrap64 (x7_1 + 1)) - 1)) ≤ (wrap64 (x7_1 + 1)) then (if (wrap64 (x7_1 + 1)) ≤ (a0.size : Int) then (if x4_1.length < 4398046511104 then (ladderbackref47_Split.l0 kj39 a0 (x4_1 ++ [(⟨2, x5_37, a0.extract ((wrap64 ((wrap64 (x7_1 + 1)) - 1)) : Int).toNat ((wrap64 (x7_1 + 1)) : Int).toNat⟩ : S58)]) x5_37 false (wrap64 (x7_1 + 1))) else (none)) else (none)) else (none)) else (none))) else (if (bt a0 (wrap64 (x7_1 + 1))) = 62 then (if 0 ≤ (wrap64 ((wrap64 (x7_1 + 1)) - 1)) then (if (wrap64 ((wrap64 (x7_1 + 1)) - 1)) ≤ (wrap64 ((wrap64 (x7_1 + 1)) + 1)) then (if (wrap64 ((wrap64 (x7_1 + 1)) + 1)) ≤ (a0.size : Int) then (if x4_1.length < 4398046511104 then (ladderbackref47_Split.l0 kj39 a0 (x4_1 ++ [(⟨2, x5_37, a0.extract ((wrap64 ((wrap64 (x7_1 + 1)) - 1)) : Int).toNat ((wrap64 ((wrap64 (x7_1 + 1)) + 1)) : Int).toNat⟩ : S58)]) x5_37 false (wrap64 ((wrap64 (x7_1 + 1)) + 1))) else (none)) else (none)) else (none)) else (none)) else (if 0 ≤ (wrap64 ((wrap64 (x7_1 + 1)) - 1)) then (if (wrap64 ((wrap64 (x7_1 + 1)) - 1)) ≤ (wrap64 (x7_1 + 1)) then (if (wrap64 (x7_1 + 1)) ≤ (a0.size : Int) then (if x4_1.length < 4398046511104 then (ladderbackref47_Split.l0 kj39 a0 (x4_1 ++ [(⟨2, x5_37, a0.extract ((wrap64 ((wrap64 (x7_1 + 1)) - 1)) : Int).toNat ((wrap64 (x7_1 + 1)) : Int).toNat⟩ : S58)]) x5_37 false (wrap64 (x7_1 + 1))) else (none)) else (none)) else (none)) else (none)))) else (if (bt a0 x7_1) = 62 then (if 0 ≤ (wrap64 ((wrap64 (x7_1 + 1)) - 1)) then (if (wrap64 ((wrap64 (x7_1 + 1)) - 1)) ≤ (wrap64 (x7_1 + 1)) then (if (wrap64 (x7_1 + 1)) ≤ (a0.size : Int) then (if x4_1.length < 4398046511104 then (ladderbackref47_Split.l0 kj39 a0 (x4_1 ++ [(⟨2, x5_37, a0.extract ((wrap64 ((wrap64 (x7_1 + 1)) - 1)) : Int).toNat ((wrap64 (x7_1 + 1)) : Int).toNat⟩ : S58)]) x5_37 false (wrap64 (x7_1 + 1))) else (none)) else (none)) else (none)) else (none)) else (if 0 ≤ (wrap64 ((wrap64 (x7_1 + 1)) - 1)) then (if (wrap64 ((wrap64 (x7_1 + 1)) - 1)) ≤ (wrap64 (x7_1 + 1)) then (if (wrap64 (x7_1 + 1)) ≤ (a0.size : Int) then (if x4_1.length < 4398046511104 then (ladderbackref47_Split.l0 kj39 a0 (x4_1 ++ [(⟨2, x5_37, a0.extract ((wrap64 ((wrap64 (x7_1 + 1)) - 1)) : Int).toNat ((wrap64 (x7_1 + 1)) : Int).toNat⟩ : S58)]) x5_37 false (wrap64 (x7_1 + 1))) else (none)) else (none)) else (none)) else (none))))) else (none)) else (if (bt a0 x7_1) = 60 then (if 0 ≤ (wrap64 (x7_1 + 1)) then (if (bt a0 (wrap64 (x7_1 + 1))) = 61 then (if 0 ≤ (wrap64 ((wrap64 (x7_1 + 1)) - 1)) then (if (wrap64 ((wrap64 (x7_1 + 1)) - 1)) ≤ (wrap64 ((wrap64 (x7_1 + 1)) + 1)) then (if (wrap64 ((wrap64 (x7_1 + 1)) + 1)) ≤ (a0.size : Int) then (if x4_1.length < 4398046511104 then (ladderbackref47_Split.l0 kj39 a0 (x4_1 ++ [(⟨2, x5_37, a0.extract ((wrap64 ((wrap64 (x7_1 + 1)) - 1)) : Int).toNat ((wrap64 ((wrap64 (x7_1 + 1)) + 1)) : Int).toNat⟩ : S58)]) x5_37 false (wrap64 ((wrap64 (x7_1 + 1)) + 1))) else (none)) else (none)) else (none)) else (none)) else (if (bt a0 x7_1) = 62 then (if (bt a0 (wrap64 (x7_1 + 1))) = 62 then (if 0 ≤ (wrap64 ((wrap64 (x7_1 + 1)) - 1)) then (if (wrap64 ((wrap64 (x7_1 + 1)) - 1)) ≤ (wrap64 ((wrap64 (x7_1 + 1)) + 1)) then (if (wrap64 ((wrap64 (x7_1 + 1)) + 1)) ≤ (a0.size : Int) then (if x4_1.length < 4398046511104 then (ladderbackref47_Split.l0 kj39 a0 (x4_1 ++ [(⟨2, x5_37, a0.extract ((wrap64 ((wrap64 (x7_1 + 1)) - 1)) : Int).toNat ((wrap64 ((wrap64 (x7_1 + 1)) + 1)) : Int).toNat⟩ : S58)]) x5_37 false (wrap64 ((wrap64 (x7_1 + 1)) + 1))) else (none)) else (none)) else (none)) else (none)) else (if 0 ≤ (wrap64 ((wrap64 (x7_1 + 1)) - 1)) then (if (wrap64 ((wrap64 (x7_1 + 1)) - 1)) ≤ (wrap64 (x7_1 + 1)) then (if (wrap64 (x7_1 + 1)) ≤ (a0.size : Int) then (if x4_1.length < 4398046511104 then (ladderbackref47_Split.l0 kj39 a0 (x4_1 ++ [(⟨2, x5_37, a0.extract ((wrap64 ((wrap64 (x7_1 + 1)) - 1)) : Int).toNat ((wrap64 (x7_1 + 1)) : Int).toNat⟩ : S58)]) x5_37 false (wrap64 (x7_1 + 1))) else (none)) else (none)) else (none)) else (none))) else (if (bt a0 (wrap64 (x7_1 + 1))) = 62 then (if 0 ≤ (wrap64 ((wrap64 (x7_1 + 1)) - 1)) then (if (wrap64 ((wrap64 (x7_1 + 1)) - 1)) ≤ (wrap64 ((wrap64 (x7_1 + 1)) + 1)) then (if (wrap64 ((wrap64 (x7_1 + 1)) + 1)) ≤ (a0.size : Int) then (if x4_1.length < 4398046511104 then (ladderbackref47_Split.l0 kj39 a0 (x4_1 ++ [(⟨2, x5_37, a0.extract ((wrap64 ((wrap64 (x7_1 + 1)) - 1)) : Int).toNat ((wrap64 ((wrap64 (x7_1 + 1)) + 1)) : Int).toNat⟩ : S58)]) x5_37 false (wrap64 ((wrap64 (x7_1 + 1)) + 1))) else (none)) else (none)) else (none)) else (none)) else (if 0 ≤ (wrap64 ((wrap64 (x7_1 + 1)) - 1)) then (if (wrap64 ((wrap64 (x7_1 + 1)) - 1)) ≤ (wrap64 (x7_1 + 1)) then (if (wrap64 (x7_1 + 1)) ≤ (a0.size : Int) then (if x4_1.length < 4398046511104 then (ladderbackref47_Split.l0 kj39 a0 (x4_1 ++ [(⟨2, x5_37, a0.extract ((wrap64 ((wrap64 (x7_1 + 1)) - 1)) : Int).toNat ((wrap64 (x7_1 + 1)) : Int).toNat⟩ : S58)]) x5_37 false (wrap64 (x7_1 + 1))) else (none)) else (none)) else (none)) else (none))))) else (none)) else (if (bt a0 x7_1) = 62 then (if 0 ≤ (wrap64 (x7_1 + 1)) then (if (bt a0 (wrap64 (x7_1 + 1))) = 61 then (if 0 ≤ (wrap64 ((wrap64 (x7_1 + 1)) - 1)) then (if (wrap64 ((wrap64 (x7_1 + 1)) - 1)) ≤ (wrap64 ((wrap64 (x7_1 + 1)) + 1)) then (if (wrap64 ((wrap64 (x7_1 + 1)) + 1)) ≤ (a0.size : Int) then (if x4_1.length < 4398046511104 then (ladderbackref47_Split.l0 kj39 a0 (x4_1 ++ [(⟨2, x5_37, a0.extract ((wrap64 ((wrap64 (x7_1 + 1)) - 1)) : Int).toNat ((wrap64 ((wrap64 (x7_1 + 1)) + 1)) : Int).toNat⟩ : S58)]) x5_37 false (wrap64 ((wrap64 (x7_1 + 1)) + 1))) else (none)) else (none)) else (none)) else (none)) else (if 0 ≤ (wrap64 ((wrap64 (x7_1 + 1)) - 1)) then (if (wrap64 ((wrap64 (x7_1 + 1)) - 1)) ≤ (wrap64 (x7_1 + 1)) then (if (wrap64 (x7_1 + 1)) ≤ (a0.size : Int) then (if x4_1.length < 4398046511104 then (ladderbackref47_Split.l0 kj39 a0 (x4_1 ++ [(⟨2, x5_37, a0.extract ((wrap64 ((wrap64 (x7_1 + 1)) - 1)) : Int).toNat ((wrap64 (x7_1 + 1)) : Int).toNat⟩ : S58)]) x5_37 false (wrap64 (x7_1 + 1))) else (none)) else (none)) else (none)) else (none))) else (none)) else (if 0 ≤ (wrap64 ((wrap64 (x7_1 + 1)) - 1)) then (if (wrap64 ((wrap64 (x7_1 + 1)) - 1)) ≤ (wrap64 (x7_1 + 1)) then (if (wrap64 (x7_1 + 1)) ≤ (a0.size : Int) then (if x4_1.length < 4398046511104 then (ladderbackref47_Split.l0 kj39 a0 (x4_1 ++ [(⟨2, x5_37, a0.extract ((wrap64 ((wrap64 (x7_1 + 1)) - 1)) : Int).toNat ((wrap64 (x7_1 + 1)) : Int).toNat⟩ : S58)]) x5_37 false (wrap64 (x7_1 + 1))) else (none)) else (none)) else (none)) else (none))))) else (if 0 ≤ (wrap64 ((wrap64 (x7_1 + 1)) - 1)) then (if (wrap64 ((wrap64 (x7_1 + 1)) - 1)) ≤ (wrap64 (x7_1 + 1)) then (if (wrap64 (x7_1 + 1)) ≤ (a0.size : Int) then (if x4_1.length < 4398046511104 then (ladderbackref47_Split.l0 kj39 a0 (x4_1 ++ [(⟨2, x5_37, a0.extract ((wrap64 ((wrap64 (x7_1 + 1)) - 1)) : Int).toNat ((wrap64 (x7_1 + 1)) : Int).toNat⟩ : S58)]) x5_37 false (wrap64 (x7_1 + 1))) else (none)) else (none)) else (none)) else (none))) else (some (([] : List (S58)), x5_37)))) = some (r1, r2) := by rw [if_neg (show ¬ (false = true) by decide)] at H; exact H
                          clear H
                          have H := H1
                          clear H1
                          replace H := Option.bind_eq_some_iff.mp H
                          obtain ⟨t124, A450, H⟩ := H
                          replace H : (if t124 = true then (if (wrap64 (x7_1 + 1)) < (a0.size : Int) then (if (bt a0 x7_1) = 58 then (if 0 ≤ (wrap64 (x7_1 + 1)) then (if (bt a0 (wrap64 (x7_1 + 1))) = 61 then (if 0 ≤ (wrap64 ((wrap64 (x7_1 + 1)) - 1)) then (if (wrap64 ((wrap64 (x7_1 + 1)) - 1)) ≤ (wrap64 ((wrap64 (x7_1 + 1)) + 1)) then (if (wrap64 ((wrap64 (x7_1 + 1)) + 1)) ≤ (a0.size : Int) then (if x4_1.length < 4398046511104 then (ladderbackref47_Split.l0 kj39 a0 (x4_1 ++ [(⟨2, x5_37, a0.extract ((wrap64 ((wrap64 (x7_1 + 1)) - 1)) : Int).toNat ((wrap64 ((wrap64 (x7_1 + 1)) + 1)) : Int).toNat⟩ : S58)]) x5_37 false (wrap64 ((wrap64 (x7_1 + 1)) + 1))) else (none)) else (none)) else (none)) else (none)) else (if (bt a0 x7_1) = 60 then (if (bt a0 x7_1) = 62 then (if (bt a0 (wrap64 (x7_1 + 1))) = 62 then (if 0 ≤ (wrap64 ((wrap64 (x7_1 + 1)) - 1)) then (if (wrap64 ((wrap64 (x7_1 + 1)) - 1)) ≤ (wrap64 ((wrap64 (x7_1 + 1)) + 1)) then (if (wrap64 ((wrap64 (x7_1 + 1)) + 1)) ≤ (a0.size : Int) then (if x4_1.length < 4398046511104 then (ladderbackref47_Split.l0 kj39 a0 (x4_1 ++ [(⟨2, x5_37, a0.extract ((wrap64 ((wrap64 (x7_1 + 1)) - 1)) : Int).toNat ((wrap64 ((wrap64 (x7_1 + 1)) + 1)) : Int).toNat⟩ : S58)]) x5_37 false (wrap64 ((wrap64 (x7_1 + 1)) + 1))) else (none)) else (none)) else (none)) else (none)) else (if 0 ≤ (wrap64 ((wrap64 (x7_1 + 1)) - 1)) then (if (wrap64 ((wrap64 (x7_1 + 1)) - 1)) ≤ (wrap64 (x7_1 + 1)) then (if (wrap64 (x7_1 + 1)) ≤ (a0.size : Int) then (if x4_1.length < 4398046511104 then (ladderbackref47_Split.l0 kj39 a0 (x4_1 ++ [(⟨2, x5_37, a0.extract ((wrap64 ((wrap64 (x7_1 + 1)) - 1)) : Int).toNat ((wrap64 (x7_1 + 1)) : Int).toNat⟩ : S58)]) x5_37 false (wrap64 (x7_1 + 1))) else (none)) else (none)) else (none)) else (none))) else (if (bt a0 (wrap64 (x7_1 + 1))) = 62 then (if 0 ≤ (wrap64 ((wrap64 (x7_1 + 1)) - 1)) then (if (wrap64 ((wrap64 (x7_1 + 1)) - 1)) ≤ (wrap64 ((wrap64 (x7_1 + 1)) + 1)) then (if (wrap64 ((wrap64 (x7_1 + 1)) + 1)) ≤ (a0.size : Int) then (if x4_1.length < 4398046511104 then (ladderbackref47_Split.l0 kj39 a0 (x4_1 ++ [(⟨2, x5_37, a0.extract ((wrap64 ((wrap64 (x7_1 + 1)) - 1)) : Int).toNat ((wrap64 ((wrap64 (x7_1 + 1)) + 1)) : Int).toNat⟩ : S58)]) x5_37 false (wrap64 ((wrap64 (x7_1 + 1)) + 1))) else (none)) else (none)) else (none)) else (none)) else (if 0 ≤ (wrap64 ((wrap64 (x7_1 + 1)) - 1)) then (if (wrap64 ((wrap64 (x7_1 + 1)) - 1)) ≤ (wrap64 (x7_1 + 1)) then (if (wrap64 (x7_1 + 1)) ≤ (a0.size : Int) then (if x4_1.length < 4398046511104 then (ladderbackref47_Split.l0 kj39 a0 (x4_1 ++ [(⟨2, x5_37, a0.extract ((wrap64 ((wrap64 (x7_1 + 1)) - 1)) : Int).toNat ((wrap64 (x7_1 + 1)) : Int).toNat⟩ : S58)]) x5_37 false (wrap64 (x7_1 + 1))) else (none)) else (none)) else (none)) else (none)))) else (if (bt a0 x7_1) = 62 then (if 0 ≤ (wrap64 ((wrap64 (x7_1 + 1)) - 1)) then (if (wrap64 ((wrap64 (x7_1 + 1)) - 1)) ≤ (wrap64 (x7_1 + 1)) then (if (wrap64 (x7_1 + 1)) ≤ (a0.size : Int) then (if x4_1.length < 4398046511104 then (ladderbackref47_Split.l0 kj39 a0 (x4_1 ++ [(⟨2, x5_37, a0.extract ((wrap64 ((wrap64 (x7_1 + 1)) - 1)) : Int).toNat ((wrap64 (x7_1 + 1)) : Int).toNat⟩ : S58)]) x5_37 false (wrap64 (x7_1 + 1))) else (none)) else (none)) else (none)) else (none)) else (if 0 ≤ (wrap64 ((wrap64 (x7_1 + 1)) - 1)) then (if (wrap64 ((wrap64 (x7_1 + 1)) - 1)) ≤ (wrap64 (x7_1 + 1)) then (if (wrap64 (x7_1 + 1)) ≤ (a0.size : Int) then (if x4_1.length < 4398046511104 then (ladderbackref47_Split.l0 kj39 a0 (x4_1 ++ [(⟨2, x5_37, a0.extract ((wrap64 ((wrap64 (x7_1 + 1)) - 1)) : Int).toNat ((wrap64 (x7_1 + 1)) : Int).toNat⟩ : S58)]) x5_37 false (wrap64 (x7_1 + 1))) else (none)) else (none)) else (none)) else (none))))) else (none)) else (if (bt a0 x7_1) = 60 then (if 0 ≤ (wrap64 (x7_1 + 1)) then (if (bt a0 (wrap64 (x7_1 + 1))) = 61 then (if 0 ≤ (wrap64 ((wrap64 (x7_1 + 1)) - 1)) then (if (wrap64 ((wrap64 (x7_1 + 1)) - 1)) ≤ (wrap64 ((wrap64 (x7_1 + 1)) + 1)) then (if (wrap64 ((wrap64 (x7_1 + 1)) + 1)) ≤ (a0.size : Int) then (if x4_1.length < 4398046511104 then (ladderbackref47_Split.l0 kj39 a0 (x4_1 ++ [(⟨2, x5_37, a0.extract ((wrap64 ((wrap64 (x7_1 + 1)) - 1)) : Int).toNat ((wrap64 ((wrap64 (x7_1 + 1)) + 1)) : Int).toNat⟩ : S58)]) x5_37 false (wrap64 ((wrap64 (x7_1 + 1)) + 1))) else (none)) else (none)) else (none)) else (none)) else (if (bt a0 x7_1) = 62 then (if (bt a0 (wrap64 (x7_1 + 1))) = 62 then (if 0 ≤ (wrap64 ((wrap64 (x7_1 + 1)) - 1)) then (if (wrap64 ((wrap64 (x7_1 + 1)) - 1)) ≤ (wrap64 ((wrap64 (x7_1 + 1)) + 1)) then (if (wrap64 ((wrap64 (x7_1 + 1)) + 1)) ≤ (a0.size : Int) then (if x4_1.length < 4398046511104 then (ladderbackref47_Split.l0 kj39 a0 (x4_1 ++ [(⟨2, x5_37, a0.extract ((wrap64 ((wrap64 (x7_1 + 1)) - 1)) : Int).toNat ((wrap64 ((wrap64 (x7_1 + 1)) + 1)) : Int).toNat⟩ : S58)]) x5_37 false (wrap64 ((wrap64 (x7_1 + 1)) + 1))) else (none)) else (none)) else (none)) else (none)) else (if 0 ≤ (wrap64 ((wrap64 (x7_1 + 1)) - 1)) then (if (wrap64 ((wrap64 (x7_1 + 1)) - 1)) ≤ (wrap64 (x7_1 + 1)) then (if (wrap64 (x7_1 + 1)) ≤ (a0.size : Int) then (if x4_1.length < 4398046511104 then (ladderbackref47_Split.l0 kj39 a0 (x4_1 ++ [(⟨2, x5_37, a0.extract ((wrap64 ((wrap64 (x7_1 + 1)) - 1)) : Int).toNat ((wrap64 (x7_1 + 1)) : Int).toNat⟩ : S58)]) x5_37 false (wrap64 (x7_1 + 1))) else (none)) else (none)) else (none)) else (none))) else (if (bt a0 (wrap64 (x7_1 + 1))) = 62 then (if 0 ≤ (wrap64 ((wrap64 (x7_1 + 1)) - 1)) then (if (wrap64 ((wrap64 (x7_1 + 1)) - 1)) ≤ (wrap64 ((wrap64 (x7_1 + 1)) + 1)) then (if (wrap64 ((wrap64 (x7_1 + 1)) + 1)) ≤ (a0.size : Int) then (if x4_1.length < 4398046511104 then (ladderbackref47_Split.l0 kj39 a0 (x4_1 ++ [(⟨2, x5_37, a0.extract ((wrap64 ((wrap64 (x7_1 + 1)) - 1)) : Int).toNat ((wrap64 ((wrap64 (x7_1 + 1)) + 1)) : Int).toNat⟩ : S58)]) x5_37 false (wrap64 ((wrap64 (x7_1 + 1)) + 1))) else (none)) else (none)) else (none)) else (none)) else (if 0 ≤ (wrap64 ((wrap64 (x7_1 + 1)) - 1)) then (if (wrap64 ((wrap64 (x7_1 + 1)) - 1)) ≤ (wrap64 (x7_1 + 1)) then (if (wrap64 (x7_1 + 1)) ≤ (a0.size : Int) then (if x4_1.length < 4398046511104 then (ladderbackref47_Split.l0 kj39 a0 (x4_1 ++ [(⟨2, x5_37, a0.extract ((wrap64 ((wrap64 (x7_1 + 1)) - 1)) : Int).toNat ((wrap64 (x7_1 + 1)) : Int).toNat⟩ : S58)]) x5_37 false (wrap64 (x7_1 + 1))) else (none)) else (none)) else (none)) else (none))))) else (none)) else (if (bt a0 x7_1) = 62 then (if 0 ≤ (wrap64 (x7_1 + 1)) then (if (bt a0 (wrap64 (x7_1 + 1))) = 61 then (if 0 ≤ (wrap64 ((wrap64 (x7_1 + 1)) - 1)) then (if (wrap64 ((wrap64 (x7_1 + 1)) - 1)) ≤ (wrap64 ((wrap64 (x7_1 + 1)) + 1)) then (if (wrap64 ((wrap64 (x7_1 + 1)) + 1)) ≤ (a0.size : Int) then (if x4_1.length < 4398046511104 then (ladderbackref47_Split.l0 kj39 a0 (x4_1 ++ [(⟨2, x5_37, a0.extract ((wrap64 ((wrap64 (x7_1 + 1)) - 1)) : Int).toNat ((wrap64 ((wrap64 (x7_1 + 1)) + 1)) : Int).toNat⟩ : S58)]) x5_37 false (wrap64 ((wrap64 (x7_1 + 1)) + 1))) else (none)) else (none)) else (none)) else (none)) else (if 0 ≤ (wrap64 ((wrap64 (x7_1 + 1)) - 1)) then (if (wrap64 ((wrap64 (x7_1 + 1)) - 1)) ≤ (wrap64 (x7_1 + 1)) then (if (wrap64 (x7_1 + 1)) ≤ (a0.size : Int) then (if x4_1.length < 4398046511104 then (ladderbackref47_Split.l0 kj39 a0 (x4_1 ++ [(⟨2, x5_37, a0.extract ((wrap64 ((wrap64 (x7_1 + 1)) - 1)) : Int).toNat ((wrap64 (x7_1 + 1)) : Int).toNat⟩ : S58)]) x5_37 false (wrap64 (x7_1 + 1))) else (none)) else (none)) else (none)) else (none))) else (none)) else (if 0 ≤ (wrap64 ((wrap64 (x7_1 + 1)) - 1)) then (if (wrap64 ((wrap64 (x7_1 + 1)) - 1)) ≤ (wrap64 (x7_1 + 1)) then (if (wrap64 (x7_1 + 1)) ≤ (a0.size : Int) then (if x4_1.length < 4398046511104 then (ladderbackref47_Split.l0 kj39 a0 (x4_1 ++ [(⟨2, x5_37, a0.extract ((wrap64 ((wrap64 (x7_1 + 1)) - 1)) : Int).toNat ((wrap64 (x7_1 + 1)) : Int).toNat⟩ : S58)]) x5_37 false (wrap64 (x7_1 + 1))) else (none)) else (none)) else (none)) else (none))))) else (if 0 ≤ (wrap64 ((wrap64 (x7_1 + 1)) - 1)) then (if (wrap64 ((wrap64 (x7_1 + 1)) - 1)) ≤ (wrap64 (x7_1 + 1)) then (if (wrap64 (x7_1 + 1)) ≤ (a0.size : Int) then (if x4_1.length < 4398046511104 then (ladderbackref47_Split.l0 kj39 a0 (x4_1 ++ [(⟨2, x5_37, a0.extract ((wrap64 ((wrap64 (x7_1 + 1)) - 1)) : Int).toNat ((wrap64 (x7_1 + 1)) : Int).toNat⟩ : S58)]) x5_37 false (wrap64 (x7_1 + 1))) else (none)) else (none)) else (none)) else (none))) else (some (([] : List (S58)), x5_37))) = some (r1, r2) := H
                          have A45 := Aside0.mk A450
                          clear A450
                          by_cases c46 : t124 = true
                          · subst c46
                            have H1 : (if (wrap64 (x7_1 + 1)) < (a0.size : Int) then (if (bt a0 x7_1) = 58 then (if 0 ≤ (wrap64 (x7_1 + 1)) then (if (bt a0 (wrap64 (x7_1 + 1))) = 61 then (if 0 ≤ (wrap64 ((wrap64 (x7_1 + 1)) - 1)) then (if (wrap64 ((wrap64 (x7_1 + 1)) - 1)) ≤ (wrap64 ((wrap64 (x7_1 + 1)) + 1)) then (if (wrap64 ((wrap64 (x7_1 + 1)) + 1)) ≤ (a0.size : Int) then (if x4_1.length < 4398046511104 then (ladderbackref47_Split.l0 kj39 a0 (x4_1 ++ [(⟨2, x5_37, a0.extract ((wrap64 ((wrap64 (x7_1 + 1)) - 1)) : Int).toNat ((wrap64 ((wrap64 (x7_1 + 1)) + 1)) : Int).toNat⟩ : S58)]) x5_37 false (wrap64 ((wrap64 (x7_1 + 1)) + 1))) else (none)) else (none)) else (none)) else (none)) else (if (bt a0 x7_1) = 60 then (if (bt a0 x7_1) = 62 then (if (bt a0 (wrap64 (x7_1 + 1))) = 62 then (if 0 ≤ (wrap64 ((wrap64 (x7_1 + 1)) - 1)) then (if (wrap64 ((wrap64 (x7_1 + 1)) - 1)) ≤ (wrap64 ((wrap64 (x7_1 + 1)) + 1)) then (if (wrap64 ((wrap64 (x7_1 + 1)) + 1)) ≤ (a0.size : Int) then (if x4_1.length < 4398046511104 then (ladderbackref47_Split.l0 kj39 a0 (x4_1 ++ [(⟨2, x5_37, a0.extract ((wrap64 ((wrap64 (x7_1 + 1)) - 1)) : Int).toNat ((wrap64 ((wrap64 (x7_1 + 1)) + 1)) : Int).toNat⟩ : S58)]) x5_37 false (wrap64 ((wrap64 (x7_1 + 1)) + 1))) else (none)) else (none)) else (none)) else (none)) else (if 0 ≤ (wrap64 ((wrap64 (x7_1 + 1)) - 1)) then (if (wrap64 ((wrap64 (x7_1 + 1)) - 1)) ≤ (wrap64 (x7_1 + 1)) then (if (wrap64 (x7_1 + 1)) ≤ (a0.size : Int) then (if x4_1.length < 4398046511104 then (ladderbackref47_Split.l0 kj39 a0 (x4_1 ++ [(⟨2, x5_37, a0.extract ((wrap64 ((wrap64 (x7_1 + 1)) - 1)) : Int).toNat ((wrap64 (x7_1 + 1)) : Int).toNat⟩ : S58)]) x5_37 false (wrap64 (x7_1 + 1))) else (none)) else (none)) else (none)) else (none))) else (if (bt a0 (wrap64 (x7_1 + 1))) = 62 then (if 0 ≤ (wrap64 ((wrap64 (x7_1 + 1)) - 1)) then (if (wrap64 ((wrap64 (x7_1 + 1)) - 1)) ≤ (wrap64 ((wrap64 (x7_1 + 1)) + 1)) then (if (wrap64 ((wrap64 (x7_1 + 1)) + 1)) ≤ (a0.size : Int) then (if x4_1.length < 4398046511104 then (ladderbackref47_Split.l0 kj39 a0 (x4_1 ++ [(⟨2, x5_37, a0.extract ((wrap64 ((wrap64 (x7_1 + 1)) - 1)) : Int).toNat ((wrap64 ((wrap64 (x7_1 + 1)) + 1)) : Int).toNat⟩ : S58)]) x5_37 false (wrap64 ((wrap64 (x7_1 + 1)) + 1))) else (none)) else (none)) else (none)) else (none)) else (if 0 ≤ (wrap64 ((wrap64 (x7_1 + 1)) - 1)) then (if (wrap64 ((wrap64 (x7_1 + 1)) - 1)) ≤ (wrap64 (x7_1 + 1)) then (if (wrap64 (x7_1 + 1)) ≤ (a0.size : Int) then (if x4_1.length < 4398046511104 then (ladderbackref47_Split.l0 kj39 a0 (x4_1 ++ [(⟨2, x5_37, a0.extract ((wrap64 ((wrap64 (x7_1 + 1)) - 1)) : Int).toNat ((wrap64 (x7_1 + 1)) : Int).toNat⟩ : S58)]) x5_37 false (wrap64 (x7_1 + 1))) else (none)) else (none)) else (none)) else (none)))) else (if (bt a0 x7_1) = 62 then (if 0 ≤ (wrap64 ((wrap64 (x7_1 + 1)) - 1)) then (if (wrap64 ((wrap64 (x7_1 + 1)) - 1)) ≤ (wrap64 (x7_1 + 1)) then (if (wrap64 (x7_1 + 1)) ≤ (a0.size : Int) then (if x4_1.length < 4398046511104 then (ladderbackref47_Split.l0 kj39 a0 (x4_1 ++ [(⟨2, x5_37, a0.extract ((wrap64 ((wrap64 (x7_1 + 1)) - 1)) : Int).toNat ((wrap64 (x7_1 + 1)) : Int).toNat⟩ : S58)]) x5_37 false (wrap64 (x7_1 + 1))) else (none)) else (none)) else (none)) else (none)) else (if 0 ≤ (wrap64 ((wrap64 (x7_1 + 1)) - 1)) then (if (wrap64 ((wrap64 (x7_1 + 1)) - 1)) ≤ (wrap64 (x7_1 + 1)) then (if (wrap64 (x7_1 + 1)) ≤ (a0.size : Int) then (if x4_1.length < 4398046511104 then (ladderbackref47_Split.l0 kj39 a0 (x4_1 ++ [(⟨2, x5_37, a0.extract ((wrap64 ((wrap64 (x7_1 + 1)) - 1)) : Int).toNat ((wrap64 (x7_1 + 1)) : Int).toNat⟩ : S58)]) x5_37 false (wrap64 (x7_1 + 1))) else (none)) else (none)) else (none)) else (none))))) else (none)) else (if (bt a0 x7_1) = 60 then (if 0 ≤ (wrap64 (x7_1 + 1)) then (if (bt a0 (wrap64 (x7_1 + 1))) = 61 then (if 0 ≤ (wrap64 ((wrap64 (x7_1 + 1)) - 1)) then (if (wrap64 ((wrap64 (x7_1 + 1)) - 1)) ≤ (wrap64 ((wrap64 (x7_1 + 1)) + 1)) then (if (wrap64 ((wrap64 (x7_1 + 1)) + 1)) ≤ (a0.size : Int) then (if x4_1.length < 4398046511104 then (ladderbackref47_Split.l0 kj39 a0 (x4_1 ++ [(⟨2, x5_37, a0.extract ((wrap64 ((wrap64 (x7_1 + 1)) - 1)) : Int).toNat ((wrap64 ((wrap64 (x7_1 + 1)) + 1)) : Int).toNat⟩ : S58)]) x5_37 false (wrap64 ((wrap64 (x7_1 + 1)) + 1))) else (none)) else (none)) else (none)) else (none)) else (if (bt a0 x7_1) = 62 then (if (bt a0 (wrap64 (x7_1 + 1))) = 62 then (if 0 ≤ (wrap64 ((wrap64 (x7_1 + 1)) - 1)) then (if (wrap64 ((wrap64 (x7_1 + 1)) - 1)) ≤ (wrap64 ((wrap64 (x7_1 + 1)) + 1)) then (if (wrap64 ((wrap64 (x7_1 + 1)) + 1)) ≤ (a0.size : Int) then (if x4_1.length < 4398046511104 then (ladderbackref47_Split.l0 kj39 a0 (x4_1 ++ [(⟨2, x5_37, a0.extract ((wrap64 ((wrap64 (x7_1 + 1)) - 1)) : Int).toNat ((wrap64 ((wrap64 (x7_1 + 1)) + 1)) : Int).toNat⟩ : S58)]) x5_37 false (wrap64 ((wrap64 (x7_1 + 1)) + 1))) else (none)) else (none)) else (none)) else (none)) else (if 0 ≤ (wrap64 ((wrap64 (x7_1 + 1)) - 1)) then (if (wrap64 ((wrap64 (x7_1 + 1)) - 1)) ≤ (wrap64 (x7_1 + 1)) then (if (wrap64 (x7_1 + 1)) ≤ (a0.size : Int) then (if x4_1.length < 4398046511104 then (ladderbackref47_Split.l0 kj39 a0 (x4_1 ++ [(⟨2, x5_37, a0.extract ((wrap64 ((wrap64 (x7_1 + 1)) - 1)) : Int).toNat ((wrap64 (x7_1 + 1)) : Int).toNat⟩ : S58)]) x5_37 false (wrap64 (x7_1 + 1))) else (none)) else (none)) else (none)) else (none))) else (if (bt a0 (wrap64 (x7_1 + 1))) = 62 then (if 0 ≤ (wrap64 ((wrap64 (x7_1 + 1)) - 1)) then (if (wrap64 ((wrap64 (x7_1 + 1)) - 1)) ≤ (wrap64 ((wrap64 (x7_1 + 1)) + 1)) then (if (wrap64 ((wrap64 (x7_1 + 1)) + 1)) ≤ (a0.size : Int) then (if x4_1.length < 4398046511104 then (ladderbackref47_Split.l0 kj39 a0 (x4_1 ++ [(⟨2, x5_37, a0.extract ((wrap64 ((wrap64 (x7_1 + 1)) - 1)) : Int).toNat ((wrap64 ((wrap64 (x7_1 + 1)) + 1)) : Int).toNat⟩ : S58)]) x5_37 false (wrap64 ((wrap64 (x7_1 + 1)) + 1))) else (none)) else (none)) else (none)) else (none)) else (if 0 ≤ (wrap64 ((wrap64 (x7_1 + 1)) - 1)) then (if (wrap64 ((wrap64 (x7_1 + 1)) - 1)) ≤ (wrap64 (x7_1 + 1)) then (if (wrap64 (x7_1 + 1)) ≤ (a0.size : Int) then (if x4_1.length < 4398046511104 then (ladderbackref47_Split.l0 kj39 a0 (x4_1 ++ [(⟨2, x5_37, a0.extract ((wrap64 ((wrap64 (x7_1 + 1)) - 1)) : Int).toNat ((wrap64 (x7_1 + 1)) : Int).toNat⟩ : S58)]) x5_37 false (wrap64 (x7_1 + 1))) else (none)) else (none)) else (none)) else (none))))) else (none)) else (if (bt a0 x7_1) = 62 then (if 0 ≤ (wrap64 (x7_1 + 1)) then (if (bt a0 (wrap64 (x7_1 + 1))) = 61 then (if 0 ≤ (wrap64 ((wrap64 (x7_1 + 1)) - 1)) then (if (wrap64 ((wrap64 (x7_1 + 1)) - 1)) ≤ (wrap64 ((wrap64 (x7_1 + 1)) + 1)) then (if (wrap64 ((wrap64 (x7_1 + 1)) + 1)) ≤ (a0.size : Int) then (if x4_1.length < 4398046511104 then (ladderbackref47_Split.l0 kj39 a0 (x4_1 ++ [(⟨2, x5_37, a0.extract ((wrap64 ((wrap64 (x7_1 + 1)) - 1)) : Int).toNat ((wrap64 ((wrap64 (x7_1 + 1)) + 1)) : Int).toNat⟩ : S58)]) x5_37 false (wrap64 ((wrap64 (x7_1 + 1)) + 1))) else (none)) else (none)) else (none)) else (none)) else (if 0 ≤ (wrap64 ((wrap64 (x7_1 + 1)) - 1)) then (if (wrap64 ((wrap64 (x7_1 + 1)) - 1)) ≤ (wrap64 (x7_1 + 1)) then (if (wrap64 (x7_1 + 1)) ≤ (a0.size : Int) then (if x4_1.length < 4398046511104 then (ladderbackref47_Split.l0 kj39 a0 (x4_1 ++ [(⟨2, x5_37, a0.extract ((wrap64 ((wrap64 (x7_1 + 1)) - 1)) : Int).toNat ((wrap64 (x7_1 + 1)) : Int).toNat⟩ : S58)]) x5_37 false (wrap64 (x7_1 + 1))) else (none)) else (none)) else (none)) else (none))) else (none)) else (if 0 ≤ (wrap64 ((wrap64 (x7_1 + 1)) - 1)) then (if (wrap64 ((wrap64 (x7_1 + 1)) - 1)) ≤ (wrap64 (x7_1 + 1)) then (if (wrap64 (x7_1 + 1)) ≤ (a0.size : Int) then (if x4_1.length < 4398046511104 then (ladderbackref47_Split.l0 kj39 a0 (x4_1 ++ [(⟨2, x5_37, a0.extract ((wrap64 ((wrap64 (x7_1 + 1)) - 1)) : Int).toNat ((wrap64 (x7_1 + 1)) : Int).toNat⟩ : S58)]) x5_37 false (wrap64 (x7_1 + 1))) else (none)) else (none)) else (none)) else (none))))) else (if 0 ≤ (wrap64 ((wrap64 (x7_1 + 1)) - 1)) then (if (wrap64 ((wrap64 (x7_1 + 1)) - 1)) ≤ (wrap64 (x7_1 + 1)) then (if (wrap64 (x7_1 + 1)) ≤ (a0.size : Int) then (if x4_1.length < 4398046511104 then (ladderbackref47_Split.l0 kj39 a0 (x4_1 ++ [(⟨2, x5_37, a0.extract ((wrap64 ((wrap64 (x7_1 + 1)) - 1)) : Int).toNat ((wrap64 (x7_1 + 1)) : Int).toNat⟩ : S58)]) x5_37 false (wrap64 (x7_1 + 1))) else (none)) else (none)) else (none)) else (none))) = some (r1, r2) := by rw [if_pos rfl] at H; exact H
                            clear H
                            have H := H1
                            clear H1
                            by_cases c47 : (wrap64 (x7_1 + 1)) < (a0.size : Int)
                            · rw [if_pos c47] at H
                              have c47b0 : decide ((wrap64 (x7_1 + 1)) < (a0.size : Int)) = true := decide_eq_true c47
                              clear c47
                              by_cases c48 : (bt a0 x7_1) = 58
                              · rw [if_pos c48] at H
                                have c48b0 : ((bt a0 x7_1) == 58) = true := beq_iff_eq.mpr c48
                                have c48b1 : ((bt a0 x7_1) != 58) = false := bne_eq_false_iff_eq.mpr c48
                                clear c48
                                obtain ⟨ji49, hji49⟩ : ∃ j_ : Int, (wrap64 (x7_1 + 1)) = j_ := ⟨_, rfl⟩
                                replace H : (if 0 ≤ (ji49) then (if (bt a0 (ji49)) = 61 then (if 0 ≤ (wrap64 ((ji49) - 1)) then (if (wrap64 ((ji49) - 1)) ≤ (wrap64 ((ji49) + 1)) then (if (wrap64 ((ji49) + 1)) ≤ (a0.size : Int) then (if x4_1.length < 4398046511104 then (ladderbackref47_Split.l0 kj39 a0 (x4_1 ++ [(⟨2, x5_37, a0.extract ((wrap64 ((ji49) - 1)) : Int).toNat ((wrap64 ((ji49) + 1)) : Int).toNat⟩ : S58)]) x5_37 false (wrap64 ((ji49) + 1))) else (none)) else (none)) else (none)) else (none)) else (if (bt a0 x7_1) = 60 then (if (bt a0 x7_1) = 62 then (if (bt a0 (ji49)) = 62 then (if 0 ≤ (wrap64 ((ji49) - 1)) then (if (wrap64 ((ji49) - 1)) ≤ (wrap64 ((ji49) + 1)) then (if (wrap64 ((ji49) + 1)) ≤ (a0.size : Int) then (if x4_1.length < 4398046511104 then (ladderbackref47_Split.l0 kj39 a0 (x4_1 ++ [(⟨2, x5_37, a0.extract ((wrap64 ((ji49) - 1)) : Int).toNat ((wrap64 ((ji49) + 1)) : Int).toNat⟩ : S58)]) x5_37 false (wrap64 ((ji49) + 1))) else (none)) else (none)) else (none)) else (none)) else (if 0 ≤ (wrap64 ((ji49) - 1)) then (if (wrap64 ((ji49) - 1)) ≤ (ji49) then (if (ji49) ≤ (a0.size : Int) then (if x4_1.length < 4398046511104 then (ladderbackref47_Split.l0 kj39 a0 (x4_1 ++ [(⟨2, x5_37, a0.extract ((wrap64 ((ji49) - 1)) : Int).toNat ((ji49) : Int).toNat⟩ : S58)]) x5_37 false ji49) else (none)) else (none)) else (none)) else (none))) else (if (bt a0 (ji49)) = 62 then (if 0 ≤ (wrap64 ((ji49) - 1)) then (if (wrap64 ((ji49) - 1)) ≤ (wrap64 ((ji49) + 1)) then (if (wrap64 ((ji49) + 1)) ≤ (a0.size : Int) then (if x4_1.length < 4398046511104 then (ladderbackref47_Split.l0 kj39 a0 (x4_1 ++ [(⟨2, x5_37, a0.extract ((wrap64 ((ji49) - 1)) : Int).toNat ((wrap64 ((ji49) + 1)) : Int).toNat⟩ : S58)]) x5_37 false (wrap64 ((ji49) + 1))) else (none)) else (none)) else (none)) else (none)) else (if 0 ≤ (wrap64 ((ji49) - 1)) then (if (wrap64 ((ji49) - 1)) ≤ (ji49) then (if (ji49) ≤ (a0.size : Int) then (if x4_1.length < 4398046511104 then (ladderbackref47_Split.l0 kj39 a0 (x4_1 ++ [(⟨2, x5_37, a0.extract ((wrap64 ((ji49) - 1)) : Int).toNat ((ji49) : Int).toNat⟩ : S58)]) x5_37 false ji49) else (none)) else (none)) else (none)) else (none)))) else (if (bt a0 x7_1) = 62 then (if 0 ≤ (wrap64 ((ji49) - 1)) then (if (wrap64 ((ji49) - 1)) ≤ (ji49) then (if (ji49) ≤ (a0.size : Int) then (if x4_1.length < 4398046511104 then (ladderbackref47_Split.l0 kj39 a0 (x4_1 ++ [(⟨2, x5_37, a0.extract ((wrap64 ((ji49) - 1)) : Int).toNat ((ji49) : Int).toNat⟩ : S58)]) x5_37 false ji49) else (none)) else (none)) else (none)) else (none)) else (if 0 ≤ (wrap64 ((ji49) - 1)) then (if (wrap64 ((ji49) - 1)) ≤ (ji49) then (if (ji49) ≤ (a0.size : Int) then (if x4_1.length < 4398046511104 then (ladderbackref47_Split.l0 kj39 a0 (x4_1 ++ [(⟨2, x5_37, a0.extract ((wrap64 ((ji49) - 1)) : Int).toNat ((ji49) : Int).toNat⟩ : S58)]) x5_37 false ji49) else (none)) else (none)) else (none)) else (none))))) else (none)) = some (r1, r2) := by first | (rw [hji49] at H; exact H) | (simp only [hji49] at H ⊢; exact H)
                                (try rw [hji49] at c47b0)
                                (try rw [hji49] at A45)
                                have hji49w : (IntKind.i64.wrap (x7_1 + 1)) = ji49 := (i64_w _).trans hji49
                                by_cases c50 : 0 ≤ (ji49)
                                · rw [if_pos c50] at H
                                  have c50b0 : decide (0 ≤ (ji49)) = true := decide_eq_true c50
                                  clear c50
                                  by_cases c52 : (bt a0 (ji49)) = 61
                                  · rw [if_pos c52] at H
                                    have c52b0 : ((bt a0 (ji49)) == 61) = true := beq_iff_eq.mpr c52
                                    have c52b1 : ((bt a0 (ji49)) != 61) = false := bne_eq_false_iff_eq.mpr c52
                                    clear c52
                                    obtain ⟨ji53, hji53⟩ : ∃ j_ : Int, (wrap64 ((ji49) - 1)) = j_ := ⟨_, rfl⟩
                                    replace H : (if 0 ≤ (ji53) then (if (ji53) ≤ (wrap64 ((ji49) + 1)) then (if (wrap64 ((ji49) + 1)) ≤ (a0.size : Int) then (if x4_1.length < 4398046511104 then (ladderbackref47_Split.l0 kj39 a0 (x4_1 ++ [(⟨2, x5_37, a0.extract ((ji53) : Int).toNat ((wrap64 ((ji49) + 1)) : Int).toNat⟩ : S58)]) x5_37 false (wrap64 ((ji49) + 1))) else (none)) else (none)) else (none)) else (none)) = some (r1, r2) := by first | (rw [hji53] at H; exact H) | (simp only [hji53] at H ⊢; exact H)
                                    (try rw [hji53] at A45)
                                    have hji53w : (IntKind.i64.wrap ((ji49) - 1)) = ji53 := (i64_w _).trans hji53
                                    by_cases c54 : 0 ≤ (ji53)
                                    · rw [if_pos c54] at H
                                      have c54b0 := eq_true c54
                                      have c54b1 : decide (0 ≤ (ji53)) = true := decide_eq_true c54
                                      clear c54
                                      by_cases c55 : (ji53) ≤ (wrap64 ((ji49) + 1))
                                      · rw [if_pos c55] at H
                                        have c55b0 := eq_true c55
                                        have c55b1 : decide ((ji53) ≤ (wrap64 ((ji49) + 1))) = true := decide_eq_true c55
                                        by_cases c56 : (wrap64 ((ji49) + 1)) ≤ (a0.size : Int)
                                        · rw [if_pos c56] at H
                                          have c56b0 := eq_true c56
                                          have c56b1 : decide ((wrap64 ((ji49) + 1)) ≤ (a0.size : Int)) = true := decide_eq_true c56
                                          by_cases c57 : x4_1.length < 4398046511104
                                          · rw [if_pos c57] at H
                                            have LMc57 := Aside0.mk c57
                                            clear c57
                                            obtain ⟨y125, hy125⟩ : ∃ y_ : List (S58), y_ = (x4_1 ++ [(⟨2, x5_37, a0.extract ((ji53) : Int).toNat ((wrap64 ((ji49) + 1)) : Int).toNat⟩ : S58)]) := ⟨_, rfl⟩
                                            replace H : (ladderbackref47_Split.l0 kj39 a0 y125 x5_37 false (wrap64 ((ji49) + 1))) = some (r1, r2) := by first | (rw [hy125]; with_reducible exact H) | (have H2_ := (Option.bind_some _ _).symm.trans H; rw [hy125]; with_reducible exact H2_) | (have H2_ := (Option.bind_some _ _).symm.trans H; with_reducible exact H2_) | with_reducible exact H | (rw [hy125]; exact H) | exact H
                                            have Ny125 := Aside0.mk hy125
                                            clear hy125
                                            as_aux_lemma =>
                                              have H' := Aside0.mk H
                                              clear H
                                              go_wp2_with (first | ((with_reducible refine gate_callee (f := 56) rfl ?_); refine goesL_ (some 73) rfl rfl Try.func56 (by kernel_rfl) rfl #[.string (⟨#[40, 41, 91, 93, 123, 125, 44, 59, 58, 46, 43, 45, 42, 47, 61, 60, 62]⟩ : ByteArray), .int .u8 (bt a0 x7_1)] rfl (by (try simp only [List.map_toArray, List.map_cons, List.map_nil]); first | done | rfl | (simp only [List.length_drop, List.length_take]; rfl)) ?_; (with_reducible refine (ladderbackref47_in.calls kj39 (⟨#[40, 41, 91, 93, 123, 125, 44, 59, 58, 46, 43, 45, 42, 47, 61, 60, 62]⟩ : ByteArray) (bt a0 x7_1) true _ A45.out).mono ?_); rintro e w' ⟨rfl, ⟨nd, rfl⟩⟩; refine ⟨_, rfl, ?_⟩; have p51 : 0 ≤ ((ji49) : Int) := of_decide_eq_true (by first | (with_reducible assumption) | assumption); have q51 : (ji49) < (a0.size : Int) := of_decide_eq_true (by first | (with_reducible assumption) | assumption); have hx51 := bt_at a0 (ji49); replace p51 := eq_true p51; replace q51 := eq_true q51) | ((with_reducible refine gate_builtin (b := .append) (xs := #[.tmp 123, .tmp 132]) rfl ?_); at_builtin; refine Kd.R_append k58 (w0 := w) w.heap.size rfl (.tmp 123) (.tmp 132) 52 58 (.agg #[(.int .i64 0), (.int .i64 0), (.string ⟨#[]⟩)]) 32 rfl Try.underlying52 info58 rfl (by decide) (by omega) u4 x4_1 (⟨2, x5_37, a0.extract ((ji53) : Int).toNat ((wrap64 ((ji49) + 1)) : Int).toNat⟩ : S58) [.int .i64 2, .int .i64 x5_37, .string (a0.extract ((ji53) : Int).toNat ((wrap64 ((ji49) + 1)) : Int).toNat)] (fun _ => True) (fun _ => False) rfl rfl ?aP (fun _ hk => hk.elim) ?aF ?aO ?aB ?aS ?aL ?_; (case aP => exact k58_mkM _ _ _ (⟨2, x5_37, a0.extract ((ji53) : Int).toNat ((wrap64 ((ji49) + 1)) : Int).toNat⟩ : S58)); (case aB => exact (by repeat (first | (with_reducible first | exact HB.out | apply below_alloc | apply pw_below_drewN | apply below_drew1) | exact HB.out))); (case aF => exact (fun _ _ => trivial)); (case aO => exact (by (with_reducible repeat (first | apply Kd.R_alloc | apply Kd.R_drewN | apply Kd.R_drew)); exact HO_4.out)); (case aS => exact (below_size (by repeat (first | (with_reducible first | exact HB.out | apply below_alloc | apply pw_below_drewN | apply below_drew1) | exact HB.out)))); (case aL => have := LMc57.out; omega); intro v126 w58 ho hb hg hat; rw [← Ny125.out] at ho; have n0_ := Aside0.mk (hb); have n1_ := Aside0.mk (ho); clear HB; clear HO_4; have HB := n0_; have HO127 := n1_; clear n0_ n1_; clear ho hb hg hat))
                                              go_roundg kj39
                                              case measure => have := HK1.out; have := HJ4.out; have := HJ37.out; have := HJ39.out; omega
                                              case rel => exact ⟨(y125), (x5_37), (false), (wrap64 ((ji49) + 1)), (by first | rfl | (simp; done) | (simp [*]; done)), (by first | rfl | (simp; done) | (simp [*]; done)), (by first | rfl | (simp; done) | (simp only [← hji49] <;> (first | rfl | simp)) | (simp [*]; done)), H', ⟨by have := HK1.out; have := HJ4.out; have := HJ37.out; have := HJ39.out; omega⟩, ⟨by (with_reducible repeat (first | apply Kd.R_alloc | apply Kd.R_drewN | apply Kd.R_drew)); exact HO127.out⟩, ⟨by repeat (first | (with_reducible first | exact HB.out | apply below_alloc | apply pw_below_drewN | apply below_drew1) | exact HB.out)⟩⟩
                                          · rw [if_neg c57] at H
                                            exact absurd H (by simp)
                                        · rw [if_neg c56] at H
                                          exact absurd H (by simp)
                                      · rw [if_neg c55] at H
                                        exact absurd H (by simp)
                                    · rw [if_neg c54] at H
                                      exact absurd H (by simp)
                                  · rw [if_neg c52] at H
                                    have c52b0 : ((bt a0 (ji49)) == 61) = false := beq_eq_false_iff_ne.mpr c52
                                    have c52b1 : ((bt a0 (ji49)) != 61) = true := bne_iff_ne.mpr c52
                                    by_cases c59 : (bt a0 x7_1) = 60
                                    · rw [if_pos c59] at H
                                      have c59b0 : ((bt a0 x7_1) == 60) = true := beq_iff_eq.mpr c59
                                      have c59b1 : ((bt a0 x7_1) != 60) = false := bne_eq_false_iff_eq.mpr c59
                                      clear c59
                                      by_cases c61 : (bt a0 x7_1) = 62
                                      · rw [if_pos c61] at H
                                        have c61b0 : ((bt a0 x7_1) == 62) = true := beq_iff_eq.mpr c61
                                        have c61b1 : ((bt a0 x7_1) != 62) = false := bne_eq_false_iff_eq.mpr c61
                                        clear c61
                                        by_cases c64 : (bt a0 (ji49)) = 62
                                        · rw [if_pos c64] at H
                                          have c64b0 : ((bt a0 (ji49)) == 62) = true := beq_iff_eq.mpr c64
                                          have c64b1 : ((bt a0 (ji49)) != 62) = false := bne_eq_false_iff_eq.mpr c64
                                          clear c64
                                          obtain ⟨ji65, hji65⟩ : ∃ j_ : Int, (wrap64 ((ji49) - 1)) = j_ := ⟨_, rfl⟩
                                          replace H : (if 0 ≤ (ji65) then (if (ji65) ≤ (wrap64 ((ji49) + 1)) then (if (wrap64 ((ji49) + 1)) ≤ (a0.size : Int) then (if x4_1.length < 4398046511104 then (ladderbackref47_Split.l0 kj39 a0 (x4_1 ++ [(⟨2, x5_37, a0.extract ((ji65) : Int).toNat ((wrap64 ((ji49) + 1)) : Int).toNat⟩ : S58)]) x5_37 false (wrap64 ((ji49) + 1))) else (none)) else (none)) else (none)) else (none)) = some (r1, r2) := by first | (rw [hji65] at H; exact H) | (simp only [hji65] at H ⊢; exact H)
                                          (try rw [hji65] at A45)
                                          have hji65w : (IntKind.i64.wrap ((ji49) - 1)) = ji65 := (i64_w _).trans hji65
                                          by_cases c66 : 0 ≤ (ji65)
                                          · rw [if_pos c66] at H
                                            have c66b0 := eq_true c66
                                            have c66b1 : decide (0 ≤ (ji65)) = true := decide_eq_true c66
                                            clear c66
                                            by_cases c67 : (ji65) ≤ (wrap64 ((ji49) + 1))
                                            · rw [if_pos c67] at H
                                              have c67b0 := eq_true c67
                                              have c67b1 : decide ((ji65) ≤ (wrap64 ((ji49) + 1))) = true := decide_eq_true c67
                                              by_cases c68 : (wrap64 ((ji49) + 1)) ≤ (a0.size : Int)
                                              · rw [if_pos c68] at H
                                                have c68b0 := eq_true c68
                                                have c68b1 : decide ((wrap64 ((ji49) + 1)) ≤ (a0.size : Int)) = true := decide_eq_true c68
                                                by_cases c69 : x4_1.length < 4398046511104
                                                · rw [if_pos c69] at H
                                                  have LMc69 := Aside0.mk c69
                                                  clear c69
                                                  obtain ⟨y128, hy128⟩ : ∃ y_ : List (S58), y_ = (x4_1 ++ [(⟨2, x5_37, a0.extract ((ji65) : Int).toNat ((wrap64 ((ji49) + 1)) : Int).toNat⟩ : S58)]) := ⟨_, rfl⟩
                                                  replace H : (ladderbackref47_Split.l0 kj39 a0 y128 x5_37 false (wrap64 ((ji49) + 1))) = some (r1, r2) := by first | (rw [hy128]; with_reducible exact H) | (have H2_ := (Option.bind_some _ _).symm.trans H; rw [hy128]; with_reducible exact H2_) | (have H2_ := (Option.bind_some _ _).symm.trans H; with_reducible exact H2_) | with_reducible exact H | (rw [hy128]; exact H) | exact H
                                                  have Ny128 := Aside0.mk hy128
                                                  clear hy128
                                                  as_aux_lemma =>
                                                    have H' := Aside0.mk H
                                                    clear H
                                                    go_wp2_with (first | ((with_reducible refine gate_callee (f := 56) rfl ?_); refine goesL_ (some 73) rfl rfl Try.func56 (by kernel_rfl) rfl #[.string (⟨#[40, 41, 91, 93, 123, 125, 44, 59, 58, 46, 43, 45, 42, 47, 61, 60, 62]⟩ : ByteArray), .int .u8 (bt a0 x7_1)] rfl (by (try simp only [List.map_toArray, List.map_cons, List.map_nil]); first | done | rfl | (simp only [List.length_drop, List.length_take]; rfl)) ?_; (with_reducible refine (ladderbackref47_in.calls kj39 (⟨#[40, 41, 91, 93, 123, 125, 44, 59, 58, 46, 43, 45, 42, 47, 61, 60, 62]⟩ : ByteArray) (bt a0 x7_1) true _ A45.out).mono ?_); rintro e w' ⟨rfl, ⟨nd, rfl⟩⟩; refine ⟨_, rfl, ?_⟩; have p51 : 0 ≤ ((ji49) : Int) := of_decide_eq_true (by first | (with_reducible assumption) | assumption); have q51 : (ji49) < (a0.size : Int) := of_decide_eq_true (by first | (with_reducible assumption) | assumption); have hx51 := bt_at a0 (ji49); replace p51 := eq_true p51; replace q51 := eq_true q51; have p60 : 0 ≤ ((ji49) : Int) := of_decide_eq_true (by first | (with_reducible assumption) | assumption); have q60 : (ji49) < (a0.size : Int) := of_decide_eq_true (by first | (with_reducible assumption) | assumption); have hx60 := bt_at a0 (ji49); replace p60 := eq_true p60; replace q60 := eq_true q60; have p62 : 0 ≤ ((ji49) : Int) := of_decide_eq_true (by first | (with_reducible assumption) | assumption); have q62 : (ji49) < (a0.size : Int) := of_decide_eq_true (by first | (with_reducible assumption) | assumption); have hx62 := bt_at a0 (ji49); replace p62 := eq_true p62; replace q62 := eq_true q62; have p63 : 0 ≤ ((ji49) : Int) := of_decide_eq_true (by first | (with_reducible assumption) | assumption); have q63 : (ji49) < (a0.size : Int) := of_decide_eq_true (by first | (with_reducible assumption) | assumption); have hx63 := bt_at a0 (ji49); replace p63 := eq_true p63; replace q63 := eq_true q63) | ((with_reducible refine gate_builtin (b := .append) (xs := #[.tmp 123, .tmp 132]) rfl ?_); at_builtin; refine Kd.R_append k58 (w0 := w) w.heap.size rfl (.tmp 123) (.tmp 132) 52 58 (.agg #[(.int .i64 0), (.int .i64 0), (.string ⟨#[]⟩)]) 32 rfl Try.underlying52 info58 rfl (by decide) (by omega) u4 x4_1 (⟨2, x5_37, a0.extract ((ji65) : Int).toNat ((wrap64 ((ji49) + 1)) : Int).toNat⟩ : S58) [.int .i64 2, .int .i64 x5_37, .string (a0.extract ((ji65) : Int).toNat ((wrap64 ((ji49) + 1)) : Int).toNat)] (fun _ => True) (fun _ => False) rfl rfl ?aP (fun _ hk => hk.elim) ?aF ?aO ?aB ?aS ?aL ?_; (case aP => exact k58_mkM _ _ _ (⟨2, x5_37, a0.extract ((ji65) : Int).toNat ((wrap64 ((ji49) + 1)) : Int).toNat⟩ : S58)); (case aB => exact (by repeat (first | (with_reducible first | exact HB.out | apply below_alloc | apply pw_below_drewN | apply below_drew1) | exact HB.out))); (case aF => exact (fun _ _ => trivial)); (case aO => exact (by (with_reducible repeat (first | apply Kd.R_alloc | apply Kd.R_drewN | apply Kd.R_drew)); exact HO_4.out)); (case aS => exact (below_size (by repeat (first | (with_reducible first | exact HB.out | apply below_alloc | apply pw_below_drewN | apply below_drew1) | exact HB.out)))); (case aL => have := LMc69.out; omega); intro v129 w70 ho hb hg hat; rw [← Ny128.out] at ho; have n0_ := Aside0.mk (hb); have n1_ := Aside0.mk (ho); clear HB; clear HO_4; have HB := n0_; have HO130 := n1_; clear n0_ n1_; clear ho hb hg hat))
                                                    go_roundg kj39
                                                    case measure => have := HK1.out; have := HJ4.out; have := HJ37.out; have := HJ39.out; omega
                                                    case rel => exact ⟨(y128), (x5_37), (false), (wrap64 ((ji49) + 1)), (by first | rfl | (simp; done) | (simp [*]; done)), (by first | rfl | (simp; done) | (simp [*]; done)), (by first | rfl | (simp; done) | (simp only [← hji49] <;> (first | rfl | simp)) | (simp [*]; done)), H', ⟨by have := HK1.out; have := HJ4.out; have := HJ37.out; have := HJ39.out; omega⟩, ⟨by (with_reducible repeat (first | apply Kd.R_alloc | apply Kd.R_drewN | apply Kd.R_drew)); exact HO130.out⟩, ⟨by repeat (first | (with_reducible first | exact HB.out | apply below_alloc | apply pw_below_drewN | apply below_drew1) | exact HB.out)⟩⟩
                                                · rw [if_neg c69] at H
                                                  exact absurd H (by simp)
                                              · rw [if_neg c68] at H
                                                exact absurd H (by simp)
                                            · rw [if_neg c67] at H
                                              exact absurd H (by simp)
                                          · rw [if_neg c66] at H
                                            exact absurd H (by simp)
                                        · rw [if_neg c64] at H
                                          have c64b0 : ((bt a0 (ji49)) == 62) = false := beq_eq_false_iff_ne.mpr c64
                                          have c64b1 : ((bt a0 (ji49)) != 62) = true := bne_iff_ne.mpr c64
                                          obtain ⟨ji71, hji71⟩ : ∃ j_ : Int, (wrap64 ((ji49) - 1)) = j_ := ⟨_, rfl⟩
                                          replace H : (if 0 ≤ (ji71) then (if (ji71) ≤ (ji49) then (if (ji49) ≤ (a0.size : Int) then (if x4_1.length < 4398046511104 then (ladderbackref47_Split.l0 kj39 a0 (x4_1 ++ [(⟨2, x5_37, a0.extract ((ji71) : Int).toNat ((ji49) : Int).toNat⟩ : S58)]) x5_37 false ji49) else (none)) else (none)) else (none)) else (none)) = some (r1, r2) := by first | (rw [hji71] at H; exact H) | (simp only [hji71] at H ⊢; exact H)
                                          (try rw [hji71] at A45)
                                          have hji71w : (IntKind.i64.wrap ((ji49) - 1)) = ji71 := (i64_w _).trans hji71
                                          by_cases c72 : 0 ≤ (ji71)
                                          · rw [if_pos c72] at H
                                            have c72b0 := eq_true c72
                                            have c72b1 : decide (0 ≤ (ji71)) = true := decide_eq_true c72
                                            clear c72
                                            by_cases c73 : (ji71) ≤ (ji49)
                                            · rw [if_pos c73] at H
                                              have c73b0 := eq_true c73
                                              have c73b1 : decide ((ji71) ≤ (ji49)) = true := decide_eq_true c73
                                              clear c73
                                              by_cases c74 : (ji49) ≤ (a0.size : Int)
                                              · rw [if_pos c74] at H
                                                have c74b0 := eq_true c74
                                                have c74b1 : decide ((ji49) ≤ (a0.size : Int)) = true := decide_eq_true c74
                                                clear c74
                                                by_cases c75 : x4_1.length < 4398046511104
                                                · rw [if_pos c75] at H
                                                  have LMc75 := Aside0.mk c75
                                                  clear c75
                                                  obtain ⟨y131, hy131⟩ : ∃ y_ : List (S58), y_ = (x4_1 ++ [(⟨2, x5_37, a0.extract ((ji71) : Int).toNat ((ji49) : Int).toNat⟩ : S58)]) := ⟨_, rfl⟩
                                                  replace H : (ladderbackref47_Split.l0 kj39 a0 y131 x5_37 false ji49) = some (r1, r2) := by first | (rw [hy131]; with_reducible exact H) | (have H2_ := (Option.bind_some _ _).symm.trans H; rw [hy131]; with_reducible exact H2_) | (have H2_ := (Option.bind_some _ _).symm.trans H; with_reducible exact H2_) | with_reducible exact H | (rw [hy131]; exact H) | exact H
                                                  have Ny131 := Aside0.mk hy131
                                                  clear hy131
                                                  as_aux_lemma =>
                                                    have H' := Aside0.mk H
                                                    clear H
                                                    go_wp2_with (first | ((with_reducible refine gate_callee (f := 56) rfl ?_); refine goesL_ (some 73) rfl rfl Try.func56 (by kernel_rfl) rfl #[.string (⟨#[40, 41, 91, 93, 123, 125, 44, 59, 58, 46, 43, 45, 42, 47, 61, 60, 62]⟩ : ByteArray), .int .u8 (bt a0 x7_1)] rfl (by (try simp only [List.map_toArray, List.map_cons, List.map_nil]); first | done | rfl | (simp only [List.length_drop, List.length_take]; rfl)) ?_; (with_reducible refine (ladderbackref47_in.calls kj39 (⟨#[40, 41, 91, 93, 123, 125, 44, 59, 58, 46, 43, 45, 42, 47, 61, 60, 62]⟩ : ByteArray) (bt a0 x7_1) true _ A45.out).mono ?_); rintro e w' ⟨rfl, ⟨nd, rfl⟩⟩; refine ⟨_, rfl, ?_⟩; have p51 : 0 ≤ ((ji49) : Int) := of_decide_eq_true (by first | (with_reducible assumption) | assumption); have q51 : (ji49) < (a0.size : Int) := of_decide_eq_true (by first | (with_reducible assumption) | assumption); have hx51 := bt_at a0 (ji49); replace p51 := eq_true p51; replace q51 := eq_true q51; have p60 : 0 ≤ ((ji49) : Int) := of_decide_eq_true (by first | (with_reducible assumption) | assumption); have q60 : (ji49) < (a0.size : Int) := of_decide_eq_true (by first | (with_reducible assumption) | assumption); have hx60 := bt_at a0 (ji49); replace p60 := eq_true p60; replace q60 := eq_true q60; have p62 : 0 ≤ ((ji49) : Int) := of_decide_eq_true (by first | (with_reducible assumption) | assumption); have q62 : (ji49) < (a0.size : Int) := of_decide_eq_true (by first | (with_reducible assumption) | assumption); have hx62 := bt_at a0 (ji49); replace p62 := eq_true p62; replace q62 := eq_true q62; have p63 : 0 ≤ ((ji49) : Int) := of_decide_eq_true (by first | (with_reducible assumption) | assumption); have q63 : (ji49) < (a0.size : Int) := of_decide_eq_true (by first | (with_reducible assumption) | assumption); have hx63 := bt_at a0 (ji49); replace p63 := eq_true p63; replace q63 := eq_true q63) | ((with_reducible refine gate_builtin (b := .append) (xs := #[.tmp 123, .tmp 132]) rfl ?_); at_builtin; refine Kd.R_append k58 (w0 := w) w.heap.size rfl (.tmp 123) (.tmp 132) 52 58 (.agg #[(.int .i64 0), (.int .i64 0), (.string ⟨#[]⟩)]) 32 rfl Try.underlying52 info58 rfl (by decide) (by omega) u4 x4_1 (⟨2, x5_37, a0.extract ((ji71) : Int).toNat ((ji49) : Int).toNat⟩ : S58) [.int .i64 2, .int .i64 x5_37, .string (a0.extract ((ji71) : Int).toNat ((ji49) : Int).toNat)] (fun _ => True) (fun _ => False) rfl rfl ?aP (fun _ hk => hk.elim) ?aF ?aO ?aB ?aS ?aL ?_; (case aP => exact k58_mkM _ _ _ (⟨2, x5_37, a0.extract ((ji71) : Int).toNat ((ji49) : Int).toNat⟩ : S58)); (case aB => exact (by repeat (first | (with_reducible first | exact HB.out | apply below_alloc | apply pw_below_drewN | apply below_drew1) | exact HB.out))); (case aF => exact (fun _ _ => trivial)); (case aO => exact (by (with_reducible repeat (first | apply Kd.R_alloc | apply Kd.R_drewN | apply Kd.R_drew)); exact HO_4.out)); (case aS => exact (below_size (by repeat (first | (with_reducible first | exact HB.out | apply below_alloc | apply pw_below_drewN | apply below_drew1) | exact HB.out)))); (case aL => have := LMc75.out; omega); intro v132 w76 ho hb hg hat; rw [← Ny131.out] at ho; have n0_ := Aside0.mk (hb); have n1_ := Aside0.mk (ho); clear HB; clear HO_4; have HB := n0_; have HO133 := n1_; clear n0_ n1_; clear ho hb hg hat))
                                                    go_roundg kj39
                                                    case measure => have := HK1.out; have := HJ4.out; have := HJ37.out; have := HJ39.out; omega
                                                    case rel => exact ⟨(y131), (x5_37), (false), (ji49), (by first | rfl | (simp; done) | (simp [*]; done)), (by first | rfl | (simp; done) | (simp [*]; done)), (by first | rfl | (simp; done) | (simp only [← hji49] <;> (first | rfl | simp)) | (simp [*]; done)), H', ⟨by have := HK1.out; have := HJ4.out; have := HJ37.out; have := HJ39.out; omega⟩, ⟨by (with_reducible repeat (first | apply Kd.R_alloc | apply Kd.R_drewN | apply Kd.R_drew)); exact HO133.out⟩, ⟨by repeat (first | (with_reducible first | exact HB.out | apply below_alloc | apply pw_below_drewN | apply below_drew1) | exact HB.out)⟩⟩
                                                · rw [if_neg c75] at H
                                                  exact absurd H (by simp)
                                              · rw [if_neg c74] at H
                                                exact absurd H (by simp)
                                            · rw [if_neg c73] at H
                                              exact absurd H (by simp)
                                          · rw [if_neg c72] at H
                                            exact absurd H (by simp)
                                      · rw [if_neg c61] at H
                                        have c61b0 : ((bt a0 x7_1) == 62) = false := beq_eq_false_iff_ne.mpr c61
                                        have c61b1 : ((bt a0 x7_1) != 62) = true := bne_iff_ne.mpr c61
                                        by_cases c78 : (bt a0 (ji49)) = 62
                                        · rw [if_pos c78] at H
                                          have c78b0 : ((bt a0 (ji49)) == 62) = true := beq_iff_eq.mpr c78
                                          have c78b1 : ((bt a0 (ji49)) != 62) = false := bne_eq_false_iff_eq.mpr c78
                                          clear c78
                                          obtain ⟨ji79, hji79⟩ : ∃ j_ : Int, (wrap64 ((ji49) - 1)) = j_ := ⟨_, rfl⟩
                                          replace H : (if 0 ≤ (ji79) then (if (ji79) ≤ (wrap64 ((ji49) + 1)) then (if (wrap64 ((ji49) + 1)) ≤ (a0.size : Int) then (if x4_1.length < 4398046511104 then (ladderbackref47_Split.l0 kj39 a0 (x4_1 ++ [(⟨2, x5_37, a0.extract ((ji79) : Int).toNat ((wrap64 ((ji49) + 1)) : Int).toNat⟩ : S58)]) x5_37 false (wrap64 ((ji49) + 1))) else (none)) else (none)) else (none)) else (none)) = some (r1, r2) := by first | (rw [hji79] at H; exact H) | (simp only [hji79] at H ⊢; exact H)
                                          (try rw [hji79] at A45)
                                          have hji79w : (IntKind.i64.wrap ((ji49) - 1)) = ji79 := (i64_w _).trans hji79
                                          by_cases c80 : 0 ≤ (ji79)
                                          · rw [if_pos c80] at H
                                            have c80b0 := eq_true c80
                                            have c80b1 : decide (0 ≤ (ji79)) = true := decide_eq_true c80
                                            clear c80
                                            by_cases c81 : (ji79) ≤ (wrap64 ((ji49) + 1))
                                            · rw [if_pos c81] at H
                                              have c81b0 := eq_true c81
                                              have c81b1 : decide ((ji79) ≤ (wrap64 ((ji49) + 1))) = true := decide_eq_true c81
                                              by_cases c82 : (wrap64 ((ji49) + 1)) ≤ (a0.size : Int)
                                              · rw [if_pos c82] at H
                                                have c82b0 := eq_true c82
                                                have c82b1 : decide ((wrap64 ((ji49) + 1)) ≤ (a0.size : Int)) = true := decide_eq_true c82
                                                by_cases c83 : x4_1.length < 4398046511104
                                                · rw [if_pos c83] at H
                                                  have LMc83 := Aside0.mk c83
                                                  clear c83
                                                  obtain ⟨y134, hy134⟩ : ∃ y_ : List (S58), y_ = (x4_1 ++ [(⟨2, x5_37, a0.extract ((ji79) : Int).toNat ((wrap64 ((ji49) + 1)) : Int).toNat⟩ : S58)]) := ⟨_, rfl⟩
                                                  replace H : (ladderbackref47_Split.l0 kj39 a0 y134 x5_37 false (wrap64 ((ji49) + 1))) = some (r1, r2) := by first | (rw [hy134]; with_reducible exact H) | (have H2_ := (Option.bind_some _ _).symm.trans H; rw [hy134]; with_reducible exact H2_) | (have H2_ := (Option.bind_some _ _).symm.trans H; with_reducible exact H2_) | with_reducible exact H | (rw [hy134]; exact H) | exact H
                                                  have Ny134 := Aside0.mk hy134
                                                  clear hy134
                                                  as_aux_lemma =>
                                                    have H' := Aside0.mk H
                                                    clear H
                                                    go_wp2_with (first | ((with_reducible refine gate_callee (f := 56) rfl ?_); refine goesL_ (some 73) rfl rfl Try.func56 (by kernel_rfl) rfl #[.string (⟨#[40, 41, 91, 93, 123, 125, 44, 59, 58, 46, 43, 45, 42, 47, 61, 60, 62]⟩ : ByteArray), .int .u8 (bt a0 x7_1)] rfl (by (try simp only [List.map_toArray, List.map_cons, List.map_nil]); first | done | rfl | (simp only [List.length_drop, List.length_take]; rfl)) ?_; (with_reducible refine (ladderbackref47_in.calls kj39 (⟨#[40, 41, 91, 93, 123, 125, 44, 59, 58, 46, 43, 45, 42, 47, 61, 60, 62]⟩ : ByteArray) (bt a0 x7_1) true _ A45.out).mono ?_); rintro e w' ⟨rfl, ⟨nd, rfl⟩⟩; refine ⟨_, rfl, ?_⟩; have p51 : 0 ≤ ((ji49) : Int) := of_decide_eq_true (by first | (with_reducible assumption) | assumption); have q51 : (ji49) < (a0.size : Int) := of_decide_eq_true (by first | (with_reducible assumption) | assumption); have hx51 := bt_at a0 (ji49); replace p51 := eq_true p51; replace q51 := eq_true q51; have p60 : 0 ≤ ((ji49) : Int) := of_decide_eq_true (by first | (with_reducible assumption) | assumption); have q60 : (ji49) < (a0.size : Int) := of_decide_eq_true (by first | (with_reducible assumption) | assumption); have hx60 := bt_at a0 (ji49); replace p60 := eq_true p60; replace q60 := eq_true q60; have p77 : 0 ≤ ((ji49) : Int) := of_decide_eq_true (by first | (with_reducible assumption) | assumption); have q77 : (ji49) < (a0.size : Int) := of_decide_eq_true (by first | (with_reducible assumption) | assumption); have hx77 := bt_at a0 (ji49); replace p77 := eq_true p77; replace q77 := eq_true q77) | ((with_reducible refine gate_builtin (b := .append) (xs := #[.tmp 123, .tmp 132]) rfl ?_); at_builtin; refine Kd.R_append k58 (w0 := w) w.heap.size rfl (.tmp 123) (.tmp 132) 52 58 (.agg #[(.int .i64 0), (.int .i64 0), (.string ⟨#[]⟩)]) 32 rfl Try.underlying52 info58 rfl (by decide) (by omega) u4 x4_1 (⟨2, x5_37, a0.extract ((ji79) : Int).toNat ((wrap64 ((ji49) + 1)) : Int).toNat⟩ : S58) [.int .i64 2, .int .i64 x5_37, .string (a0.extract ((ji79) : Int).toNat ((wrap64 ((ji49) + 1)) : Int).toNat)] (fun _ => True) (fun _ => False) rfl rfl ?aP (fun _ hk => hk.elim) ?aF ?aO ?aB ?aS ?aL ?_; (case aP => exact k58_mkM _ _ _ (⟨2, x5_37, a0.extract ((ji79) : Int).toNat ((wrap64 ((ji49) + 1)) : Int).toNat⟩ : S58)); (case aB => exact (by repeat (first | (with_reducible first | exact HB.out | apply below_alloc | apply pw_below_drewN | apply below_drew1) | exact HB.out))); (case aF => exact (fun _ _ => trivial)); (case aO => exact (by (with_reducible repeat (first | apply Kd.R_alloc | apply Kd.R_drewN | apply Kd.R_drew)); exact HO_4.out)); (case aS => exact (below_size (by repeat (first | (with_reducible first | exact HB.out | apply below_alloc | apply pw_below_drewN | apply below_drew1) | exact HB.out)))); (case aL => have := LMc83.out; omega); intro v135 w84 ho hb hg hat; rw [← Ny134.out] at ho; have n0_ := Aside0.mk (hb); have n1_ := Aside0.mk (ho); clear HB; clear HO_4; have HB := n0_; have HO136 := n1_; clear n0_ n1_; clear ho hb hg hat))
                                                    go_roundg kj39
                                                    case measure => have := HK1.out; have := HJ4.out; have := HJ37.out; have := HJ39.out; omega
                                                    case rel => exact ⟨(y134), (x5_37), (false), (wrap64 ((ji49) + 1)), (by first | rfl | (simp; done) | (simp [*]; done)), (by first | rfl | (simp; done) | (simp [*]; done)), (by first | rfl | (simp; done) | (simp only [← hji49] <;> (first | rfl | simp)) | (simp [*]; done)), H', ⟨by have := HK1.out; have := HJ4.out; have := HJ37.out; have := HJ39.out; omega⟩, ⟨by (with_reducible repeat (first | apply Kd.R_alloc | apply Kd.R_drewN | apply Kd.R_drew)); exact HO136.out⟩, ⟨by repeat (first | (with_reducible first | exact HB.out | apply below_alloc | apply pw_below_drewN | apply below_drew1) | exact HB.out)⟩⟩
                                                · rw [if_neg c83] at H
                                                  exact absurd H (by simp)
                                              · rw [if_neg c82] at H
                                                exact absurd H (by simp)
                                            · rw [if_neg c81] at H
                                              exact absurd H (by simp)
                                          · rw [if_neg c80] at H
                                            exact absurd H (by simp)
                                        · rw [if_neg c78] at H
                                          have c78b0 : ((bt a0 (ji49)) == 62) = false := beq_eq_false_iff_ne.mpr c78
                                          have c78b1 : ((bt a0 (ji49)) != 62) = true := bne_iff_ne.mpr c78
                                          obtain ⟨ji85, hji85⟩ : ∃ j_ : Int, (wrap64 ((ji49) - 1)) = j_ := ⟨_, rfl⟩
                                          replace H : (if 0 ≤ (ji85) then (if (ji85) ≤ (ji49) then (if (ji49) ≤ (a0.size : Int) then (if x4_1.length < 4398046511104 then (ladderbackref47_Split.l0 kj39 a0 (x4_1 ++ [(⟨2, x5_37, a0.extract ((ji85) : Int).toNat ((ji49) : Int).toNat⟩ : S58)]) x5_37 false ji49) else (none)) else (none)) else (none)) else (none)) = some (r1, r2) := by first | (rw [hji85] at H; exact H) | (simp only [hji85] at H ⊢; exact H)
                                          (try rw [hji85] at A45)
                                          have hji85w : (IntKind.i64.wrap ((ji49) - 1)) = ji85 := (i64_w _).trans hji85
                                          by_cases c86 : 0 ≤ (ji85)
                                          · rw [if_pos c86] at H
                                            have c86b0 := eq_true c86
                                            have c86b1 : decide (0 ≤ (ji85)) = true := decide_eq_true c86
                                            clear c86
                                            by_cases c87 : (ji85) ≤ (ji49)
                                            · rw [if_pos c87] at H
                                              have c87b0 := eq_true c87
                                              have c87b1 : decide ((ji85) ≤ (ji49)) = true := decide_eq_true c87
                                              clear c87
                                              by_cases c88 : (ji49) ≤ (a0.size : Int)
                                              · rw [if_pos c88] at H
                                                have c88b0 := eq_true c88
                                                have c88b1 : decide ((ji49) ≤ (a0.size : Int)) = true := decide_eq_true c88
                                                clear c88
                                                by_cases c89 : x4_1.length < 4398046511104
                                                · rw [if_pos c89] at H
                                                  have LMc89 := Aside0.mk c89
                                                  clear c89
                                                  obtain ⟨y137, hy137⟩ : ∃ y_ : List (S58), y_ = (x4_1 ++ [(⟨2, x5_37, a0.extract ((ji85) : Int).toNat ((ji49) : Int).toNat⟩ : S58)]) := ⟨_, rfl⟩
                                                  replace H : (ladderbackref47_Split.l0 kj39 a0 y137 x5_37 false ji49) = some (r1, r2) := by first | (rw [hy137]; with_reducible exact H) | (have H2_ := (Option.bind_some _ _).symm.trans H; rw [hy137]; with_reducible exact H2_) | (have H2_ := (Option.bind_some _ _).symm.trans H; with_reducible exact H2_) | with_reducible exact H | (rw [hy137]; exact H) | exact H
                                                  have Ny137 := Aside0.mk hy137
                                                  clear hy137
                                                  as_aux_lemma =>
                                                    have H' := Aside0.mk H
                                                    clear H
                                                    go_wp2_with (first | ((with_reducible refine gate_callee (f := 56) rfl ?_); refine goesL_ (some 73) rfl rfl Try.func56 (by kernel_rfl) rfl #[.string (⟨#[40, 41, 91, 93, 123, 125, 44, 59, 58, 46, 43, 45, 42, 47, 61, 60, 62]⟩ : ByteArray), .int .u8 (bt a0 x7_1)] rfl (by (try simp only [List.map_toArray, List.map_cons, List.map_nil]); first | done | rfl | (simp only [List.length_drop, List.length_take]; rfl)) ?_; (with_reducible refine (ladderbackref47_in.calls kj39 (⟨#[40, 41, 91, 93, 123, 125, 44, 59, 58, 46, 43, 45, 42, 47, 61, 60, 62]⟩ : ByteArray) (bt a0 x7_1) true _ A45.out).mono ?_); rintro e w' ⟨rfl, ⟨nd, rfl⟩⟩; refine ⟨_, rfl, ?_⟩; have p51 : 0 ≤ ((ji49) : Int) := of_decide_eq_true (by first | (with_reducible assumption) | assumption); have q51 : (ji49) < (a0.size : Int) := of_decide_eq_true (by first | (with_reducible assumption) | assumption); have hx51 := bt_at a0 (ji49); replace p51 := eq_true p51; replace q51 := eq_true q51; have p60 : 0 ≤ ((ji49) : Int) := of_decide_eq_true (by first | (with_reducible assumption) | assumption); have q60 : (ji49) < (a0.size : Int) := of_decide_eq_true (by first | (with_reducible assumption) | assumption); have hx60 := bt_at a0 (ji49); replace p60 := eq_true p60; replace q60 := eq_true q60; have p77 : 0 ≤ ((ji49) : Int) := of_decide_eq_true (by first | (with_reducible assumption) | assumption); have q77 : (ji49) < (a0.size : Int) := of_decide_eq_true (by first | (with_reducible assumption) | assumption); have hx77 := bt_at a0 (ji49); replace p77 := eq_true p77; replace q77 := eq_true q77) | ((with_reducible refine gate_builtin (b := .append) (xs := #[.tmp 123, .tmp 132]) rfl ?_); at_builtin; refine Kd.R_append k58 (w0 := w) w.heap.size rfl (.tmp 123) (.tmp 132) 52 58 (.agg #[(.int .i64 0), (.int .i64 0), (.string ⟨#[]⟩)]) 32 rfl Try.underlying52 info58 rfl (by decide) (by omega) u4 x4_1 (⟨2, x5_37, a0.extract ((ji85) : Int).toNat ((ji49) : Int).toNat⟩ : S58) [.int .i64 2, .int .i64 x5_37, .string (a0.extract ((ji85) : Int).toNat ((ji49) : Int).toNat)] (fun _ => True) (fun _ => False) rfl rfl ?aP (fun _ hk => hk.elim) ?aF ?aO ?aB ?aS ?aL ?_; (case aP => exact k58_mkM _ _ _ (⟨2, x5_37, a0.extract ((ji85) : Int).toNat ((ji49) : Int).toNat⟩ : S58)); (case aB => exact (by repeat (first | (with_reducible first | exact HB.out | apply below_alloc | apply pw_below_drewN | apply below_drew1) | exact HB.out))); (case aF => exact (fun _ _ => trivial)); (case aO => exact (by (with_reducible repeat (first | apply Kd.R_alloc | apply Kd.R_drewN | apply Kd.R_drew)); exact HO_4.out)); (case aS => exact (below_size (by repeat (first | (with_reducible first | exact HB.out | apply below_alloc | apply pw_below_drewN | apply below_drew1) | exact HB.out)))); (case aL => have := LMc89.out; omega); intro v138 w90 ho hb hg hat; rw [← Ny137.out] at ho; have n0_ := Aside0.mk (hb); have n1_ := Aside0.mk (ho); clear HB; clear HO_4; have HB := n0_; have HO139 := n1_; clear n0_ n1_; clear ho hb hg hat))
                                                    go_roundg kj39
                                                    case measure => have := HK1.out; have := HJ4.out; have := HJ37.out; have := HJ39.out; omega
                                                    case rel => exact ⟨(y137), (x5_37), (false), (ji49), (by first | rfl | (simp; done) | (simp [*]; done)), (by first | rfl | (simp; done) | (simp [*]; done)), (by first | rfl | (simp; done) | (simp only [← hji49] <;> (first | rfl | simp)) | (simp [*]; done)), H', ⟨by have := HK1.out; have := HJ4.out; have := HJ37.out; have := HJ39.out; omega⟩, ⟨by (with_reducible repeat (first | apply Kd.R_alloc | apply Kd.R_drewN | apply Kd.R_drew)); exact HO139.out⟩, ⟨by repeat (first | (with_reducible first | exact HB.out | apply below_alloc | apply pw_below_drewN | apply below_drew1) | exact HB.out)⟩⟩
                                                · rw [if_neg c89] at H
                                                  exact absurd H (by simp)
                                              · rw [if_neg c88] at H
                                                exact absurd H (by simp)
                                            · rw [if_neg c87] at H
                                              exact absurd H (by simp)
                                          · rw [if_neg c86] at H
                                            exact absurd H (by simp)
                                    · rw [if_neg c59] at H
                                      have c59b0 : ((bt a0 x7_1) == 60) = false := beq_eq_false_iff_ne.mpr c59
                                      have c59b1 : ((bt a0 x7_1) != 60) = true := bne_iff_ne.mpr c59
                                      by_cases c91 : (bt a0 x7_1) = 62
                                      · rw [if_pos c91] at H
                                        have c91b0 : ((bt a0 x7_1) == 62) = true := beq_iff_eq.mpr c91
                                        have c91b1 : ((bt a0 x7_1) != 62) = false := bne_eq_false_iff_eq.mpr c91
                                        clear c91
                                        obtain ⟨ji93, hji93⟩ : ∃ j_ : Int, (wrap64 ((ji49) - 1)) = j_ := ⟨_, rfl⟩
                                        replace H : (if 0 ≤ (ji93) then (if (ji93) ≤ (ji49) then (if (ji49) ≤ (a0.size : Int) then (if x4_1.length < 4398046511104 then (ladderbackref47_Split.l0 kj39 a0 (x4_1 ++ [(⟨2, x5_37, a0.extract ((ji93) : Int).toNat ((ji49) : Int).toNat⟩ : S58)]) x5_37 false ji49) else (none)) else (none)) else (none)) else (none)) = some (r1, r2) := by first | (rw [hji93] at H; exact H) | (simp only [hji93] at H ⊢; exact H)
                                        (try rw [hji93] at A45)
                                        have hji93w : (IntKind.i64.wrap ((ji49) - 1)) = ji93 := (i64_w _).trans hji93
                                        by_cases c94 : 0 ≤ (ji93)
                                        · rw [if_pos c94] at H
                                          have c94b0 := eq_true c94
                                          have c94b1 : decide (0 ≤ (ji93)) = true := decide_eq_true c94
                                          clear c94
                                          by_cases c95 : (ji93) ≤ (ji49)
                                          · rw [if_pos c95] at H
                                            have c95b0 := eq_true c95
                                            have c95b1 : decide ((ji93) ≤ (ji49)) = true := decide_eq_true c95
                                            clear c95
                                            by_cases c96 : (ji49) ≤ (a0.size : Int)
                                            · rw [if_pos c96] at H
                                              have c96b0 := eq_true c96
                                              have c96b1 : decide ((ji49) ≤ (a0.size : Int)) = true := decide_eq_true c96
                                              clear c96
                                              by_cases c97 : x4_1.length < 4398046511104
                                              · rw [if_pos c97] at H
                                                have LMc97 := Aside0.mk c97
                                                clear c97
                                                obtain ⟨y140, hy140⟩ : ∃ y_ : List (S58), y_ = (x4_1 ++ [(⟨2, x5_37, a0.extract ((ji93) : Int).toNat ((ji49) : Int).toNat⟩ : S58)]) := ⟨_, rfl⟩
                                                replace H : (ladderbackref47_Split.l0 kj39 a0 y140 x5_37 false ji49) = some (r1, r2) := by first | (rw [hy140]; with_reducible exact H) | (have H2_ := (Option.bind_some _ _).symm.trans H; rw [hy140]; with_reducible exact H2_) | (have H2_ := (Option.bind_some _ _).symm.trans H; with_reducible exact H2_) | with_reducible exact H | (rw [hy140]; exact H) | exact H
                                                have Ny140 := Aside0.mk hy140
                                                clear hy140
                                                as_aux_lemma =>
                                                  have H' := Aside0.mk H
                                                  clear H
                                                  go_wp2_with (first | ((with_reducible refine gate_callee (f := 56) rfl ?_); refine goesL_ (some 73) rfl rfl Try.func56 (by kernel_rfl) rfl #[.string (⟨#[40, 41, 91, 93, 123, 125, 44, 59, 58, 46, 43, 45, 42, 47, 61, 60, 62]⟩ : ByteArray), .int .u8 (bt a0 x7_1)] rfl (by (try simp only [List.map_toArray, List.map_cons, List.map_nil]); first | done | rfl | (simp only [List.length_drop, List.length_take]; rfl)) ?_; (with_reducible refine (ladderbackref47_in.calls kj39 (⟨#[40, 41, 91, 93, 123, 125, 44, 59, 58, 46, 43, 45, 42, 47, 61, 60, 62]⟩ : ByteArray) (bt a0 x7_1) true _ A45.out).mono ?_); rintro e w' ⟨rfl, ⟨nd, rfl⟩⟩; refine ⟨_, rfl, ?_⟩; have p51 : 0 ≤ ((ji49) : Int) := of_decide_eq_true (by first | (with_reducible assumption) | assumption); have q51 : (ji49) < (a0.size : Int) := of_decide_eq_true (by first | (with_reducible assumption) | assumption); have hx51 := bt_at a0 (ji49); replace p51 := eq_true p51; replace q51 := eq_true q51; have p92 : 0 ≤ ((ji49) : Int) := of_decide_eq_true (by first | (with_reducible assumption) | assumption); have q92 : (ji49) < (a0.size : Int) := of_decide_eq_true (by first | (with_reducible assumption) | assumption); have hx92 := bt_at a0 (ji49); replace p92 := eq_true p92; replace q92 := eq_true q92) | ((with_reducible refine gate_builtin (b := .append) (xs := #[.tmp 123, .tmp 132]) rfl ?_); at_builtin; refine Kd.R_append k58 (w0 := w) w.heap.size rfl (.tmp 123) (.tmp 132) 52 58 (.agg #[(.int .i64 0), (.int .i64 0), (.string ⟨#[]⟩)]) 32 rfl Try.underlying52 info58 rfl (by decide) (by omega) u4 x4_1 (⟨2, x5_37, a0.extract ((ji93) : Int).toNat ((ji49) : Int).toNat⟩ : S58) [.int .i64 2, .int .i64 x5_37, .string (a0.extract ((ji93) : Int).toNat ((ji49) : Int).toNat)] (fun _ => True) (fun _ => False) rfl rfl ?aP (fun _ hk => hk.elim) ?aF ?aO ?aB ?aS ?aL ?_; (case aP => exact k58_mkM _ _ _ (⟨2, x5_37, a0.extract ((ji93) : Int).toNat ((ji49) : Int).toNat⟩ : S58)); (case aB => exact (by repeat (first | (with_reducible first | exact HB.out | apply below_alloc | apply pw_below_drewN | apply below_drew1) | exact HB.out))); (case aF => exact (fun _ _ => trivial)); (case aO => exact (by (with_reducible repeat (first | apply Kd.R_alloc | apply Kd.R_drewN | apply Kd.R_drew)); exact HO_4.out)); (case aS => exact (below_size (by repeat (first | (with_reducible first | exact HB.out | apply below_alloc | apply pw_below_drewN | apply below_drew1) | exact HB.out)))); (case aL => have := LMc97.out; omega); intro v141 w98 ho hb hg hat; rw [← Ny140.out] at ho; have n0_ := Aside0.mk (hb); have n1_ := Aside0.mk (ho); clear HB; clear HO_4; have HB := n0_; have HO142 := n1_; clear n0_ n1_; clear ho hb hg hat))
                                                  go_roundg kj39
                                                  case measure => have := HK1.out; have := HJ4.out; have := HJ37.out; have := HJ39.out; omega
                                                  case rel => exact ⟨(y140), (x5_37), (false), (ji49), (by first | rfl | (simp; done) | (simp [*]; done)), (by first | rfl | (simp; done) | (simp [*]; done)), (by first | rfl | (simp; done) | (simp only [← hji49] <;> (first | rfl | simp)) | (simp [*]; done)), H', ⟨by have := HK1.out; have := HJ4.out; have := HJ37.out; have := HJ39.out; omega⟩, ⟨by (with_reducible repeat (first | apply Kd.R_alloc | apply Kd.R_drewN | apply Kd.R_drew)); exact HO142.out⟩, ⟨by repeat (first | (with_reducible first | exact HB.out | apply below_alloc | apply pw_below_drewN | apply below_drew1) | exact HB.out)⟩⟩
                                              · rw [if_neg c97] at H
                                                exact absurd H (by simp)
                                            · rw [if_neg c96] at H
                                              exact absurd H (by simp)
                                          · rw [if_neg c95] at H
                                            exact absurd H (by simp)
                                        · rw [if_neg c94] at H
                                          exact absurd H (by simp)
                                      · rw [if_neg c91] at H
                                        have c91b0 : ((bt a0 x7_1) == 62) = false := beq_eq_false_iff_ne.mpr c91
                                        have c91b1 : ((bt a0 x7_1) != 62) = true := bne_iff_ne.mpr c91
                                        obtain ⟨ji99, hji99⟩ : ∃ j_ : Int, (wrap64 ((ji49) - 1)) = j_ := ⟨_, rfl⟩
                                        replace H : (if 0 ≤ (ji99) then (if (ji99) ≤ (ji49) then (if (ji49) ≤ (a0.size : Int) then (if x4_1.length < 4398046511104 then (ladderbackref47_Split.l0 kj39 a0 (x4_1 ++ [(⟨2, x5_37, a0.extract ((ji99) : Int).toNat ((ji49) : Int).toNat⟩ : S58)]) x5_37 false ji49) else (none)) else (none)) else (none)) else (none)) = some (r1, r2) := by first | (rw [hji99] at H; exact H) | (simp only [hji99] at H ⊢; exact H)
                                        (try rw [hji99] at A45)
                                        have hji99w : (IntKind.i64.wrap ((ji49) - 1)) = ji99 := (i64_w _).trans hji99
                                        by_cases c100 : 0 ≤ (ji99)
                                        · rw [if_pos c100] at H
                                          have c100b0 := eq_true c100
                                          have c100b1 : decide (0 ≤ (ji99)) = true := decide_eq_true c100
                                          clear c100
                                          by_cases c101 : (ji99) ≤ (ji49)
                                          · rw [if_pos c101] at H
                                            have c101b0 := eq_true c101
                                            have c101b1 : decide ((ji99) ≤ (ji49)) = true := decide_eq_true c101
                                            clear c101
                                            by_cases c102 : (ji49) ≤ (a0.size : Int)
                                            · rw [if_pos c102] at H
                                              have c102b0 := eq_true c102
                                              have c102b1 : decide ((ji49) ≤ (a0.size : Int)) = true := decide_eq_true c102
                                              clear c102
                                              by_cases c103 : x4_1.length < 4398046511104
                                              · rw [if_pos c103] at H
                                                have LMc103 := Aside0.mk c103
                                                clear c103
                                                obtain ⟨y143, hy143⟩ : ∃ y_ : List (S58), y_ = (x4_1 ++ [(⟨2, x5_37, a0.extract ((ji99) : Int).toNat ((ji49) : Int).toNat⟩ : S58)]) := ⟨_, rfl⟩
                                                replace H : (ladderbackref47_Split.l0 kj39 a0 y143 x5_37 false ji49) = some (r1, r2) := by first | (rw [hy143]; with_reducible exact H) | (have H2_ := (Option.bind_some _ _).symm.trans H; rw [hy143]; with_reducible exact H2_) | (have H2_ := (Option.bind_some _ _).symm.trans H; with_reducible exact H2_) | with_reducible exact H | (rw [hy143]; exact H) | exact H
                                                have Ny143 := Aside0.mk hy143
                                                clear hy143
                                                as_aux_lemma =>
                                                  have H' := Aside0.mk H
                                                  clear H
                                                  go_wp2_with (first | ((with_reducible refine gate_callee (f := 56) rfl ?_); refine goesL_ (some 73) rfl rfl Try.func56 (by kernel_rfl) rfl #[.string (⟨#[40, 41, 91, 93, 123, 125, 44, 59, 58, 46, 43, 45, 42, 47, 61, 60, 62]⟩ : ByteArray), .int .u8 (bt a0 x7_1)] rfl (by (try simp only [List.map_toArray, List.map_cons, List.map_nil]); first | done | rfl | (simp only [List.length_drop, List.length_take]; rfl)) ?_; (with_reducible refine (ladderbackref47_in.calls kj39 (⟨#[40, 41, 91, 93, 123, 125, 44, 59, 58, 46, 43, 45, 42, 47, 61, 60, 62]⟩ : ByteArray) (bt a0 x7_1) true _ A45.out).mono ?_); rintro e w' ⟨rfl, ⟨nd, rfl⟩⟩; refine ⟨_, rfl, ?_⟩; have p51 : 0 ≤ ((ji49) : Int) := of_decide_eq_true (by first | (with_reducible assumption) | assumption); have q51 : (ji49) < (a0.size : Int) := of_decide_eq_true (by first | (with_reducible assumption) | assumption); have hx51 := bt_at a0 (ji49); replace p51 := eq_true p51; replace q51 := eq_true q51) | ((with_reducible refine gate_builtin (b := .append) (xs := #[.tmp 123, .tmp 132]) rfl ?_); at_builtin; refine Kd.R_append k58 (w0 := w) w.heap.size rfl (.tmp 123) (.tmp 132) 52 58 (.agg #[(.int .i64 0), (.int .i64 0), (.string ⟨#[]⟩)]) 32 rfl Try.underlying52 info58 rfl (by decide) (by omega) u4 x4_1 (⟨2, x5_37, a0.extract ((ji99) : Int).toNat ((ji49) : Int).toNat⟩ : S58) [.int .i64 2, .int .i64 x5_37, .string (a0.extract ((ji99) : Int).toNat ((ji49) : Int).toNat)] (fun _ => True) (fun _ => False) rfl rfl ?aP (fun _ hk => hk.elim) ?aF ?aO ?aB ?aS ?aL ?_; (case aP => exact k58_mkM _ _ _ (⟨2, x5_37, a0.extract ((ji99) : Int).toNat ((ji49) : Int).toNat⟩ : S58)); (case aB => exact (by repeat (first | (with_reducible first | exact HB.out | apply below_alloc | apply pw_below_drewN | apply below_drew1) | exact HB.out))); (case aF => exact (fun _ _ => trivial)); (case aO => exact (by (with_reducible repeat (first | apply Kd.R_alloc | apply Kd.R_drewN | apply Kd.R_drew)); exact HO_4.out)); (case aS => exact (below_size (by repeat (first | (with_reducible first | exact HB.out | apply below_alloc | apply pw_below_drewN | apply below_drew1) | exact HB.out)))); (case aL => have := LMc103.out; omega); intro v144 w104 ho hb hg hat; rw [← Ny143.out] at ho; have n0_ := Aside0.mk (hb); have n1_ := Aside0.mk (ho); clear HB; clear HO_4; have HB := n0_; have HO145 := n1_; clear n0_ n1_; clear ho hb hg hat))
                                                  go_roundg kj39
                                                  case measure => have := HK1.out; have := HJ4.out; have := HJ37.out; have := HJ39.out; omega
                                                  case rel => exact ⟨(y143), (x5_37), (false), (ji49), (by first | rfl | (simp; done) | (simp [*]; done)), (by first | rfl | (simp; done) | (simp [*]; done)), (by first | rfl | (simp; done) | (simp only [← hji49] <;> (first | rfl | simp)) | (simp [*]; done)), H', ⟨by have := HK1.out; have := HJ4.out; have := HJ37.out; have := HJ39.out; omega⟩, ⟨by (with_reducible repeat (first | apply Kd.R_alloc | apply Kd.R_drewN | apply Kd.R_drew)); exact HO145.out⟩, ⟨by repeat (first | (with_reducible first | exact HB.out | apply below_alloc | apply pw_below_drewN | apply below_drew1) | exact HB.out)⟩⟩
                                              · rw [if_neg c103] at H
                                                exact absurd H (by simp)
                                            · rw [if_neg c102] at H
                                              exact absurd H (by simp)
                                          · rw [if_neg c101] at H
                                            exact absurd H (by simp)
                                        · rw [if_neg c100] at H
                                          exact absurd H (by simp)
                                · rw [if_neg c50] at H
                                  exact absurd H (by simp)
                              · rw [if_neg c48] at H
                                have c48b0 : ((bt a0 x7_1) == 58) = false := beq_eq_false_iff_ne.mpr c48
                                have c48b1 : ((bt a0 x7_1) != 58) = true := bne_iff_ne.mpr c48
                                by_cases c105 : (bt a0 x7_1) = 60
                                · rw [if_pos c105] at H
                                  have c105b0 : ((bt a0 x7_1) == 60) = true := beq_iff_eq.mpr c105
                                  have c105b1 : ((bt a0 x7_1) != 60) = false := bne_eq_false_iff_eq.mpr c105
                                  clear c105
                                  obtain ⟨ji106, hji106⟩ : ∃ j_ : Int, (wrap64 (x7_1 + 1)) = j_ := ⟨_, rfl⟩
                                  replace H : (if 0 ≤ (ji106) then (if (bt a0 (ji106)) = 61 then (if 0 ≤ (wrap64 ((ji106) - 1)) then (if (wrap64 ((ji106) - 1)) ≤ (wrap64 ((ji106) + 1)) then (if (wrap64 ((ji106) + 1)) ≤ (a0.size : Int) then (if x4_1.length < 4398046511104 then (ladderbackref47_Split.l0 kj39 a0 (x4_1 ++ [(⟨2, x5_37, a0.extract ((wrap64 ((ji106) - 1)) : Int).toNat ((wrap64 ((ji106) + 1)) : Int).toNat⟩ : S58)]) x5_37 false (wrap64 ((ji106) + 1))) else (none)) else (none)) else (none)) else (none)) else (if (bt a0 x7_1) = 62 then (if (bt a0 (ji106)) = 62 then (if 0 ≤ (wrap64 ((ji106) - 1)) then (if (wrap64 ((ji106) - 1)) ≤ (wrap64 ((ji106) + 1)) then (if (wrap64 ((ji106) + 1)) ≤ (a0.size : Int) then (if x4_1.length < 4398046511104 then (ladderbackref47_Split.l0 kj39 a0 (x4_1 ++ [(⟨2, x5_37, a0.extract ((wrap64 ((ji106) - 1)) : Int).toNat ((wrap64 ((ji106) + 1)) : Int).toNat⟩ : S58)]) x5_37 false (wrap64 ((ji106) + 1))) else (none)) else (none)) else (none)) else (none)) else (if 0 ≤ (wrap64 ((ji106) - 1)) then (if (wrap64 ((ji106) - 1)) ≤ (ji106) then (if (ji106) ≤ (a0.size : Int) then (if x4_1.length < 4398046511104 then (ladderbackref47_Split.l0 kj39 a0 (x4_1 ++ [(⟨2, x5_37, a0.extract ((wrap64 ((ji106) - 1)) : Int).toNat ((ji106) : Int).toNat⟩ : S58)]) x5_37 false ji106) else (none)) else (none)) else (none)) else (none))) else (if (bt a0 (ji106)) = 62 then (if 0 ≤ (wrap64 ((ji106) - 1)) then (if (wrap64 ((ji106) - 1)) ≤ (wrap64 ((ji106) + 1)) then (if (wrap64 ((ji106) + 1)) ≤ (a0.size : Int) then (if x4_1.length < 4398046511104 then (ladderbackref47_Split.l0 kj39 a0 (x4_1 ++ [(⟨2, x5_37, a0.extract ((wrap64 ((ji106) - 1)) : Int).toNat ((wrap64 ((ji106) + 1)) : Int).toNat⟩ : S58)]) x5_37 false (wrap64 ((ji106) + 1))) else (none)) else (none)) else (none)) else (none)) else (if 0 ≤ (wrap64 ((ji106) - 1)) then (if (wrap64 ((ji106) - 1)) ≤ (ji106) then (if (ji106) ≤ (a0.size : Int) then (if x4_1.length < 4398046511104 then (ladderbackref47_Split.l0 kj39 a0 (x4_1 ++ [(⟨2, x5_37, a0.extract ((wrap64 ((ji106) - 1)) : Int).toNat ((ji106) : Int).toNat⟩ : S58)]) x5_37 false ji106) else (none)) else (none)) else (none)) else (none))))) else (none)) = some (r1, r2) := by first | (rw [hji106] at H; exact H) | (simp only [hji106] at H ⊢; exact H)
                                  (try rw [hji106] at c47b0)
                                  (try rw [hji106] at A45)
                                  have hji106w : (IntKind.i64.wrap (x7_1 + 1)) = ji106 := (i64_w _).trans hji106
                                  by_cases c107 : 0 ≤ (ji106)
                                  · rw [if_pos c107] at H
                                    have c107b0 : decide (0 ≤ (ji106)) = true := decide_eq_true c107
                                    clear c107
                                    by_cases c109 : (bt a0 (ji106)) = 61
                                    · rw [if_pos c109] at H
                                      have c109b0 : ((bt a0 (ji106)) == 61) = true := beq_iff_eq.mpr c109
                                      have c109b1 : ((bt a0 (ji106)) != 61) = false := bne_eq_false_iff_eq.mpr c109
                                      clear c109
                                      obtain ⟨ji110, hji110⟩ : ∃ j_ : Int, (wrap64 ((ji106) - 1)) = j_ := ⟨_, rfl⟩
                                      replace H : (if 0 ≤ (ji110) then (if (ji110) ≤ (wrap64 ((ji106) + 1)) then (if (wrap64 ((ji106) + 1)) ≤ (a0.size : Int) then (if x4_1.length < 4398046511104 then (ladderbackref47_Split.l0 kj39 a0 (x4_1 ++ [(⟨2, x5_37, a0.extract ((ji110) : Int).toNat ((wrap64 ((ji106) + 1)) : Int).toNat⟩ : S58)]) x5_37 false (wrap64 ((ji106) + 1))) else (none)) else (none)) else (none)) else (none)) = some (r1, r2) := by first | (rw [hji110] at H; exact H) | (simp only [hji110] at H ⊢; exact H)
                                      (try rw [hji110] at A45)
                                      have hji110w : (IntKind.i64.wrap ((ji106) - 1)) = ji110 := (i64_w _).trans hji110
                                      by_cases c111 : 0 ≤ (ji110)
                                      · rw [if_pos c111] at H
                                        have c111b0 := eq_true c111
                                        have c111b1 : decide (0 ≤ (ji110)) = true := decide_eq_true c111
                                        clear c111
                                        by_cases c112 : (ji110) ≤ (wrap64 ((ji106) + 1))
                                        · rw [if_pos c112] at H
                                          have c112b0 := eq_true c112
                                          have c112b1 : decide ((ji110) ≤ (wrap64 ((ji106) + 1))) = true := decide_eq_true c112
                                          by_cases c113 : (wrap64 ((ji106) + 1)) ≤ (a0.size : Int)
                                          · rw [if_pos c113] at H
                                            have c113b0 := eq_true c113
                                            have c113b1 : decide ((wrap64 ((ji106) + 1)) ≤ (a0.size : Int)) = true := decide_eq_true c113
                                            by_cases c114 : x4_1.length < 4398046511104
                                            · rw [if_pos c114] at H
                                              have LMc114 := Aside0.mk c114
                                              clear c114
                                              obtain ⟨y146, hy146⟩ : ∃ y_ : List (S58), y_ = (x4_1 ++ [(⟨2, x5_37, a0.extract ((ji110) : Int).toNat ((wrap64 ((ji106) + 1)) : Int).toNat⟩ : S58)]) := ⟨_, rfl⟩
                                              replace H : (ladderbackref47_Split.l0 kj39 a0 y146 x5_37 false (wrap64 ((ji106) + 1))) = some (r1, r2) := by first | (rw [hy146]; with_reducible exact H) | (have H2_ := (Option.bind_some _ _).symm.trans H; rw [hy146]; with_reducible exact H2_) | (have H2_ := (Option.bind_some _ _).symm.trans H; with_reducible exact H2_) | with_reducible exact H | (rw [hy146]; exact H) | exact H
                                              have Ny146 := Aside0.mk hy146
                                              clear hy146
                                              as_aux_lemma =>
                                                have H' := Aside0.mk H
                                                clear H
                                                go_wp2_with (first | ((with_reducible refine gate_callee (f := 56) rfl ?_); refine goesL_ (some 73) rfl rfl Try.func56 (by kernel_rfl) rfl #[.string (⟨#[40, 41, 91, 93, 123, 125, 44, 59, 58, 46, 43, 45, 42, 47, 61, 60, 62]⟩ : ByteArray), .int .u8 (bt a0 x7_1)] rfl (by (try simp only [List.map_toArray, List.map_cons, List.map_nil]); first | done | rfl | (simp only [List.length_drop, List.length_take]; rfl)) ?_; (with_reducible refine (ladderbackref47_in.calls kj39 (⟨#[40, 41, 91, 93, 123, 125, 44, 59, 58, 46, 43, 45, 42, 47, 61, 60, 62]⟩ : ByteArray) (bt a0 x7_1) true _ A45.out).mono ?_); rintro e w' ⟨rfl, ⟨nd, rfl⟩⟩; refine ⟨_, rfl, ?_⟩; have p108 : 0 ≤ ((ji106) : Int) := of_decide_eq_true (by first | (with_reducible assumption) | assumption); have q108 : (ji106) < (a0.size : Int) := of_decide_eq_true (by first | (with_reducible assumption) | assumption); have hx108 := bt_at a0 (ji106); replace p108 := eq_true p108; replace q108 := eq_true q108) | ((with_reducible refine gate_builtin (b := .append) (xs := #[.tmp 123, .tmp 132]) rfl ?_); at_builtin; refine Kd.R_append k58 (w0 := w) w.heap.size rfl (.tmp 123) (.tmp 132) 52 58 (.agg #[(.int .i64 0), (.int .i64 0), (.string ⟨#[]⟩)]) 32 rfl Try.underlying52 info58 rfl (by decide) (by omega) u4 x4_1 (⟨2, x5_37, a0.extract ((ji110) : Int).toNat ((wrap64 ((ji106) + 1)) : Int).toNat⟩ : S58) [.int .i64 2, .int .i64 x5_37, .string (a0.extract ((ji110) : Int).toNat ((wrap64 ((ji106) + 1)) : Int).toNat)] (fun _ => True) (fun _ => False) rfl rfl ?aP (fun _ hk => hk.elim) ?aF ?aO ?aB ?aS ?aL ?_; (case aP => exact k58_mkM _ _ _ (⟨2, x5_37, a0.extract ((ji110) : Int).toNat ((wrap64 ((ji106) + 1)) : Int).toNat⟩ : S58)); (case aB => exact (by repeat (first | (with_reducible first | exact HB.out | apply below_alloc | apply pw_below_drewN | apply below_drew1) | exact HB.out))); (case aF => exact (fun _ _ => trivial)); (case aO => exact (by (with_reducible repeat (first | apply Kd.R_alloc | apply Kd.R_drewN | apply Kd.R_drew)); exact HO_4.out)); (case aS => exact (below_size (by repeat (first | (with_reducible first | exact HB.out | apply below_alloc | apply pw_below_drewN | apply below_drew1) | exact HB.out)))); (case aL => have := LMc114.out; omega); intro v147 w115 ho hb hg hat; rw [← Ny146.out] at ho; have n0_ := Aside0.mk (hb); have n1_ := Aside0.mk (ho); clear HB; clear HO_4; have HB := n0_; have HO148 := n1_; clear n0_ n1_; clear ho hb hg hat))
                                                go_roundg kj39
                                                case measure => have := HK1.out; have := HJ4.out; have := HJ37.out; have := HJ39.out; omega
                                                case rel => exact ⟨(y146), (x5_37), (false), (wrap64 ((ji106) + 1)), (by first | rfl | (simp; done) | (simp [*]; done)), (by first | rfl | (simp; done) | (simp [*]; done)), (by first | rfl | (simp; done) | (simp only [← hji106] <;> (first | rfl | simp)) | (simp [*]; done)), H', ⟨by have := HK1.out; have := HJ4.out; have := HJ37.out; have := HJ39.out; omega⟩, ⟨by (with_reducible repeat (first | apply Kd.R_alloc | apply Kd.R_drewN | apply Kd.R_drew)); exact HO148.out⟩, ⟨by repeat (first | (with_reducible first | exact HB.out | apply below_alloc | apply pw_below_drewN | apply below_drew1) | exact HB.out)⟩⟩
                                            · rw [if_neg c114] at H
                                              exact absurd H (by simp)
                                          · rw [if_neg c113] at H
                                            exact absurd H (by simp)
                                        · rw [if_neg c112] at H
                                          exact absurd H (by simp)
                                      · rw [if_neg c111] at H
                                        exact absurd H (by simp)
                                    · rw [if_neg c109] at H
                                      have c109b0 : ((bt a0 (ji106)) == 61) = false := beq_eq_false_iff_ne.mpr c109
                                      have c109b1 : ((bt a0 (ji106)) != 61) = true := bne_iff_ne.mpr c109
                                      by_cases c116 : (bt a0 x7_1) = 62
                                      · rw [if_pos c116] at H
                                        have c116b0 : ((bt a0 x7_1) == 62) = true := beq_iff_eq.mpr c116
                                        have c116b1 : ((bt a0 x7_1) != 62) = false := bne_eq_false_iff_eq.mpr c116
                                        clear c116
                                        by_cases c119 : (bt a0 (ji106)) = 62
                                        · rw [if_pos c119] at H
                                          have c119b0 : ((bt a0 (ji106)) == 62) = true := beq_iff_eq.mpr c119
                                          have c119b1 : ((bt a0 (ji106)) != 62) = false := bne_eq_false_iff_eq.mpr c119
                                          clear c119
                                          obtain ⟨ji120, hji120⟩ : ∃ j_ : Int, (wrap64 ((ji106) - 1)) = j_ := ⟨_, rfl⟩
                                          replace H : (if 0 ≤ (ji120) then (if (ji120) ≤ (wrap64 ((ji106) + 1)) then (if (wrap64 ((ji106) + 1)) ≤ (a0.size : Int) then (if x4_1.length < 4398046511104 then (ladderbackref47_Split.l0 kj39 a0 (x4_1 ++ [(⟨2, x5_37, a0.extract ((ji120) : Int).toNat ((wrap64 ((ji106) + 1)) : Int).toNat⟩ : S58)]) x5_37 false (wrap64 ((ji106) + 1))) else (none)) else (none)) else (none)) else (none)) = some (r1, r2) := by first | (rw [hji120] at H; exact H) | (simp only [hji120] at H ⊢; exact H)
                                          (try rw [hji120] at A45)
                                          have hji120w : (IntKind.i64.wrap ((ji106) - 1)) = ji120 := (i64_w _).trans hji120
                                          by_cases c121 : 0 ≤ (ji120)
                                          · rw [if_pos c121] at H
                                            have c121b0 := eq_true c121
                                            have c121b1 : decide (0 ≤ (ji120)) = true := decide_eq_true c121
                                            clear c121
                                            by_cases c122 : (ji120) ≤ (wrap64 ((ji106) + 1))
                                            · rw [if_pos c122] at H
                                              have c122b0 := eq_true c122
                                              have c122b1 : decide ((ji120) ≤ (wrap64 ((ji106) + 1))) = true := decide_eq_true c122
                                              by_cases c123 : (wrap64 ((ji106) + 1)) ≤ (a0.size : Int)
                                              · rw [if_pos c123] at H
                                                have c123b0 := eq_true c123
                                                have c123b1 : decide ((wrap64 ((ji106) + 1)) ≤ (a0.size : Int)) = true := decide_eq_true c123
                                                by_cases c124 : x4_1.length < 4398046511104
                                                · rw [if_pos c124] at H
                                                  have LMc124 := Aside0.mk c124
                                                  clear c124
                                                  obtain ⟨y149, hy149⟩ : ∃ y_ : List (S58), y_ = (x4_1 ++ [(⟨2, x5_37, a0.extract ((ji120) : Int).toNat ((wrap64 ((ji106) + 1)) : Int).toNat⟩ : S58)]) := ⟨_, rfl⟩
                                                  replace H : (ladderbackref47_Split.l0 kj39 a0 y149 x5_37 false (wrap64 ((ji106) + 1))) = some (r1, r2) := by first | (rw [hy149]; with_reducible exact H) | (have H2_ := (Option.bind_some _ _).symm.trans H; rw [hy149]; with_reducible exact H2_) | (have H2_ := (Option.bind_some _ _).symm.trans H; with_reducible exact H2_) | with_reducible exact H | (rw [hy149]; exact H) | exact H
                                                  have Ny149 := Aside0.mk hy149
                                                  clear hy149
                                                  as_aux_lemma =>
                                                    have H' := Aside0.mk H
                                                    clear H
                                                    go_wp2_with (first | ((with_reducible refine gate_callee (f := 56) rfl ?_); refine goesL_ (some 73) rfl rfl Try.func56 (by kernel_rfl) rfl #[.string (⟨#[40, 41, 91, 93, 123, 125, 44, 59, 58, 46, 43, 45, 42, 47, 61, 60, 62]⟩ : ByteArray), .int .u8 (bt a0 x7_1)] rfl (by (try simp only [List.map_toArray, List.map_cons, List.map_nil]); first | done | rfl | (simp only [List.length_drop, List.length_take]; rfl)) ?_; (with_reducible refine (ladderbackref47_in.calls kj39 (⟨#[40, 41, 91, 93, 123, 125, 44, 59, 58, 46, 43, 45, 42, 47, 61, 60, 62]⟩ : ByteArray) (bt a0 x7_1) true _ A45.out).mono ?_); rintro e w' ⟨rfl, ⟨nd, rfl⟩⟩; refine ⟨_, rfl, ?_⟩; have p108 : 0 ≤ ((ji106) : Int) := of_decide_eq_true (by first | (with_reducible assumption) | assumption); have q108 : (ji106) < (a0.size : Int) := of_decide_eq_true (by first | (with_reducible assumption) | assumption); have hx108 := bt_at a0 (ji106); replace p108 := eq_true p108; replace q108 := eq_true q108; have p117 : 0 ≤ ((ji106) : Int) := of_decide_eq_true (by first | (with_reducible assumption) | assumption); have q117 : (ji106) < (a0.size : Int) := of_decide_eq_true (by first | (with_reducible assumption) | assumption); have hx117 := bt_at a0 (ji106); replace p117 := eq_true p117; replace q117 := eq_true q117; have p118 : 0 ≤ ((ji106) : Int) := of_decide_eq_true (by first | (with_reducible assumption) | assumption); have q118 : (ji106) < (a0.size : Int) := of_decide_eq_true (by first | (with_reducible assumption) | assumption); have hx118 := bt_at a0 (ji106); replace p118 := eq_true p118; replace q118 := eq_true q118) | ((with_reducible refine gate_builtin (b := .append) (xs := #[.tmp 123, .tmp 132]) rfl ?_); at_builtin; refine Kd.R_append k58 (w0 := w) w.heap.size rfl (.tmp 123) (.tmp 132) 52 58 (.agg #[(.int .i64 0), (.int .i64 0), (.string ⟨#[]⟩)]) 32 rfl Try.underlying52 info58 rfl (by decide) (by omega) u4 x4_1 (⟨2, x5_37, a0.extract ((ji120) : Int).toNat ((wrap64 ((ji106) + 1)) : Int).toNat⟩ : S58) [.int .i64 2, .int .i64 x5_37, .string (a0.extract ((ji120) : Int).toNat ((wrap64 ((ji106) + 1)) : Int).toNat)] (fun _ => True) (fun _ => False) rfl rfl ?aP (fun _ hk => hk.elim) ?aF ?aO ?aB ?aS ?aL ?_; (case aP => exact k58_mkM _ _ _ (⟨2, x5_37, a0.extract ((ji120) : Int).toNat ((wrap64 ((ji106) + 1)) : Int).toNat⟩ : S58)); (case aB => exact (by repeat (first | (with_reducible first | exact HB.out | apply below_alloc | apply pw_below_drewN | apply below_drew1) | exact HB.out))); (case aF => exact (fun _ _ => trivial)); (case aO => exact (by (with_reducible repeat (first | apply Kd.R_alloc | apply Kd.R_drewN | apply Kd.R_drew)); exact HO_4.out)); (case aS => exact (below_size (by repeat (first | (with_reducible first | exact HB.out | apply below_alloc | apply pw_below_drewN | apply below_drew1) | exact HB.out)))); (case aL => have := LMc124.out; omega); intro v150 w125 ho hb hg hat; rw [← Ny149.out] at ho; have n0_ := Aside0.mk (hb); have n1_ := Aside0.mk (ho); clear HB; clear HO_4; have HB := n0_; have HO151 := n1_; clear n0_ n1_; clear ho hb hg hat))
                                                    go_roundg kj39
                                                    case measure => have := HK1.out; have := HJ4.out; have := HJ37.out; have := HJ39.out; omega
                                                    case rel => exact ⟨(y149), (x5_37), (false), (wrap64 ((ji106) + 1)), (by first | rfl | (simp; done) | (simp [*]; done)), (by first | rfl | (simp; done) | (simp [*]; done)), (by first | rfl | (simp; done) | (simp only [← hji106] <;> (first | rfl | simp)) | (simp [*]; done)), H', ⟨by have := HK1.out; have := HJ4.out; have := HJ37.out; have := HJ39.out; omega⟩, ⟨by (with_reducible repeat (first | apply Kd.R_alloc | apply Kd.R_drewN | apply Kd.R_drew)); exact HO151.out⟩, ⟨by repeat (first | (with_reducible first | exact HB.out | apply below_alloc | apply pw_below_drewN | apply below_drew1) | exact HB.out)⟩⟩
                                                · rw [if_neg c124] at H
                                                  exact absurd H (by simp)
                                              · rw [if_neg c123] at H
                                                exact absurd H (by simp)
                                            · rw [if_neg c122] at H
                                              exact absurd H (by simp)
                                          · rw [if_neg c121] at H
                                            exact absurd H (by simp)
                                        · rw [if_neg c119] at H
                                          have c119b0 : ((bt a0 (ji106)) == 62) = false := beq_eq_false_iff_ne.mpr c119
                                          have c119b1 : ((bt a0 (ji106)) != 62) = true := bne_iff_ne.mpr c119
                                          obtain ⟨ji126, hji126⟩ : ∃ j_ : Int, (wrap64 ((ji106) - 1)) = j_ := ⟨_, rfl⟩
                                          replace H : (if 0 ≤ (ji126) then (if (ji126) ≤ (ji106) then (if (ji106) ≤ (a0.size : Int) then (if x4_1.length < 4398046511104 then (ladderbackref47_Split.l0 kj39 a0 (x4_1 ++ [(⟨2, x5_37, a0.extract ((ji126) : Int).toNat ((ji106) : Int).toNat⟩ : S58)]) x5_37 false ji106) else (none)) else (none)) else (none)) else (none)) = some (r1, r2) := by first | (rw [hji126] at H; exact H) | (simp only [hji126] at H ⊢; exact H)
                                          (try rw [hji126] at A45)
                                          have hji126w : (IntKind.i64.wrap ((ji106) - 1)) = ji126 := (i64_w _).trans hji126
                                          by_cases c127 : 0 ≤ (ji126)
                                          · rw [if_pos c127] at H
                                            have c127b0 := eq_true c127
                                            have c127b1 : decide (0 ≤ (ji126)) = true := decide_eq_true c127
                                            clear c127
                                            by_cases c128 : (ji126) ≤ (ji106)
                                            · rw [if_pos c128] at H
                                              have c128b0 := eq_true c128
                                              have c128b1 : decide ((ji126) ≤ (ji106)) = true := decide_eq_true c128
                                              clear c128
                                              by_cases c129 : (ji106) ≤ (a0.size : Int)
                                              · rw [if_pos c129] at H
                                                have c129b0 := eq_true c129
                                                have c129b1 : decide ((ji106) ≤ (a0.size : Int)) = true := decide_eq_true c129
                                                clear c129
                                                by_cases c130 : x4_1.length < 4398046511104
                                                · rw [if_pos c130] at H
                                                  have LMc130 := Aside0.mk c130
                                                  clear c130
                                                  obtain ⟨y152, hy152⟩ : ∃ y_ : List (S58), y_ = (x4_1 ++ [(⟨2, x5_37, a0.extract ((ji126) : Int).toNat ((ji106) : Int).toNat⟩ : S58)]) := ⟨_, rfl⟩
                                                  replace H : (ladderbackref47_Split.l0 kj39 a0 y152 x5_37 false ji106) = some (r1, r2) := by first | (rw [hy152]; with_reducible exact H) | (have H2_ := (Option.bind_some _ _).symm.trans H; rw [hy152]; with_reducible exact H2_) | (have H2_ := (Option.bind_some _ _).symm.trans H; with_reducible exact H2_) | with_reducible exact H | (rw [hy152]; exact H) | exact H
                                                  have Ny152 := Aside0.mk hy152
                                                  clear hy152
                                                  as_aux_lemma =>
                                                    have H' := Aside0.mk H
                                                    clear H
                                                    go_wp2_with (first | ((with_reducible refine gate_callee (f := 56) rfl ?_); refine goesL_ (some 73) rfl rfl Try.func56 (by kernel_rfl) rfl #[.string (⟨#[40, 41, 91, 93, 123, 125, 44, 59, 58, 46, 43, 45, 42, 47, 61, 60, 62]⟩ : ByteArray), .int .u8 (bt a0 x7_1)] rfl (by (try simp only [List.map_toArray, List.map_cons, List.map_nil]); first | done | rfl | (simp only [List.length_drop, List.length_take]; rfl)) ?_; (with_reducible refine (ladderbackref47_in.calls kj39 (⟨#[40, 41, 91, 93, 123, 125, 44, 59, 58, 46, 43, 45, 42, 47, 61, 60, 62]⟩ : ByteArray) (bt a0 x7_1) true _ A45.out).mono ?_); rintro e w' ⟨rfl, ⟨nd, rfl⟩⟩; refine ⟨_, rfl, ?_⟩; have p108 : 0 ≤ ((ji106) : Int) := of_decide_eq_true (by first | (with_reducible assumption) | assumption); have q108 : (ji106) < (a0.size : Int) := of_decide_eq_true (by first | (with_reducible assumption) | assumption); have hx108 := bt_at a0 (ji106); replace p108 := eq_true p108; replace q108 := eq_true q108; have p117 : 0 ≤ ((ji106) : Int) := of_decide_eq_true (by first | (with_reducible assumption) | assumption); have q117 : (ji106) < (a0.size : Int) := of_decide_eq_true (by first | (with_reducible assumption) | assumption); have hx117 := bt_at a0 (ji106); replace p117 := eq_true p117; replace q117 := eq_true q117; have p118 : 0 ≤ ((ji106) : Int) := of_decide_eq_true (by first | (with_reducible assumption) | assumption); have q118 : (ji106) < (a0.size : Int) := of_decide_eq_true (by first | (with_reducible assumption) | assumption); have hx118 := bt_at a0 (ji106); replace p118 := eq_true p118; replace q118 := eq_true q118) | ((with_reducible refine gate_builtin (b := .append) (xs := #[.tmp 123, .tmp 132]) rfl ?_); at_builtin; refine Kd.R_append k58 (w0 := w) w.heap.size rfl (.tmp 123) (.tmp 132) 52 58 (.agg #[(.int .i64 0), (.int .i64 0), (.string ⟨#[]⟩)]) 32 rfl Try.underlying52 info58 rfl (by decide) (by omega) u4 x4_1 (⟨2, x5_37, a0.extract ((ji126) : Int).toNat ((ji106) : Int).toNat⟩ : S58) [.int .i64 2, .int .i64 x5_37, .string (a0.extract ((ji126) : Int).toNat ((ji106) : Int).toNat)] (fun _ => True) (fun _ => False) rfl rfl ?aP (fun _ hk => hk.elim) ?aF ?aO ?aB ?aS ?aL ?_; (case aP => exact k58_mkM _ _ _ (⟨2, x5_37, a0.extract ((ji126) : Int).toNat ((ji106) : Int).toNat⟩ : S58)); (case aB => exact (by repeat (first | (with_reducible first | exact HB.out | apply below_alloc | apply pw_below_drewN | apply below_drew1) | exact HB.out))); (case aF => exact (fun _ _ => trivial)); (case aO => exact (by (with_reducible repeat (first | apply Kd.R_alloc | apply Kd.R_drewN | apply Kd.R_drew)); exact HO_4.out)); (case aS => exact (below_size (by repeat (first | (with_reducible first | exact HB.out | apply below_alloc | apply pw_below_drewN | apply below_drew1) | exact HB.out)))); (case aL => have := LMc130.out; omega); intro v153 w131 ho hb hg hat; rw [← Ny152.out] at ho; have n0_ := Aside0.mk (hb); have n1_ := Aside0.mk (ho); clear HB; clear HO_4; have HB := n0_; have HO154 := n1_; clear n0_ n1_; clear ho hb hg hat))
                                                    go_roundg kj39
                                                    case measure => have := HK1.out; have := HJ4.out; have := HJ37.out; have := HJ39.out; omega
                                                    case rel => exact ⟨(y152), (x5_37), (false), (ji106), (by first | rfl | (simp; done) | (simp [*]; done)), (by first | rfl | (simp; done) | (simp [*]; done)), (by first | rfl | (simp; done) | (simp only [← hji106] <;> (first | rfl | simp)) | (simp [*]; done)), H', ⟨by have := HK1.out; have := HJ4.out; have := HJ37.out; have := HJ39.out; omega⟩, ⟨by (with_reducible repeat (first | apply Kd.R_alloc | apply Kd.R_drewN | apply Kd.R_drew)); exact HO154.out⟩, ⟨by repeat (first | (with_reducible first | exact HB.out | apply below_alloc | apply pw_below_drewN | apply below_drew1) | exact HB.out)⟩⟩
                                                · rw [if_neg c130] at H
                                                  exact absurd H (by simp)
                                              · rw [if_neg c129] at H
                                                exact absurd H (by simp)
                                            · rw [if_neg c128] at H
                                              exact absurd H (by simp)
                                          · rw [if_neg c127] at H
                                            exact absurd H (by simp)
                                      · rw [if_neg c116] at H
                                        have c116b0 : ((bt a0 x7_1) == 62) = false := beq_eq_false_iff_ne.mpr c116
                                        have c116b1 : ((bt a0 x7_1) != 62) = true := bne_iff_ne.mpr c116
                                        by_cases c133 : (bt a0 (ji106)) = 62
                                        · rw [if_pos c133] at H
                                          have c133b0 : ((bt a0 (ji106)) == 62) = true := beq_iff_eq.mpr c133
                                          have c133b1 : ((bt a0 (ji106)) != 62) = false := bne_eq_false_iff_eq.mpr c133
                                          clear c133
                                          obtain ⟨ji134, hji134⟩ : ∃ j_ : Int, (wrap64 ((ji106) - 1)) = j_ := ⟨_, rfl⟩
                                          replace H : (if 0 ≤ (ji134) then (if (ji134) ≤ (wrap64 ((ji106) + 1)) then (if (wrap64 ((ji106) + 1)) ≤ (a0.size : Int) then (if x4_1.length < 4398046511104 then (ladderbackref47_Split.l0 kj39 a0 (x4_1 ++ [(⟨2, x5_37, a0.extract ((ji134) : Int).toNat ((wrap64 ((ji106) + 1)) : Int).toNat⟩ : S58)]) x5_37 false (wrap64 ((ji106) + 1))) else (none)) else (none)) else (none)) else (none)) = some (r1, r2) := by first | (rw [hji134] at H; exact H) | (simp only [hji134] at H ⊢; exact H)
                                          (try rw [hji134] at A45)
                                          have hji134w : (IntKind.i64.wrap ((ji106) - 1)) = ji134 := (i64_w _).trans hji134
                                          by_cases c135 : 0 ≤ (ji134)
                                          · rw [if_pos c135] at H
                                            have c135b0 := eq_true c135
                                            have c135b1 : decide (0 ≤ (ji134)) = true := decide_eq_true c135
                                            clear c135
                                            by_cases c136 : (ji134) ≤ (wrap64 ((ji106) + 1))
                                            · rw [if_pos c136] at H
                                              have c136b0 := eq_true c136
                                              have c136b1 : decide ((ji134) ≤ (wrap64 ((ji106) + 1))) = true := decide_eq_true c136
                                              by_cases c137 : (wrap64 ((ji106) + 1)) ≤ (a0.size : Int)
                                              · rw [if_pos c137] at H
                                                have c137b0 := eq_true c137
                                                have c137b1 : decide ((wrap64 ((ji106) + 1)) ≤ (a0.size : Int)) = true := decide_eq_true c137
                                                by_cases c138 : x4_1.length < 4398046511104
                                                · rw [if_pos c138] at H
                                                  have LMc138 := Aside0.mk c138
                                                  clear c138
                                                  obtain ⟨y155, hy155⟩ : ∃ y_ : List (S58), y_ = (x4_1 ++ [(⟨2, x5_37, a0.extract ((ji134) : Int).toNat ((wrap64 ((ji106) + 1)) : Int).toNat⟩ : S58)]) := ⟨_, rfl⟩
                                                  replace H : (ladderbackref47_Split.l0 kj39 a0 y155 x5_37 false (wrap64 ((ji106) + 1))) = some (r1, r2) := by first | (rw [hy155]; with_reducible exact H) | (have H2_ := (Option.bind_some _ _).symm.trans H; rw [hy155]; with_reducible exact H2_) | (have H2_ := (Option.bind_some _ _).symm.trans H; with_reducible exact H2_) | with_reducible exact H | (rw [hy155]; exact H) | exact H
                                                  have Ny155 := Aside0.mk hy155
                                                  clear hy155
                                                  as_aux_lemma =>
                                                    have H' := Aside0.mk H
                                                    clear H
                                                    go_wp2_with (first | ((with_reducible refine gate_callee (f := 56) rfl ?_); refine goesL_ (some 73) rfl rfl Try.func56 (by kernel_rfl) rfl #[.string (⟨#[40, 41, 91, 93, 123, 125, 44, 59, 58, 46, 43, 45, 42, 47, 61, 60, 62]⟩ : ByteArray), .int .u8 (bt a0 x7_1)] rfl (by (try simp only [List.map_toArray, List.map_cons, List.map_nil]); first | done | rfl | (simp only [List.length_drop, List.length_take]; rfl)) ?_; (with_reducible refine (ladderbackref47_in.calls kj39 (⟨#[40, 41, 91, 93, 123, 125, 44, 59, 58, 46, 43, 45, 42, 47, 61, 60, 62]⟩ : ByteArray) (bt a0 x7_1) true _ A45.out).mono ?_); rintro e w' ⟨rfl, ⟨nd, rfl⟩⟩; refine ⟨_, rfl, ?_⟩; have p108 : 0 ≤ ((ji106) : Int) := of_decide_eq_true (by first | (with_reducible assumption) | assumption); have q108 : (ji106) < (a0.size : Int) := of_decide_eq_true (by first | (with_reducible assumption) | assumption); have hx108 := bt_at a0 (ji106); replace p108 := eq_true p108; replace q108 := eq_true q108; have p132 : 0 ≤ ((ji106) : Int) := of_decide_eq_true (by first | (with_reducible assumption) | assumption); have q132 : (ji106) < (a0.size : Int) := of_decide_eq_true (by first | (with_reducible assumption) | assumption); have hx132 := bt_at a0 (ji106); replace p132 := eq_true p132; replace q132 := eq_true q132) | ((with_reducible refine gate_builtin (b := .append) (xs := #[.tmp 123, .tmp 132]) rfl ?_); at_builtin; refine Kd.R_append k58 (w0 := w) w.heap.size rfl (.tmp 123) (.tmp 132) 52 58 (.agg #[(.int .i64 0), (.int .i64 0), (.string ⟨#[]⟩)]) 32 rfl Try.underlying52 info58 rfl (by decide) (by omega) u4 x4_1 (⟨2, x5_37, a0.extract ((ji134) : Int).toNat ((wrap64 ((ji106) + 1)) : Int).toNat⟩ : S58) [.int .i64 2, .int .i64 x5_37, .string (a0.extract ((ji134) : Int).toNat ((wrap64 ((ji106) + 1)) : Int).toNat)] (fun _ => True) (fun _ => False) rfl rfl ?aP (fun _ hk => hk.elim) ?aF ?aO ?aB ?aS ?aL ?_; (case aP => exact k58_mkM _ _ _ (⟨2, x5_37, a0.extract ((ji134) : Int).toNat ((wrap64 ((ji106) + 1)) : Int).toNat⟩ : S58)); (case aB => exact (by repeat (first | (with_reducible first | exact HB.out | apply below_alloc | apply pw_below_drewN | apply below_drew1) | exact HB.out))); (case aF => exact (fun _ _ => trivial)); (case aO => exact (by (with_reducible repeat (first | apply Kd.R_alloc | apply Kd.R_drewN | apply Kd.R_drew)); exact HO_4.out)); (case aS => exact (below_size (by repeat (first | (with_reducible first | exact HB.out | apply below_alloc | apply pw_below_drewN | apply below_drew1) | exact HB.out)))); (case aL => have := LMc138.out; omega); intro v156 w139 ho hb hg hat; rw [← Ny155.out] at ho; have n0_ := Aside0.mk (hb); have n1_ := Aside0.mk (ho); clear HB; clear HO_4; have HB := n0_; have HO157 := n1_; clear n0_ n1_; clear ho hb hg hat))
                                                    go_roundg kj39
                                                    case measure => have := HK1.out; have := HJ4.out; have := HJ37.out; have := HJ39.out; omega
                                                    case rel => exact ⟨(y155), (x5_37), (false), (wrap64 ((ji106) + 1)), (by first | rfl | (simp; done) | (simp [*]; done)), (by first | rfl | (simp; done) | (simp [*]; done)), (by first | rfl | (simp; done) | (simp only [← hji106] <;> (first | rfl | simp)) | (simp [*]; done)), H', ⟨by have := HK1.out; have := HJ4.out; have := HJ37.out; have := HJ39.out; omega⟩, ⟨by (with_reducible repeat (first | apply Kd.R_alloc | apply Kd.R_drewN | apply Kd.R_drew)); exact HO157.out⟩, ⟨by repeat (first | (with_reducible first | exact HB.out | apply below_alloc | apply pw_below_drewN | apply below_drew1) | exact HB.out)⟩⟩
                                                · rw [if_neg c138] at H
                                                  exact absurd H (by simp)
                                              · rw [if_neg c137] at H
                                                exact absurd H (by simp)
                                            · rw [if_neg c136] at H
                                              exact absurd H (by simp)
                                          · rw [if_neg c135] at H
                                            exact absurd H (by simp)
                                        · rw [if_neg c133] at H
                                          have c133b0 : ((bt a0 (ji106)) == 62) = false := beq_eq_false_iff_ne.mpr c133
                                          have c133b1 : ((bt a0 (ji106)) != 62) = true := bne_iff_ne.mpr c133
                                          obtain ⟨ji140, hji140⟩ : ∃ j_ : Int, (wrap64 ((ji106) - 1)) = j_ := ⟨_, rfl⟩
                                          replace H : (if 0 ≤ (ji140) then (if (ji140) ≤ (ji106) then (if (ji106) ≤ (a0.size : Int) then (if x4_1.length < 4398046511104 then (ladderbackref47_Split.l0 kj39 a0 (x4_1 ++ [(⟨2, x5_37, a0.extract ((ji140) : Int).toNat ((ji106) : Int).toNat⟩ : S58)]) x5_37 false ji106) else (none)) else (none)) else (none)) else (none)) = some (r1, r2) := by first | (rw [hji140] at H; exact H) | (simp only [hji140] at H ⊢; exact H)
                                          (try rw [hji140] at A45)
                                          have hji140w : (IntKind.i64.wrap ((ji106) - 1)) = ji140 := (i64_w _).trans hji140
                                          by_cases c141 : 0 ≤ (ji140)
                                          · rw [if_pos c141] at H
                                            have c141b0 := eq_true c141
                                            have c141b1 : decide (0 ≤ (ji140)) = true := decide_eq_true c141
                                            clear c141
                                            by_cases c142 : (ji140) ≤ (ji106)
                                            · rw [if_pos c142] at H
                                              have c142b0 := eq_true c142
                                              have c142b1 : decide ((ji140) ≤ (ji106)) = true := decide_eq_true c142
                                              clear c142
                                              by_cases c143 : (ji106) ≤ (a0.size : Int)
                                              · rw [if_pos c143] at H
                                                have c143b0 := eq_true c143
                                                have c143b1 : decide ((ji106) ≤ (a0.size : Int)) = true := decide_eq_true c143
                                                clear c143
                                                by_cases c144 : x4_1.length < 4398046511104
                                                · rw [if_pos c144] at H
                                                  have LMc144 := Aside0.mk c144
                                                  clear c144
                                                  obtain ⟨y158, hy158⟩ : ∃ y_ : List (S58), y_ = (x4_1 ++ [(⟨2, x5_37, a0.extract ((ji140) : Int).toNat ((ji106) : Int).toNat⟩ : S58)]) := ⟨_, rfl⟩
                                                  replace H : (ladderbackref47_Split.l0 kj39 a0 y158 x5_37 false ji106) = some (r1, r2) := by first | (rw [hy158]; with_reducible exact H) | (have H2_ := (Option.bind_some _ _).symm.trans H; rw [hy158]; with_reducible exact H2_) | (have H2_ := (Option.bind_some _ _).symm.trans H; with_reducible exact H2_) | with_reducible exact H | (rw [hy158]; exact H) | exact H
                                                  have Ny158 := Aside0.mk hy158
                                                  clear hy158
                                                  as_aux_lemma =>
                                                    have H' := Aside0.mk H
                                                    clear H
                                                    go_wp2_with (first | ((with_reducible refine gate_callee (f := 56) rfl ?_); refine goesL_ (some 73) rfl rfl Try.func56 (by kernel_rfl) rfl #[.string (⟨#[40, 41, 91, 93, 123, 125, 44, 59, 58, 46, 43, 45, 42, 47, 61, 60, 62]⟩ : ByteArray), .int .u8 (bt a0 x7_1)] rfl (by (try simp only [List.map_toArray, List.map_cons, List.map_nil]); first | done | rfl | (simp only [List.length_drop, List.length_take]; rfl)) ?_; (with_reducible refine (ladderbackref47_in.calls kj39 (⟨#[40, 41, 91, 93, 123, 125, 44, 59, 58, 46, 43, 45, 42, 47, 61, 60, 62]⟩ : ByteArray) (bt a0 x7_1) true _ A45.out).mono ?_); rintro e w' ⟨rfl, ⟨nd, rfl⟩⟩; refine ⟨_, rfl, ?_⟩; have p108 : 0 ≤ ((ji106) : Int) := of_decide_eq_true (by first | (with_reducible assumption) | assumption); have q108 : (ji106) < (a0.size : Int) := of_decide_eq_true (by first | (with_reducible assumption) | assumption); have hx108 := bt_at a0 (ji106); replace p108 := eq_true p108; replace q108 := eq_true q108; have p132 : 0 ≤ ((ji106) : Int) := of_decide_eq_true (by first | (with_reducible assumption) | assumption); have q132 : (ji106) < (a0.size : Int) := of_decide_eq_true (by first | (with_reducible assumption) | assumption); have hx132 := bt_at a0 (ji106); replace p132 := eq_true p132; replace q132 := eq_true q132) | ((with_reducible refine gate_builtin (b := .append) (xs := #[.tmp 123, .tmp 132]) rfl ?_); at_builtin; refine Kd.R_append k58 (w0 := w) w.heap.size rfl (.tmp 123) (.tmp 132) 52 58 (.agg #[(.int .i64 0), (.int .i64 0), (.string ⟨#[]⟩)]) 32 rfl Try.underlying52 info58 rfl (by decide) (by omega) u4 x4_1 (⟨2, x5_37, a0.extract ((ji140) : Int).toNat ((ji106) : Int).toNat⟩ : S58) [.int .i64 2, .int .i64 x5_37, .string (a0.extract ((ji140) : Int).toNat ((ji106) : Int).toNat)] (fun _ => True) (fun _ => False) rfl rfl ?aP (fun _ hk => hk.elim) ?aF ?aO ?aB ?aS ?aL ?_; (case aP => exact k58_mkM _ _ _ (⟨2, x5_37, a0.extract ((ji140) : Int).toNat ((ji106) : Int).toNat⟩ : S58)); (case aB => exact (by repeat (first | (with_reducible first | exact HB.out | apply below_alloc | apply pw_below_drewN | apply below_drew1) | exact HB.out))); (case aF => exact (fun _ _ => trivial)); (case aO => exact (by (with_reducible repeat (first | apply Kd.R_alloc | apply Kd.R_drewN | apply Kd.R_drew)); exact HO_4.out)); (case aS => exact (below_size (by repeat (first | (with_reducible first | exact HB.out | apply below_alloc | apply pw_below_drewN | apply below_drew1) | exact HB.out)))); (case aL => have := LMc144.out; omega); intro v159 w145 ho hb hg hat; rw [← Ny158.out] at ho; have n0_ := Aside0.mk (hb); have n1_ := Aside0.mk (ho); clear HB; clear HO_4; have HB := n0_; have HO160 := n1_; clear n0_ n1_; clear ho hb hg hat))
                                                    go_roundg kj39
                                                    case measure => have := HK1.out; have := HJ4.out; have := HJ37.out; have := HJ39.out; omega
                                                    case rel => exact ⟨(y158), (x5_37), (false), (ji106), (by first | rfl | (simp; done) | (simp [*]; done)), (by first | rfl | (simp; done) | (simp [*]; done)), (by first | rfl | (simp; done) | (simp only [← hji106] <;> (first | rfl | simp)) | (simp [*]; done)), H', ⟨by have := HK1.out; have := HJ4.out; have := HJ37.out; have := HJ39.out; omega⟩, ⟨by (with_reducible repeat (first | apply Kd.R_alloc | apply Kd.R_drewN | apply Kd.R_drew)); exact HO160.out⟩, ⟨by repeat (first | (with_reducible first | exact HB.out | apply below_alloc | apply pw_below_drewN | apply below_drew1) | exact HB.out)⟩⟩
                                                · rw [if_neg c144] at H
                                                  exact absurd H (by simp)
                                              · rw [if_neg c143] at H
                                                exact absurd H (by simp)
                                            · rw [if_neg c142] at H
                                              exact absurd H (by simp)
                                          · rw [if_neg c141] at H
                                            exact absurd H (by simp)
                                  · rw [if_neg c107] at H
                                    exact absurd H (by simp)
                                · rw [if_neg c105] at H
                                  have c105b0 : ((bt a0 x7_1) == 60) = false := beq_eq_false_iff_ne.mpr c105
                                  have c105b1 : ((bt a0 x7_1) != 60) = true := bne_iff_ne.mpr c105
                                  by_cases c146 : (bt a0 x7_1) = 62
                                  · rw [if_pos c146] at H
                                    have c146b0 : ((bt a0 x7_1) == 62) = true := beq_iff_eq.mpr c146
                                    have c146b1 : ((bt a0 x7_1) != 62) = false := bne_eq_false_iff_eq.mpr c146
                                    clear c146
                                    obtain ⟨ji147, hji147⟩ : ∃ j_ : Int, (wrap64 (x7_1 + 1)) = j_ := ⟨_, rfl⟩
                                    replace H : (if 0 ≤ (ji147) then (if (bt a0 (ji147)) = 61 then (if 0 ≤ (wrap64 ((ji147) - 1)) then (if (wrap64 ((ji147) - 1)) ≤ (wrap64 ((ji147) + 1)) then (if (wrap64 ((ji147) + 1)) ≤ (a0.size : Int) then (if x4_1.length < 4398046511104 then (ladderbackref47_Split.l0 kj39 a0 (x4_1 ++ [(⟨2, x5_37, a0.extract ((wrap64 ((ji147) - 1)) : Int).toNat ((wrap64 ((ji147) + 1)) : Int).toNat⟩ : S58)]) x5_37 false (wrap64 ((ji147) + 1))) else (none)) else (none)) else (none)) else (none)) else (if 0 ≤ (wrap64 ((ji147) - 1)) then (if (wrap64 ((ji147) - 1)) ≤ (ji147) then (if (ji147) ≤ (a0.size : Int) then (if x4_1.length < 4398046511104 then (ladderbackref47_Split.l0 kj39 a0 (x4_1 ++ [(⟨2, x5_37, a0.extract ((wrap64 ((ji147) - 1)) : Int).toNat ((ji147) : Int).toNat⟩ : S58)]) x5_37 false ji147) else (none)) else (none)) else (none)) else (none))) else (none)) = some (r1, r2) := by first | (rw [hji147] at H; exact H) | (simp only [hji147] at H ⊢; exact H)
                                    (try rw [hji147] at c47b0)
                                    (try rw [hji147] at A45)
                                    have hji147w : (IntKind.i64.wrap (x7_1 + 1)) = ji147 := (i64_w _).trans hji147
                                    by_cases c148 : 0 ≤ (ji147)
                                    · rw [if_pos c148] at H
                                      have c148b0 : decide (0 ≤ (ji147)) = true := decide_eq_true c148
                                      clear c148
                                      by_cases c150 : (bt a0 (ji147)) = 61
                                      · rw [if_pos c150] at H
                                        have c150b0 : ((bt a0 (ji147)) == 61) = true := beq_iff_eq.mpr c150
                                        have c150b1 : ((bt a0 (ji147)) != 61) = false := bne_eq_false_iff_eq.mpr c150
                                        clear c150
                                        obtain ⟨ji151, hji151⟩ : ∃ j_ : Int, (wrap64 ((ji147) - 1)) = j_ := ⟨_, rfl⟩
                                        replace H : (if 0 ≤ (ji151) then (if (ji151) ≤ (wrap64 ((ji147) + 1)) then (if (wrap64 ((ji147) + 1)) ≤ (a0.size : Int) then (if x4_1.length < 4398046511104 then (ladderbackref47_Split.l0 kj39 a0 (x4_1 ++ [(⟨2, x5_37, a0.extract ((ji151) : Int).toNat ((wrap64 ((ji147) + 1)) : Int).toNat⟩ : S58)]) x5_37 false (wrap64 ((ji147) + 1))) else (none)) else (none)) else (none)) else (none)) = some (r1, r2) := by first | (rw [hji151] at H; exact H) | (simp only [hji151] at H ⊢; exact H)
                                        (try rw [hji151] at A45)
                                        have hji151w : (IntKind.i64.wrap ((ji147) - 1)) = ji151 := (i64_w _).trans hji151
                                        by_cases c152 : 0 ≤ (ji151)
                                        · rw [if_pos c152] at H
                                          have c152b0 := eq_true c152
                                          have c152b1 : decide (0 ≤ (ji151)) = true := decide_eq_true c152
                                          clear c152
                                          by_cases c153 : (ji151) ≤ (wrap64 ((ji147) + 1))
                                          · rw [if_pos c153] at H
                                            have c153b0 := eq_true c153
                                            have c153b1 : decide ((ji151) ≤ (wrap64 ((ji147) + 1))) = true := decide_eq_true c153
                                            by_cases c154 : (wrap64 ((ji147) + 1)) ≤ (a0.size : Int)
                                            · rw [if_pos c154] at H
                                              have c154b0 := eq_true c154
                                              have c154b1 : decide ((wrap64 ((ji147) + 1)) ≤ (a0.size : Int)) = true := decide_eq_true c154
                                              by_cases c155 : x4_1.length < 4398046511104
                                              · rw [if_pos c155] at H
                                                have LMc155 := Aside0.mk c155
                                                clear c155
                                                obtain ⟨y161, hy161⟩ : ∃ y_ : List (S58), y_ = (x4_1 ++ [(⟨2, x5_37, a0.extract ((ji151) : Int).toNat ((wrap64 ((ji147) + 1)) : Int).toNat⟩ : S58)]) := ⟨_, rfl⟩
                                                replace H : (ladderbackref47_Split.l0 kj39 a0 y161 x5_37 false (wrap64 ((ji147) + 1))) = some (r1, r2) := by first | (rw [hy161]; with_reducible exact H) | (have H2_ := (Option.bind_some _ _).symm.trans H; rw [hy161]; with_reducible exact H2_) | (have H2_ := (Option.bind_some _ _).symm.trans H; with_reducible exact H2_) | with_reducible exact H | (rw [hy161]; exact H) | exact H
                                                have Ny161 := Aside0.mk hy161
                                                clear hy161
                                                as_aux_lemma =>
                                                  have H' := Aside0.mk H
                                                  clear H
                                                  go_wp2_with (first | ((with_reducible refine gate_callee (f := 56) rfl ?_); refine goesL_ (some 73) rfl rfl Try.func56 (by kernel_rfl) rfl #[.string (⟨#[40, 41, 91, 93, 123, 125, 44, 59, 58, 46, 43, 45, 42, 47, 61, 60, 62]⟩ : ByteArray), .int .u8 (bt a0 x7_1)] rfl (by (try simp only [List.map_toArray, List.map_cons, List.map_nil]); first | done | rfl | (simp only [List.length_drop, List.length_take]; rfl)) ?_; (with_reducible refine (ladderbackref47_in.calls kj39 (⟨#[40, 41, 91, 93, 123, 125, 44, 59, 58, 46, 43, 45, 42, 47, 61, 60, 62]⟩ : ByteArray) (bt a0 x7_1) true _ A45.out).mono ?_); rintro e w' ⟨rfl, ⟨nd, rfl⟩⟩; refine ⟨_, rfl, ?_⟩; have p149 : 0 ≤ ((ji147) : Int) := of_decide_eq_true (by first | (with_reducible assumption) | assumption); have q149 : (ji147) < (a0.size : Int) := of_decide_eq_true (by first | (with_reducible assumption) | assumption); have hx149 := bt_at a0 (ji147); replace p149 := eq_true p149; replace q149 := eq_true q149) | ((with_reducible refine gate_builtin (b := .append) (xs := #[.tmp 123, .tmp 132]) rfl ?_); at_builtin; refine Kd.R_append k58 (w0 := w) w.heap.size rfl (.tmp 123) (.tmp 132) 52 58 (.agg #[(.int .i64 0), (.int .i64 0), (.string ⟨#[]⟩)]) 32 rfl Try.underlying52 info58 rfl (by decide) (by omega) u4 x4_1 (⟨2, x5_37, a0.extract ((ji151) : Int).toNat ((wrap64 ((ji147) + 1)) : Int).toNat⟩ : S58) [.int .i64 2, .int .i64 x5_37, .string (a0.extract ((ji151) : Int).toNat ((wrap64 ((ji147) + 1)) : Int).toNat)] (fun _ => True) (fun _ => False) rfl rfl ?aP (fun _ hk => hk.elim) ?aF ?aO ?aB ?aS ?aL ?_; (case aP => exact k58_mkM _ _ _ (⟨2, x5_37, a0.extract ((ji151) : Int).toNat ((wrap64 ((ji147) + 1)) : Int).toNat⟩ : S58)); (case aB => exact (by repeat (first | (with_reducible first | exact HB.out | apply below_alloc | apply pw_below_drewN | apply below_drew1) | exact HB.out))); (case aF => exact (fun _ _ => trivial)); (case aO => exact (by (with_reducible repeat (first | apply Kd.R_alloc | apply Kd.R_drewN | apply Kd.R_drew)); exact HO_4.out)); (case aS => exact (below_size (by repeat (first | (with_reducible first | exact HB.out | apply below_alloc | apply pw_below_drewN | apply below_drew1) | exact HB.out)))); (case aL => have := LMc155.out; omega); intro v162 w156 ho hb hg hat; rw [← Ny161.out] at ho; have n0_ := Aside0.mk (hb); have n1_ := Aside0.mk (ho); clear HB; clear HO_4; have HB := n0_; have HO163 := n1_; clear n0_ n1_; clear ho hb hg hat))
                                                  go_roundg kj39
                                                  case measure => have := HK1.out; have := HJ4.out; have := HJ37.out; have := HJ39.out; omega
                                                  case rel => exact ⟨(y161), (x5_37), (false), (wrap64 ((ji147) + 1)), (by first | rfl | (simp; done) | (simp [*]; done)), (by first | rfl | (simp; done) | (simp [*]; done)), (by first | rfl | (simp; done) | (simp only [← hji147] <;> (first | rfl | simp)) | (simp [*]; done)), H', ⟨by have := HK1.out; have := HJ4.out; have := HJ37.out; have := HJ39.out; omega⟩, ⟨by (with_reducible repeat (first | apply Kd.R_alloc | apply Kd.R_drewN | apply Kd.R_drew)); exact HO163.out⟩, ⟨by repeat (first | (with_reducible first | exact HB.out | apply below_alloc | apply pw_below_drewN | apply below_drew1) | exact HB.out)⟩⟩
                                              · rw [if_neg c155] at H
                                                exact absurd H (by simp)
                                            · rw [if_neg c154] at H
                                              exact absurd H (by simp)
                                          · rw [if_neg c153] at H
                                            exact absurd H (by simp)
                                        · rw [if_neg c152] at H
                                          exact absurd H (by simp)
                                      · rw [if_neg c150] at H
                                        have c150b0 : ((bt a0 (ji147)) == 61) = false := beq_eq_false_iff_ne.mpr c150
                                        have c150b1 : ((bt a0 (ji147)) != 61) = true := bne_iff_ne.mpr c150
                                        obtain ⟨ji157, hji157⟩ : ∃ j_ : Int, (wrap64 ((ji147) - 1)) = j_ := ⟨_, rfl⟩
                                        replace H : (if 0 ≤ (ji157) then (if (ji157) ≤ (ji147) then (if (ji147) ≤ (a0.size : Int) then (if x4_1.length < 4398046511104 then (ladderbackref47_Split.l0 kj39 a0 (x4_1 ++ [(⟨2, x5_37, a0.extract ((ji157) : Int).toNat ((ji147) : Int).toNat⟩ : S58)]) x5_37 false ji147) else (none)) else (none)) else (none)) else (none)) = some (r1, r2) := by first | (rw [hji157] at H; exact H) | (simp only [hji157] at H ⊢; exact H)
                                        (try rw [hji157] at A45)
                                        have hji157w : (IntKind.i64.wrap ((ji147) - 1)) = ji157 := (i64_w _).trans hji157
                                        by_cases c158 : 0 ≤ (ji157)
                                        · rw [if_pos c158] at H
                                          have c158b0 := eq_true c158
                                          have c158b1 : decide (0 ≤ (ji157)) = true := decide_eq_true c158
                                          clear c158
                                          by_cases c159 : (ji157) ≤ (ji147)
                                          · rw [if_pos c159] at H
                                            have c159b0 := eq_true c159
                                            have c159b1 : decide ((ji157) ≤ (ji147)) = true := decide_eq_true c159
                                            clear c159
                                            by_cases c160 : (ji147) ≤ (a0.size : Int)
                                            · rw [if_pos c160] at H
                                              have c160b0 := eq_true c160
                                              have c160b1 : decide ((ji147) ≤ (a0.size : Int)) = true := decide_eq_true c160
                                              clear c160
                                              by_cases c161 : x4_1.length < 4398046511104
                                              · rw [if_pos c161] at H
                                                have LMc161 := Aside0.mk c161
                                                clear c161
                                                obtain ⟨y164, hy164⟩ : ∃ y_ : List (S58), y_ = (x4_1 ++ [(⟨2, x5_37, a0.extract ((ji157) : Int).toNat ((ji147) : Int).toNat⟩ : S58)]) := ⟨_, rfl⟩
                                                replace H : (ladderbackref47_Split.l0 kj39 a0 y164 x5_37 false ji147) = some (r1, r2) := by first | (rw [hy164]; with_reducible exact H) | (have H2_ := (Option.bind_some _ _).symm.trans H; rw [hy164]; with_reducible exact H2_) | (have H2_ := (Option.bind_some _ _).symm.trans H; with_reducible exact H2_) | with_reducible exact H | (rw [hy164]; exact H) | exact H
                                                have Ny164 := Aside0.mk hy164
                                                clear hy164
                                                as_aux_lemma =>
                                                  have H' := Aside0.mk H
                                                  clear H
                                                  go_wp2_with (first | ((with_reducible refine gate_callee (f := 56) rfl ?_); refine goesL_ (some 73) rfl rfl Try.func56 (by kernel_rfl) rfl #[.string (⟨#[40, 41, 91, 93, 123, 125, 44, 59, 58, 46, 43, 45, 42, 47, 61, 60, 62]⟩ : ByteArray), .int .u8 (bt a0 x7_1)] rfl (by (try simp only [List.map_toArray, List.map_cons, List.map_nil]); first | done | rfl | (simp only [List.length_drop, List.length_take]; rfl)) ?_; (with_reducible refine (ladderbackref47_in.calls kj39 (⟨#[40, 41, 91, 93, 123, 125, 44, 59, 58, 46, 43, 45, 42, 47, 61, 60, 62]⟩ : ByteArray) (bt a0 x7_1) true _ A45.out).mono ?_); rintro e w' ⟨rfl, ⟨nd, rfl⟩⟩; refine ⟨_, rfl, ?_⟩; have p149 : 0 ≤ ((ji147) : Int) := of_decide_eq_true (by first | (with_reducible assumption) | assumption); have q149 : (ji147) < (a0.size : Int) := of_decide_eq_true (by first | (with_reducible assumption) | assumption); have hx149 := bt_at a0 (ji147); replace p149 := eq_true p149; replace q149 := eq_true q149) | ((with_reducible refine gate_builtin (b := .append) (xs := #[.tmp 123, .tmp 132]) rfl ?_); at_builtin; refine Kd.R_append k58 (w0 := w) w.heap.size rfl (.tmp 123) (.tmp 132) 52 58 (.agg #[(.int .i64 0), (.int .i64 0), (.string ⟨#[]⟩)]) 32 rfl Try.underlying52 info58 rfl (by decide) (by omega) u4 x4_1 (⟨2, x5_37, a0.extract ((ji157) : Int).toNat ((ji147) : Int).toNat⟩ : S58) [.int .i64 2, .int .i64 x5_37, .string (a0.extract ((ji157) : Int).toNat ((ji147) : Int).toNat)] (fun _ => True) (fun _ => False) rfl rfl ?aP (fun _ hk => hk.elim) ?aF ?aO ?aB ?aS ?aL ?_; (case aP => exact k58_mkM _ _ _ (⟨2, x5_37, a0.extract ((ji157) : Int).toNat ((ji147) : Int).toNat⟩ : S58)); (case aB => exact (by repeat (first | (with_reducible first | exact HB.out | apply below_alloc | apply pw_below_drewN | apply below_drew1) | exact HB.out))); (case aF => exact (fun _ _ => trivial)); (case aO => exact (by (with_reducible repeat (first | apply Kd.R_alloc | apply Kd.R_drewN | apply Kd.R_drew)); exact HO_4.out)); (case aS => exact (below_size (by repeat (first | (with_reducible first | exact HB.out | apply below_alloc | apply pw_below_drewN | apply below_drew1) | exact HB.out)))); (case aL => have := LMc161.out; omega); intro v165 w162 ho hb hg hat; rw [← Ny164.out] at ho; have n0_ := Aside0.mk (hb); have n1_ := Aside0.mk (ho); clear HB; clear HO_4; have HB := n0_; have HO166 := n1_; clear n0_ n1_; clear ho hb hg hat))
                                                  go_roundg kj39
                                                  case measure => have := HK1.out; have := HJ4.out; have := HJ37.out; have := HJ39.out; omega
                                                  case rel => exact ⟨(y164), (x5_37), (false), (ji147), (by first | rfl | (simp; done) | (simp [*]; done)), (by first | rfl | (simp; done) | (simp [*]; done)), (by first | rfl | (simp; done) | (simp only [← hji147] <;> (first | rfl | simp)) | (simp [*]; done)), H', ⟨by have := HK1.out; have := HJ4.out; have := HJ37.out; have := HJ39.out; omega⟩, ⟨by (with_reducible repeat (first | apply Kd.R_alloc | apply Kd.R_drewN | apply Kd.R_drew)); exact HO166.out⟩, ⟨by repeat (first | (with_reducible first | exact HB.out | apply below_alloc | apply pw_below_drewN | apply below_drew1) | exact HB.out)⟩⟩
                                              · rw [if_neg c161] at H
                                                exact absurd H (by simp)
                                            · rw [if_neg c160] at H
                                              exact absurd H (by simp)
                                          · rw [if_neg c159] at H
                                            exact absurd H (by simp)
                                        · rw [if_neg c158] at H
                                          exact absurd H (by simp)
                                    · rw [if_neg c148] at H
                                      exact absurd H (by simp)
                                  · rw [if_neg c146] at H
                                    have c146b0 : ((bt a0 x7_1) == 62) = false := beq_eq_false_iff_ne.mpr c146
                                    have c146b1 : ((bt a0 x7_1) != 62) = true := bne_iff_ne.mpr c146
                                    obtain ⟨ji163, hji163⟩ : ∃ j_ : Int, (wrap64 ((wrap64 (x7_1 + 1)) - 1)) = j_ := ⟨_, rfl⟩
                                    replace H : (if 0 ≤ (ji163) then (if (ji163) ≤ (wrap64 (x7_1 + 1)) then (if (wrap64 (x7_1 + 1)) ≤ (a0.size : Int) then (if x4_1.length < 4398046511104 then (ladderbackref47_Split.l0 kj39 a0 (x4_1 ++ [(⟨2, x5_37, a0.extract ((ji163) : Int).toNat ((wrap64 (x7_1 + 1)) : Int).toNat⟩ : S58)]) x5_37 false (wrap64 (x7_1 + 1))) else (none)) else (none)) else (none)) else (none)) = some (r1, r2) := by first | (rw [hji163] at H; exact H) | (simp only [hji163] at H ⊢; exact H)
                                    (try rw [hji163] at A45)
                                    have hji163w : (IntKind.i64.wrap ((wrap64 (x7_1 + 1)) - 1)) = ji163 := (i64_w _).trans hji163
                                    by_cases c164 : 0 ≤ (ji163)
                                    · rw [if_pos c164] at H
                                      have c164b0 := eq_true c164
                                      have c164b1 : decide (0 ≤ (ji163)) = true := decide_eq_true c164
                                      clear c164
                                      by_cases c165 : (ji163) ≤ (wrap64 (x7_1 + 1))
                                      · rw [if_pos c165] at H
                                        have c165b0 := eq_true c165
                                        have c165b1 : decide ((ji163) ≤ (wrap64 (x7_1 + 1))) = true := decide_eq_true c165
                                        by_cases c166 : (wrap64 (x7_1 + 1)) ≤ (a0.size : Int)
                                        · rw [if_pos c166] at H
                                          have c166b0 := eq_true c166
                                          have c166b1 : decide ((wrap64 (x7_1 + 1)) ≤ (a0.size : Int)) = true := decide_eq_true c166
                                          by_cases c167 : x4_1.length < 4398046511104
                                          · rw [if_pos c167] at H
                                            have LMc167 := Aside0.mk c167
                                            clear c167
                                            obtain ⟨y167, hy167⟩ : ∃ y_ : List (S58), y_ = (x4_1 ++ [(⟨2, x5_37, a0.extract ((ji163) : Int).toNat ((wrap64 (x7_1 + 1)) : Int).toNat⟩ : S58)]) := ⟨_, rfl⟩
                                            replace H : (ladderbackref47_Split.l0 kj39 a0 y167 x5_37 false (wrap64 (x7_1 + 1))) = some (r1, r2) := by first | (rw [hy167]; with_reducible exact H) | (have H2_ := (Option.bind_some _ _).symm.trans H; rw [hy167]; with_reducible exact H2_) | (have H2_ := (Option.bind_some _ _).symm.trans H; with_reducible exact H2_) | with_reducible exact H | (rw [hy167]; exact H) | exact H
                                            have Ny167 := Aside0.mk hy167
                                            clear hy167
                                            as_aux_lemma =>
                                              have H' := Aside0.mk H
                                              clear H
                                              go_wp2_with (first | ((with_reducible refine gate_callee (f := 56) rfl ?_); refine goesL_ (some 73) rfl rfl Try.func56 (by kernel_rfl) rfl #[.string (⟨#[40, 41, 91, 93, 123, 125, 44, 59, 58, 46, 43, 45, 42, 47, 61, 60, 62]⟩ : ByteArray), .int .u8 (bt a0 x7_1)] rfl (by (try simp only [List.map_toArray, List.map_cons, List.map_nil]); first | done | rfl | (simp only [List.length_drop, List.length_take]; rfl)) ?_; (with_reducible refine (ladderbackref47_in.calls kj39 (⟨#[40, 41, 91, 93, 123, 125, 44, 59, 58, 46, 43, 45, 42, 47, 61, 60, 62]⟩ : ByteArray) (bt a0 x7_1) true _ A45.out).mono ?_); rintro e w' ⟨rfl, ⟨nd, rfl⟩⟩; refine ⟨_, rfl, ?_⟩) | ((with_reducible refine gate_builtin (b := .append) (xs := #[.tmp 123, .tmp 132]) rfl ?_); at_builtin; refine Kd.R_append k58 (w0 := w) w.heap.size rfl (.tmp 123) (.tmp 132) 52 58 (.agg #[(.int .i64 0), (.int .i64 0), (.string ⟨#[]⟩)]) 32 rfl Try.underlying52 info58 rfl (by decide) (by omega) u4 x4_1 (⟨2, x5_37, a0.extract ((ji163) : Int).toNat ((wrap64 (x7_1 + 1)) : Int).toNat⟩ : S58) [.int .i64 2, .int .i64 x5_37, .string (a0.extract ((ji163) : Int).toNat ((wrap64 (x7_1 + 1)) : Int).toNat)] (fun _ => True) (fun _ => False) rfl rfl ?aP (fun _ hk => hk.elim) ?aF ?aO ?aB ?aS ?aL ?_; (case aP => exact k58_mkM _ _ _ (⟨2, x5_37, a0.extract ((ji163) : Int).toNat ((wrap64 (x7_1 + 1)) : Int).toNat⟩ : S58)); (case aB => exact (by repeat (first | (with_reducible first | exact HB.out | apply below_alloc | apply pw_below_drewN | apply below_drew1) | exact HB.out))); (case aF => exact (fun _ _ => trivial)); (case aO => exact (by (with_reducible repeat (first | apply Kd.R_alloc | apply Kd.R_drewN | apply Kd.R_drew)); exact HO_4.out)); (case aS => exact (below_size (by repeat (first | (with_reducible first | exact HB.out | apply below_alloc | apply pw_below_drewN | apply below_drew1) | exact HB.out)))); (case aL => have := LMc167.out; omega); intro v168 w168 ho hb hg hat; rw [← Ny167.out] at ho; have n0_ := Aside0.mk (hb); have n1_ := Aside0.mk (ho); clear HB; clear HO_4; have HB := n0_; have HO169 := n1_; clear n0_ n1_; clear ho hb hg hat))
                                              go_roundg kj39
                                              case measure => have := HK1.out; have := HJ4.out; have := HJ37.out; have := HJ39.out; omega
                                              case rel => exact ⟨(y167), (x5_37), (false), (wrap64 (x7_1 + 1)), (by first | rfl | (simp; done) | (simp [*]; done)), (by first | rfl | (simp; done) | (simp [*]; done)), (by first | rfl | (simp; done) | (simp [*]; done)), H', ⟨by have := HK1.out; have := HJ4.out; have := HJ37.out; have := HJ39.out; omega⟩, ⟨by (with_reducible repeat (first | apply Kd.R_alloc | apply Kd.R_drewN | apply Kd.R_drew)); exact HO169.out⟩, ⟨by repeat (first | (with_reducible first | exact HB.out | apply below_alloc | apply pw_below_drewN | apply below_drew1) | exact HB.out)⟩⟩
                                          · rw [if_neg c167] at H
                                            exact absurd H (by simp)
                                        · rw [if_neg c166] at H
                                          exact absurd H (by simp)
                                      · rw [if_neg c165] at H
                                        exact absurd H (by simp)
                                    · rw [if_neg c164] at H
                                      exact absurd H (by simp)
                            · rw [if_neg c47] at H
                              have c47b0 : decide ((wrap64 (x7_1 + 1)) < (a0.size : Int)) = false := decide_eq_false c47
                              clear c47
                              obtain ⟨ji169, hji169⟩ : ∃ j_ : Int, (wrap64 ((wrap64 (x7_1 + 1)) - 1)) = j_ := ⟨_, rfl⟩
                              replace H : (if 0 ≤ (ji169) then (if (ji169) ≤ (wrap64 (x7_1 + 1)) then (if (wrap64 (x7_1 + 1)) ≤ (a0.size : Int) then (if x4_1.length < 4398046511104 then (ladderbackref47_Split.l0 kj39 a0 (x4_1 ++ [(⟨2, x5_37, a0.extract ((ji169) : Int).toNat ((wrap64 (x7_1 + 1)) : Int).toNat⟩ : S58)]) x5_37 false (wrap64 (x7_1 + 1))) else (none)) else (none)) else (none)) else (none)) = some (r1, r2) := by first | (rw [hji169] at H; exact H) | (simp only [hji169] at H ⊢; exact H)
                              (try rw [hji169] at A45)
                              have hji169w : (IntKind.i64.wrap ((wrap64 (x7_1 + 1)) - 1)) = ji169 := (i64_w _).trans hji169
                              by_cases c170 : 0 ≤ (ji169)
                              · rw [if_pos c170] at H
                                have c170b0 := eq_true c170
                                have c170b1 : decide (0 ≤ (ji169)) = true := decide_eq_true c170
                                clear c170
                                by_cases c171 : (ji169) ≤ (wrap64 (x7_1 + 1))
                                · rw [if_pos c171] at H
                                  have c171b0 := eq_true c171
                                  have c171b1 : decide ((ji169) ≤ (wrap64 (x7_1 + 1))) = true := decide_eq_true c171
                                  by_cases c172 : (wrap64 (x7_1 + 1)) ≤ (a0.size : Int)
                                  · rw [if_pos c172] at H
                                    have c172b0 := eq_true c172
                                    have c172b1 : decide ((wrap64 (x7_1 + 1)) ≤ (a0.size : Int)) = true := decide_eq_true c172
                                    by_cases c173 : x4_1.length < 4398046511104
                                    · rw [if_pos c173] at H
                                      have LMc173 := Aside0.mk c173
                                      clear c173
                                      obtain ⟨y170, hy170⟩ : ∃ y_ : List (S58), y_ = (x4_1 ++ [(⟨2, x5_37, a0.extract ((ji169) : Int).toNat ((wrap64 (x7_1 + 1)) : Int).toNat⟩ : S58)]) := ⟨_, rfl⟩
                                      replace H : (ladderbackref47_Split.l0 kj39 a0 y170 x5_37 false (wrap64 (x7_1 + 1))) = some (r1, r2) := by first | (rw [hy170]; with_reducible exact H) | (have H2_ := (Option.bind_some _ _).symm.trans H; rw [hy170]; with_reducible exact H2_) | (have H2_ := (Option.bind_some _ _).symm.trans H; with_reducible exact H2_) | with_reducible exact H | (rw [hy170]; exact H) | exact H
                                      have Ny170 := Aside0.mk hy170
                                      clear hy170
                                      as_aux_lemma =>
                                        have H' := Aside0.mk H
                                        clear H
                                        go_wp2_with (first | ((with_reducible refine gate_callee (f := 56) rfl ?_); refine goesL_ (some 73) rfl rfl Try.func56 (by kernel_rfl) rfl #[.string (⟨#[40, 41, 91, 93, 123, 125, 44, 59, 58, 46, 43, 45, 42, 47, 61, 60, 62]⟩ : ByteArray), .int .u8 (bt a0 x7_1)] rfl (by (try simp only [List.map_toArray, List.map_cons, List.map_nil]); first | done | rfl | (simp only [List.length_drop, List.length_take]; rfl)) ?_; (with_reducible refine (ladderbackref47_in.calls kj39 (⟨#[40, 41, 91, 93, 123, 125, 44, 59, 58, 46, 43, 45, 42, 47, 61, 60, 62]⟩ : ByteArray) (bt a0 x7_1) true _ A45.out).mono ?_); rintro e w' ⟨rfl, ⟨nd, rfl⟩⟩; refine ⟨_, rfl, ?_⟩) | ((with_reducible refine gate_builtin (b := .append) (xs := #[.tmp 123, .tmp 132]) rfl ?_); at_builtin; refine Kd.R_append k58 (w0 := w) w.heap.size rfl (.tmp 123) (.tmp 132) 52 58 (.agg #[(.int .i64 0), (.int .i64 0), (.string ⟨#[]⟩)]) 32 rfl Try.underlying52 info58 rfl (by decide) (by omega) u4 x4_1 (⟨2, x5_37, a0.extract ((ji169) : Int).toNat ((wrap64 (x7_1 + 1)) : Int).toNat⟩ : S58) [.int .i64 2, .int .i64 x5_37, .string (a0.extract ((ji169) : Int).toNat ((wrap64 (x7_1 + 1)) : Int).toNat)] (fun _ => True) (fun _ => False) rfl rfl ?aP (fun _ hk => hk.elim) ?aF ?aO ?aB ?aS ?aL ?_; (case aP => exact k58_mkM _ _ _ (⟨2, x5_37, a0.extract ((ji169) : Int).toNat ((wrap64 (x7_1 + 1)) : Int).toNat⟩ : S58)); (case aB => exact (by repeat (first | (with_reducible first | exact HB.out | apply below_alloc | apply pw_below_drewN | apply below_drew1) | exact HB.out))); (case aF => exact (fun _ _ => trivial)); (case aO => exact (by (with_reducible repeat (first | apply Kd.R_alloc | apply Kd.R_drewN | apply Kd.R_drew)); exact HO_4.out)); (case aS => exact (below_size (by repeat (first | (with_reducible first | exact HB.out | apply below_alloc | apply pw_below_drewN | apply below_drew1) | exact HB.out)))); (case aL => have := LMc173.out; omega); intro v171 w174 ho hb hg hat; rw [← Ny170.out] at ho; have n0_ := Aside0.mk (hb); have n1_ := Aside0.mk (ho); clear HB; clear HO_4; have HB := n0_; have HO172 := n1_; clear n0_ n1_; clear ho hb hg hat))
                                        go_roundg kj39
                                        case measure => have := HK1.out; have := HJ4.out; have := HJ37.out; have := HJ39.out; omega
                                        case rel => exact ⟨(y170), (x5_37), (false), (wrap64 (x7_1 + 1)), (by first | rfl | (simp; done) | (simp [*]; done)), (by first | rfl | (simp; done) | (simp [*]; done)), (by first | rfl | (simp; done) | (simp [*]; done)), H', ⟨by have := HK1.out; have := HJ4.out; have := HJ37.out; have := HJ39.out; omega⟩, ⟨by (with_reducible repeat (first | apply Kd.R_alloc | apply Kd.R_drewN | apply Kd.R_drew)); exact HO172.out⟩, ⟨by repeat (first | (with_reducible first | exact HB.out | apply below_alloc | apply pw_below_drewN | apply below_drew1) | exact HB.out)⟩⟩
                                    · rw [if_neg c173] at H
                                      exact absurd H (by simp)
                                  · rw [if_neg c172] at H
                                    exact absurd H (by simp)
                                · rw [if_neg c171] at H
                                  exact absurd H (by simp)
                              · rw [if_neg c170] at H
                                exact absurd H (by simp)
                          · replace c46 := Bool.eq_false_iff.mpr c46
                            subst c46
                            have H1 : (some (([] : List (S58)), x5_37)) = some (r1, r2) := by rw [if_neg (show ¬ (false = true) by decide)] at H; exact H
                            clear H
                            have H := H1
                            clear H1
                            as_aux_lemma =>
                              simp only [Option.some.injEq, Prod.mk.injEq] at H
                              obtain ⟨rfl, rfl⟩ := H
                              go_wp2_with (first | ((with_reducible refine gate_callee (f := 56) rfl ?_); refine goesL_ (some 73) rfl rfl Try.func56 (by kernel_rfl) rfl #[.string (⟨#[40, 41, 91, 93, 123, 125, 44, 59, 58, 46, 43, 45, 42, 47, 61, 60, 62]⟩ : ByteArray), .int .u8 (bt a0 x7_1)] rfl (by (try simp only [List.map_toArray, List.map_cons, List.map_nil]); first | done | rfl | (simp only [List.length_drop, List.length_take]; rfl)) ?_; (with_reducible refine (ladderbackref47_in.calls kj39 (⟨#[40, 41, 91, 93, 123, 125, 44, 59, 58, 46, 43, 45, 42, 47, 61, 60, 62]⟩ : ByteArray) (bt a0 x7_1) false _ A45.out).mono ?_); rintro e w' ⟨rfl, ⟨nd, rfl⟩⟩; refine ⟨_, rfl, ?_⟩))
                              go_ret2
                              exact ⟨_, by first | rfl | (simp [errW_none, errW_some] <;> rfl) | (simp [*, errW_none, errW_some] <;> rfl), by first | exact Kd.R_nil _ _ _ _ _ | exact Kd.N_nil _ _ _ _ _ | exact Kd.V_nil _ _ _ _ _ | exact Kd.Q_nil _ _ _ _ _ | exact Kd.S_nil _ _ _ _ _, by repeat (first | (with_reducible first | exact HB.out | apply below_alloc | apply pw_below_drewN | apply below_drew1) | exact HB.out)⟩
        · rw [if_neg c3] at H
          exact absurd H (by simp)
      · rw [if_neg c2] at H
        have c2b0 : decide (x7_1 < (a0.size : Int)) = false := decide_eq_false c2
        clear c2
        as_aux_lemma =>
          simp only [Option.some.injEq, Prod.mk.injEq] at H
          obtain ⟨rfl, rfl⟩ := H
          go_wp2
          go_ret2
          exact ⟨_, by first | rfl | (simp [errW_none, errW_some] <;> rfl) | (simp [*, errW_none, errW_some] <;> rfl), by (with_reducible repeat (first | apply Kd.R_alloc | apply Kd.R_drewN | apply Kd.R_drew)); exact HO_4.out, by repeat (first | (with_reducible first | exact HB.out | apply below_alloc | apply pw_below_drewN | apply below_drew1) | exact HB.out)⟩

end Go.Proofs.Ytkkikddocgckbaa.PLex
