/- A step of the two edge blocks, for any kind and any block of ten numbers. -/
import Derived.Test.YtohdabkhafcdkaaTrigStep
namespace Go.Proofs.Ytohdabkhafcdkaa
open Go Go.RowKit Go.Proofs.YtohdabkhafcdkaaW.PrintWords
set_option linter.unusedSimpArgs false
theorem Step_calls (kind x0 x1 x2 x3 x4 x5 x6 x7 x8 x9 : Int) (w : World) :
    Calls Try.prog 9 #[.int .i64 kind, .agg (instL x0 x1 x2 x3 x4 x5 x6 x7 x8 x9).toArray] w fun e w' => e = .returned (.agg (stepped kind x0 x1 x2 x3 x4 x5 x6 x7 x8 x9).toArray) ∧ Below w.heap.size w w' := by
  unfold stepped edge truth
  by_cases h7 : kind = 7
  · subst h7
    by_cases h0 : x0 = 0 <;> by_cases h2 : x2 = 0 <;> simp only [h0, h2] <;> simp [h0, h2]
    · exact Step_700 x1  x3 x4 x5 x6 x7 x8 x9 w  
    · exact Step_701 x1 x2 x3 x4 x5 x6 x7 x8 x9 w  h2
    · exact Step_710 x0 x1  x3 x4 x5 x6 x7 x8 x9 w h0 
    · exact Step_711 x0 x1 x2 x3 x4 x5 x6 x7 x8 x9 w h0 h2
  by_cases h8 : kind = 8
  · subst h8
    by_cases h0 : x0 = 0 <;> by_cases h2 : x2 = 0 <;> simp only [h0, h2] <;> simp [h0, h2]
    · exact Step_800 x1  x3 x4 x5 x6 x7 x8 x9 w  
    · exact Step_801 x1 x2 x3 x4 x5 x6 x7 x8 x9 w  h2
    · exact Step_810 x0 x1  x3 x4 x5 x6 x7 x8 x9 w h0 
    · exact Step_811 x0 x1 x2 x3 x4 x5 x6 x7 x8 x9 w h0 h2
  · simp only [h7, h8]
    simp
    exact Step_other kind x0 x1 x2 x3 x4 x5 x6 x7 x8 x9 w h7 h8
end Go.Proofs.Ytohdabkhafcdkaa
