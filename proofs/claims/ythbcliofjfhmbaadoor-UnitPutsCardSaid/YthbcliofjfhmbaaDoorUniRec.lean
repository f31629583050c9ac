/- A unit in memory, and what the calls of the units' laws tell of it; any unit of few parts, the operations' table as the program lays it. -/
import Derived.Test.YthbcliofjfhmbaaDoorUniE
namespace Go.Proofs.YthbcliofjfhmbaaDoor.UPure
open Go.RowKit Go.Proofs.YthbcliofjfhmbaaDoor.PUni Go.Proofs.YthbcliofjfhmbaaDoor.Given Go.Proofs.YthbcliofjfhmbaaDoorW.PrintWords Go.Proofs.YthbcliofjfhmbaaDoorW.PrintLast
set_option linter.unusedVariables false
set_option linter.unusedSimpArgs false
/-- A unit, and where its lists lie. -/
structure UR where
  n : ByteArray
  A1 : Option Addr
  c1 : Nat
  P : List Int
  R : Int
  A3 : Option Addr
  c3 : Nat
  L : List Int
  A4 : Option Addr
  c4 : Nat
  C : List S47
def UR.cells (u : UR) : Array Value := #[.string u.n, .slice u.A1 u.P.length u.c1, .int .i64 u.R, .slice u.A3 u.L.length u.c3, .slice u.A4 u.C.length u.c4]
structure UR.Ok (u : UR) (w : World) : Prop where
  p : Kd.C (Kd.int .i64) w u.A1 u.P.length u.P
  pl : u.P.length ≤ u.c1
  l : Kd.C (Kd.int .i64) w u.A3 u.L.length u.L
  ll : u.L.length ≤ u.c3
  c : Kd.C k47 w u.A4 u.C.length u.C
  cl : u.C.length ≤ u.c4
theorem UR.Ok.below {u : UR} {w w2 : World} (h : u.Ok w) (hb : Below w.heap.size w w2) : u.Ok w2 := ⟨Kd.C_below h.p hb, h.pl, Kd.C_below h.l hb, h.ll, Kd.C_below h.c hb, h.cl⟩
def UR.few (u : UR) : Bool := decide ((u.n.size : Int) ≤ 300) && (decide ((u.P.length : Int) ≤ 20) && (decide ((u.L.length : Int) ≤ 1100) && decide ((u.C.length : Int) ≤ 300)))
theorem UR.few_lim {u : UR} (h : u.few = true) : u.n.size ≤ 300 ∧ u.P.length ≤ 20 ∧ u.L.length ≤ 1100 ∧ u.C.length ≤ 300 := by
  unfold UR.few at h
  simp only [Bool.and_eq_true, decide_eq_true_eq] at h
  omega
def UR.fits (u : UR) : Bool := fitsF u.n u.P u.R u.L u.C
def UR.put (u : UR) : List Int := if u.fits = true then putB u.n u.P u.R u.L u.C else []
def UR.slots (u : UR) : List Int := slotsF u.P u.R u.L
def UR.same (u v : UR) : Bool := sameU u.n u.P u.R u.L u.C v.n v.P v.R v.L v.C
theorem UR.same_self (u : UR) : u.same u = true := sameU_self _ _ _ _ _
theorem few_c (u : UR) (w : World) (h : u.Ok w) : Calls Tryd.prog 17 #[.agg u.cells] w fun e w' => e = .returned (.bool u.few) ∧ Below w.heap.size w w' :=
  ladderbacklaw15_Few.calls u.n u.A1 u.c1 u.P u.R u.A3 u.c3 u.L u.A4 u.c4 u.C u.few w h.p h.pl h.l h.ll h.c h.cl (by
    unfold ladderbacklaw15_Few.f UR.few
    by_cases h1 : (u.n.size : Int) ≤ 300
    · by_cases h2 : (u.P.length : Int) ≤ 20
      · by_cases h3 : (u.L.length : Int) ≤ 1100
        · rw [if_pos h1, if_pos h2, if_pos h3]; simp [h1, h2, h3]
        · rw [if_pos h1, if_pos h2, if_neg h3]; simp [h3]
      · rw [if_pos h1, if_neg h2]; simp [h2]
    · rw [if_neg h1]; simp [h1])
theorem put_c (u : UR) (w : World) (h : u.Ok w) (hf : u.few = true) (hL : LaidOps w) : Calls Tryd.prog 19 #[.agg u.cells] w fun e w' => ∃ v0_ : Value, e = .returned (.tuple #[v0_, .bool u.fits]) ∧ Kd.R (Kd.int .u8) 5 w' w.heap.size (fun _ => True) v0_ u.put ∧ Below w.heap.size w w' := by
  have hl := UR.few_lim hf
  refine unit_Put.calls 20100 u.n u.A1 u.c1 u.P u.R u.A3 u.c3 u.L u.A4 u.c4 u.C u.put u.fits w h.p h.pl h.l h.ll h.c h.cl ?_ hL
  rw [put_is u.n u.P u.R u.L u.C (by omega) (by omega) (by omega) (by omega) 20100 (Nat.le_refl _)]
  unfold UR.put UR.fits
  by_cases hq : fitsF u.n u.P u.R u.L u.C = true
  · rw [if_pos hq, if_pos hq, hq]
  · rw [if_neg hq, if_neg hq, show fitsF u.n u.P u.R u.L u.C = false by simpa using hq]
theorem rput_c (u : UR) (w : World) (h : u.Ok w) (hf : u.few = true) : Calls Tryd.prog 20 #[.agg u.cells] w fun e w' => ∃ v0_ : Value, e = .returned (.tuple #[v0_, .bool u.fits]) ∧ Kd.R (Kd.int .u8) 5 w' w.heap.size (fun _ => True) v0_ u.put ∧ Below w.heap.size w w' := by
  have hl := UR.few_lim hf
  obtain ⟨k, hk⟩ := rputu u.n u.P u.R u.L u.C (by omega) (by omega) (by omega) (by omega)
  refine ladderbackref15_Put.calls k u.n u.A1 u.c1 u.P u.R u.A3 u.c3 u.L u.A4 u.c4 u.C u.put u.fits w h.p h.pl h.l h.ll h.c h.cl ?_
  rw [hk]
  unfold UR.put UR.fits
  by_cases hq : fitsF u.n u.P u.R u.L u.C = true
  · rw [if_pos hq, if_pos hq, hq]
  · rw [if_neg hq, if_neg hq, show fitsF u.n u.P u.R u.L u.C = false by simpa using hq]
theorem fits_c (u : UR) (w : World) (h : u.Ok w) (hf : u.few = true) (hL : LaidOps w) : Calls Tryd.prog 21 #[.agg u.cells] w fun e w' => e = .returned (.bool u.fits) ∧ Below w.heap.size w w' := by
  have hl := UR.few_lim hf
  exact unit_Fits.calls 20100 u.n u.A1 u.c1 u.P u.R u.A3 u.c3 u.L u.A4 u.c4 u.C u.fits w h.p h.pl h.l h.ll h.c h.cl (fits_is u.n u.P u.R u.L u.C (by omega) (by omega) (by omega) 20100 (Nat.le_refl _)) hL
theorem slots_c (u : UR) (w : World) (h : u.Ok w) (hf : u.few = true) : Calls Tryd.prog 23 #[.agg u.cells] w fun e w' => ∃ v0_ : Value, e = .returned v0_ ∧ Kd.R (Kd.int .i64) 3 w' w.heap.size (fun _ => True) v0_ u.slots ∧ Below w.heap.size w w' := by
  have hl := UR.few_lim hf
  exact unit_Slots.calls u.n u.A1 u.c1 u.P u.R u.A3 u.c3 u.L u.A4 u.c4 u.C u.slots w h.p h.pl h.l h.ll h.c h.cl (slots_is u.n u.P u.R u.L u.C (by omega) (by omega))
theorem rslots_c (u : UR) (w : World) (h : u.Ok w) (hf : u.few = true) : Calls Tryd.prog 24 #[.agg u.cells] w fun e w' => ∃ v0_ : Value, e = .returned v0_ ∧ Kd.R (Kd.int .i64) 3 w' w.heap.size (fun _ => True) v0_ u.slots ∧ Below w.heap.size w w' := by
  have hl := UR.few_lim hf
  exact ladderbackref15_Slots.calls 2000 u.n u.A1 u.c1 u.P u.R u.A3 u.c3 u.L u.A4 u.c4 u.C u.slots w h.p h.pl h.l h.ll h.c h.cl (rslots_is u.n u.P u.R u.L u.C (by omega) (by omega) 2000 (by omega))
theorem slots_len {u : UR} (hf : u.few = true) : u.slots.length ≤ 2000 := by
  have hl := UR.few_lim hf
  unfold UR.slots slotsF
  simp only [List.length_append]
  split <;> simp <;> omega
theorem same_c (u v : UR) (w : World) (h : u.Ok w) (h' : v.Ok w) (hf : u.few = true) : Calls Tryd.prog 25 #[.agg u.cells, .agg v.cells] w fun e w' => e = .returned (.bool (u.same v)) ∧ Below w.heap.size w w' := by
  have hl := UR.few_lim hf
  exact unit_Same.calls 10001 u.n u.A1 u.c1 u.P u.R u.A3 u.c3 u.L u.A4 u.c4 u.C v.n v.A1 v.c1 v.P v.R v.A3 v.c3 v.L v.A4 v.c4 v.C (u.same v) w h.p h.pl h.l h.ll h.c h.cl h'.p h'.pl h'.l h'.ll h'.c h'.cl (same_is u.n u.P u.R u.L u.C v.n v.P v.R v.L v.C (by omega) (by omega) (by omega) 10001 (Nat.le_refl _))
theorem rsame_c (u v : UR) (w : World) (h : u.Ok w) (h' : v.Ok w) (hf : u.few = true) : Calls Tryd.prog 26 #[.agg u.cells, .agg v.cells] w fun e w' => e = .returned (.bool (u.same v)) ∧ Below w.heap.size w w' := by
  have hl := UR.few_lim hf
  exact ladderbackref15_Same.calls 10001 u.n u.A1 u.c1 u.P u.R u.A3 u.c3 u.L u.A4 u.c4 u.C v.n v.A1 v.c1 v.P v.R v.A3 v.c3 v.L v.A4 v.c4 v.C (u.same v) w h.p h.pl h.l h.ll h.c h.cl h'.p h'.pl h'.l h'.ll h'.c h'.cl (rsame_is u.n u.P u.R u.L u.C v.n v.P v.R v.L v.C (by omega) (by omega) (by omega) 10001 (Nat.le_refl _))
theorem ints_c (A : Option Addr) (c : Nat) (A' : Option Addr) (c' : Nat) (l : List Int) (w : World) (hl : l.length ≤ 100000) (h : Kd.C (Kd.int .i64) w A l.length l) (hc : l.length ≤ c) (h' : Kd.C (Kd.int .i64) w A' l.length l) (hc' : l.length ≤ c') : Calls Tryd.prog 22 #[.slice A l.length c, .slice A' l.length c'] w fun e w' => e = .returned (.bool true) ∧ Below w.heap.size w w' :=
  (ladderbackref15_Ints.calls 100001 A c l A' c' l true w h hc h' hc' (by rw [ints_is l l hl 100001 (by omega), sameI_self])).mono fun e w' ⟨h1, m, h2⟩ => ⟨h1, by subst h2; exact pw_below_drewN (Below.refl _ _) m⟩
theorem awake_c (w : World) (hL : LaidOps w) : Calls Tryd.prog 18 #[] w fun e w' => e = .returned (.bool true) ∧ Below w.heap.size w w' := by
  obtain ⟨k, hk⟩ := awake15
  exact ladderbacklaw15_awake.calls k true w hk hL
end Go.Proofs.YthbcliofjfhmbaaDoor.UPure
