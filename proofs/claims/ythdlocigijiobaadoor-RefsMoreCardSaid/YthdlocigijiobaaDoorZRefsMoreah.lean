/- The law RefsMore holds for every input: the walk over its code shows that the call returns true and that what was read stays as it was; the row follows. The package-level tables that the code reads are tied to the program's text by the given tie. -/
import Derived.LaidLaws
import Derived.Lib.LaidTab
import Derived.OpenShut
import Derived.Test.YthdlocigijiobaaDoorRows
import Derived.Test.YthdlocigijiobaaDoorCards
import Derived.Test.YthdlocigijiobaaDoorTie
import Derived.WalkKit
import Derived.ProofKit
import Derived.ShutString
import Derived.ChangeOld
import Derived.Below
import Derived.SizedLaws
import Derived.Deep.DeepHandedRow
import Derived.LaidMore
import Derived.Test.YthdlocigijiobaaDoorZRefsMoreaa
import Derived.Test.YthdlocigijiobaaDoorZRefsMoread
import Derived.Test.YthdlocigijiobaaDoorZRefsMoreag
section
/- What is there stays there, if something is added at an end: walked. -/
namespace Go.Proofs.YthdlocigijiobaaDoor.RPure
open Go Go.RowKit Go.Proofs.YthdlocigijiobaaDoor.PSk Go.Proofs.YthdlocigijiobaaDoor.Given Go.Proofs.YthdlocigijiobaaDoorW.PrintWords Go.Proofs.YthdlocigijiobaaDoorW.PrintLast Go.Proofs.YthdlocigijiobaaDoorW.PrintMore
set_option linter.unusedVariables false
set_option linter.unusedSimpArgs false
theorem few_len {C : LC} {V : LV} {B : LB} {U : LU} {k : Nat} (hk : 1 ≤ k) (h : ladderbacklaw16_Few.f k C V B U = some true) : C.length ≤ 60 ∧ V.length ≤ 70 ∧ B.length ≤ 40 := by
  have hj : ladderbacklaw16_Few.j0 k true C V B U = some false := by
    obtain ⟨k, rfl⟩ : ∃ m, k = m + 1 := ⟨k - 1, by omega⟩
    rw [ladderbacklaw16_Few.j0, if_pos rfl]
  unfold ladderbacklaw16_Few.f at h
  by_cases h1 : (C.length : Int) > 60
  · rw [if_pos h1, hj] at h; cases h
  rw [if_neg h1] at h
  by_cases h2 : (V.length : Int) > 70
  · rw [if_pos h2, hj] at h; cases h
  rw [if_neg h2] at h
  by_cases h3 : (B.length : Int) > 40
  · rw [if_pos h3, hj] at h; cases h
  exact ⟨by omega, by omega, by omega⟩
def zC : S35 := ⟨0, 0⟩
def zV : S37 := ⟨⟨#[]⟩, 0, 0, 0, 0⟩
def zB : S39 := ⟨⟨#[]⟩, 0⟩
def zU : S43 := ⟨⟨#[]⟩, [], 0, [], []⟩
theorem getD_more {α : Type} {l : List α} {x d : α} {i : Nat} (h : i < l.length) : (l ++ [x]).getD i d = l.getD i d := by
  rw [List.getD_eq_getElem?_getD, List.getD_eq_getElem?_getD, List.getElem?_append_left h]
theorem one_more {C : LC} {V : LV} {B : LB} {U : LU} {u x y z : Int} (h : oneF C V B U u x y z = 0) : oneF (C ++ [zC]) (V ++ [zV]) (B ++ [zB]) (U ++ [zU]) u x y z = 0 := by
  have hy : 0 ≤ y := by
    unfold oneF at h
    split at h
    · omega
    · split at h
      · rename_i h2
        unfold rightF at h2
        simp only [Bool.and_eq_true] at h2
        exact may_nonneg h2.1.2
      · omega
  unfold oneF at h ⊢
  split at h
  · omega
  · rename_i hu
    rw [if_neg (by rw [List.length_append, List.length_singleton]; omega)]
    split at h
    · rename_i h2
      rw [if_pos h2]
      split at h
      · rename_i h3
        rw [if_pos h3]
        split at h
        · rename_i h4
          rw [if_pos]
          unfold thereF at h4 ⊢
          have eU : rd_T43 (U ++ [zU]) u = rd_T43 U u := getD_more (by omega)
          rw [eU]
          split at h4
          · rename_i a; rw [if_pos a]; simp only [decide_eq_true_eq, List.length_append, List.length_singleton] at h4 ⊢; omega
          · rename_i a; rw [if_neg a]
            split at h4
            · rename_i b; rw [if_pos b]
              split at h4
              · rename_i c; rw [if_pos c]
                simp only [Bool.and_eq_true, decide_eq_true_eq] at h4 ⊢
                rw [show rd_T37 (V ++ [zV]) y = rd_T37 V y from getD_more (by omega), List.length_append, List.length_singleton]
                exact ⟨by omega, h4.2⟩
              · rename_i c; rw [if_neg c]
                simp only [Bool.and_eq_true, decide_eq_true_eq] at h4 ⊢
                rw [show rd_T37 (V ++ [zV]) y = rd_T37 V y from getD_more (by omega), List.length_append, List.length_singleton]
                exact ⟨by omega, h4.2⟩
            · rename_i b; rw [if_neg b]
              split at h4
              · rename_i c; rw [if_pos c]; exact h4
              · rename_i c; rw [if_neg c]
                split at h4
                · rename_i d; rw [if_pos d]; simp only [Bool.and_eq_true, decide_eq_true_eq, List.length_append, List.length_singleton] at h4 ⊢; omega
                · rename_i d; rw [if_neg d]
                  split at h4
                  · rename_i e; rw [if_pos e]
                    simp only [Bool.and_eq_true, decide_eq_true_eq] at h4 ⊢
                    rw [show rd_T39 (B ++ [zB]) y = rd_T39 B y from getD_more (by omega), List.length_append, List.length_singleton]
                    exact ⟨by omega, h4.2⟩
                  · rename_i e; rw [if_neg e]
        · omega
      · omega
    · omega
theorem ok_more {U : LU} (h : Ok U) : Ok (U ++ [zU]) := fun X hX => by
  rcases List.mem_append.1 hX with h1 | h1
  · exact h X h1
  · obtain rfl := List.mem_singleton.1 h1
    exact ⟨by decide, by decide, by decide⟩
/-- The cells of a row's elements, and the row of these and one more. -/
theorem cells_of {α : Type} {d : Kd α} {w : World} {A : Option Addr} {xs : List α} (h : d.C w A xs.length xs) : ∃ news : List (List Value), news.length = xs.length ∧ (Kd.raw d.sz).C w A xs.length news ∧ ∀ (j : Nat) (x : α) (c : List Value), xs[j]? = some x → news[j]? = some c → d.K w x c :=
  Kd.reads_raw h (fun x c hk => ⟨d.K_len hk, d.K_one hk⟩)
theorem more_of {α : Type} {d : Kd α} {w W : World} {A : Option Addr} {xs : List α} {zc : List Value} {z : α} {news : List (List Value)} (hl : news.length = xs.length) (hk : ∀ (j : Nat) (x : α) (c : List Value), xs[j]? = some x → news[j]? = some c → d.K w x c) (hb : Below w.heap.size w W) (hz : d.K W z zc)
    (h : (Kd.raw d.sz).C W A (([] ++ news) ++ [zc]).length (([] ++ news) ++ [zc])) : d.C W A (xs ++ [z]).length (xs ++ [z]) := by
  rw [List.nil_append] at h
  obtain ⟨h1, h2, h3⟩ := h
  refine ⟨rfl, by rw [List.length_append, hl] at h2; rw [List.length_append]; simpa using h2, fun hp => ?_⟩
  obtain ⟨ad, e, hc⟩ := h3 (by simp)
  refine ⟨ad, e, fun j p hj => ?_⟩
  have hjl : j < (xs ++ [z]).length := (List.getElem?_eq_some_iff.1 hj).1
  have hjn : j < (news ++ [zc]).length := by rw [List.length_append, hl]; rw [List.length_append] at hjl; simpa using hjl
  obtain ⟨c, k1, k2, k3⟩ := hc j _ (List.getElem?_eq_getElem hjn)
  refine ⟨c, k1, ?_, k3⟩
  obtain ⟨rfl, _, _⟩ := k2
  rcases Nat.lt_or_ge j xs.length with hj2 | hj2
  · rw [List.getElem?_append_left hj2] at hj
    have : (news ++ [zc])[j] = news[j] := List.getElem_append_left (by omega)
    rw [this]
    exact d.K_below hb (hk j p _ hj (List.getElem?_eq_getElem (by omega)))
  · have e1 : j = xs.length := by simp at hjl; omega
    subst e1
    rw [List.getElem?_append_right (Nat.le_refl _)] at hj
    simp at hj
    subst hj
    have : (news ++ [zc])[xs.length] = zc := by
      rw [List.getElem_append_right (by omega)]
      simp [hl]
    rw [this]
    exact hz
theorem setRow_at' (w : World) (g : Nat) (cs old : Array Value) (t : TypeId) (h : w.heap[g]? = some (.cells old t (0, 0))) : (w.setRow g cs).heap[g]? = some (.cells cs t (0, 0)) := setRow_heap _ _ _ _ _ _ h
theorem zk_C (w : World) : k35.K w zC [.int .i64 0, .int .i64 0] := k35.K_of_M (k35_mkM w 0 (fun _ => True) zC)
theorem zk_V (w : World) : k37.K w zV [.string ⟨#[]⟩, .int .i64 0, .int .i64 0, .int .i64 0, .int .i64 0] := k37.K_of_M (k37_mkM w 0 (fun _ => True) zV)
theorem zk_B (w : World) : k39.K w zB [.string ⟨#[]⟩, .int .i64 0] := k39.K_of_M (k39_mkM w 0 (fun _ => True) zB)
theorem zk_U (w : World) : k43.K w zU [.string ⟨#[]⟩, .slice none 0 0, .int .i64 0, .slice none 0 0, .slice none 0 0] := k43.K_of_M (k43_mkM w 0 (fun _ => True) zU (Kd.R_nil _ _ _ _ _) (Kd.R_nil _ _ _ _ _) (Kd.R_nil _ _ _ _ _))
theorem setRow_other' (w : World) (g : Nat) (cs : Array Value) (k : Nat) (h : k ≠ g) : (w.setRow g cs).heap[k]? = w.heap[k]? := by simp [World.setRow, Array.getElem?_modify, Ne.symm h]
set_option maxHeartbeats 16000000 in
set_option maxRecDepth 100000 in
theorem more_w (A0 : Option Addr) (c0 : Nat) (C : LC) (A1 : Option Addr) (c1 : Nat) (V : LV) (A2 : Option Addr) (c2 : Nat) (B : LB) (A3 : Option Addr) (c3 : Nat) (U : LU) (u x y z : Int) (w : World) (g0 : Kd.C k35 w A0 C.length C) (l0 : C.length ≤ c0) (g1 : Kd.C k37 w A1 V.length V) (l1 : V.length ≤ c1) (g2 : Kd.C k39 w A2 B.length B) (l2 : B.length ≤ c2) (g3 : Kd.C k43 w A3 U.length U) (l3 : U.length ≤ c3) (hL : LaidAll w) :
    Calls Tryd.prog 3 #[.agg #[.slice A0 C.length c0, .slice A1 V.length c1, .slice A2 B.length c2, .slice A3 U.length c3], .int .i64 u, .agg #[.int .i64 x, .int .i64 y, .int .i64 z]] w fun e w' => e = .returned (.bool true) ∧ Below w.heap.size w w' := by
  obtain ⟨b, eF, fF⟩ := few_is C V B U
  have PF := Aside0.mk (fun W (hb : Below w.heap.size w W) => ladderbacklaw16_Few.calls 400 A0 c0 C A1 c1 V A2 c2 B A3 c3 U b W (Kd.C_below g0 hb) l0 (Kd.C_below g1 hb) l1 (Kd.C_below g2 hb) l2 (Kd.C_below g3 hb) l3 (eF 400 (by omega)))
  have PA := Aside0.mk (fun W (hb : Below w.heap.size w W) => awake_calls W (hL.below hb))
  have HX := Aside0.mk (show Boxes w ((w.alloc (.cells #[.slice A0 C.length c0, .slice A1 V.length c1, .slice A2 B.length c2, .slice A3 U.length c3] 27)).alloc (.cells #[.int .i64 x, .int .i64 y, .int .i64 z] 29)) A0 C.length c0 A1 V.length c1 A2 B.length c2 A3 U.length c3 x y z from ⟨((Below.refl w.heap.size w).alloc (Nat.le_refl _) _).alloc (by simp) _, heap_alloc2_old w _ _, heap_alloc2_new w _ _⟩)
  cases b with
  | false =>
    clear eF fF g0 g1 g2 g3 hL
    go_enter Tryd.func3, Tryd.ntmps3
    go_wp2_with fail
    refine (PF.out _ HX.out.below).mono ?_
    rintro e w1 ⟨rfl, hb⟩
    have HX1 := Aside0.mk (HX.out.step hb)
    clear hb PF HX
    go_wp2_with fail
    refine (PA.out _ HX1.out.below).mono ?_
    rintro e w2 ⟨rfl, hb⟩
    have HX2 := Aside0.mk (HX1.out.step hb)
    clear hb PA HX1
    go_wp2_with fail
    go_ret
    exact ⟨rfl, HX2.out.below⟩
  | true =>
  obtain ⟨hU, hn3⟩ := fF rfl
  obtain ⟨hn0, hn1, hn2⟩ := few_len (by omega) (eF 400 (by omega))
  obtain ⟨r, hr⟩ : ∃ r, oneF C V B U u x y z = r := ⟨_, rfl⟩
  have PO := Aside0.mk (fun W (hb : Below w.heap.size w W) => refs_One.calls 400 A0 c0 C A1 c1 V A2 c2 B A3 c3 U u x y z r W (Kd.C_below g0 hb) l0 (Kd.C_below g1 hb) l1 (Kd.C_below g2 hb) l2 (Kd.C_below g3 hb) l3 (by rw [one_is C V B U hU u x y z 400 (by omega), hr]) (hL.below hb))
  by_cases h : r = 0
  rotate_left
  · have hr1 : (r != 0) = true := by simpa using h
    clear eF fF g0 g1 g2 g3 hL hr h
    go_enter Tryd.func3, Tryd.ntmps3
    go_wp2_with fail
    refine (PF.out _ HX.out.below).mono ?_
    rintro e w1 ⟨rfl, hb⟩
    have HX1 := Aside0.mk (HX.out.step hb)
    clear hb PF HX
    obtain ⟨⟨q0, q1, q2, q3⟩, i0, i1, i2⟩ := HX1.out.cells
    go_wp2_with fail
    refine (PO.out _ HX1.out.below).mono ?_
    rintro e w2 ⟨rfl, hb⟩
    have HX2 := Aside0.mk (HX1.out.step hb)
    clear hb PO HX1 q0 q1 q2 q3 i0 i1 i2
    go_wp2_with fail
    refine (PA.out _ HX2.out.below).mono ?_
    rintro e w3 ⟨rfl, hb⟩
    have HX3 := Aside0.mk (HX2.out.step hb)
    clear hb PA HX2
    go_wp2_with fail
    go_ret
    exact ⟨rfl, HX3.out.below⟩
  subst h
  have PQ := Aside0.mk (fun (W : World) (hb : Below w.heap.size w W) (B0 : Option Addr) (d0 : Nat) (B1 : Option Addr) (d1 : Nat) (B2 : Option Addr) (d2 : Nat) (B3 : Option Addr) (d3 : Nat) e0 m0 e1 m1 e2 m2 e3 m3 => refs_One.calls 400 B0 d0 (C ++ [zC]) B1 d1 (V ++ [zV]) B2 d2 (B ++ [zB]) B3 d3 (U ++ [zU]) u x y z 0 W e0 m0 e1 m1 e2 m2 e3 m3 (by rw [one_is _ _ _ _ (ok_more hU) u x y z 400 (by omega), one_more hr]) (hL.below hb))
  obtain ⟨CN, hN0, nC0, nK0⟩ := cells_of g0
  have NK0 := Aside0.mk nK0
  have NN0 := Aside0.mk nC0
  have HN0 := Aside0.mk hN0
  have b0 := Aside0.mk hn0
  have n0 := Aside0.mk (show CN.length ≤ 100 by omega)
  have I0 := Aside0.mk (show (Tryd.prog.info? 35).map (fun i => (i.zero, i.size, i.bytes)) = some (some (.agg #[.int .i64 0, .int .i64 0]), 2, 16) by kernel_rfl)
  obtain ⟨VN, hN1, nC1, nK1⟩ := cells_of g1
  have NK1 := Aside0.mk nK1
  have NN1 := Aside0.mk nC1
  have HN1 := Aside0.mk hN1
  have b1 := Aside0.mk hn1
  have n1 := Aside0.mk (show VN.length ≤ 100 by omega)
  have I1 := Aside0.mk (show (Tryd.prog.info? 37).map (fun i => (i.zero, i.size, i.bytes)) = some (some (.agg #[.string ⟨#[]⟩, .int .i64 0, .int .i64 0, .int .i64 0, .int .i64 0]), 5, 48) by kernel_rfl)
  obtain ⟨BN, hN2, nC2, nK2⟩ := cells_of g2
  have NK2 := Aside0.mk nK2
  have NN2 := Aside0.mk nC2
  have HN2 := Aside0.mk hN2
  have b2 := Aside0.mk hn2
  have n2 := Aside0.mk (show BN.length ≤ 100 by omega)
  have I2 := Aside0.mk (show (Tryd.prog.info? 39).map (fun i => (i.zero, i.size, i.bytes)) = some (some (.agg #[.string ⟨#[]⟩, .int .i64 0]), 2, 24) by kernel_rfl)
  obtain ⟨UN, hN3, nC3, nK3⟩ := cells_of g3
  have NK3 := Aside0.mk nK3
  have NN3 := Aside0.mk nC3
  have HN3 := Aside0.mk hN3
  have b3 := Aside0.mk hn3
  have n3 := Aside0.mk (show UN.length ≤ 100 by omega)
  have I3 := Aside0.mk (show (Tryd.prog.info? 43).map (fun i => (i.zero, i.size, i.bytes)) = some (some (.agg #[.string ⟨#[]⟩, .slice none 0 0, .int .i64 0, .slice none 0 0, .slice none 0 0]), 5, 96) by kernel_rfl)
  have IP := Aside0.mk (show (Tryd.prog.info? 27).map (·.size) = some 4 by kernel_rfl)
  clear eF fF hL hr hN0 nC0 nK0 hn0 g0 hN1 nC1 nK1 hn1 g1 hN2 nC2 nK2 hn2 g2 hN3 nC3 nK3 hn3 g3
  go_enter Tryd.func3, Tryd.ntmps3
  go_wp2_with fail
  refine (PF.out _ HX.out.below).mono ?_
  rintro e w1 ⟨rfl, hb⟩
  have HX0 := Aside0.mk (HX.out.step hb)
  clear hb PF HX
  obtain ⟨⟨q0, q1, q2, q3⟩, i0, i1, i2⟩ := HX0.out.cells
  go_wp2_with fail
  refine (PO.out _ HX0.out.below).mono ?_
  rintro e W1 ⟨rfl, hb⟩
  have HX1 := Aside0.mk (HX0.out.step hb)
  clear hb PO HX0 q0 q1 q2 q3 i0 i1 i2
  have N0 := Aside0.mk (Kd.C_below NN0.out HX1.out.below)
  have N1 := Aside0.mk (Kd.C_below NN1.out HX1.out.below)
  have N2 := Aside0.mk (Kd.C_below NN2.out HX1.out.below)
  have N3 := Aside0.mk (Kd.C_below NN3.out HX1.out.below)
  clear NN0 NN1 NN2 NN3
  go_wp2_with fail
  refine Reg.region_g 30 [some 19, some 20, some 21, some 22, some 23, some 24, some 25, some 26, some 27, some 28, some 29, some 30, some 31, some 32, some 33, some 34, some 35, some 36, some 37, some 38, some 39, some 40, some 41, some 42, some 43, some 44, some 45, some 46, some 47, some 7, none] [0, 0, 2, 7, 0, 16, 63, 0, 0, 256, 1023, 0, 2048, 8191, 0, 0, 32768, 131071, 0, 262144, 1048575, 0, 0, 4194304, 16777215, 0, 33554432, 134217727, 268435455, 0, 1073741823] (true, [([], []), ([], []), ([1], [1]), ([0, 2], [0, 2]), ([], []), ([4], [4]), ([3, 5, 3], [3, 5]), ([], []), ([], []), ([8], [8]), ([7, 9, 6], [7, 9]), ([], []), ([11], [11]), ([10, 12, 10], [10, 12]), ([], []), ([], []), ([15], [15]), ([14, 16, 13], [14, 16]), ([], []), ([18], [18]), ([17, 19, 17], [17, 19]), ([], []), ([], []), ([22], [22]), ([21, 23, 20], [21, 23]), ([], []), ([25], [25]), ([24, 26, 24], [24, 26]), ([6, 13, 20, 27], [6, 13, 20, 27]), ([], []), ([29, 28, 27, 0, 1, 2, 3, 4, 5, 6, 7, 8, 9, 10, 11, 12, 13, 14, 15, 16, 17, 18, 19, 20, 21, 22, 23, 24, 25, 26, 27, 28, 29], [28, 29])])
    (fun i => ([(fun g_ w_ v_ => (Kd.raw 2).R 35 w_ W1.heap.size (fun k_ => g_ k_ = 0) v_ ([])), (fun _ _ v_ => v_ = .pointer (some ⟨w.heap.size, 0, none⟩)), (fun _ _ v_ => v_ = .slice A0 C.length c0), (fun g_ w_ v_ => (Kd.raw 2).R 35 w_ W1.heap.size (fun k_ => g_ k_ = 3) v_ ([] ++ CN)), (fun _ _ v_ => v_ = .agg #[.int .i64 0, .int .i64 0]), (fun g_ w_ v_ => (Kd.raw 2).R 35 w_ W1.heap.size (fun k_ => g_ k_ = 5) v_ ([[.int .i64 0, .int .i64 0]])), (fun g_ w_ v_ => (Kd.raw 2).R 35 w_ W1.heap.size (fun k_ => g_ k_ = 6) v_ (([] ++ CN) ++ [[.int .i64 0, .int .i64 0]])), (fun g_ w_ v_ => (Kd.raw 5).R 37 w_ W1.heap.size (fun k_ => g_ k_ = 7) v_ ([])), (fun _ _ v_ => v_ = .pointer (some ⟨w.heap.size, 1, none⟩)), (fun _ _ v_ => v_ = .slice A1 V.length c1), (fun g_ w_ v_ => (Kd.raw 5).R 37 w_ W1.heap.size (fun k_ => g_ k_ = 10) v_ ([] ++ VN)), (fun _ _ v_ => v_ = .agg #[.string ⟨#[]⟩, .int .i64 0, .int .i64 0, .int .i64 0, .int .i64 0]), (fun g_ w_ v_ => (Kd.raw 5).R 37 w_ W1.heap.size (fun k_ => g_ k_ = 12) v_ ([[.string ⟨#[]⟩, .int .i64 0, .int .i64 0, .int .i64 0, .int .i64 0]])), (fun g_ w_ v_ => (Kd.raw 5).R 37 w_ W1.heap.size (fun k_ => g_ k_ = 13) v_ (([] ++ VN) ++ [[.string ⟨#[]⟩, .int .i64 0, .int .i64 0, .int .i64 0, .int .i64 0]])), (fun g_ w_ v_ => (Kd.raw 2).R 39 w_ W1.heap.size (fun k_ => g_ k_ = 14) v_ ([])), (fun _ _ v_ => v_ = .pointer (some ⟨w.heap.size, 2, none⟩)), (fun _ _ v_ => v_ = .slice A2 B.length c2), (fun g_ w_ v_ => (Kd.raw 2).R 39 w_ W1.heap.size (fun k_ => g_ k_ = 17) v_ ([] ++ BN)), (fun _ _ v_ => v_ = .agg #[.string ⟨#[]⟩, .int .i64 0]), (fun g_ w_ v_ => (Kd.raw 2).R 39 w_ W1.heap.size (fun k_ => g_ k_ = 19) v_ ([[.string ⟨#[]⟩, .int .i64 0]])), (fun g_ w_ v_ => (Kd.raw 2).R 39 w_ W1.heap.size (fun k_ => g_ k_ = 20) v_ (([] ++ BN) ++ [[.string ⟨#[]⟩, .int .i64 0]])), (fun g_ w_ v_ => (Kd.raw 5).R 43 w_ W1.heap.size (fun k_ => g_ k_ = 21) v_ ([])), (fun _ _ v_ => v_ = .pointer (some ⟨w.heap.size, 3, none⟩)), (fun _ _ v_ => v_ = .slice A3 U.length c3), (fun g_ w_ v_ => (Kd.raw 5).R 43 w_ W1.heap.size (fun k_ => g_ k_ = 24) v_ ([] ++ UN)), (fun _ _ v_ => v_ = .agg #[.string ⟨#[]⟩, .slice none 0 0, .int .i64 0, .slice none 0 0, .slice none 0 0]), (fun g_ w_ v_ => (Kd.raw 5).R 43 w_ W1.heap.size (fun k_ => g_ k_ = 26) v_ ([[.string ⟨#[]⟩, .slice none 0 0, .int .i64 0, .slice none 0 0, .slice none 0 0]])), (fun g_ w_ v_ => (Kd.raw 5).R 43 w_ W1.heap.size (fun k_ => g_ k_ = 27) v_ (([] ++ UN) ++ [[.string ⟨#[]⟩, .slice none 0 0, .int .i64 0, .slice none 0 0, .slice none 0 0]])), (fun g_ w_ v_ => ∃ v0_ v1_ v2_ v3_, v_ = .agg #[v0_, v1_, v2_, v3_] ∧ (Kd.raw 2).R 35 w_ W1.heap.size (fun k_ => g_ k_ = 28) v0_ (([] ++ CN) ++ [[.int .i64 0, .int .i64 0]]) ∧ (Kd.raw 5).R 37 w_ W1.heap.size (fun k_ => g_ k_ = 28) v1_ (([] ++ VN) ++ [[.string ⟨#[]⟩, .int .i64 0, .int .i64 0, .int .i64 0, .int .i64 0]]) ∧ (Kd.raw 2).R 39 w_ W1.heap.size (fun k_ => g_ k_ = 28) v2_ (([] ++ BN) ++ [[.string ⟨#[]⟩, .int .i64 0]]) ∧ (Kd.raw 5).R 43 w_ W1.heap.size (fun k_ => g_ k_ = 28) v3_ (([] ++ UN) ++ [[.string ⟨#[]⟩, .slice none 0 0, .int .i64 0, .slice none 0 0, .slice none 0 0]])), (fun g_ w_ v_ => ∃ p_, v_ = .pointer (some ⟨p_, 0, none⟩) ∧ g_ p_ = 29 ∧ W1.heap.size ≤ p_ ∧ p_ < w_.heap.size ∧ w_.heap[p_]? = some (.cells #[.slice none 0 0, .slice none 0 0, .slice none 0 0, .slice none 0 0] 27 (0, 0))), (fun _ _ _ => True)] : List ((Nat → Nat) → World → Value → Prop)).getD i (fun _ _ _ => False)) [[], [], [], [0], [], [], [3], [], [], [], [7], [], [], [10], [], [], [], [14], [], [], [17], [], [], [], [21], [], [], [24], [6, 13, 20, 27], [], []]
    (by kernel_rfl) (by kernel_rfl) (by kernel_rfl) (by kernel_rfl) (by kernel_rfl) (by decide) (by rfl) (by rfl) (by kernel_rfl) (Reg.monoG_getD ?_) [0, 1, 2, 3, 4, 5, 6, 7, 8, 9, 10, 11, 12, 13, 14, 15, 16, 17, 18, 19, 20, 21, 22, 23, 24, 25, 26, 27, 28, 29] (by kernel_rfl) ?_ ?_
  · intro i s_ hs_
    match i, hs_ with
    | 0, hs_ => obtain rfl := Option.some.inj hs_; exact Reg.monoG_R _ _ _ _ _
    | 1, hs_ => obtain rfl := Option.some.inj hs_; exact Reg.monoG_eq _ _
    | 2, hs_ => obtain rfl := Option.some.inj hs_; exact Reg.monoG_eq _ _
    | 3, hs_ => obtain rfl := Option.some.inj hs_; exact Reg.monoG_R _ _ _ _ _
    | 4, hs_ => obtain rfl := Option.some.inj hs_; exact Reg.monoG_eq _ _
    | 5, hs_ => obtain rfl := Option.some.inj hs_; exact Reg.monoG_R _ _ _ _ _
    | 6, hs_ => obtain rfl := Option.some.inj hs_; exact Reg.monoG_R _ _ _ _ _
    | 7, hs_ => obtain rfl := Option.some.inj hs_; exact Reg.monoG_R _ _ _ _ _
    | 8, hs_ => obtain rfl := Option.some.inj hs_; exact Reg.monoG_eq _ _
    | 9, hs_ => obtain rfl := Option.some.inj hs_; exact Reg.monoG_eq _ _
    | 10, hs_ => obtain rfl := Option.some.inj hs_; exact Reg.monoG_R _ _ _ _ _
    | 11, hs_ => obtain rfl := Option.some.inj hs_; exact Reg.monoG_eq _ _
    | 12, hs_ => obtain rfl := Option.some.inj hs_; exact Reg.monoG_R _ _ _ _ _
    | 13, hs_ => obtain rfl := Option.some.inj hs_; exact Reg.monoG_R _ _ _ _ _
    | 14, hs_ => obtain rfl := Option.some.inj hs_; exact Reg.monoG_R _ _ _ _ _
    | 15, hs_ => obtain rfl := Option.some.inj hs_; exact Reg.monoG_eq _ _
    | 16, hs_ => obtain rfl := Option.some.inj hs_; exact Reg.monoG_eq _ _
    | 17, hs_ => obtain rfl := Option.some.inj hs_; exact Reg.monoG_R _ _ _ _ _
    | 18, hs_ => obtain rfl := Option.some.inj hs_; exact Reg.monoG_eq _ _
    | 19, hs_ => obtain rfl := Option.some.inj hs_; exact Reg.monoG_R _ _ _ _ _
    | 20, hs_ => obtain rfl := Option.some.inj hs_; exact Reg.monoG_R _ _ _ _ _
    | 21, hs_ => obtain rfl := Option.some.inj hs_; exact Reg.monoG_R _ _ _ _ _
    | 22, hs_ => obtain rfl := Option.some.inj hs_; exact Reg.monoG_eq _ _
    | 23, hs_ => obtain rfl := Option.some.inj hs_; exact Reg.monoG_eq _ _
    | 24, hs_ => obtain rfl := Option.some.inj hs_; exact Reg.monoG_R _ _ _ _ _
    | 25, hs_ => obtain rfl := Option.some.inj hs_; exact Reg.monoG_eq _ _
    | 26, hs_ => obtain rfl := Option.some.inj hs_; exact Reg.monoG_R _ _ _ _ _
    | 27, hs_ => obtain rfl := Option.some.inj hs_; exact Reg.monoG_R _ _ _ _ _
    | 28, hs_ => obtain rfl := Option.some.inj hs_; exact fun g g' w w' v hs hk h => by obtain ⟨v0_, v1_, v2_, v3_, e_, h0, h1, h2, h3⟩ := h; exact ⟨v0_, v1_, v2_, v3_, e_, Reg.monoG_R 28 _ _ _ _ g g' w w' _ hs hk h0, Reg.monoG_R 28 _ _ _ _ g g' w w' _ hs hk h1, Reg.monoG_R 28 _ _ _ _ g g' w w' _ hs hk h2, Reg.monoG_R 28 _ _ _ _ g g' w w' _ hs hk h3⟩
    | 29, hs_ => obtain rfl := Option.some.inj hs_; exact fun g g' w w' v hs hk h => by obtain ⟨p_, e_, h1, h2, h3, h4⟩ := h; obtain ⟨k1, k2⟩ := hk p_ h3 h1; exact ⟨p_, e_, k2, h2, by omega, k1.trans h4⟩
    | 30, hs_ => obtain rfl := Option.some.inj hs_; exact fun _ _ _ _ _ _ _ _ => trivial
    | k + 31, hs_ => exact absurd hs_ (by simp)
  · skip
    refine Reg.gs_cons ?_ ?_
    · intro g a w_ hb hs hel hon
      refine ⟨_, rfl, fun K hK => ?_⟩
      refine Reg.lit_g (Kd.raw 2) 35 0 (by rfl) (N := 19) rfl (xs := []) (inner := []) ?_ (Reps.none _ _) hb (by simp) (fun v_ w2 g2 h1 h2 h3 h4 => hK.out _ _ _ h1 h2 h3 h4)
      first | (go_simp; done) | (go_simp; rfl)
    refine Reg.gs_cons ?_ ?_
    · intro g a w_ hb hs hel hon
      have e3 : a.tmps[3]? = some (.pointer (some ⟨w.heap.size, 0, none⟩)) := (hel 3 (by decide)).trans rfl
      obtain ⟨_, g3⟩ := Array.getElem?_eq_some_iff.1 e3
      refine ⟨_, rfl, fun K hK => ?_⟩
      refine value_ (w1 := w_) (v := .pointer (some ⟨w.heap.size, 0, none⟩)) (by rfl) rfl ?_ (hK.out _ _ g hb (Nat.le_refl _) Reg.same_keep rfl)
      · go_simp
        (try simp only [i64_w, g3])
        (try go_simp)
        try rfl
    refine Reg.gs_cons ?_ ?_
    · intro g a w_ hb hs hel hon
      obtain ⟨_, e20, rfl⟩ := hon 1 20 (by kernel_rfl) rfl (Reg.cons_one (by kernel_rfl))
      obtain ⟨_, g20⟩ := Array.getElem?_eq_some_iff.1 e20
      obtain ⟨⟨q0, q1, q2, q3⟩, i0, i1, i2⟩ := (HX1.out.step hb).cells
      refine ⟨_, rfl, fun K hK => ?_⟩
      refine value_ (w1 := w_) (v := .slice A0 C.length c0) (by rfl) rfl ?_ (hK.out _ _ g hb (Nat.le_refl _) Reg.same_keep rfl)
      · go_simp
        (try simp only [i64_w, g20])
        (try go_simp)
        try rfl
    refine Reg.gs_cons ?_ ?_
    · intro g a w_ hb hs hel hon
      obtain ⟨v0_, e19, h19⟩ := hon 0 19 (by kernel_rfl) rfl (Reg.cons_one (by kernel_rfl))
      obtain ⟨_, e21, rfl⟩ := hon 2 21 (by kernel_rfl) rfl (Reg.cons_one (by kernel_rfl))
      refine ⟨_, rfl, fun K hK => ?_⟩
      refine Reg.app_g 35 3 0 rfl (by rfl) (.tmp 19) (.tmp 21) 22 (.agg #[.int .i64 0, .int .i64 0]) 16 rfl Tryd.underlying22 I0.out rfl (by decide) (by decide) v0_ [] CN A0 C.length c0 (Reg.eval_at e19) (Reg.eval_at e21) h19 (Kd.C_below N0.out hb) hb (by have := b0.out; simp only [List.length_nil, Nat.zero_add]; omega) (fun v_ w2 g2 h1 h2 h3 h4 => hK.out _ _ _ h1 h2 h3 h4)
    refine Reg.gs_cons ?_ ?_
    · intro g a w_ hb hs hel hon
      refine ⟨_, rfl, fun K hK => ?_⟩
      refine value_ (w1 := w_) (v := .agg #[.int .i64 0, .int .i64 0]) (by rfl) rfl ?_ (hK.out _ _ g hb (Nat.le_refl _) Reg.same_keep rfl)
      · go_simp
        (try simp only [i64_w])
        (try go_simp)
        try rfl
    refine Reg.gs_cons ?_ ?_
    · intro g a w_ hb hs hel hon
      obtain ⟨_, e23, rfl⟩ := hon 4 23 (by kernel_rfl) rfl (Reg.cons_one (by kernel_rfl))
      obtain ⟨_, g23⟩ := Array.getElem?_eq_some_iff.1 e23
      refine ⟨_, rfl, fun K hK => ?_⟩
      refine Reg.lit_g (Kd.raw 2) 35 5 (by rfl) (N := 24) rfl (xs := [[.int .i64 0, .int .i64 0]]) (inner := [.int .i64 0, .int .i64 0]) ?_ (Reps.c2 ⟨rfl, rfl, by simp [Value.oneCell']⟩ (Reps.none _ _)) hb (by simp) (fun v_ w2 g2 h1 h2 h3 h4 => hK.out _ _ _ h1 h2 h3 h4)
      · go_simp
        (try simp only [i64_w, g23])
        (try go_simp)
        try rfl
    refine Reg.gs_cons ?_ ?_
    · intro g a w_ hb hs hel hon
      obtain ⟨v0_, e22, h22⟩ := hon 3 22 (by kernel_rfl) rfl (Reg.cons_one (by kernel_rfl))
      obtain ⟨v1_, e24, h24⟩ := hon 5 24 (by kernel_rfl) rfl (Reg.cons_one (by kernel_rfl))
      obtain ⟨Aq, cq, rfl, hq, hCq⟩ := Kd.R_reads h24
      refine ⟨_, rfl, fun K hK => ?_⟩
      refine Reg.app_g 35 6 3 rfl (by rfl) (.tmp 22) (.tmp 24) 22 (.agg #[.int .i64 0, .int .i64 0]) 16 rfl Tryd.underlying22 I0.out rfl (by decide) (by decide) v0_ ([] ++ CN) [[.int .i64 0, .int .i64 0]] Aq 1 cq (Reg.eval_at e22) (Reg.eval_at e24) h22 hCq hb (by have := b0.out; have := n0.out; simp only [List.length_append, List.length_nil, Nat.zero_add]; omega) (fun v_ w2 g2 h1 h2 h3 h4 => hK.out _ _ _ h1 h2 h3 h4)
    refine Reg.gs_cons ?_ ?_
    · intro g a w_ hb hs hel hon
      refine ⟨_, rfl, fun K hK => ?_⟩
      refine Reg.lit_g (Kd.raw 5) 37 7 (by rfl) (N := 26) rfl (xs := []) (inner := []) ?_ (Reps.none _ _) hb (by simp) (fun v_ w2 g2 h1 h2 h3 h4 => hK.out _ _ _ h1 h2 h3 h4)
      first | (go_simp; done) | (go_simp; rfl)
    refine Reg.gs_cons ?_ ?_
    · intro g a w_ hb hs hel hon
      have e3 : a.tmps[3]? = some (.pointer (some ⟨w.heap.size, 0, none⟩)) := (hel 3 (by decide)).trans rfl
      obtain ⟨_, g3⟩ := Array.getElem?_eq_some_iff.1 e3
      refine ⟨_, rfl, fun K hK => ?_⟩
      refine value_ (w1 := w_) (v := .pointer (some ⟨w.heap.size, 1, none⟩)) (by rfl) rfl ?_ (hK.out _ _ g hb (Nat.le_refl _) Reg.same_keep rfl)
      · go_simp
        (try simp only [i64_w, g3])
        (try go_simp)
        try rfl
    refine Reg.gs_cons ?_ ?_
    · intro g a w_ hb hs hel hon
      obtain ⟨_, e27, rfl⟩ := hon 8 27 (by kernel_rfl) rfl (Reg.cons_one (by kernel_rfl))
      obtain ⟨_, g27⟩ := Array.getElem?_eq_some_iff.1 e27
      obtain ⟨⟨q0, q1, q2, q3⟩, i0, i1, i2⟩ := (HX1.out.step hb).cells
      refine ⟨_, rfl, fun K hK => ?_⟩
      refine value_ (w1 := w_) (v := .slice A1 V.length c1) (by rfl) rfl ?_ (hK.out _ _ g hb (Nat.le_refl _) Reg.same_keep rfl)
      · go_simp
        (try simp only [i64_w, g27])
        (try go_simp)
        try rfl
    refine Reg.gs_cons ?_ ?_
    · intro g a w_ hb hs hel hon
      obtain ⟨v0_, e26, h26⟩ := hon 7 26 (by kernel_rfl) rfl (Reg.cons_one (by kernel_rfl))
      obtain ⟨_, e28, rfl⟩ := hon 9 28 (by kernel_rfl) rfl (Reg.cons_one (by kernel_rfl))
      refine ⟨_, rfl, fun K hK => ?_⟩
      refine Reg.app_g 37 10 7 rfl (by rfl) (.tmp 26) (.tmp 28) 23 (.agg #[.string ⟨#[]⟩, .int .i64 0, .int .i64 0, .int .i64 0, .int .i64 0]) 48 rfl Tryd.underlying23 I1.out rfl (by decide) (by decide) v0_ [] VN A1 V.length c1 (Reg.eval_at e26) (Reg.eval_at e28) h26 (Kd.C_below N1.out hb) hb (by have := b1.out; simp only [List.length_nil, Nat.zero_add]; omega) (fun v_ w2 g2 h1 h2 h3 h4 => hK.out _ _ _ h1 h2 h3 h4)
    refine Reg.gs_cons ?_ ?_
    · intro g a w_ hb hs hel hon
      refine ⟨_, rfl, fun K hK => ?_⟩
      refine value_ (w1 := w_) (v := .agg #[.string ⟨#[]⟩, .int .i64 0, .int .i64 0, .int .i64 0, .int .i64 0]) (by rfl) rfl ?_ (hK.out _ _ g hb (Nat.le_refl _) Reg.same_keep rfl)
      · go_simp
        (try simp only [i64_w])
        (try go_simp)
        try rfl
    refine Reg.gs_cons ?_ ?_
    · intro g a w_ hb hs hel hon
      obtain ⟨_, e30, rfl⟩ := hon 11 30 (by kernel_rfl) rfl (Reg.cons_one (by kernel_rfl))
      obtain ⟨_, g30⟩ := Array.getElem?_eq_some_iff.1 e30
      refine ⟨_, rfl, fun K hK => ?_⟩
      refine Reg.lit_g (Kd.raw 5) 37 12 (by rfl) (N := 31) rfl (xs := [[.string ⟨#[]⟩, .int .i64 0, .int .i64 0, .int .i64 0, .int .i64 0]]) (inner := [.string ⟨#[]⟩, .int .i64 0, .int .i64 0, .int .i64 0, .int .i64 0]) ?_ (Reps.c5 ⟨rfl, rfl, by simp [Value.oneCell']⟩ (Reps.none _ _)) hb (by simp) (fun v_ w2 g2 h1 h2 h3 h4 => hK.out _ _ _ h1 h2 h3 h4)
      · go_simp
        (try simp only [i64_w, g30])
        (try go_simp)
        try rfl
    refine Reg.gs_cons ?_ ?_
    · intro g a w_ hb hs hel hon
      obtain ⟨v0_, e29, h29⟩ := hon 10 29 (by kernel_rfl) rfl (Reg.cons_one (by kernel_rfl))
      obtain ⟨v1_, e31, h31⟩ := hon 12 31 (by kernel_rfl) rfl (Reg.cons_one (by kernel_rfl))
      obtain ⟨Aq, cq, rfl, hq, hCq⟩ := Kd.R_reads h31
      refine ⟨_, rfl, fun K hK => ?_⟩
      refine Reg.app_g 37 13 10 rfl (by rfl) (.tmp 29) (.tmp 31) 23 (.agg #[.string ⟨#[]⟩, .int .i64 0, .int .i64 0, .int .i64 0, .int .i64 0]) 48 rfl Tryd.underlying23 I1.out rfl (by decide) (by decide) v0_ ([] ++ VN) [[.string ⟨#[]⟩, .int .i64 0, .int .i64 0, .int .i64 0, .int .i64 0]] Aq 1 cq (Reg.eval_at e29) (Reg.eval_at e31) h29 hCq hb (by have := b1.out; have := n1.out; simp only [List.length_append, List.length_nil, Nat.zero_add]; omega) (fun v_ w2 g2 h1 h2 h3 h4 => hK.out _ _ _ h1 h2 h3 h4)
    refine Reg.gs_cons ?_ ?_
    · intro g a w_ hb hs hel hon
      refine ⟨_, rfl, fun K hK => ?_⟩
      refine Reg.lit_g (Kd.raw 2) 39 14 (by rfl) (N := 33) rfl (xs := []) (inner := []) ?_ (Reps.none _ _) hb (by simp) (fun v_ w2 g2 h1 h2 h3 h4 => hK.out _ _ _ h1 h2 h3 h4)
      first | (go_simp; done) | (go_simp; rfl)
    refine Reg.gs_cons ?_ ?_
    · intro g a w_ hb hs hel hon
      have e3 : a.tmps[3]? = some (.pointer (some ⟨w.heap.size, 0, none⟩)) := (hel 3 (by decide)).trans rfl
      obtain ⟨_, g3⟩ := Array.getElem?_eq_some_iff.1 e3
      refine ⟨_, rfl, fun K hK => ?_⟩
      refine value_ (w1 := w_) (v := .pointer (some ⟨w.heap.size, 2, none⟩)) (by rfl) rfl ?_ (hK.out _ _ g hb (Nat.le_refl _) Reg.same_keep rfl)
      · go_simp
        (try simp only [i64_w, g3])
        (try go_simp)
        try rfl
    refine Reg.gs_cons ?_ ?_
    · intro g a w_ hb hs hel hon
      obtain ⟨_, e34, rfl⟩ := hon 15 34 (by kernel_rfl) rfl (Reg.cons_one (by kernel_rfl))
      obtain ⟨_, g34⟩ := Array.getElem?_eq_some_iff.1 e34
      obtain ⟨⟨q0, q1, q2, q3⟩, i0, i1, i2⟩ := (HX1.out.step hb).cells
      refine ⟨_, rfl, fun K hK => ?_⟩
      refine value_ (w1 := w_) (v := .slice A2 B.length c2) (by rfl) rfl ?_ (hK.out _ _ g hb (Nat.le_refl _) Reg.same_keep rfl)
      · go_simp
        (try simp only [i64_w, g34])
        (try go_simp)
        try rfl
    refine Reg.gs_cons ?_ ?_
    · intro g a w_ hb hs hel hon
      obtain ⟨v0_, e33, h33⟩ := hon 14 33 (by kernel_rfl) rfl (Reg.cons_one (by kernel_rfl))
      obtain ⟨_, e35, rfl⟩ := hon 16 35 (by kernel_rfl) rfl (Reg.cons_one (by kernel_rfl))
      refine ⟨_, rfl, fun K hK => ?_⟩
      refine Reg.app_g 39 17 14 rfl (by rfl) (.tmp 33) (.tmp 35) 24 (.agg #[.string ⟨#[]⟩, .int .i64 0]) 24 rfl Tryd.underlying24 I2.out rfl (by decide) (by decide) v0_ [] BN A2 B.length c2 (Reg.eval_at e33) (Reg.eval_at e35) h33 (Kd.C_below N2.out hb) hb (by have := b2.out; simp only [List.length_nil, Nat.zero_add]; omega) (fun v_ w2 g2 h1 h2 h3 h4 => hK.out _ _ _ h1 h2 h3 h4)
    refine Reg.gs_cons ?_ ?_
    · intro g a w_ hb hs hel hon
      refine ⟨_, rfl, fun K hK => ?_⟩
      refine value_ (w1 := w_) (v := .agg #[.string ⟨#[]⟩, .int .i64 0]) (by rfl) rfl ?_ (hK.out _ _ g hb (Nat.le_refl _) Reg.same_keep rfl)
      · go_simp
        (try simp only [i64_w])
        (try go_simp)
        try rfl
    refine Reg.gs_cons ?_ ?_
    · intro g a w_ hb hs hel hon
      obtain ⟨_, e37, rfl⟩ := hon 18 37 (by kernel_rfl) rfl (Reg.cons_one (by kernel_rfl))
      obtain ⟨_, g37⟩ := Array.getElem?_eq_some_iff.1 e37
      refine ⟨_, rfl, fun K hK => ?_⟩
      refine Reg.lit_g (Kd.raw 2) 39 19 (by rfl) (N := 38) rfl (xs := [[.string ⟨#[]⟩, .int .i64 0]]) (inner := [.string ⟨#[]⟩, .int .i64 0]) ?_ (Reps.c2 ⟨rfl, rfl, by simp [Value.oneCell']⟩ (Reps.none _ _)) hb (by simp) (fun v_ w2 g2 h1 h2 h3 h4 => hK.out _ _ _ h1 h2 h3 h4)
      · go_simp
        (try simp only [i64_w, g37])
        (try go_simp)
        try rfl
    refine Reg.gs_cons ?_ ?_
    · intro g a w_ hb hs hel hon
      obtain ⟨v0_, e36, h36⟩ := hon 17 36 (by kernel_rfl) rfl (Reg.cons_one (by kernel_rfl))
      obtain ⟨v1_, e38, h38⟩ := hon 19 38 (by kernel_rfl) rfl (Reg.cons_one (by kernel_rfl))
      obtain ⟨Aq, cq, rfl, hq, hCq⟩ := Kd.R_reads h38
      refine ⟨_, rfl, fun K hK => ?_⟩
      refine Reg.app_g 39 20 17 rfl (by rfl) (.tmp 36) (.tmp 38) 24 (.agg #[.string ⟨#[]⟩, .int .i64 0]) 24 rfl Tryd.underlying24 I2.out rfl (by decide) (by decide) v0_ ([] ++ BN) [[.string ⟨#[]⟩, .int .i64 0]] Aq 1 cq (Reg.eval_at e36) (Reg.eval_at e38) h36 hCq hb (by have := b2.out; have := n2.out; simp only [List.length_append, List.length_nil, Nat.zero_add]; omega) (fun v_ w2 g2 h1 h2 h3 h4 => hK.out _ _ _ h1 h2 h3 h4)
    refine Reg.gs_cons ?_ ?_
    · intro g a w_ hb hs hel hon
      refine ⟨_, rfl, fun K hK => ?_⟩
      refine Reg.lit_g (Kd.raw 5) 43 21 (by rfl) (N := 40) rfl (xs := []) (inner := []) ?_ (Reps.none _ _) hb (by simp) (fun v_ w2 g2 h1 h2 h3 h4 => hK.out _ _ _ h1 h2 h3 h4)
      first | (go_simp; done) | (go_simp; rfl)
    refine Reg.gs_cons ?_ ?_
    · intro g a w_ hb hs hel hon
      have e3 : a.tmps[3]? = some (.pointer (some ⟨w.heap.size, 0, none⟩)) := (hel 3 (by decide)).trans rfl
      obtain ⟨_, g3⟩ := Array.getElem?_eq_some_iff.1 e3
      refine ⟨_, rfl, fun K hK => ?_⟩
      refine value_ (w1 := w_) (v := .pointer (some ⟨w.heap.size, 3, none⟩)) (by rfl) rfl ?_ (hK.out _ _ g hb (Nat.le_refl _) Reg.same_keep rfl)
      · go_simp
        (try simp only [i64_w, g3])
        (try go_simp)
        try rfl
    refine Reg.gs_cons ?_ ?_
    · intro g a w_ hb hs hel hon
      obtain ⟨_, e41, rfl⟩ := hon 22 41 (by kernel_rfl) rfl (Reg.cons_one (by kernel_rfl))
      obtain ⟨_, g41⟩ := Array.getElem?_eq_some_iff.1 e41
      obtain ⟨⟨q0, q1, q2, q3⟩, i0, i1, i2⟩ := (HX1.out.step hb).cells
      refine ⟨_, rfl, fun K hK => ?_⟩
      refine value_ (w1 := w_) (v := .slice A3 U.length c3) (by rfl) rfl ?_ (hK.out _ _ g hb (Nat.le_refl _) Reg.same_keep rfl)
      · go_simp
        (try simp only [i64_w, g41])
        (try go_simp)
        try rfl
    refine Reg.gs_cons ?_ ?_
    · intro g a w_ hb hs hel hon
      obtain ⟨v0_, e40, h40⟩ := hon 21 40 (by kernel_rfl) rfl (Reg.cons_one (by kernel_rfl))
      obtain ⟨_, e42, rfl⟩ := hon 23 42 (by kernel_rfl) rfl (Reg.cons_one (by kernel_rfl))
      refine ⟨_, rfl, fun K hK => ?_⟩
      refine Reg.app_g 43 24 21 rfl (by rfl) (.tmp 40) (.tmp 42) 25 (.agg #[.string ⟨#[]⟩, .slice none 0 0, .int .i64 0, .slice none 0 0, .slice none 0 0]) 96 rfl Tryd.underlying25 I3.out rfl (by decide) (by decide) v0_ [] UN A3 U.length c3 (Reg.eval_at e40) (Reg.eval_at e42) h40 (Kd.C_below N3.out hb) hb (by have := b3.out; simp only [List.length_nil, Nat.zero_add]; omega) (fun v_ w2 g2 h1 h2 h3 h4 => hK.out _ _ _ h1 h2 h3 h4)
    refine Reg.gs_cons ?_ ?_
    · intro g a w_ hb hs hel hon
      refine ⟨_, rfl, fun K hK => ?_⟩
      refine value_ (w1 := w_) (v := .agg #[.string ⟨#[]⟩, .slice none 0 0, .int .i64 0, .slice none 0 0, .slice none 0 0]) (by rfl) rfl ?_ (hK.out _ _ g hb (Nat.le_refl _) Reg.same_keep rfl)
      · go_simp
        (try simp only [i64_w])
        (try go_simp)
        try rfl
    refine Reg.gs_cons ?_ ?_
    · intro g a w_ hb hs hel hon
      obtain ⟨_, e44, rfl⟩ := hon 25 44 (by kernel_rfl) rfl (Reg.cons_one (by kernel_rfl))
      obtain ⟨_, g44⟩ := Array.getElem?_eq_some_iff.1 e44
      refine ⟨_, rfl, fun K hK => ?_⟩
      refine Reg.lit_g (Kd.raw 5) 43 26 (by rfl) (N := 45) rfl (xs := [[.string ⟨#[]⟩, .slice none 0 0, .int .i64 0, .slice none 0 0, .slice none 0 0]]) (inner := [.string ⟨#[]⟩, .slice none 0 0, .int .i64 0, .slice none 0 0, .slice none 0 0]) ?_ (Reps.c5 ⟨rfl, rfl, by simp [Value.oneCell']⟩ (Reps.none _ _)) hb (by simp) (fun v_ w2 g2 h1 h2 h3 h4 => hK.out _ _ _ h1 h2 h3 h4)
      · go_simp
        (try simp only [i64_w, g44])
        (try go_simp)
        try rfl
    refine Reg.gs_cons ?_ ?_
    · intro g a w_ hb hs hel hon
      obtain ⟨v0_, e43, h43⟩ := hon 24 43 (by kernel_rfl) rfl (Reg.cons_one (by kernel_rfl))
      obtain ⟨v1_, e45, h45⟩ := hon 26 45 (by kernel_rfl) rfl (Reg.cons_one (by kernel_rfl))
      obtain ⟨Aq, cq, rfl, hq, hCq⟩ := Kd.R_reads h45
      refine ⟨_, rfl, fun K hK => ?_⟩
      refine Reg.app_g 43 27 24 rfl (by rfl) (.tmp 43) (.tmp 45) 25 (.agg #[.string ⟨#[]⟩, .slice none 0 0, .int .i64 0, .slice none 0 0, .slice none 0 0]) 96 rfl Tryd.underlying25 I3.out rfl (by decide) (by decide) v0_ ([] ++ UN) [[.string ⟨#[]⟩, .slice none 0 0, .int .i64 0, .slice none 0 0, .slice none 0 0]] Aq 1 cq (Reg.eval_at e43) (Reg.eval_at e45) h43 hCq hb (by have := b3.out; have := n3.out; simp only [List.length_append, List.length_nil, Nat.zero_add]; omega) (fun v_ w2 g2 h1 h2 h3 h4 => hK.out _ _ _ h1 h2 h3 h4)
    refine Reg.gs_cons ?_ ?_
    · intro g a w_ hb hs hel hon
      obtain ⟨v0_, e25, h0⟩ := hon 6 25 (by kernel_rfl) rfl (Reg.cons_one (by kernel_rfl))
      obtain ⟨v1_, e32, h1⟩ := hon 13 32 (by kernel_rfl) rfl (Reg.cons_one (by kernel_rfl))
      obtain ⟨v2_, e39, h2⟩ := hon 20 39 (by kernel_rfl) rfl (Reg.cons_one (by kernel_rfl))
      obtain ⟨v3_, e46, h3⟩ := hon 27 46 (by kernel_rfl) rfl (Reg.cons_one (by kernel_rfl))
      obtain ⟨Aa0, ca0, rfl⟩ := Kd.R_slice h0
      obtain ⟨Aa1, ca1, rfl⟩ := Kd.R_slice h1
      obtain ⟨Aa2, ca2, rfl⟩ := Kd.R_slice h2
      obtain ⟨Aa3, ca3, rfl⟩ := Kd.R_slice h3
      obtain ⟨_, g25⟩ := Array.getElem?_eq_some_iff.1 e25
      obtain ⟨_, g32⟩ := Array.getElem?_eq_some_iff.1 e32
      obtain ⟨_, g39⟩ := Array.getElem?_eq_some_iff.1 e39
      obtain ⟨_, g46⟩ := Array.getElem?_eq_some_iff.1 e46
      refine ⟨_, rfl, fun K hK => ?_⟩
      refine value_ (w1 := w_) (v := .agg #[_, _, _, _]) (by rfl) rfl ?_ (hK.out _ _ (fun k_ => if g k_ ∈ [6, 13, 20, 27] then 28 else g k_) hb (Nat.le_refl _) (fun k_ hk_ hn_ => ⟨rfl, if_neg hn_⟩) ⟨_, _, _, _, rfl, Kd.R_mono h0 (fun k_ hk_ => if_pos (by rw [hk_]; simp)), Kd.R_mono h1 (fun k_ hk_ => if_pos (by rw [hk_]; simp)), Kd.R_mono h2 (fun k_ hk_ => if_pos (by rw [hk_]; simp)), Kd.R_mono h3 (fun k_ hk_ => if_pos (by rw [hk_]; simp))⟩)
      · go_simp
        (try simp only [i64_w, g25, g32, g39, g46])
        (try go_simp)
        try rfl
    refine Reg.gs_cons ?_ ?_
    · intro g a w_ hb hs hel hon
      refine ⟨_, rfl, fun K hK => ?_⟩
      refine value_ (w1 := w_.alloc (.cells #[.slice none 0 0, .slice none 0 0, .slice none 0 0, .slice none 0 0] 27)) (v := .pointer (some ⟨w_.heap.size, 0, none⟩)) (by rfl) rfl ?_ (hK.out _ _ (Reg.own g w_.heap.size 29) (hb.alloc hb.size _) (by simp) (Reg.own_keep ((Below.refl _ _).alloc (Nat.le_refl _) _)) ⟨_, rfl, Reg.own_new (Nat.le_refl _), hb.size, by simp, heap_alloc_new _ _⟩)
      · go_simp
        (try simp only [i64_w])
        (try go_simp)
        try rfl
    exact Reg.gs_nil
  · intro g a w_ hb hdf hs hel hon
    obtain ⟨_, e47, v0_, v1_, v2_, v3_, rfl, h0, h1, h2, h3⟩ := hon 28 47 (by kernel_rfl) rfl (Reg.cons_one (by kernel_rfl))
    obtain ⟨_, e7, p_, rfl, hp1, hp2, hp3, hp4⟩ := hon 29 7 (by kernel_rfl) rfl (Reg.cons_one (by kernel_rfl))
    obtain ⟨B0, d0, rfl, m0, mc0⟩ := Kd.R_reads h0
    clear mc0
    obtain ⟨B1, d1, rfl, m1, mc1⟩ := Kd.R_reads h1
    clear mc1
    obtain ⟨B2, d2, rfl, m2, mc2⟩ := Kd.R_reads h2
    clear mc2
    obtain ⟨B3, d3, rfl, m3, mc3⟩ := Kd.R_reads h3
    clear mc3
    refine ⟨_, rfl, fun K hK => ?_⟩
    rw [if_pos (by rfl)]
    refine wp_store_row 27 (.tmp 7) (.tmp 47) rfl p_ _ (Reg.eval_at e7) (Reg.eval_at e47) 27 _ hp4 (by rw [IP.out]; rfl) rfl (by kernel_rfl) (hK.out _ _ ?_)
    clear hK
    rename_i K_ hK_
    refine hK_ _ _ ?_
    have G7 := Reg.getD_of e7
    have G47 := Reg.getD_of e47
    have hfr := Reg.RegI.frame (⟨hb, hdf, hs, hel, fun _ _ _ h_ => by cases h_⟩ : Reg.RegI _ (fun _ _ _ => True) _ W1 (fun _ => false) a w_)
    have hap : ∀ {k : Nat}, g k = 28 → k ≠ p_ := fun h_ e_ => by rw [e_, hp1] at h_; cases h_
    have hcs : ∀ k, k < w_.heap.size → g k = 28 → (w_.setRow p_ #[.slice B0 (([] ++ CN) ++ [([.int .i64 0, .int .i64 0] : List Value)]).length d0, .slice B1 (([] ++ VN) ++ [([.string ⟨#[]⟩, .int .i64 0, .int .i64 0, .int .i64 0, .int .i64 0] : List Value)]).length d1, .slice B2 (([] ++ BN) ++ [([.string ⟨#[]⟩, .int .i64 0] : List Value)]).length d2, .slice B3 (([] ++ UN) ++ [([.string ⟨#[]⟩, .slice none 0 0, .int .i64 0, .slice none 0 0, .slice none 0 0] : List Value)]).length d3]).heap[k]? = w_.heap[k]? := fun k _ h_ => setRow_other' _ _ _ k (hap h_)
    obtain ⟨W2, hW2⟩ : ∃ W2, W2 = w_.setRow p_ #[.slice B0 (([] ++ CN) ++ [([.int .i64 0, .int .i64 0] : List Value)]).length d0, .slice B1 (([] ++ VN) ++ [([.string ⟨#[]⟩, .int .i64 0, .int .i64 0, .int .i64 0, .int .i64 0] : List Value)]).length d1, .slice B2 (([] ++ BN) ++ [([.string ⟨#[]⟩, .int .i64 0] : List Value)]).length d2, .slice B3 (([] ++ UN) ++ [([.string ⟨#[]⟩, .slice none 0 0, .int .i64 0, .slice none 0 0, .slice none 0 0] : List Value)]).length d3] := ⟨_, rfl⟩
    rw [← hW2] at hcs ⊢
    have r0 := Kd.R_reads' (Kd.R_step h0 (fun k hk hlt => hcs k hlt hk))
    have r1 := Kd.R_reads' (Kd.R_step h1 (fun k hk hlt => hcs k hlt hk))
    have r2 := Kd.R_reads' (Kd.R_step h2 (fun k hk hlt => hcs k hlt hk))
    have r3 := Kd.R_reads' (Kd.R_step h3 (fun k hk hlt => hcs k hlt hk))
    have hbl : W2.heap[p_]? = some (.cells #[.slice B0 (([] ++ CN) ++ [([.int .i64 0, .int .i64 0] : List Value)]).length d0, .slice B1 (([] ++ VN) ++ [([.string ⟨#[]⟩, .int .i64 0, .int .i64 0, .int .i64 0, .int .i64 0] : List Value)]).length d1, .slice B2 (([] ++ BN) ++ [([.string ⟨#[]⟩, .int .i64 0] : List Value)]).length d2, .slice B3 (([] ++ UN) ++ [([.string ⟨#[]⟩, .slice none 0 0, .int .i64 0, .slice none 0 0, .slice none 0 0] : List Value)]).length d3] 27 (0, 0)) := by rw [hW2]; exact setRow_at' _ _ _ _ _ hp4
    have hbw : Below W1.heap.size W1 W2 := by rw [hW2]; exact below_setRow hb hp2 _
    have HX2 := Aside0.mk (HX1.out.step hbw)
    have HBL := Aside0.mk hbl
    have Q0 := Aside0.mk (more_of (z := zC) (zc := [.int .i64 0, .int .i64 0]) HN0.out NK0.out HX2.out.below (zk_C W2) r0.2.2)
    have L0 := Aside0.mk (show (C ++ [zC]).length ≤ d0 by have := r0.2.1; have := HN0.out; simp only [List.length_append, List.length_nil, List.length_singleton] at *; omega)
    have E0 : (([] ++ CN) ++ [([.int .i64 0, .int .i64 0] : List Value)]).length = (C ++ [zC]).length := by have := HN0.out; simp only [List.length_append, List.length_nil, List.length_singleton]; omega
    have Q1 := Aside0.mk (more_of (z := zV) (zc := [.string ⟨#[]⟩, .int .i64 0, .int .i64 0, .int .i64 0, .int .i64 0]) HN1.out NK1.out HX2.out.below (zk_V W2) r1.2.2)
    have L1 := Aside0.mk (show (V ++ [zV]).length ≤ d1 by have := r1.2.1; have := HN1.out; simp only [List.length_append, List.length_nil, List.length_singleton] at *; omega)
    have E1 : (([] ++ VN) ++ [([.string ⟨#[]⟩, .int .i64 0, .int .i64 0, .int .i64 0, .int .i64 0] : List Value)]).length = (V ++ [zV]).length := by have := HN1.out; simp only [List.length_append, List.length_nil, List.length_singleton]; omega
    have Q2 := Aside0.mk (more_of (z := zB) (zc := [.string ⟨#[]⟩, .int .i64 0]) HN2.out NK2.out HX2.out.below (zk_B W2) r2.2.2)
    have L2 := Aside0.mk (show (B ++ [zB]).length ≤ d2 by have := r2.2.1; have := HN2.out; simp only [List.length_append, List.length_nil, List.length_singleton] at *; omega)
    have E2 : (([] ++ BN) ++ [([.string ⟨#[]⟩, .int .i64 0] : List Value)]).length = (B ++ [zB]).length := by have := HN2.out; simp only [List.length_append, List.length_nil, List.length_singleton]; omega
    have Q3 := Aside0.mk (more_of (z := zU) (zc := [.string ⟨#[]⟩, .slice none 0 0, .int .i64 0, .slice none 0 0, .slice none 0 0]) HN3.out NK3.out HX2.out.below (zk_U W2) r3.2.2)
    have L3 := Aside0.mk (show (U ++ [zU]).length ≤ d3 by have := r3.2.1; have := HN3.out; simp only [List.length_append, List.length_nil, List.length_singleton] at *; omega)
    have E3 : (([] ++ UN) ++ [([.string ⟨#[]⟩, .slice none 0 0, .int .i64 0, .slice none 0 0, .slice none 0 0] : List Value)]).length = (U ++ [zU]).length := by have := HN3.out; simp only [List.length_append, List.length_nil, List.length_singleton]; omega
    rw [E0, E1, E2, E3] at HBL G47
    clear hcs hap hbl hbw hW2 hp1 hp2 hp3 hp4 h0 h1 h2 h3 r0 r1 r2 r3 E0 E1 E2 E3 HX1 m0 m1 m2 m3
    rw [hfr]
    simp only [Reg.puts, Act.put, List.setIfInBounds_toArray, List.set_cons_zero, List.set_cons_succ]
    rw [G7, G47]
    generalize a.tmps = ts_
    clear hfr hK_ G7 G47 e7 e47 hdf hs hel hb hon
    obtain ⟨⟨q0, q1, q2, q3⟩, i0, i1, i2⟩ := HX2.out.cells
    have s0 : W2.cell? ⟨p_, 0, none⟩ = some (.slice B0 (C ++ [zC]).length d0) := (blk_cell HBL.out 0).trans rfl
    have s1 : W2.cell? ⟨p_, 1, none⟩ = some (.slice B1 (V ++ [zV]).length d1) := (blk_cell HBL.out 1).trans rfl
    have s2 : W2.cell? ⟨p_, 2, none⟩ = some (.slice B2 (B ++ [zB]).length d2) := (blk_cell HBL.out 2).trans rfl
    have s3 : W2.cell? ⟨p_, 3, none⟩ = some (.slice B3 (U ++ [zU]).length d3) := (blk_cell HBL.out 3).trans rfl
    generalize hl0 : (C ++ [zC]).length = ln0 at *
    clear hl0
    generalize hl1 : (V ++ [zV]).length = ln1 at *
    clear hl1
    generalize hl2 : (B ++ [zB]).length = ln2 at *
    clear hl2
    generalize hl3 : (U ++ [zU]).length = ln3 at *
    clear hl3
    go_wp2_with fail
    refine (PQ.out W2 HX2.out.below B0 d0 B1 d1 B2 d2 B3 d3 Q0.out L0.out Q1.out L1.out Q2.out L2.out Q3.out L3.out).mono ?_
    rintro e w3 ⟨rfl, hb⟩
    have HX3 := Aside0.mk (HX2.out.step hb)
    clear hb PQ HX2 q0 q1 q2 q3 i0 i1 i2 s0 s1 s2 s3
    go_wp2_with fail
    refine (PA.out _ HX3.out.below).mono ?_
    rintro e w4 ⟨rfl, hb⟩
    have HX4 := Aside0.mk (HX3.out.step hb)
    clear hb PA HX3
    go_wp2_with fail
    go_ret
    exact ⟨rfl, HX4.out.below⟩
end Go.Proofs.YthdlocigijiobaaDoor.RPure
end

section
/- What a package's variable that is laid as plain data has in its cells; numbers, truths, texts, structs and arrays alone. -/
namespace Go.Proofs.YthdlocigijiobaaDoor.Flat
open Go Go.Lib Go.RowKit
mutual
/-- The cells that a datum of numbers, bools, texts, structs and arrays says. -/
def flatW {H : Type} : DataW H → Option (List Value)
  | .lit (.int k n) => some [.int k n]
  | .lit (.bool b) => some [.bool b]
  | .lit (.string s) => some [.string ⟨s.toArray⟩]
  | .agg ps => flatWs ps
  | _ => none
def flatWs {H : Type} : List (DataW H) → Option (List Value)
  | [] => some []
  | d :: r => (flatW d).bind fun a => (flatWs r).map (a ++ ·)
end
/-- Do a type's parts lie one behind the other, without a gap? -/
def tiles (P : Program) : Nat → TypeId → Bool
  | 0, _ => false
  | n + 1, t => match P.underlying t with
    | some .bool | some (.int _) | some .string => true
    | some (.struct fs) => fs.toList.foldl (fun o f => o.bind fun k => if f.offset = k ∧ tiles P n f.type = true then some (k + P.cellsOf f.type) else none) (some 0) == some (P.cellsOf t)
    | some (.array m e) => tiles P n e && P.cellsOf t == m * P.cellsOf e
    | _ => false
theorem foldl_none {α β : Type} (f : Option β → α → Option β) (h : ∀ a, f none a = none) : ∀ l : List α, l.foldl f none = none
  | [] => rfl
  | a :: l => by rw [List.foldl_cons, h, foldl_none f h l]
theorem flat_cells {H : Type} {enc : TypeId × Value → H} {P : Program} {w : World} {base : Nat} {sp : Nat → Bool} {held : Bool} :
    ∀ (n fuel : Nat) (t : TypeId) (cs : List Value) (d : DataW H) (ps : List MemPlace) (vs : List Value), tiles P n t = true → DataW.trod enc P w base sp held fuel t cs = some (d, ps) → flatW d = some vs → cs = vs := by
  intro n
  induction n with
  | zero => intro fuel t cs d ps vs ht; simp [tiles] at ht
  | succ n ih =>
    intro fuel t cs d ps vs ht h hf
    cases fuel with
    | zero => simp [DataW.trod] at h
    | succ fuel =>
      cases hu : P.underlying t with
      | none => simp [tiles, hu] at ht
      | some u =>
        cases u with
        | bool =>
          unfold DataW.trod at h; rw [hu] at h
          split at h <;> simp_all
          obtain ⟨rfl, _⟩ := h
          simp [flatW] at hf; exact hf
        | int k =>
          unfold DataW.trod at h; rw [hu] at h
          split at h <;> simp_all
          obtain ⟨⟨rfl, _⟩, rfl, _⟩ := h
          simp [flatW] at hf; exact hf
        | string =>
          unfold DataW.trod at h; rw [hu] at h
          split at h <;> simp_all
          obtain ⟨_, rfl, _⟩ := h
          simp [flatW] at hf; exact hf
        | struct fs =>
          simp only [tiles, hu, beq_iff_eq] at ht
          unfold DataW.trod at h; rw [hu] at h
          simp only at h
          split at h
          · rename_i hl
            obtain ⟨xs, hm, hx⟩ := Option.map_eq_some_iff.1 h
            simp only [Prod.mk.injEq] at hx
            obtain ⟨rfl, _⟩ := hx
            have key : ∀ (fs : List Field) (k : Nat) (xs : List (DataW H × List MemPlace)) (vs : List Value), k ≤ cs.length → fs.mapM (fun f => DataW.trod enc P w base sp held fuel f.type ((cs.drop f.offset).take (P.cellsOf f.type))) = some xs →
                fs.foldl (fun o f => o.bind fun k => if f.offset = k ∧ tiles P n f.type = true then some (k + P.cellsOf f.type) else none) (some k) = some cs.length → flatWs (xs.map (·.1)) = some vs → cs.drop k = vs := by
              intro fs
              induction fs with
              | nil =>
                intro k xs vs hk hm ht hf
                simp at hm; subst hm
                simp [flatWs] at hf; subst hf
                simp at ht; simp; omega
              | cons f fs ihf =>
                intro k xs vs hk hm ht hf
                simp only [List.mapM_cons, Option.bind_eq_bind, Option.bind_eq_some_iff, Option.pure_def, Option.some.injEq] at hm
                obtain ⟨b, hb, r, hr, rfl⟩ := hm
                simp only [List.foldl_cons, Option.bind_some] at ht
                split at ht
                · rename_i hc
                  obtain ⟨hc1, hc2⟩ := hc
                  simp only [List.map_cons, flatWs, Option.bind_eq_some_iff, Option.map_eq_some_iff] at hf
                  obtain ⟨a, ha, s, hs, rfl⟩ := hf
                  have e1 := ih _ _ _ b.1 b.2 a hc2 (by rw [hb]) ha
                  rw [hc1] at e1
                  have hle : k + P.cellsOf f.type ≤ cs.length := by
                    have mono : ∀ (l : List Field) (k m : Nat), l.foldl (fun o f => o.bind fun k => if f.offset = k ∧ tiles P n f.type = true then some (k + P.cellsOf f.type) else none) (some k) = some m → k ≤ m := by
                      intro l
                      induction l with
                      | nil => intro k m h; simp at h; omega
                      | cons g l ihl =>
                        intro k m h
                        simp only [List.foldl_cons, Option.bind_some] at h
                        split at h
                        · have := ihl _ _ h; omega
                        · rw [foldl_none _ (fun _ => rfl)] at h; cases h
                    exact mono _ _ _ ht
                  have e2 := ihf _ _ _ hle hr ht hs
                  rw [← e1, ← e2, ← List.drop_drop, List.take_append_drop]
                · rw [foldl_none _ (fun _ => rfl)] at ht; cases ht
            have := key fs.toList 0 xs vs (Nat.zero_le _) hm (by rw [ht, hl]) (by simpa [flatW] using hf)
            simpa using this
          · cases h
        | array m e =>
          simp only [tiles, hu, Bool.and_eq_true, beq_iff_eq] at ht
          obtain ⟨ht1, ht2⟩ := ht
          unfold DataW.trod at h; rw [hu] at h
          simp only at h
          split at h
          · rename_i hl
            obtain ⟨xs, hm, hx⟩ := Option.map_eq_some_iff.1 h
            simp only [Prod.mk.injEq] at hx
            obtain ⟨rfl, _⟩ := hx
            have key : ∀ (j k : Nat) (xs : List (DataW H × List MemPlace)) (vs : List Value), k + j = m → (List.range' k j).mapM (fun i => DataW.trod enc P w base sp held fuel e ((cs.drop (i * P.cellsOf e)).take (P.cellsOf e))) = some xs → flatWs (xs.map (·.1)) = some vs → cs.drop (k * P.cellsOf e) = vs := by
              intro j
              induction j with
              | zero =>
                intro k xs vs hk hm hf
                simp at hm; subst hm
                simp [flatWs] at hf; subst hf
                have hkm : k = m := by omega
                subst hkm
                rw [← ht2, ← hl]; simp
              | succ j ihj =>
                intro k xs vs hk hm hf
                simp only [List.range'_succ, List.mapM_cons, Option.bind_eq_bind, Option.bind_eq_some_iff, Option.pure_def, Option.some.injEq] at hm
                obtain ⟨b, hb, r, hr, rfl⟩ := hm
                simp only [List.map_cons, flatWs, Option.bind_eq_some_iff, Option.map_eq_some_iff] at hf
                obtain ⟨a, ha, s, hs, rfl⟩ := hf
                have e1 := ih _ _ _ b.1 b.2 a ht1 (by rw [hb]) ha
                have e2 := ihj (k + 1) _ _ (by omega) hr hs
                rw [← e1, ← e2, Nat.add_mul, Nat.one_mul, ← List.drop_drop, List.take_append_drop]
            have := key m 0 xs vs (by omega) (by rw [← List.range_eq_range']; exact hm) (by simpa [flatW] using hf)
            simpa using this
          · cases h
        | _ => simp [tiles, hu] at ht
/-- The variable holds these cells. -/
def VarIs (P : Program) (w : World) (name : String) (vs : List Value) : Prop := w.var? P name = some vs.toArray
theorem varIs_of_laid {P : Program} {W : World} {name : String} {D : DataW Unit} {vs : List Value} {g : Nat} {t : TypeId} (n : Nat)
    (hg : P.globalNamed name = some g) (hty : (P.globals[g]?).map (·.type) = some t) (ht : tiles P n t = true) (hf : flatW D = some vs) :
    ∀ {l : List (String × DataW Unit)} {ps : List MemPlace}, (name, D) ∈ l → DataW.LaidVars P W l ps → VarIs P W name vs := by
  intro l
  induction l with
  | nil => intro ps h; cases h
  | cons x l ih =>
    intro ps hm h
    obtain ⟨nm, E⟩ := x
    obtain ⟨g', t', cs, fuel, p, q, hg', ht', hvar, hd, hr, _⟩ := h
    rcases List.mem_cons.1 hm with h | h
    · injection h with h1 h2
      subst h1 h2
      obtain rfl := Option.some.inj (hg.symm.trans hg')
      obtain rfl := Option.some.inj (hty.symm.trans ht')
      unfold VarIs
      rw [hvar, ← flat_cells n _ _ _ _ _ _ ht hd hf]
    · exact ih h hr
theorem varIs {P : Program} {W : World} {name : String} {D : DataW Unit} {vs : List Value} {g : Nat} {t : TypeId} {l : List (String × DataW Unit)} (n : Nat)
    (h : laidMetH P l W) (hp : (l.filter fun x => x.2.handleName?.isSome) = []) (hm : (name, D) ∈ l)
    (hg : P.globalNamed name = some g) (hty : (P.globals[g]?).map (·.type) = some t) (ht : tiles P n t = true) (hf : flatW D = some vs) : VarIs P W name vs := by
  unfold laidMetH at h
  rw [hp] at h
  obtain ⟨ps, h, _⟩ := h
  exact varIs_of_laid n hg hty ht hf hm h
theorem VarIs.cell {P : Program} {W : World} {name : String} {vs : List Value} {g : Nat} (h : VarIs P W name vs) (hg : P.globalNamed name = some g) (i : Nat) : W.cell? ⟨g, i, none⟩ = vs[i]? := by
  rw [World.var?_cell hg h i]; simp
end Go.Proofs.YthdlocigijiobaaDoor.Flat
end

section
/- RefsMore over programs that are read as data; the tables as the program lays them. -/
namespace Go.Proofs.YthdlocigijiobaaDoor
open Go Go.RowKit Go.Proofs.YthdlocigijiobaaDoorW.PrintWords Go.Proofs.YthdlocigijiobaaDoor.PSk Go.Proofs.YthdlocigijiobaaDoor.Given
set_option linter.unusedVariables false
namespace SkRow
theorem laidOps_of {l : List (String × DataW Unit)} {w : World} (h : laidMetH Tryd.prog l w) (hp : (l.filter fun x => x.2.handleName?.isSome) = []) (hm : ("ladderback/op.rows", Rows.laid_ladderback_op_rows) ∈ l) : LaidOps w := by
  have hv := Flat.varIs (name := "ladderback/op.rows") (D := Rows.laid_ladderback_op_rows) (vs := opsV) (g := 0) (t := 73) 6 h hp hm (by kernel_rfl) (by kernel_rfl) (by kernel_rfl) (by rfl)
  intro i v hi
  rw [hv.cell (by kernel_rfl), hi]
theorem laidGoes_of {l : List (String × DataW Unit)} {w : World} (h : laidMetH Tryd.prog l w) (hp : (l.filter fun x => x.2.handleName?.isSome) = []) (hm : ("ladderback/alu.goes", Rows.laid_ladderback_alu_goes) ∈ l) : LaidGoes w := by
  have hv := Flat.varIs (name := "ladderback/alu.goes") (D := Rows.laid_ladderback_alu_goes) (vs := nums .i64 goesV) (g := 1) (t := 74) 6 h hp hm (by kernel_rfl) (by kernel_rfl) (by kernel_rfl) (by rfl)
  intro i v hi
  rw [hv.cell (by kernel_rfl), hi]
set_option maxRecDepth 100000 in
theorem laidBlk_of {l : List (String × DataW Unit)} {w : World} (h : laidMetH Tryd.prog l w) (hp : (l.filter fun x => x.2.handleName?.isSome) = []) (hm : ("ladderback/block.rows", Rows.laid_ladderback_block_rows) ∈ l) : LaidBlk w := by
  have hv := Flat.varIs (name := "ladderback/block.rows") (D := Rows.laid_ladderback_block_rows) (vs := blkV) (g := 2) (t := 83) 8 h hp hm (by kernel_rfl) (by kernel_rfl) (by kernel_rfl) (by rfl)
  intro i v hi
  rw [hv.cell (by kernel_rfl), hi]
theorem laid_of {l : List (String × DataW Unit)} {w : World} (h : laidMetH Tryd.prog l w) (hp : (l.filter fun x => x.2.handleName?.isSome) = []) (h1 : ("ladderback/op.rows", Rows.laid_ladderback_op_rows) ∈ l) (h2 : ("ladderback/alu.goes", Rows.laid_ladderback_alu_goes) ∈ l) (h3 : ("ladderback/block.rows", Rows.laid_ladderback_block_rows) ∈ l) : LaidAll w :=
  ⟨laidOps_of h hp h1, laidGoes_of h hp h2, laidBlk_of h hp h3⟩
theorem rd_int : Bridge.Rdga Tryd.prog 3 (Kd.int .i64) (fun a => (Lit.int .i64 a).wf = true) := Bridge.Rdg.int Tryd.underlying3 (by kernel_rfl)
theorem rd_ints : Bridge.Rdga Tryd.prog 40 (Kd.slice 3 (Kd.int .i64)) (fun l => ∀ a ∈ l, (Lit.int .i64 a).wf = true) := Bridge.Rdg.slicea Tryd.underlying40 (by kernel_rfl) rd_int
theorem rd_str : Bridge.Rdga Tryd.prog 9 Kd.string (fun s => s.size ≤ 9223372036854775807) := Bridge.Rdg.string Tryd.underlying9 (by kernel_rfl)
theorem rd_instr : Bridge.Rdga Tryd.prog 29 k29 (fun _ => True) := fun m =>
  Bridge.Rdg.imp (Bridge.Rdg.iso (fun x : S29 => (x.f0, x.f1, x.f2)) (fun p => ⟨p.1, p.2.1, p.2.2⟩) (fun _ => rfl)
    (Bridge.Rdg.structa Tryd.underlying29 (by kernel_rfl) (fun m => Bridge.RdgF.cons rfl (rd_int m) (Bridge.RdgF.cons rfl (rd_int m) (Bridge.RdgF.one rfl (rd_int m)))) m)) (fun _ _ => trivial)
theorem rd_const : Bridge.Rdga Tryd.prog 35 k35 (fun _ => True) := fun m =>
  Bridge.Rdg.imp (Bridge.Rdg.iso (fun x : S35 => (x.f0, x.f1)) (fun p => ⟨p.1, p.2⟩) (fun _ => rfl)
    (Bridge.Rdg.structa Tryd.underlying35 (by kernel_rfl) (fun m => Bridge.RdgF.cons rfl (rd_int m) (Bridge.RdgF.one rfl (rd_int m))) m)) (fun _ _ => trivial)
theorem rd_var : Bridge.Rdga Tryd.prog 37 k37 (fun _ => True) := fun m =>
  Bridge.Rdg.imp (Bridge.Rdg.iso (fun x : S37 => (x.f0, x.f1, x.f2, x.f3, x.f4)) (fun p => ⟨p.1, p.2.1, p.2.2.1, p.2.2.2.1, p.2.2.2.2⟩) (fun _ => rfl)
    (Bridge.Rdg.structa Tryd.underlying37 (by kernel_rfl) (fun m => Bridge.RdgF.cons rfl (rd_str m) (Bridge.RdgF.cons rfl (rd_int m) (Bridge.RdgF.cons rfl (rd_int m) (Bridge.RdgF.cons rfl (rd_int m) (Bridge.RdgF.one rfl (rd_int m)))))) m)) (fun _ _ => trivial)
theorem rd_block : Bridge.Rdga Tryd.prog 39 k39 (fun _ => True) := fun m =>
  Bridge.Rdg.imp (Bridge.Rdg.iso (fun x : S39 => (x.f0, x.f1)) (fun p => ⟨p.1, p.2⟩) (fun _ => rfl)
    (Bridge.Rdg.structa Tryd.underlying39 (by kernel_rfl) (fun m => Bridge.RdgF.cons rfl (rd_str m) (Bridge.RdgF.one rfl (rd_int m))) m)) (fun _ _ => trivial)
theorem rd_instrs : Bridge.Rdga Tryd.prog 41 (Kd.slice 29 k29) (fun l => ∀ a ∈ l, True) := Bridge.Rdg.slicea Tryd.underlying41 (by kernel_rfl) rd_instr
theorem rd_unit : Bridge.Rdga Tryd.prog 43 k43 (fun _ => True) := fun m =>
  Bridge.Rdg.imp (Bridge.Rdg.iso (fun x : S43 => (x.f0, x.f1, x.f2, x.f3, x.f4)) (fun p => ⟨p.1, p.2.1, p.2.2.1, p.2.2.2.1, p.2.2.2.2⟩) (fun _ => rfl)
    (Bridge.Rdg.structa Tryd.underlying43 (by kernel_rfl) (fun m => Bridge.RdgF.cons rfl (rd_str m) (Bridge.RdgF.cons rfl (rd_ints m) (Bridge.RdgF.cons rfl (rd_int m) (Bridge.RdgF.cons rfl (rd_ints m) (Bridge.RdgF.one rfl (rd_instrs m)))))) m)) (fun _ _ => trivial)
/-- A program as data: its constants, variables, blocks, units. -/
def KProg : Kd (List S35 × List S37 × List S39 × List S43) := Kd.pair (Kd.slice 35 k35) (Kd.pair (Kd.slice 37 k37) (Kd.pair (Kd.slice 39 k39) (Kd.slice 43 k43)))
theorem rd_prog : Bridge.Rdga Tryd.prog 27 KProg (fun _ => True) := fun m => Bridge.Rdg.imp ((Bridge.Rdg.structa Tryd.underlying27 (by kernel_rfl) (fun m => Bridge.RdgF.cons rfl (Bridge.Rdg.slicea Tryd.underlying22 (by kernel_rfl) rd_const m) (Bridge.RdgF.cons rfl (Bridge.Rdg.slicea Tryd.underlying23 (by kernel_rfl) rd_var m) (Bridge.RdgF.cons rfl (Bridge.Rdg.slicea Tryd.underlying24 (by kernel_rfl) rd_block m) (Bridge.RdgF.one rfl (Bridge.Rdg.slicea Tryd.underlying25 (by kernel_rfl) rd_unit m)))))) m) (fun _ _ => trivial)
theorem prog_of {w : World} {x : List S35 × List S37 × List S39 × List S43} {cs : Array Value} (h : KProg.K w x cs.toList) : ∃ A0 c0 A1 c1 A2 c2 A3 c3, cs = #[.slice A0 x.1.length c0, .slice A1 x.2.1.length c1, .slice A2 x.2.2.1.length c2, .slice A3 x.2.2.2.length c3] ∧ (Kd.C k35 w A0 x.1.length x.1 ∧ x.1.length ≤ c0) ∧ (Kd.C k37 w A1 x.2.1.length x.2.1 ∧ x.2.1.length ≤ c1) ∧ (Kd.C k39 w A2 x.2.2.1.length x.2.2.1 ∧ x.2.2.1.length ≤ c2) ∧ (Kd.C k43 w A3 x.2.2.2.length x.2.2.2 ∧ x.2.2.2.length ≤ c3) := by
  obtain ⟨C, V, B, U⟩ := x
  obtain ⟨_, _, h0, ⟨A0, c0, rfl, l0, g0⟩, _, _, rfl, ⟨A1, c1, rfl, l1, g1⟩, _, _, rfl, ⟨A2, c2, rfl, l2, g2⟩, ⟨A3, c3, rfl, l3, g3⟩⟩ := h
  refine ⟨A0, c0, A1, c1, A2, c2, A3, c3, ?_, ⟨g0, l0⟩, ⟨g1, l1⟩, ⟨g2, l2⟩, ⟨g3, l3⟩⟩
  rw [show cs = cs.toList.toArray by simp, h0]
  rfl
theorem instr_of {w : World} {x : S29} {cs : Array Value} (h : k29.K w x cs.toList) : cs = #[.int .i64 x.f0, .int .i64 x.f1, .int .i64 x.f2] := by
  have := k29_open h
  rw [show cs = cs.toList.toArray by simp, this]
end SkRow
theorem RefsMore_walk (cs : Array Value) (x : List S35 × List S37 × List S39 × List S43) (u : Int) (ci : Array Value) (i : S29) (w : World) (hk : SkRow.KProg.K w x cs.toList) (wf : True) (wu : (Lit.int .i64 u).wf = true) (hi : k29.K w i ci.toList) (wi : True) (hL : laidMetH Tryd.prog Rows.refsMoreRow.laid w) :
    Calls Tryd.prog 3 #[.agg cs, .int .i64 u, .agg ci] w fun e w' => e = .returned (.bool true) ∧ Below w.heap.size w w' := by
  obtain ⟨A0, c0, A1, c1, A2, c2, A3, c3, rfl, ⟨g0, l0⟩, ⟨g1, l1⟩, ⟨g2, l2⟩, ⟨g3, l3⟩⟩ := SkRow.prog_of hk
  obtain rfl := SkRow.instr_of hi
  exact RPure.more_w A0 c0 x.1 A1 c1 x.2.1 A2 c2 x.2.2.1 A3 c3 x.2.2.2 u i.f0 i.f1 i.f2 w g0 l0 g1 l1 g2 l2 g3 l3 (SkRow.laid_of hL rfl (by simp [Rows.refsMoreRow]) (by simp [Rows.refsMoreRow]) (by simp [Rows.refsMoreRow]))
end Go.Proofs.YthdlocigijiobaaDoor
end

section
/- The law RefsMore holds for every input: the walk over its code shows that the call returns true and that what was read stays as it was; the row follows. The package-level tables that the code reads are tied to the program's text by the given tie. -/
namespace Go.Proofs.YthdlocigijiobaaDoor.refsMoreRw
open Go.ChangeShapes Go.WideShapes Go.ChangeAt Go.RowKit
open Go.ChangeMaps (open_string shut_string)
open Go.Proofs.YthdlocigijiobaaDoor.Bridge
set_option linter.unusedVariables false
set_option linter.unusedSimpArgs false
theorem own : ownKnob Tryd.prog.godebug = none := by kernel_rfl
theorem laidOut : laidOutB Tryd.prog = true := by kernel_rfl
theorem contract (H : Type) (enc : TypeId × Value → H) (W : World) (base : Nat) (args : Array Value) (ds gs : List (DataW H)) (before : List MemPlace)
    (hval : ∀ (j : Nat) t v, Tryd.f3.params[j]? = some t → args[j]? = some v → Value.okWide Tryd.prog W .any base t v)
    (hW : DataW.Whole enc Tryd.prog Tryd.f3.params.toList Rows.refsMoreSpec.vars false W args.toList ds gs before) (hsz : (DataW.weightsEach Tryd.prog (Tryd.f3.params.toList ++ Rows.refsMoreSpec.plain.varTypes Tryd.prog) (ds ++ gs)).all (· ≤ reachBytes) = true) (hL : laidMetH Tryd.prog Rows.refsMoreRow.laid W) :
    Calls Tryd.prog 3 args W fun e W' => ∃ v, e = .returned v ∧ Rows.refsMoreSpec.post enc Tryd.prog Tryd.f3 false true false false W args v W' := by
  have hW' := hW
  obtain ⟨p, q, hA0, hV, rfl, hfz, hnd⟩ := hW
  have hA : DataW.TrodAll enc Tryd.prog W 0 (fun _ => true) true Tryd.f3.params.toList args.toList ds p := hA0
  rw [Tryd.params3] at hA hval hsz
  obtain ⟨v0, vs0, d0, ds0, p0, q0, hargs, rfl, rfl, h0, r0⟩ := trodAll_cons hA
  obtain ⟨v1, vs1, d1, ds1, p1, q1, rfl, rfl, rfl, h1, r1⟩ := trodAll_cons r0
  obtain ⟨v2, vs2, d2, ds2, p2, q2, rfl, rfl, rfl, h2, r2⟩ := trodAll_cons r1
  obtain ⟨rfl, rfl, rfl⟩ := trodAll_nil r2
  obtain rfl : args = #[v0, v1, v2] := by cases args; simp_all
  obtain ⟨rfl, rfl⟩ := trodVars_none hV
  clear hA0
  have k0 := h0
  have lt0 : ∀ x ∈ p0, x.block < W.heap.size := by obtain ⟨m, hm⟩ := k0; exact DataW.trod_lt m _ _ _ hm
  obtain ⟨cs0, rfl⟩ : ∃ cs, v0 = .agg cs := by
    have z := (hval 0 27 v0 rfl rfl)
    unfold Value.okWide at z
    rw [Tryd.underlying27] at z
    obtain ⟨cs, e, _⟩ := z
    exact ⟨cs, e⟩
  obtain ⟨x0, hk0, wf0⟩ := Rdga.trod SkRow.rd_prog h0
  have k1 := h1
  have lt1 : ∀ x ∈ p1, x.block < W.heap.size := by obtain ⟨m, hm⟩ := k1; exact DataW.trod_lt m _ _ _ hm
  obtain ⟨a1, rfl, _, _, w1⟩ := open_int Tryd.underlying3 (hval 1 3 v1 rfl rfl) h1
  have k2 := h2
  have lt2 : ∀ x ∈ p2, x.block < W.heap.size := by obtain ⟨m, hm⟩ := k2; exact DataW.trod_lt m _ _ _ hm
  obtain ⟨cs2, rfl⟩ : ∃ cs, v2 = .agg cs := by
    have z := (hval 2 29 v2 rfl rfl)
    unfold Value.okWide at z
    rw [Tryd.underlying29] at z
    obtain ⟨cs, e, _⟩ := z
    exact ⟨cs, e⟩
  obtain ⟨x2, hk2, wf2⟩ := Rdga.trod SkRow.rd_instr h2
  refine (RefsMore_walk cs0 x0 a1 cs2 x2 W hk0 wf0 w1 hk2 wf2 hL).mono fun e W' ⟨he, bel⟩ => ?_
  subst he
  exact ⟨_, rfl, _, _, _, [], _, [], hW', trodAll_mk1 (shut_bool Tryd.underlying4 _), (trodAll_cons_mk (Below.trod laidOut (by kernel_rfl) (of_decide_eq_true (by kernel_rfl)) k0 bel lt0) (trodAll_cons_mk (Below.trod laidOut (by kernel_rfl) (of_decide_eq_true (by kernel_rfl)) k1 bel lt1) (trodAll_cons_mk (Below.trod laidOut (by kernel_rfl) (of_decide_eq_true (by kernel_rfl)) k2 bel lt2) trodAll_mk0))), rfl, bel.frame _, fun h => by cases h⟩
theorem laid_met (os : Os) : laidMetH Tryd.prog Rows.refsMoreRow.laid ((World.doorLaid Tryd.prog 4000 os).forCall (fun _ _ => 0) ⟨#[], #[.agg #[.slice none 0 0, .slice none 0 0, .slice none 0 0, .slice none 0 0], .int .i64 0, .agg #[.int .i64 0, .int .i64 0, .int .i64 0]], []⟩).memory :=
  laidMetH_of_parts3 (fuel := 12) (laidMet_of_run' 12 (by kernel_rfl) (by kernel_rfl)) (by kernel_rfl) (by kernel_rfl)
theorem reads (os : Os) {H : Type} (enc : TypeId × Value → H) : ∃ ds places, DataW.whole enc Tryd.prog ((World.doorLaid Tryd.prog 4000 os).forCall (fun _ _ => 0) ⟨#[], #[.agg #[.slice none 0 0, .slice none 0 0, .slice none 0 0, .slice none 0 0], .int .i64 0, .agg #[.int .i64 0, .int .i64 0, .int .i64 0]], []⟩).memory Tryd.f3.params.toList Rows.refsMoreSpec.vars false (#[.agg #[.slice none 0 0, .slice none 0 0, .slice none 0 0, .slice none 0 0], .int .i64 0, .agg #[.int .i64 0, .int .i64 0, .int .i64 0]] : Array Value).toList 8 = some (ds, [], places) :=
  ⟨[.agg [.nil, .nil, .nil, .nil], .lit (.int .i64 0), .agg [.lit (.int .i64 0), .lit (.int .i64 0), .lit (.int .i64 0)]], [], by kernel_rfl⟩
set_option maxRecDepth 100000 in
theorem lifted (os : Os) (started : os.Started) (H : Type) (enc : TypeId × Value → H) (F : Stop.Interp) :
    ReturnsInHanded {} Tryd.checked os 3 .any ((OpenSpec.ofChange Rows.refsMoreSpec).preRow enc Tryd.prog Tryd.f3 Rows.refsMoreRow.domain false Rows.refsMoreRow.laid) (((OpenSpec.ofChange Rows.refsMoreSpec).at F).post enc Tryd.prog Tryd.f3 false true false false) := by
  obtain ⟨ds, places, hx⟩ := reads os enc
  refine returnsInHanded_of_row (C := Tryd.checked) (s := OpenSpec.ofChange Rows.refsMoreSpec) own started (by kernel_rfl) Tryd.func3
    (witness_row_at (enc := enc) (C := Tryd.checked) false (World.doorLaid Tryd.prog 4000 os) #[.agg #[.slice none 0 0, .slice none 0 0, .slice none 0 0, .slice none 0 0], .int .i64 0, .agg #[.int .i64 0, .int .i64 0, .int .i64 0]] rfl (by kernel_rfl) (by kernel_rfl) (by kernel_rfl)
      (OpenSpec.preRow_of_cond 8 hx (by kernel_rfl) (fun k hk => by cases hk) (by kernel_rfl) (laid_met os))) ?_
  intro W base args ds gs before hval hW _ _ hsz hL _ _
  exact contract H enc W base args ds gs before hval hW hsz hL
theorem said : Rows.RefsMoreSaid :=
  OpenClaim.holds_of_cond 3 Tryd.f3 rfl rfl rfl rfl rfl rfl rfl ⟨rfl, rfl, rfl, rfl, rfl⟩ rfl rfl rfl rfl rfl (by kernel_rfl) Tryd.func3 (by kernel_rfl)
    (of_decide_eq_true (by kernel_rfl)) (by unfold Func.isWrapper; first | (rw [if_pos (by decide +kernel)]; kernel_rfl) | (rw [if_neg (by decide +kernel)]; exact ⟨rfl, rfl⟩))
    (fun os started H enc _ F => by rw [OpenClaim.pre_eq_preRow]; exact lifted os started H enc F)
theorem plain (f : FuncId) (fn : Func) (hf : Tryd.pinned.checked.prog.funcNamed "ladderback/ladderbacklaw18.RefsMore" = some f) (hfn : Tryd.pinned.checked.prog.funcs[f]? = some fn) :
    false = Tryd.pinned.checked.prog.looks [] ∧ ∀ (j : Nat) t, fn.params[j]? = some t → Tryd.pinned.checked.prog.wantsStandIn t = false := by
  obtain rfl : f = 3 := Option.some.inj ((show Tryd.prog.funcNamed "ladderback/ladderbacklaw18.RefsMore" = some 3 by kernel_rfl).symm.trans hf) |>.symm
  obtain rfl : fn = Tryd.f3 := (Option.some.inj (Tryd.func3.symm.trans hfn)).symm
  refine ⟨by kernel_rfl, fun j t ht => ?_⟩
  rw [Tryd.params3] at ht
  have hm : t ∈ [27, 3, 29] := by simpa using Array.mem_of_getElem? ht
  have hall : ([27, 3, 29].all fun u => !Tryd.prog.wantsStandIn u) = true := by kernel_rfl
  exact (show Tryd.prog.wantsStandIn t = false by simpa using List.all_eq_true.1 hall t hm)
theorem card : Rows.RefsMoreCardSaid :=
  Claim7.holds_tied_plain_at .later [] _ _ _ _ said (fun _ h => by cases h) (by kernel_rfl) (fun _ h => by cases h) refsMore_row_tie rfl ⟨rfl, rfl⟩ (by kernel_rfl) rfl plain (by kernel_rfl)
end Go.Proofs.YthdlocigijiobaaDoor.refsMoreRw
namespace Go.Proofs.YthdlocigijiobaaDoor
theorem refsMore_holds : Rows.RefsMoreCardSaid := refsMoreRw.card
#print axioms refsMore_holds
end Go.Proofs.YthdlocigijiobaaDoor
end
