/- The law BitsHold holds for every input: the walk over its code shows that the call returns true and that what was read stays as it was; the row follows. The package-level tables that the code reads are tied to the program's text by the given tie. -/
import Derived.LaidLaws
import Derived.Lib.LaidTab
import Derived.OpenShut
import Derived.Test.YtkkikddocgckbaaDoorRows
import Derived.Test.YtkkikddocgckbaaDoorCards
import Derived.Test.YtkkikddocgckbaaDoorTie
import Derived.WalkKit
import Derived.ProofKit
import Derived.ShutString
import Derived.ChangeOld
import Derived.Below
import Derived.SizedLaws
import Derived.Deep.DeepHandedRow
import Derived.LaidMore
import Derived.Test.YtkkikddocgckbaaDoorZBitsHoldaa
import Derived.Test.YtkkikddocgckbaaDoorZBitsHoldab
import Derived.Test.YtkkikddocgckbaaDoorZBitsHoldae
section
/- The walk of BitsHold: for any room and places its call returns true; the library's table as the program lays it. -/
namespace Go.Proofs.YtkkikddocgckbaaDoor.BPure
open Go Go.RowKit Go.Proofs.YtkkikddocgckbaaDoor.PBit Go.Proofs.YtkkikddocgckbaaDoor.Given Go.Proofs.YtkkikddocgckbaaDoor.BitsMath Go.Proofs.YtkkikddocgckbaaDoorW.PrintWords Go.Proofs.YtkkikddocgckbaaDoorW.PrintLast Go.Proofs.YtkkikddocgckbaaDoorW.PrintMore
set_option linter.unusedVariables false
set_option linter.unusedSimpArgs false
/-- A set's value: its room, and words that lie there. -/
def RSet (R : Int) (l : List Int) (w : World) (v : Value) : Prop := ∃ A c, v = .agg #[.int .i64 R, .slice A l.length c] ∧ l.length ≤ c ∧ Kd.C (Kd.int .u64) w A l.length l
theorem rset_mono (R : Int) (l : List Int) : Reg.MonoS (RSet R l) := fun _ _ _ hb ⟨A, c, e, hl, hC⟩ => ⟨A, c, e, hl, Kd.C_below hC hb⟩
theorem rset_of {R : Int} {l : List Int} {w : World} {e : TypeId} {base : Nat} {ok : Nat → Prop} {v : Value} (h : Kd.R (Kd.int .u64) e w base ok v l) : RSet R l w (.agg #[.int .i64 R, v]) := by
  obtain ⟨A, c, rfl, h1, h2⟩ := Kd.R_reads h
  exact ⟨A, c, rfl, h1, h2⟩
theorem of_c (a : Int) (A1 : Option Addr) (c1 : Nat) (L : List Int) (w : World) (hr : Kd.C (Kd.int .i64) w A1 L.length L) (hc : L.length ≤ c1) (hL : L.length ≤ 60) :
    ∃ R l x W, Rep R l x W ∧ roomR a = R ∧ Calls Tryd.prog 6 #[.int .i64 a, .slice A1 L.length c1] w fun e w' => ∃ A c A' c', e = .returned (.tuple #[.agg #[.int .i64 R, .slice A l.length c], .slice A' x.length c']) ∧ Kd.R (Kd.int .u64) 45 w' w.heap.size (fun _ => True) (.slice A l.length c) l ∧ Kd.C (Kd.int .u64) w' A l.length l ∧ l.length ≤ c ∧ Kd.C Kd.bool w' A' x.length x ∧ x.length ≤ c' ∧ Below w.heap.size w w' := by
  obtain ⟨R, l, x, W, e, h, hR⟩ := of_is a L hL 61 (Nat.le_refl _)
  refine ⟨R, l, x, W, h, hR, (ladderbacklaw06_of.calls 61 a A1 c1 L R l x w hr hc e).mono ?_⟩
  rintro e w' ⟨v1, v2, rfl, h1, h2, hb⟩
  obtain ⟨A, c, rfl, h3, h4⟩ := Kd.R_reads h1
  obtain ⟨A', c', rfl, h5, h6⟩ := Kd.R_reads h2
  exact ⟨A, c, A', c', rfl, h1, h4, h3, h6, h5, hb⟩
theorem like_c {R : Int} {l : List Int} {x : List Bool} {W : List Nat} (h : Rep R l x W) (A : Option Addr) (c : Nat) (A' : Option Addr) (c' : Nat) (w : World) (hC : Kd.C (Kd.int .u64) w A l.length l) (hc : l.length ≤ c) (hC' : Kd.C Kd.bool w A' x.length x) (hc' : x.length ≤ c') (hL : LaidTz w) :
    Calls Tryd.prog 8 #[.agg #[.int .i64 R, .slice A l.length c], .slice A' x.length c'] w fun e w' => e = .returned (.bool true) ∧ Below w.heap.size w w' :=
  ladderbacklaw06_like.calls 70000 R A c l A' c' x true w hC hc hC' hc' (like_is h 70000 (Nat.le_refl _)) hL
theorem with_c {R : Int} {l : List Int} {x : List Bool} {W : List Nat} (h : Rep R l x W) (i : Int) : ∃ l' W', Rep R l' (upd x i) W' ∧ ∀ (w0 w : World) (A : Option Addr) (c : Nat), Below w0.heap.size w0 w → Kd.R (Kd.int .u64) 45 w w0.heap.size (fun _ => True) (.slice A l.length c) l →
    Calls Tryd.prog 7 #[.agg #[.int .i64 R, .slice A l.length c], .int .i64 i] w fun e w' => (∃ A' c', e = .returned (.agg #[.int .i64 R, .slice A' l'.length c']) ∧ Kd.C (Kd.int .u64) w' A' l'.length l' ∧ l'.length ≤ c') ∧ Below w.heap.size w w' := by
  obtain ⟨l', W', e, h'⟩ := with_is h i
  refine ⟨l', W', h', fun w0 w A c hb hR => (bits_Set_With.callsK R (fun _ => True) _ l i R l' w0 w hb hR e).mono ?_⟩
  rintro e w' ⟨v, rfl, h1, h2, h3⟩
  obtain ⟨A', c', rfl, h4, h5⟩ := Kd.R_reads h1
  refine ⟨⟨A', c', rfl, h5, h4⟩, h2.os.trans hb.os.symm, h2.tape.trans hb.tape.symm, h2.output.trans hb.output.symm, h3.1, fun k hk => h3.2 k hk (fun f => f)⟩
theorem rwith_c (x : List Bool) (i : Int) (hx : x.length ≤ 65536) (A' : Option Addr) (c' : Nat) (w : World) (hC' : Kd.C Kd.bool w A' x.length x) (hc' : x.length ≤ c') :
    Calls Tryd.prog 9 #[.slice A' x.length c', .int .i64 i] w fun e w' => ∃ v, e = .returned v ∧ Kd.R Kd.bool 4 w' w.heap.size (fun _ => True) v (upd x i) ∧ Below w.heap.size w w' :=
  ladderbackref06_With.calls A' c' x i (upd x i) w hC' hc' (rwith_is x i hx)
theorem all_c (a : Int) : ∃ R l, (∀ (w : World), Calls Tryd.prog 12 #[.int .i64 a] w fun e w' => ∃ v, e = .returned (.agg #[.int .i64 R, v]) ∧ Kd.R (Kd.int .u64) 45 w' w.heap.size (fun _ => True) v l ∧ Below w.heap.size w w') ∧
    ∀ (A : Option Addr) (c : Nat) (w : World), Kd.C (Kd.int .u64) w A l.length l → l.length ≤ c → Calls Tryd.prog 13 #[.agg #[.int .i64 R, .slice A l.length c]] w fun e w' => e = .returned (.int .i64 (roomR a)) ∧ Below w.heap.size w w' := by
  obtain ⟨R, l, e1, e2⟩ := all_is a 70000 (Nat.le_refl _)
  exact ⟨R, l, fun w => bits_All.calls 70000 a R l w e1, fun A c w hC hc => bits_Set_Count.calls 70000 R A c l (roomR a) w hC hc e2⟩
theorem has_c {R : Int} {l : List Int} {x : List Bool} {W : List Nat} (h : Rep R l x W) (i : Int) : ∃ b, (∀ (A : Option Addr) (c : Nat) (w : World), Kd.C (Kd.int .u64) w A l.length l → l.length ≤ c → Calls Tryd.prog 10 #[.agg #[.int .i64 R, .slice A l.length c], .int .i64 i] w fun e w' => e = .returned (.bool b) ∧ Below w.heap.size w w') ∧
    ∀ (A' : Option Addr) (c' : Nat) (w : World), Kd.C Kd.bool w A' x.length x → x.length ≤ c' → Calls Tryd.prog 11 #[.slice A' x.length c', .int .i64 i] w fun e w' => e = .returned (.bool b) ∧ Below w.heap.size w w' := by
  obtain ⟨b, e1, e2⟩ := has_is h i
  exact ⟨b, fun A c w hC hc => bits_Set_Has.calls R A c l i b w hC hc e1, fun A' c' w hC hc => (ladderbackref06_Has.calls A' c' x i b w hC hc e2).mono fun e w' ⟨h1, h2⟩ => ⟨h1, by obtain ⟨m, rfl⟩ := h2; exact pw_below_drewN (Below.refl _ _) m⟩⟩
theorem awake_c (w : World) (hL : LaidTz w) : Calls Tryd.prog 5 #[] w fun e w' => e = .returned (.bool true) ∧ Below w.heap.size w w' :=
  ladderbacklaw06_awake.calls 70000 true w (awake_is 70000 (Nat.le_refl _)) hL
theorem eval_tmp {a : Act} {t : Nat} {v : Value} (h : a.tmps[t]? = some v) : a.eval (.tmp t) = v := by simp [Act.eval, h]
set_option maxHeartbeats 4000000 in
set_option maxRecDepth 100000 in
theorem bitsHold_w (rm : Int) (A1 : Option Addr) (c1 : Nat) (L : List Int) (pq : Int) (w : World) (hr : Kd.C (Kd.int .i64) w A1 L.length L) (hc : L.length ≤ c1) (hL : LaidTz w) :
    Calls Tryd.prog 3 #[.int .i64 rm, .slice A1 L.length c1, .int .i64 pq] w fun e w' => e = .returned (.bool true) ∧ Below w.heap.size w w' := by
  have hi : (Tryd.prog.info? 26).map (·.size) = some 2 := by kernel_rfl
  have HL := Aside0.mk hL
  have HC := Aside0.mk hr
  clear hL hr
  by_cases h1 : rm > 500 ∨ (L.length : Int) > 60
  · have key : ∀ (K : Prop), K → K := fun _ h => h
    rcases Classical.em (rm > 500) with h2 | h2
    · have d1 : decide ((500 : Int) < rm) = true := decide_eq_true h2
      go_enter Tryd.func3, Tryd.ntmps3
      go_wp2_with fail
      refine (awake_c _ HL.out).mono ?_
      rintro e w1 ⟨rfl, hb⟩
      go_wp2
      go_ret
      exact ⟨rfl, hb⟩
    · have d1 : decide ((500 : Int) < rm) = false := decide_eq_false h2
      have d2 : decide ((60 : Int) < (L.length : Int)) = true := decide_eq_true (by omega)
      go_enter Tryd.func3, Tryd.ntmps3
      go_wp2_with fail
      refine (awake_c _ HL.out).mono ?_
      rintro e w1 ⟨rfl, hb⟩
      go_wp2
      go_ret
      exact ⟨rfl, hb⟩
  · have d1 : decide ((500 : Int) < rm) = false := decide_eq_false (by omega)
    have d2 : decide ((60 : Int) < (L.length : Int)) = false := decide_eq_false (by omega)
    obtain ⟨R, l, x, W, h, hR, P0⟩ := of_c rm A1 c1 L w HC.out hc (by omega)
    obtain ⟨l2, W2, h2, P2⟩ := with_c h pq
    obtain ⟨RA, LA, P5, P6⟩ := all_c rm
    obtain ⟨b, P3, P4⟩ := has_c h pq
    have hroom : roomR rm = (x.length : Int) := hR.trans h.room
    rw [hroom] at P6
    have P1 := like_c h
    have P7 := like_c h2
    have P8 := rwith_c x pq h.lim
    replace P0 := Aside0.mk P0
    replace P1 := Aside0.mk P1
    replace P2 := Aside0.mk P2
    replace P3 := Aside0.mk P3
    replace P4 := Aside0.mk P4
    replace P5 := Aside0.mk P5
    replace P6 := Aside0.mk P6
    replace P7 := Aside0.mk P7
    replace P8 := Aside0.mk P8
    have HLI := Aside0.mk (And.intro h.lim (upd_len x pq))
    clear h h2 hR hroom h1
    go_enter Tryd.func3, Tryd.ntmps3
    go_wp2_with fail
    refine P0.out.mono ?_
    rintro e w1 ⟨A, c, A', c', rfl, hR1, hC1, hc2, hC2, hc3, hb1⟩
    have HR1 := Aside0.mk hR1
    have HC1 := Aside0.mk hC1
    have HC2 := Aside0.mk hC2
    have HB1 := Aside0.mk hb1
    clear hR1 hC1 hC2 hb1
    go_wp2_with fail
    refine (P2.out w _ A c (HB1.out.alloc HB1.out.size _) (Kd.R_alloc HR1.out _)).mono ?_
    rintro e w2 ⟨⟨A2, c2, rfl, hC3, hc4⟩, hb2⟩
    have hlt1 : w1.heap.size < w2.heap.size := by have := hb2.size; simp at this; omega
    have hg7 : (w2.alloc (.cells #[.int .i64 R, .slice A2 l2.length c2] 26)).heap[w1.heap.size]? = some (.cells #[.int .i64 R, .slice A l.length c] 26 (0, 0)) := by
      rw [heap_alloc_old _ _ hlt1, hb2.block _ (by simp)]; exact heap_alloc_new _ _
    have hg9 : (w2.alloc (.cells #[.int .i64 R, .slice A2 l2.length c2] 26)).heap[w2.heap.size]? = some (.cells #[.int .i64 R, .slice A2 l2.length c2] 26 (0, 0)) := heap_alloc_new _ _
    have hb12 : Below w1.heap.size w1 (w2.alloc (.cells #[.int .i64 R, .slice A2 l2.length c2] 26)) := ((((Below.refl _ w1).alloc (Nat.le_refl _) (.cells #[.int .i64 R, .slice A l.length c] 26)).trans (hb2.mono (by simp))).alloc (Nat.le_of_lt hlt1) _)
    have HG7 := Aside0.mk hg7
    have HG9 := Aside0.mk hg9
    have HD1 := Aside0.mk (Kd.C_below HC1.out hb12)
    have HD2 := Aside0.mk (Kd.C_below HC2.out hb12)
    have HD3 := Aside0.mk (Kd.C_below hC3 ((Below.refl _ w2).alloc (Nat.le_refl _) (.cells #[.int .i64 R, .slice A2 l2.length c2] 26)))
    have HB6 := Aside0.mk (HB1.out.trans (hb12.mono HB1.out.size))
    clear hlt1 hg7 hg9 hb12 hb2 hC3 HC1 HC2 HB1 HR1
    go_wp2_with fail
    generalize (w2.alloc (.cells #[.int .i64 R, .slice A2 l2.length c2] 26)) = w5 at HG7 HG9 HD1 HD2 HD3 HB6 ⊢
    generalize w1.heap.size = g7 at HG7 ⊢
    generalize w2.heap.size = g9 at HG9 ⊢
    refine Reg.region_any [some 27, some 28, some 29, some 30, some 31, some 32, some 33, some 34, some 35, some 36, some 37, some 38, some 39, some 40, some 41, some 42, some 43, some 44, some 45, some 46, some 47, some 48, some 49, some 50, some 51, some 52, some 53, some 54, some 55, some 56, some 6] [0, 0, 3, 7, 15, 15, 15, 111, 255, 511, 1023, 2047, 2047, 8191, 2047, 2047, 65535, 131071, 262143, 524287, 1048575, 2097151, 4194303, 1048575, 9437183, 33554431, 67108863, 134217727, 268435455, 536870911, 1073741823] (true, [([], []), ([], []), ([0, 1], [0, 1]), ([2, 2], [2]), ([3], [3]), ([3], [3]), ([3], [3]), ([5, 6, 3, 3], [3, 5, 6]), ([4, 7, 7, 3], [3, 4, 7]), ([3, 8], [3, 8]), ([9, 8], [9]), ([10], [10]), ([10], [10]), ([11, 12, 10, 10], [10, 11, 12]), ([10], [10]), ([10], [10]), ([14, 15, 13, 10], [10, 14, 15]), ([13, 16, 10], [10, 13, 16]), ([10, 17], [10, 17]), ([18, 16], [18]), ([19], [19]), ([20, 19, 19], [19, 20]), ([21, 21, 19], [19, 21]), ([19], [19]), ([23, 19], [19, 23]), ([22, 24, 19], [19, 22, 24]), ([19, 25], [19, 25]), ([26, 22], [26]), ([27, 27], [27]), ([27, 28], [27, 28]), ([29, 28, 0, 1, 2, 3, 4, 5, 6, 7, 8, 9, 10, 11, 12, 13, 14, 15, 16, 17, 18, 19, 20, 21, 22, 23, 24, 25, 26, 27, 28, 29], [29])]) (fun i => ([(fun _ v_ => v_ = (.agg #[.int .i64 R, .slice A l.length c])), (fun _ v_ => v_ = (.slice A' x.length c')), (fun _ v_ => v_ = (.bool true)), (fun _ v_ => v_ = (.bool true)), (fun _ v_ => v_ = (.agg #[.int .i64 R, .slice A2 l2.length c2])), (fun _ v_ => v_ = (.slice A' x.length c')), (fun _ v_ => v_ = (.int .i64 pq)), (fun w_ v_ => Reg.Rs Kd.bool w_ v_ (upd x pq)), (fun _ v_ => v_ = (.bool true)), (fun _ v_ => v_ = (.bool true)), (fun _ v_ => v_ = (.bool true)), (fun _ v_ => v_ = (.agg #[.int .i64 R, .slice A l.length c])), (fun _ v_ => v_ = (.int .i64 pq)), (fun _ v_ => v_ = (.bool b)), (fun _ v_ => v_ = (.slice A' x.length c')), (fun _ v_ => v_ = (.int .i64 pq)), (fun _ v_ => v_ = (.bool b)), (fun _ v_ => v_ = (.bool true)), (fun _ v_ => v_ = (.bool true)), (fun _ v_ => v_ = (.bool true)), (fun _ v_ => v_ = (.int .i64 rm)), (RSet RA LA), (fun _ v_ => v_ = (.int .i64 (x.length : Int))), (fun _ v_ => v_ = (.slice A' x.length c')), (fun _ v_ => v_ = (.int .i64 (x.length : Int))), (fun _ v_ => v_ = (.bool true)), (fun _ v_ => v_ = (.bool true)), (fun _ v_ => v_ = (.bool true)), (fun _ v_ => v_ = (.bool true)), (fun _ v_ => v_ = (.bool true)), (fun _ v_ => v_ = (.bool true))] : List (World → Value → Prop)).getD i (fun _ _ => False))
        (by kernel_rfl) (by kernel_rfl) (by kernel_rfl) (by kernel_rfl) (by kernel_rfl) (by decide) (by rfl) (Reg.mono_getD ?_) [0, 1, 2, 3, 4, 5, 6, 7, 8, 9, 10, 11, 12, 13, 14, 15, 16, 17, 18, 19, 20, 21, 22, 23, 24, 25, 26, 27, 28, 29, 30] (by kernel_rfl) ?_ ?_
    · exact Reg.monoS_cons (Reg.monoS_eq _) (Reg.monoS_cons (Reg.monoS_eq _) (Reg.monoS_cons (Reg.monoS_eq _) (Reg.monoS_cons (Reg.monoS_eq _) (Reg.monoS_cons (Reg.monoS_eq _) (Reg.monoS_cons (Reg.monoS_eq _) (Reg.monoS_cons (Reg.monoS_eq _) (Reg.monoS_cons (Reg.monoS_rs _ _) (Reg.monoS_cons (Reg.monoS_eq _) (Reg.monoS_cons (Reg.monoS_eq _) (Reg.monoS_cons (Reg.monoS_eq _) (Reg.monoS_cons (Reg.monoS_eq _) (Reg.monoS_cons (Reg.monoS_eq _) (Reg.monoS_cons (Reg.monoS_eq _) (Reg.monoS_cons (Reg.monoS_eq _) (Reg.monoS_cons (Reg.monoS_eq _) (Reg.monoS_cons (Reg.monoS_eq _) (Reg.monoS_cons (Reg.monoS_eq _) (Reg.monoS_cons (Reg.monoS_eq _) (Reg.monoS_cons (Reg.monoS_eq _) (Reg.monoS_cons (Reg.monoS_eq _) (Reg.monoS_cons (rset_mono _ _) (Reg.monoS_cons (Reg.monoS_eq _) (Reg.monoS_cons (Reg.monoS_eq _) (Reg.monoS_cons (Reg.monoS_eq _) (Reg.monoS_cons (Reg.monoS_eq _) (Reg.monoS_cons (Reg.monoS_eq _) (Reg.monoS_cons (Reg.monoS_eq _) (Reg.monoS_cons (Reg.monoS_eq _) (Reg.monoS_cons (Reg.monoS_eq _) (Reg.monoS_cons (Reg.monoS_eq _) Reg.monoS_nil))))))))))))))))))))))))))))))
    · skip
      refine Reg.rs_cons ?_ ?_
      · intro a w hb hs hel hon
        have e7 : a.tmps[7]? = some (.pointer (some ⟨g7, 0, none⟩)) := (hel 7 (by decide)).trans rfl
        refine ⟨_, rfl, fun K hK => ?_⟩
        rw [if_pos (by rfl)]
        exact wp_load_row 26 (.tmp 7) rfl g7 (eval_tmp e7) 26 _ (0, 0) _ ((hb.block _ (blk_lt HG7.out)).trans HG7.out) Tryd.underlying26 rfl (by rw [hi]; rfl) (hK.out _ _ (Below.refl _ _) rfl)
      refine Reg.rs_cons ?_ ?_
      · intro a w hb hs hel hon
        have e8 : a.tmps[8]? = some (.slice A' x.length c') := (hel 8 (by decide)).trans rfl
        obtain ⟨_, g8⟩ := Array.getElem?_eq_some_iff.1 e8
        refine ⟨_, rfl, fun K hK => ?_⟩
        refine value_ (w1 := w) (v := .slice A' x.length c') (by rfl) rfl ?_ (hK.out _ _ (Below.refl _ _) (rfl))
        · go_simp
          (try simp only [i64_w, g8])
          (try go_simp)
          try rfl
      refine Reg.rs_cons ?_ ?_
      · intro a w hb hs hel hon
        obtain ⟨_, e27, rfl⟩ := hon 0 27 (by kernel_rfl) rfl
        obtain ⟨_, e28, rfl⟩ := hon 1 28 (by kernel_rfl) rfl
        refine ⟨_, rfl, fun K hK => ?_⟩
        refine goes_ Tryd.func8 (by kernel_rfl) rfl #[.agg #[.int .i64 R, .slice A l.length c], .slice A' x.length c'] (by rfl) rfl rfl (by first | (simp only [List.map_toArray, List.map_cons, List.map_nil, Act.eval, Array.getD_eq_getD_getElem?, Option.getD_some, e27, e28]; done) | (simp only [List.map_toArray, List.map_cons, List.map_nil, Act.eval, Array.getD_eq_getD_getElem?, Option.getD_some, e27, e28]; rfl) | rfl) ?_
        refine (P1.out A c A' c' w (Kd.C_below HD1.out hb) hc2 (Kd.C_below HD2.out hb) hc3 (HL.out.below (HB6.out.trans (hb.mono HB6.out.size)))).mono ?_
        rintro e w2 ⟨rfl, hb2⟩
        exact ⟨_, rfl, hK.out _ _ hb2 rfl⟩
      refine Reg.rs_cons ?_ ?_
      · intro a w hb hs hel hon
        obtain ⟨_, e29, rfl⟩ := hon 2 29 (by kernel_rfl) rfl
        obtain ⟨_, g29⟩ := Array.getElem?_eq_some_iff.1 e29
        refine ⟨_, rfl, fun K hK => ?_⟩
        refine value_ (w1 := w) (v := .bool true) (by rfl) rfl ?_ (hK.out _ _ (Below.refl _ _) (rfl))
        · go_simp
          (try simp only [i64_w, g29])
          (try go_simp)
          try rfl
      refine Reg.rs_cons ?_ ?_
      · intro a w hb hs hel hon
        have e9 : a.tmps[9]? = some (.pointer (some ⟨g9, 0, none⟩)) := (hel 9 (by decide)).trans rfl
        obtain ⟨_, e30, rfl⟩ := hon 3 30 (by kernel_rfl) rfl
        refine ⟨_, rfl, fun K hK => ?_⟩
        rw [if_pos (wanted_on rfl rfl rfl e30)]
        exact wp_load_row 26 (.tmp 9) rfl g9 (eval_tmp e9) 26 _ (0, 0) _ ((hb.block _ (blk_lt HG9.out)).trans HG9.out) Tryd.underlying26 rfl (by rw [hi]; rfl) (hK.out _ _ (Below.refl _ _) rfl)
      refine Reg.rs_cons ?_ ?_
      · intro a w hb hs hel hon
        have e8 : a.tmps[8]? = some (.slice A' x.length c') := (hel 8 (by decide)).trans rfl
        obtain ⟨_, e30, rfl⟩ := hon 3 30 (by kernel_rfl) rfl
        obtain ⟨_, g8⟩ := Array.getElem?_eq_some_iff.1 e8
        obtain ⟨_, g30⟩ := Array.getElem?_eq_some_iff.1 e30
        refine ⟨_, rfl, fun K hK => ?_⟩
        refine value_ (w1 := w) (v := .slice A' x.length c') (wanted_on rfl rfl rfl e30) rfl ?_ (hK.out _ _ (Below.refl _ _) (rfl))
        · go_simp
          (try simp only [i64_w, g8, g30])
          (try go_simp)
          try rfl
      refine Reg.rs_cons ?_ ?_
      · intro a w hb hs hel hon
        have e2 : a.tmps[2]? = some (.int .i64 pq) := (hel 2 (by decide)).trans rfl
        obtain ⟨_, e30, rfl⟩ := hon 3 30 (by kernel_rfl) rfl
        obtain ⟨_, g2⟩ := Array.getElem?_eq_some_iff.1 e2
        obtain ⟨_, g30⟩ := Array.getElem?_eq_some_iff.1 e30
        refine ⟨_, rfl, fun K hK => ?_⟩
        refine value_ (w1 := w) (v := .int .i64 pq) (wanted_on rfl rfl rfl e30) rfl ?_ (hK.out _ _ (Below.refl _ _) (rfl))
        · go_simp
          (try simp only [i64_w, g2, g30])
          (try go_simp)
          try rfl
      refine Reg.rs_cons ?_ ?_
      · intro a w hb hs hel hon
        obtain ⟨_, e32, rfl⟩ := hon 5 32 (by kernel_rfl) rfl
        obtain ⟨_, e33, rfl⟩ := hon 6 33 (by kernel_rfl) rfl
        obtain ⟨_, e30, rfl⟩ := hon 3 30 (by kernel_rfl) rfl
        refine ⟨_, rfl, fun K hK => ?_⟩
        refine goes_ Tryd.func9 (by kernel_rfl) rfl #[.slice A' x.length c', .int .i64 pq] (wanted_on rfl rfl rfl e30) rfl rfl (by first | (simp only [List.map_toArray, List.map_cons, List.map_nil, Act.eval, Array.getD_eq_getD_getElem?, Option.getD_some, e32, e33, e30]; done) | (simp only [List.map_toArray, List.map_cons, List.map_nil, Act.eval, Array.getD_eq_getD_getElem?, Option.getD_some, e32, e33, e30]; rfl) | rfl) ?_
        refine (P8.out A' c' w (Kd.C_below HD2.out hb) hc3).mono ?_
        rintro e w2 ⟨v, rfl, ho, hb2⟩
        exact ⟨_, rfl, hK.out _ _ hb2 (Kd.R_reads ho)⟩
      refine Reg.rs_cons ?_ ?_
      · intro a w hb hs hel hon
        obtain ⟨_, e31, rfl⟩ := hon 4 31 (by kernel_rfl) rfl
        obtain ⟨x34, e34, ⟨A_7, c_7, rfl, hl_7, hC_7⟩⟩ := hon 7 34 (by kernel_rfl) rfl
        obtain ⟨_, e30, rfl⟩ := hon 3 30 (by kernel_rfl) rfl
        refine ⟨_, rfl, fun K hK => ?_⟩
        refine goes_ Tryd.func8 (by kernel_rfl) rfl #[.agg #[.int .i64 R, .slice A2 l2.length c2], .slice A_7 (upd x pq).length c_7] (wanted_on rfl rfl rfl e30) rfl rfl (by first | (simp only [List.map_toArray, List.map_cons, List.map_nil, Act.eval, Array.getD_eq_getD_getElem?, Option.getD_some, e31, e34, e30]; done) | (simp only [List.map_toArray, List.map_cons, List.map_nil, Act.eval, Array.getD_eq_getD_getElem?, Option.getD_some, e31, e34, e30]; rfl) | rfl) ?_
        refine (P7.out A2 c2 A_7 c_7 w (Kd.C_below HD3.out hb) hc4 hC_7 hl_7 (HL.out.below (HB6.out.trans (hb.mono HB6.out.size)))).mono ?_
        rintro e w2 ⟨rfl, hb2⟩
        exact ⟨_, rfl, hK.out _ _ hb2 rfl⟩
      refine Reg.rs_cons ?_ ?_
      · intro a w hb hs hel hon
        obtain ⟨_, e30, rfl⟩ := hon 3 30 (by kernel_rfl) rfl
        obtain ⟨_, e35, rfl⟩ := hon 8 35 (by kernel_rfl) rfl
        obtain ⟨_, g30⟩ := Array.getElem?_eq_some_iff.1 e30
        obtain ⟨_, g35⟩ := Array.getElem?_eq_some_iff.1 e35
        refine ⟨_, rfl, fun K hK => ?_⟩
        refine value_ (w1 := w) (v := .bool true) (by rfl) rfl ?_ (hK.out _ _ (Below.refl _ _) (rfl))
        · go_simp
          (try simp only [i64_w, g30, g35])
          (try go_simp)
          try rfl
      refine Reg.rs_cons ?_ ?_
      · intro a w hb hs hel hon
        obtain ⟨_, e36, rfl⟩ := hon 9 36 (by kernel_rfl) rfl
        obtain ⟨_, g36⟩ := Array.getElem?_eq_some_iff.1 e36
        refine ⟨_, rfl, fun K hK => ?_⟩
        refine value_ (w1 := w) (v := .bool true) (by rfl) rfl ?_ (hK.out _ _ (Below.refl _ _) (rfl))
        · go_simp
          (try simp only [i64_w, g36])
          (try go_simp)
          try rfl
      refine Reg.rs_cons ?_ ?_
      · intro a w hb hs hel hon
        have e7 : a.tmps[7]? = some (.pointer (some ⟨g7, 0, none⟩)) := (hel 7 (by decide)).trans rfl
        obtain ⟨_, e37, rfl⟩ := hon 10 37 (by kernel_rfl) rfl
        refine ⟨_, rfl, fun K hK => ?_⟩
        rw [if_pos (wanted_on rfl rfl rfl e37)]
        exact wp_load_row 26 (.tmp 7) rfl g7 (eval_tmp e7) 26 _ (0, 0) _ ((hb.block _ (blk_lt HG7.out)).trans HG7.out) Tryd.underlying26 rfl (by rw [hi]; rfl) (hK.out _ _ (Below.refl _ _) rfl)
      refine Reg.rs_cons ?_ ?_
      · intro a w hb hs hel hon
        have e2 : a.tmps[2]? = some (.int .i64 pq) := (hel 2 (by decide)).trans rfl
        obtain ⟨_, e37, rfl⟩ := hon 10 37 (by kernel_rfl) rfl
        obtain ⟨_, g2⟩ := Array.getElem?_eq_some_iff.1 e2
        obtain ⟨_, g37⟩ := Array.getElem?_eq_some_iff.1 e37
        refine ⟨_, rfl, fun K hK => ?_⟩
        refine value_ (w1 := w) (v := .int .i64 pq) (wanted_on rfl rfl rfl e37) rfl ?_ (hK.out _ _ (Below.refl _ _) (rfl))
        · go_simp
          (try simp only [i64_w, g2, g37])
          (try go_simp)
          try rfl
      refine Reg.rs_cons ?_ ?_
      · intro a w hb hs hel hon
        obtain ⟨_, e38, rfl⟩ := hon 11 38 (by kernel_rfl) rfl
        obtain ⟨_, e39, rfl⟩ := hon 12 39 (by kernel_rfl) rfl
        obtain ⟨_, e37, rfl⟩ := hon 10 37 (by kernel_rfl) rfl
        refine ⟨_, rfl, fun K hK => ?_⟩
        refine goes_ Tryd.func10 (by kernel_rfl) rfl #[.agg #[.int .i64 R, .slice A l.length c], .int .i64 pq] (wanted_on rfl rfl rfl e37) rfl rfl (by first | (simp only [List.map_toArray, List.map_cons, List.map_nil, Act.eval, Array.getD_eq_getD_getElem?, Option.getD_some, e38, e39, e37]; done) | (simp only [List.map_toArray, List.map_cons, List.map_nil, Act.eval, Array.getD_eq_getD_getElem?, Option.getD_some, e38, e39, e37]; rfl) | rfl) ?_
        refine (P3.out A c w (Kd.C_below HD1.out hb) hc2).mono ?_
        rintro e w2 ⟨rfl, hb2⟩
        exact ⟨_, rfl, hK.out _ _ hb2 rfl⟩
      refine Reg.rs_cons ?_ ?_
      · intro a w hb hs hel hon
        have e8 : a.tmps[8]? = some (.slice A' x.length c') := (hel 8 (by decide)).trans rfl
        obtain ⟨_, e37, rfl⟩ := hon 10 37 (by kernel_rfl) rfl
        obtain ⟨_, g8⟩ := Array.getElem?_eq_some_iff.1 e8
        obtain ⟨_, g37⟩ := Array.getElem?_eq_some_iff.1 e37
        refine ⟨_, rfl, fun K hK => ?_⟩
        refine value_ (w1 := w) (v := .slice A' x.length c') (wanted_on rfl rfl rfl e37) rfl ?_ (hK.out _ _ (Below.refl _ _) (rfl))
        · go_simp
          (try simp only [i64_w, g8, g37])
          (try go_simp)
          try rfl
      refine Reg.rs_cons ?_ ?_
      · intro a w hb hs hel hon
        have e2 : a.tmps[2]? = some (.int .i64 pq) := (hel 2 (by decide)).trans rfl
        obtain ⟨_, e37, rfl⟩ := hon 10 37 (by kernel_rfl) rfl
        obtain ⟨_, g2⟩ := Array.getElem?_eq_some_iff.1 e2
        obtain ⟨_, g37⟩ := Array.getElem?_eq_some_iff.1 e37
        refine ⟨_, rfl, fun K hK => ?_⟩
        refine value_ (w1 := w) (v := .int .i64 pq) (wanted_on rfl rfl rfl e37) rfl ?_ (hK.out _ _ (Below.refl _ _) (rfl))
        · go_simp
          (try simp only [i64_w, g2, g37])
          (try go_simp)
          try rfl
      refine Reg.rs_cons ?_ ?_
      · intro a w hb hs hel hon
        obtain ⟨_, e41, rfl⟩ := hon 14 41 (by kernel_rfl) rfl
        obtain ⟨_, e42, rfl⟩ := hon 15 42 (by kernel_rfl) rfl
        obtain ⟨_, e37, rfl⟩ := hon 10 37 (by kernel_rfl) rfl
        refine ⟨_, rfl, fun K hK => ?_⟩
        refine goes_ Tryd.func11 (by kernel_rfl) rfl #[.slice A' x.length c', .int .i64 pq] (wanted_on rfl rfl rfl e37) rfl rfl (by first | (simp only [List.map_toArray, List.map_cons, List.map_nil, Act.eval, Array.getD_eq_getD_getElem?, Option.getD_some, e41, e42, e37]; done) | (simp only [List.map_toArray, List.map_cons, List.map_nil, Act.eval, Array.getD_eq_getD_getElem?, Option.getD_some, e41, e42, e37]; rfl) | rfl) ?_
        refine (P4.out A' c' w (Kd.C_below HD2.out hb) hc3).mono ?_
        rintro e w2 ⟨rfl, hb2⟩
        exact ⟨_, rfl, hK.out _ _ hb2 rfl⟩
      refine Reg.rs_cons ?_ ?_
      · intro a w hb hs hel hon
        obtain ⟨_, e40, rfl⟩ := hon 13 40 (by kernel_rfl) rfl
        obtain ⟨_, e43, rfl⟩ := hon 16 43 (by kernel_rfl) rfl
        obtain ⟨_, e37, rfl⟩ := hon 10 37 (by kernel_rfl) rfl
        obtain ⟨_, g40⟩ := Array.getElem?_eq_some_iff.1 e40
        obtain ⟨_, g43⟩ := Array.getElem?_eq_some_iff.1 e43
        obtain ⟨_, g37⟩ := Array.getElem?_eq_some_iff.1 e37
        refine ⟨_, rfl, fun K hK => ?_⟩
        refine value_ (w1 := w) (v := .bool true) (wanted_on rfl rfl rfl e37) rfl ?_ (hK.out _ _ (Below.refl _ _) (rfl))
        · go_simp
          (try simp only [i64_w, g40, g43, g37])
          (try go_simp)
          try rfl
      refine Reg.rs_cons ?_ ?_
      · intro a w hb hs hel hon
        obtain ⟨_, e37, rfl⟩ := hon 10 37 (by kernel_rfl) rfl
        obtain ⟨_, e44, rfl⟩ := hon 17 44 (by kernel_rfl) rfl
        obtain ⟨_, g37⟩ := Array.getElem?_eq_some_iff.1 e37
        obtain ⟨_, g44⟩ := Array.getElem?_eq_some_iff.1 e44
        refine ⟨_, rfl, fun K hK => ?_⟩
        refine value_ (w1 := w) (v := .bool true) (by rfl) rfl ?_ (hK.out _ _ (Below.refl _ _) (rfl))
        · go_simp
          (try simp only [i64_w, g37, g44])
          (try go_simp)
          try rfl
      refine Reg.rs_cons ?_ ?_
      · intro a w hb hs hel hon
        obtain ⟨_, e45, rfl⟩ := hon 18 45 (by kernel_rfl) rfl
        obtain ⟨_, g45⟩ := Array.getElem?_eq_some_iff.1 e45
        refine ⟨_, rfl, fun K hK => ?_⟩
        refine value_ (w1 := w) (v := .bool true) (by rfl) rfl ?_ (hK.out _ _ (Below.refl _ _) (rfl))
        · go_simp
          (try simp only [i64_w, g45])
          (try go_simp)
          try rfl
      refine Reg.rs_cons ?_ ?_
      · intro a w hb hs hel hon
        have e0 : a.tmps[0]? = some (.int .i64 rm) := (hel 0 (by decide)).trans rfl
        obtain ⟨_, e46, rfl⟩ := hon 19 46 (by kernel_rfl) rfl
        obtain ⟨_, g0⟩ := Array.getElem?_eq_some_iff.1 e0
        obtain ⟨_, g46⟩ := Array.getElem?_eq_some_iff.1 e46
        refine ⟨_, rfl, fun K hK => ?_⟩
        refine value_ (w1 := w) (v := .int .i64 rm) (wanted_on rfl rfl rfl e46) rfl ?_ (hK.out _ _ (Below.refl _ _) (rfl))
        · go_simp
          (try simp only [i64_w, g0, g46])
          (try go_simp)
          try rfl
      refine Reg.rs_cons ?_ ?_
      · intro a w hb hs hel hon
        obtain ⟨_, e47, rfl⟩ := hon 20 47 (by kernel_rfl) rfl
        obtain ⟨_, e46, rfl⟩ := hon 19 46 (by kernel_rfl) rfl
        refine ⟨_, rfl, fun K hK => ?_⟩
        refine goes_ Tryd.func12 (by kernel_rfl) rfl #[.int .i64 rm] (wanted_on rfl rfl rfl e46) rfl rfl (by first | (simp only [List.map_toArray, List.map_cons, List.map_nil, Act.eval, Array.getD_eq_getD_getElem?, Option.getD_some, e47, e46]; done) | (simp only [List.map_toArray, List.map_cons, List.map_nil, Act.eval, Array.getD_eq_getD_getElem?, Option.getD_some, e47, e46]; rfl) | rfl) ?_
        refine (P5.out w).mono ?_
        rintro e w2 ⟨v, rfl, ho, hb2⟩
        exact ⟨_, rfl, hK.out _ _ hb2 (rset_of ho)⟩
      refine Reg.rs_cons ?_ ?_
      · intro a w hb hs hel hon
        obtain ⟨x48, e48, ⟨A_21, c_21, rfl, hl_21, hC_21⟩⟩ := hon 21 48 (by kernel_rfl) rfl
        obtain ⟨_, e46, rfl⟩ := hon 19 46 (by kernel_rfl) rfl
        refine ⟨_, rfl, fun K hK => ?_⟩
        refine goes_ Tryd.func13 (by kernel_rfl) rfl #[.agg #[.int .i64 RA, .slice A_21 LA.length c_21]] (wanted_on rfl rfl rfl e46) rfl rfl (by first | (simp only [List.map_toArray, List.map_cons, List.map_nil, Act.eval, Array.getD_eq_getD_getElem?, Option.getD_some, e48, e46]; done) | (simp only [List.map_toArray, List.map_cons, List.map_nil, Act.eval, Array.getD_eq_getD_getElem?, Option.getD_some, e48, e46]; rfl) | rfl) ?_
        refine (P6.out A_21 c_21 w hC_21 hl_21).mono ?_
        rintro e w2 ⟨rfl, hb2⟩
        exact ⟨_, rfl, hK.out _ _ hb2 rfl⟩
      refine Reg.rs_cons ?_ ?_
      · intro a w hb hs hel hon
        have e8 : a.tmps[8]? = some (.slice A' x.length c') := (hel 8 (by decide)).trans rfl
        obtain ⟨_, e46, rfl⟩ := hon 19 46 (by kernel_rfl) rfl
        obtain ⟨_, g8⟩ := Array.getElem?_eq_some_iff.1 e8
        obtain ⟨_, g46⟩ := Array.getElem?_eq_some_iff.1 e46
        refine ⟨_, rfl, fun K hK => ?_⟩
        refine value_ (w1 := w) (v := .slice A' x.length c') (wanted_on rfl rfl rfl e46) rfl ?_ (hK.out _ _ (Below.refl _ _) (rfl))
        · go_simp
          (try simp only [i64_w, g8, g46])
          (try go_simp)
          try rfl
      refine Reg.rs_cons ?_ ?_
      · intro a w hb hs hel hon
        obtain ⟨_, e50, rfl⟩ := hon 23 50 (by kernel_rfl) rfl
        obtain ⟨_, e46, rfl⟩ := hon 19 46 (by kernel_rfl) rfl
        obtain ⟨_, g50⟩ := Array.getElem?_eq_some_iff.1 e50
        obtain ⟨_, g46⟩ := Array.getElem?_eq_some_iff.1 e46
        refine ⟨_, rfl, fun K hK => ?_⟩
        refine value_ (w1 := w) (v := .int .i64 (x.length : Int)) (wanted_on rfl rfl rfl e46) rfl ?_ (hK.out _ _ (Below.refl _ _) (rfl))
        · go_simp
          (try simp only [i64_w, g50, g46])
          (try go_simp)
          try rfl
      refine Reg.rs_cons ?_ ?_
      · intro a w hb hs hel hon
        obtain ⟨_, e49, rfl⟩ := hon 22 49 (by kernel_rfl) rfl
        obtain ⟨_, e51, rfl⟩ := hon 24 51 (by kernel_rfl) rfl
        obtain ⟨_, e46, rfl⟩ := hon 19 46 (by kernel_rfl) rfl
        obtain ⟨_, g49⟩ := Array.getElem?_eq_some_iff.1 e49
        obtain ⟨_, g51⟩ := Array.getElem?_eq_some_iff.1 e51
        obtain ⟨_, g46⟩ := Array.getElem?_eq_some_iff.1 e46
        refine ⟨_, rfl, fun K hK => ?_⟩
        refine value_ (w1 := w) (v := .bool true) (wanted_on rfl rfl rfl e46) rfl ?_ (hK.out _ _ (Below.refl _ _) (rfl))
        · go_simp
          (try simp only [i64_w, g49, g51, g46])
          (try go_simp)
          try rfl
      refine Reg.rs_cons ?_ ?_
      · intro a w hb hs hel hon
        obtain ⟨_, e46, rfl⟩ := hon 19 46 (by kernel_rfl) rfl
        obtain ⟨_, e52, rfl⟩ := hon 25 52 (by kernel_rfl) rfl
        obtain ⟨_, g46⟩ := Array.getElem?_eq_some_iff.1 e46
        obtain ⟨_, g52⟩ := Array.getElem?_eq_some_iff.1 e52
        refine ⟨_, rfl, fun K hK => ?_⟩
        refine value_ (w1 := w) (v := .bool true) (by rfl) rfl ?_ (hK.out _ _ (Below.refl _ _) (rfl))
        · go_simp
          (try simp only [i64_w, g46, g52])
          (try go_simp)
          try rfl
      refine Reg.rs_cons ?_ ?_
      · intro a w hb hs hel hon
        obtain ⟨_, e53, rfl⟩ := hon 26 53 (by kernel_rfl) rfl
        obtain ⟨_, g53⟩ := Array.getElem?_eq_some_iff.1 e53
        refine ⟨_, rfl, fun K hK => ?_⟩
        refine value_ (w1 := w) (v := .bool true) (by rfl) rfl ?_ (hK.out _ _ (Below.refl _ _) (rfl))
        · go_simp
          (try simp only [i64_w, g53])
          (try go_simp)
          try rfl
      refine Reg.rs_cons ?_ ?_
      · intro a w hb hs hel hon
        obtain ⟨_, e54, rfl⟩ := hon 27 54 (by kernel_rfl) rfl
        refine ⟨_, rfl, fun K hK => ?_⟩
        refine goes_ Tryd.func5 (by kernel_rfl) rfl #[] (wanted_on rfl rfl rfl e54) rfl rfl (by first | (simp only [List.map_toArray, List.map_cons, List.map_nil, Act.eval, Array.getD_eq_getD_getElem?, Option.getD_some, e54]; done) | (simp only [List.map_toArray, List.map_cons, List.map_nil, Act.eval, Array.getD_eq_getD_getElem?, Option.getD_some, e54]; rfl) | rfl) ?_
        refine (awake_c w (HL.out.below (HB6.out.trans (hb.mono HB6.out.size)))).mono ?_
        rintro e w2 ⟨rfl, hb2⟩
        exact ⟨_, rfl, hK.out _ _ hb2 rfl⟩
      refine Reg.rs_cons ?_ ?_
      · intro a w hb hs hel hon
        obtain ⟨_, e54, rfl⟩ := hon 27 54 (by kernel_rfl) rfl
        obtain ⟨_, e55, rfl⟩ := hon 28 55 (by kernel_rfl) rfl
        obtain ⟨_, g54⟩ := Array.getElem?_eq_some_iff.1 e54
        obtain ⟨_, g55⟩ := Array.getElem?_eq_some_iff.1 e55
        refine ⟨_, rfl, fun K hK => ?_⟩
        refine value_ (w1 := w) (v := .bool true) (by rfl) rfl ?_ (hK.out _ _ (Below.refl _ _) (rfl))
        · go_simp
          (try simp only [i64_w, g54, g55])
          (try go_simp)
          try rfl
      refine Reg.rs_cons ?_ ?_
      · intro a w hb hs hel hon
        obtain ⟨_, e56, rfl⟩ := hon 29 56 (by kernel_rfl) rfl
        obtain ⟨_, g56⟩ := Array.getElem?_eq_some_iff.1 e56
        refine ⟨_, rfl, fun K hK => ?_⟩
        refine value_ (w1 := w) (v := .bool true) (by rfl) rfl ?_ (hK.out _ _ (Below.refl _ _) (rfl))
        · go_simp
          (try simp only [i64_w, g56])
          (try go_simp)
          try rfl
      exact Reg.rs_nil
    · intro a w hI
      rename_i K_ hK_
      refine hK_ a w ?_
      go_wp2
      obtain ⟨v4, e4, rfl⟩ := hI.vals 30 6 rfl rfl
      exact Reg.ret_slot (R := fun e w' => e = .returned (.bool true) ∧ Below _ _ w') (by kernel_rfl) hI.defers e4 ⟨rfl, HB6.out.trans (hI.below.mono HB6.out.size)⟩
end Go.Proofs.YtkkikddocgckbaaDoor.BPure
end

section
/- What a package's variable that is laid as plain data has in its cells; numbers, truths, texts, structs and arrays alone. -/
namespace Go.Proofs.YtkkikddocgckbaaDoor.Flat
open Go Go.Lib Go.RowKit
mutual
/-- The cells that a datum of numbers, bools, texts, structs and arrays says. -/
def flatW {H : Type} : DataW H → Option (List Value)
  | .lit (.int k n) => some [.int k n]
  | .lit (.bool b) => some [.bool b]
  | .lit (.string s) => some [.string ⟨s.toArray⟩]
  | .agg ps => flatWs ps
  | _ => none
def flatWs {H : Type} : List (DataW H) → Option (List Value)
  | [] => some []
  | d :: r => (flatW d).bind fun a => (flatWs r).map (a ++ ·)
end
/-- Do a type's parts lie one behind the other, without a gap? -/
def tiles (P : Program) : Nat → TypeId → Bool
  | 0, _ => false
  | n + 1, t => match P.underlying t with
    | some .bool | some (.int _) | some .string => true
    | some (.struct fs) => fs.toList.foldl (fun o f => o.bind fun k => if f.offset = k ∧ tiles P n f.type = true then some (k + P.cellsOf f.type) else none) (some 0) == some (P.cellsOf t)
    | some (.array m e) => tiles P n e && P.cellsOf t == m * P.cellsOf e
    | _ => false
theorem foldl_none {α β : Type} (f : Option β → α → Option β) (h : ∀ a, f none a = none) : ∀ l : List α, l.foldl f none = none
  | [] => rfl
  | a :: l => by rw [List.foldl_cons, h, foldl_none f h l]
theorem flat_cells {H : Type} {enc : TypeId × Value → H} {P : Program} {w : World} {base : Nat} {sp : Nat → Bool} {held : Bool} :
    ∀ (n fuel : Nat) (t : TypeId) (cs : List Value) (d : DataW H) (ps : List MemPlace) (vs : List Value), tiles P n t = true → DataW.trod enc P w base sp held fuel t cs = some (d, ps) → flatW d = some vs → cs = vs := by
  intro n
  induction n with
  | zero => intro fuel t cs d ps vs ht; simp [tiles] at ht
  | succ n ih =>
    intro fuel t cs d ps vs ht h hf
    cases fuel with
    | zero => simp [DataW.trod] at h
    | succ fuel =>
      cases hu : P.underlying t with
      | none => simp [tiles, hu] at ht
      | some u =>
        cases u with
        | bool =>
          unfold DataW.trod at h; rw [hu] at h
          split at h <;> simp_all
          obtain ⟨rfl, _⟩ := h
          simp [flatW] at hf; exact hf
        | int k =>
          unfold DataW.trod at h; rw [hu] at h
          split at h <;> simp_all
          obtain ⟨⟨rfl, _⟩, rfl, _⟩ := h
          simp [flatW] at hf; exact hf
        | string =>
          unfold DataW.trod at h; rw [hu] at h
          split at h <;> simp_all
          obtain ⟨_, rfl, _⟩ := h
          simp [flatW] at hf; exact hf
        | struct fs =>
          simp only [tiles, hu, beq_iff_eq] at ht
          unfold DataW.trod at h; rw [hu] at h
          simp only at h
          split at h
          · rename_i hl
            obtain ⟨xs, hm, hx⟩ := Option.map_eq_some_iff.1 h
            simp only [Prod.mk.injEq] at hx
            obtain ⟨rfl, _⟩ := hx
            have key : ∀ (fs : List Field) (k : Nat) (xs : List (DataW H × List MemPlace)) (vs : List Value), k ≤ cs.length → fs.mapM (fun f => DataW.trod enc P w base sp held fuel f.type ((cs.drop f.offset).take (P.cellsOf f.type))) = some xs →
                fs.foldl (fun o f => o.bind fun k => if f.offset = k ∧ tiles P n f.type = true then some (k + P.cellsOf f.type) else none) (some k) = some cs.length → flatWs (xs.map (·.1)) = some vs → cs.drop k = vs := by
              intro fs
              induction fs with
              | nil =>
                intro k xs vs hk hm ht hf
                simp at hm; subst hm
                simp [flatWs] at hf; subst hf
                simp at ht; simp; omega
              | cons f fs ihf =>
                intro k xs vs hk hm ht hf
                simp only [List.mapM_cons, Option.bind_eq_bind, Option.bind_eq_some_iff, Option.pure_def, Option.some.injEq] at hm
                obtain ⟨b, hb, r, hr, rfl⟩ := hm
                simp only [List.foldl_cons, Option.bind_some] at ht
                split at ht
                · rename_i hc
                  obtain ⟨hc1, hc2⟩ := hc
                  simp only [List.map_cons, flatWs, Option.bind_eq_some_iff, Option.map_eq_some_iff] at hf
                  obtain ⟨a, ha, s, hs, rfl⟩ := hf
                  have e1 := ih _ _ _ b.1 b.2 a hc2 (by rw [hb]) ha
                  rw [hc1] at e1
                  have hle : k + P.cellsOf f.type ≤ cs.length := by
                    have mono : ∀ (l : List Field) (k m : Nat), l.foldl (fun o f => o.bind fun k => if f.offset = k ∧ tiles P n f.type = true then some (k + P.cellsOf f.type) else none) (some k) = some m → k ≤ m := by
                      intro l
                      induction l with
                      | nil => intro k m h; simp at h; omega
                      | cons g l ihl =>
                        intro k m h
                        simp only [List.foldl_cons, Option.bind_some] at h
                        split at h
                        · have := ihl _ _ h; omega
                        · rw [foldl_none _ (fun _ => rfl)] at h; cases h
                    exact mono _ _ _ ht
                  have e2 := ihf _ _ _ hle hr ht hs
                  rw [← e1, ← e2, ← List.drop_drop, List.take_append_drop]
                · rw [foldl_none _ (fun _ => rfl)] at ht; cases ht
            have := key fs.toList 0 xs vs (Nat.zero_le _) hm (by rw [ht, hl]) (by simpa [flatW] using hf)
            simpa using this
          · cases h
        | array m e =>
          simp only [tiles, hu, Bool.and_eq_true, beq_iff_eq] at ht
          obtain ⟨ht1, ht2⟩ := ht
          unfold DataW.trod at h; rw [hu] at h
          simp only at h
          split at h
          · rename_i hl
            obtain ⟨xs, hm, hx⟩ := Option.map_eq_some_iff.1 h
            simp only [Prod.mk.injEq] at hx
            obtain ⟨rfl, _⟩ := hx
            have key : ∀ (j k : Nat) (xs : List (DataW H × List MemPlace)) (vs : List Value), k + j = m → (List.range' k j).mapM (fun i => DataW.trod enc P w base sp held fuel e ((cs.drop (i * P.cellsOf e)).take (P.cellsOf e))) = some xs → flatWs (xs.map (·.1)) = some vs → cs.drop (k * P.cellsOf e) = vs := by
              intro j
              induction j with
              | zero =>
                intro k xs vs hk hm hf
                simp at hm; subst hm
                simp [flatWs] at hf; subst hf
                have hkm : k = m := by omega
                subst hkm
                rw [← ht2, ← hl]; simp
              | succ j ihj =>
                intro k xs vs hk hm hf
                simp only [List.range'_succ, List.mapM_cons, Option.bind_eq_bind, Option.bind_eq_some_iff, Option.pure_def, Option.some.injEq] at hm
                obtain ⟨b, hb, r, hr, rfl⟩ := hm
                simp only [List.map_cons, flatWs, Option.bind_eq_some_iff, Option.map_eq_some_iff] at hf
                obtain ⟨a, ha, s, hs, rfl⟩ := hf
                have e1 := ih _ _ _ b.1 b.2 a ht1 (by rw [hb]) ha
                have e2 := ihj (k + 1) _ _ (by omega) hr hs
                rw [← e1, ← e2, Nat.add_mul, Nat.one_mul, ← List.drop_drop, List.take_append_drop]
            have := key m 0 xs vs (by omega) (by rw [← List.range_eq_range']; exact hm) (by simpa [flatW] using hf)
            simpa using this
          · cases h
        | _ => simp [tiles, hu] at ht
/-- The variable holds these cells. -/
def VarIs (P : Program) (w : World) (name : String) (vs : List Value) : Prop := w.var? P name = some vs.toArray
theorem varIs_of_laid {P : Program} {W : World} {name : String} {D : DataW Unit} {vs : List Value} {g : Nat} {t : TypeId} (n : Nat)
    (hg : P.globalNamed name = some g) (hty : (P.globals[g]?).map (·.type) = some t) (ht : tiles P n t = true) (hf : flatW D = some vs) :
    ∀ {l : List (String × DataW Unit)} {ps : List MemPlace}, (name, D) ∈ l → DataW.LaidVars P W l ps → VarIs P W name vs := by
  intro l
  induction l with
  | nil => intro ps h; cases h
  | cons x l ih =>
    intro ps hm h
    obtain ⟨nm, E⟩ := x
    obtain ⟨g', t', cs, fuel, p, q, hg', ht', hvar, hd, hr, _⟩ := h
    rcases List.mem_cons.1 hm with h | h
    · injection h with h1 h2
      subst h1 h2
      obtain rfl := Option.some.inj (hg.symm.trans hg')
      obtain rfl := Option.some.inj (hty.symm.trans ht')
      unfold VarIs
      rw [hvar, ← flat_cells n _ _ _ _ _ _ ht hd hf]
    · exact ih h hr
theorem varIs {P : Program} {W : World} {name : String} {D : DataW Unit} {vs : List Value} {g : Nat} {t : TypeId} {l : List (String × DataW Unit)} (n : Nat)
    (h : laidMetH P l W) (hp : (l.filter fun x => x.2.handleName?.isSome) = []) (hm : (name, D) ∈ l)
    (hg : P.globalNamed name = some g) (hty : (P.globals[g]?).map (·.type) = some t) (ht : tiles P n t = true) (hf : flatW D = some vs) : VarIs P W name vs := by
  unfold laidMetH at h
  rw [hp] at h
  obtain ⟨ps, h, _⟩ := h
  exact varIs_of_laid n hg hty ht hf hm h
theorem VarIs.cell {P : Program} {W : World} {name : String} {vs : List Value} {g : Nat} (h : VarIs P W name vs) (hg : P.globalNamed name = some g) (i : Nat) : W.cell? ⟨g, i, none⟩ = vs[i]? := by
  rw [World.var?_cell hg h i]; simp
end Go.Proofs.YtkkikddocgckbaaDoor.Flat
end

section
/- BitsHold over places that are read as data; the library's table as the program lays it. -/
namespace Go.Proofs.YtkkikddocgckbaaDoor
open Go Go.RowKit Go.Proofs.YtkkikddocgckbaaDoorW.PrintWords Go.Proofs.YtkkikddocgckbaaDoor.Given
set_option linter.unusedVariables false
def tzV : List Value := Lib.deBruijn64tab.map (fun (n : Nat) => .int .u8 (n : Int))
set_option maxRecDepth 100000 in
theorem laidTz_of {l : List (String × DataW Unit)} {w : World} (h : laidMetH Tryd.prog l w) (hp : (l.filter fun x => x.2.handleName?.isSome) = []) (hm : ("math/bits.deBruijn64tab", Rows.laid_math_bits_deBruijn64tab) ∈ l) : LaidTz w := by
  have hv := Flat.varIs (name := "math/bits.deBruijn64tab") (D := Rows.laid_math_bits_deBruijn64tab) (vs := tzV) (g := 0) (t := 49) 6 h hp hm (by kernel_rfl) (by kernel_rfl) (by kernel_rfl) (by rfl)
  intro j hj
  have hl : j < Lib.deBruijn64tab.length := hj
  rw [hv.cell (by kernel_rfl), tzV, List.getElem?_map, List.getD_eq_getElem?_getD, List.getElem?_eq_getElem hl]
  rfl
theorem rd_ints : Bridge.Rdga Tryd.prog 22 (Kd.slice 3 (Kd.int .i64)) (fun l => ∀ a ∈ l, (Lit.int .i64 a).wf = true) := Bridge.Rdg.slicea Tryd.underlying22 (by kernel_rfl) (Bridge.Rdg.int Tryd.underlying3 (by kernel_rfl))
theorem BitsHold_walk (a0 : Int) (A : Option Addr) (c : Nat) (x : List Int) (a2 : Int) (w : World) (wf0 : (Lit.int .i64 a0).wf = true) (hC : (Kd.int .i64).C w A x.length x) (hle : x.length ≤ c) (wf1 : ∀ a ∈ x, (Lit.int .i64 a).wf = true) (wf2 : (Lit.int .i64 a2).wf = true) (hL : laidMetH Tryd.prog Rows.bitsHoldRow.laid w) :
    Calls Tryd.prog 3 #[.int .i64 a0, .slice A x.length c, .int .i64 a2] w fun e w' => e = .returned (.bool true) ∧ Below w.heap.size w w' :=
  BPure.bitsHold_w a0 A c x a2 w hC hle (laidTz_of hL rfl (by simp [Rows.bitsHoldRow]))
end Go.Proofs.YtkkikddocgckbaaDoor
end

section
/- The law BitsHold holds for every input: the walk over its code shows that the call returns true and that what was read stays as it was; the row follows. The package-level tables that the code reads are tied to the program's text by the given tie. -/
namespace Go.Proofs.YtkkikddocgckbaaDoor.bitsHoldRw
open Go.ChangeShapes Go.WideShapes Go.ChangeAt Go.RowKit
open Go.ChangeMaps (open_string shut_string)
open Go.Proofs.YtkkikddocgckbaaDoor.Bridge
set_option linter.unusedVariables false
set_option linter.unusedSimpArgs false
theorem own : ownKnob Tryd.prog.godebug = none := by kernel_rfl
theorem laidOut : laidOutB Tryd.prog = true := by kernel_rfl
theorem contract (H : Type) (enc : TypeId × Value → H) (W : World) (base : Nat) (args : Array Value) (ds gs : List (DataW H)) (before : List MemPlace)
    (hval : ∀ (j : Nat) t v, Tryd.f3.params[j]? = some t → args[j]? = some v → Value.okWide Tryd.prog W .any base t v)
    (hW : DataW.Whole enc Tryd.prog Tryd.f3.params.toList Rows.bitsHoldSpec.vars false W args.toList ds gs before) (hsz : (DataW.weightsEach Tryd.prog (Tryd.f3.params.toList ++ Rows.bitsHoldSpec.plain.varTypes Tryd.prog) (ds ++ gs)).all (· ≤ reachBytes) = true) (hL : laidMetH Tryd.prog Rows.bitsHoldRow.laid W) :
    Calls Tryd.prog 3 args W fun e W' => ∃ v, e = .returned v ∧ Rows.bitsHoldSpec.post enc Tryd.prog Tryd.f3 false true false false W args v W' := by
  have hW' := hW
  obtain ⟨p, q, hA0, hV, rfl, hfz, hnd⟩ := hW
  have hA : DataW.TrodAll enc Tryd.prog W 0 (fun _ => true) true Tryd.f3.params.toList args.toList ds p := hA0
  rw [Tryd.params3] at hA hval hsz
  obtain ⟨v0, vs0, d0, ds0, p0, q0, hargs, rfl, rfl, h0, r0⟩ := trodAll_cons hA
  obtain ⟨v1, vs1, d1, ds1, p1, q1, rfl, rfl, rfl, h1, r1⟩ := trodAll_cons r0
  obtain ⟨v2, vs2, d2, ds2, p2, q2, rfl, rfl, rfl, h2, r2⟩ := trodAll_cons r1
  obtain ⟨rfl, rfl, rfl⟩ := trodAll_nil r2
  obtain rfl : args = #[v0, v1, v2] := by cases args; simp_all
  obtain ⟨rfl, rfl⟩ := trodVars_none hV
  clear hA0
  have k0 := h0
  have lt0 : ∀ x ∈ p0, x.block < W.heap.size := by obtain ⟨m, hm⟩ := k0; exact DataW.trod_lt m _ _ _ hm
  obtain ⟨a0, rfl, _, _, w0⟩ := open_int Tryd.underlying3 (hval 0 3 v0 rfl rfl) h0
  have k1 := h1
  have lt1 : ∀ x ∈ p1, x.block < W.heap.size := by obtain ⟨m, hm⟩ := k1; exact DataW.trod_lt m _ _ _ hm
  obtain ⟨A1, len1, c1, rfl⟩ := okWide_slice Tryd.underlying22 (hval 1 22 v1 rfl rfl)
  obtain ⟨x1, hk1, wf1⟩ := Rdga.trod rd_ints h1
  obtain ⟨A1', c1', he1, hle1, hC1⟩ := hk1
  simp only [Value.cells, List.cons.injEq, Value.slice.injEq, and_true] at he1
  obtain ⟨rfl, rfl, rfl⟩ := he1
  have k2 := h2
  have lt2 : ∀ x ∈ p2, x.block < W.heap.size := by obtain ⟨m, hm⟩ := k2; exact DataW.trod_lt m _ _ _ hm
  obtain ⟨a2, rfl, _, _, w2⟩ := open_int Tryd.underlying3 (hval 2 3 v2 rfl rfl) h2
  refine (BitsHold_walk a0 A1 c1 x1 a2 W w0 hC1 hle1 wf1 w2 hL).mono fun e W' ⟨he, bel⟩ => ?_
  subst he
  exact ⟨_, rfl, _, _, _, [], _, [], hW', trodAll_mk1 (shut_bool Tryd.underlying4 _), (trodAll_cons_mk (Below.trod laidOut (by kernel_rfl) (of_decide_eq_true (by kernel_rfl)) k0 bel lt0) (trodAll_cons_mk (Below.trod laidOut (by kernel_rfl) (of_decide_eq_true (by kernel_rfl)) k1 bel lt1) (trodAll_cons_mk (Below.trod laidOut (by kernel_rfl) (of_decide_eq_true (by kernel_rfl)) k2 bel lt2) trodAll_mk0))), rfl, bel.frame _, fun h => by cases h⟩
theorem laid_met (os : Os) : laidMetH Tryd.prog Rows.bitsHoldRow.laid ((World.doorLaid Tryd.prog 4000 os).forCall (fun _ _ => 0) ⟨#[], #[.int .i64 0, .slice none 0 0, .int .i64 0], []⟩).memory :=
  laidMetH_of_parts3 (fuel := 12) (laidMet_of_run' 12 (by kernel_rfl) (by kernel_rfl)) (by kernel_rfl) (by kernel_rfl)
theorem reads (os : Os) {H : Type} (enc : TypeId × Value → H) : ∃ ds places, DataW.whole enc Tryd.prog ((World.doorLaid Tryd.prog 4000 os).forCall (fun _ _ => 0) ⟨#[], #[.int .i64 0, .slice none 0 0, .int .i64 0], []⟩).memory Tryd.f3.params.toList Rows.bitsHoldSpec.vars false (#[.int .i64 0, .slice none 0 0, .int .i64 0] : Array Value).toList 8 = some (ds, [], places) :=
  ⟨[.lit (.int .i64 0), .nil, .lit (.int .i64 0)], [], by kernel_rfl⟩
set_option maxRecDepth 100000 in
theorem lifted (os : Os) (started : os.Started) (H : Type) (enc : TypeId × Value → H) (F : Stop.Interp) :
    ReturnsInHanded {} Tryd.checked os 3 .any ((OpenSpec.ofChange Rows.bitsHoldSpec).preRow enc Tryd.prog Tryd.f3 Rows.bitsHoldRow.domain false Rows.bitsHoldRow.laid) (((OpenSpec.ofChange Rows.bitsHoldSpec).at F).post enc Tryd.prog Tryd.f3 false true false false) := by
  obtain ⟨ds, places, hx⟩ := reads os enc
  refine returnsInHanded_of_row (C := Tryd.checked) (s := OpenSpec.ofChange Rows.bitsHoldSpec) own started (by kernel_rfl) Tryd.func3
    (witness_row_at (enc := enc) (C := Tryd.checked) false (World.doorLaid Tryd.prog 4000 os) #[.int .i64 0, .slice none 0 0, .int .i64 0] rfl (by kernel_rfl) (by kernel_rfl) (by kernel_rfl)
      (OpenSpec.preRow_of_cond 8 hx (by kernel_rfl) (fun k hk => by cases hk) (by kernel_rfl) (laid_met os))) ?_
  intro W base args ds gs before hval hW _ _ hsz hL _ _
  exact contract H enc W base args ds gs before hval hW hsz hL
theorem said : Rows.BitsHoldSaid :=
  OpenClaim.holds_of_cond 3 Tryd.f3 rfl rfl rfl rfl rfl rfl rfl ⟨rfl, rfl, rfl, rfl, rfl⟩ rfl rfl rfl rfl rfl (by kernel_rfl) Tryd.func3 (by kernel_rfl)
    (of_decide_eq_true (by kernel_rfl)) (by unfold Func.isWrapper; first | (rw [if_pos (by decide +kernel)]; kernel_rfl) | (rw [if_neg (by decide +kernel)]; exact ⟨rfl, rfl⟩))
    (fun os started H enc _ F => by rw [OpenClaim.pre_eq_preRow]; exact lifted os started H enc F)
theorem plain (f : FuncId) (fn : Func) (hf : Tryd.pinned.checked.prog.funcNamed "ladderback/ladderbacklaw06.BitsHold" = some f) (hfn : Tryd.pinned.checked.prog.funcs[f]? = some fn) :
    false = Tryd.pinned.checked.prog.looks [] ∧ ∀ (j : Nat) t, fn.params[j]? = some t → Tryd.pinned.checked.prog.wantsStandIn t = false := by
  obtain rfl : f = 3 := Option.some.inj ((show Tryd.prog.funcNamed "ladderback/ladderbacklaw06.BitsHold" = some 3 by kernel_rfl).symm.trans hf) |>.symm
  obtain rfl : fn = Tryd.f3 := (Option.some.inj (Tryd.func3.symm.trans hfn)).symm
  refine ⟨by kernel_rfl, fun j t ht => ?_⟩
  rw [Tryd.params3] at ht
  have hm : t ∈ [3, 22, 3] := by simpa using Array.mem_of_getElem? ht
  have hall : ([3, 22, 3].all fun u => !Tryd.prog.wantsStandIn u) = true := by kernel_rfl
  exact (show Tryd.prog.wantsStandIn t = false by simpa using List.all_eq_true.1 hall t hm)
theorem card : Rows.BitsHoldCardSaid :=
  Claim7.holds_tied_plain_at .later [] _ _ _ _ said (fun _ h => by cases h) (by kernel_rfl) (fun _ h => by cases h) bitsHold_row_tie rfl ⟨rfl, rfl⟩ (by kernel_rfl) rfl plain (by kernel_rfl)
end Go.Proofs.YtkkikddocgckbaaDoor.bitsHoldRw
namespace Go.Proofs.YtkkikddocgckbaaDoor
theorem bitsHold_holds : Rows.BitsHoldCardSaid := bitsHoldRw.card
#print axioms bitsHold_holds
end Go.Proofs.YtkkikddocgckbaaDoor
end
