/- Bytes as instructions, as the program reads them; bytes of at most 1000000 in length, the operations' table as the program lays it. -/
import Derived.Test.YthbcliofjfhmbaaDoorCodOne
import Derived.Test.YthbcliofjfhmbaaDoorPCodx0
namespace Go.Proofs.YthbcliofjfhmbaaDoor.Given
set_option linter.unusedVariables false
set_option linter.unusedSimpArgs false
open Go.RowKit Go.Proofs.YthbcliofjfhmbaaDoorW.PrintWords Go.Proofs.YthbcliofjfhmbaaDoorW.PrintLast Go.Proofs.YthbcliofjfhmbaaDoorW.PrintMore
open Go.Proofs.YthbcliofjfhmbaaDoor
abbrev InS := PCod.S47
abbrev inK := PCod.k47
/-- Bytes as instructions; or how many there were, and the error. -/
def decF : Nat → List Int → List InS → List InS × Int × Int
  | 0, _, out => (out, 0, 0)
  | n + 1, a :: b :: c :: d :: e :: t, out => if errI a (b + 256 * c) (d + 256 * e) = 0 then decF n t (out ++ [⟨a, b + 256 * c, d + 256 * e⟩]) else ([], out.length, errI a (b + 256 * c) (d + 256 * e))
  | _ + 1, [], out => (out, 0, 0)
  | _ + 1, _ :: _, out => ([], out.length, 1)
theorem num1 (a b c d e : Int) (h : okB [a, b, c, d, e] = true) : numR [a, b, c, d, e] 0 false 1 = (a, 1, false) := by
  have hr := (okB_all h).1
  have ha := hr a (by simp)
  unfold numR
  rw [show mx 0 (mn 1 8) = 1 by decide, if_pos (show okR [a, b, c, d, e] 0 false 1 from ⟨rfl, by decide, by simp⟩)]
  show (wrap64 (a + 256 * 0), _, _) = _
  rw [show wrap64 (a + 256 * 0) = a by unfold wrap64; omega]
  rfl
theorem num2 (a b c d e : Int) (h : okB [a, b, c, d, e] = true) : numR [a, b, c, d, e] 1 false 2 = (b + 256 * c, 3, false) := by
  have hr := (okB_all h).1
  have hb := hr b (by simp)
  have hc := hr c (by simp)
  unfold numR
  rw [show mx 0 (mn 2 8) = 2 by decide, if_pos (show okR [a, b, c, d, e] 1 false 2 from ⟨rfl, by decide, by simp⟩)]
  show (wrap64 (b + 256 * (c + 256 * 0)), _, _) = _
  rw [show wrap64 (b + 256 * (c + 256 * 0)) = b + 256 * c by unfold wrap64; omega]
  rfl
theorem num3 (a b c d e : Int) (h : okB [a, b, c, d, e] = true) : numR [a, b, c, d, e] 3 false 2 = (d + 256 * e, 5, false) := by
  have hr := (okB_all h).1
  have hd := hr d (by simp)
  have he := hr e (by simp)
  unfold numR
  rw [show mx 0 (mn 2 8) = 2 by decide, if_pos (show okR [a, b, c, d, e] 3 false 2 from ⟨rfl, by decide, by simp⟩)]
  show (wrap64 (d + 256 * (e + 256 * 0)), _, _) = _
  rw [show wrap64 (d + 256 * (e + 256 * 0)) = d + 256 * e by unfold wrap64; omega]
  rfl
def lenOf : Value → Nat
  | .slice _ n _ => n
  | _ => 0
set_option maxHeartbeats 4000000 in
set_option maxRecDepth 100000 in
theorem decode_calls (A0 : Option Addr) (c0 : Nat) (l0 : List Int) (r : List InS × Int × Int) (w : World) (hr0 : Kd.C (Kd.int .u8) w A0 l0.length l0) (hc0 : l0.length ≤ c0) (hl : l0.length ≤ 1000000) (hb : okB l0 = true) (hr : decF l0.length l0 [] = r) (hL : LaidOps w) :
    Calls Tryd.prog 10 #[.slice A0 l0.length c0] w fun e w' => ∃ v0_ : Value, e = .returned (.tuple #[v0_, .int .i64 r.2.1, .int .i64 r.2.2]) ∧ Kd.R inK 47 w' w.heap.size (fun _ => True) v0_ r.1 ∧ Below w.heap.size w w' := by
  have HR0 := Aside0.mk hr0
  have HR := Aside0.mk hr
  have HO := Aside0.mk hb
  have HL := Aside0.mk hL
  have HLl := Aside0.mk hl
  clear hr0 hr hb hL
  go_enter Tryd.func10, Tryd.ntmps10
  go_wp2_with fail
  go_loopw [0, 5] (fun bv ov wr => ∃ (A : Option Addr) (c n : Nat) (l : List Int) (out : List InS), bv = .slice A l.length c ∧ l.length ≤ c ∧ l.length ≤ n ∧ Aside0 (l.length + out.length ≤ 1000000) ∧ Aside0 (okB l = true) ∧ Aside0 (Kd.C (Kd.int .u8) w A l.length l) ∧ Aside0 (Kd.R inK 47 wr w.heap.size (fun _ => True) ov out) ∧ Aside0 (Below w.heap.size w wr) ∧ Aside0 (decF n l out = r)) (fun bv _ _ => lenOf bv)
  case atStart => exact ⟨A0, c0, l0.length, l0, [], rfl, hc0, Nat.le_refl _, ⟨by simpa using hl⟩, HO, HR0, ⟨Kd.R_nil _ _ _ _ _⟩, ⟨Below.refl _ _⟩, HR⟩
  case round =>
    clear HR HR0 HO hc0 hl HLl
    obtain ⟨A, c, n, l, out, rfl, hc, hn, HZ, HO, HC, HV, HB, HR⟩ := hrel
    obtain ⟨A2, c2, rfl, hl2, hC2⟩ := Kd.R_reads HV.out
    clear hC2 hl2
    by_cases h0 : l.length = 0
    · obtain rfl := List.eq_nil_of_length_eq_zero h0
      have hh := HR.out
      have hd : decF n [] out = (out, 0, 0) := by cases n <;> rfl
      rw [hd] at hh
      go_wp2_with fail
      refine bodyPost_ret (results_tmp3 rfl _ _ _) rfl ?_
      rw [← hh]
      exact ⟨_, rfl, HV.out, HB.out⟩
    · by_cases h5 : l.length < 5
      · have hh := HR.out
        have hd : decF n l out = ([], (out.length : Int), 1) := by
          match n, l, h0, h5, hn with
          | n + 1, [_], _, _, _ => rfl
          | n + 1, [_, _], _, _, _ => rfl
          | n + 1, [_, _, _], _, _, _ => rfl
          | n + 1, [_, _, _, _], _, _, _ => rfl
          | 0, _ :: _, _, _, h => exact absurd h (by simp)
          | _, [], h, _, _ => exact absurd rfl h
          | _, _ :: _ :: _ :: _ :: _ :: _, _, h, _ => exact absurd h (by simp)
        rw [hd] at hh
        clear hd
        go_wp2_with fail
        refine bodyPost_ret (results_tmp3 rfl _ _ _) rfl ?_
        rw [← hh]
        exact ⟨_, rfl, Kd.R_nil _ _ _ _ _, HB.out⟩
      · obtain ⟨a, b, c', d, e, t, rfl⟩ : ∃ a b c' d e t, l = a :: b :: c' :: d :: e :: t := by
          match l, h5 with
          | a :: b :: c :: d :: e :: t, _ => exact ⟨a, b, c, d, e, t, rfl⟩
          | [], h => simp at h
          | [_], h => simp at h
          | [_, _], h => simp at h
          | [_, _, _], h => simp at h
          | [_, _, _, _], h => simp at h
        obtain ⟨n, rfl⟩ : ∃ m, n = m + 1 := ⟨n - 1, by simp at hn; omega⟩
        have hok := okB_all HO.out
        have ok5 : okB [a, b, c', d, e] = true := by
          have := HO.out
          unfold okB at this ⊢
          simp only [List.all_cons, List.all_nil, Bool.and_true, Bool.and_eq_true, decide_eq_true_eq] at this ⊢
          refine ⟨⟨this.1.1, this.1.2.1, this.1.2.2.1, this.1.2.2.2.1, this.1.2.2.2.2.1⟩, by simp⟩
        have hO : Aside0 (okB t = true) := ⟨by
          have := HO.out
          unfold okB at this ⊢
          simp only [List.all_cons, Bool.and_eq_true, decide_eq_true_eq] at this ⊢
          refine ⟨this.1.2.2.2.2.2, by have := this.2; simp only [List.length_cons] at this; omega⟩⟩
        have hC5 : Kd.C (Kd.int .u8) wr A [a, b, c', d, e].length [a, b, c', d, e] := Kd.C_below (Kd.C_take (m := 5) HC.out (by simp)) HB.out
        have H1 := Aside0.mk (one_calls A 5 [a, b, c', d, e] a (b + 256 * c') (d + 256 * e) wr hC5 (Nat.le_refl _) (by simp) ok5 (num1 a b c' d e ok5) (num2 a b c' d e ok5) (num3 a b c' d e ok5) (HL.out.below HB.out))
        have hh := HR.out
        unfold decF at hh
        have hcc : 5 ≤ c := by simp only [List.length_cons] at hc; omega
        have hdrop := Aside0.mk (Kd.C_drop (k := Kd.int .u8) (m := 5) (c := c) HC.out (by simp) hc)
        have hzz : t.length + 5 + out.length ≤ 1000000 := by have := HZ.out; simp only [List.length_cons] at this; omega
        have HZ := Aside0.mk hzz
        clear hok ok5 hC5 HC HO hzz h0 h5
        generalize hE : errI a (b + 256 * c') (d + 256 * e) = E at hh H1
        generalize hy : b + 256 * c' = y at hh H1 hE
        generalize hz : d + 256 * e = z at hh H1 hE
        by_cases he : E = 0
        · rw [if_pos he] at hh
          subst he
          go_wp2_with fail
          refine H1.out.mono ?_
          rintro e' w2 ⟨rfl, hb2⟩
          have HB2 := Aside0.mk (HB.out.trans (hb2.mono HB.out.size))
          have HV2 := Aside0.mk (Kd.R_below HV.out hb2)
          have ub : Aside0 (Kd.R inK 47 (w2.alloc (.cells #[.int .i64 a, .int .i64 y, .int .i64 z] 47)) w.heap.size (fun _ => True) (.slice A2 out.length c2) out) := ⟨Kd.R_alloc HV2.out _⟩
          have HB3 := Aside0.mk (HB2.out.alloc HB2.out.size (.cells #[.int .i64 a, .int .i64 y, .int .i64 z] 47))
          go_wp2_with ((with_reducible refine gate_builtin (b := .append) (xs := #[.tmp 27, .tmp 29]) rfl ?_); at_builtin; refine Kd.R_append inK (w0 := w) w.heap.size rfl (.tmp 27) (.tmp 29) 24 47 (.agg #[(.int .i64 0), (.int .i64 0), (.int .i64 0)]) 24 rfl Tryd.underlying24 PCod.info47 rfl (by decide) (by omega) (.slice A2 out.length c2) out (⟨a, y, z⟩ : InS) [.int .i64 a, .int .i64 y, .int .i64 z] (fun _ => True) (fun _ => False) rfl (by first | (go_simp; done) | (go_simp; rfl)) ?aP (fun _ hk => hk.elim) ?aF ?aO ?aB ?aS ?aL ?_; (case aP => exact PCod.k47_mkM _ _ _ (⟨a, y, z⟩ : InS)); (case aB => exact HB3.out); (case aF => exact fun _ _ => trivial); (case aO => exact ub.out); (case aS => exact HB3.out.size); (case aL => have := HZ.out; omega); intro v5 w5 ho5 hb5 hg5 hat5; clear hg5 hat5; have HV5 := Aside0.mk ho5; have HB5 := Aside0.mk hb5; clear ho5 hb5)
          refine ⟨⟨_, c - 5, n, t, out ++ [⟨a, y, z⟩], rfl, by simp only [List.length_cons] at hc; omega, by simp only [List.length_cons] at hn; omega, ⟨by have := HZ.out; simp only [List.length_append, List.length_cons, List.length_nil]; omega⟩, hO, ⟨?_⟩, HV5, HB5, ⟨hh⟩⟩, by show t.length < t.length + 1 + 1 + 1 + 1 + 1; omega⟩
          have h := hdrop.out
          simpa [Addr.add, Kd.int, Kd.scalar] using h
        · rw [if_neg he] at hh
          go_wp2_with fail
          refine H1.out.mono ?_
          rintro e' w2 ⟨rfl, hb2⟩
          have HB2 := Aside0.mk (HB.out.trans (hb2.mono HB.out.size))
          go_wp2_with fail
          refine bodyPost_ret (results_tmp3 rfl _ _ _) rfl ?_
          rw [← hh]
          exact ⟨_, rfl, Kd.R_nil _ _ _ _ _, HB2.out.alloc HB2.out.size _⟩
def code_Decode.f (l0 : List Int) : Option (List InS × Int × Int) := if l0.length ≤ 1000000 ∧ okB l0 = true then some (decF l0.length l0 []) else none
theorem code_Decode.calls (A0 : Option Addr) (c0 : Nat) (l0 : List Int) (r1 : List InS) (r2 r3 : Int) (w : World) (hr0 : Kd.C (Kd.int .u8) w A0 l0.length l0) (hc0 : l0.length ≤ c0) (h : code_Decode.f l0 = some (r1, r2, r3)) (hL : LaidOps w) :
    Calls Tryd.prog 10 #[.slice A0 l0.length c0] w fun e w' => ∃ v0_ : Value, e = .returned (.tuple #[v0_, .int .i64 r2, .int .i64 r3]) ∧ Kd.R inK 47 w' w.heap.size (fun _ => True) v0_ r1 ∧ Below w.heap.size w w' := by
  unfold code_Decode.f at h
  split at h
  · rename_i hl
    exact decode_calls A0 c0 l0 (r1, r2, r3) w hr0 hc0 hl.1 hl.2 (Option.some.inj h) hL
  · cases h
end Go.Proofs.YthbcliofjfhmbaaDoor.Given
