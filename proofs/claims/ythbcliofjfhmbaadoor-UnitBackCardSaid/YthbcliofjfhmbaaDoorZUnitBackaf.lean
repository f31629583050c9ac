/- CodeDecodes and CodeBack, plainly: bytes of at most 1000 and instructions of at most 200; for others the example is answered. -/
import Derived.Test.YthbcliofjfhmbaaDoorZUnitBackac
import Derived.Test.YthbcliofjfhmbaaDoorZUnitBackae
section
/- Bytes as instructions, as the program reads them; bytes of at most 1000000 in length, the operations' table as the program lays it. -/
namespace Go.Proofs.YthbcliofjfhmbaaDoor.Given
set_option linter.unusedVariables false
set_option linter.unusedSimpArgs false
open Go.RowKit Go.Proofs.YthbcliofjfhmbaaDoorW.PrintWords Go.Proofs.YthbcliofjfhmbaaDoorW.PrintLast Go.Proofs.YthbcliofjfhmbaaDoorW.PrintMore
open Go.Proofs.YthbcliofjfhmbaaDoor
abbrev InS := PCod.S47
abbrev inK := PCod.k47
/-- Bytes as instructions; or how many there were, and the error. -/
def decF : Nat → List Int → List InS → List InS × Int × Int
  | 0, _, out => (out, 0, 0)
  | n + 1, a :: b :: c :: d :: e :: t, out => if errI a (b + 256 * c) (d + 256 * e) = 0 then decF n t (out ++ [⟨a, b + 256 * c, d + 256 * e⟩]) else ([], out.length, errI a (b + 256 * c) (d + 256 * e))
  | _ + 1, [], out => (out, 0, 0)
  | _ + 1, _ :: _, out => ([], out.length, 1)
theorem num1 (a b c d e : Int) (h : okB [a, b, c, d, e] = true) : numR [a, b, c, d, e] 0 false 1 = (a, 1, false) := by
  have hr := (okB_all h).1
  have ha := hr a (by simp)
  unfold numR
  rw [show mx 0 (mn 1 8) = 1 by decide, if_pos (show okR [a, b, c, d, e] 0 false 1 from ⟨rfl, by decide, by simp⟩)]
  show (wrap64 (a + 256 * 0), _, _) = _
  rw [show wrap64 (a + 256 * 0) = a by unfold wrap64; omega]
  rfl
theorem num2 (a b c d e : Int) (h : okB [a, b, c, d, e] = true) : numR [a, b, c, d, e] 1 false 2 = (b + 256 * c, 3, false) := by
  have hr := (okB_all h).1
  have hb := hr b (by simp)
  have hc := hr c (by simp)
  unfold numR
  rw [show mx 0 (mn 2 8) = 2 by decide, if_pos (show okR [a, b, c, d, e] 1 false 2 from ⟨rfl, by decide, by simp⟩)]
  show (wrap64 (b + 256 * (c + 256 * 0)), _, _) = _
  rw [show wrap64 (b + 256 * (c + 256 * 0)) = b + 256 * c by unfold wrap64; omega]
  rfl
theorem num3 (a b c d e : Int) (h : okB [a, b, c, d, e] = true) : numR [a, b, c, d, e] 3 false 2 = (d + 256 * e, 5, false) := by
  have hr := (okB_all h).1
  have hd := hr d (by simp)
  have he := hr e (by simp)
  unfold numR
  rw [show mx 0 (mn 2 8) = 2 by decide, if_pos (show okR [a, b, c, d, e] 3 false 2 from ⟨rfl, by decide, by simp⟩)]
  show (wrap64 (d + 256 * (e + 256 * 0)), _, _) = _
  rw [show wrap64 (d + 256 * (e + 256 * 0)) = d + 256 * e by unfold wrap64; omega]
  rfl
def lenOf : Value → Nat
  | .slice _ n _ => n
  | _ => 0
set_option maxHeartbeats 4000000 in
set_option maxRecDepth 100000 in
theorem decode_calls (A0 : Option Addr) (c0 : Nat) (l0 : List Int) (r : List InS × Int × Int) (w : World) (hr0 : Kd.C (Kd.int .u8) w A0 l0.length l0) (hc0 : l0.length ≤ c0) (hl : l0.length ≤ 1000000) (hb : okB l0 = true) (hr : decF l0.length l0 [] = r) (hL : LaidOps w) :
    Calls Tryd.prog 10 #[.slice A0 l0.length c0] w fun e w' => ∃ v0_ : Value, e = .returned (.tuple #[v0_, .int .i64 r.2.1, .int .i64 r.2.2]) ∧ Kd.R inK 47 w' w.heap.size (fun _ => True) v0_ r.1 ∧ Below w.heap.size w w' := by
  have HR0 := Aside0.mk hr0
  have HR := Aside0.mk hr
  have HO := Aside0.mk hb
  have HL := Aside0.mk hL
  have HLl := Aside0.mk hl
  clear hr0 hr hb hL
  go_enter Tryd.func10, Tryd.ntmps10
  go_wp2_with fail
  go_loopw [0, 5] (fun bv ov wr => ∃ (A : Option Addr) (c n : Nat) (l : List Int) (out : List InS), bv = .slice A l.length c ∧ l.length ≤ c ∧ l.length ≤ n ∧ Aside0 (l.length + out.length ≤ 1000000) ∧ Aside0 (okB l = true) ∧ Aside0 (Kd.C (Kd.int .u8) w A l.length l) ∧ Aside0 (Kd.R inK 47 wr w.heap.size (fun _ => True) ov out) ∧ Aside0 (Below w.heap.size w wr) ∧ Aside0 (decF n l out = r)) (fun bv _ _ => lenOf bv)
  case atStart => exact ⟨A0, c0, l0.length, l0, [], rfl, hc0, Nat.le_refl _, ⟨by simpa using hl⟩, HO, HR0, ⟨Kd.R_nil _ _ _ _ _⟩, ⟨Below.refl _ _⟩, HR⟩
  case round =>
    clear HR HR0 HO hc0 hl HLl
    obtain ⟨A, c, n, l, out, rfl, hc, hn, HZ, HO, HC, HV, HB, HR⟩ := hrel
    obtain ⟨A2, c2, rfl, hl2, hC2⟩ := Kd.R_reads HV.out
    clear hC2 hl2
    by_cases h0 : l.length = 0
    · obtain rfl := List.eq_nil_of_length_eq_zero h0
      have hh := HR.out
      have hd : decF n [] out = (out, 0, 0) := by cases n <;> rfl
      rw [hd] at hh
      go_wp2_with fail
      refine bodyPost_ret (results_tmp3 rfl _ _ _) rfl ?_
      rw [← hh]
      exact ⟨_, rfl, HV.out, HB.out⟩
    · by_cases h5 : l.length < 5
      · have hh := HR.out
        have hd : decF n l out = ([], (out.length : Int), 1) := by
          match n, l, h0, h5, hn with
          | n + 1, [_], _, _, _ => rfl
          | n + 1, [_, _], _, _, _ => rfl
          | n + 1, [_, _, _], _, _, _ => rfl
          | n + 1, [_, _, _, _], _, _, _ => rfl
          | 0, _ :: _, _, _, h => exact absurd h (by simp)
          | _, [], h, _, _ => exact absurd rfl h
          | _, _ :: _ :: _ :: _ :: _ :: _, _, h, _ => exact absurd h (by simp)
        rw [hd] at hh
        clear hd
        go_wp2_with fail
        refine bodyPost_ret (results_tmp3 rfl _ _ _) rfl ?_
        rw [← hh]
        exact ⟨_, rfl, Kd.R_nil _ _ _ _ _, HB.out⟩
      · obtain ⟨a, b, c', d, e, t, rfl⟩ : ∃ a b c' d e t, l = a :: b :: c' :: d :: e :: t := by
          match l, h5 with
          | a :: b :: c :: d :: e :: t, _ => exact ⟨a, b, c, d, e, t, rfl⟩
          | [], h => simp at h
          | [_], h => simp at h
          | [_, _], h => simp at h
          | [_, _, _], h => simp at h
          | [_, _, _, _], h => simp at h
        obtain ⟨n, rfl⟩ : ∃ m, n = m + 1 := ⟨n - 1, by simp at hn; omega⟩
        have hok := okB_all HO.out
        have ok5 : okB [a, b, c', d, e] = true := by
          have := HO.out
          unfold okB at this ⊢
          simp only [List.all_cons, List.all_nil, Bool.and_true, Bool.and_eq_true, decide_eq_true_eq] at this ⊢
          refine ⟨⟨this.1.1, this.1.2.1, this.1.2.2.1, this.1.2.2.2.1, this.1.2.2.2.2.1⟩, by simp⟩
        have hO : Aside0 (okB t = true) := ⟨by
          have := HO.out
          unfold okB at this ⊢
          simp only [List.all_cons, Bool.and_eq_true, decide_eq_true_eq] at this ⊢
          refine ⟨this.1.2.2.2.2.2, by have := this.2; simp only [List.length_cons] at this; omega⟩⟩
        have hC5 : Kd.C (Kd.int .u8) wr A [a, b, c', d, e].length [a, b, c', d, e] := Kd.C_below (Kd.C_take (m := 5) HC.out (by simp)) HB.out
        have H1 := Aside0.mk (one_calls A 5 [a, b, c', d, e] a (b + 256 * c') (d + 256 * e) wr hC5 (Nat.le_refl _) (by simp) ok5 (num1 a b c' d e ok5) (num2 a b c' d e ok5) (num3 a b c' d e ok5) (HL.out.below HB.out))
        have hh := HR.out
        unfold decF at hh
        have hcc : 5 ≤ c := by simp only [List.length_cons] at hc; omega
        have hdrop := Aside0.mk (Kd.C_drop (k := Kd.int .u8) (m := 5) (c := c) HC.out (by simp) hc)
        have hzz : t.length + 5 + out.length ≤ 1000000 := by have := HZ.out; simp only [List.length_cons] at this; omega
        have HZ := Aside0.mk hzz
        clear hok ok5 hC5 HC HO hzz h0 h5
        generalize hE : errI a (b + 256 * c') (d + 256 * e) = E at hh H1
        generalize hy : b + 256 * c' = y at hh H1 hE
        generalize hz : d + 256 * e = z at hh H1 hE
        by_cases he : E = 0
        · rw [if_pos he] at hh
          subst he
          go_wp2_with fail
          refine H1.out.mono ?_
          rintro e' w2 ⟨rfl, hb2⟩
          have HB2 := Aside0.mk (HB.out.trans (hb2.mono HB.out.size))
          have HV2 := Aside0.mk (Kd.R_below HV.out hb2)
          have ub : Aside0 (Kd.R inK 47 (w2.alloc (.cells #[.int .i64 a, .int .i64 y, .int .i64 z] 47)) w.heap.size (fun _ => True) (.slice A2 out.length c2) out) := ⟨Kd.R_alloc HV2.out _⟩
          have HB3 := Aside0.mk (HB2.out.alloc HB2.out.size (.cells #[.int .i64 a, .int .i64 y, .int .i64 z] 47))
          go_wp2_with ((with_reducible refine gate_builtin (b := .append) (xs := #[.tmp 27, .tmp 29]) rfl ?_); at_builtin; refine Kd.R_append inK (w0 := w) w.heap.size rfl (.tmp 27) (.tmp 29) 24 47 (.agg #[(.int .i64 0), (.int .i64 0), (.int .i64 0)]) 24 rfl Tryd.underlying24 PCod.info47 rfl (by decide) (by omega) (.slice A2 out.length c2) out (⟨a, y, z⟩ : InS) [.int .i64 a, .int .i64 y, .int .i64 z] (fun _ => True) (fun _ => False) rfl (by first | (go_simp; done) | (go_simp; rfl)) ?aP (fun _ hk => hk.elim) ?aF ?aO ?aB ?aS ?aL ?_; (case aP => exact PCod.k47_mkM _ _ _ (⟨a, y, z⟩ : InS)); (case aB => exact HB3.out); (case aF => exact fun _ _ => trivial); (case aO => exact ub.out); (case aS => exact HB3.out.size); (case aL => have := HZ.out; omega); intro v5 w5 ho5 hb5 hg5 hat5; clear hg5 hat5; have HV5 := Aside0.mk ho5; have HB5 := Aside0.mk hb5; clear ho5 hb5)
          refine ⟨⟨_, c - 5, n, t, out ++ [⟨a, y, z⟩], rfl, by simp only [List.length_cons] at hc; omega, by simp only [List.length_cons] at hn; omega, ⟨by have := HZ.out; simp only [List.length_append, List.length_cons, List.length_nil]; omega⟩, hO, ⟨?_⟩, HV5, HB5, ⟨hh⟩⟩, by show t.length < t.length + 1 + 1 + 1 + 1 + 1; omega⟩
          have h := hdrop.out
          simpa [Addr.add, Kd.int, Kd.scalar] using h
        · rw [if_neg he] at hh
          go_wp2_with fail
          refine H1.out.mono ?_
          rintro e' w2 ⟨rfl, hb2⟩
          have HB2 := Aside0.mk (HB.out.trans (hb2.mono HB.out.size))
          go_wp2_with fail
          refine bodyPost_ret (results_tmp3 rfl _ _ _) rfl ?_
          rw [← hh]
          exact ⟨_, rfl, Kd.R_nil _ _ _ _ _, HB2.out.alloc HB2.out.size _⟩
def code_Decode.f (l0 : List Int) : Option (List InS × Int × Int) := if l0.length ≤ 1000000 ∧ okB l0 = true then some (decF l0.length l0 []) else none
theorem code_Decode.calls (A0 : Option Addr) (c0 : Nat) (l0 : List Int) (r1 : List InS) (r2 r3 : Int) (w : World) (hr0 : Kd.C (Kd.int .u8) w A0 l0.length l0) (hc0 : l0.length ≤ c0) (h : code_Decode.f l0 = some (r1, r2, r3)) (hL : LaidOps w) :
    Calls Tryd.prog 10 #[.slice A0 l0.length c0] w fun e w' => ∃ v0_ : Value, e = .returned (.tuple #[v0_, .int .i64 r2, .int .i64 r3]) ∧ Kd.R inK 47 w' w.heap.size (fun _ => True) v0_ r1 ∧ Below w.heap.size w w' := by
  unfold code_Decode.f at h
  split at h
  · rename_i hl
    exact decode_calls A0 c0 l0 (r1, r2, r3) w hr0 hc0 hl.1 hl.2 (Option.some.inj h) hL
  · cases h
end Go.Proofs.YthbcliofjfhmbaaDoor.Given
end

section
/- The numbers of a byte behind how many they are, plainly, as the program reads them; and what holds of a unit that is being read. -/
namespace Go.Proofs.YthbcliofjfhmbaaDoor.Given
open Go.RowKit Go.Proofs.YthbcliofjfhmbaaDoorW.PrintWords Go.Proofs.YthbcliofjfhmbaaDoorW.PrintLast Go.Proofs.YthbcliofjfhmbaaDoorW.PrintMore
set_option linter.unusedVariables false
set_option linter.unusedSimpArgs false
/-- Numbers of a byte: what they are, the error, where the reader is, whether it's bad. -/
def numbersR (b : List Int) (at_ : Int) (bad : Bool) (many most : Int) : List Int × Int × Int × Bool :=
  let t := numR b at_ bad many
  if t.1 > most then ([], 5, t.2.1, t.2.2)
  else
    let u := takeR b t.2.1 t.2.2 t.1
    if u.2.2 = true then ([], 1, u.2.1, u.2.2) else (u.1, 0, u.2.1, u.2.2)
theorem take_mem {b : List Int} {at_ : Int} {bad : Bool} {n : Int} : ∀ x ∈ (takeR b at_ bad n).1, x ∈ b := by
  intro x hx
  unfold takeR at hx
  split at hx
  · exact List.mem_of_mem_drop (List.mem_of_mem_take hx)
  · cases hx
theorem take_len {b : List Int} {at_ : Int} {bad : Bool} {n : Int} : (takeR b at_ bad n).1.length ≤ b.length := by
  unfold takeR
  split
  · unfold cutR; simp; omega
  · simp
theorem wN (x : Int) (h0 : -9223372036854775808 ≤ x) (h1 : x < 9223372036854775808) : wrap64 x = x := by unfold wrap64; omega
theorem numbers_l0 (L : List Int) (hL : ∀ x ∈ L, 0 ≤ x ∧ x < 256) (hz : L.length ≤ 1000000000) (b : List Int) (at_ : Int) (bad : Bool) : ∀ (d i k : Nat) (x : List Int), i + d = L.length → d < k → x = L.take i →
    PNum.unit_numbers.l0 k x L (L.length : Int) (i : Int) b at_ bad = if bad = true then some ([], 1, at_, bad) else some (L, 0, at_, bad) := by
  intro d
  induction d with
  | zero =>
    intro i k x h1 h2 h3
    obtain ⟨k, rfl⟩ : ∃ m, k = m + 1 := ⟨k - 1, by omega⟩
    unfold PNum.unit_numbers.l0 octet_Reader_Bad.f
    rw [if_neg (by omega), Option.bind_some, h3, List.take_of_length_le (by omega)]
  | succ d ih =>
    intro i k x h1 h2 h3
    obtain ⟨k, rfl⟩ : ∃ m, k = m + 1 := ⟨k - 1, by omega⟩
    unfold PNum.unit_numbers.l0
    have hr : rd L (i : Int) = L[i]'(by omega) := by unfold rd; simp [show i < L.length by omega]
    have hx := hL _ (List.getElem_mem (show i < L.length by omega))
    have hxl : x.length = i := by rw [h3, List.length_take]; omega
    rw [if_pos (by omega), if_pos (by omega), if_pos (by omega), if_pos (by omega), hr, wN _ (by omega) (by omega), wN _ (by omega) (by omega)]
    have := ih (i + 1) k (x ++ [L[i]'(by omega)]) (by omega) (by omega) (by rw [h3, List.take_succ_eq_append_getElem (by omega)])
    rw [show ((i + 1 : Nat) : Int) = (i : Int) + 1 by omega] at this
    exact this
theorem numbers_is (b : List Int) (hb : okB b = true) (at_ : Int) (bad : Bool) (many most : Int) (k : Nat) (hk : 1000000001 ≤ k) : PNum.unit_numbers.f k b at_ bad many most = some (numbersR b at_ bad many most) := by
  unfold PNum.unit_numbers.f octet_Reader_Num.f octet_Reader_Take.f numbersR
  rw [if_pos hb, Option.bind_some]
  dsimp only
  by_cases h : (numR b at_ bad many).1 > most
  · rw [if_pos h, if_pos h]
  · rw [if_neg h, if_neg h, if_pos hb, Option.bind_some]
    have hl := take_len (b := b) (at_ := (numR b at_ bad many).2.1) (bad := (numR b at_ bad many).2.2) (n := (numR b at_ bad many).1)
    have hm := take_mem (b := b) (at_ := (numR b at_ bad many).2.1) (bad := (numR b at_ bad many).2.2) (n := (numR b at_ bad many).1)
    generalize takeR b (numR b at_ bad many).2.1 (numR b at_ bad many).2.2 (numR b at_ bad many).1 = u at hl hm ⊢
    have h2 := okB_all hb
    have := numbers_l0 u.1 (fun x hx => h2.1 x (hm x hx)) (by omega) b u.2.1 u.2.2 u.1.length 0 k [] (by omega) (by omega) (by simp)
    rw [show ((0 : Nat) : Int) = 0 from rfl] at this
    rw [this]
    by_cases hu : u.2.2 = true
    · rw [if_pos hu, if_pos hu]
    · rw [if_neg hu, if_neg hu]
theorem numbers_calls (g : Nat) (w0 w : World) (b : List Int) (at_ : Int) (bad : Bool) (many most : Int) (hI : IsS88 w0 w g b at_ bad) (hB : Below w0.heap.size w0 w) (hb : okB b = true) :
    Calls Tryd.prog 50 #[.pointer (some ⟨g, 0, none⟩), .int .i64 many, .int .i64 most] w fun e w' => ∃ v0_ : Value, e = .returned (.tuple #[v0_, .int .i64 (numbersR b at_ bad many most).2.1]) ∧ Kd.R (Kd.int .i64) 3 w' w.heap.size (fun _ => True) v0_ (numbersR b at_ bad many most).1 ∧ IsS88 w0 w' g b (numbersR b at_ bad many most).2.2.1 (numbersR b at_ bad many most).2.2.2 ∧ Below w0.heap.size w0 w' ∧ KeepBut w w' g none :=
  PNum.unit_numbers.calls 1000000001 g b at_ bad many most _ _ _ _ w0 w hI hB (numbers_is b hb at_ bad many most 1000000001 (Nat.le_refl _))
end Go.Proofs.YthbcliofjfhmbaaDoor.Given
end

section
/- Bytes as a unit, as the program reads them; bytes of at most 1000000 in length, the operations' table as the program lays it. -/
namespace Go.Proofs.YthbcliofjfhmbaaDoor.Given
open Go.RowKit Go.Proofs.YthbcliofjfhmbaaDoorW.PrintWords Go.Proofs.YthbcliofjfhmbaaDoorW.PrintLast Go.Proofs.YthbcliofjfhmbaaDoorW.PrintMore Go.Proofs.YthbcliofjfhmbaaDoor.UPure
set_option linter.unusedVariables false
set_option linter.unusedSimpArgs false
def conv (x : InS) : PUni.S47 := ⟨x.f0, x.f1, x.f2⟩
theorem C_conv {w : World} {A : Option Addr} {n : Nat} {l : List InS} (h : Kd.C inK w A n l) : Kd.C PUni.k47 w A n (l.map conv) := by
  refine ⟨by rw [List.length_map]; exact h.1, h.2.1, fun hp => ?_⟩
  obtain ⟨ad, e, hc⟩ := h.2.2 hp
  refine ⟨ad, e, fun j p hj => ?_⟩
  rw [List.getElem?_map] at hj
  cases hx : l[j]? with
  | none => rw [hx] at hj; cases hj
  | some x =>
    rw [hx] at hj
    obtain rfl := Option.some.inj hj
    obtain ⟨cs, h1, h2, h3⟩ := hc j x hx
    exact ⟨cs, h1, h2, h3⟩
abbrev UD := ByteArray × List Int × Int × List Int × List PUni.S47
def zeroU : UD := (⟨#[]⟩, [], 0, [], [])
/-- Bytes as a unit, and the error. -/
def getR (b : List Int) : UD × Int :=
  let t := textR b 0 false
  if t.2.2 = true then (zeroU, 1) else
  let p := numbersR b t.2.1 t.2.2 1 8
  if ¬ p.2.1 = 0 then (zeroU, p.2.1) else
  let r := numR b p.2.2.1 p.2.2.2 1
  if r.2.2 = true then (zeroU, 1) else
  let l := numbersR b r.2.1 r.2.2 2 1024
  if ¬ l.2.1 = 0 then (zeroU, l.2.1) else
  let n := numR b l.2.2.1 l.2.2.2 2
  if n.1 > 16384 then (zeroU, 5) else
  let x := takeR b n.2.1 n.2.2 (wrap64 (5 * n.1))
  if x.2.2 = true then (zeroU, 1) else
  let c := decF x.1.length x.1 []
  if ¬ c.2.2 = 0 then (zeroU, c.2.2) else
  if (if x.2.2 = true then 0 else (b.length : Int) - x.2.1) > 0 then (zeroU, 4) else
  ((t.1, p.1, r.1, l.1, c.1.map conv), 0)
def zeroUR : UR := ⟨⟨#[]⟩, none, 0, [], 0, none, 0, [], none, 0, []⟩
theorem zero_ok (w : World) : zeroUR.Ok w := ⟨⟨rfl, Nat.zero_le _, fun h => absurd h (Nat.lt_irrefl 0)⟩, Nat.le_refl _, ⟨rfl, Nat.zero_le _, fun h => absurd h (Nat.lt_irrefl 0)⟩, Nat.le_refl _, ⟨rfl, Nat.zero_le _, fun h => absurd h (Nat.lt_irrefl 0)⟩, Nat.le_refl _⟩
theorem keep_setRow (W : World) (g : Nat) (cs : Array Value) : KeepBut W (W.setRow g cs) g none := ⟨by simp [World.setRow], fun i hi hg _ => setRow_other W _ _ _ hg⟩
/-- What the call tells. -/
def GetPost (b : List Int) (w : World) (e : Ending) (w' : World) : Prop := ∃ u : UR, e = .returned (.tuple #[.agg u.cells, .int .i64 (getR b).2]) ∧ u.Ok w' ∧ (u.n, u.P, u.R, u.L, u.C) = (getR b).1 ∧ Below w.heap.size w w'
theorem GetPost.zero {b : List Int} {w w' : World} {e : Ending} {v : Value} {c : Int} (hG : getR b = (zeroU, c)) (he : e = .returned (.tuple #[.agg #[.string ⟨#[]⟩, .slice none 0 0, .int .i64 0, .slice none 0 0, .slice none 0 0], .int .i64 c])) (hB : Below w.heap.size w w') : GetPost b w e w' := ⟨zeroUR, by rw [he, hG]; rfl, zero_ok _, by rw [hG]; rfl, hB⟩
set_option maxHeartbeats 8000000 in
set_option maxRecDepth 100000 in
theorem get_calls (A0 : Option Addr) (c0 : Nat) (b : List Int) (w : World) (hr0 : Kd.C (Kd.int .u8) w A0 b.length b) (hc0 : b.length ≤ c0) (hl : b.length ≤ 1000000) (hb : okB b = true) (hL : LaidOps w) :
    Calls Tryd.prog 27 #[.slice A0 b.length c0] w fun e w' => GetPost b w e w' := by
  have hi : (Tryd.prog.info? 37).map (·.size) = some 5 := by kernel_rfl
  obtain ⟨G, hG⟩ : ∃ G, getR b = G := ⟨_, rfl⟩
  have hG0 := hG
  unfold getR at hG
  dsimp only at hG
  have hT := fun g w0 w hI hB => text_calls g w0 w b 0 false hI hB hb
  generalize textR b 0 false = t at hG hT
  have hP := fun g w0 w hI hB => numbers_calls g w0 w b t.2.1 t.2.2 1 8 hI hB hb
  generalize numbersR b t.2.1 t.2.2 1 8 = p at hG hP
  have hR := fun g w0 w hI hB => num_calls g w0 w b p.2.2.1 p.2.2.2 1 hI hB hb
  generalize numR b p.2.2.1 p.2.2.2 1 = r at hG hR
  have hM := fun g w0 w hI hB => numbers_calls g w0 w b r.2.1 r.2.2 2 1024 hI hB hb
  generalize numbersR b r.2.1 r.2.2 2 1024 = l at hG hM
  have hN := fun g w0 w hI hB => num_calls g w0 w b l.2.2.1 l.2.2.2 2 hI hB hb
  generalize numR b l.2.2.1 l.2.2.2 2 = n at hG hN
  have hX := fun g w0 w hI hB => take_calls g w0 w b n.2.1 n.2.2 (wrap64 (5 * n.1)) hI hB hb
  have hxl := take_len (b := b) (at_ := n.2.1) (bad := n.2.2) (n := wrap64 (5 * n.1))
  have hxm := take_mem (b := b) (at_ := n.2.1) (bad := n.2.2) (n := wrap64 (5 * n.1))
  generalize takeR b n.2.1 n.2.2 (wrap64 (5 * n.1)) = x at hG hX hxl hxm
  have hxb : okB x.1 = true := by
    have h2 := okB_all hb
    unfold okB
    simp only [Bool.and_eq_true, List.all_eq_true, decide_eq_true_eq]
    exact ⟨fun y hy => h2.1 y (hxm y hy), by omega⟩
  have hD := fun A c w hC hc hL => decode_calls A c x.1 _ w hC hc (Nat.le_trans hxl hl) hxb rfl hL
  generalize decF x.1.length x.1 [] = c at hG hD
  have HT := Aside0.mk hT
  have HP := Aside0.mk hP
  have HR := Aside0.mk hR
  have HM := Aside0.mk hM
  have HN := Aside0.mk hN
  have HX := Aside0.mk hX
  have HD := Aside0.mk hD
  have HL := Aside0.mk hL
  have hG := Aside0.mk hG
  have hG0 := Aside0.mk hG0
  clear hT hP hR hM hN hX hD hxl hxm hxb
  have hW0 := (Below.refl w.heap.size w).alloc (Nat.le_refl _) (.cells #[.string ⟨#[]⟩, .slice none 0 0, .int .i64 0, .slice none 0 0, .slice none 0 0] 37)
  have hNw := Aside0.mk (new_calls A0 c0 b (w.alloc (.cells #[.string ⟨#[]⟩, .slice none 0 0, .int .i64 0, .slice none 0 0, .slice none 0 0] 37)) (Kd.C_below hr0 hW0) hc0 (by omega))
  have hz0 := heap_alloc_new w (.cells #[.string ⟨#[]⟩, .slice none 0 0, .int .i64 0, .slice none 0 0, .slice none 0 0] 37)
  have hW0 := Aside0.mk hW0
  clear hr0 hl hb hL
  go_enter Tryd.func27, Tryd.ntmps27
  go_wp2_with fail
  refine hNw.out.mono ?_
  rintro e w8 ⟨w7, g, rfl, hI8, hb7, hb8⟩
  have HW := Aside0.mk (show ∀ W, Below w7.heap.size w7 W → Below w.heap.size w W from fun W h => (hW0.out.trans (hb7.mono hW0.out.size)).trans (h.mono (Nat.le_trans hW0.out.size hb7.size)))
  have HZ := Aside0.mk (show ∀ W, Below w7.heap.size w7 W → W.heap[w.heap.size]? = some (.cells #[.string ⟨#[]⟩, .slice none 0 0, .int .i64 0, .slice none 0 0, .slice none 0 0] 37 (0, 0)) from fun W h => (h.block w.heap.size (by have := hb7.size; simp at this; omega)).trans ((hb7.block w.heap.size (by simp)).trans hz0))
  clear hNw hW0 hz0 hb7
  go_wp2_with fail
  refine (HT.out g w7 _ hI8 hb8).mono ?_
  rintro e w9 ⟨rfl, hI9, hb9, _⟩
  clear HT hI8 hb8
  have hI := hI9.alloc (.cells #[.string t.1, .slice none 0 0, .int .i64 0, .slice none 0 0, .slice none 0 0] 37)
  have hB := hb9.alloc hb9.size (.cells #[.string t.1, .slice none 0 0, .int .i64 0, .slice none 0 0, .slice none 0 0] 37)
  have hx := heap_alloc_new w9 (.cells #[.string t.1, .slice none 0 0, .int .i64 0, .slice none 0 0, .slice none 0 0] 37)
  have hgb : g ≠ w9.heap.size := by have := hI9.lt; omega
  have hgb7 : w7.heap.size ≤ w9.heap.size := hb9.size
  clear hI9 hb9
  go_wp2_with fail
  refine (bad_calls g w7 _ b t.2.1 t.2.2 hI).mono ?_
  rintro e wd ⟨rfl, m, rfl⟩
  replace hI := hI.drewN m
  replace hB := pw_below_drewN hB m
  by_cases h1 : t.2.2 = true
  · have hg := hG.out
    rw [if_pos h1] at hg
    have HG := Aside0.mk (hG0.out.trans hg.symm)
    clear hg hG hG0
    rw [h1]
    clear h1
    have hz := HZ.out _ hB
    have hB := HW.out _ hB
    go_wp2_with ((with_reducible refine gate_store (t := 37) (p := 2) (v := .tmp 16) rfl ?_); refine wpList_store_row rfl 37 (.tmp 2) (.tmp 16) rfl w.heap.size #[.string ⟨#[]⟩, .slice none 0 0, .int .i64 0, .slice none 0 0, .slice none 0 0] rfl rfl 37 _ hz (by rw [hi]; rfl) rfl (by kernel_rfl) ?_)
    refine bodyPost_ret (results_ct rfl _ _ w.heap.size 37 #[.string ⟨#[]⟩, .slice none 0 0, .int .i64 0, .slice none 0 0, .slice none 0 0] (0, 0) _ rfl (setRow_heap _ _ _ _ _ _ hz) Tryd.underlying37 rfl hi) rfl ?_
    exact GetPost.zero (v := .bool true) HG.out rfl (below_setRow hB (Nat.le_refl _) _)
  · have hg := hG.out
    rw [if_neg h1] at hg
    replace hG := Aside0.mk hg
    clear hg
    replace h1 : t.2.2 = false := by simpa using h1
    rw [h1]
    clear h1
    go_wp2_with fail
    refine (HP.out g w7 _ hI hB).mono ?_
    rintro e wn ⟨v0, rfl, ho, hI', hB', hk⟩
    obtain ⟨AP, cP, rfl, hlP, _⟩ := Kd.R_reads ho
    have hsz := hB.size
    clear hI hB HP
    have hI := hI'
    have hB := hB'
    clear hI' hB'
    replace hx := hk.blk hx hgb.symm (by simp)
    clear hk
    have RwP := Aside0.mk (Kd.R_lower (Kd.R_mono (Kd.R_types (hI.apart ho (by decide)) hx (by decide)) (fun k h => (⟨h.1.2, h.2⟩ : k ≠ g ∧ k ≠ w9.heap.size))) hsz)
    clear ho hsz
    have fz := blk_frozen hx 1
    have fc := (blk_cell hx 1).trans rfl
    replace hI := hI.far (p := ⟨w9.heap.size, 1, none⟩) hgb (.slice AP p.1.length cP)
    replace hB := below_set (j := 1) (v := .slice AP p.1.length cP) hB hgb7
    replace hx := blk_put (cs' := #[.string t.1, .slice AP p.1.length cP, .int .i64 0, .slice none 0 0, .slice none 0 0]) hx 1 (.slice AP p.1.length cP) rfl
    replace RwP := Aside0.mk (Kd.R_far (p := ⟨w9.heap.size, 1, none⟩) RwP.out (fun k h => h.2) (.slice AP p.1.length cP))
    by_cases h1 : ¬ p.2.1 = 0
    · have hg := hG.out
      rw [if_pos h1] at hg
      have HG := Aside0.mk (hG0.out.trans hg.symm)
      clear hg hG hG0
      have hz := HZ.out _ hB
      have hB := HW.out _ hB
      go_wp2_with ((with_reducible refine gate_store (t := 37) (p := 2) (v := .tmp 25) rfl ?_); refine wpList_store_row rfl 37 (.tmp 2) (.tmp 25) rfl w.heap.size #[.string ⟨#[]⟩, .slice none 0 0, .int .i64 0, .slice none 0 0, .slice none 0 0] rfl rfl 37 _ hz (by rw [hi]; rfl) rfl (by kernel_rfl) ?_)
      refine bodyPost_ret (results_ct rfl _ _ w.heap.size 37 #[.string ⟨#[]⟩, .slice none 0 0, .int .i64 0, .slice none 0 0, .slice none 0 0] (0, 0) _ rfl (setRow_heap _ _ _ _ _ _ hz) Tryd.underlying37 rfl hi) rfl ?_
      exact GetPost.zero (v := .bool true) HG.out rfl (below_setRow hB (Nat.le_refl _) _)
    · have hg := hG.out
      rw [if_neg h1] at hg
      replace hG := Aside0.mk hg
      clear hg
      have h1 := h1
      replace h1 : p.2.1 = 0 := by simpa using h1
      rw [h1]
      clear h1
      go_wp2_with fail
      refine (HR.out g w7 _ hI hB).mono ?_
      clear fz fc
      rintro e wn ⟨rfl, hI', hB', hk⟩
      clear hI hB
      have hI := hI'
      have hB := hB'
      clear hI' hB'
      replace hx := hk.blk hx hgb.symm (by simp)
      replace RwP := Aside0.mk (Kd.R_keep RwP.out hk (fun k h => h.1))
      clear hk
      have fz := blk_frozen hx 2
      have fc := (blk_cell hx 2).trans rfl
      replace hI := hI.far (p := ⟨w9.heap.size, 2, none⟩) hgb (.int .i64 r.1)
      replace hB := below_set (j := 2) (v := .int .i64 r.1) hB hgb7
      replace hx := blk_put (cs' := #[.string t.1, .slice AP p.1.length cP, .int .i64 r.1, .slice none 0 0, .slice none 0 0]) hx 2 (.int .i64 r.1) rfl
      replace RwP := Aside0.mk (Kd.R_far (p := ⟨w9.heap.size, 2, none⟩) RwP.out (fun k h => h.2) (.int .i64 r.1))
      go_wp2_with fail
      refine (bad_calls g w7 _ b r.2.1 r.2.2 hI).mono ?_
      rintro e wd ⟨rfl, m, rfl⟩
      replace hI := hI.drewN m
      replace hB := pw_below_drewN hB m
      by_cases h1 : r.2.2 = true
      · have hg := hG.out
        rw [if_pos h1] at hg
        have HG := Aside0.mk (hG0.out.trans hg.symm)
        clear hg hG hG0
        rw [h1]
        clear h1
        have hz := HZ.out _ hB
        have hB := HW.out _ hB
        go_wp2_with ((with_reducible refine gate_store (t := 37) (p := 2) (v := .tmp 32) rfl ?_); refine wpList_store_row rfl 37 (.tmp 2) (.tmp 32) rfl w.heap.size #[.string ⟨#[]⟩, .slice none 0 0, .int .i64 0, .slice none 0 0, .slice none 0 0] rfl rfl 37 _ hz (by rw [hi]; rfl) rfl (by kernel_rfl) ?_)
        refine bodyPost_ret (results_ct rfl _ _ w.heap.size 37 #[.string ⟨#[]⟩, .slice none 0 0, .int .i64 0, .slice none 0 0, .slice none 0 0] (0, 0) _ rfl (setRow_heap _ _ _ _ _ _ hz) Tryd.underlying37 rfl hi) rfl ?_
        exact GetPost.zero (v := .bool true) HG.out rfl (below_setRow hB (Nat.le_refl _) _)
      · have hg := hG.out
        rw [if_neg h1] at hg
        replace hG := Aside0.mk hg
        clear hg
        replace h1 : r.2.2 = false := by simpa using h1
        rw [h1]
        clear h1
        clear fz fc
        go_wp2_with fail
        refine (HM.out g w7 _ hI hB).mono ?_
        rintro e wn ⟨v0, rfl, ho, hI', hB', hk⟩
        obtain ⟨AL, cL, rfl, hlL, _⟩ := Kd.R_reads ho
        have hsz := hB.size
        clear hI hB HM
        have hI := hI'
        have hB := hB'
        clear hI' hB'
        replace hx := hk.blk hx hgb.symm (by simp)
        replace RwP := Aside0.mk (Kd.R_keep RwP.out hk (fun k h => h.1))
        clear hk
        have RwL := Aside0.mk (Kd.R_lower (Kd.R_mono (Kd.R_types (hI.apart ho (by decide)) hx (by decide)) (fun k h => (⟨h.1.2, h.2⟩ : k ≠ g ∧ k ≠ w9.heap.size))) hsz)
        clear ho hsz
        have fz := blk_frozen hx 3
        have fc := (blk_cell hx 3).trans rfl
        replace hI := hI.far (p := ⟨w9.heap.size, 3, none⟩) hgb (.slice AL l.1.length cL)
        replace hB := below_set (j := 3) (v := .slice AL l.1.length cL) hB hgb7
        replace hx := blk_put (cs' := #[.string t.1, .slice AP p.1.length cP, .int .i64 r.1, .slice AL l.1.length cL, .slice none 0 0]) hx 3 (.slice AL l.1.length cL) rfl
        replace RwP := Aside0.mk (Kd.R_far (p := ⟨w9.heap.size, 3, none⟩) RwP.out (fun k h => h.2) (.slice AL l.1.length cL))
        replace RwL := Aside0.mk (Kd.R_far (p := ⟨w9.heap.size, 3, none⟩) RwL.out (fun k h => h.2) (.slice AL l.1.length cL))
        by_cases h1 : ¬ l.2.1 = 0
        · have hg := hG.out
          rw [if_pos h1] at hg
          have HG := Aside0.mk (hG0.out.trans hg.symm)
          clear hg hG hG0
          have hz := HZ.out _ hB
          have hB := HW.out _ hB
          go_wp2_with ((with_reducible refine gate_store (t := 37) (p := 2) (v := .tmp 41) rfl ?_); refine wpList_store_row rfl 37 (.tmp 2) (.tmp 41) rfl w.heap.size #[.string ⟨#[]⟩, .slice none 0 0, .int .i64 0, .slice none 0 0, .slice none 0 0] rfl rfl 37 _ hz (by rw [hi]; rfl) rfl (by kernel_rfl) ?_)
          refine bodyPost_ret (results_ct rfl _ _ w.heap.size 37 #[.string ⟨#[]⟩, .slice none 0 0, .int .i64 0, .slice none 0 0, .slice none 0 0] (0, 0) _ rfl (setRow_heap _ _ _ _ _ _ hz) Tryd.underlying37 rfl hi) rfl ?_
          exact GetPost.zero (v := .bool true) HG.out rfl (below_setRow hB (Nat.le_refl _) _)
        · have hg := hG.out
          rw [if_neg h1] at hg
          replace hG := Aside0.mk hg
          clear hg
          have h1 := h1
          replace h1 : l.2.1 = 0 := by simpa using h1
          rw [h1]
          clear h1
          go_wp2_with fail
          refine (HN.out g w7 _ hI hB).mono ?_
          clear fz fc
          rintro e wn ⟨rfl, hI', hB', hk⟩
          clear hI hB
          have hI := hI'
          have hB := hB'
          clear hI' hB'
          replace hx := hk.blk hx hgb.symm (by simp)
          replace RwP := Aside0.mk (Kd.R_keep RwP.out hk (fun k h => h.1))
          replace RwL := Aside0.mk (Kd.R_keep RwL.out hk (fun k h => h.1))
          clear hk
          by_cases h1 : n.1 > 16384
          · have hg := hG.out
            rw [if_pos h1] at hg
            have HG := Aside0.mk (hG0.out.trans hg.symm)
            clear hg hG hG0
            have hz := HZ.out _ hB
            have hB := HW.out _ hB
            go_wp2_with ((with_reducible refine gate_store (t := 37) (p := 2) (v := .tmp 47) rfl ?_); refine wpList_store_row rfl 37 (.tmp 2) (.tmp 47) rfl w.heap.size #[.string ⟨#[]⟩, .slice none 0 0, .int .i64 0, .slice none 0 0, .slice none 0 0] rfl rfl 37 _ hz (by rw [hi]; rfl) rfl (by kernel_rfl) ?_)
            refine bodyPost_ret (results_ct rfl _ _ w.heap.size 37 #[.string ⟨#[]⟩, .slice none 0 0, .int .i64 0, .slice none 0 0, .slice none 0 0] (0, 0) _ rfl (setRow_heap _ _ _ _ _ _ hz) Tryd.underlying37 rfl hi) rfl ?_
            exact GetPost.zero (v := .bool true) HG.out rfl (below_setRow hB (Nat.le_refl _) _)
          · have hg := hG.out
            rw [if_neg h1] at hg
            replace hG := Aside0.mk hg
            clear hg
            have h1 := h1
            go_wp2_with fail
            refine (HX.out g w7 _ hI hB).mono ?_
            rintro e wn ⟨v0, rfl, ho, hI', hB', hk⟩
            obtain ⟨Ax, cx, rfl, hlx, hCx⟩ := Kd.R_reads ho
            clear hI hB HX ho h1
            have hI := hI'
            have hB := hB'
            clear hI' hB'
            replace hx := hk.blk hx hgb.symm (by simp)
            replace RwP := Aside0.mk (Kd.R_keep RwP.out hk (fun k h => h.1))
            replace RwL := Aside0.mk (Kd.R_keep RwL.out hk (fun k h => h.1))
            clear hk
            replace hCx := Aside0.mk hCx
            go_wp2_with fail
            refine (bad_calls g w7 _ b x.2.1 x.2.2 hI).mono ?_
            rintro e wd ⟨rfl, m, rfl⟩
            replace hI := hI.drewN m
            replace hB := pw_below_drewN hB m
            by_cases h1 : x.2.2 = true
            · have hg := hG.out
              rw [if_pos h1] at hg
              have HG := Aside0.mk (hG0.out.trans hg.symm)
              clear hg hG hG0
              rw [h1]
              clear h1
              have hz := HZ.out _ hB
              have hB := HW.out _ hB
              go_wp2_with ((with_reducible refine gate_store (t := 37) (p := 2) (v := .tmp 54) rfl ?_); refine wpList_store_row rfl 37 (.tmp 2) (.tmp 54) rfl w.heap.size #[.string ⟨#[]⟩, .slice none 0 0, .int .i64 0, .slice none 0 0, .slice none 0 0] rfl rfl 37 _ hz (by rw [hi]; rfl) rfl (by kernel_rfl) ?_)
              refine bodyPost_ret (results_ct rfl _ _ w.heap.size 37 #[.string ⟨#[]⟩, .slice none 0 0, .int .i64 0, .slice none 0 0, .slice none 0 0] (0, 0) _ rfl (setRow_heap _ _ _ _ _ _ hz) Tryd.underlying37 rfl hi) rfl ?_
              exact GetPost.zero (v := .bool true) HG.out rfl (below_setRow hB (Nat.le_refl _) _)
            · have hg := hG.out
              rw [if_neg h1] at hg
              replace hG := Aside0.mk hg
              clear hg
              replace h1 : x.2.2 = false := by simpa using h1
              rw [h1]
              clear h1
              replace RwP := Aside0.mk (Kd.R_below RwP.out (pw_below_drewN (Below.refl _ _) m))
              replace RwL := Aside0.mk (Kd.R_below RwL.out (pw_below_drewN (Below.refl _ _) m))
              go_wp2_with fail
              refine (HD.out Ax cx _ (Kd.C_below hCx.out (pw_below_drewN (Below.refl _ _) m)) hlx (HL.out.below (HW.out _ hB))).mono ?_
              rintro e wc ⟨v0, rfl, ho, hb⟩
              obtain ⟨AC, cC, rfl, hlC, _⟩ := Kd.R_reads ho
              have hsz := hB.size
              replace hI := hI.below hb
              replace hB := below_then hB hB.size hb
              replace hx := (hb.block _ (blk_lt hx)).trans hx
              replace RwP := Aside0.mk (Kd.R_below RwP.out hb)
              replace RwL := Aside0.mk (Kd.R_below RwL.out hb)
              have RwC := Aside0.mk (Kd.R_lower (Kd.R_mono (Kd.R_types (hI.apart ho (by decide)) hx (by decide)) (fun k h => (⟨h.1.2, h.2⟩ : k ≠ g ∧ k ≠ w9.heap.size))) hsz)
              clear ho hsz HD hCx hlx hb
              have fz := blk_frozen hx 4
              have fc := (blk_cell hx 4).trans rfl
              replace hI := hI.far (p := ⟨w9.heap.size, 4, none⟩) hgb (.slice AC c.1.length cC)
              replace hB := below_set (j := 4) (v := .slice AC c.1.length cC) hB hgb7
              replace hx := blk_put (cs' := #[.string t.1, .slice AP p.1.length cP, .int .i64 r.1, .slice AL l.1.length cL, .slice AC c.1.length cC]) hx 4 (.slice AC c.1.length cC) rfl
              replace RwP := Aside0.mk (Kd.R_far (p := ⟨w9.heap.size, 4, none⟩) RwP.out (fun k h => h.2) (.slice AC c.1.length cC))
              replace RwL := Aside0.mk (Kd.R_far (p := ⟨w9.heap.size, 4, none⟩) RwL.out (fun k h => h.2) (.slice AC c.1.length cC))
              replace RwC := Aside0.mk (Kd.R_far (p := ⟨w9.heap.size, 4, none⟩) RwC.out (fun k h => h.2) (.slice AC c.1.length cC))
              by_cases h1 : ¬ c.2.2 = 0
              · have hg := hG.out
                rw [if_pos h1] at hg
                have HG := Aside0.mk (hG0.out.trans hg.symm)
                clear hg hG hG0
                have hz := HZ.out _ hB
                have hB := HW.out _ hB
                go_wp2_with ((with_reducible refine gate_store (t := 37) (p := 2) (v := .tmp 64) rfl ?_); refine wpList_store_row rfl 37 (.tmp 2) (.tmp 64) rfl w.heap.size #[.string ⟨#[]⟩, .slice none 0 0, .int .i64 0, .slice none 0 0, .slice none 0 0] rfl rfl 37 _ hz (by rw [hi]; rfl) rfl (by kernel_rfl) ?_)
                refine bodyPost_ret (results_ct rfl _ _ w.heap.size 37 #[.string ⟨#[]⟩, .slice none 0 0, .int .i64 0, .slice none 0 0, .slice none 0 0] (0, 0) _ rfl (setRow_heap _ _ _ _ _ _ hz) Tryd.underlying37 rfl hi) rfl ?_
                exact GetPost.zero (v := .bool true) HG.out rfl (below_setRow hB (Nat.le_refl _) _)
              · have hg := hG.out
                rw [if_neg h1] at hg
                replace hG := Aside0.mk hg
                clear hg
                have h1 := h1
                replace h1 : c.2.2 = 0 := by simpa using h1
                rw [h1]
                clear h1
                go_wp2_with fail
                clear fz fc
                have hlf := left_calls g w7 _ b x.2.1 x.2.2 hI
                have hg := hG.out
                generalize (if x.2.2 = true then (0 : Int) else (b.length : Int) - x.2.1) = dd at hg hlf
                replace hG := Aside0.mk hg
                clear hg
                refine hlf.mono ?_
                clear hlf
                rintro e wd ⟨rfl, m, rfl⟩
                replace hI := hI.drewN m
                replace hB := pw_below_drewN hB m
                by_cases h1 : dd > 0
                · have hg := hG.out
                  rw [if_pos h1] at hg
                  have HG := Aside0.mk (hG0.out.trans hg.symm)
                  clear hg hG hG0
                  have hz := HZ.out _ hB
                  have hB := HW.out _ hB
                  go_wp2_with ((with_reducible refine gate_store (t := 37) (p := 2) (v := .tmp 69) rfl ?_); refine wpList_store_row rfl 37 (.tmp 2) (.tmp 69) rfl w.heap.size #[.string ⟨#[]⟩, .slice none 0 0, .int .i64 0, .slice none 0 0, .slice none 0 0] rfl rfl 37 _ hz (by rw [hi]; rfl) rfl (by kernel_rfl) ?_)
                  refine bodyPost_ret (results_ct rfl _ _ w.heap.size 37 #[.string ⟨#[]⟩, .slice none 0 0, .int .i64 0, .slice none 0 0, .slice none 0 0] (0, 0) _ rfl (setRow_heap _ _ _ _ _ _ hz) Tryd.underlying37 rfl hi) rfl ?_
                  exact GetPost.zero (v := .bool true) HG.out rfl (below_setRow hB (Nat.le_refl _) _)
                · have hg := hG.out
                  rw [if_neg h1] at hg
                  replace hG := Aside0.mk hg
                  clear hg
                  have h1 := h1
                  have q0 := (blk_cell hx 0).trans rfl
                  have q1 := (blk_cell hx 1).trans rfl
                  have q2 := (blk_cell hx 2).trans rfl
                  have q3 := (blk_cell hx 3).trans rfl
                  have q4 := (blk_cell hx 4).trans rfl
                  have hz := HZ.out _ hB
                  have hBw := HW.out _ hB
                  go_wp2_with ((with_reducible refine gate_store (t := 37) (p := 2) (v := .tmp 70) rfl ?_); refine wpList_store_row rfl 37 (.tmp 2) (.tmp 70) rfl w.heap.size #[.string t.1, .slice AP p.1.length cP, .int .i64 r.1, .slice AL l.1.length cL, .slice AC c.1.length cC] rfl rfl 37 _ hz (by rw [hi]; rfl) rfl (by kernel_rfl) ?_)
                  refine bodyPost_ret (results_ct rfl _ _ w.heap.size 37 #[.string t.1, .slice AP p.1.length cP, .int .i64 r.1, .slice AL l.1.length cL, .slice AC c.1.length cC] (0, 0) _ rfl (setRow_heap _ _ _ _ _ _ hz) Tryd.underlying37 rfl hi) rfl ?_
                  have HG := hG0.out.trans hG.out.symm
                  have rP := (Kd.R_reads' (Kd.R_keep (Kd.R_types RwP.out (show (World.drewN _ m).heap[w.heap.size]? = _ from hz) (by decide)) (keep_setRow _ w.heap.size #[.string t.1, .slice AP p.1.length cP, .int .i64 r.1, .slice AL l.1.length cL, .slice AC c.1.length cC]) (fun k h => h.2))).2.2
                  have rL := (Kd.R_reads' (Kd.R_keep (Kd.R_types RwL.out (show (World.drewN _ m).heap[w.heap.size]? = _ from hz) (by decide)) (keep_setRow _ w.heap.size #[.string t.1, .slice AP p.1.length cP, .int .i64 r.1, .slice AL l.1.length cL, .slice AC c.1.length cC]) (fun k h => h.2))).2.2
                  have rC := (Kd.R_reads' (Kd.R_keep (Kd.R_types RwC.out (show (World.drewN _ m).heap[w.heap.size]? = _ from hz) (by decide)) (keep_setRow _ w.heap.size #[.string t.1, .slice AP p.1.length cP, .int .i64 r.1, .slice AL l.1.length cL, .slice AC c.1.length cC]) (fun k h => h.2))).2.2
                  refine ⟨⟨t.1, AP, cP, p.1, r.1, AL, cL, l.1, AC, cC, c.1.map conv⟩, ?_, ⟨rP, hlP, rL, hlL, ?_, ?_⟩, by rw [HG], below_setRow hBw (Nat.le_refl _) _⟩
                  · rw [HG]
                    simp only [UR.cells, List.length_map]
                    rfl
                  · have := C_conv rC
                    rw [List.length_map]
                    exact this
                  · rw [List.length_map]
                    exact hlC
end Go.Proofs.YthbcliofjfhmbaaDoor.Given
end

section
/- What a reader tells of bytes that were put; any bytes. -/
namespace Go.Proofs.YthbcliofjfhmbaaDoor.Given
set_option linter.unusedVariables false
set_option linter.unusedSimpArgs false
open Go.RowKit Go.Proofs.YthbcliofjfhmbaaDoorW.PrintWords Go.Proofs.YthbcliofjfhmbaaDoorW.PrintLast Go.Proofs.YthbcliofjfhmbaaDoorW.PrintMore
theorem sh_div (v : Int) : ∀ n, sh n v = v / 2 ^ (8 * n)
  | 0 => by simp [sh]
  | n + 1 => by
    rw [sh, sh_div v n, show 8 * (n + 1) = 8 * n + 8 by omega, Int.pow_add, Int.ediv_ediv_of_nonneg (Int.le_of_lt (Int.pow_pos (by decide)))]
    rfl
theorem leN_le (v : Int) : ∀ n, leN (le n v) = v % 2 ^ (8 * n)
  | 0 => by simp [le, leN, Int.emod_one]
  | n + 1 => by
    rw [le, leN_app, leN_le v n, le_length, sh_div, show 8 * (n + 1) = 8 * n + 8 by omega, Int.pow_add, show (2 : Int) ^ 8 = 256 from rfl]
    have hp : (0 : Int) < 2 ^ (8 * n) := Int.pow_pos (by decide)
    generalize (2 : Int) ^ (8 * n) = p at *
    have e1 := Int.mul_ediv_add_emod v p
    have e2 := Int.mul_ediv_add_emod (v / p) 256
    have h0 := Int.emod_nonneg v (show p ≠ 0 by omega)
    have h1 := Int.emod_lt_of_pos v hp
    have h2 := Int.emod_nonneg (v / p) (show (256 : Int) ≠ 0 by omega)
    have h3 := Int.emod_lt_of_pos (v / p) (show (0 : Int) < 256 by omega)
    generalize v % p = r at *
    generalize v / p % 256 = x at *
    generalize v / p / 256 = q at *
    generalize v / p = y at *
    subst e2
    have e3 : v = r + x * p + p * 256 * q := by rw [← e1, Int.mul_add, ← Int.mul_assoc, Int.mul_comm x p]; omega
    have h4 : x * p ≤ 255 * p := Int.mul_le_mul_of_nonneg_right (by omega) (by omega)
    have h5 : 0 ≤ x * p := Int.mul_nonneg h2 (by omega)
    rw [e3, Int.add_mul_emod_self_left]
    exact (Int.emod_eq_of_lt (by omega) (by omega)).symm
theorem cut_mid (a m c : List Int) (i n : Int) (hi : i = a.length) (hn : n = m.length) : cutR (a ++ m ++ c) i n = m := by
  subst hi hn
  unfold cutR
  rw [Int.toNat_natCast, Int.toNat_natCast, List.append_assoc, List.drop_left, List.take_left]
theorem num_at (a m c : List Int) (i many : Int) (hi : i = a.length) (hm : mx 0 (mn many 8) = m.length) : numR (a ++ m ++ c) i false many = (wrap64 (leN m), i + m.length, false) := by
  unfold numR
  rw [hm, cut_mid a m c i _ hi rfl, if_pos]
  refine ⟨rfl, Int.natCast_nonneg _, ?_⟩
  simp only [List.length_append]
  omega
theorem take_at (a m c : List Int) (i n : Int) (hi : i = a.length) (hn : n = m.length) : takeR (a ++ m ++ c) i false n = (m, i + n, false) := by
  unfold takeR
  rw [cut_mid a m c i n hi hn, if_pos]
  refine ⟨rfl, by omega, ?_⟩
  simp only [List.length_append]
  omega
theorem bytes_len (s : ByteArray) : (bytesOf s).length = s.size := by simp [bytesOf]
theorem str_bytes (s : ByteArray) : strOfNums (bytesOf s) = s := by
  obtain ⟨⟨l⟩⟩ := s
  unfold strOfNums bytesOf
  simp only [List.map_map]
  congr 2
  have : ∀ b : UInt8, ((fun x : Int => x.toNat.toUInt8) ∘ fun b : UInt8 => (b.toNat : Int)) b = b := by intro b; simp
  exact (List.map_congr_left (fun b _ => this b)).trans (List.map_id _)
theorem wf8 {a : Int} (h : (Lit.int .u8 a).wf = true) : 0 ≤ a ∧ a < 256 := by
  unfold Lit.wf at h
  simp only [Bool.and_eq_true, decide_eq_true_eq, show IntKind.u8.min = 0 from rfl, show IntKind.u8.max = 255 from rfl] at h
  omega
theorem le_byte (v : Int) : ∀ m, ∀ b ∈ le m v, 0 ≤ b ∧ b < 256
  | 0, b, h => by simp [le] at h
  | m + 1, b, h => by
    unfold le at h
    rcases List.mem_append.1 h with h | h
    · exact le_byte v m b h
    · rw [List.mem_singleton.1 h]
      omega
theorem bytes_byte (s : ByteArray) : ∀ b ∈ bytesOf s, 0 ≤ b ∧ b < 256 := by
  intro b h
  obtain ⟨u, _, rfl⟩ := List.mem_map.1 h
  have := u.toNat_lt
  omega
theorem text_all (s : ByteArray) (h : s.size ≤ 255) : textOf s = s := by
  unfold textOf
  rw [Nat.min_eq_left h]
  simp
theorem bytes_str : ∀ l : List Int, (∀ x ∈ l, 0 ≤ x ∧ x < 256) → bytesOf (strOfNums l) = l := by
  intro l h
  unfold strOfNums bytesOf
  simp only [List.map_map]
  refine (List.map_congr_left (fun x hx => ?_)).trans (List.map_id _)
  have := h x hx
  simp
  omega
theorem str_size (l : List Int) : (strOfNums l).size = l.length := by simp [strOfNums, ByteArray.size]
theorem le_leN : ∀ l : List Int, (∀ x ∈ l, 0 ≤ x ∧ x < 256) → l.length ≤ 2 → le l.length (leN l) = l
  | [], _, _ => rfl
  | [a], h, _ => by
    have := h a (by simp)
    simp [le, leN, sh]
    omega
  | [a, b], h, _ => by
    have h1 := h a (by simp)
    have h2 := h b (by simp)
    simp [le, leN, sh]
    omega
  | _ :: _ :: _ :: _, _, h => by simp at h
theorem leN_small (l : List Int) (h : ∀ x ∈ l, 0 ≤ x ∧ x < 256) (hl : l.length ≤ 2) : 0 ≤ leN l ∧ leN l < 65536 := by
  match l, hl with
  | [], _ => simp [leN]
  | [a], _ => have := h a (by simp); simp [leN]; omega
  | [a, b], _ => have h1 := h a (by simp); have h2 := h b (by simp); simp [leN]; omega
  | _ :: _ :: _ :: _, h => simp at h
/-- What was told of a number: the bytes are there. -/
theorem num_inv {b : List Int} (hb : ∀ x ∈ b, 0 ≤ x ∧ x < 256) {at_ : Int} {many : Int} {m : Nat} (hm : mx 0 (mn many 8) = m) (hm2 : m ≤ 2) (h0 : 0 ≤ at_) (h1 : at_ ≤ b.length) (h : (numR b at_ false many).2.2 = false) :
    (numR b at_ false many).2.1 = at_ + m ∧ at_ + m ≤ b.length ∧ 0 ≤ (numR b at_ false many).1 ∧ (numR b at_ false many).1 < 2 ^ (8 * m) ∧ b.drop at_.toNat = le m (numR b at_ false many).1 ++ b.drop (at_ + m).toNat := by
  unfold numR at h ⊢
  rw [hm] at h ⊢
  by_cases hk : okR b at_ false m
  · rw [if_pos hk]
    obtain ⟨_, _, hk⟩ := hk
    have hl : (cutR b at_ m).length = m := by unfold cutR; simp; omega
    have hc : ∀ x ∈ cutR b at_ m, 0 ≤ x ∧ x < 256 := fun x hx => hb x (List.mem_of_mem_drop (List.mem_of_mem_take hx))
    have hs := leN_small _ hc (by omega)
    have hs2 := (leN_lim _ hc).2
    rw [hl] at hs2
    have hw : wrap64 (leN (cutR b at_ m)) = leN (cutR b at_ m) := by unfold wrap64; omega
    refine ⟨rfl, by omega, by dsimp only; rw [hw]; exact hs.1, by dsimp only; rw [hw]; exact hs2, ?_⟩
    dsimp only
    rw [hw]
    have := le_leN _ hc (by omega)
    rw [hl] at this
    rw [this]
    unfold cutR
    rw [show (at_ + (m : Int)).toNat = at_.toNat + (m : Int).toNat by omega, ← List.drop_drop, List.take_append_drop]
  · rw [if_neg hk] at h
    cases h
theorem take_inv {b : List Int} {at_ n : Int} (h0 : 0 ≤ at_) (h1 : at_ ≤ b.length) (h : (takeR b at_ false n).2.2 = false) :
    (takeR b at_ false n).2.1 = at_ + n ∧ 0 ≤ n ∧ at_ + n ≤ b.length ∧ ((takeR b at_ false n).1.length : Int) = n ∧ b.drop at_.toNat = (takeR b at_ false n).1 ++ b.drop (at_ + n).toNat := by
  unfold takeR at h ⊢
  by_cases hk : okR b at_ false n
  · rw [if_pos hk]
    obtain ⟨_, hk0, hk⟩ := hk
    refine ⟨rfl, hk0, by omega, by dsimp only; unfold cutR; simp; omega, ?_⟩
    dsimp only
    unfold cutR
    rw [show (at_ + n).toNat = at_.toNat + n.toNat by omega, ← List.drop_drop, List.take_append_drop]
  · rw [if_neg hk] at h
    cases h
theorem take_mem' {b : List Int} {at_ : Int} {bad : Bool} {n : Int} : ∀ x ∈ (takeR b at_ bad n).1, x ∈ b := by
  intro x hx
  unfold takeR at hx
  split at hx
  · exact List.mem_of_mem_drop (List.mem_of_mem_take hx)
  · cases hx
theorem num_bad_true (b : List Int) (at_ many : Int) : numR b at_ true many = (0, at_, true) := by
  unfold numR
  rw [if_neg (fun h => by cases h.1)]
theorem take_bad_true (b : List Int) (at_ n : Int) : takeR b at_ true n = ([], at_, true) := by
  unfold takeR
  rw [if_neg (fun h => by cases h.1)]
theorem text_inv {b : List Int} (hb : ∀ x ∈ b, 0 ≤ x ∧ x < 256) {at_ : Int} (h0 : 0 ≤ at_) (h1 : at_ ≤ b.length) (h : (textR b at_ false).2.2 = false) :
    (textR b at_ false).1.size ≤ 255 ∧ (textR b at_ false).2.1 = at_ + 1 + (textR b at_ false).1.size ∧ at_ + 1 + (textR b at_ false).1.size ≤ b.length ∧ b.drop at_.toNat = le 1 ((textR b at_ false).1.size : Int) ++ bytesOf (textR b at_ false).1 ++ b.drop (textR b at_ false).2.1.toNat := by
  unfold textR at h ⊢
  dsimp only at h ⊢
  have hn := num_inv hb (at_ := at_) (many := 1) (m := 1) (by decide) (by decide) h0 h1
  generalize numR b at_ false 1 = t at h hn ⊢
  cases hq : t.2.2 with
  | true => rw [hq, take_bad_true] at h; cases h
  | false =>
    obtain ⟨e1, e2, e3, e4, e5⟩ := hn hq
    rw [hq, e1] at h
    have hm := take_mem' (b := b) (at_ := at_ + (1 : Nat)) (bad := false) (n := t.1)
    have hi := take_inv (by omega) e2 h
    rw [e1]
    generalize takeR b (at_ + (1 : Nat)) false t.1 = u at h hi hm ⊢
    obtain ⟨f1, f2, f3, f4, f5⟩ := hi
    have hp : (2 : Int) ^ (8 * 1) = 256 := rfl
    rw [hp] at e4
    rw [str_size, f1, bytes_str _ (fun x hx => hb x (hm x hx))]
    refine ⟨by omega, by omega, by omega, ?_⟩
    rw [e5, f5, ← f4, ← List.append_assoc]
end Go.Proofs.YthbcliofjfhmbaaDoor.Given
end

section
/- Printed by a program of this session (wip/pg.py, over the print of the kit): functions, their Lean twins, and the proofs that the calls come to them; each under the conditions that it names. -/
namespace Go.Proofs.YthbcliofjfhmbaaDoor.PCod
open Go.Proofs.YthbcliofjfhmbaaDoor.Given
open Go.RowKit Go.Proofs.YthbcliofjfhmbaaDoorW.PrintWords Go.Proofs.YthbcliofjfhmbaaDoorW.PrintLast Go.Proofs.YthbcliofjfhmbaaDoorW.PrintMore
attribute [local go_sem] max2_int min2_int max_two min_two max_three min_three max_four min_four   -- for this text's walks alone
set_option linter.unusedVariables false
set_option linter.unusedSimpArgs false

/-! ### op_Is: function 62 -/
def op_Is.f (a0 : Int) : Option (Bool) := if a0 ≥ 0 then (some (decide (a0 < 38))) else (some false)
set_option maxHeartbeats 8000000 in
set_option maxRecDepth 100000 in
theorem op_Is.calls (a0 : Int) (r : Bool) (w : World) (h : op_Is.f a0 = some r) :
    Calls Tryd.prog 62 #[.int .i64 a0] w fun e w' => e = .returned (.bool r) ∧ Drawn0 w w' := by
  have H : (if a0 ≥ 0 then (some (decide (a0 < 38))) else (some false)) = some r := h
  clear h
  by_cases c2 : a0 ≥ 0
  · rw [if_pos c2] at H
    have c2b0 : decide (0 ≤ a0) = true := decide_eq_true c2
    clear c2
    obtain rfl := Option.some.inj H
    go_enter Tryd.func62, Tryd.ntmps62
    go_wp2
    go_ret
    exact ⟨by first | rfl | (simp; done) | (simp [*]; done), by repeat (first | exact Drawn0.refl _ | apply Drawn0.step)⟩
  · rw [if_neg c2] at H
    have c2b0 : decide (0 ≤ a0) = false := decide_eq_false c2
    clear c2
    obtain rfl := Option.some.inj H
    go_enter Tryd.func62, Tryd.ntmps62
    go_wp2
    go_ret
    exact ⟨by first | rfl | (simp; done) | (simp [*]; done), by repeat (first | exact Drawn0.refl _ | apply Drawn0.step)⟩

/-! ### op_may: function 63 -/
def op_may.f (a0 : Int) (a1 : Int) : Option (Bool) := if a1 = 0 then (some (a0 == 0)) else (if a0 ≥ 0 then (some (decide (a0 ≤ 65535))) else (some false))
set_option maxHeartbeats 8000000 in
set_option maxRecDepth 100000 in
theorem op_may.calls (a0 : Int) (a1 : Int) (r : Bool) (w : World) (h : op_may.f a0 a1 = some r) :
    Calls Tryd.prog 63 #[.int .i64 a0, .int .i64 a1] w fun e w' => e = .returned (.bool r) ∧ Drawn0 w w' := by
  have H : (if a1 = 0 then (some (a0 == 0)) else (if a0 ≥ 0 then (some (decide (a0 ≤ 65535))) else (some false))) = some r := h
  clear h
  by_cases c3 : a1 = 0
  · rw [if_pos c3] at H
    have c3b0 : (a1 == 0) = true := beq_iff_eq.mpr c3
    have c3b1 : (a1 != 0) = false := bne_eq_false_iff_eq.mpr c3
    clear c3
    obtain rfl := Option.some.inj H
    go_enter Tryd.func63, Tryd.ntmps63
    go_wp2
    go_ret
    exact ⟨by first | rfl | (simp; done) | (simp [*]; done), by repeat (first | exact Drawn0.refl _ | apply Drawn0.step)⟩
  · rw [if_neg c3] at H
    have c3b0 : (a1 == 0) = false := beq_eq_false_iff_ne.mpr c3
    have c3b1 : (a1 != 0) = true := bne_iff_ne.mpr c3
    by_cases c4 : a0 ≥ 0
    · rw [if_pos c4] at H
      have c4b0 : decide (0 ≤ a0) = true := decide_eq_true c4
      clear c4
      obtain rfl := Option.some.inj H
      go_enter Tryd.func63, Tryd.ntmps63
      go_wp2
      go_ret
      exact ⟨by first | rfl | (simp; done) | (simp [*]; done), by repeat (first | exact Drawn0.refl _ | apply Drawn0.step)⟩
    · rw [if_neg c4] at H
      have c4b0 : decide (0 ≤ a0) = false := decide_eq_false c4
      clear c4
      obtain rfl := Option.some.inj H
      go_enter Tryd.func63, Tryd.ntmps63
      go_wp2
      go_ret
      exact ⟨by first | rfl | (simp; done) | (simp [*]; done), by repeat (first | exact Drawn0.refl _ | apply Drawn0.step)⟩

/-! ### op_Right: function 31 -/
def op_Right.f (a0_0 : Int) (a0_1 : Int) (a0_2 : Int) : Option (Bool) := (op_Shape.f a0_0).bind fun bt102 => ((op_Is.f a0_0).bind fun t104 => (if t104 = true then ((op_may.f a0_1 bt102.1).bind fun t105 => (if t105 = true then ((op_may.f a0_2 bt102.2).bind fun t106 => (some t106)) else (some false))) else (some false)))
set_option maxHeartbeats 8000000 in
set_option maxRecDepth 100000 in
theorem op_Right.calls (a0_0 : Int) (a0_1 : Int) (a0_2 : Int) (r : Bool) (w : World) (h : op_Right.f a0_0 a0_1 a0_2 = some r) (hL_ : LaidOps w) :
    Calls Tryd.prog 31 #[.agg #[.int .i64 a0_0, .int .i64 a0_1, .int .i64 a0_2]] w fun e w' => e = .returned (.bool r) ∧ Below w.heap.size w w' := by
  have HL_ := Aside0.mk hL_
  clear hL_
  have hu47 := Tryd.underlying47
  have HB := Aside0.mk (Below.refl w.heap.size w)
  have H : ((op_Shape.f a0_0).bind fun bt102 => ((op_Is.f a0_0).bind fun t104 => (if t104 = true then ((op_may.f a0_1 bt102.1).bind fun t105 => (if t105 = true then ((op_may.f a0_2 bt102.2).bind fun t106 => (some t106)) else (some false))) else (some false)))) = some r := h
  clear h
  replace H := Option.bind_eq_some_iff.mp H
  obtain ⟨⟨t102, t103⟩, A20, H⟩ := H
  replace H : ((op_Is.f a0_0).bind fun t104 => (if t104 = true then ((op_may.f a0_1 t102).bind fun t105 => (if t105 = true then ((op_may.f a0_2 t103).bind fun t106 => (some t106)) else (some false))) else (some false))) = some r := H
  have A2 := Aside0.mk A20
  clear A20
  replace H := Option.bind_eq_some_iff.mp H
  obtain ⟨t104, A30, H⟩ := H
  replace H : (if t104 = true then ((op_may.f a0_1 t102).bind fun t105 => (if t105 = true then ((op_may.f a0_2 t103).bind fun t106 => (some t106)) else (some false))) else (some false)) = some r := H
  have A3 := Aside0.mk A30
  clear A30
  by_cases c4 : t104 = true
  · subst c4
    have H1 : ((op_may.f a0_1 t102).bind fun t105 => (if t105 = true then ((op_may.f a0_2 t103).bind fun t106 => (some t106)) else (some false))) = some r := by rw [if_pos rfl] at H; exact H
    clear H
    have H := H1
    clear H1
    replace H := Option.bind_eq_some_iff.mp H
    obtain ⟨t105, A50, H⟩ := H
    replace H : (if t105 = true then ((op_may.f a0_2 t103).bind fun t106 => (some t106)) else (some false)) = some r := H
    have A5 := Aside0.mk A50
    clear A50
    by_cases c6 : t105 = true
    · subst c6
      have H1 : ((op_may.f a0_2 t103).bind fun t106 => (some t106)) = some r := by rw [if_pos rfl] at H; exact H
      clear H
      have H := H1
      clear H1
      replace H := Option.bind_eq_some_iff.mp H
      obtain ⟨t106, A70, H⟩ := H
      replace H : (some t106) = some r := H
      have A7 := Aside0.mk A70
      clear A70
      obtain rfl := Option.some.inj H
      go_enter Tryd.func31, Tryd.ntmps31
      go_wp2_with (first | ((with_reducible refine gate_dst (N := 1) rfl ?_); refine box_event ?hg (N := 1) ?hd (cs := #[.int .i64 a0_0, .int .i64 a0_1, .int .i64 a0_2]) (t := 47) ?hr ?_; (case hd => rfl); (case hg => rfl); (case hr => first | (go_simp; done) | (go_simp; rfl)); intro gb101 hg w8 hbox hb; have n0_ := Aside0.mk (below_step (by repeat (first | (with_reducible first | exact HB.out | apply below_alloc | apply pw_below_drewN | apply below_drew1) | exact HB.out)) hb); have n1_ := Aside0.mk (hbox); have n2_ := Aside0.mk ((by rw [hg]; exact (below_size (by repeat (first | (with_reducible first | exact HB.out | apply below_alloc | apply pw_below_drewN | apply below_drew1) | exact HB.out))) : w.heap.size ≤ gb101)); have n3_ := Aside0.mk ((by rw [hg]; exact (below_size (by repeat (first | (with_reducible first | exact HB.out | apply below_alloc | apply pw_below_drewN | apply below_drew1) | exact HB.out))) : w.heap.size ≤ gb101)); clear HB; have HB := n0_; have BK101 := n1_; have GW101 := n2_; have GE101 := n3_; clear n0_ n1_ n2_ n3_; clear hb hbox hg; have hcz9_0 : w8.cell? ⟨gb101, 0, none⟩ = some (.int .i64 a0_0) := (blk_cell BK101.out 0).trans rfl; have hcz9_1 : w8.cell? ⟨gb101, 1, none⟩ = some (.int .i64 a0_1) := (blk_cell BK101.out 1).trans rfl; have hcz9_2 : w8.cell? ⟨gb101, 2, none⟩ = some (.int .i64 a0_2) := (blk_cell BK101.out 2).trans rfl; have hfz9_0 := blk_frozen BK101.out 0; have hfz9_1 := blk_frozen BK101.out 1; have hfz9_2 := blk_frozen BK101.out 2) | ((with_reducible refine gate_callee (f := 61) rfl ?_); refine goesL_ (some 8) rfl rfl Tryd.func61 (by kernel_rfl) rfl #[.int .i64 a0_0] rfl (by (try simp only [List.map_toArray, List.map_cons, List.map_nil]); first | done | rfl | (simp only [List.length_drop, List.length_take]; rfl)) ?_; (with_reducible refine (op_Shape.calls a0_0 t102 t103 _ A2.out (LaidOps.below HL_.out (by repeat (first | (with_reducible first | exact HB.out | apply below_alloc | apply pw_below_drewN | apply below_drew1 | refine below_set ?_ GE101.out) | exact HB.out)))).mono ?_); rintro e w10 ⟨rfl, hb⟩; refine ⟨_, rfl, ?_⟩; have n0_ := Aside0.mk (blk_below (g := gb101) (o := .cells #[.int .i64 a0_0, .int .i64 a0_1, .int .i64 a0_2] 47 (0, 0)) (by (with_reducible repeat (first | refine blk_drewN ?_ _ | refine blk_drew ?_ | refine blk_alloc ?_ _)); exact BK101.out) hb); have n1_ := Aside0.mk (below_step (by repeat (first | (with_reducible first | exact HB.out | apply below_alloc | apply pw_below_drewN | apply below_drew1 | refine below_set ?_ GE101.out) | exact HB.out)) hb); clear BK101; clear HB; have BK101 := n0_; have HB := n1_; clear n0_ n1_; (try clear hb); (try clear hb2); (try clear hk); (try clear hi); have hcz11_0 : w10.cell? ⟨gb101, 0, none⟩ = some (.int .i64 a0_0) := (blk_cell BK101.out 0).trans rfl; have hcz11_1 : w10.cell? ⟨gb101, 1, none⟩ = some (.int .i64 a0_1) := (blk_cell BK101.out 1).trans rfl; have hcz11_2 : w10.cell? ⟨gb101, 2, none⟩ = some (.int .i64 a0_2) := (blk_cell BK101.out 2).trans rfl; have hfz11_0 := blk_frozen BK101.out 0; have hfz11_1 := blk_frozen BK101.out 1; have hfz11_2 := blk_frozen BK101.out 2) | ((with_reducible refine gate_callee (f := 62) rfl ?_); refine goesL_ (some 13) rfl rfl Tryd.func62 (by kernel_rfl) rfl #[.int .i64 a0_0] rfl (by (try simp only [List.map_toArray, List.map_cons, List.map_nil]); first | done | rfl | (simp only [List.length_drop, List.length_take]; rfl)) ?_; (with_reducible refine (op_Is.calls a0_0 true _ A3.out).mono ?_); rintro e w' ⟨rfl, ⟨nd, rfl⟩⟩; refine ⟨_, rfl, ?_⟩) | (go_at_call 63; (with_reducible refine (op_may.calls a0_1 t102 true _ A5.out).mono ?_); rintro e w' ⟨rfl, ⟨nd, rfl⟩⟩) | (go_at_call 63; (with_reducible refine (op_may.calls a0_2 t103 t106 _ A7.out).mono ?_); rintro e w' ⟨rfl, ⟨nd, rfl⟩⟩))
      go_ret
      exact ⟨by first | rfl | (simp [errW_none, errW_some] <;> rfl) | (simp [*, errW_none, errW_some] <;> rfl), by repeat (first | (with_reducible first | exact HB.out | apply below_alloc | apply pw_below_drewN | apply below_drew1 | refine below_set ?_ GE101.out) | exact HB.out)⟩
    · replace c6 := Bool.eq_false_iff.mpr c6
      subst c6
      have H1 : (some false) = some r := by rw [if_neg (show ¬ (false = true) by decide)] at H; exact H
      clear H
      have H := H1
      clear H1
      obtain rfl := Option.some.inj H
      go_enter Tryd.func31, Tryd.ntmps31
      go_wp2_with (first | ((with_reducible refine gate_dst (N := 1) rfl ?_); refine box_event ?hg (N := 1) ?hd (cs := #[.int .i64 a0_0, .int .i64 a0_1, .int .i64 a0_2]) (t := 47) ?hr ?_; (case hd => rfl); (case hg => rfl); (case hr => first | (go_simp; done) | (go_simp; rfl)); intro gb101 hg w12 hbox hb; have n0_ := Aside0.mk (below_step (by repeat (first | (with_reducible first | exact HB.out | apply below_alloc | apply pw_below_drewN | apply below_drew1) | exact HB.out)) hb); have n1_ := Aside0.mk (hbox); have n2_ := Aside0.mk ((by rw [hg]; exact (below_size (by repeat (first | (with_reducible first | exact HB.out | apply below_alloc | apply pw_below_drewN | apply below_drew1) | exact HB.out))) : w.heap.size ≤ gb101)); have n3_ := Aside0.mk ((by rw [hg]; exact (below_size (by repeat (first | (with_reducible first | exact HB.out | apply below_alloc | apply pw_below_drewN | apply below_drew1) | exact HB.out))) : w.heap.size ≤ gb101)); clear HB; have HB := n0_; have BK101 := n1_; have GW101 := n2_; have GE101 := n3_; clear n0_ n1_ n2_ n3_; clear hb hbox hg; have hcz13_0 : w12.cell? ⟨gb101, 0, none⟩ = some (.int .i64 a0_0) := (blk_cell BK101.out 0).trans rfl; have hcz13_1 : w12.cell? ⟨gb101, 1, none⟩ = some (.int .i64 a0_1) := (blk_cell BK101.out 1).trans rfl; have hcz13_2 : w12.cell? ⟨gb101, 2, none⟩ = some (.int .i64 a0_2) := (blk_cell BK101.out 2).trans rfl; have hfz13_0 := blk_frozen BK101.out 0; have hfz13_1 := blk_frozen BK101.out 1; have hfz13_2 := blk_frozen BK101.out 2) | ((with_reducible refine gate_callee (f := 61) rfl ?_); refine goesL_ (some 8) rfl rfl Tryd.func61 (by kernel_rfl) rfl #[.int .i64 a0_0] rfl (by (try simp only [List.map_toArray, List.map_cons, List.map_nil]); first | done | rfl | (simp only [List.length_drop, List.length_take]; rfl)) ?_; (with_reducible refine (op_Shape.calls a0_0 t102 t103 _ A2.out (LaidOps.below HL_.out (by repeat (first | (with_reducible first | exact HB.out | apply below_alloc | apply pw_below_drewN | apply below_drew1 | refine below_set ?_ GE101.out) | exact HB.out)))).mono ?_); rintro e w14 ⟨rfl, hb⟩; refine ⟨_, rfl, ?_⟩; have n0_ := Aside0.mk (blk_below (g := gb101) (o := .cells #[.int .i64 a0_0, .int .i64 a0_1, .int .i64 a0_2] 47 (0, 0)) (by (with_reducible repeat (first | refine blk_drewN ?_ _ | refine blk_drew ?_ | refine blk_alloc ?_ _)); exact BK101.out) hb); have n1_ := Aside0.mk (below_step (by repeat (first | (with_reducible first | exact HB.out | apply below_alloc | apply pw_below_drewN | apply below_drew1 | refine below_set ?_ GE101.out) | exact HB.out)) hb); clear BK101; clear HB; have BK101 := n0_; have HB := n1_; clear n0_ n1_; (try clear hb); (try clear hb2); (try clear hk); (try clear hi); have hcz15_0 : w14.cell? ⟨gb101, 0, none⟩ = some (.int .i64 a0_0) := (blk_cell BK101.out 0).trans rfl; have hcz15_1 : w14.cell? ⟨gb101, 1, none⟩ = some (.int .i64 a0_1) := (blk_cell BK101.out 1).trans rfl; have hcz15_2 : w14.cell? ⟨gb101, 2, none⟩ = some (.int .i64 a0_2) := (blk_cell BK101.out 2).trans rfl; have hfz15_0 := blk_frozen BK101.out 0; have hfz15_1 := blk_frozen BK101.out 1; have hfz15_2 := blk_frozen BK101.out 2) | ((with_reducible refine gate_callee (f := 62) rfl ?_); refine goesL_ (some 13) rfl rfl Tryd.func62 (by kernel_rfl) rfl #[.int .i64 a0_0] rfl (by (try simp only [List.map_toArray, List.map_cons, List.map_nil]); first | done | rfl | (simp only [List.length_drop, List.length_take]; rfl)) ?_; (with_reducible refine (op_Is.calls a0_0 true _ A3.out).mono ?_); rintro e w' ⟨rfl, ⟨nd, rfl⟩⟩; refine ⟨_, rfl, ?_⟩) | (go_at_call 63; (with_reducible refine (op_may.calls a0_1 t102 false _ A5.out).mono ?_); rintro e w' ⟨rfl, ⟨nd, rfl⟩⟩))
      go_ret
      exact ⟨by first | rfl | (simp [errW_none, errW_some] <;> rfl) | (simp [*, errW_none, errW_some] <;> rfl), by repeat (first | (with_reducible first | exact HB.out | apply below_alloc | apply pw_below_drewN | apply below_drew1 | refine below_set ?_ GE101.out) | exact HB.out)⟩
  · replace c4 := Bool.eq_false_iff.mpr c4
    subst c4
    have H1 : (some false) = some r := by rw [if_neg (show ¬ (false = true) by decide)] at H; exact H
    clear H
    have H := H1
    clear H1
    obtain rfl := Option.some.inj H
    go_enter Tryd.func31, Tryd.ntmps31
    go_wp2_with (first | ((with_reducible refine gate_dst (N := 1) rfl ?_); refine box_event ?hg (N := 1) ?hd (cs := #[.int .i64 a0_0, .int .i64 a0_1, .int .i64 a0_2]) (t := 47) ?hr ?_; (case hd => rfl); (case hg => rfl); (case hr => first | (go_simp; done) | (go_simp; rfl)); intro gb101 hg w16 hbox hb; have n0_ := Aside0.mk (below_step (by repeat (first | (with_reducible first | exact HB.out | apply below_alloc | apply pw_below_drewN | apply below_drew1) | exact HB.out)) hb); have n1_ := Aside0.mk (hbox); have n2_ := Aside0.mk ((by rw [hg]; exact (below_size (by repeat (first | (with_reducible first | exact HB.out | apply below_alloc | apply pw_below_drewN | apply below_drew1) | exact HB.out))) : w.heap.size ≤ gb101)); have n3_ := Aside0.mk ((by rw [hg]; exact (below_size (by repeat (first | (with_reducible first | exact HB.out | apply below_alloc | apply pw_below_drewN | apply below_drew1) | exact HB.out))) : w.heap.size ≤ gb101)); clear HB; have HB := n0_; have BK101 := n1_; have GW101 := n2_; have GE101 := n3_; clear n0_ n1_ n2_ n3_; clear hb hbox hg; have hcz17_0 : w16.cell? ⟨gb101, 0, none⟩ = some (.int .i64 a0_0) := (blk_cell BK101.out 0).trans rfl; have hcz17_1 : w16.cell? ⟨gb101, 1, none⟩ = some (.int .i64 a0_1) := (blk_cell BK101.out 1).trans rfl; have hcz17_2 : w16.cell? ⟨gb101, 2, none⟩ = some (.int .i64 a0_2) := (blk_cell BK101.out 2).trans rfl; have hfz17_0 := blk_frozen BK101.out 0; have hfz17_1 := blk_frozen BK101.out 1; have hfz17_2 := blk_frozen BK101.out 2) | ((with_reducible refine gate_callee (f := 61) rfl ?_); refine goesL_ (some 8) rfl rfl Tryd.func61 (by kernel_rfl) rfl #[.int .i64 a0_0] rfl (by (try simp only [List.map_toArray, List.map_cons, List.map_nil]); first | done | rfl | (simp only [List.length_drop, List.length_take]; rfl)) ?_; (with_reducible refine (op_Shape.calls a0_0 t102 t103 _ A2.out (LaidOps.below HL_.out (by repeat (first | (with_reducible first | exact HB.out | apply below_alloc | apply pw_below_drewN | apply below_drew1 | refine below_set ?_ GE101.out) | exact HB.out)))).mono ?_); rintro e w18 ⟨rfl, hb⟩; refine ⟨_, rfl, ?_⟩; have n0_ := Aside0.mk (blk_below (g := gb101) (o := .cells #[.int .i64 a0_0, .int .i64 a0_1, .int .i64 a0_2] 47 (0, 0)) (by (with_reducible repeat (first | refine blk_drewN ?_ _ | refine blk_drew ?_ | refine blk_alloc ?_ _)); exact BK101.out) hb); have n1_ := Aside0.mk (below_step (by repeat (first | (with_reducible first | exact HB.out | apply below_alloc | apply pw_below_drewN | apply below_drew1 | refine below_set ?_ GE101.out) | exact HB.out)) hb); clear BK101; clear HB; have BK101 := n0_; have HB := n1_; clear n0_ n1_; (try clear hb); (try clear hb2); (try clear hk); (try clear hi); have hcz19_0 : w18.cell? ⟨gb101, 0, none⟩ = some (.int .i64 a0_0) := (blk_cell BK101.out 0).trans rfl; have hcz19_1 : w18.cell? ⟨gb101, 1, none⟩ = some (.int .i64 a0_1) := (blk_cell BK101.out 1).trans rfl; have hcz19_2 : w18.cell? ⟨gb101, 2, none⟩ = some (.int .i64 a0_2) := (blk_cell BK101.out 2).trans rfl; have hfz19_0 := blk_frozen BK101.out 0; have hfz19_1 := blk_frozen BK101.out 1; have hfz19_2 := blk_frozen BK101.out 2) | ((with_reducible refine gate_callee (f := 62) rfl ?_); refine goesL_ (some 13) rfl rfl Tryd.func62 (by kernel_rfl) rfl #[.int .i64 a0_0] rfl (by (try simp only [List.map_toArray, List.map_cons, List.map_nil]); first | done | rfl | (simp only [List.length_drop, List.length_take]; rfl)) ?_; (with_reducible refine (op_Is.calls a0_0 false _ A3.out).mono ?_); rintro e w' ⟨rfl, ⟨nd, rfl⟩⟩; refine ⟨_, rfl, ?_⟩))
    go_ret
    exact ⟨by first | rfl | (simp [errW_none, errW_some] <;> rfl) | (simp [*, errW_none, errW_some] <;> rfl), by repeat (first | (with_reducible first | exact HB.out | apply below_alloc | apply pw_below_drewN | apply below_drew1 | refine below_set ?_ GE101.out) | exact HB.out)⟩

/-! ### code_Encode: function 13 -/
def code_Encode.l0 : Nat → List Int → List (S47) → Int → Int → Option (List Int × Bool)
  | 0, _, _, _, _ => none
  | k + 1, x4, x7, x8, x9 => if x9 < x8 then (if 0 ≤ x9 then (if x9 < (x7.length : Int) then ((op_Right.f ((rd_T47 x7 x9).f0) ((rd_T47 x7 x9).f1) ((rd_T47 x7 x9).f2)).bind fun t109 => (if t109 = true then ((some (([((rd_T47 x7 x9).f0) % 256, ((rd_T47 x7 x9).f1) % 256, (((rd_T47 x7 x9).f1) / 256) % 256, ((rd_T47 x7 x9).f2) % 256, (((rd_T47 x7 x9).f2) / 256) % 256] : List Int) : List Int)).bind fun y110 => (if x4.length + y110.length < 140737488355328 then (code_Encode.l0 k (x4 ++ y110) x7 x8 (wrap64 (x9 + 1))) else (none))) else (some (([] : List Int), false)))) else (none)) else (none)) else (some (x4, true))
def code_Encode.f (k : Nat) (l0 : List (S47)) : Option (List Int × Bool) := code_Encode.l0 k ([] : List Int) l0 (l0.length : Int) 0
theorem code_Encode.mono_l : ∀ k, (∀ y0 y1 y2 y3, LeO (code_Encode.l0 k y0 y1 y2 y3) (code_Encode.l0 (k + 1) y0 y1 y2 y3))
  | 0 => fun _ _ _ _ r h => by simp [code_Encode.l0] at h
  | k + 1 => by
    have ih0 := code_Encode.mono_l k
    · intro y0 y1 y2 y3
      unfold code_Encode.l0
      repeat' first
      | (with_reducible exact ih0 _ _ _ _)
      | (with_reducible exact LeO.refl _)
      | (with_reducible exact LeO.none _)
      | (with_reducible refine LeO.ite ?_ ?_)
      | (with_reducible refine LeO.bind ?_ (fun _ => ?_))
      | exact ih0 _ _ _ _
      | exact LeO.none _
      | refine LeO.ite ?_ ?_
      | refine LeO.bind ?_ (fun _ => ?_)
theorem code_Encode.mono : ∀ a0 k, LeO (code_Encode.f k a0) (code_Encode.f (k + 1) a0) := by
  intro a0 k
  have ih0 := code_Encode.mono_l k
  unfold code_Encode.f
  repeat' first
      | (with_reducible exact ih0 _ _ _ _)
      | (with_reducible exact LeO.refl _)
      | (with_reducible exact LeO.none _)
      | (with_reducible refine LeO.ite ?_ ?_)
      | (with_reducible refine LeO.bind ?_ (fun _ => ?_))
      | exact ih0 _ _ _ _
      | exact LeO.none _
      | refine LeO.ite ?_ ?_
      | refine LeO.bind ?_ (fun _ => ?_)
set_option maxHeartbeats 8000000 in
set_option maxRecDepth 100000 in
theorem code_Encode.calls (k : Nat) (A0 : Option Addr) (c0 : Nat) (l0 : List (S47)) (r1 : List Int) (r2 : Bool) (w : World) (hr0 : Kd.C k47 w A0 l0.length l0) (hc0 : l0.length ≤ c0) (h : code_Encode.f k l0 = some (r1, r2)) (hL_ : LaidOps w) :
    Calls Tryd.prog 13 #[.slice A0 l0.length c0] w fun e w' => ∃ v0_ : Value, e = .returned (.tuple #[v0_, .bool r2]) ∧ Kd.R (Kd.int .u8) 5 w' w.heap.size (fun _ => True) v0_ r1 ∧ Below w.heap.size w w' := by
  have HL_ := Aside0.mk hL_
  clear hL_
  have hu47 := Tryd.underlying47
  have HR0 := Aside0.mk hr0
  have HC0 := Aside0.mk hc0
  clear hr0 hc0
  have HB := Aside0.mk (Below.refl w.heap.size w)
  have H : (code_Encode.l0 k ([] : List Int) l0 (l0.length : Int) 0) = some (r1, r2) := h
  clear h
  have H' := Aside0.mk H
  clear H
  go_enter Tryd.func13, Tryd.ntmps13
  go_wp2
  go_loopg [4, 9] k (fun kq v4 v9 w' => ∃ (x4_1 : List Int) (x9_1 : Int), v9 = .int .i64 x9_1 ∧ Aside0 (code_Encode.l0 kq x4_1 l0 (l0.length : Int) x9_1 = some (r1, r2)) ∧ Aside0 (kq ≤ k) ∧ Aside0 (Kd.R (Kd.int .u8) 5 w' w.heap.size (fun _ => True) v4 x4_1) ∧ Aside0 (Below w.heap.size w w'))
  case atStart => exact ⟨(([] : List Int)), (0), (by first | rfl | (simp; done) | (simp [*]; done)), H', ⟨Nat.le_refl _⟩, ⟨by first | exact Kd.R_nil _ _ _ _ _ | exact Kd.N_nil _ _ _ _ _ | exact Kd.V_nil _ _ _ _ _ | exact Kd.Q_nil _ _ _ _ _ | exact Kd.S_nil _ _ _ _ _⟩, ⟨by repeat (first | (with_reducible first | exact HB.out | apply below_alloc | apply pw_below_drewN | apply below_drew1) | exact HB.out)⟩⟩
  case round =>
    clear H'
    try clear c1
    obtain ⟨x4_1, x9_1, rfl, HA, HK1, HO_4, HB⟩ := hrel
    cases gk with
    | zero => exact absurd HA.out (by simp [code_Encode.l0])
    | succ k1 =>
      have H := HA.out
      clear HA
      simp only [code_Encode.l0] at H
      by_cases c2 : x9_1 < (l0.length : Int)
      · rw [if_pos c2] at H
        have c2b0 : decide (x9_1 < (l0.length : Int)) = true := decide_eq_true c2
        clear c2
        by_cases c3 : 0 ≤ x9_1
        · rw [if_pos c3] at H
          have c3b0 : decide (0 ≤ x9_1) = true := decide_eq_true c3
          clear c3
          by_cases c4 : x9_1 < (l0.length : Int)
          · rw [if_pos c4] at H
            have c4b0 : decide (x9_1 < (l0.length : Int)) = true := decide_eq_true c4
            clear c4
            replace H := Option.bind_eq_some_iff.mp H
            obtain ⟨t109, A50, H⟩ := H
            replace H : (if t109 = true then ((some (([((rd_T47 l0 x9_1).f0) % 256, ((rd_T47 l0 x9_1).f1) % 256, (((rd_T47 l0 x9_1).f1) / 256) % 256, ((rd_T47 l0 x9_1).f2) % 256, (((rd_T47 l0 x9_1).f2) / 256) % 256] : List Int) : List Int)).bind fun y110 => (if x4_1.length + y110.length < 140737488355328 then (code_Encode.l0 k1 (x4_1 ++ y110) l0 (l0.length : Int) (wrap64 (x9_1 + 1))) else (none))) else (some (([] : List Int), false))) = some (r1, r2) := H
            have A5 := Aside0.mk A50
            clear A50
            by_cases c6 : t109 = true
            · subst c6
              have H1 : ((some (([((rd_T47 l0 x9_1).f0) % 256, ((rd_T47 l0 x9_1).f1) % 256, (((rd_T47 l0 x9_1).f1) / 256) % 256, ((rd_T47 l0 x9_1).f2) % 256, (((rd_T47 l0 x9_1).f2) / 256) % 256] : List Int) : List Int)).bind fun y110 => (if x4_1.length + y110.length < 140737488355328 then (code_Encode.l0 k1 (x4_1 ++ y110) l0 (l0.length : Int) (wrap64 (x9_1 + 1))) else (none))) = some (r1, r2) := by rw [if_pos rfl] at H; exact H
              clear H
              have H := H1
              clear H1
              obtain ⟨y110, hy110⟩ : ∃ y_ : List Int, y_ = (([((rd_T47 l0 x9_1).f0) % 256, ((rd_T47 l0 x9_1).f1) % 256, (((rd_T47 l0 x9_1).f1) / 256) % 256, ((rd_T47 l0 x9_1).f2) % 256, (((rd_T47 l0 x9_1).f2) / 256) % 256] : List Int)) := ⟨_, rfl⟩
              replace H : (if x4_1.length + y110.length < 140737488355328 then (code_Encode.l0 k1 (x4_1 ++ y110) l0 (l0.length : Int) (wrap64 (x9_1 + 1))) else (none)) = some (r1, r2) := by first | (rw [hy110]; with_reducible exact H) | (have H2_ := (Option.bind_some _ _).symm.trans H; rw [hy110]; with_reducible exact H2_) | (have H2_ := (Option.bind_some _ _).symm.trans H; with_reducible exact H2_) | with_reducible exact H | (rw [hy110]; exact H) | exact H
              have Ny110 := Aside0.mk hy110
              clear hy110
              by_cases c7 : x4_1.length + y110.length < 140737488355328
              · rw [if_pos c7] at H
                have LMc7 := Aside0.mk c7
                clear c7
                obtain ⟨y113, hy113⟩ : ∃ y_ : List Int, y_ = (x4_1 ++ y110) := ⟨_, rfl⟩
                replace H : (code_Encode.l0 k1 y113 l0 (l0.length : Int) (wrap64 (x9_1 + 1))) = some (r1, r2) := by first | (rw [hy113]; with_reducible exact H) | (have H2_ := (Option.bind_some _ _).symm.trans H; rw [hy113]; with_reducible exact H2_) | (have H2_ := (Option.bind_some _ _).symm.trans H; with_reducible exact H2_) | with_reducible exact H | (rw [hy113]; exact H) | exact H
                have Ny113 := Aside0.mk hy113
                clear hy113
                have H' := Aside0.mk H
                clear H
                have p107 : 0 ≤ (x9_1 : Int) := of_decide_eq_true (by first | (with_reducible assumption) | assumption)
                have q107 : x9_1 < (l0.length : Int) := of_decide_eq_true (by first | (with_reducible assumption) | assumption)
                obtain ⟨ad107, e107, hx107_0, hx107_1, hx107_2⟩ := at_T47 HR0.out x9_1 p107 q107
                cases e107
                replace hx107_0 := (HB.out.cell (World.block_lt_of_cell? w _ hx107_0)).trans hx107_0
                replace hx107_1 := (HB.out.cell (World.block_lt_of_cell? w _ hx107_1)).trans hx107_1
                replace hx107_2 := (HB.out.cell (World.block_lt_of_cell? w _ hx107_2)).trans hx107_2
                replace p107 := eq_true p107
                replace q107 := eq_true q107
                go_wp2_with (first | ((with_reducible refine gate_dst (N := 6) rfl ?_); refine box_event ?hg (N := 6) ?hd (cs := #[.int .i64 0, .int .i64 0, .int .i64 0]) (t := 47) ?hr ?_; (case hd => rfl); (case hg => rfl); (case hr => first | (go_simp; done) | (go_simp; rfl)); intro gb108 hg w8 hbox hb; have n0_ := Aside0.mk (Kd.R_below (by (with_reducible repeat (first | apply Kd.R_alloc | apply Kd.R_drewN | apply Kd.R_drew)); exact HO_4.out) hb); have n1_ := Aside0.mk (below_step (by repeat (first | (with_reducible first | exact HB.out | apply below_alloc | apply pw_below_drewN | apply below_drew1) | exact HB.out)) hb); have n2_ := Aside0.mk (hbox); have n3_ := Aside0.mk ((by rw [hg]; exact (below_size (by repeat (first | (with_reducible first | exact HB.out | apply below_alloc | apply pw_below_drewN | apply below_drew1) | exact HB.out))) : w.heap.size ≤ gb108)); have n4_ := Aside0.mk ((by rw [hg]; exact (below_size (by repeat (first | (with_reducible first | exact HB.out | apply below_alloc | apply pw_below_drewN | apply below_drew1) | exact HB.out))) : w.heap.size ≤ gb108)); clear HO_4; clear HB; have HO_4 := n0_; have HB := n1_; have BK108 := n2_; have GW108 := n3_; have GE108 := n4_; clear n0_ n1_ n2_ n3_ n4_; clear hb hbox hg; have hcz9_0 : w8.cell? ⟨gb108, 0, none⟩ = some (.int .i64 0) := (blk_cell BK108.out 0).trans rfl; have hcz9_1 : w8.cell? ⟨gb108, 1, none⟩ = some (.int .i64 0) := (blk_cell BK108.out 1).trans rfl; have hcz9_2 : w8.cell? ⟨gb108, 2, none⟩ = some (.int .i64 0) := (blk_cell BK108.out 2).trans rfl; have hfz9_0 := blk_frozen BK108.out 0; have hfz9_1 := blk_frozen BK108.out 1; have hfz9_2 := blk_frozen BK108.out 2) | ((with_reducible refine gate_callee (f := 31) rfl ?_); refine goesL_ (some 14) rfl rfl Tryd.func31 (by kernel_rfl) rfl #[.agg #[.int .i64 ((rd_T47 l0 x9_1).f0), .int .i64 ((rd_T47 l0 x9_1).f1), .int .i64 ((rd_T47 l0 x9_1).f2)]] rfl (by (try simp only [List.map_toArray, List.map_cons, List.map_nil]); first | done | rfl | (simp only [List.length_drop, List.length_take]; rfl)) ?_; (with_reducible refine (op_Right.calls ((rd_T47 l0 x9_1).f0) ((rd_T47 l0 x9_1).f1) ((rd_T47 l0 x9_1).f2) true _ A5.out (LaidOps.below HL_.out (by repeat (first | (with_reducible first | exact HB.out | apply below_alloc | apply pw_below_drewN | apply below_drew1 | refine below_set ?_ GE108.out) | exact HB.out)))).mono ?_); rintro e w10 ⟨rfl, hb⟩; refine ⟨_, rfl, ?_⟩; have n0_ := Aside0.mk (Kd.R_below (by (with_reducible repeat (first | apply Kd.R_alloc | apply Kd.R_drewN | apply Kd.R_drew)); exact (Kd.R_mono (Kd.R_far (p := ⟨gb108, 2, none⟩) (Kd.R_far (p := ⟨gb108, 1, none⟩) (Kd.R_far (p := ⟨gb108, 0, none⟩) (Kd.R_types HO_4.out BK108.out (by decide)) (fun _ hk => hk.2) (.int .i64 ((rd_T47 l0 x9_1).f0))) (fun _ hk => hk.2) (.int .i64 ((rd_T47 l0 x9_1).f1))) (fun _ hk => hk.2) (.int .i64 ((rd_T47 l0 x9_1).f2))) (fun _ h_ => h_.1))) hb); have n1_ := Aside0.mk (blk_below (g := gb108) (o := .cells #[.int .i64 ((rd_T47 l0 x9_1).f0), .int .i64 ((rd_T47 l0 x9_1).f1), .int .i64 ((rd_T47 l0 x9_1).f2)] 47 (0, 0)) (by (with_reducible repeat (first | refine blk_drewN ?_ _ | refine blk_drew ?_ | refine blk_alloc ?_ _)); refine blk_put (cs := #[.int .i64 ((rd_T47 l0 x9_1).f0), .int .i64 ((rd_T47 l0 x9_1).f1), .int .i64 0]) ?_ 2 _ rfl; (with_reducible repeat (first | refine blk_drewN ?_ _ | refine blk_drew ?_ | refine blk_alloc ?_ _)); refine blk_put (cs := #[.int .i64 ((rd_T47 l0 x9_1).f0), .int .i64 0, .int .i64 0]) ?_ 1 _ rfl; (with_reducible repeat (first | refine blk_drewN ?_ _ | refine blk_drew ?_ | refine blk_alloc ?_ _)); refine blk_put (cs := #[.int .i64 0, .int .i64 0, .int .i64 0]) ?_ 0 _ rfl; (with_reducible repeat (first | refine blk_drewN ?_ _ | refine blk_drew ?_ | refine blk_alloc ?_ _)); exact BK108.out) hb); have n2_ := Aside0.mk (below_step (by repeat (first | (with_reducible first | exact HB.out | apply below_alloc | apply pw_below_drewN | apply below_drew1 | refine below_set ?_ GE108.out) | exact HB.out)) hb); clear HO_4; clear BK108; clear HB; have HO_4 := n0_; have BK108 := n1_; have HB := n2_; clear n0_ n1_ n2_; (try clear hb); (try clear hb2); (try clear hk); (try clear hi); have hcz11_0 : w10.cell? ⟨gb108, 0, none⟩ = some (.int .i64 ((rd_T47 l0 x9_1).f0)) := (blk_cell BK108.out 0).trans rfl; have hcz11_1 : w10.cell? ⟨gb108, 1, none⟩ = some (.int .i64 ((rd_T47 l0 x9_1).f1)) := (blk_cell BK108.out 1).trans rfl; have hcz11_2 : w10.cell? ⟨gb108, 2, none⟩ = some (.int .i64 ((rd_T47 l0 x9_1).f2)) := (blk_cell BK108.out 2).trans rfl; have hfz11_0 := blk_frozen BK108.out 0; have hfz11_1 := blk_frozen BK108.out 1; have hfz11_2 := blk_frozen BK108.out 2) | ((with_reducible refine gate_dst (N := 34) rfl ?_); refine Kd.R_lit (Kd.int .u8) _ 5 ?hg (N := 34) ?hd (xs := ([((rd_T47 l0 x9_1).f0) % 256, ((rd_T47 l0 x9_1).f1) % 256, (((rd_T47 l0 x9_1).f1) / 256) % 256, ((rd_T47 l0 x9_1).f2) % 256, (((rd_T47 l0 x9_1).f2) / 256) % 256] : List Int)) (inner := [.int .u8 (((rd_T47 l0 x9_1).f0) % 256), .int .u8 (((rd_T47 l0 x9_1).f1) % 256), .int .u8 ((((rd_T47 l0 x9_1).f1) / 256) % 256), .int .u8 (((rd_T47 l0 x9_1).f2) % 256), .int .u8 ((((rd_T47 l0 x9_1).f2) / 256) % 256)]) (ok := fun _ => True) (okp := fun _ => True) ?hr ?hp (fun _ hk => hk) trivial (Below.refl _ _) (Nat.le_refl _) (by simp) ?_; (case hd => rfl); (case hg => rfl); (case hr => first | (go_simp; done) | (go_simp; rfl)); (case hp => exact (Reps.one (show Kd.M (Kd.int .u8) _ _ _ (((rd_T47 l0 x9_1).f0) % 256) [.int .u8 (((rd_T47 l0 x9_1).f0) % 256)] from rfl) (Reps.one (show Kd.M (Kd.int .u8) _ _ _ (((rd_T47 l0 x9_1).f1) % 256) [.int .u8 (((rd_T47 l0 x9_1).f1) % 256)] from rfl) (Reps.one (show Kd.M (Kd.int .u8) _ _ _ ((((rd_T47 l0 x9_1).f1) / 256) % 256) [.int .u8 ((((rd_T47 l0 x9_1).f1) / 256) % 256)] from rfl) (Reps.one (show Kd.M (Kd.int .u8) _ _ _ (((rd_T47 l0 x9_1).f2) % 256) [.int .u8 (((rd_T47 l0 x9_1).f2) % 256)] from rfl) (Reps.one (show Kd.M (Kd.int .u8) _ _ _ ((((rd_T47 l0 x9_1).f2) / 256) % 256) [.int .u8 ((((rd_T47 l0 x9_1).f2) / 256) % 256)] from rfl) (Reps.none _ _))))))); intro v111 w12 ho13 hb hg_ hnew_; clear hg_ hnew_; (first | rw [← Ny110.out] at ho13 | (simp only [Int.reduceToNat] at ho13; rw [← Ny110.out] at ho13)); have n0_ := Aside0.mk (Kd.R_elder' (by (with_reducible repeat (first | apply Kd.R_alloc | apply Kd.R_drewN | apply Kd.R_drew)); exact HO_4.out) (Kd.R_base ho13) hb); have n1_ := Aside0.mk (Kd.R_lower (Kd.R_new' ho13 (Kd.R_lt (by (with_reducible repeat (first | apply Kd.R_alloc | apply Kd.R_drewN | apply Kd.R_drew)); exact HO_4.out))) (below_size (by repeat (first | (with_reducible first | exact HB.out | apply below_alloc | apply pw_below_drewN | apply below_drew1 | refine below_set ?_ GE108.out) | exact HB.out)))); have n2_ := Aside0.mk (blk_below (g := gb108) (o := .cells #[.int .i64 ((rd_T47 l0 x9_1).f0), .int .i64 ((rd_T47 l0 x9_1).f1), .int .i64 ((rd_T47 l0 x9_1).f2)] 47 (0, 0)) (by (with_reducible repeat (first | refine blk_drewN ?_ _ | refine blk_drew ?_ | refine blk_alloc ?_ _)); exact BK108.out) hb); have n3_ := Aside0.mk (below_step (by repeat (first | (with_reducible first | exact HB.out | apply below_alloc | apply pw_below_drewN | apply below_drew1 | refine below_set ?_ GE108.out) | exact HB.out)) hb); clear HO_4; clear BK108; clear HB; have HO_4 := n0_; have HO112 := n1_; have BK108 := n2_; have HB := n3_; clear n0_ n1_ n2_ n3_; clear hb ho13; obtain ⟨Ao15, co15, eo15⟩ := Kd.R_slice HO112.out; subst eo15) | ((with_reducible refine gate_builtin (b := .append) (xs := #[.tmp 16, .tmp 34]) rfl ?_); at_builtin; refine Kd.R_append_rows (Kd.int .u8) (w0 := w) w.heap.size rfl (.tmp 16) (.tmp 34) 22 5 (.int .u8 0) 1 rfl Tryd.underlying22 info5 rfl (by decide) (by omega) u4 x4_1 y110 _ _ _ (fun k_ => some k_ ≠ (.slice Ao15 y110.length co15 : Value).ownBlock) (fun _ => False) rfl rfl ?aO ?aR (fun _ _ h => h) (fun _ h => h.elim) ?aF ?aB ?aS ?aL ?_; (case aR => repeat (first | exact (Kd.R_reads' HO112.out).2.2 | (with_reducible refine Kd.C_alloc ?_ _) | (with_reducible refine Kd.C_drewN ?_ _) | (with_reducible refine Kd.C_drew ?_))); (case aB => exact (by repeat (first | (with_reducible first | exact HB.out | apply below_alloc | apply pw_below_drewN | apply below_drew1 | refine below_set ?_ GE108.out) | exact HB.out))); (case aF => exact (fun k_ hk => Kd.fresh' (Kd.R_lt (by (with_reducible repeat (first | apply Kd.R_alloc | apply Kd.R_drewN | apply Kd.R_drew)); exact HO112.out)) k_ hk)); (case aO => exact (by (with_reducible repeat (first | apply Kd.R_alloc | apply Kd.R_drewN | apply Kd.R_drew)); exact Kd.R_mono HO_4.out (fun _ hk => hk.2))); (case aS => exact (below_size (by repeat (first | (with_reducible first | exact HB.out | apply below_alloc | apply pw_below_drewN | apply below_drew1 | refine below_set ?_ GE108.out) | exact HB.out)))); (case aL => have := LMc7.out; omega); intro v114 w14 ho hb hg hat; rw [← Ny113.out] at ho; have n0_ := Aside0.mk (blk_grown (g := gb108) (o := .cells #[.int .i64 ((rd_T47 l0 x9_1).f0), .int .i64 ((rd_T47 l0 x9_1).f1), .int .i64 ((rd_T47 l0 x9_1).f2)] 47 (0, 0)) (by (with_reducible repeat (first | refine blk_drewN ?_ _ | refine blk_drew ?_ | refine blk_alloc ?_ _)); exact BK108.out) hg (Kd.R_ne HO_4.out BK108.out (by decide))); have n1_ := Aside0.mk (Kd.R_after (ok := (fun _ => True)) (by (with_reducible repeat (first | apply Kd.R_alloc | apply Kd.R_drewN | apply Kd.R_drew)); exact HO112.out) hg hat); have n2_ := Aside0.mk (hb); have n3_ := Aside0.mk (ho); clear BK108; clear HO112; clear HB; clear HO_4; have BK108 := n0_; have HO112 := n1_; have HB := n2_; have HO115 := n3_; clear n0_ n1_ n2_ n3_; clear ho hb hg hat))
                go_roundg k1
                case measure => have := HK1.out; omega
                case rel => exact ⟨(y113), (wrap64 (x9_1 + 1)), (by first | rfl | (simp; done) | (simp [*]; done)), H', ⟨by have := HK1.out; omega⟩, ⟨by (with_reducible repeat (first | apply Kd.R_alloc | apply Kd.R_drewN | apply Kd.R_drew)); exact Kd.R_mono HO115.out (fun _ hk => trivial)⟩, ⟨by repeat (first | (with_reducible first | exact HB.out | apply below_alloc | apply pw_below_drewN | apply below_drew1 | refine below_set ?_ GE108.out) | exact HB.out)⟩⟩
              · rw [if_neg c7] at H
                exact absurd H (by simp)
            · replace c6 := Bool.eq_false_iff.mpr c6
              subst c6
              have H1 : (some (([] : List Int), false)) = some (r1, r2) := by rw [if_neg (show ¬ (false = true) by decide)] at H; exact H
              clear H
              have H := H1
              clear H1
              simp only [Option.some.injEq, Prod.mk.injEq] at H
              obtain ⟨rfl, rfl⟩ := H
              have p107 : 0 ≤ (x9_1 : Int) := of_decide_eq_true (by first | (with_reducible assumption) | assumption)
              have q107 : x9_1 < (l0.length : Int) := of_decide_eq_true (by first | (with_reducible assumption) | assumption)
              obtain ⟨ad107, e107, hx107_0, hx107_1, hx107_2⟩ := at_T47 HR0.out x9_1 p107 q107
              cases e107
              replace hx107_0 := (HB.out.cell (World.block_lt_of_cell? w _ hx107_0)).trans hx107_0
              replace hx107_1 := (HB.out.cell (World.block_lt_of_cell? w _ hx107_1)).trans hx107_1
              replace hx107_2 := (HB.out.cell (World.block_lt_of_cell? w _ hx107_2)).trans hx107_2
              replace p107 := eq_true p107
              replace q107 := eq_true q107
              go_wp2_with (first | ((with_reducible refine gate_dst (N := 6) rfl ?_); refine box_event ?hg (N := 6) ?hd (cs := #[.int .i64 0, .int .i64 0, .int .i64 0]) (t := 47) ?hr ?_; (case hd => rfl); (case hg => rfl); (case hr => first | (go_simp; done) | (go_simp; rfl)); intro gb108 hg w16 hbox hb; have n0_ := Aside0.mk (Kd.R_below (by (with_reducible repeat (first | apply Kd.R_alloc | apply Kd.R_drewN | apply Kd.R_drew)); exact HO_4.out) hb); have n1_ := Aside0.mk (below_step (by repeat (first | (with_reducible first | exact HB.out | apply below_alloc | apply pw_below_drewN | apply below_drew1) | exact HB.out)) hb); have n2_ := Aside0.mk (hbox); have n3_ := Aside0.mk ((by rw [hg]; exact (below_size (by repeat (first | (with_reducible first | exact HB.out | apply below_alloc | apply pw_below_drewN | apply below_drew1) | exact HB.out))) : w.heap.size ≤ gb108)); have n4_ := Aside0.mk ((by rw [hg]; exact (below_size (by repeat (first | (with_reducible first | exact HB.out | apply below_alloc | apply pw_below_drewN | apply below_drew1) | exact HB.out))) : w.heap.size ≤ gb108)); clear HO_4; clear HB; have HO_4 := n0_; have HB := n1_; have BK108 := n2_; have GW108 := n3_; have GE108 := n4_; clear n0_ n1_ n2_ n3_ n4_; clear hb hbox hg; have hcz17_0 : w16.cell? ⟨gb108, 0, none⟩ = some (.int .i64 0) := (blk_cell BK108.out 0).trans rfl; have hcz17_1 : w16.cell? ⟨gb108, 1, none⟩ = some (.int .i64 0) := (blk_cell BK108.out 1).trans rfl; have hcz17_2 : w16.cell? ⟨gb108, 2, none⟩ = some (.int .i64 0) := (blk_cell BK108.out 2).trans rfl; have hfz17_0 := blk_frozen BK108.out 0; have hfz17_1 := blk_frozen BK108.out 1; have hfz17_2 := blk_frozen BK108.out 2) | ((with_reducible refine gate_callee (f := 31) rfl ?_); refine goesL_ (some 14) rfl rfl Tryd.func31 (by kernel_rfl) rfl #[.agg #[.int .i64 ((rd_T47 l0 x9_1).f0), .int .i64 ((rd_T47 l0 x9_1).f1), .int .i64 ((rd_T47 l0 x9_1).f2)]] rfl (by (try simp only [List.map_toArray, List.map_cons, List.map_nil]); first | done | rfl | (simp only [List.length_drop, List.length_take]; rfl)) ?_; (with_reducible refine (op_Right.calls ((rd_T47 l0 x9_1).f0) ((rd_T47 l0 x9_1).f1) ((rd_T47 l0 x9_1).f2) false _ A5.out (LaidOps.below HL_.out (by repeat (first | (with_reducible first | exact HB.out | apply below_alloc | apply pw_below_drewN | apply below_drew1 | refine below_set ?_ GE108.out) | exact HB.out)))).mono ?_); rintro e w18 ⟨rfl, hb⟩; refine ⟨_, rfl, ?_⟩; have n0_ := Aside0.mk (Kd.R_below (by (with_reducible repeat (first | apply Kd.R_alloc | apply Kd.R_drewN | apply Kd.R_drew)); exact (Kd.R_mono (Kd.R_far (p := ⟨gb108, 2, none⟩) (Kd.R_far (p := ⟨gb108, 1, none⟩) (Kd.R_far (p := ⟨gb108, 0, none⟩) (Kd.R_types HO_4.out BK108.out (by decide)) (fun _ hk => hk.2) (.int .i64 ((rd_T47 l0 x9_1).f0))) (fun _ hk => hk.2) (.int .i64 ((rd_T47 l0 x9_1).f1))) (fun _ hk => hk.2) (.int .i64 ((rd_T47 l0 x9_1).f2))) (fun _ h_ => h_.1))) hb); have n1_ := Aside0.mk (blk_below (g := gb108) (o := .cells #[.int .i64 ((rd_T47 l0 x9_1).f0), .int .i64 ((rd_T47 l0 x9_1).f1), .int .i64 ((rd_T47 l0 x9_1).f2)] 47 (0, 0)) (by (with_reducible repeat (first | refine blk_drewN ?_ _ | refine blk_drew ?_ | refine blk_alloc ?_ _)); refine blk_put (cs := #[.int .i64 ((rd_T47 l0 x9_1).f0), .int .i64 ((rd_T47 l0 x9_1).f1), .int .i64 0]) ?_ 2 _ rfl; (with_reducible repeat (first | refine blk_drewN ?_ _ | refine blk_drew ?_ | refine blk_alloc ?_ _)); refine blk_put (cs := #[.int .i64 ((rd_T47 l0 x9_1).f0), .int .i64 0, .int .i64 0]) ?_ 1 _ rfl; (with_reducible repeat (first | refine blk_drewN ?_ _ | refine blk_drew ?_ | refine blk_alloc ?_ _)); refine blk_put (cs := #[.int .i64 0, .int .i64 0, .int .i64 0]) ?_ 0 _ rfl; (with_reducible repeat (first | refine blk_drewN ?_ _ | refine blk_drew ?_ | refine blk_alloc ?_ _)); exact BK108.out) hb); have n2_ := Aside0.mk (below_step (by repeat (first | (with_reducible first | exact HB.out | apply below_alloc | apply pw_below_drewN | apply below_drew1 | refine below_set ?_ GE108.out) | exact HB.out)) hb); clear HO_4; clear BK108; clear HB; have HO_4 := n0_; have BK108 := n1_; have HB := n2_; clear n0_ n1_ n2_; (try clear hb); (try clear hb2); (try clear hk); (try clear hi)))
              go_ret2
              exact ⟨_, by first | rfl | (simp [errW_none, errW_some] <;> rfl) | (simp [*, errW_none, errW_some] <;> rfl), by first | exact Kd.R_nil _ _ _ _ _ | exact Kd.N_nil _ _ _ _ _ | exact Kd.V_nil _ _ _ _ _ | exact Kd.Q_nil _ _ _ _ _ | exact Kd.S_nil _ _ _ _ _, by repeat (first | (with_reducible first | exact HB.out | apply below_alloc | apply pw_below_drewN | apply below_drew1 | refine below_set ?_ GE108.out) | exact HB.out)⟩
          · rw [if_neg c4] at H
            exact absurd H (by simp)
        · rw [if_neg c3] at H
          exact absurd H (by simp)
      · rw [if_neg c2] at H
        have c2b0 : decide (x9_1 < (l0.length : Int)) = false := decide_eq_false c2
        clear c2
        simp only [Option.some.injEq, Prod.mk.injEq] at H
        obtain ⟨rfl, rfl⟩ := H
        go_wp2
        go_ret2
        exact ⟨_, by first | rfl | (simp [errW_none, errW_some] <;> rfl) | (simp [*, errW_none, errW_some] <;> rfl), by (with_reducible repeat (first | apply Kd.R_alloc | apply Kd.R_drewN | apply Kd.R_drew)); exact HO_4.out, by repeat (first | (with_reducible first | exact HB.out | apply below_alloc | apply pw_below_drewN | apply below_drew1) | exact HB.out)⟩

/-! ### ladderbacklaw13_awake: function 9 -/
def ladderbacklaw13_awake.f (k : Nat)  : Option (Bool) := (code_Encode.f k (([(⟨35, 2, 258⟩ : S47)] : List (S47)))).bind fun bt119 => (if bt119.2 = true then (some ((strOfNums bt119.1).toList == ([35, 2, 0, 2, 1] : List UInt8))) else (some false))
theorem ladderbacklaw13_awake.mono : ∀ k, LeO (ladderbacklaw13_awake.f k ) (ladderbacklaw13_awake.f (k + 1) ) := by
  intro  k
  unfold ladderbacklaw13_awake.f
  repeat' first
      | (with_reducible exact code_Encode.mono _ _)
      | (with_reducible exact LeO.refl _)
      | (with_reducible exact LeO.none _)
      | (with_reducible refine LeO.ite ?_ ?_)
      | (with_reducible refine LeO.bind ?_ (fun _ => ?_))
      | exact code_Encode.mono _ _
      | exact LeO.none _
      | refine LeO.ite ?_ ?_
      | refine LeO.bind ?_ (fun _ => ?_)
-- NOT PRINTED: function 47 (octet_New)

-- NOT PRINTED: function 70 (octet_Reader_next)

-- NOT PRINTED: function 51 (octet_Reader_Num)

/-! ### op_Real: function 58 -/
def op_Real.f (a0 : Int) : Option (Bool) := if a0 ≥ 48 then (some (decide (a0 ≤ 55))) else (some false)
set_option maxHeartbeats 8000000 in
set_option maxRecDepth 100000 in
theorem op_Real.calls (a0 : Int) (r : Bool) (w : World) (h : op_Real.f a0 = some r) :
    Calls Tryd.prog 58 #[.int .i64 a0] w fun e w' => e = .returned (.bool r) ∧ Drawn0 w w' := by
  have H : (if a0 ≥ 48 then (some (decide (a0 ≤ 55))) else (some false)) = some r := h
  clear h
  by_cases c2 : a0 ≥ 48
  · rw [if_pos c2] at H
    have c2b0 : decide (48 ≤ a0) = true := decide_eq_true c2
    clear c2
    obtain rfl := Option.some.inj H
    go_enter Tryd.func58, Tryd.ntmps58
    go_wp2
    go_ret
    exact ⟨by first | rfl | (simp; done) | (simp [*]; done), by repeat (first | exact Drawn0.refl _ | apply Drawn0.step)⟩
  · rw [if_neg c2] at H
    have c2b0 : decide (48 ≤ a0) = false := decide_eq_false c2
    clear c2
    obtain rfl := Option.some.inj H
    go_enter Tryd.func58, Tryd.ntmps58
    go_wp2
    go_ret
    exact ⟨by first | rfl | (simp; done) | (simp [*]; done), by repeat (first | exact Drawn0.refl _ | apply Drawn0.step)⟩

-- NOT PRINTED: function 29 (code_one)

/-! ### ladderbackref12_Shape: function 59 -/
mutual
def ladderbackref12_Shape.j0 : Nat → Int → Bool → Option (Int × Int)
  | 0, _, _ => none
  | k + 1, x0, x10 => if x10 = true then (some (0, 0)) else ((some (([10, 1, 2, 2, 3, 3, 2, 2] : List Int) : List Int)).bind fun y127 => (if x0 < 8 then (if x0 = 0 then (some (10, 10)) else (if 0 ≤ x0 then (if x0 < (y127.length : Int) then (some (rd y127 x0, 0)) else (none)) else (none))) else (if x0 < 26 then (some (4, 0)) else (if x0 = 26 then (some (4, 4)) else (if x0 < 30 then (ladderbackref12_Shape.j1 k x0 true) else (ladderbackref12_Shape.j1 k x0 (x0 == 34)))))))
def ladderbackref12_Shape.j1 : Nat → Int → Bool → Option (Int × Int)
  | 0, _, _ => none
  | k + 1, x0, x29 => if x29 = true then (some (0, 0)) else (if x0 < 32 then (some (5, 10)) else (if x0 = 32 then (some (6, 10)) else (if x0 = 33 then (some (7, 0)) else (if x0 = 36 then (some (8, 0)) else (some (8, 9))))))
end
def ladderbackref12_Shape.f (k : Nat) (a0 : Int) : Option (Int × Int) := if a0 < 0 then (ladderbackref12_Shape.j0 k a0 true) else (ladderbackref12_Shape.j0 k a0 (decide (a0 > 37)))
/-! ### ladderbackref12_may: function 60 -/
def ladderbackref12_may.f (a0 : Int) (a1 : Int) : Option (Bool) := if a0 = 0 then (some true) else (if a1 = 0 then (some false) else (if a0 > 0 then (some (decide (a0 < 65536))) else (some false)))
/-! ### ladderbackref12_Right: function 30 -/
def ladderbackref12_Right.f (k : Nat) (a0_0 : Int) (a0_1 : Int) (a0_2 : Int) : Option (Bool) := (ladderbackref12_Shape.f k a0_0).bind fun bt132 => (if a0_0 ≥ 0 then (if a0_0 ≤ 37 then ((ladderbackref12_may.f a0_1 bt132.1).bind fun t134 => (if t134 = true then ((ladderbackref12_may.f a0_2 bt132.2).bind fun t135 => (some t135)) else (some false))) else (some false)) else (some false))
end Go.Proofs.YthbcliofjfhmbaaDoor.PCod
end

section
/- Instructions' bytes, plainly: what is encoded, and what bytes say; the program's and the document's tell the same. -/
namespace Go.Proofs.YthbcliofjfhmbaaDoor.Pure
open Go.RowKit Go.Proofs.YthbcliofjfhmbaaDoor.PCod Go.Proofs.YthbcliofjfhmbaaDoor.Given Go.Proofs.YthbcliofjfhmbaaDoorW.PrintWords Go.Proofs.YthbcliofjfhmbaaDoorW.PrintLast
set_option linter.unusedVariables false
set_option linter.unusedSimpArgs false
theorem w64 (x : Int) (h0 : -9223372036854775808 ≤ x) (h1 : x < 9223372036854775808) : wrap64 x = x := by unfold wrap64; omega
def mayF (n w : Int) : Bool := if w = 0 then n == 0 else decide (0 ≤ n) && decide (n ≤ 65535)
theorem may_is (n w : Int) : op_may.f n w = some (mayF n w) := by
  unfold op_may.f mayF
  by_cases h : w = 0
  · rw [if_pos h, if_pos h]
  · rw [if_neg h, if_neg h]
    by_cases h0 : 0 ≤ n
    · rw [if_pos h0]; simp [h0]
    · rw [if_neg h0]; simp [h0]
theorem is_is (x : Int) : op_Is.f x = some (isOp x) := by
  unfold op_Is.f isOp
  by_cases h0 : 0 ≤ x
  · rw [if_pos h0]; simp [h0]
  · rw [if_neg h0]; simp [h0]
theorem right_is (x y z : Int) : right3 x y z = (isOp x && mayF y (shapeA x) && mayF z (shapeB x)) := by
  have h : op_Right.f x y z = some (right3 x y z) := right_some x y z
  have h2 : op_Right.f x y z = some (isOp x && mayF y (shapeA x) && mayF z (shapeB x)) := by
    unfold op_Right.f op_Shape.f
    simp only [Option.bind_some, is_is, may_is]
    cases isOp x <;> cases mayF y (shapeA x) <;> simp
  exact Option.some.inj (h.symm.trans h2)
theorem real_is (x : Int) : isReal x = (decide (48 ≤ x) && decide (x ≤ 55)) := by
  have h := real_some x
  unfold POp.op_Real.f at h
  by_cases h0 : x ≥ 48
  · rw [if_pos h0] at h
    rw [← Option.some.inj h]; simp [h0]
  · rw [if_neg h0] at h
    rw [← Option.some.inj h]; simp [h0]
end Go.Proofs.YthbcliofjfhmbaaDoor.Pure
end

section
/- Printed by a program of this session (wip/pg.py, over the print of the kit): functions, their Lean twins, and the proofs that the calls come to them; each under the conditions that it names. -/
namespace Go.Proofs.YthbcliofjfhmbaaDoor.PCod
open Go.Proofs.YthbcliofjfhmbaaDoor.Given
open Go.RowKit Go.Proofs.YthbcliofjfhmbaaDoorW.PrintWords Go.Proofs.YthbcliofjfhmbaaDoorW.PrintLast Go.Proofs.YthbcliofjfhmbaaDoorW.PrintMore
attribute [local go_sem] max2_int min2_int max_two min_two max_three min_three max_four min_four   -- for this text's walks alone
set_option linter.unusedVariables false
set_option linter.unusedSimpArgs false

theorem eqA47 (d : Nat) (w : World) (x0 y0 : Int) (x1 y1 : Int) (x2 y2 : Int) :
    (Op.equalIn (d + 2) 47 (.agg #[.int .i64 x0, .int .i64 x1, .int .i64 x2]) (.agg #[.int .i64 y0, .int .i64 y1, .int .i64 y2])).run Tryd.prog w = .ok (x0 == y0 && (x1 == y1 && (x2 == y2))) w := by
  refine eqA_of Tryd.underlying47 (by kernel_rfl) ?_
  refine eqf_cons (by rfl) (by go_simp; rfl) (by go_simp; rfl) (by go_simp) ?_
  refine eqf_cons (by rfl) (by go_simp; rfl) (by go_simp; rfl) (by go_simp) ?_
  exact eqf_last (by rfl) (by go_simp; rfl) (by go_simp; rfl) (by go_simp)
end Go.Proofs.YthbcliofjfhmbaaDoor.PCod
end

section
/- Printed by a program of this session (wip/pg.py, over the print of the kit): functions, their Lean twins, and the proofs that the calls come to them; each under the conditions that it names. -/
namespace Go.Proofs.YthbcliofjfhmbaaDoor.PCod
open Go.Proofs.YthbcliofjfhmbaaDoor.Given
open Go.RowKit Go.Proofs.YthbcliofjfhmbaaDoorW.PrintWords Go.Proofs.YthbcliofjfhmbaaDoorW.PrintLast Go.Proofs.YthbcliofjfhmbaaDoorW.PrintMore
attribute [local go_sem] max2_int min2_int max_two min_two max_three min_three max_four min_four   -- for this text's walks alone
set_option linter.unusedVariables false
set_option linter.unusedSimpArgs false

attribute [local go_sem high] eqA47
/-! ### ladderbackref13_Decode: function 11 -/
mutual
def ladderbackref13_Decode.l0 : Nat → List Int → List (S47) → Int → Option ((List (S47)) × Int × Int)
  | 0, _, _, _ => none
  | k + 1, x0, x5, x6 => if x6 < (x0.length : Int) then (if (wrap64 ((x0.length : Int) - x6)) < 5 then (some (([] : List (S47)), wrap64 (Int.tdiv x6 5), 1)) else (if 0 ≤ x6 then (if 0 ≤ (wrap64 (x6 + 1)) then (if (wrap64 (x6 + 1)) < (x0.length : Int) then (if 0 ≤ (wrap64 (x6 + 2)) then (if (wrap64 (x6 + 2)) < (x0.length : Int) then (if 0 ≤ (wrap64 (x6 + 3)) then (if (wrap64 (x6 + 3)) < (x0.length : Int) then (if 0 ≤ (wrap64 (x6 + 4)) then (if (wrap64 (x6 + 4)) < (x0.length : Int) then (if (wrap64 (rd x0 x6)) ≥ 48 then (ladderbackref13_Decode.j1 k x0 x5 x6 (decide ((wrap64 (rd x0 x6)) ≤ 55)) (wrap64 (rd x0 x6)) (wrap64 ((wrap64 (rd x0 (wrap64 (x6 + 1)))) + (wrap64 (256 * (wrap64 (rd x0 (wrap64 (x6 + 2)))))))) (wrap64 ((wrap64 (rd x0 (wrap64 (x6 + 3)))) + (wrap64 (256 * (wrap64 (rd x0 (wrap64 (x6 + 4))))))))) else (ladderbackref13_Decode.j1 k x0 x5 x6 false (wrap64 (rd x0 x6)) (wrap64 ((wrap64 (rd x0 (wrap64 (x6 + 1)))) + (wrap64 (256 * (wrap64 (rd x0 (wrap64 (x6 + 2)))))))) (wrap64 ((wrap64 (rd x0 (wrap64 (x6 + 3)))) + (wrap64 (256 * (wrap64 (rd x0 (wrap64 (x6 + 4)))))))))) else (none)) else (none)) else (none)) else (none)) else (none)) else (none)) else (none)) else (none)) else (none))) else (some (x5, 0, 0))
def ladderbackref13_Decode.j1 : Nat → List Int → List (S47) → Int → Bool → Int → Int → Int → Option ((List (S47)) × Int × Int)
  | 0, _, _, _, _, _, _, _ => none
  | k + 1, x0, x5, x6, x62, x142000, x142001, x142002 => if x62 = true then (some (([] : List (S47)), wrap64 (Int.tdiv x6 5), 6)) else ((ladderbackref12_Right.f k x142000 x142001 x142002).bind fun t142 => (if t142 = true then (if x5.length < 5864062014805 then (ladderbackref13_Decode.l0 k x0 (x5 ++ [(⟨x142000, x142001, x142002⟩ : S47)]) (wrap64 (x6 + 5))) else (none)) else (some (([] : List (S47)), wrap64 (Int.tdiv x6 5), 7))))
end
def ladderbackref13_Decode.f (k : Nat) (l0 : List Int) : Option ((List (S47)) × Int × Int) := ladderbackref13_Decode.l0 k l0 ([] : List (S47)) 0
def ladderbackref13_Decode.T7 : Bool × List (List Nat × List Nat) := (true, [([], []), ([], []), ([0, 1], [0, 1]), ([2], [2]), ([3], [3]), ([], []), ([], []), ([6], [6]), ([5, 7], [5, 7]), ([8], [8]), ([9], [9]), ([], []), ([], []), ([12], [12]), ([11, 13], [11, 13]), ([14], [14]), ([15], [15]), ([16], [16]), ([10, 17], [10, 17]), ([], []), ([], []), ([20], [20]), ([19, 21], [19, 21]), ([22], [22]), ([23], [23]), ([], []), ([], []), ([26], [26]), ([25, 27], [25, 27]), ([28], [28]), ([29], [29]), ([30], [30]), ([24, 31], [24, 31]), ([4, 18, 32], [4, 18, 32]), ([], []), ([34, 33, 0, 1, 2, 3, 4, 5, 6, 7, 8, 9, 10, 11, 12, 13, 14, 15, 16, 17, 18, 19, 20, 21, 22, 23, 24, 25, 26, 27, 28, 29, 30, 31, 32, 33, 34], [33, 34])])
def ladderbackref13_Decode.B7 : List Nat := [0, 0, 3, 7, 15, 0, 0, 64, 224, 480, 992, 0, 0, 4096, 14336, 30720, 63488, 129024, 262112, 0, 0, 1048576, 3670016, 7864320, 16252928, 0, 0, 67108864, 234881024, 503316480, 1040187392, 2113929216, 4294443008, 8589934591, 0, 34359738367]
/-! ### ladderbackref13_Same: function 12 -/
def ladderbackref13_Same.l0 : Nat → List (S47) → List (S47) → Int → Option (Bool)
  | 0, _, _, _ => none
  | k + 1, x0, x1, x5 => if x5 < (x0.length : Int) then (if 0 ≤ x5 then (if x5 < (x1.length : Int) then (if (!(((rd_T47 x0 x5).f0) == ((rd_T47 x1 x5).f0)) || (!(((rd_T47 x0 x5).f1) == ((rd_T47 x1 x5).f1)) || (!(((rd_T47 x0 x5).f2) == ((rd_T47 x1 x5).f2))))) = true then (some false) else (ladderbackref13_Same.l0 k x0 x1 (wrap64 (x5 + 1)))) else (none)) else (none)) else (some true)
def ladderbackref13_Same.f (k : Nat) (l0 : List (S47)) (l1 : List (S47)) : Option (Bool) := if (l0.length : Int) = (l1.length : Int) then (ladderbackref13_Same.l0 k l0 l1 0) else (some false)
set_option maxHeartbeats 8000000 in
set_option maxRecDepth 100000 in
theorem ladderbackref13_Same.calls (k : Nat) (A0 : Option Addr) (c0 : Nat) (l0 : List (S47)) (A1 : Option Addr) (c1 : Nat) (l1 : List (S47)) (r : Bool) (w : World) (hr0 : Kd.C k47 w A0 l0.length l0) (hc0 : l0.length ≤ c0) (hr1 : Kd.C k47 w A1 l1.length l1) (hc1 : l1.length ≤ c1) (h : ladderbackref13_Same.f k l0 l1 = some r) :
    Calls Tryd.prog 12 #[.slice A0 l0.length c0, .slice A1 l1.length c1] w fun e w' => e = .returned (.bool r) ∧ Drawn0 w w' := by
  have hu47 := Tryd.underlying47
  have HR0 := Aside0.mk hr0
  have HC0 := Aside0.mk hc0
  clear hr0 hc0
  have HR1 := Aside0.mk hr1
  have HC1 := Aside0.mk hc1
  clear hr1 hc1
  have H : (if (l0.length : Int) = (l1.length : Int) then (ladderbackref13_Same.l0 k l0 l1 0) else (some false)) = some r := h
  clear h
  by_cases c3 : (l0.length : Int) = (l1.length : Int)
  · rw [if_pos c3] at H
    have c3b0 : ((l0.length : Int) == (l1.length : Int)) = true := beq_iff_eq.mpr c3
    have c3b1 : ((l0.length : Int) != (l1.length : Int)) = false := bne_eq_false_iff_eq.mpr c3
    have c3b2 : (l0.length == l1.length) = true := by first | simpa using c3 | (simp at c3 ⊢; omega)
    clear c3
    have H' := Aside0.mk H
    clear H
    go_enter Tryd.func12, Tryd.ntmps12
    go_wp2
    repeat (go_quiet (fail); try go_wp2)
    go_loopg [5] k (fun kq v5 w' => ∃ (x5_1 : Int), v5 = .int .i64 x5_1 ∧ Aside0 (ladderbackref13_Same.l0 kq l0 l1 x5_1 = some r) ∧ Aside0 (kq ≤ k) ∧ Drawn0 w w')
    case atStart => exact ⟨(0), (by first | rfl | (simp; done) | (simp [*]; done)), H', ⟨Nat.le_refl _⟩, by repeat (first | exact Drawn0.refl _ | apply Drawn0.step)⟩
    case round =>
      clear H'
      try clear c1
      try clear p2
      try clear c3
      try clear c3b0
      try clear c3b1
      try clear c3b2
      obtain ⟨x5_1, rfl, HA, HK1, ⟨m1, rfl⟩⟩ := hrel
      cases gk with
      | zero => exact absurd HA.out (by simp [ladderbackref13_Same.l0])
      | succ k1 =>
        have H := HA.out
        clear HA
        simp only [ladderbackref13_Same.l0] at H
        by_cases c4 : x5_1 < (l0.length : Int)
        · rw [if_pos c4] at H
          have c4b0 : decide (x5_1 < (l0.length : Int)) = true := decide_eq_true c4
          clear c4
          by_cases c5 : 0 ≤ x5_1
          · rw [if_pos c5] at H
            have c5b0 : decide (0 ≤ x5_1) = true := decide_eq_true c5
            clear c5
            by_cases c6 : x5_1 < (l1.length : Int)
            · rw [if_pos c6] at H
              have c6b0 : decide (x5_1 < (l1.length : Int)) = true := decide_eq_true c6
              clear c6
              by_cases c7 : (!(((rd_T47 l0 x5_1).f0) == ((rd_T47 l1 x5_1).f0)) || (!(((rd_T47 l0 x5_1).f1) == ((rd_T47 l1 x5_1).f1)) || (!(((rd_T47 l0 x5_1).f2) == ((rd_T47 l1 x5_1).f2))))) = true
              · rw [if_pos c7] at H
                have c7b0 : (!(((rd_T47 l0 x5_1).f0) == ((rd_T47 l1 x5_1).f0)) || (!(((rd_T47 l0 x5_1).f1) == ((rd_T47 l1 x5_1).f1)) || (!(((rd_T47 l0 x5_1).f2) == ((rd_T47 l1 x5_1).f2))))) = true := c7
                clear c7
                obtain rfl := Option.some.inj H
                have p146 : 0 ≤ (x5_1 : Int) := of_decide_eq_true (by first | (with_reducible assumption) | assumption)
                have q146 : x5_1 < (l0.length : Int) := of_decide_eq_true (by first | (with_reducible assumption) | assumption)
                obtain ⟨ad146, e146, hx146_0, hx146_1, hx146_2⟩ := at_T47 HR0.out x5_1 p146 q146
                cases e146
                replace p146 := eq_true p146
                replace q146 := eq_true q146
                have p147 : 0 ≤ (x5_1 : Int) := of_decide_eq_true (by first | (with_reducible assumption) | assumption)
                have q147 : x5_1 < (l1.length : Int) := of_decide_eq_true (by first | (with_reducible assumption) | assumption)
                obtain ⟨ad147, e147, hx147_0, hx147_1, hx147_2⟩ := at_T47 HR1.out x5_1 p147 q147
                cases e147
                replace p147 := eq_true p147
                replace q147 := eq_true q147
                go_wp2
                repeat (go_quiet (fail); try go_wp2)
                go_ret
                exact ⟨by first | rfl | (simp; done) | (simp [*]; done), by repeat (first | exact Drawn0.refl _ | apply Drawn0.step)⟩
              · rw [if_neg c7] at H
                have c7b0 : (!(((rd_T47 l0 x5_1).f0) == ((rd_T47 l1 x5_1).f0)) || (!(((rd_T47 l0 x5_1).f1) == ((rd_T47 l1 x5_1).f1)) || (!(((rd_T47 l0 x5_1).f2) == ((rd_T47 l1 x5_1).f2))))) = false := by simpa using c7
                clear c7
                have H' := Aside0.mk H
                clear H
                have p146 : 0 ≤ (x5_1 : Int) := of_decide_eq_true (by first | (with_reducible assumption) | assumption)
                have q146 : x5_1 < (l0.length : Int) := of_decide_eq_true (by first | (with_reducible assumption) | assumption)
                obtain ⟨ad146, e146, hx146_0, hx146_1, hx146_2⟩ := at_T47 HR0.out x5_1 p146 q146
                cases e146
                replace p146 := eq_true p146
                replace q146 := eq_true q146
                have p147 : 0 ≤ (x5_1 : Int) := of_decide_eq_true (by first | (with_reducible assumption) | assumption)
                have q147 : x5_1 < (l1.length : Int) := of_decide_eq_true (by first | (with_reducible assumption) | assumption)
                obtain ⟨ad147, e147, hx147_0, hx147_1, hx147_2⟩ := at_T47 HR1.out x5_1 p147 q147
                cases e147
                replace p147 := eq_true p147
                replace q147 := eq_true q147
                go_wp2
                repeat (go_quiet (fail); try go_wp2)
                go_roundg k1
                case measure => have := HK1.out; omega
                case rel => exact ⟨(wrap64 (x5_1 + 1)), (by first | rfl | (simp; done) | (simp [*]; done)), H', ⟨by have := HK1.out; omega⟩, by repeat (first | exact Drawn0.refl _ | apply Drawn0.step)⟩
            · rw [if_neg c6] at H
              exact absurd H (by simp)
          · rw [if_neg c5] at H
            exact absurd H (by simp)
        · rw [if_neg c4] at H
          have c4b0 : decide (x5_1 < (l0.length : Int)) = false := decide_eq_false c4
          clear c4
          obtain rfl := Option.some.inj H
          go_wp2
          repeat (go_quiet (fail); try go_wp2)
          go_ret
          exact ⟨by first | rfl | (simp; done) | (simp [*]; done), by repeat (first | exact Drawn0.refl _ | apply Drawn0.step)⟩
  · rw [if_neg c3] at H
    have c3b0 : ((l0.length : Int) == (l1.length : Int)) = false := beq_eq_false_iff_ne.mpr c3
    have c3b1 : ((l0.length : Int) != (l1.length : Int)) = true := bne_iff_ne.mpr c3
    have c3b2 : (l0.length == l1.length) = false := by first | simpa using c3 | (simp at c3 ⊢; omega)
    obtain rfl := Option.some.inj H
    go_enter Tryd.func12, Tryd.ntmps12
    go_wp2
    repeat (go_quiet (fail); try go_wp2)
    go_ret
    exact ⟨by first | rfl | (simp; done) | (simp [*]; done), by repeat (first | exact Drawn0.refl _ | apply Drawn0.step)⟩

end Go.Proofs.YthbcliofjfhmbaaDoor.PCod
end

section
/- Instructions' bytes, plainly: the document's decoder tells what the program's does. -/
namespace Go.Proofs.YthbcliofjfhmbaaDoor.Pure
open Go.RowKit Go.Proofs.YthbcliofjfhmbaaDoor.PCod Go.Proofs.YthbcliofjfhmbaaDoor.Given Go.Proofs.YthbcliofjfhmbaaDoorW.PrintWords Go.Proofs.YthbcliofjfhmbaaDoorW.PrintLast
set_option linter.unusedVariables false
set_option linter.unusedSimpArgs false
/-! ### Decoding -/
end Go.Proofs.YthbcliofjfhmbaaDoor.Pure
end

section
/- Printed by a program of this session (wip/pg.py, over the print of the kit): functions, their Lean twins, and the proofs that the calls come to them; each under the conditions that it names. -/
namespace Go.Proofs.YthbcliofjfhmbaaDoor.PCod
open Go.Proofs.YthbcliofjfhmbaaDoor.Given
open Go.RowKit Go.Proofs.YthbcliofjfhmbaaDoorW.PrintWords Go.Proofs.YthbcliofjfhmbaaDoorW.PrintLast Go.Proofs.YthbcliofjfhmbaaDoorW.PrintMore
attribute [local go_sem] max2_int min2_int max_two min_two max_three min_three max_four min_four   -- for this text's walks alone
set_option linter.unusedVariables false
set_option linter.unusedSimpArgs false

/-! ### ladderbacklaw13_CodeDecodes: function 3 -/
def ladderbacklaw13_CodeDecodes.f (k : Nat) (l0 : List Int) : Option (Bool) := if (l0.length : Int) > 1000 then ((ladderbacklaw13_awake.f k).bind fun t148 => (some t148)) else ((code_Decode.f l0).bind fun bt149 => ((ladderbackref13_Decode.f k l0).bind fun bt154 => ((ladderbackref13_Same.f k bt149.1 bt154.1).bind fun t159 => (if t159 = true then (if bt149.2.1 = bt154.2.1 then (if bt149.2.2 = bt154.2.2 then ((ladderbacklaw13_awake.f k).bind fun t160 => (some t160)) else (some false)) else (some false)) else (some false)))))
/-- THE ONE PURE STATEMENT of ladderbacklaw13_CodeDecodes: yours. -/
def ladderbacklaw13_CodeDecodes.Pure : Prop := ∀ (l0 : List Int), l0.length ≤ maxLen → l0.length * 1 ≤ 140737488351232 → (∀ x ∈ l0, (Lit.int .u8 x).wf = true) → ∃ k, ladderbacklaw13_CodeDecodes.f k l0 = some true
/-! ### ladderbacklaw13_CodeBack: function 4 -/
mutual
def ladderbacklaw13_CodeBack.j0 : Nat → List (S47) → List Int → Bool → Option (Bool)
  | 0, _, _, _ => none
  | k + 1, x0, x1, x22 => if x22 = true then ((ladderbacklaw13_awake.f k).bind fun t161 => (some t161)) else ((code_Encode.f k x0).bind fun bt162 => (if bt162.2 = true then ((code_Decode.f bt162.1).bind fun bt166 => (if bt166.2.2 = 0 then ((ladderbackref13_Same.f k x0 bt166.1).bind fun t171 => (if t171 = true then (ladderbacklaw13_CodeBack.j1 k x1 ((bt162.1.length : Int) != (wrap64 (5 * (x0.length : Int))))) else (ladderbacklaw13_CodeBack.j1 k x1 true))) else (ladderbacklaw13_CodeBack.j1 k x1 true))) else ((code_Decode.f x1).bind fun bt183 => ((code_Encode.f k bt183.1).bind fun bt188 => (if bt183.2.2 = 0 then (if bt188.2 = true then (if (strOfNums bt188.1).toList = (strOfNums x1).toList then ((ladderbacklaw13_awake.f k).bind fun t192 => (some t192)) else (some false)) else (some false)) else (if (bt183.1.length : Int) = 0 then ((ladderbacklaw13_awake.f k).bind fun t193 => (some t193)) else (some false)))))))
def ladderbacklaw13_CodeBack.j1 : Nat → List Int → Bool → Option (Bool)
  | 0, _, _ => none
  | k + 1, x1, x51 => if x51 = true then (some false) else ((code_Decode.f x1).bind fun bt172 => ((code_Encode.f k bt172.1).bind fun bt177 => (if bt172.2.2 = 0 then (if bt177.2 = true then (if (strOfNums bt177.1).toList = (strOfNums x1).toList then ((ladderbacklaw13_awake.f k).bind fun t181 => (some t181)) else (some false)) else (some false)) else (if (bt172.1.length : Int) = 0 then ((ladderbacklaw13_awake.f k).bind fun t182 => (some t182)) else (some false)))))
end
def ladderbacklaw13_CodeBack.f (k : Nat) (l0 : List (S47)) (l1 : List Int) : Option (Bool) := if (l0.length : Int) > 200 then (ladderbacklaw13_CodeBack.j0 k l0 l1 true) else (ladderbacklaw13_CodeBack.j0 k l0 l1 (decide ((l1.length : Int) > 1000)))
end Go.Proofs.YthbcliofjfhmbaaDoor.PCod
end

section
/- CodeDecodes and CodeBack, plainly: bytes of at most 1000 and instructions of at most 200; for others the example is answered. -/
namespace Go.Proofs.YthbcliofjfhmbaaDoor.Pure
open Go.RowKit Go.Proofs.YthbcliofjfhmbaaDoor.PCod Go.Proofs.YthbcliofjfhmbaaDoor.Given Go.Proofs.YthbcliofjfhmbaaDoorW.PrintWords Go.Proofs.YthbcliofjfhmbaaDoorW.PrintLast
set_option linter.unusedVariables false
set_option linter.unusedSimpArgs false
theorem wf8 {a : Int} (h : (Lit.int .u8 a).wf = true) : 0 ≤ a ∧ a < 256 := by
  unfold Lit.wf at h
  simp only [Bool.and_eq_true, decide_eq_true_eq, show IntKind.u8.min = 0 from rfl, show IntKind.u8.max = 255 from rfl] at h
  omega
theorem okB_of (l : List Int) (hz : l.length ≤ 1000000) (h : ∀ x ∈ l, 0 ≤ x ∧ x < 256) : okB l = true := by
  unfold okB
  simp only [Bool.and_eq_true, List.all_eq_true, decide_eq_true_eq]
  exact ⟨h, by omega⟩
theorem same_l0 (l : List S47) : ∀ d i k, i + d = l.length → l.length ≤ 100000 → d < k → ladderbackref13_Same.l0 k l l (i : Int) = some true := by
  intro d
  induction d with
  | zero =>
    intro i k h1 h2 h3
    obtain ⟨k, rfl⟩ : ∃ m, k = m + 1 := ⟨k - 1, by omega⟩
    unfold ladderbackref13_Same.l0
    rw [if_neg (by omega)]
  | succ d ih =>
    intro i k h1 h2 h3
    obtain ⟨k, rfl⟩ : ∃ m, k = m + 1 := ⟨k - 1, by omega⟩
    unfold ladderbackref13_Same.l0
    rw [if_pos (by omega), if_pos (by omega), if_pos (by omega), if_neg (by simp), w64 _ (by omega) (by omega)]
    exact ih (i + 1) k (by omega) h2 (by omega)
theorem same_is (l : List S47) (k : Nat) (h : l.length ≤ 100000) (hk : l.length < k) : ladderbackref13_Same.f k l l = some true := by
  unfold ladderbackref13_Same.f
  rw [if_pos rfl]
  exact same_l0 l l.length 0 k (by omega) h hk
theorem awake13 (k : Nat) (hk : 20 ≤ k) : ladderbacklaw13_awake.f k = some true := by
  have h : ladderbacklaw13_awake.f 20 = some true := by decide +kernel
  have : ∀ d, ladderbacklaw13_awake.f (20 + d) = some true := by
    intro d
    induction d with
    | zero => exact h
    | succ d ih => exact ladderbacklaw13_awake.mono (20 + d) _ ih
  rw [show k = 20 + (k - 20) by omega]
  exact this _
theorem dec_len : ∀ (n : Nat) (l : List Int) (out : List S47), (decF n l out).1.length ≤ out.length + l.length
  | 0, _, out => by unfold decF; simp
  | n + 1, [], out => by unfold decF; simp
  | n + 1, [_], out => by unfold decF; simp
  | n + 1, [_, _], out => by unfold decF; simp
  | n + 1, [_, _, _], out => by unfold decF; simp
  | n + 1, [_, _, _, _], out => by unfold decF; simp
  | n + 1, a :: b :: c :: d :: e :: t, out => by
    unfold decF
    split
    · have := dec_len n t (out ++ [⟨a, b + 256 * c, d + 256 * e⟩])
      simp only [List.length_append, List.length_cons, List.length_nil] at this ⊢
      omega
    · simp
/-! ### Encoding -/
def enc1 (i : S47) : List Int := [i.f0 % 256, i.f1 % 256, i.f1 / 256 % 256, i.f2 % 256, i.f2 / 256 % 256]
def encF : List S47 → List Int
  | [] => []
  | i :: t => enc1 i ++ encF t
def allR : List S47 → Bool
  | [] => true
  | i :: t => right3 i.f0 i.f1 i.f2 && allR t
theorem enc_len : ∀ l : List S47, (encF l).length = 5 * l.length
  | [] => rfl
  | i :: t => by simp only [encF, List.length_append, enc_len t, enc1, List.length_cons, List.length_nil]; omega
theorem enc_byte : ∀ l : List S47, ∀ x ∈ encF l, 0 ≤ x ∧ x < 256
  | [], x, h => by cases h
  | i :: t, x, h => by
    rcases List.mem_append.1 h with h | h
    · unfold enc1 at h
      simp only [List.mem_cons, List.not_mem_nil, or_false] at h
      omega
    · exact enc_byte t x h
theorem rd47_drop (l : List S47) (i : Nat) (h : i < l.length) : l.drop i = rd_T47 l (i : Int) :: l.drop (i + 1) := by
  unfold rd_T47
  rw [Int.toNat_natCast, List.getD_eq_getElem?_getD, List.getElem?_eq_getElem h, Option.getD_some]
  exact List.drop_eq_getElem_cons h
theorem enc_l0 (l : List S47) (hz : l.length ≤ 100000) : ∀ (d i k : Nat) (out : List Int), i + d = l.length → d < k → out.length ≤ 5 * i →
    code_Encode.l0 k out l (l.length : Int) (i : Int) = if allR (l.drop i) = true then some (out ++ encF (l.drop i), true) else some ([], false) := by
  intro d
  induction d with
  | zero =>
    intro i k out h1 h2 h3
    obtain ⟨k, rfl⟩ : ∃ m, k = m + 1 := ⟨k - 1, by omega⟩
    unfold code_Encode.l0
    rw [if_neg (by omega), List.drop_eq_nil_of_le (by omega)]
    simp [allR, encF]
  | succ d ih =>
    intro i k out h1 h2 h3
    obtain ⟨k, rfl⟩ : ∃ m, k = m + 1 := ⟨k - 1, by omega⟩
    unfold code_Encode.l0
    rw [if_pos (by omega), if_pos (by omega), if_pos (by omega), rd47_drop l i (by omega)]
    generalize rd_T47 l (i : Int) = x
    have hr : op_Right.f x.f0 x.f1 x.f2 = some (right3 x.f0 x.f1 x.f2) := right_some x.f0 x.f1 x.f2
    rw [hr]
    simp only [Option.bind_some]
    rw [show encF (x :: l.drop (i + 1)) = enc1 x ++ encF (l.drop (i + 1)) from rfl]
    by_cases hq : right3 x.f0 x.f1 x.f2 = true
    · rw [if_pos hq, show allR (x :: l.drop (i + 1)) = allR (l.drop (i + 1)) by show (right3 x.f0 x.f1 x.f2 && _) = _; rw [hq, Bool.true_and]]
      rw [if_pos (by simp only [List.length_cons, List.length_nil]; omega), w64 _ (by omega) (by omega)]
      have := ih (i + 1) k (out ++ enc1 x) (by omega) (by omega) (by simp only [List.length_append, enc1, List.length_cons, List.length_nil]; omega)
      rw [show ((i + 1 : Nat) : Int) = (i : Int) + 1 by omega] at this
      unfold enc1 at this ⊢
      rw [this, List.append_assoc]
    · rw [if_neg hq, show allR (x :: l.drop (i + 1)) = false by show (right3 x.f0 x.f1 x.f2 && _) = _; simp [hq]]
      simp
theorem enc_is (l : List S47) (k : Nat) (hz : l.length ≤ 100000) (hk : l.length < k) : code_Encode.f k l = if allR l = true then some (encF l, true) else some ([], false) := by
  have := enc_l0 l hz l.length 0 k [] (by omega) hk (by simp)
  rw [List.drop_zero, List.nil_append] at this
  exact this
theorem may_lim {n w : Int} (h : mayF n w = true) : 0 ≤ n ∧ n ≤ 65535 := by
  unfold mayF at h
  split at h
  · have := eq_of_beq h; omega
  · simpa using h
theorem right_lim {x y z : Int} (h : right3 x y z = true) : (0 ≤ x ∧ x < 38) ∧ (0 ≤ y ∧ y ≤ 65535) ∧ (0 ≤ z ∧ z ≤ 65535) := by
  rw [right_is] at h
  simp only [Bool.and_eq_true] at h
  have h0 := h.1.1
  unfold isOp at h0
  exact ⟨by simpa using h0, may_lim h.1.2, may_lim h.2⟩
theorem err_right {x y z : Int} (h : right3 x y z = true) : errI x y z = 0 := by
  have := right_lim h
  unfold errI
  rw [real_is, decide_eq_false (by omega : ¬ 48 ≤ x), h]
  rfl
theorem right_err {x y z : Int} (h : errI x y z = 0) : right3 x y z = true := by
  unfold errI at h
  split at h
  · omega
  · split at h
    · assumption
    · omega
theorem dec_enc : ∀ (l : List S47) (n : Nat) (out : List S47), allR l = true → l.length ≤ n → decF n (encF l) out = (out ++ l, 0, 0)
  | [], n, out, h, hn => by cases n <;> simp [encF, decF]
  | i :: t, 0, out, h, hn => by simp at hn
  | i :: t, n + 1, out, h, hn => by
    unfold allR at h
    simp only [Bool.and_eq_true] at h
    have hl := right_lim h.1
    have e1 : i.f1 % 256 + 256 * (i.f1 / 256 % 256) = i.f1 := by omega
    have e2 : i.f2 % 256 + 256 * (i.f2 / 256 % 256) = i.f2 := by omega
    have e0 : i.f0 % 256 = i.f0 := by omega
    show decF (n + 1) (i.f0 % 256 :: i.f1 % 256 :: (i.f1 / 256 % 256) :: i.f2 % 256 :: (i.f2 / 256 % 256) :: encF t) out = _
    unfold decF
    rw [e0, e1, e2, if_pos (err_right h.1), dec_enc t n _ h.2 (by simp at hn; omega)]
    simp
theorem dec_back : ∀ (n : Nat) (l : List Int) (out : List S47), l.length ≤ n → (∀ x ∈ l, 0 ≤ x ∧ x < 256) →
    ((decF n l out).2.2 ≠ 0 → (decF n l out).1 = []) ∧ ((decF n l out).2.2 = 0 → ∃ m, (decF n l out).1 = out ++ m ∧ allR m = true ∧ encF m = l)
  | 0, l, out, h, hb => by
    obtain rfl := List.eq_nil_of_length_eq_zero (by omega : l.length = 0)
    exact ⟨fun h => absurd rfl h, fun _ => ⟨[], by simp [decF], rfl, rfl⟩⟩
  | n + 1, [], out, h, hb => ⟨fun h => absurd rfl h, fun _ => ⟨[], by simp [decF], rfl, rfl⟩⟩
  | n + 1, [_], out, h, hb => ⟨fun _ => rfl, fun h => by simp [decF] at h⟩
  | n + 1, [_, _], out, h, hb => ⟨fun _ => rfl, fun h => by simp [decF] at h⟩
  | n + 1, [_, _, _], out, h, hb => ⟨fun _ => rfl, fun h => by simp [decF] at h⟩
  | n + 1, [_, _, _, _], out, h, hb => ⟨fun _ => rfl, fun h => by simp [decF] at h⟩
  | n + 1, a :: b :: c :: d :: e :: t, out, h, hb => by
    have ha := hb a (by simp)
    have hb' := hb b (by simp)
    have hc := hb c (by simp)
    have hd := hb d (by simp)
    have he := hb e (by simp)
    unfold decF
    split
    · rename_i h0
      have ih := dec_back n t (out ++ [⟨a, b + 256 * c, d + 256 * e⟩]) (by simp only [List.length_cons] at h; omega) (fun x hx => hb x (by simp [hx]))
      refine ⟨ih.1, fun hz => ?_⟩
      obtain ⟨m, h1, h2, h3⟩ := ih.2 hz
      refine ⟨⟨a, b + 256 * c, d + 256 * e⟩ :: m, by rw [h1]; simp, ?_, ?_⟩
      · unfold allR
        rw [right_err h0, h2]; rfl
      · show [a % 256, (b + 256 * c) % 256, (b + 256 * c) / 256 % 256, (d + 256 * e) % 256, (d + 256 * e) / 256 % 256] ++ encF m = _
        rw [h3, show a % 256 = a by omega, show (b + 256 * c) % 256 = b by omega, show (b + 256 * c) / 256 % 256 = c by omega, show (d + 256 * e) % 256 = d by omega, show (d + 256 * e) / 256 % 256 = e by omega]
        rfl
    · rename_i h0
      exact ⟨fun _ => rfl, fun h => absurd h h0⟩
theorem CodeBack_k (l0 : List S47) (l1 : List Int) (hb : ∀ x ∈ l1, 0 ≤ x ∧ x < 256) (k : Nat) (hk : 1600 ≤ k) : ladderbacklaw13_CodeBack.f (k + 2) l0 l1 = some true := by
  rw [show k + 2 = (k + 1) + 1 from rfl]
  unfold ladderbacklaw13_CodeBack.f
  by_cases h0 : (l0.length : Int) > 200
  · rw [if_pos h0]
    rw [ladderbacklaw13_CodeBack.j0.eq_2]
    rw [if_pos rfl, awake13 (k + 1) (by omega)]; rfl
  · rw [if_neg h0]
    rw [ladderbacklaw13_CodeBack.j0.eq_2]
    rw [awake13 (k + 1) (by omega)]
    by_cases h1 : (l1.length : Int) > 1000
    · rw [if_pos (decide_eq_true h1)]; rfl
    · rw [decide_eq_false h1, if_neg (by simp), enc_is l0 _ (by omega) (by omega)]
      have hd : code_Decode.f l1 = some (decF l1.length l1 []) := by
        unfold code_Decode.f
        rw [if_pos ⟨by omega, okB_of l1 (by omega) hb⟩]
      have hl := dec_len l1.length l1 []
      simp only [List.length_nil] at hl
      have hbk := dec_back l1.length l1 [] (Nat.le_refl _) hb
      rw [hd]
      generalize decF l1.length l1 [] = t at hl hbk hd ⊢
      have fin : ∀ k, 1500 ≤ k → ((code_Encode.f k t.1).bind fun bt177 => (if t.2.2 = 0 then (if bt177.2 = true then (if (strOfNums bt177.1).toList = (strOfNums l1).toList then ((ladderbacklaw13_awake.f k).bind fun t181 => (some t181)) else (some false)) else (some false)) else (if (t.1.length : Int) = 0 then ((ladderbacklaw13_awake.f k).bind fun t182 => (some t182)) else (some false)))) = some true := by
        intro k hk
        rw [awake13 k (by omega)]
        by_cases hz : t.2.2 = 0
        · obtain ⟨m, h1, h2, h3⟩ := hbk.2 hz
          rw [List.nil_append] at h1
          rw [enc_is t.1 k (by omega) (by omega), h1, if_pos h2, h3]
          simp [hz]
        · have hn := hbk.1 hz
          rw [enc_is t.1 k (by omega) (by omega), hn, if_pos (show allR ([] : List S47) = true from rfl)]
          simp [hz]
      by_cases hR : allR l0 = true
      · rw [if_pos hR]
        simp only [Option.bind_some, if_true]
        have hd2 : code_Decode.f (encF l0) = some (l0, 0, 0) := by
          unfold code_Decode.f
          rw [if_pos ⟨by rw [enc_len]; omega, okB_of _ (by rw [enc_len]; omega) (enc_byte l0)⟩, dec_enc l0 _ [] hR (by rw [enc_len]; omega)]
          rfl
        rw [hd2]
        simp only [Option.bind_some, if_true]
        have hsm := same_is l0 (k + 1) (by omega) (by omega)
        rw [hsm]
        clear hsm hd2
        rw [Option.bind_some, if_pos (show (true : Bool) = true from rfl)]
        have hw : wrap64 (5 * (l0.length : Int)) = 5 * (l0.length : Int) := w64 _ (by omega) (by omega)
        rw [hw, enc_len]
        have hne : (((5 * l0.length : Nat) : Int) != 5 * (l0.length : Int)) = false := by
          rw [bne_eq_false_iff_eq]; omega
        rw [hne]
        rw [ladderbacklaw13_CodeBack.j1.eq_2]
        rw [if_neg (by simp), hd]
        rw [Option.bind_some]
        exact fin k (by omega)
      · rw [if_neg hR]
        simp only [Option.bind_some, Bool.false_eq_true, if_false]
        have hf := fin (k + 1) (by omega)
        rw [awake13 (k + 1) (by omega)] at hf
        exact hf
theorem CodeBack (l0 : List S47) (l1 : List Int) (hb : ∀ x ∈ l1, 0 ≤ x ∧ x < 256) : ∃ k, ladderbacklaw13_CodeBack.f k l0 l1 = some true := ⟨1600 + 2, CodeBack_k l0 l1 hb 1600 (Nat.le_refl _)⟩
end Go.Proofs.YthbcliofjfhmbaaDoor.Pure
end
