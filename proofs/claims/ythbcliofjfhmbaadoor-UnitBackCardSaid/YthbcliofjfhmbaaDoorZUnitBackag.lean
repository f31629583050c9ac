/- The law UnitBack holds for every input: the walk over its code shows that the call returns true and that what was read stays as it was; the row follows. The package-level tables that the code reads are tied to the program's text by the given tie. -/
import Derived.Test.YthbcliofjfhmbaaDoorProg
import Derived.Test.YthbcliofjfhmbaaDoorRows
import Derived.Test.YthbcliofjfhmbaaDoorCards
import Derived.Test.YthbcliofjfhmbaaDoorTie
import Derived.WalkKit
import Derived.ProofKit
import Derived.OpenShut
import Derived.ShutString
import Derived.ChangeOld
import Derived.Below
import Derived.SizedLaws
import Derived.Deep.DeepHandedRow
import Derived.Lib.LaidTab
import Derived.LaidMore
import Derived.Test.YthbcliofjfhmbaaDoorZUnitBackaa
import Derived.Test.YthbcliofjfhmbaaDoorZUnitBackae
import Derived.Test.YthbcliofjfhmbaaDoorZUnitBackaf
section
/- What a unit that was read says of its bytes: it fits, and they are what is put. -/
namespace Go.Proofs.YthbcliofjfhmbaaDoor.Given
open Go.RowKit Go.Proofs.YthbcliofjfhmbaaDoorW.PrintWords Go.Proofs.YthbcliofjfhmbaaDoorW.PrintLast Go.Proofs.YthbcliofjfhmbaaDoorW.PrintMore Go.Proofs.YthbcliofjfhmbaaDoor.UPure
set_option linter.unusedVariables false
set_option linter.unusedSimpArgs false
theorem numbers_inv {b : List Int} (hb : ∀ x ∈ b, 0 ≤ x ∧ x < 256) {at_ : Int} {bad : Bool} {many most : Int} {m : Nat} (hm : mx 0 (mn many 8) = m) (hm2 : m ≤ 2) (hmost : 0 ≤ most) (h0 : 0 ≤ at_) (h1 : at_ ≤ b.length) (h : (numbersR b at_ bad many most).2.1 = 0) :
    bad = false ∧ (numbersR b at_ bad many most).2.2.2 = false ∧ ((numbersR b at_ bad many most).1.length : Int) ≤ most ∧ (∀ x ∈ (numbersR b at_ bad many most).1, 0 ≤ x ∧ x < 256) ∧ (numbersR b at_ bad many most).2.2.1 = at_ + m + (numbersR b at_ bad many most).1.length ∧ at_ + m + (numbersR b at_ bad many most).1.length ≤ b.length ∧ b.drop at_.toNat = le m ((numbersR b at_ bad many most).1.length : Int) ++ (numbersR b at_ bad many most).1 ++ b.drop (numbersR b at_ bad many most).2.2.1.toNat := by
  unfold numbersR at h ⊢
  dsimp only at h ⊢
  cases bad with
  | true =>
    rw [num_bad_true] at h
    dsimp only at h
    rw [if_neg (by omega), take_bad_true] at h
    cases h
  | false =>
    have hn := num_inv hb (at_ := at_) (many := many) (m := m) hm hm2 h0 h1
    generalize numR b at_ false many = t at h hn ⊢
    by_cases hg : t.1 > most
    · rw [if_pos hg] at h; cases h
    · rw [if_neg hg] at h ⊢
      cases hq : t.2.2 with
      | true =>
        rw [hq, take_bad_true] at h
        cases h
      | false =>
        obtain ⟨e1, e2, e3, e4, e5⟩ := hn hq
        rw [hq, e1] at h
        rw [e1]
        have hmm := take_mem' (b := b) (at_ := at_ + (m : Int)) (bad := false) (n := t.1)
        have hi := take_inv (b := b) (at_ := at_ + (m : Int)) (n := t.1) (by omega) e2
        generalize takeR b (at_ + (m : Int)) false t.1 = u at h hi hmm ⊢
        cases hu : u.2.2 with
        | true => rw [if_pos hu] at h; cases h
        | false =>
          obtain ⟨f1, f2, f3, f4, f5⟩ := hi hu
          rw [if_neg (by simp)]
          refine ⟨rfl, rfl, by dsimp only; omega, fun x hx => hb x (hmm x hx), by dsimp only; omega, by dsimp only; omega, ?_⟩
          dsimp only
          rw [e5, f5, f1, ← f4, ← List.append_assoc]
theorem low_id : ∀ l : List Int, (∀ x ∈ l, 0 ≤ x ∧ x < 256) → low l = l := by
  intro l h
  unfold low
  refine (List.map_congr_left (fun x hx => ?_)).trans (List.map_id _)
  have := h x hx
  show x % 256 = x
  omega
theorem byteL_of : ∀ l : List Int, (∀ x ∈ l, 0 ≤ x ∧ x < 256) → byteL l = true
  | [], _ => rfl
  | x :: t, h => by
    have := h x (by simp)
    rw [byteL_cons (by omega) (by omega)]
    exact byteL_of t (fun y hy => h y (by simp [hy]))
theorem allR_conv : ∀ l : List InS, UPure.allR (l.map conv) = Pure.allR l
  | [] => rfl
  | x :: t => by
    show (right3 _ _ _ && UPure.allR (t.map conv)) = (right3 _ _ _ && Pure.allR t)
    rw [allR_conv t]; rfl
theorem encF_conv : ∀ l : List InS, UPure.encF (l.map conv) = Pure.encF l
  | [] => rfl
  | x :: t => by
    show UPure.enc1 (conv x) ++ UPure.encF (t.map conv) = Pure.enc1 x ++ Pure.encF t
    rw [encF_conv t]; rfl
theorem get_inv (b : List Int) (hb : ∀ x ∈ b, 0 ≤ x ∧ x < 256) (hl : b.length ≤ 1000000) (U : UD) (h : getR b = (U, 0)) : fitsF U.1 U.2.1 U.2.2.1 U.2.2.2.1 U.2.2.2.2 = true ∧ putB U.1 U.2.1 U.2.2.1 U.2.2.2.1 U.2.2.2.2 = b := by
  unfold getR at h
  dsimp only at h
  have ht := text_inv hb (at_ := 0) (by omega) (by omega)
  generalize textR b 0 false = t at h ht
  by_cases h1 : t.2.2 = true
  · rw [if_pos h1] at h; exact absurd (congrArg Prod.snd h) (by simp)
  rw [if_neg h1] at h
  obtain ⟨t1, t2, t3, t4⟩ := ht (by simpa using h1)
  have hp := numbers_inv hb (at_ := t.2.1) (bad := t.2.2) (many := 1) (most := 8) (m := 1) (by decide) (by decide) (by omega) (by omega) (by omega)
  generalize numbersR b t.2.1 t.2.2 1 8 = p at h hp
  by_cases h2 : ¬ p.2.1 = 0
  · rw [if_pos h2] at h; exact absurd (congrArg Prod.snd h) h2
  rw [if_neg h2] at h
  obtain ⟨_, p2, p3, p4, p5, p6, p7⟩ := hp (by simpa using h2)
  have hr := num_inv hb (at_ := p.2.2.1) (many := 1) (m := 1) (by decide) (by decide) (by omega) (by omega)
  rw [p2] at h
  generalize numR b p.2.2.1 false 1 = r at h hr
  by_cases h3 : r.2.2 = true
  · rw [if_pos h3] at h; exact absurd (congrArg Prod.snd h) (by simp)
  rw [if_neg h3] at h
  obtain ⟨r1, r2, r3, r4, r5⟩ := hr (by simpa using h3)
  have hll := numbers_inv hb (at_ := r.2.1) (bad := r.2.2) (many := 2) (most := 1024) (m := 2) (by decide) (by decide) (by omega) (by omega) (by omega)
  generalize numbersR b r.2.1 r.2.2 2 1024 = l at h hll
  by_cases h4 : ¬ l.2.1 = 0
  · rw [if_pos h4] at h; exact absurd (congrArg Prod.snd h) h4
  rw [if_neg h4] at h
  obtain ⟨_, l2, l3, l4, l5, l6, l7⟩ := hll (by simpa using h4)
  have hn := num_inv hb (at_ := l.2.2.1) (many := 2) (m := 2) (by decide) (by decide) (by omega) (by omega)
  rw [l2] at h
  generalize numR b l.2.2.1 false 2 = n at h hn
  by_cases h5 : n.1 > 16384
  · rw [if_pos h5] at h; exact absurd (congrArg Prod.snd h) (by simp)
  rw [if_neg h5] at h
  cases hnb : n.2.2 with
  | true =>
    rw [hnb, take_bad_true] at h
    dsimp only at h
    rw [if_pos rfl] at h
    exact absurd (congrArg Prod.snd h) (by simp)
  | false =>
  obtain ⟨n1, n2, n3, n4, n5⟩ := hn hnb
  have hw : wrap64 (5 * n.1) = 5 * n.1 := by unfold wrap64; omega
  rw [hnb, hw] at h
  have hx := take_inv (b := b) (at_ := n.2.1) (n := 5 * n.1) (by omega) (by omega)
  have hxm := take_mem' (b := b) (at_ := n.2.1) (bad := false) (n := 5 * n.1)
  generalize takeR b n.2.1 false (5 * n.1) = x at h hx hxm
  by_cases h6 : x.2.2 = true
  · rw [if_pos h6] at h; exact absurd (congrArg Prod.snd h) (by simp)
  rw [if_neg h6] at h
  obtain ⟨x1, x2, x3, x4, x5⟩ := hx (by simpa using h6)
  have hd := Pure.dec_back x.1.length x.1 [] (Nat.le_refl _) (fun y hy => hb y (hxm y hy))
  generalize decF x.1.length x.1 [] = c at h hd
  by_cases h7 : ¬ c.2.2 = 0
  · rw [if_pos h7] at h; exact absurd (congrArg Prod.snd h) h7
  rw [if_neg h7, if_neg h6] at h
  obtain ⟨m, c1, c2, c3⟩ := hd.2 (by simpa using h7)
  rw [List.nil_append] at c1
  by_cases h8 : (b.length : Int) - x.2.1 > 0
  · rw [if_pos h8] at h; exact absurd (congrArg Prod.snd h) (by simp)
  rw [if_neg h8] at h
  obtain rfl := (congrArg Prod.fst h).symm
  clear h
  have hml := Pure.enc_len m
  rw [c3] at hml
  have hend : b.drop x.2.1.toNat = [] := List.drop_eq_nil_of_le (by omega)
  have hR : (2 : Int) ^ (8 * 1) = 256 := rfl
  rw [hR] at r4
  dsimp only
  rw [c1]
  constructor
  · unfold fitsF
    rw [decide_eq_true (show t.1.size ≤ 255 from t1), decide_eq_true (show p.1.length ≤ 8 by omega), decide_eq_true (show l.1.length ≤ 1024 by omega), decide_eq_true (show (m.map conv).length ≤ 16384 by rw [List.length_map]; omega), allR_conv, c2, byteL_of _ p4, byteL_of _ l4, decide_eq_true (show 0 ≤ r.1 from r3), decide_eq_true (show r.1 ≤ 255 by omega)]
    rfl
  · unfold putB
    rw [text_all _ t1, Nat.min_eq_left t1, low_id _ p4, low_id _ l4, encF_conv, c3, List.length_map, show ((m.length : Nat) : Int) = n.1 by omega]
    have t4' := t4
    rw [show (0 : Int).toNat = 0 from rfl, List.drop_zero, p7, r5, ← r1, l7, n5, ← n1, x5, ← x1, hend, List.append_nil] at t4'
    rw [t4']
    simp only [List.append_assoc]
end Go.Proofs.YthbcliofjfhmbaaDoor.Given
end

section
/- A unit that fits comes back from its bytes, plainly. -/
namespace Go.Proofs.YthbcliofjfhmbaaDoor.Given
open Go.RowKit Go.Proofs.YthbcliofjfhmbaaDoorW.PrintWords Go.Proofs.YthbcliofjfhmbaaDoorW.PrintLast Go.Proofs.YthbcliofjfhmbaaDoorW.PrintMore Go.Proofs.YthbcliofjfhmbaaDoor.UPure
set_option linter.unusedVariables false
set_option linter.unusedSimpArgs false
theorem byteL_all : ∀ l : List Int, byteL l = true → ∀ x ∈ l, 0 ≤ x ∧ x < 256
  | [], _, x, h => by cases h
  | a :: t, h, x, hx => by
    have h' : ((decide (0 ≤ a) && decide (a ≤ 255)) && byteL t) = true := h
    simp only [Bool.and_eq_true, decide_eq_true_eq] at h'
    rcases List.mem_cons.1 hx with rfl | hx
    · omega
    · exact byteL_all t h'.2 x hx
theorem num_le (a c : List Int) (i many v : Int) (m : Nat) (hi : i = a.length) (hm : mx 0 (mn many 8) = m) (h0 : 0 ≤ v) (h1 : v < 2 ^ (8 * m)) (h2 : v < 9223372036854775808) : numR (a ++ le m v ++ c) i false many = (v, i + m, false) := by
  rw [num_at a (le m v) c i many hi (by rw [le_length]; exact hm), leN_le, Int.emod_eq_of_lt h0 h1, wN _ (by omega) h2, le_length]
theorem text_at (a c : List Int) (i : Int) (s : ByteArray) (hi : i = a.length) (hs : s.size ≤ 255) : textR (a ++ (le 1 ((s.size : Nat) : Int) ++ bytesOf s) ++ c) i false = (s, i + 1 + s.size, false) := by
  have hp : (2 : Int) ^ (8 * 1) = 256 := rfl
  unfold textR
  dsimp only
  rw [show a ++ (le 1 ((s.size : Nat) : Int) ++ bytesOf s) ++ c = a ++ le 1 ((s.size : Nat) : Int) ++ (bytesOf s ++ c) by simp only [List.append_assoc]]
  rw [num_le a (bytesOf s ++ c) i 1 _ 1 hi (by decide) (by omega) (by rw [hp]; omega) (by omega)]
  dsimp only
  rw [← List.append_assoc, take_at (a ++ le 1 ((s.size : Nat) : Int)) (bytesOf s) c (i + (1 : Nat)) (s.size : Int) (by rw [List.length_append, le_length]; omega) (by rw [bytes_len])]
  dsimp only
  rw [str_bytes]
  rfl
theorem numbers_at (a c P : List Int) (i many most : Int) (m : Nat) (hi : i = a.length) (hm : mx 0 (mn many 8) = m) (h1 : (P.length : Int) < 2 ^ (8 * m)) (h2 : (P.length : Int) ≤ most) (h3 : (P.length : Int) < 9223372036854775808) : numbersR (a ++ (le m (P.length : Int) ++ P) ++ c) i false many most = (P, 0, i + m + P.length, false) := by
  unfold numbersR
  dsimp only
  rw [show a ++ (le m (P.length : Int) ++ P) ++ c = a ++ le m (P.length : Int) ++ (P ++ c) by simp only [List.append_assoc]]
  rw [num_le a (P ++ c) i many _ m hi hm (by omega) h1 h3]
  dsimp only
  rw [if_neg (by omega), ← List.append_assoc, take_at (a ++ le m (P.length : Int)) P c (i + m) (P.length : Int) (by rw [List.length_append, le_length]; omega) rfl]
  dsimp only
  rw [if_neg (by simp)]
theorem conv_onto (C : List PUni.S47) : ∃ m : List InS, C = m.map conv := ⟨C.map (fun x => ⟨x.f0, x.f1, x.f2⟩), by
  rw [List.map_map]
  exact ((List.map_congr_left (fun x _ => rfl)).trans (List.map_id _)).symm⟩
theorem get_put (n : ByteArray) (P : List Int) (R : Int) (L : List Int) (C : List PUni.S47) (h : fitsF n P R L C = true) : getR (putB n P R L C) = ((n, P, R, L, C), 0) := by
  obtain ⟨h1, h2, h3, h4, h5, h6, h7, h8, h9⟩ := fits_allR h
  obtain ⟨m, rfl⟩ := conv_onto C
  rw [allR_conv] at h5
  rw [List.length_map] at h4
  have hel := Pure.enc_len m
  have p1 : (2 : Int) ^ (8 * 1) = 256 := rfl
  have p2 : (2 : Int) ^ (8 * 2) = 65536 := rfl
  unfold putB
  rw [Nat.min_eq_left h1, text_all n h1, low_id P (byteL_all P h6), low_id L (byteL_all L h7), encF_conv, List.length_map]
  generalize hE : Pure.encF m = E at hel
  generalize hT : le 1 ((n.size : Nat) : Int) ++ bytesOf n = T
  have hTl : (T.length : Int) = 1 + n.size := by rw [← hT, List.length_append, le_length, bytes_len]; omega
  generalize hPP : le 1 (P.length : Int) ++ P = PP
  have hPl : (PP.length : Int) = 1 + P.length := by rw [← hPP, List.length_append, le_length]; omega
  generalize hLL : le 2 (L.length : Int) ++ L = LL
  have hLl : (LL.length : Int) = 2 + L.length := by rw [← hLL, List.length_append, le_length]; omega
  have hb : T ++ le 1 (P.length : Int) ++ P ++ le 1 R ++ le 2 (L.length : Int) ++ L ++ le 2 (m.length : Int) ++ E = T ++ PP ++ le 1 R ++ LL ++ le 2 (m.length : Int) ++ E := by rw [← hPP, ← hLL]; simp only [List.append_assoc]
  rw [hb]
  generalize hB : T ++ PP ++ le 1 R ++ LL ++ le 2 (m.length : Int) ++ E = B
  have hBl : (B.length : Int) = T.length + PP.length + 1 + LL.length + 2 + E.length := by rw [← hB]; simp only [List.length_append, le_length]; omega
  have a1 : textR B 0 false = (n, (T.length : Int), false) := by
    rw [← hB, ← hT, show le 1 ((n.size : Nat) : Int) ++ bytesOf n ++ PP ++ le 1 R ++ LL ++ le 2 (m.length : Int) ++ E = [] ++ (le 1 ((n.size : Nat) : Int) ++ bytesOf n) ++ (PP ++ le 1 R ++ LL ++ le 2 (m.length : Int) ++ E) by simp only [List.append_assoc, List.nil_append], text_at [] _ 0 n rfl h1, hT, hTl]
    rw [show (0 : Int) + 1 + (n.size : Int) = 1 + n.size by omega]
  have a2 : numbersR B (T.length : Int) false 1 8 = (P, 0, (T.length + PP.length : Int), false) := by
    rw [← hB, show T ++ PP ++ le 1 R ++ LL ++ le 2 (m.length : Int) ++ E = T ++ (le 1 (P.length : Int) ++ P) ++ (le 1 R ++ LL ++ le 2 (m.length : Int) ++ E) by rw [hPP]; simp only [List.append_assoc], numbers_at T _ P _ 1 8 1 rfl (by decide) (by rw [p1]; omega) (by omega) (by omega), hPl]
    rw [show (T.length : Int) + (1 : Nat) + P.length = T.length + (1 + P.length) by omega]
  have a3 : numR B (T.length + PP.length : Int) false 1 = (R, (T.length + PP.length + 1 : Int), false) := by
    rw [← hB, show T ++ PP ++ le 1 R ++ LL ++ le 2 (m.length : Int) ++ E = (T ++ PP) ++ le 1 R ++ (LL ++ le 2 (m.length : Int) ++ E) by simp only [List.append_assoc], num_le (T ++ PP) _ _ 1 R 1 (by rw [List.length_append]; omega) (by decide) h8 (by rw [p1]; omega) (by omega)]
    rfl
  have a4 : numbersR B (T.length + PP.length + 1 : Int) false 2 1024 = (L, 0, (T.length + PP.length + 1 + LL.length : Int), false) := by
    rw [← hB, show T ++ PP ++ le 1 R ++ LL ++ le 2 (m.length : Int) ++ E = (T ++ PP ++ le 1 R) ++ (le 2 (L.length : Int) ++ L) ++ (le 2 (m.length : Int) ++ E) by rw [hLL]; simp only [List.append_assoc], numbers_at (T ++ PP ++ le 1 R) _ L _ 2 1024 2 (by simp only [List.length_append, le_length]; omega) (by decide) (by rw [p2]; omega) (by omega) (by omega), hLl]
    rw [show (T.length + PP.length + 1 : Int) + (2 : Nat) + L.length = T.length + PP.length + 1 + (2 + L.length) by omega]
  have a5 : numR B (T.length + PP.length + 1 + LL.length : Int) false 2 = ((m.length : Int), (T.length + PP.length + 1 + LL.length + 2 : Int), false) := by
    rw [← hB, num_le (T ++ PP ++ le 1 R ++ LL) _ _ 2 (m.length : Int) 2 (by simp only [List.length_append, le_length]; omega) (by decide) (by omega) (by rw [p2]; omega) (by omega)]
    rfl
  have a6 : takeR B (T.length + PP.length + 1 + LL.length + 2 : Int) false (5 * (m.length : Int)) = (E, (B.length : Int), false) := by
    rw [show (B.length : Int) = (T.length + PP.length + 1 + LL.length + 2 : Int) + 5 * (m.length : Int) by omega, ← hB, show T ++ PP ++ le 1 R ++ LL ++ le 2 (m.length : Int) ++ E = (T ++ PP ++ le 1 R ++ LL ++ le 2 (m.length : Int)) ++ E ++ [] by simp only [List.append_nil], take_at (T ++ PP ++ le 1 R ++ LL ++ le 2 (m.length : Int)) E [] _ (5 * (m.length : Int)) (by simp only [List.length_append, le_length]; omega) (by omega)]
  have hw : wrap64 (5 * (m.length : Int)) = 5 * (m.length : Int) := wN _ (by omega) (by omega)
  have a7 : decF E.length E [] = (m, 0, 0) := by
    rw [← hE]
    have := Pure.dec_enc m (Pure.encF m).length [] h5 (by rw [Pure.enc_len]; omega)
    rw [List.nil_append] at this
    exact this
  unfold getR
  rw [a1]; dsimp only
  rw [if_neg (by simp), a2]; dsimp only
  rw [if_neg (by simp), a3]; dsimp only
  rw [if_neg (by simp), a4]; dsimp only
  rw [if_neg (by simp), a5]; dsimp only
  rw [if_neg (by omega), hw, a6]; dsimp only
  rw [if_neg (by simp), a7]; dsimp only
  rw [if_neg (by simp), if_neg (by simp)]
theorem zero_ite {p : Prop} [Decidable p] {e : Int} {X : UD × Int} (h : X.2 ≠ 0 → X.1 = zeroU) : (if p then (zeroU, e) else X).2 ≠ 0 → (if p then (zeroU, e) else X).1 = zeroU := by
  by_cases hp : p
  · rw [if_pos hp]; exact fun _ => rfl
  · rw [if_neg hp]; exact h
theorem get_zero (b : List Int) : (getR b).2 ≠ 0 → (getR b).1 = zeroU := by
  unfold getR
  exact zero_ite (zero_ite (zero_ite (zero_ite (zero_ite (zero_ite (zero_ite (zero_ite (fun h => absurd rfl h))))))))
end Go.Proofs.YthbcliofjfhmbaaDoor.Given
end

section
/- What the calls of UnitBack tell; any unit of few parts and any bytes, the operations' table as the program lays it. -/
namespace Go.Proofs.YthbcliofjfhmbaaDoor.UPure
open Go.RowKit Go.Proofs.YthbcliofjfhmbaaDoor.PUni Go.Proofs.YthbcliofjfhmbaaDoor.Given Go.Proofs.YthbcliofjfhmbaaDoorW.PrintWords Go.Proofs.YthbcliofjfhmbaaDoorW.PrintLast
set_option linter.unusedVariables false
set_option linter.unusedSimpArgs false
theorem put_c2 (u : UR) (w : World) (h : u.Ok w) (h1 : u.n.size ≤ 1000) (h2 : u.P.length ≤ 10000) (h3 : u.L.length ≤ 10000) (h4 : u.C.length ≤ 10000) (hL : LaidOps w) : Calls Tryd.prog 19 #[.agg u.cells] w fun e w' => ∃ v0_ : Value, e = .returned (.tuple #[v0_, .bool u.fits]) ∧ Kd.R (Kd.int .u8) 5 w' w.heap.size (fun _ => True) v0_ u.put ∧ Below w.heap.size w w' := by
  refine unit_Put.calls 20100 u.n u.A1 u.c1 u.P u.R u.A3 u.c3 u.L u.A4 u.c4 u.C u.put u.fits w h.p h.pl h.l h.ll h.c h.cl ?_ hL
  rw [put_is u.n u.P u.R u.L u.C h1 h2 h3 h4 20100 (Nat.le_refl _)]
  unfold UR.put UR.fits
  by_cases hq : fitsF u.n u.P u.R u.L u.C = true
  · rw [if_pos hq, if_pos hq, hq]
  · rw [if_neg hq, if_neg hq, show fitsF u.n u.P u.R u.L u.C = false by simpa using hq]
theorem putB_len (n : ByteArray) (P : List Int) (R : Int) (L : List Int) (C : List S47) (hn : n.size ≤ 255) : (putB n P R L C).length = n.size + P.length + L.length + 5 * C.length + 7 := by
  unfold putB
  simp only [List.length_append, le_length, low_len, enc_len, text_all n hn, bytes_len]
  omega
theorem putB_byte (n : ByteArray) (P : List Int) (R : Int) (L : List Int) (C : List S47) (h : fitsF n P R L C = true) : ∀ x ∈ putB n P R L C, 0 ≤ x ∧ x < 256 := by
  obtain ⟨h1, h2, h3, h4, h5, h6, h7, h8, h9⟩ := fits_allR h
  obtain ⟨m, rfl⟩ := conv_onto C
  rw [allR_conv] at h5
  unfold putB
  rw [low_id P (byteL_all P h6), low_id L (byteL_all L h7), encF_conv]
  intro x hx
  simp only [List.mem_append] at hx
  rcases hx with (((((((hx | hx) | hx) | hx) | hx) | hx) | hx) | hx) | hx
  · exact le_byte _ _ x hx
  · exact bytes_byte _ x hx
  · exact le_byte _ _ x hx
  · exact byteL_all P h6 x hx
  · exact le_byte _ _ x hx
  · exact le_byte _ _ x hx
  · exact byteL_all L h7 x hx
  · exact le_byte _ _ x hx
  · exact Pure.enc_byte m x hx
theorem okB_of {l : List Int} (h : ∀ x ∈ l, 0 ≤ x ∧ x < 256) (hl : l.length ≤ 1000000) : okB l = true := by
  unfold okB
  simp only [Bool.and_eq_true, List.all_eq_true, decide_eq_true_eq]
  exact ⟨h, by omega⟩
/-- What fits comes back. -/
theorem back_c (u : UR) (hu : u.few = true) (hF : u.fits = true) (A : Option Addr) (c : Nat) (w : World) (hC : Kd.C (Kd.int .u8) w A u.put.length u.put) (hc : u.put.length ≤ c) (hL : LaidOps w) :
    Calls Tryd.prog 27 #[.slice A u.put.length c] w fun e w' => ∃ v : UR, e = .returned (.tuple #[.agg v.cells, .int .i64 0]) ∧ v.Ok w' ∧ u.same v = true ∧ Below w.heap.size w w' := by
  have hl := UR.few_lim hu
  have hF' : fitsF u.n u.P u.R u.L u.C = true := hF
  have hp : u.put = putB u.n u.P u.R u.L u.C := by unfold UR.put; rw [if_pos hF]
  have hpl := putB_len u.n u.P u.R u.L u.C (fits_allR hF').1
  have hle : u.put.length ≤ 1000000 := by rw [hp, hpl]; omega
  have hb : okB u.put = true := okB_of (by rw [hp]; exact putB_byte _ _ _ _ _ hF') hle
  have hg := get_put u.n u.P u.R u.L u.C hF'
  rw [← hp] at hg
  refine (get_calls A c u.put w hC hc hle hb hL).mono ?_
  rintro e w' ⟨v, rfl, hv, h2, hB⟩
  rw [hg] at h2 ⊢
  refine ⟨v, rfl, hv, ?_, hB⟩
  obtain ⟨vn, A1, c1, vP, vR, A3, c3, vL, A4, c4, vC⟩ := v
  dsimp only at h2
  obtain ⟨h3, h4, h5, h6, h7⟩ : vn = u.n ∧ vP = u.P ∧ vR = u.R ∧ vL = u.L ∧ vC = u.C := by
    simp only [Prod.mk.injEq] at h2
    exact h2
  subst h3 h4 h5 h6 h7
  exact sameU_self _ _ _ _ _
/-- What was read: a unit that may be put, and what that tells. -/
theorem read_c (A : Option Addr) (c : Nat) (b : List Int) (w : World) (hC : Kd.C (Kd.int .u8) w A b.length b) (hc : b.length ≤ c) (hl : b.length ≤ 2000) (hb : ∀ x ∈ b, 0 ≤ x ∧ x < 256) (hL : LaidOps w) :
    Calls Tryd.prog 27 #[.slice A b.length c] w fun e w' => ∃ v : UR, e = .returned (.tuple #[.agg v.cells, .int .i64 (getR b).2]) ∧ v.Ok w' ∧ (v.n.size ≤ 1000 ∧ v.P.length ≤ 10000 ∧ v.L.length ≤ 10000 ∧ v.C.length ≤ 10000) ∧ ((getR b).2 = 0 → v.fits = true ∧ v.put = b) ∧ Below w.heap.size w w' := by
  refine (get_calls A c b w hC hc (by omega) (okB_of hb (by omega)) hL).mono ?_
  rintro e w' ⟨v, rfl, hv, h2, hB⟩
  by_cases h0 : (getR b).2 = 0
  · have hi := get_inv b hb (by omega) (getR b).1 (Prod.ext rfl h0)
    rw [← h2] at hi
    dsimp only at hi
    have hnl := (fits_allR hi.1).1
    have hpl := putB_len v.n v.P v.R v.L v.C hnl
    rw [hi.2] at hpl
    have hp : v.put = b := by unfold UR.put; rw [if_pos (show v.fits = true from hi.1)]; exact hi.2
    exact ⟨v, rfl, hv, by omega, fun _ => ⟨hi.1, hp⟩, hB⟩
  · have hz : (getR b).1 = zeroU := get_zero b h0
    rw [hz] at h2
    obtain ⟨vn, A1, c1, vP, vR, A3, c3, vL, A4, c4, vC⟩ := v
    dsimp only at h2
    obtain ⟨h3, h4, h5, h6, h7⟩ : vn = ⟨#[]⟩ ∧ vP = [] ∧ vR = 0 ∧ vL = [] ∧ vC = [] := by
      simp only [zeroU, Prod.mk.injEq] at h2
      exact h2
    subst h3 h4 h5 h6 h7
    exact ⟨_, rfl, hv, by simp [ByteArray.size], fun h => absurd h h0, hB⟩
end Go.Proofs.YthbcliofjfhmbaaDoor.UPure
end

section
/- The walk of UnitBack: for any unit and any bytes its call returns true; the operations' table as the program lays it. -/
namespace Go.Proofs.YthbcliofjfhmbaaDoor.UPure
open Go Go.RowKit Go.Proofs.YthbcliofjfhmbaaDoor.PUni Go.Proofs.YthbcliofjfhmbaaDoor.Given Go.Proofs.YthbcliofjfhmbaaDoorW.PrintWords Go.Proofs.YthbcliofjfhmbaaDoorW.PrintLast Go.Proofs.YthbcliofjfhmbaaDoorW.PrintMore
set_option linter.unusedVariables false
set_option linter.unusedSimpArgs false
set_option maxHeartbeats 4000000 in
set_option maxRecDepth 100000 in
theorem unitBack_w (u : UR) (A : Option Addr) (c : Nat) (b : List Int) (w : World) (hu : u.Ok w) (hr0 : Kd.C (Kd.int .u8) w A b.length b) (hc0 : b.length ≤ c) (hbb : ∀ x ∈ b, 0 ≤ x ∧ x < 256) (hL : LaidOps w) :
    Calls Tryd.prog 8 #[.agg u.cells, .slice A b.length c] w fun e w' => e = .returned (.bool true) ∧ Below w.heap.size w w' := by
  have hi : (Tryd.prog.info? 37).map (·.size) = some 5 := by kernel_rfl
  have HL := Aside0.mk hL
  have HB2 := Aside0.mk ((Below.refl w.heap.size w).alloc (Nat.le_refl _) (.cells u.cells 37))
  have HGU := Aside0.mk (heap_alloc_new w (.cells u.cells 37))
  have HU0 := Aside0.mk (hu.below HB2.out)
  have HC0 := Aside0.mk (Kd.C_below hr0 HB2.out)
  have HC := Aside0.mk hc0
  have HBB := Aside0.mk hbb
  clear hu hL hr0 hc0 hbb
  have step : ∀ {W W2 : World}, Below w.heap.size w W → Below W.heap.size W W2 → Below w.heap.size w W2 := fun h h2 => h.trans (h2.mono h.size)
  cases hfu : u.few
  · have HF := Aside0.mk hfu
    clear hfu
    go_enter Tryd.func8, Tryd.ntmps8
    go_wp2_with ((with_reducible refine gate_dst (N := 13) rfl ?_); refine wpList_load_row rfl 37 (.tmp 2) rfl w.heap.size rfl 37 _ (0, 0) _ HGU.out Tryd.underlying37 rfl (by rw [hi]; rfl) ?_)
    refine (few_c u _ HU0.out).mono ?_
    rw [HF.out]
    rintro e w1 ⟨rfl, hb1⟩
    have HB3 := Aside0.mk (step HB2.out hb1)
    go_wp2_with fail
    refine (awake_c _ (HL.out.below HB3.out)).mono ?_
    rintro e w2 ⟨rfl, hb2⟩
    have hb3 := step HB3.out hb2
    go_wp2
    go_ret
    exact ⟨rfl, hb3⟩
  · by_cases hlen : (b.length : Int) > 2000
    · have HF := Aside0.mk hfu
      clear hfu
      go_enter Tryd.func8, Tryd.ntmps8
      go_wp2_with ((with_reducible refine gate_dst (N := 13) rfl ?_); refine wpList_load_row rfl 37 (.tmp 2) rfl w.heap.size rfl 37 _ (0, 0) _ HGU.out Tryd.underlying37 rfl (by rw [hi]; rfl) ?_)
      refine (few_c u _ HU0.out).mono ?_
      rw [HF.out]
      rintro e w1 ⟨rfl, hb1⟩
      have HB3 := Aside0.mk (step HB2.out hb1)
      go_wp2_with fail
      refine (awake_c _ (HL.out.below HB3.out)).mono ?_
      rintro e w2 ⟨rfl, hb2⟩
      have hb3 := step HB3.out hb2
      go_wp2
      go_ret
      exact ⟨rfl, hb3⟩
    · have HF := Aside0.mk hfu
      have HLN := Aside0.mk hlen
      cases hff : u.fits
      · have HFF := Aside0.mk hff
        have P1 := Aside0.mk (show ∀ W, u.Ok W → LaidOps W → Calls Tryd.prog 19 #[.agg u.cells] W fun e w' => ∃ v0_ : Value, e = .returned (.tuple #[v0_, .bool false]) ∧ Kd.R (Kd.int .u8) 5 w' W.heap.size (fun _ => True) v0_ u.put ∧ Below W.heap.size W w' from fun W h hl => by rw [← hff]; exact put_c u W h hfu hl)
        have P2 := Aside0.mk (fun W hW => read_c A c b W hW HC.out (by omega) HBB.out)
        clear hff hfu hlen
        go_enter Tryd.func8, Tryd.ntmps8
        go_wp2_with ((with_reducible refine gate_dst (N := 13) rfl ?_); refine wpList_load_row rfl 37 (.tmp 2) rfl w.heap.size rfl 37 _ (0, 0) _ HGU.out Tryd.underlying37 rfl (by rw [hi]; rfl) ?_)
        refine (few_c u _ HU0.out).mono ?_
        rw [HF.out]
        rintro e w1 ⟨rfl, hb1⟩
        have hlen := HLN.out
        have HB3 := Aside0.mk (step HB2.out hb1)
        have HU1 := Aside0.mk (HU0.out.below hb1)
        have HC1 := Aside0.mk (Kd.C_below HC0.out hb1)
        have HGU1 := Aside0.mk ((hb1.block _ (blk_lt HGU.out)).trans HGU.out)
        clear HB2 HU0 HC0 HGU hb1
        go_wp2_with ((with_reducible refine gate_dst (N := 23) rfl ?_); refine wpList_load_row rfl 37 (.tmp 2) rfl w.heap.size rfl 37 _ (0, 0) _ HGU1.out Tryd.underlying37 rfl (by rw [hi]; rfl) ?_)
        refine (P1.out _ HU1.out (HL.out.below HB3.out)).mono ?_
        rintro e w3 ⟨vb, rfl, ho3, hb3⟩
        obtain ⟨Ab, cb, rfl, hlb, hCb⟩ := Kd.R_reads ho3
        have HB4 := Aside0.mk (step HB3.out hb3)
        have HC2 := Aside0.mk (Kd.C_below HC1.out hb3)
        clear HB3 HU1 HC1 HGU1 hb3 ho3 hCb
        go_wp2_with fail
        refine (P2.out _ HC2.out (HL.out.below HB4.out)).mono ?_
        rintro e w4 ⟨v, rfl, hv, hlim, hz, hb4⟩
        have HB5 := Aside0.mk (step HB4.out hb4)
        have HC3 := Aside0.mk (Kd.C_below HC2.out hb4)
        have HV := Aside0.mk hv
        have HZ := Aside0.mk hz
        have HM := Aside0.mk hlim
        clear HB4 HC2 hv hz hlim hb4
        have hz0 := heap_alloc_new w4 (.cells #[.string ⟨#[]⟩, .slice none 0 0, .int .i64 0, .slice none 0 0, .slice none 0 0] 37)
        have hg5 := setRow_heap _ _ _ v.cells _ _ hz0
        have hB5 := below_setRow ((Below.refl w4.heap.size w4).alloc (Nat.le_refl _) (.cells #[.string ⟨#[]⟩, .slice none 0 0, .int .i64 0, .slice none 0 0, .slice none 0 0] 37)) (Nat.le_refl w4.heap.size) v.cells
        go_wp2_with (first | ((with_reducible refine gate_store (t := 37) (p := 9) (v := .tmp 44) rfl ?_); refine wpList_store_row rfl 37 (.tmp 9) (.tmp 44) rfl w4.heap.size v.cells rfl rfl 37 _ hz0 (by rw [hi]; rfl) rfl (by kernel_rfl) ?_) | ((with_reducible refine gate_dst (N := 47) rfl ?_); refine wpList_load_row rfl 37 (.tmp 9) rfl w4.heap.size rfl 37 _ (0, 0) _ hg5 Tryd.underlying37 rfl (by rw [hi]; rfl) ?_))
        have HB6 := Aside0.mk (step HB5.out hB5)
        have HC4 := Aside0.mk (Kd.C_below HC3.out hB5)
        have HG5 := Aside0.mk hg5
        have HV5 := Aside0.mk (HV.out.below hB5)
        generalize (w4.alloc (.cells #[.string ⟨#[]⟩, .slice none 0 0, .int .i64 0, .slice none 0 0, .slice none 0 0] 37)).setRow w4.heap.size v.cells = w5 at HB6 HC4 HG5 HV5 ⊢
        clear HB5 HC3 HV hz0 hg5 hB5
        refine (put_c2 v w5 HV5.out HM.out.1 HM.out.2.1 HM.out.2.2.1 HM.out.2.2.2 (HL.out.below HB6.out)).mono ?_
        rintro e w6 ⟨vy, rfl, ho6, hb6⟩
        obtain ⟨Ay, cy, rfl, hly, hCy⟩ := Kd.R_reads ho6
        have HB7 := Aside0.mk (step HB6.out hb6)
        have HC5 := Aside0.mk (Kd.C_below HC4.out hb6)
        have HCy := Aside0.mk hCy
        clear HB6 HC4 HG5 HV5 hb6 ho6 hCy
        by_cases h0 : (getR b).2 = 0
        · obtain ⟨z1, z2⟩ := HZ.out h0
          rw [z2] at HCy hly
          have hcv1 := Kd.C_string (c := cy) (P := Tryd.prog) Tryd.underlying22 Tryd.underlying5 Tryd.underlying9 HCy.out
          have hcv2 := Kd.C_string (c := c) (P := Tryd.prog) Tryd.underlying22 Tryd.underlying5 Tryd.underlying9 HC5.out
          rw [h0, z1, z2]
          clear HZ P1 P2 h0 z1 z2
          go_wp2_with fail
          refine (awake_c _ (HL.out.below HB7.out)).mono ?_
          rintro e w7 ⟨rfl, hb7⟩
          have hb8 := step HB7.out hb7
          go_wp2
          go_ret
          exact ⟨rfl, hb8⟩
        · generalize (getR b).2 = E at h0 ⊢
          clear P1 P2
          go_wp2_with fail
          refine (awake_c _ (HL.out.below HB7.out)).mono ?_
          rintro e w7 ⟨rfl, hb7⟩
          have hb8 := step HB7.out hb7
          go_wp2
          go_ret
          exact ⟨rfl, hb8⟩
      · have HFF := Aside0.mk hff
        have P1 := Aside0.mk (show ∀ W, u.Ok W → LaidOps W → Calls Tryd.prog 19 #[.agg u.cells] W fun e w' => ∃ v0_ : Value, e = .returned (.tuple #[v0_, .bool true]) ∧ Kd.R (Kd.int .u8) 5 w' W.heap.size (fun _ => True) v0_ u.put ∧ Below W.heap.size W w' from fun W h hl => by rw [← hff]; exact put_c u W h hfu hl)
        have P0 := Aside0.mk (fun A c W h1 h2 h3 => back_c u hfu hff A c W h1 h2 h3)
        have P3 := Aside0.mk (fun v W h1 h2 => rsame_c u v W h1 h2 hfu)
        have P2 := Aside0.mk (fun W hW => read_c A c b W hW HC.out (by omega) HBB.out)
        clear hff hfu hlen
        go_enter Tryd.func8, Tryd.ntmps8
        go_wp2_with ((with_reducible refine gate_dst (N := 13) rfl ?_); refine wpList_load_row rfl 37 (.tmp 2) rfl w.heap.size rfl 37 _ (0, 0) _ HGU.out Tryd.underlying37 rfl (by rw [hi]; rfl) ?_)
        refine (few_c u _ HU0.out).mono ?_
        rw [HF.out]
        rintro e w1 ⟨rfl, hb1⟩
        have hlen := HLN.out
        have HB3 := Aside0.mk (step HB2.out hb1)
        have HU1 := Aside0.mk (HU0.out.below hb1)
        have HC1 := Aside0.mk (Kd.C_below HC0.out hb1)
        have HGU1 := Aside0.mk ((hb1.block _ (blk_lt HGU.out)).trans HGU.out)
        clear HB2 HU0 HC0 HGU hb1
        go_wp2_with ((with_reducible refine gate_dst (N := 23) rfl ?_); refine wpList_load_row rfl 37 (.tmp 2) rfl w.heap.size rfl 37 _ (0, 0) _ HGU1.out Tryd.underlying37 rfl (by rw [hi]; rfl) ?_)
        refine (P1.out _ HU1.out (HL.out.below HB3.out)).mono ?_
        rintro e w3 ⟨vb, rfl, ho3, hb3⟩
        obtain ⟨Ab, cb, rfl, hlb, hCb⟩ := Kd.R_reads ho3
        have HB4 := Aside0.mk (step HB3.out hb3)
        have HC2 := Aside0.mk (Kd.C_below HC1.out hb3)
        have HU2 := Aside0.mk (HU1.out.below hb3)
        have HGU2 := Aside0.mk ((hb3.block _ (blk_lt HGU1.out)).trans HGU1.out)
        have HCb := Aside0.mk hCb
        clear HB3 HU1 HC1 HGU1 hb3 ho3 hCb
        go_wp2_with fail
        refine (P0.out Ab cb _ HCb.out hlb (HL.out.below HB4.out)).mono ?_
        rintro e w8 ⟨q, rfl, hq, hqs, hb8⟩
        have HB5 := Aside0.mk (step HB4.out hb8)
        have HC3 := Aside0.mk (Kd.C_below HC2.out hb8)
        have HU3 := Aside0.mk (HU2.out.below hb8)
        have HGU3 := Aside0.mk ((hb8.block _ (blk_lt HGU2.out)).trans HGU2.out)
        have HQ := Aside0.mk hq
        have HQS := Aside0.mk hqs
        clear HB4 HC2 HU2 HGU2 HCb hb8 hq hqs
        have hz0 := heap_alloc_new w8 (.cells #[.string ⟨#[]⟩, .slice none 0 0, .int .i64 0, .slice none 0 0, .slice none 0 0] 37)
        have hg5 := setRow_heap _ _ _ q.cells _ _ hz0
        have hB5 := below_setRow ((Below.refl w8.heap.size w8).alloc (Nat.le_refl _) (.cells #[.string ⟨#[]⟩, .slice none 0 0, .int .i64 0, .slice none 0 0, .slice none 0 0] 37)) (Nat.le_refl w8.heap.size) q.cells
        have hg6 := (hB5.block _ (blk_lt HGU3.out)).trans HGU3.out
        obtain ⟨q0, q1, q2, q3, q4⟩ := cell_all hg5
        obtain ⟨r0, r1, r2, r3, r4⟩ := cell_all hg6
        go_wp2_with (first | ((with_reducible refine gate_store (t := 37) (p := 7) (v := .tmp 31) rfl ?_); refine wpList_store_row rfl 37 (.tmp 7) (.tmp 31) rfl w8.heap.size q.cells rfl rfl 37 _ hz0 (by rw [hi]; rfl) rfl (by kernel_rfl) ?_))
        have HB6 := Aside0.mk (step HB5.out hB5)
        have HC4 := Aside0.mk (Kd.C_below HC3.out hB5)
        have HU4 := Aside0.mk (HU3.out.below hB5)
        have HQ4 := Aside0.mk (HQ.out.below hB5)
        generalize (w8.alloc (.cells #[.string ⟨#[]⟩, .slice none 0 0, .int .i64 0, .slice none 0 0, .slice none 0 0] 37)).setRow w8.heap.size q.cells = w9 at HB6 HC4 HU4 HQ4 ⊢
        clear HB5 HC3 HU3 HQ hz0 hg5 hB5 hg6 HGU3 q0 q1 q2 q3 q4 r0 r1 r2 r3 r4
        refine (P3.out q w9 HU4.out HQ4.out).mono ?_
        rw [HQS.out]
        rintro e w10 ⟨rfl, hb10⟩
        have HB4 := Aside0.mk (step HB6.out hb10)
        have HC2 := Aside0.mk (Kd.C_below HC4.out hb10)
        clear HB6 HC4 HU4 HQ4 hb10 P0 P3 HQS
        go_wp2_with fail
        refine (P2.out _ HC2.out (HL.out.below HB4.out)).mono ?_
        rintro e w4 ⟨v, rfl, hv, hlim, hz, hb4⟩
        have HB5 := Aside0.mk (step HB4.out hb4)
        have HC3 := Aside0.mk (Kd.C_below HC2.out hb4)
        have HV := Aside0.mk hv
        have HZ := Aside0.mk hz
        have HM := Aside0.mk hlim
        clear HB4 HC2 hv hz hlim hb4
        have hz0 := heap_alloc_new w4 (.cells #[.string ⟨#[]⟩, .slice none 0 0, .int .i64 0, .slice none 0 0, .slice none 0 0] 37)
        have hg5 := setRow_heap _ _ _ v.cells _ _ hz0
        have hB5 := below_setRow ((Below.refl w4.heap.size w4).alloc (Nat.le_refl _) (.cells #[.string ⟨#[]⟩, .slice none 0 0, .int .i64 0, .slice none 0 0, .slice none 0 0] 37)) (Nat.le_refl w4.heap.size) v.cells
        go_wp2_with (first | ((with_reducible refine gate_store (t := 37) (p := 9) (v := .tmp 44) rfl ?_); refine wpList_store_row rfl 37 (.tmp 9) (.tmp 44) rfl w4.heap.size v.cells rfl rfl 37 _ hz0 (by rw [hi]; rfl) rfl (by kernel_rfl) ?_) | ((with_reducible refine gate_dst (N := 47) rfl ?_); refine wpList_load_row rfl 37 (.tmp 9) rfl w4.heap.size rfl 37 _ (0, 0) _ hg5 Tryd.underlying37 rfl (by rw [hi]; rfl) ?_))
        have HB6 := Aside0.mk (step HB5.out hB5)
        have HC4 := Aside0.mk (Kd.C_below HC3.out hB5)
        have HG5 := Aside0.mk hg5
        have HV5 := Aside0.mk (HV.out.below hB5)
        generalize (w4.alloc (.cells #[.string ⟨#[]⟩, .slice none 0 0, .int .i64 0, .slice none 0 0, .slice none 0 0] 37)).setRow w4.heap.size v.cells = w5 at HB6 HC4 HG5 HV5 ⊢
        clear HB5 HC3 HV hz0 hg5 hB5
        refine (put_c2 v w5 HV5.out HM.out.1 HM.out.2.1 HM.out.2.2.1 HM.out.2.2.2 (HL.out.below HB6.out)).mono ?_
        rintro e w6 ⟨vy, rfl, ho6, hb6⟩
        obtain ⟨Ay, cy, rfl, hly, hCy⟩ := Kd.R_reads ho6
        have HB7 := Aside0.mk (step HB6.out hb6)
        have HC5 := Aside0.mk (Kd.C_below HC4.out hb6)
        have HCy := Aside0.mk hCy
        clear HB6 HC4 HG5 HV5 hb6 ho6 hCy
        by_cases h0 : (getR b).2 = 0
        · obtain ⟨z1, z2⟩ := HZ.out h0
          rw [z2] at HCy hly
          have hcv1 := Kd.C_string (c := cy) (P := Tryd.prog) Tryd.underlying22 Tryd.underlying5 Tryd.underlying9 HCy.out
          have hcv2 := Kd.C_string (c := c) (P := Tryd.prog) Tryd.underlying22 Tryd.underlying5 Tryd.underlying9 HC5.out
          rw [h0, z1, z2]
          clear HZ P1 P2 h0 z1 z2
          go_wp2_with fail
          refine (awake_c _ (HL.out.below HB7.out)).mono ?_
          rintro e w7 ⟨rfl, hb7⟩
          have hb8 := step HB7.out hb7
          go_wp2
          go_ret
          exact ⟨rfl, hb8⟩
        · generalize (getR b).2 = E at h0 ⊢
          clear P1 P2
          go_wp2_with fail
          refine (awake_c _ (HL.out.below HB7.out)).mono ?_
          rintro e w7 ⟨rfl, hb7⟩
          have hb8 := step HB7.out hb7
          go_wp2
          go_ret
          exact ⟨rfl, hb8⟩
end Go.Proofs.YthbcliofjfhmbaaDoor.UPure
end

section
/- Slices of octets as data are lists of octets; no conditions. -/
namespace Go.Proofs.YthbcliofjfhmbaaDoor
open Go.Proofs.YthbcliofjfhmbaaDoorW.PrintWords
open Go.RowKit
theorem rd_octets : Bridge.Rdga Tryd.prog 22 (Kd.slice 5 (Kd.int .u8)) (fun l => ∀ a ∈ l, (Lit.int .u8 a).wf = true) := Bridge.Rdg.slicea Tryd.underlying22 (by kernel_rfl) (Bridge.Rdg.int Tryd.underlying5 (by kernel_rfl))
end Go.Proofs.YthbcliofjfhmbaaDoor
end

section
/- UnitBack over a unit that is read as data and any bytes. -/
namespace Go.Proofs.YthbcliofjfhmbaaDoor
open Go Go.RowKit Go.Proofs.YthbcliofjfhmbaaDoorW.PrintWords Go.Proofs.YthbcliofjfhmbaaDoor.PUni Go.Proofs.YthbcliofjfhmbaaDoor.Given Go.Proofs.YthbcliofjfhmbaaDoor.UPure
set_option linter.unusedVariables false
theorem UnitBack_walk (cs0 : Array Value) (x0 : ByteArray × List Int × Int × List Int × List S47) (A : Option Addr) (c : Nat) (b : List Int) (w : World) (h0 : UniRow.KUnit.K w x0 cs0.toList) (wf0 : True) (h1 : Kd.C (Kd.int .u8) w A b.length b) (hc : b.length ≤ c) (wf1 : ∀ a ∈ b, (Lit.int .u8 a).wf = true) (hL : laidMetH Tryd.prog Rows.unitBackRow.laid w) :
    Calls Tryd.prog 8 #[.agg cs0, .slice A b.length c] w fun e w' => e = .returned (.bool true) ∧ Below w.heap.size w w' := by
  obtain ⟨u, rfl, hu⟩ := UniRow.unit_of h0
  exact unitBack_w u A c b w hu h1 hc (fun x hx => wf8 (wf1 x hx)) (UniRow.laidOps_of hL rfl (by simp [Rows.unitBackRow]))
end Go.Proofs.YthbcliofjfhmbaaDoor
end

section
/- The law UnitBack holds for every input: the walk over its code shows that the call returns true and that what was read stays as it was; the row follows. The package-level tables that the code reads are tied to the program's text by the given tie. -/
namespace Go.Proofs.YthbcliofjfhmbaaDoor.unitBackRw
open Go.ChangeShapes Go.WideShapes Go.ChangeAt Go.RowKit
open Go.ChangeMaps (open_string shut_string)
open Go.Proofs.YthbcliofjfhmbaaDoor.Bridge
set_option linter.unusedVariables false
set_option linter.unusedSimpArgs false
theorem own : ownKnob Tryd.prog.godebug = none := by kernel_rfl
theorem laidOut : laidOutB Tryd.prog = true := by kernel_rfl
theorem contract (H : Type) (enc : TypeId × Value → H) (W : World) (base : Nat) (args : Array Value) (ds gs : List (DataW H)) (before : List MemPlace)
    (hval : ∀ (j : Nat) t v, Tryd.f8.params[j]? = some t → args[j]? = some v → Value.okWide Tryd.prog W .any base t v)
    (hW : DataW.Whole enc Tryd.prog Tryd.f8.params.toList Rows.unitBackSpec.vars false W args.toList ds gs before) (hsz : (DataW.weightsEach Tryd.prog (Tryd.f8.params.toList ++ Rows.unitBackSpec.plain.varTypes Tryd.prog) (ds ++ gs)).all (· ≤ reachBytes) = true) (hL : laidMetH Tryd.prog Rows.unitBackRow.laid W) :
    Calls Tryd.prog 8 args W fun e W' => ∃ v, e = .returned v ∧ Rows.unitBackSpec.post enc Tryd.prog Tryd.f8 false true false false W args v W' := by
  have hW' := hW
  obtain ⟨p, q, hA0, hV, rfl, hfz, hnd⟩ := hW
  have hA : DataW.TrodAll enc Tryd.prog W 0 (fun _ => true) true Tryd.f8.params.toList args.toList ds p := hA0
  rw [Tryd.params8] at hA hval hsz
  obtain ⟨v0, vs0, d0, ds0, p0, q0, hargs, rfl, rfl, h0, r0⟩ := trodAll_cons hA
  obtain ⟨v1, vs1, d1, ds1, p1, q1, rfl, rfl, rfl, h1, r1⟩ := trodAll_cons r0
  obtain ⟨rfl, rfl, rfl⟩ := trodAll_nil r1
  obtain rfl : args = #[v0, v1] := by cases args; simp_all
  obtain ⟨rfl, rfl⟩ := trodVars_none hV
  clear hA0
  have k0 := h0
  have lt0 : ∀ x ∈ p0, x.block < W.heap.size := by obtain ⟨m, hm⟩ := k0; exact DataW.trod_lt m _ _ _ hm
  obtain ⟨cs0, rfl⟩ : ∃ cs, v0 = .agg cs := by
    have z := (hval 0 37 v0 rfl rfl)
    unfold Value.okWide at z
    rw [Tryd.underlying37] at z
    obtain ⟨cs, e, _⟩ := z
    exact ⟨cs, e⟩
  obtain ⟨x0, hk0, wf0⟩ := Rdga.trod UniRow.rd_unit h0
  have k1 := h1
  have lt1 : ∀ x ∈ p1, x.block < W.heap.size := by obtain ⟨m, hm⟩ := k1; exact DataW.trod_lt m _ _ _ hm
  obtain ⟨A1, len1, c1, rfl⟩ := okWide_slice Tryd.underlying22 (hval 1 22 v1 rfl rfl)
  obtain ⟨x1, hk1, wf1⟩ := Rdga.trod rd_octets h1
  obtain ⟨A1', c1', he1, hle1, hC1⟩ := hk1
  simp only [Value.cells, List.cons.injEq, Value.slice.injEq, and_true] at he1
  obtain ⟨rfl, rfl, rfl⟩ := he1
  refine (UnitBack_walk cs0 x0 A1 c1 x1 W hk0 wf0 hC1 hle1 wf1 hL).mono fun e W' ⟨he, bel⟩ => ?_
  subst he
  exact ⟨_, rfl, _, _, _, [], _, [], hW', trodAll_mk1 (shut_bool Tryd.underlying4 _), (trodAll_cons_mk (Below.trod laidOut (by kernel_rfl) (of_decide_eq_true (by kernel_rfl)) k0 bel lt0) (trodAll_cons_mk (Below.trod laidOut (by kernel_rfl) (of_decide_eq_true (by kernel_rfl)) k1 bel lt1) trodAll_mk0)), rfl, bel.frame _, fun h => by cases h⟩
theorem laid_met (os : Os) : laidMetH Tryd.prog Rows.unitBackRow.laid ((World.doorLaid Tryd.prog 4000 os).forCall (fun _ _ => 0) ⟨#[], #[.agg #[.string ⟨#[]⟩, .slice none 0 0, .int .i64 0, .slice none 0 0, .slice none 0 0], .slice none 0 0], []⟩).memory :=
  laidMetH_of_parts3 (fuel := 12) (laidMet_of_run' 12 (by kernel_rfl) (by kernel_rfl)) (by kernel_rfl) (by kernel_rfl)
theorem reads (os : Os) {H : Type} (enc : TypeId × Value → H) : ∃ ds places, DataW.whole enc Tryd.prog ((World.doorLaid Tryd.prog 4000 os).forCall (fun _ _ => 0) ⟨#[], #[.agg #[.string ⟨#[]⟩, .slice none 0 0, .int .i64 0, .slice none 0 0, .slice none 0 0], .slice none 0 0], []⟩).memory Tryd.f8.params.toList Rows.unitBackSpec.vars false (#[.agg #[.string ⟨#[]⟩, .slice none 0 0, .int .i64 0, .slice none 0 0, .slice none 0 0], .slice none 0 0] : Array Value).toList 8 = some (ds, [], places) :=
  ⟨[.agg [.lit (.string []), .nil, .lit (.int .i64 0), .nil, .nil], .nil], [], by kernel_rfl⟩
set_option maxRecDepth 100000 in
theorem lifted (os : Os) (started : os.Started) (H : Type) (enc : TypeId × Value → H) (F : Stop.Interp) :
    ReturnsInHanded {} Tryd.checked os 8 .any ((OpenSpec.ofChange Rows.unitBackSpec).preRow enc Tryd.prog Tryd.f8 Rows.unitBackRow.domain false Rows.unitBackRow.laid) (((OpenSpec.ofChange Rows.unitBackSpec).at F).post enc Tryd.prog Tryd.f8 false true false false) := by
  obtain ⟨ds, places, hx⟩ := reads os enc
  refine returnsInHanded_of_row (C := Tryd.checked) (s := OpenSpec.ofChange Rows.unitBackSpec) own started (by kernel_rfl) Tryd.func8
    (witness_row_at (enc := enc) (C := Tryd.checked) false (World.doorLaid Tryd.prog 4000 os) #[.agg #[.string ⟨#[]⟩, .slice none 0 0, .int .i64 0, .slice none 0 0, .slice none 0 0], .slice none 0 0] rfl (by kernel_rfl) (by kernel_rfl) (by kernel_rfl)
      (OpenSpec.preRow_of_cond 8 hx (by kernel_rfl) (fun k hk => by cases hk) (by kernel_rfl) (laid_met os))) ?_
  intro W base args ds gs before hval hW _ _ hsz hL _ _
  exact contract H enc W base args ds gs before hval hW hsz hL
theorem said : Rows.UnitBackSaid :=
  OpenClaim.holds_of_cond 8 Tryd.f8 rfl rfl rfl rfl rfl rfl rfl ⟨rfl, rfl, rfl, rfl, rfl⟩ rfl rfl rfl rfl rfl (by kernel_rfl) Tryd.func8 (by kernel_rfl)
    (of_decide_eq_true (by kernel_rfl)) (by unfold Func.isWrapper; first | (rw [if_pos (by decide +kernel)]; kernel_rfl) | (rw [if_neg (by decide +kernel)]; exact ⟨rfl, rfl⟩))
    (fun os started H enc _ F => by rw [OpenClaim.pre_eq_preRow]; exact lifted os started H enc F)
theorem plain (f : FuncId) (fn : Func) (hf : Tryd.pinned.checked.prog.funcNamed "ladderback/ladderbacklaw15.UnitBack" = some f) (hfn : Tryd.pinned.checked.prog.funcs[f]? = some fn) :
    false = Tryd.pinned.checked.prog.looks [] ∧ ∀ (j : Nat) t, fn.params[j]? = some t → Tryd.pinned.checked.prog.wantsStandIn t = false := by
  obtain rfl : f = 8 := Option.some.inj ((show Tryd.prog.funcNamed "ladderback/ladderbacklaw15.UnitBack" = some 8 by kernel_rfl).symm.trans hf) |>.symm
  obtain rfl : fn = Tryd.f8 := (Option.some.inj (Tryd.func8.symm.trans hfn)).symm
  refine ⟨by kernel_rfl, fun j t ht => ?_⟩
  rw [Tryd.params8] at ht
  have hm : t ∈ [37, 22] := by simpa using Array.mem_of_getElem? ht
  have hall : ([37, 22].all fun u => !Tryd.prog.wantsStandIn u) = true := by kernel_rfl
  exact (show Tryd.prog.wantsStandIn t = false by simpa using List.all_eq_true.1 hall t hm)
theorem card : Rows.UnitBackCardSaid :=
  Claim7.holds_tied_plain_at .later [] _ _ _ _ said (fun _ h => by cases h) (by kernel_rfl) (fun _ h => by cases h) unitBack_row_tie rfl ⟨rfl, rfl⟩ (by kernel_rfl) rfl plain (by kernel_rfl)
end Go.Proofs.YthbcliofjfhmbaaDoor.unitBackRw
namespace Go.Proofs.YthbcliofjfhmbaaDoor
theorem unitBack_holds : Rows.UnitBackCardSaid := unitBackRw.card
#print axioms unitBack_holds
end Go.Proofs.YthbcliofjfhmbaaDoor
end
