/- Printed by a program of this session (wip/pg.py, over the print of the kit): functions, their Lean twins, and the proofs that the calls come to them; each under the conditions that it names. -/
import Derived.Test.YtabkllbkmconhaaRows
import Derived.WalkKit
import Derived.ProofKit
import Derived.OpenShut
import Derived.ShutString
import Derived.ChangeOld
import Derived.Below
import Derived.SizedLaws
import Derived.Test.YtabkllbkmconhaaZLexBackac
section
/- What the plain scanner tells of a text that was joined out of its own tokens. -/
namespace Go.Proofs.Ytabkllbkmconhaa.Pure
open Go.RowKit Go.Proofs.Ytabkllbkmconhaa.PLex Go.Proofs.Ytabkllbkmconhaa.Given Go.Proofs.YtabkllbkmconhaaW.PrintWords Go.Proofs.YtabkllbkmconhaaW.PrintLast
set_option linter.unusedVariables false
set_option linter.unusedSimpArgs false
theorem bt_left (a b : ByteArray) (i : Nat) (h : i < a.size) : bt (a ++ b) (i : Int) = bt a (i : Int) := by
  unfold bt
  rw [dif_pos (by simp; omega), dif_pos (by simp; omega)]
  congr 2
  exact ByteArray.getElem_append_left h
theorem bt_right (a b : ByteArray) (j : Nat) (h : j < b.size) : bt (a ++ b) ((a.size + j : Nat) : Int) = bt b (j : Int) := by
  unfold bt
  rw [dif_pos (by simp; omega), dif_pos (by simp; omega)]
  congr 2
  have := ByteArray.getElem_append_right (a := a) (b := b) (i := a.size + j) (h := by rw [ByteArray.size_append]; omega) (by omega)
  simp only [Int.toNat_natCast]
  rw [this]
  congr 1
  omega
theorem bt_sub (s : ByteArray) (i m j : Nat) (h : i + m ≤ s.size) (hj : j < m) : bt (s.extract i (i + m)) (j : Int) = bt s ((i + j : Nat) : Int) := by
  unfold bt
  rw [dif_pos (by simp; omega), dif_pos (by simp; omega)]
  simp only [Int.toNat_natCast]
  congr 2
  exact ByteArray.getElem_extract ..
/-- The bytes of x stand in s from i on. -/
def At (x s : ByteArray) (i : Nat) : Prop := ∀ j, j < x.size → bt x (j : Int) = bt s ((i + j : Nat) : Int)
theorem At.sub (s : ByteArray) (i m : Nat) (h : i + m ≤ s.size) : At (s.extract i (i + m)) s i := fun j hj => bt_sub s i m j h (by simp at hj; omega)
theorem At.go {x s : ByteArray} {i n : Nat} (h : At x s i) (hn : n < x.size) : goF x 0 n = goF s i n := by
  unfold goF
  have e0 := h n hn
  rw [Nat.zero_add, e0]
  by_cases hp : 0 < n
  · have e1 := h (n - 1) (by omega)
    rw [e1, show i + (n - 1) = i + n - 1 by omega]
  · simp [hp]
theorem wn_all (s : ByteArray) (i : Nat) : ∀ d n k, n ≤ k → k < wn s i d n → goF s i k = true := by
  intro d
  induction d with
  | zero => intro n k h1 h2; unfold wn at h2; omega
  | succ d ih =>
    intro n k h1 h2
    unfold wn at h2
    split at h2
    · rename_i c
      by_cases e : n = k
      · exact e ▸ c.2
      · exact ih (n + 1) k (by omega) h2
    · omega
theorem wn_eq (s : ByteArray) (i m : Nat) (hm : i + m ≤ s.size) (hs : i + m = s.size ∨ goF s i m = false) : ∀ d n, n ≤ m → m ≤ n + d → (∀ k, n ≤ k → k < m → goF s i k = true) → wn s i d n = m := by
  intro d
  induction d with
  | zero => intro n h1 h2 _; unfold wn; omega
  | succ d ih =>
    intro n h1 h2 h3
    unfold wn
    by_cases e : n = m
    · subst e
      rw [if_neg]
      rintro ⟨c1, c2⟩
      rcases hs with h | h
      · omega
      · rw [h] at c2; cases c2
    · rw [if_pos ⟨by omega, h3 n (Nat.le_refl _) (by omega)⟩]
      exact ih (n + 1) (by omega) (by omega) (fun k k1 k2 => h3 k (by omega) k2)
/-- A token that stands by itself. -/
def okT (x : Tok) : Prop := 0 < x.f2.size ∧ ((x.f0 = 1 ∧ ∀ n, n < x.f2.size → goF x.f2 0 n = true) ∨ (x.f0 = 2 ∧ spF (bt x.f2 (0 : Nat)) = false ∧ goF x.f2 0 0 = false ∧ sgF x.f2 0 = x.f2.size))
theorem go_letter {s : ByteArray} {i : Nat} (h : goF s i 0 = true) : isLetter (bt s (i : Int)) = true := by
  unfold goF at h
  simpa using h
theorem go_no_space {s : ByteArray} {i : Nat} (h : goF s i 0 = true) : ¬ spF (bt s (i : Int)) = true := by
  intro hs
  have := letter_space s (i : Int) (by unfold spF at hs; simpa [or_assoc] using hs)
  have hl := go_letter h
  rw [this] at hl
  cases hl
theorem letter32 : isLetter 32 = false := by decide +kernel
theorem pr_at {x s : ByteArray} {i : Nat} (h : At x s i) (h2 : 1 < x.size) (hi : i + x.size ≤ s.size) : prF x 0 = prF s i := by
  have e0 := h 0 (by omega)
  have e1 := h 1 h2
  unfold prF
  rw [show ((0 : Nat) : Int) = 0 from rfl] at e0 ⊢
  rw [Nat.add_zero] at e0
  rw [Nat.zero_add, e0, e1, show decide (1 < x.size) = true from decide_eq_true h2, show decide (i + 1 < s.size) = true from decide_eq_true (by omega)]
theorem sg_at {x s : ByteArray} {i : Nat} (h : At x s i) (h0 : 0 < x.size) (hi : i + x.size ≤ s.size) (hg : sgF x 0 = x.size) (hs : i + x.size = s.size ∨ bt s ((i + x.size : Nat) : Int) = 32) : sgF s i = x.size := by
  have e0 := h 0 h0
  rw [Nat.add_zero] at e0
  unfold sgF at hg ⊢
  by_cases hp : prF x 0 = true
  · rw [if_pos hp] at hg
    rw [← pr_at h (by omega) hi, if_pos hp, hg]
  · rw [if_neg hp] at hg
    by_cases hS : isSign (bt x ((0 : Nat) : Int)) = true
    · rw [if_pos hS] at hg
      have : prF s i = false := by
        unfold prF
        rcases hs with hs | hs
        · rw [show decide (i + 1 < s.size) = false from decide_eq_false (by omega)]; rfl
        · rw [← hg] at hs
          rw [hs]
          simp
      rw [this, if_neg (by decide), ← e0, if_pos hS, hg]
    · rw [if_neg hS] at hg
      omega
theorem tk_step (s : ByteArray) (i d : Nat) (out : List Tok) (line : Int) (x : Tok) (hx : okT x) (ha : At x.f2 s i) (hi : i + x.f2.size ≤ s.size) (he : s.extract i (i + x.f2.size) = x.f2) (hs : i + x.f2.size = s.size ∨ bt s ((i + x.f2.size : Nat) : Int) = 32) :
    tk s (d + 1) i out line = tk s d (i + x.f2.size) (out ++ [⟨x.f0, line, x.f2⟩]) line := by
  obtain ⟨h0, hk⟩ := hx
  have e0 := ha 0 h0
  rw [Nat.add_zero] at e0
  rw [tk.eq_2, if_pos (by omega)]
  rcases hk with ⟨k1, hg⟩ | ⟨k2, hsp, hg, hsg⟩
  · have g0 : goF s i 0 = true := by rw [← ha.go h0]; exact hg 0 h0
    have hw : wn s i (s.size - i) 0 = x.f2.size := wn_eq s i _ hi (by
      rcases hs with hs | hs
      · exact .inl hs
      · refine .inr ?_
        unfold goF
        rw [hs, letter32]
        simp) _ 0 (Nat.zero_le _) (by omega) (fun k _ hk => by rw [← ha.go hk]; exact hg k hk)
    rw [if_neg (go_no_space g0), hw, if_neg (by omega), he, k1]
  · have g0 : goF s i 0 = false := by rw [← ha.go h0]; exact hg
    have hw : wn s i (s.size - i) 0 = 0 := wn_eq s i 0 (by omega) (.inr g0) _ 0 (Nat.le_refl _) (by omega) (fun k _ hk => by omega)
    have hq := sg_at ha h0 hi hsg hs
    rw [e0] at hsp
    rw [if_neg (by rw [hsp]; decide), hw, if_pos rfl, hq, if_neg (by omega), he, k2]
theorem tk_end (s : ByteArray) (d : Nat) (out : List Tok) (line : Int) : tk s d s.size out line = (out, 0) := by
  cases d with
  | zero => rfl
  | succ d => rw [tk.eq_2, if_neg (by omega)]
/-- How many bytes tokens have. -/
def tot (l : List Tok) : Nat := (l.map (fun x => x.f2.size)).sum
theorem tot_app (l : List Tok) (x : Tok) : tot (l ++ [x]) = tot l + x.f2.size := by unfold tot; simp
structure TkInv (s : ByteArray) (r : List Tok) (line : Int) (n : Nat) : Prop where
  ok : ∀ x ∈ r, okT x ∧ 1 ≤ x.f1 ∧ x.f1 ≤ line
  pw : r.Pairwise (fun a b => a.f1 ≤ b.f1)
  tot : tot r ≤ n
theorem TkInv.add {s : ByteArray} {r : List Tok} {line : Int} {n : Nat} (h : TkInv s r line n) (x : Tok) (hx : okT x) (h1 : x.f1 = line) (hl : 1 ≤ line) : TkInv s (r ++ [x]) line (n + x.f2.size) := by
  refine ⟨fun y hy => ?_, ?_, ?_⟩
  · rcases List.mem_append.1 hy with hy | hy
    · exact h.ok y hy
    · rw [List.mem_singleton.1 hy]
      exact ⟨hx, by omega, by omega⟩
  · rw [List.pairwise_append]
    refine ⟨h.pw, List.pairwise_singleton _ _, fun a ha b hb => ?_⟩
    rw [List.mem_singleton.1 hb, h1]
    exact (h.ok a ha).2.2
  · rw [tot_app]
    have := h.tot
    omega
theorem TkInv.up {s : ByteArray} {r : List Tok} {line line' : Int} {n n' : Nat} (h : TkInv s r line n) (hl : line ≤ line') (hn : n ≤ n') : TkInv s r line' n' :=
  ⟨fun y hy => ⟨(h.ok y hy).1, (h.ok y hy).2.1, Int.le_trans (h.ok y hy).2.2 hl⟩, h.pw, Nat.le_trans h.tot hn⟩
theorem sz_sub (s : ByteArray) (i m : Nat) (h : i + m ≤ s.size) : (s.extract i (i + m)).size = m := by rw [ByteArray.size_extract]; omega
theorem sg_sub (s : ByteArray) (i : Nat) (hi : i < s.size) (h0 : sgF s i ≠ 0) : sgF (s.extract i (i + sgF s i)) 0 = sgF s i := by
  have hl := sg_lim s i hi
  by_cases hp : prF s i = true
  · have e2 : sgF s i = 2 := by unfold sgF; rw [if_pos hp]
    have hl2 : i + 2 ≤ s.size := by omega
    have hz := sz_sub s i 2 hl2
    have := pr_at (At.sub s i 2 hl2) (by omega) (by omega)
    rw [e2]
    unfold sgF
    rw [this, if_pos hp]
  · have e1 : sgF s i = 1 ∧ isSign (bt s (i : Int)) = true := by
      unfold sgF at h0 ⊢
      rw [if_neg hp] at h0 ⊢
      by_cases hS : isSign (bt s (i : Int)) = true
      · rw [if_pos hS]; exact ⟨rfl, hS⟩
      · rw [if_neg hS] at h0; exact absurd rfl h0
    have hl1 : i + 1 ≤ s.size := by omega
    have hz := sz_sub s i 1 hl1
    have e0 : bt (s.extract i (i + 1)) ((0 : Nat) : Int) = bt s (i : Int) := At.sub s i 1 hl1 0 (by omega)
    have np : prF (s.extract i (i + 1)) 0 = false := by
      unfold prF
      rw [show decide (0 + 1 < (s.extract i (i + 1)).size) = false from decide_eq_false (by omega)]
      rfl
    rw [e1.1]
    unfold sgF
    rw [np, if_neg (by decide), e0, if_pos e1.2]
theorem tk_inv (s : ByteArray) : ∀ d i out line, i ≤ s.size → 1 ≤ line → TkInv s out line i → ∃ line', TkInv s (tk s d i out line).1 line' s.size ∧ ((tk s d i out line).2 ≠ 0 → (tk s d i out line).1 = []) := by
  intro d
  induction d with
  | zero => intro i out line h1 h2 h; exact ⟨line, h.up (Int.le_refl _) h1, fun h => absurd rfl h⟩
  | succ d ih =>
    intro i out line h1 h2 h
    rw [tk.eq_2]
    by_cases hi : i < s.size
    · rw [if_pos hi]
      by_cases hs : spF (bt s (i : Int)) = true
      · rw [if_pos hs]
        split
        · exact ih (i + 1) out (line + 1) (by omega) (by omega) (h.up (by omega) (by omega))
        · exact ih (i + 1) out line (by omega) h2 (h.up (Int.le_refl _) (by omega))
      · rw [if_neg hs]
        have hw := wn_lim s i (s.size - i) 0 (by omega)
        by_cases h0 : wn s i (s.size - i) 0 = 0
        · rw [if_pos h0]
          have hg := sg_lim s i hi
          by_cases g0 : sgF s i = 0
          · rw [if_pos g0]
            exact ⟨line, ⟨fun x hx => by simp at hx, List.Pairwise.nil, by simp [tot]⟩, fun _ => rfl⟩
          · rw [if_neg g0]
            have hz := sz_sub s i (sgF s i) hg
            have ha := At.sub s i (sgF s i) hg
            have hgo : goF s i 0 = false := by
              have : ∀ d, wn s i (d + 1) 0 = 0 → goF s i 0 = false := by
                intro d hd
                unfold wn at hd
                split at hd
                · have := (wn_lim s i d (0 + 1) (by omega)).1
                  omega
                · rename_i c
                  cases hgg : goF s i 0
                  · rfl
                  · exact absurd ⟨by omega, hgg⟩ c
              exact this (s.size - i - 1) (by rw [show s.size - i - 1 + 1 = s.size - i by omega]; exact h0)
            have e0 := ha 0 (by omega)
            rw [Nat.add_zero] at e0
            have ok : okT ⟨2, line, s.extract i (i + sgF s i)⟩ := ⟨by rw [hz]; omega, .inr ⟨rfl, by rw [e0]; simpa using hs, by rw [ha.go (by omega)]; exact hgo, by rw [hz]; exact sg_sub s i hi g0⟩⟩
            have := h.add ⟨2, line, s.extract i (i + sgF s i)⟩ ok rfl h2
            rw [hz] at this
            exact ih _ _ line hg h2 this
        · rw [if_neg h0]
          have hz := sz_sub s i (wn s i (s.size - i) 0) hw.2
          have ha := At.sub s i (wn s i (s.size - i) 0) hw.2
          have ok : okT ⟨1, line, s.extract i (i + wn s i (s.size - i) 0)⟩ := ⟨by rw [hz]; omega, .inl ⟨rfl, fun n hn => by rw [ha.go hn]; exact wn_all s i _ 0 n (Nat.zero_le _) (by rw [hz] at hn; exact hn)⟩⟩
          have := h.add ⟨1, line, s.extract i (i + wn s i (s.size - i) 0)⟩ ok rfl h2
          rw [hz] at this
          exact ih _ _ line hw.2 h2 this
    · rw [if_neg hi]
      exact ⟨line, h.up (Int.le_refl _) h1, fun h => absurd rfl h⟩
theorem jf_app : ∀ (r : List Tok) (a b : ByteArray), jf (a ++ b) r = a ++ jf b r
  | [], a, b => rfl
  | x :: r, a, b => by
    unfold jf
    rw [show a ++ b ++ bl32 ++ x.f2 = a ++ (b ++ bl32 ++ x.f2) by simp only [ByteArray.append_assoc]]
    exact jf_app r a _
theorem jf_more (acc : ByteArray) : ∀ (r : List Tok), ∃ c, jf acc r = acc ++ c
  | [] => ⟨⟨#[]⟩, (ByteArray.append_empty).symm⟩
  | x :: r => ⟨jf (bl32 ++ x.f2) r, by show jf (acc ++ bl32 ++ x.f2) r = _; rw [ByteArray.append_assoc, jf_app]⟩
theorem jf_sz (acc : ByteArray) : ∀ (r : List Tok), (jf acc r).size = acc.size + r.length + tot r
  | [] => by simp [jf, tot]
  | x :: r => by
    unfold jf
    rw [jf_sz]
    have : bl32.size = 1 := rfl
    simp only [ByteArray.size_append, this, List.length_cons, tot, List.map_cons, List.sum_cons]
    omega
def one (x : Tok) : Tok := ⟨x.f0, 1, x.f2⟩
theorem mid_extract (a x c : ByteArray) : (a ++ x ++ c).extract a.size (a.size + x.size) = x := by
  apply ByteArray.ext
  simp only [ByteArray.data_extract, ByteArray.data_append]
  rw [Array.append_assoc]
  have h1 : a.size = a.data.size := rfl
  have h2 : x.size = x.data.size := rfl
  rw [h1, h2]
  apply Array.ext
  · simp
  · intro i hi1 hi2
    simp [Array.getElem_append, hi2]
theorem tk_join : ∀ (r : List Tok) (x : Tok) (a : ByteArray) (out : List Tok) (d : Nat), okT x → (∀ y ∈ r, okT y) → 2 * r.length + 1 ≤ d →
    tk (jf (a ++ x.f2) r) d a.size out 1 = (out ++ (x :: r).map one, 0) := by
  intro r
  induction r with
  | nil =>
    intro x a out d hx hr hd
    obtain ⟨d, rfl⟩ : ∃ m, d = m + 1 := ⟨d - 1, by omega⟩
    unfold jf
    have hz : (a ++ x.f2).size = a.size + x.f2.size := by simp
    have he := mid_extract a x.f2 ⟨#[]⟩
    rw [show a ++ x.f2 ++ (⟨#[]⟩ : ByteArray) = a ++ x.f2 from ByteArray.append_empty] at he
    rw [tk_step (a ++ x.f2) a.size d out 1 x hx (fun j hj => (bt_right a x.f2 j hj).symm) (by omega) he (.inl hz.symm), ← hz, tk_end]
    rfl
  | cons y r ih =>
    intro x a out d hx hr hd
    obtain ⟨d, rfl⟩ : ∃ m, d = m + 2 := ⟨d - 2, by simp at hd; omega⟩
    obtain ⟨c, hc⟩ := jf_more (a ++ x.f2 ++ bl32 ++ y.f2) r
    have hu : jf (a ++ x.f2) (y :: r) = a ++ x.f2 ++ (bl32 ++ (y.f2 ++ c)) := by
      show jf (a ++ x.f2 ++ bl32 ++ y.f2) r = _
      rw [hc]
      simp only [ByteArray.append_assoc]
    have hq := ih y (a ++ x.f2 ++ bl32) (out ++ [one x]) d (hr y (by simp)) (fun z hz => hr z (by simp [hz])) (by simp at hd; omega)
    have hv : jf (a ++ x.f2 ++ bl32 ++ y.f2) r = a ++ x.f2 ++ (bl32 ++ (y.f2 ++ c)) := hu
    rw [hv] at hq
    rw [hu]
    have b1 : bl32.size = 1 := rfl
    have hz : (a ++ x.f2).size = a.size + x.f2.size := by simp
    have hsz : (a ++ x.f2 ++ (bl32 ++ (y.f2 ++ c))).size = a.size + x.f2.size + (1 + (y.f2.size + c.size)) := by simp [b1]
    have h32 : bt (a ++ x.f2 ++ (bl32 ++ (y.f2 ++ c))) ((a.size + x.f2.size : Nat) : Int) = 32 := by
      have := bt_right (a ++ x.f2) (bl32 ++ (y.f2 ++ c)) 0 (by rw [ByteArray.size_append, b1]; omega)
      rw [Nat.add_zero, hz] at this
      rw [this, bt_left bl32 _ 0 (by decide)]
      rfl
    generalize hU : a ++ x.f2 ++ (bl32 ++ (y.f2 ++ c)) = U at hq hsz h32 ⊢
    have hA : At x.f2 U a.size := by
      intro j hj
      rw [← hU, bt_left (a ++ x.f2) _ (a.size + j) (by rw [hz]; omega), bt_right a x.f2 j hj]
    have he : U.extract a.size (a.size + x.f2.size) = x.f2 := by rw [← hU]; exact mid_extract a x.f2 _
    rw [tk_step U a.size (d + 1) out 1 x hx hA (by omega) he (.inr h32), tk.eq_2, if_pos (by omega), h32, if_pos (by decide), if_neg (by decide)]
    have hzz : (a ++ x.f2 ++ bl32).size = a.size + x.f2.size + 1 := by simp [b1]
    rw [hzz] at hq
    refine hq.trans ?_
    simp [one]
/-- The joined tokens, split again. -/
theorem tk_jn (l : List Tok) (h : ∀ x ∈ l, okT x) (d : Nat) (hd : 2 * l.length ≤ d) : tk (jn l) d 0 [] 1 = (l.map one, 0) := by
  cases l with
  | nil =>
    have := tk_end (jn []) d [] 1
    exact this
  | cons x r =>
    have := tk_join r x ⟨#[]⟩ [] d (h x (by simp)) (fun y hy => h y (by simp [hy])) (by simp at hd; omega)
    rw [show (⟨#[]⟩ : ByteArray) ++ x.f2 = x.f2 from ByteArray.empty_append] at this
    exact this
theorem jn_size (l : List Tok) : (jn l).size ≤ l.length + tot l := by
  cases l with
  | nil => exact Nat.zero_le _
  | cons x r =>
    show (jf x.f2 r).size ≤ _
    rw [jf_sz]
    simp [tot]
    omega
theorem len_tot : ∀ (l : List Tok), (∀ x ∈ l, okT x) → l.length ≤ tot l
  | [], _ => Nat.le_refl _
  | x :: r, h => by
    have := len_tot r (fun y hy => h y (by simp [hy]))
    have h0 := (h x (by simp)).1
    simp [tot] at *
    omega
end Go.Proofs.Ytabkllbkmconhaa.Pure
end

section
/- LexBack, the plain law: what is joined is split as it was, but for lines; each token alone is split as itself; texts of at most 1000 bytes, for others the example is answered. -/
namespace Go.Proofs.Ytabkllbkmconhaa.Pure
open Go.RowKit Go.Proofs.Ytabkllbkmconhaa.PLex Go.Proofs.Ytabkllbkmconhaa.Given Go.Proofs.YtabkllbkmconhaaW.PrintWords Go.Proofs.YtabkllbkmconhaaW.PrintLast
set_option linter.unusedVariables false
set_option linter.unusedSimpArgs false
theorem awake47 (k : Nat) (hk : 6000 ≤ k) : ladderbacklaw47_awake.f k = some true := by
  have h : ladderbacklaw47_awake.f 60 = some true := by decide +kernel
  have : ∀ d, ladderbacklaw47_awake.f (60 + d) = some true := by
    intro d
    induction d with
    | zero => exact h
    | succ d ih => exact ladderbacklaw47_awake.mono (60 + d) _ ih
  rw [show k = 60 + (k - 60) by omega]
  exact this _
theorem rd_l (l : List Tok) (i : Nat) (h : i < l.length) : rd_T27 l (i : Int) = l[i] := by
  unfold rd_T27
  rw [Int.toNat_natCast, List.getD_eq_getElem?_getD, List.getElem?_eq_getElem h]
  rfl
theorem split_f (s : ByteArray) (hz : s.size ≤ 100000) (k : Nat) (hk : 2 * s.size + 2 ≤ k) : lex_Split.f k s = some (tk s (s.size + 1) 0 [] 1) := by
  have := prog_l0 s hz s.size 0 k [] 1 (by omega) (by omega) (by simp) (by omega) (by omega) hk
  rw [show s.extract 0 s.size = s by simp] at this
  exact this
theorem split_one (x : Tok) (hx : okT x) (hz : x.f2.size ≤ 1000) (k : Nat) (hk : 2002 ≤ k) : lex_Split.f k x.f2 = some ([one x], 0) := by
  rw [split_f x.f2 (by omega) k (by omega)]
  have := tk_join [] x ⟨#[]⟩ [] (x.f2.size + 1) hx (by simp) (by have := hx.1; simp)
  rw [show (⟨#[]⟩ : ByteArray) ++ x.f2 = x.f2 from ByteArray.empty_append] at this
  exact congrArg some this
theorem jn_sz (l : List Tok) (h : ∀ x ∈ l, okT x) : 2 * l.length ≤ (jn l).size + 1 := by
  cases l with
  | nil => simp
  | cons x r =>
    have h1 : (jn (x :: r)).size = x.f2.size + r.length + tot r := jf_sz x.f2 r
    have h2 := len_tot r (fun y hy => h y (by simp [hy]))
    have h3 := (h x (by simp)).1
    simp only [List.length_cons]
    omega
theorem split_join (l : List Tok) (h : ∀ x ∈ l, okT x) (hz : (jn l).size ≤ 2000) (k : Nat) (hk : 4002 ≤ k) : lex_Split.f k (jn l) = some (l.map one, 0) := by
  rw [split_f (jn l) (by omega) k (by omega), tk_jn l h _ (by have := jn_sz l h; omega)]
theorem l1_run (l : List Tok) : ∀ (d i k : Nat), i + d = l.length → l.length ≤ 1000 → 6000 + 2 * d + 2 ≤ k → ladderbacklaw47_LexBack.l1 k l (l.map one) 0 (i : Int) = some true := by
  intro d
  induction d with
  | zero =>
    intro i k h1 h2 h3
    obtain ⟨k, rfl⟩ : ∃ m, k = m + 2 := ⟨k - 2, by omega⟩
    rw [show k + 2 = (k + 1) + 1 from rfl, ladderbacklaw47_LexBack.l1, if_neg (by rw [List.length_map]; omega), ladderbacklaw47_LexBack.j3, if_neg (by decide), if_pos rfl, if_pos (by rw [List.length_map]), awake47 k (by omega)]
    rfl
  | succ d ih =>
    intro i k h1 h2 h3
    obtain ⟨k, rfl⟩ : ∃ m, k = m + 2 := ⟨k - 2, by omega⟩
    have e1 : rd_T27 (l.map one) (i : Int) = one l[i] := by rw [rd_l (l.map one) i (by rw [List.length_map]; omega), List.getElem_map]
    rw [show k + 2 = (k + 1) + 1 from rfl, ladderbacklaw47_LexBack.l1, if_pos (by rw [List.length_map]; omega), show decide ((i : Int) < (l.length : Int)) = true from decide_eq_true (by omega), ladderbacklaw47_LexBack.j3, if_pos rfl, if_pos (by omega), if_pos (by rw [List.length_map]; omega), if_pos (by omega), e1, rd_l l i (by omega)]
    rw [if_neg (by simp [one]), w64 _ (by omega) (by omega)]
    exact ih (i + 1) k (by omega) h2 (by omega)
theorem l0_run (l : List Tok) (h : ∀ x ∈ l, okT x ∧ 1 ≤ x.f1) (hp : l.Pairwise (fun a b => a.f1 ≤ b.f1)) (hs : ∀ x ∈ l, x.f2.size ≤ 1000) (hl : l.length ≤ 1000) (hj : (jn l).size ≤ 2000) :
    ∀ (d i k : Nat), i + d = l.length → 9000 + 2 * d ≤ k → ladderbacklaw47_LexBack.l0 k l (jn (l.take i)) (i : Int) = some true := by
  have hok : ∀ x ∈ l, okT x := fun x hx => (h x hx).1
  intro d
  induction d with
  | zero =>
    intro i k h1 h3
    obtain ⟨k, rfl⟩ : ∃ m, k = m + 1 := ⟨k - 1, by omega⟩
    have hJ : lex_Join.f l = some (jn l) := by
      unfold lex_Join.f
      rw [if_pos]
      simp only [Bool.and_eq_true, List.all_eq_true, decide_eq_true_eq]
      exact ⟨⟨fun x hx => (hok x hx).1, by omega⟩, by omega⟩
    rw [ladderbacklaw47_LexBack.l0, if_neg (by omega), hJ, List.take_of_length_le (by omega)]
    simp only [Option.bind_some]
    rw [if_pos trivial, split_join l hok hj k (by omega)]
    simp only [Option.bind_some]
    exact l1_run l l.length 0 k (by omega) hl (by omega)
  | succ d ih =>
    intro i k h1 h3
    obtain ⟨k, rfl⟩ : ∃ m, k = m + 2 := ⟨k - 2, by omega⟩
    have hil : i < l.length := by omega
    have hm : l[i] ∈ l := List.getElem_mem hil
    have hx := h _ hm
    have hz := hs _ hm
    have hmono := jn_mono l i
    have step : ladderbacklaw47_LexBack.l0 (k + 1 + 1) l (jn (l.take i)) (i : Int) = ladderbacklaw47_LexBack.j1 (k + 1) l (jn (l.take i)) (i : Int) false := by
      rw [ladderbacklaw47_LexBack.l0, if_pos (by omega), if_pos (by omega), rd_l l i hil, split_one _ hx.1 hz (k + 1) (by omega)]
      simp only [Option.bind_some]
      have e0 : rd_T27 [one l[i]] 0 = one l[i] := rfl
      rw [if_pos trivial, if_pos (by rfl), if_pos (by simp), e0, if_pos (show (one l[i]).f2.toList = l[i].f2.toList from rfl), if_pos (show (one l[i]).f0 = l[i].f0 from rfl), if_neg (by omega)]
      by_cases h0 : 0 < i
      · have e1 : wrap64 ((i : Int) - 1) = ((i - 1 : Nat) : Int) := by rw [w64 _ (by omega) (by omega)]; omega
        rw [if_pos (by omega), e1, if_pos (by omega), if_pos (by omega), rd_l l (i - 1) (by omega)]
        have hle : l[i - 1].f1 ≤ l[i].f1 := List.pairwise_iff_getElem.1 hp (i - 1) i (by omega) hil (by omega)
        rw [show decide (l[i].f1 < l[i - 1].f1) = false from decide_eq_false (by omega)]
      · rw [if_neg (by omega)]
    rw [show k + 2 = k + 1 + 1 from rfl, step, ladderbacklaw47_LexBack.j1, if_neg (by decide), w64 _ (by omega) (by omega), rd_l l i hil]
    by_cases h0 : 0 < i
    · have hj1 := jn_take l i hil h0
      rw [if_pos (by omega), if_pos (by omega), if_pos (by omega), if_pos (by omega), if_pos (by rw [ByteArray.size_append, show (⟨#[32]⟩ : ByteArray).size = 1 from rfl]; omega)]
      have := ih (i + 1) k (by omega) (by omega)
      rw [hj1] at this
      exact this
    · have hi0 : i = 0 := by omega
      have hj1 := first_take l i hil hi0
      have he : jn (l.take i) = ⟨#[]⟩ := by subst hi0; rfl
      rw [if_neg (by omega), if_pos (by omega), if_pos (by omega), if_pos (by omega), he, show (⟨#[]⟩ : ByteArray) ++ l[i].f2 = l[i].f2 from ByteArray.empty_append]
      have := ih (i + 1) k (by omega) (by omega)
      rw [hj1] at this
      exact this
theorem mem_tot : ∀ (l : List Tok) (x : Tok), x ∈ l → x.f2.size ≤ tot l
  | [], x, h => by simp at h
  | y :: r, x, h => by
    have e : tot (y :: r) = y.f2.size + tot r := by simp [tot]
    rcases List.mem_cons.1 h with rfl | h
    · omega
    · have := mem_tot r x h
      omega
theorem LexBack : ladderbacklaw47_LexBack.Pure := by
  intro a0 hz
  refine ⟨20000, ?_⟩
  unfold ladderbacklaw47_LexBack.f
  rw [awake47 20000 (by omega)]
  by_cases h : (a0.size : Int) > 1000
  · rw [if_pos h]; rfl
  · rw [if_neg h, split_f a0 (by omega) 20000 (by omega)]
    obtain ⟨line, hI, hn⟩ := tk_inv a0 (a0.size + 1) 0 [] 1 (by omega) (by omega) ⟨fun x hx => by simp at hx, List.Pairwise.nil, by simp [tot]⟩
    generalize tk a0 (a0.size + 1) 0 [] 1 = t at hI hn ⊢
    simp only [Option.bind_some]
    by_cases h2 : t.2 = 0
    · rw [if_pos h2]
      have hok : ∀ x ∈ t.1, okT x := fun x hx => (hI.ok x hx).1
      have h4 := len_tot t.1 hok
      have h5 := hI.tot
      have h6 := jn_size t.1
      exact l0_run t.1 (fun x hx => ⟨(hI.ok x hx).1, (hI.ok x hx).2.1⟩) hI.pw (fun x hx => by have := mem_tot t.1 x hx; omega) (by omega) (by omega) t.1.length 0 20000 (by omega) (by omega)
    · rw [if_neg h2, hn h2]
      rfl
end Go.Proofs.Ytabkllbkmconhaa.Pure
end

section
/- Printed by a program of this session (wip/pg.py, over the print of the kit): functions, their Lean twins, and the proofs that the calls come to them; each under the conditions that it names. -/
namespace Go.Proofs.Ytabkllbkmconhaa.lexBack
open Go.ChangeShapes Go.WideShapes Go.ChangeAt Go.RowKit
open Go.ChangeMaps (open_string shut_string)
set_option linter.unusedVariables false
theorem own : ownKnob Try.prog.godebug = none := by kernel_rfl
set_option maxRecDepth 100000 in
theorem lifted (os : Os) (started : os.Started) (H : Type) (enc : TypeId × Value → H) :
    ReturnsInHanded {} Try.checked os 3 .any (Rows.lexBackSpec.pre6 enc Try.prog Try.f3 Rows.lexBackRow.domain false) (Rows.lexBackSpec.post enc Try.prog Try.f3 false true false false) := by
  refine returnsInHanded_of_change_sized (C := Try.checked) own started (by kernel_rfl) Try.func3
    (ChangeSpec.witness6 (enc := enc) (C := Try.checked) false ⟨#[], #[.string ByteArray.empty], []⟩ 8 (by kernel_rfl) (by kernel_rfl) (by kernel_rfl) (by kernel_rfl)) ?_
  intro W base args ds gs before hval0 hW hcnd hsz0 _
  have hsz : (DataW.weightsEach Try.prog (Try.f3.params.toList ++ Rows.lexBackSpec.plain.varTypes Try.prog) (ds ++ gs)).all (· ≤ reachBytes) = true := hsz0
  have hval : ∀ (j : Nat) t v, Try.f3.params[j]? = some t → args[j]? = some v → Value.okWide Try.prog W .any base t v := hval0
  have hW' := hW
  obtain ⟨p, q, hA0, hV, rfl, hfz, hnd⟩ := hW
  have hA : DataW.TrodAll enc Try.prog W 0 (fun _ => true) true Try.f3.params.toList args.toList ds p := hA0
  rw [Try.params3] at hA hval hsz
  obtain ⟨v0, vs0, d0, ds0, p0, q0, hargs, rfl, rfl, h0, r0⟩ := trodAll_cons hA
  obtain ⟨rfl, rfl, rfl⟩ := trodAll_nil r0
  obtain rfl : args = #[v0] := by cases args; simp_all
  obtain ⟨rfl, rfl⟩ := trodVars_none hV
  obtain ⟨a0, rfl, rfl, rfl, y0⟩ := open_string Try.underlying9 (hval 0 9 v0 rfl rfl) h0
  have w0 : a0.size ≤ 140737488351232 := by
    have z := sized_string hsz (j := 0) (t := 9) rfl rfl
    rw [Array.length_toList] at z
    exact z
  clear hA0 hval0 hsz0 hsz
  refine (PLex.ladderbacklaw47_LexBack.walk Pure.LexBack a0 W w0).mono fun e W' ⟨he, bel⟩ => ?_
  subst he
  exact ⟨_, rfl, _, _, _, [], _, [], hW', trodAll_mk1 (shut_bool Try.underlying4 _), (trodAll_cons_mk (shut_string Try.underlying9 y0) trodAll_mk0), rfl, bel.frame _, fun h => by cases h⟩
theorem over : Rows.lexBackRow.holds Try.pinned (OpenSpec.ofChange Rows.lexBackSpec) :=
  OpenClaim.holds_of_wide 3 Try.f3 rfl rfl rfl rfl rfl rfl rfl ⟨rfl, rfl, rfl, rfl, rfl⟩ rfl rfl rfl rfl rfl (by kernel_rfl) Try.func3 (by kernel_rfl)
    (of_decide_eq_true (by kernel_rfl)) (by unfold Func.isWrapper; first | (rw [if_pos (by decide +kernel)]; kernel_rfl) | (rw [if_neg (by decide +kernel)]; exact ⟨rfl, rfl⟩))
    (fun os started H enc _ => lifted os started H enc)
theorem proved : Rows.LexBackSaid := over
#print axioms proved
end Go.Proofs.Ytabkllbkmconhaa.lexBack
namespace Go.Proofs.Ytabkllbkmconhaa
/-- The row, under a short name, for the claim. -/
theorem lexBack_holds : Rows.LexBackSaid := lexBack.proved
end Go.Proofs.Ytabkllbkmconhaa
end
