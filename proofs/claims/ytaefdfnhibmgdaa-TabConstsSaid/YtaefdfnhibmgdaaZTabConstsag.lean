/- The law TabConsts holds for every input: the walk over its code shows that the call returns true and that what was read stays as it was; the row follows. -/
import Derived.Test.YtaefdfnhibmgdaaProg
import Derived.Test.YtaefdfnhibmgdaaRows
import Derived.WalkKit
import Derived.ProofKit
import Derived.OpenShut
import Derived.ShutString
import Derived.ChangeOld
import Derived.Below
import Derived.SizedLaws
import Derived.Test.YtaefdfnhibmgdaaZTabConstsaa
import Derived.Test.YtaefdfnhibmgdaaZTabConstsac
import Derived.Test.YtaefdfnhibmgdaaZTabConstsae
import Derived.Test.YtaefdfnhibmgdaaZTabConstsaf
section
/- TabBlocks, the plain law. -/
namespace Go.Proofs.Ytaefdfnhibmgdaa.Given
open Go.RowKit Go.Proofs.Ytaefdfnhibmgdaa.PTab Go.Proofs.YtaefdfnhibmgdaaW.PrintWords Go.Proofs.YtaefdfnhibmgdaaW.PrintLast Go.Proofs.YtaefdfnhibmgdaaW.PrintMore
set_option linter.unusedVariables false
set_option linter.unusedSimpArgs false

theorem blk_rd (l : List SB) (i : Nat) (h : i < l.length) : rd_T34 l (i : Int) = l[i] := by
  unfold rd_T34
  rw [Int.toNat_natCast, List.getD_eq_getElem?_getD, List.getElem?_eq_getElem h]
  rfl
theorem blk_fit (x : SB) (k : Nat) (hk : 20 ≤ k) : tab_PutBlocks_1.f k x.f0 x.f1 = some (blkFit x) := by
  unfold tab_PutBlocks_1.f tab_named.f blkFit
  simp only [Option.bind_some]
  have e : decide ((x.f0.size : Int) ≤ 255) = decide (x.f0.size ≤ 255) := decide_eq_decide.2 (by omega)
  rw [e]
  by_cases h : x.f0.size ≤ 255
  · rw [decide_eq_true h, if_pos rfl, small_f [x.f1] (by simp) k hk]
    simp
  · rw [decide_eq_false h]; simp
theorem blk_put (x : SB) (l : List Int) (hl : l.length ≤ 1000000) (hf : blkFit x = true) : tab_PutBlocks_2.f l x.f0 x.f1 = some (l ++ blkEnc x) := by
  unfold blkFit at hf
  simp only [Bool.and_eq_true, decide_eq_true_eq] at hf
  unfold tab_PutBlocks_2.f blkEnc
  rw [textT l x.f0 (by omega) hf.1]
  simp only [Option.bind_some]
  rw [put1 _ x.f1 (by rw [List.length_append, encT_len]; omega), List.append_assoc]
  rfl
theorem blk_len (x : SB) (h : blkFit x = true) : (blkEnc x).length ≤ 300 := by
  unfold blkFit at h
  simp only [Bool.and_eq_true, decide_eq_true_eq] at h
  unfold blkEnc
  rw [List.length_append, encT_len, le_length]
  omega
theorem blk_loop (l : List SB) (hl : l.length ≤ 32) : ∀ (d i k : Nat) (o : List Int), i + d = l.length → 400 + d < k → o.length ≤ 2 + 300 * i → api_Block_35.l0 k o l (l.length : Int) (i : Int) = some (if (l.drop i).all blkFit = true then (o ++ encL blkEnc (l.drop i), true) else ([], false)) := by
  intro d
  induction d with
  | zero =>
    intro i k o h1 h2 h3
    obtain ⟨k, rfl⟩ : ∃ m, k = m + 1 := ⟨k - 1, by omega⟩
    rw [api_Block_35.l0, if_neg (by omega), List.drop_eq_nil_of_le (by omega)]
    simp [encL]
  | succ d ih =>
    intro i k o h1 h2 h3
    obtain ⟨k, rfl⟩ : ∃ m, k = m + 1 := ⟨k - 1, by omega⟩
    have hil : i < l.length := by omega
    rw [api_Block_35.l0, if_pos (by omega), if_pos (by omega), if_pos (by omega), blk_rd l i hil, blk_fit l[i] k (by omega)]
    simp only [Option.bind_some]
    by_cases hf : blkFit l[i] = true
    · rw [if_pos hf, blk_put l[i] o (by omega) hf]
      simp only [Option.bind_some]
      rw [wl i (by omega), ih (i + 1) k _ (by omega) (by omega) (by rw [List.length_append]; have := blk_len l[i] hf; omega)]
      rw [List.drop_eq_getElem_cons hil, List.all_cons, hf, Bool.true_and, encL_cons, List.append_assoc]
    · rw [if_neg hf]
      rw [List.drop_eq_getElem_cons hil, List.all_cons, show blkFit l[i] = false by simpa using hf]
      rfl
theorem blk_prog (l : List SB) (k : Nat) (hk : 2000 ≤ k) : tab_PutBlocks.f k l = some (putM 32 blkFit blkEnc l) := by
  unfold tab_PutBlocks.f api_Block_35.f putM
  by_cases h : l.length > 32
  · rw [if_pos (by omega), if_pos h]; rfl
  · rw [if_neg (by omega), if_neg h, put2]
    simp only [Option.bind_some]
    have := blk_loop l (by omega) l.length 0 k (le 2 (l.length : Int)) (by omega) (by omega) (by rw [le_length]; omega)
    rw [List.drop_zero] at this
    rw [show (0 : Int) = ((0 : Nat) : Int) from rfl, this]
    simp only [Option.bind_some]
theorem rblk_loop (l : List SB) (hl : l.length ≤ 32) : ∀ (d i k : Nat) (o : List Int), i + d = l.length → 400 + 2 * d < k → o.length ≤ 2 + 300 * i → ladderbackref14_Blocks.l0 k l o (i : Int) = some (if (l.drop i).all blkFit = true then (o ++ encL blkEnc (l.drop i), true) else ([], false)) := by
  intro d
  induction d with
  | zero =>
    intro i k o h1 h2 h3
    obtain ⟨k, rfl⟩ : ∃ m, k = m + 1 := ⟨k - 1, by omega⟩
    rw [ladderbackref14_Blocks.l0, if_neg (by omega), List.drop_eq_nil_of_le (by omega)]
    simp [encL]
  | succ d ih =>
    intro i k o h1 h2 h3
    obtain ⟨k, rfl⟩ : ∃ m, k = m + 1 := ⟨k - 1, by omega⟩
    have hil : i < l.length := by omega
    rw [ladderbackref14_Blocks.l0, if_pos (by omega), if_pos (by omega), blk_rd l i hil]
    by_cases hz : ((l[i].f0.size : Nat) : Int) > 255
    · rw [if_pos hz]
      have hf : ¬ blkFit l[i] = true := by unfold blkFit; simp; omega
      rw [List.drop_eq_getElem_cons hil, List.all_cons, show blkFit l[i] = false by simpa using hf]
      rfl
    · rw [if_neg hz, rsmall]
      simp only [Option.bind_some]
      by_cases hs : small l[i].f1 = true
      · have hf : blkFit l[i] = true := by unfold blkFit; rw [hs]; simp; omega
        rw [if_pos hs, rtextT o l[i].f0 (by omega) (by omega) k (by omega)]
        simp only [Option.bind_some]
        rw [if_pos (by rw [List.length_append, encT_len, List.length_singleton]; omega)]
        rw [show o ++ encT l[i].f0 ++ [l[i].f1 % 256] = o ++ blkEnc l[i] by unfold blkEnc; rw [List.append_assoc]; rfl]
        rw [wl i (by omega), ih (i + 1) k _ (by omega) (by omega) (by rw [List.length_append]; have := blk_len l[i] hf; omega)]
        rw [List.drop_eq_getElem_cons hil, List.all_cons, hf, Bool.true_and, encL_cons, List.append_assoc]
      · have hf : ¬ blkFit l[i] = true := by unfold blkFit; simp [hs]
        rw [if_neg hs]
        rw [List.drop_eq_getElem_cons hil, List.all_cons, show blkFit l[i] = false by simpa using hf]
        rfl
theorem blk_ref (l : List SB) (k : Nat) (hk : 3000 ≤ k) : ladderbackref14_Blocks.f k l = some (putM 32 blkFit blkEnc l) := by
  unfold ladderbackref14_Blocks.f putM
  by_cases h : l.length > 32
  · rw [if_pos (by omega), if_pos h]
  · rw [if_neg (by omega), if_neg h, rput2 _ k (by omega)]
    simp only [Option.bind_some]
    have := rblk_loop l (by omega) l.length 0 k (le 2 (l.length : Int)) (by omega) (by omega) (by rw [le_length]; omega)
    rw [List.drop_zero] at this
    rw [show (0 : Int) = ((0 : Nat) : Int) from rfl, this]
theorem blk_same_l (l : List SB) (hl : l.length ≤ 100000) : ∀ (d i k : Nat), i + d = l.length → d < k → ladderbackref14_SameBlocks.l0 k l l (i : Int) = some true := by
  intro d
  induction d with
  | zero =>
    intro i k h1 h2
    obtain ⟨k, rfl⟩ : ∃ m, k = m + 1 := ⟨k - 1, by omega⟩
    rw [ladderbackref14_SameBlocks.l0, if_neg (by omega)]
  | succ d ih =>
    intro i k h1 h2
    obtain ⟨k, rfl⟩ : ∃ m, k = m + 1 := ⟨k - 1, by omega⟩
    rw [ladderbackref14_SameBlocks.l0, if_pos (by omega), if_pos (by omega), if_pos (by omega), if_neg (by simp), wl i (by omega)]
    exact ih (i + 1) k (by omega) (by omega)
theorem blk_same (l : List SB) (hl : l.length ≤ 2000) (k : Nat) (hk : 2100 ≤ k) : ladderbackref14_SameBlocks.f k l l = some true := by
  unfold ladderbackref14_SameBlocks.f
  rw [if_pos rfl]
  exact blk_same_l l (by omega) l.length 0 k (by omega) (by omega)
theorem awake14 (k : Nat) (hk : 2000 ≤ k) : ladderbacklaw14_awake.f k = some true := by
  unfold ladderbacklaw14_awake.f
  rw [blk_prog _ k hk]
  simp only [Option.bind_some]
  have e : putM 32 blkFit blkEnc [(⟨(⟨#[97]⟩ : ByteArray), 1⟩ : SB)] = ([1, 0, 1, 97, 1], true) := by decide +kernel
  rw [e]
  dsimp only
  rw [if_pos rfl, show (strOfNums [1, 0, 1, 97, 1]).toList = [1, 0, 1, 97, 1] by rw [ByteArray.toList_eq]; rfl]
  rfl
theorem blk_get_len (b : List Int) (hb : okB b = true) : (getR blkR 32 b).1.length ≤ 32 := by
  by_cases h : (getR blkR 32 b).2 = 0
  · have h2 : putM 32 blkFit blkEnc (getR blkR 32 b).1 = (b, true) := get_inv blkSpec 32 (by decide) b hb h
    unfold putM at h2
    by_cases c : (getR blkR 32 b).1.length > 32
    · rw [if_pos c] at h2
      injection h2 with _ h2
      cases h2
    · omega
  · have h2 : (getR blkR 32 b).1 = [] := by
      unfold getR at h ⊢
      by_cases c1 : (headR 32 b).2 = 0
      · rw [if_pos c1] at h ⊢
        split
        · rename_i c2
          rw [if_pos c2] at h
          exact absurd rfl h
        · rfl
      · rw [if_neg c1]
    rw [h2]
    exact Nat.zero_le _
theorem blk_tail (l : List SB) (hl : l.length ≤ 1100) (hwf : ∀ x ∈ l, (fun _ => True) x) (b : List Int) (hb : okB b = true) (k : Nat) (hk : 3000 ≤ k) :
    ladderbacklaw14_TabBlocks.j2 (k + 1) l b (putM 32 blkFit blkEnc l).1 (putM 32 blkFit blkEnc l).2 (getR blkR 32 b).1 (getR blkR 32 b).2 false = some true := by
  have hx : okB (putM 32 blkFit blkEnc l).1 = true := put_ok blkSpec 32 l (by have := putM_len 32 blkFit blkEnc blk_len l; omega)
  have hm := blk_get_len b hb
  rw [ladderbacklaw14_TabBlocks.j2, if_neg (by decide)]
  unfold tab_GetBlocks.f
  rw [if_pos hx]
  simp only [Option.bind_some]
  rw [blk_prog _ k (by omega)]
  simp only [Option.bind_some]
  rw [awake14 k (by omega)]
  have h2 : (getR blkR 32 b).2 = 0 → putM 32 blkFit blkEnc (getR blkR 32 b).1 = (b, true) := get_inv blkSpec 32 (by decide) b hb
  have last : (if (getR blkR 32 b).2 = 0 then (if (putM 32 blkFit blkEnc (getR blkR 32 b).1).2 = true then (if (strOfNums (putM 32 blkFit blkEnc (getR blkR 32 b).1).1).toList = (strOfNums b).toList then ((some true).bind fun t => (some t)) else (some false)) else (some false)) else ((some true).bind fun t => (some t))) = some true := by
    by_cases c : (getR blkR 32 b).2 = 0
    · rw [if_pos c, h2 c, if_pos rfl, if_pos rfl]; rfl
    · rw [if_neg c]; rfl
  by_cases ho : (putM 32 blkFit blkEnc l).2 = true
  · have h1 : getR blkR 32 (putM 32 blkFit blkEnc l).1 = (l, 0) := get_put blkSpec 32 (by decide) l hwf ho
    rw [if_pos ho, h1]
    rw [if_pos rfl, blk_same l (by omega) k (by omega)]
    simp only [Option.bind_some] at last ⊢
    rw [if_pos trivial]
    exact last
  · rw [if_neg ho]
    exact last
theorem TabBlocks_l0 (l : List SB) (hl : l.length ≤ 40) (hwf : ∀ x ∈ l, (fun _ => True) x) (b : List Int) (hb : okB b = true) : ∀ (d i k : Nat), i + d = l.length → 5000 + d ≤ k → ladderbacklaw14_TabBlocks.l0 k l b (i : Int) = some true := by
  intro d
  induction d with
  | zero =>
    intro i k h1 h2
    obtain ⟨k, rfl⟩ : ∃ m, k = m + 1 := ⟨k - 1, by omega⟩
    rw [ladderbacklaw14_TabBlocks.l0, if_neg (by omega)]
    rw [blk_prog l k (by omega)]
    simp only [Option.bind_some]
    rw [blk_ref l k (by omega)]
    simp only [Option.bind_some]
    unfold tab_GetBlocks.f ladderbackref14_GetBlocks.f
    rw [if_pos hb]
    simp only [Option.bind_some]
    rw [if_pos trivial, if_neg (by simp), blk_same _ (by have := blk_get_len b hb; omega) k (by omega)]
    simp only [Option.bind_some]
    rw [if_pos trivial, show ((getR blkR 32 b).2 != (getR blkR 32 b).2) = false by simp]
    obtain ⟨k, rfl⟩ : ∃ m, k = m + 1 := ⟨k - 1, by omega⟩
    exact blk_tail l (by omega) hwf b hb k (by omega)
  | succ d ih =>
    intro i k h1 h2
    obtain ⟨k, rfl⟩ : ∃ m, k = m + 1 := ⟨k - 1, by omega⟩
    have hil : i < l.length := by omega
    rw [ladderbacklaw14_TabBlocks.l0, if_pos (by omega), if_pos (by omega), blk_rd l i hil]
    by_cases hz : ((l[i].f0.size : Nat) : Int) > 300
    · rw [if_pos hz, awake14 k (by omega)]; rfl
    · rw [if_neg hz, wl i (by omega)]
      exact ih (i + 1) k (by omega) (by omega)
theorem TabBlocks (l : List SB) (hwf : ∀ x ∈ l, (fun _ => True) x) (b : List Int) (hbb : ∀ x ∈ b, 0 ≤ x ∧ x < 256) : ladderbacklaw14_TabBlocks.f 10000 l b = some true := by
  have stop : ladderbacklaw14_TabBlocks.j0 10000 l b true = some true := by
    rw [show 10000 = 9999 + 1 from rfl, ladderbacklaw14_TabBlocks.j0, if_pos rfl, awake14 9999 (by omega)]
    rfl
  unfold ladderbacklaw14_TabBlocks.f
  by_cases h1 : (l.length : Int) > 40
  · rw [if_pos h1]; exact stop
  · rw [if_neg h1]
    by_cases h2 : (b.length : Int) > 500
    · rw [decide_eq_true h2]; exact stop
    · rw [decide_eq_false h2]
      have hb : okB b = true := by
        unfold okB
        simp only [Bool.and_eq_true, List.all_eq_true, decide_eq_true_eq]
        exact ⟨hbb, by omega⟩
      rw [show 10000 = 9999 + 1 from rfl, ladderbacklaw14_TabBlocks.j0, if_neg (by decide)]
      exact TabBlocks_l0 l (by omega) hwf b hb l.length 0 9999 (by omega) (by omega)
end Go.Proofs.Ytaefdfnhibmgdaa.Given
end

section
/- TabConsts, the plain law. -/
namespace Go.Proofs.Ytaefdfnhibmgdaa.Given
open Go.RowKit Go.Proofs.Ytaefdfnhibmgdaa.PTab Go.Proofs.YtaefdfnhibmgdaaW.PrintWords Go.Proofs.YtaefdfnhibmgdaaW.PrintLast Go.Proofs.YtaefdfnhibmgdaaW.PrintMore
set_option linter.unusedVariables false
set_option linter.unusedSimpArgs false

theorem con_rd (l : List SC) (i : Nat) (h : i < l.length) : rd_T50 l (i : Int) = l[i] := by
  unfold rd_T50
  rw [Int.toNat_natCast, List.getD_eq_getElem?_getD, List.getElem?_eq_getElem h]
  rfl
theorem con_fit (x : SC) (k : Nat) (hk : 20 ≤ k) : tab_PutConsts_1.f k x.f0 x.f1 = some (conFit x) := by
  unfold tab_PutConsts_1.f conFit
  rw [small_f [x.f0] (by simp) k hk]
  simp
theorem con_put (x : SC) (l : List Int) (hl : l.length ≤ 1000000) (hf : conFit x = true) : tab_PutConsts_2.f l x.f0 x.f1 = some (l ++ conEnc x) := by
  unfold tab_PutConsts_2.f conEnc
  rw [put1 l x.f0 (by omega)]
  simp only [Option.bind_some]
  rw [put8 _ x.f1 (by rw [List.length_append, le_length]; omega), List.append_assoc]
  rfl
theorem con_len (x : SC) (_ : conFit x = true) : (conEnc x).length ≤ 300 := by unfold conEnc; simp [le_length]
theorem con_loop (l : List SC) (hl : l.length ≤ 1024) : ∀ (d i k : Nat) (o : List Int), i + d = l.length → 400 + d < k → o.length ≤ 2 + 300 * i → api_Const_22.l0 k o l (l.length : Int) (i : Int) = some (if (l.drop i).all conFit = true then (o ++ encL conEnc (l.drop i), true) else ([], false)) := by
  intro d
  induction d with
  | zero =>
    intro i k o h1 h2 h3
    obtain ⟨k, rfl⟩ : ∃ m, k = m + 1 := ⟨k - 1, by omega⟩
    rw [api_Const_22.l0, if_neg (by omega), List.drop_eq_nil_of_le (by omega)]
    simp [encL]
  | succ d ih =>
    intro i k o h1 h2 h3
    obtain ⟨k, rfl⟩ : ∃ m, k = m + 1 := ⟨k - 1, by omega⟩
    have hil : i < l.length := by omega
    rw [api_Const_22.l0, if_pos (by omega), if_pos (by omega), if_pos (by omega), con_rd l i hil, con_fit l[i] k (by omega)]
    simp only [Option.bind_some]
    by_cases hf : conFit l[i] = true
    · rw [if_pos hf, con_put l[i] o (by omega) hf]
      simp only [Option.bind_some]
      rw [wl i (by omega), ih (i + 1) k _ (by omega) (by omega) (by rw [List.length_append]; have := con_len l[i] hf; omega)]
      rw [List.drop_eq_getElem_cons hil, List.all_cons, hf, Bool.true_and, encL_cons, List.append_assoc]
    · rw [if_neg hf]
      rw [List.drop_eq_getElem_cons hil, List.all_cons, show conFit l[i] = false by simpa using hf]
      rfl
theorem con_prog (l : List SC) (k : Nat) (hk : 2000 ≤ k) : tab_PutConsts.f k l = some (putM 1024 conFit conEnc l) := by
  unfold tab_PutConsts.f api_Const_22.f putM
  by_cases h : l.length > 1024
  · rw [if_pos (by omega), if_pos h]; rfl
  · rw [if_neg (by omega), if_neg h, put2]
    simp only [Option.bind_some]
    have := con_loop l (by omega) l.length 0 k (le 2 (l.length : Int)) (by omega) (by omega) (by rw [le_length]; omega)
    rw [List.drop_zero] at this
    rw [show (0 : Int) = ((0 : Nat) : Int) from rfl, this]
    simp only [Option.bind_some]
theorem rcon_loop (l : List SC) (hl : l.length ≤ 1024) : ∀ (d i k : Nat) (o : List Int), i + d = l.length → 400 + 2 * d < k → o.length ≤ 2 + 300 * i → ladderbackref14_Consts.l0 k l o (i : Int) = some (if (l.drop i).all conFit = true then (o ++ encL conEnc (l.drop i), true) else ([], false)) := by
  intro d
  induction d with
  | zero =>
    intro i k o h1 h2 h3
    obtain ⟨k, rfl⟩ : ∃ m, k = m + 1 := ⟨k - 1, by omega⟩
    rw [ladderbackref14_Consts.l0, if_neg (by omega), List.drop_eq_nil_of_le (by omega)]
    simp [encL]
  | succ d ih =>
    intro i k o h1 h2 h3
    obtain ⟨k, rfl⟩ : ∃ m, k = m + 1 := ⟨k - 1, by omega⟩
    have hil : i < l.length := by omega
    rw [ladderbackref14_Consts.l0, if_pos (by omega), if_pos (by omega), con_rd l i hil]
    rw [rsmall]
    simp only [Option.bind_some]
    by_cases hf : conFit l[i] = true
    · have hs : small l[i].f0 = true := hf
      rw [if_pos hs, rput1 o l[i].f0 (by omega) k (by omega)]
      simp only [Option.bind_some]
      rw [rput8 _ l[i].f1 (by rw [List.length_append, le_length]; omega) k (by omega)]
      simp only [Option.bind_some]
      rw [show o ++ le 1 l[i].f0 ++ le 8 l[i].f1 = o ++ conEnc l[i] by unfold conEnc; rw [List.append_assoc]]
      rw [wl i (by omega), ih (i + 1) k _ (by omega) (by omega) (by rw [List.length_append]; have := con_len l[i] hf; omega)]
      rw [List.drop_eq_getElem_cons hil, List.all_cons, hf, Bool.true_and, encL_cons, List.append_assoc]
    · have hs : ¬ small l[i].f0 = true := hf
      rw [if_neg hs]
      rw [List.drop_eq_getElem_cons hil, List.all_cons, show conFit l[i] = false by simpa using hf]
      rfl
theorem con_ref (l : List SC) (k : Nat) (hk : 3000 ≤ k) : ladderbackref14_Consts.f k l = some (putM 1024 conFit conEnc l) := by
  unfold ladderbackref14_Consts.f putM
  by_cases h : l.length > 1024
  · rw [if_pos (by omega), if_pos h]
  · rw [if_neg (by omega), if_neg h, rput2 _ k (by omega)]
    simp only [Option.bind_some]
    have := rcon_loop l (by omega) l.length 0 k (le 2 (l.length : Int)) (by omega) (by omega) (by rw [le_length]; omega)
    rw [List.drop_zero] at this
    rw [show (0 : Int) = ((0 : Nat) : Int) from rfl, this]
theorem con_same_l (l : List SC) (hl : l.length ≤ 100000) : ∀ (d i k : Nat), i + d = l.length → d < k → ladderbackref14_SameConsts.l0 k l l (i : Int) = some true := by
  intro d
  induction d with
  | zero =>
    intro i k h1 h2
    obtain ⟨k, rfl⟩ : ∃ m, k = m + 1 := ⟨k - 1, by omega⟩
    rw [ladderbackref14_SameConsts.l0, if_neg (by omega)]
  | succ d ih =>
    intro i k h1 h2
    obtain ⟨k, rfl⟩ : ∃ m, k = m + 1 := ⟨k - 1, by omega⟩
    rw [ladderbackref14_SameConsts.l0, if_pos (by omega), if_pos (by omega), if_pos (by omega), if_neg (by simp), wl i (by omega)]
    exact ih (i + 1) k (by omega) (by omega)
theorem con_same (l : List SC) (hl : l.length ≤ 2000) (k : Nat) (hk : 2100 ≤ k) : ladderbackref14_SameConsts.f k l l = some true := by
  unfold ladderbackref14_SameConsts.f
  rw [if_pos rfl]
  exact con_same_l l (by omega) l.length 0 k (by omega) (by omega)
theorem con_get_len (b : List Int) (hb : okB b = true) : (getR conR 1024 b).1.length ≤ 1024 := by
  by_cases h : (getR conR 1024 b).2 = 0
  · have h2 : putM 1024 conFit conEnc (getR conR 1024 b).1 = (b, true) := get_inv conSpec 1024 (by decide) b hb h
    unfold putM at h2
    by_cases c : (getR conR 1024 b).1.length > 1024
    · rw [if_pos c] at h2
      injection h2 with _ h2
      cases h2
    · omega
  · have h2 : (getR conR 1024 b).1 = [] := by
      unfold getR at h ⊢
      by_cases c1 : (headR 1024 b).2 = 0
      · rw [if_pos c1] at h ⊢
        split
        · rename_i c2
          rw [if_pos c2] at h
          exact absurd rfl h
        · rfl
      · rw [if_neg c1]
    rw [h2]
    exact Nat.zero_le _
theorem con_tail (l : List SC) (hl : l.length ≤ 1100) (hwf : ∀ x ∈ l, conWf x) (b : List Int) (hb : okB b = true) (k : Nat) (hk : 3000 ≤ k) :
    ladderbacklaw14_TabConsts.j1 (k + 1) l b (putM 1024 conFit conEnc l).1 (putM 1024 conFit conEnc l).2 (getR conR 1024 b).1 (getR conR 1024 b).2 false = some true := by
  have hx : okB (putM 1024 conFit conEnc l).1 = true := put_ok conSpec 1024 l (by have := putM_len 1024 conFit conEnc con_len l; omega)
  have hm := con_get_len b hb
  rw [ladderbacklaw14_TabConsts.j1, if_neg (by decide)]
  unfold tab_GetConsts.f
  rw [if_pos hx]
  simp only [Option.bind_some]
  rw [con_prog _ k (by omega)]
  simp only [Option.bind_some]
  rw [awake14 k (by omega)]
  have h2 : (getR conR 1024 b).2 = 0 → putM 1024 conFit conEnc (getR conR 1024 b).1 = (b, true) := get_inv conSpec 1024 (by decide) b hb
  have last : (if (getR conR 1024 b).2 = 0 then (if (putM 1024 conFit conEnc (getR conR 1024 b).1).2 = true then (if (strOfNums (putM 1024 conFit conEnc (getR conR 1024 b).1).1).toList = (strOfNums b).toList then ((some true).bind fun t => (some t)) else (some false)) else (some false)) else ((some true).bind fun t => (some t))) = some true := by
    by_cases c : (getR conR 1024 b).2 = 0
    · rw [if_pos c, h2 c, if_pos rfl, if_pos rfl]; rfl
    · rw [if_neg c]; rfl
  by_cases ho : (putM 1024 conFit conEnc l).2 = true
  · have h1 : getR conR 1024 (putM 1024 conFit conEnc l).1 = (l, 0) := get_put conSpec 1024 (by decide) l hwf ho
    rw [if_pos ho, h1]
    rw [if_pos rfl, con_same l (by omega) k (by omega)]
    simp only [Option.bind_some] at last ⊢
    rw [if_pos trivial]
    exact last
  · rw [if_neg ho]
    exact last
theorem TabConsts (l : List SC) (hwf : ∀ x ∈ l, conWf x) (b : List Int) (hbb : ∀ x ∈ b, 0 ≤ x ∧ x < 256) : ladderbacklaw14_TabConsts.f 10000 l b = some true := by
  have stop : ladderbacklaw14_TabConsts.j0 10000 l b true = some true := by
    rw [show 10000 = 9999 + 1 from rfl, ladderbacklaw14_TabConsts.j0, if_pos rfl, awake14 9999 (by omega)]
    rfl
  unfold ladderbacklaw14_TabConsts.f
  by_cases h1 : (l.length : Int) > 1100
  · rw [if_pos h1]; exact stop
  · rw [if_neg h1]
    by_cases h2 : (b.length : Int) > 500
    · rw [decide_eq_true h2]; exact stop
    · rw [decide_eq_false h2]
      have hb : okB b = true := by
        unfold okB
        simp only [Bool.and_eq_true, List.all_eq_true, decide_eq_true_eq]
        exact ⟨hbb, by omega⟩
      have key : ∀ k, 9000 ≤ k → ladderbacklaw14_TabConsts.j0 (k + 1) l b false = some true := by
        intro k hk
        rw [ladderbacklaw14_TabConsts.j0, if_neg (by decide)]
        rw [con_prog l k (by omega)]
        simp only [Option.bind_some]
        rw [con_ref l k (by omega)]
        simp only [Option.bind_some]
        unfold tab_GetConsts.f ladderbackref14_GetConsts.f
        rw [if_pos hb]
        simp only [Option.bind_some]
        rw [if_pos trivial, if_neg (by simp), con_same _ (by have := con_get_len b hb; omega) k (by omega)]
        simp only [Option.bind_some]
        rw [if_pos trivial, show ((getR conR 1024 b).2 != (getR conR 1024 b).2) = false by simp]
        obtain ⟨k, rfl⟩ : ∃ m, k = m + 1 := ⟨k - 1, by omega⟩
        exact con_tail l (by omega) hwf b hb k (by omega)
      exact key 9999 (by omega)
end Go.Proofs.Ytaefdfnhibmgdaa.Given
end

section
/- Slices of octets as data are lists of octets; no conditions. -/
namespace Go.Proofs.Ytaefdfnhibmgdaa
open Go.Proofs.YtaefdfnhibmgdaaW.PrintWords
open Go.RowKit
theorem rd_octets : Bridge.Rdga Try.prog 23 (Kd.slice 5 (Kd.int .u8)) (fun l => ∀ a ∈ l, (Lit.int .u8 a).wf = true) := Bridge.Rdg.slicea Try.underlying23 (by kernel_rfl) (Bridge.Rdg.int Try.underlying5 (by kernel_rfl))
end Go.Proofs.Ytaefdfnhibmgdaa
end

section
/- TabConsts over what is read as data. -/
namespace Go.Proofs.Ytaefdfnhibmgdaa
open Go Go.RowKit Go.Proofs.YtaefdfnhibmgdaaW.PrintWords Go.Proofs.Ytaefdfnhibmgdaa.PTab Go.Proofs.Ytaefdfnhibmgdaa.Given
set_option linter.unusedVariables false
theorem rd_tint : Bridge.Rdga Try.prog 3 (Kd.int .i64) (fun a => (Lit.int .i64 a).wf = true) := Bridge.Rdg.int Try.underlying3 (by kernel_rfl)
theorem rd_trow : Bridge.Rdga Try.prog 50 k50 (fun x => conWf x) := fun m =>
  Bridge.Rdg.imp (Bridge.Rdg.iso (fun x : S50 => (x.f0, x.f1)) (fun p => ⟨p.1, p.2⟩) (fun _ => rfl)
    (Bridge.Rdg.structa Try.underlying50 (by kernel_rfl) (fun m => Bridge.RdgF.cons rfl (rd_tint m) (Bridge.RdgF.one rfl (rd_tint m))) m)) (fun x h => wf64 (h.2))
theorem rd_trows : Bridge.Rdga Try.prog 22 (Kd.slice 50 k50) (fun l => ∀ a ∈ l, conWf a) := Bridge.Rdg.slicea Try.underlying22 (by kernel_rfl) rd_trow
theorem TabConsts_walk (A0 : Option Addr) (c0 : Nat) (l : List S50) (A1 : Option Addr) (c1 : Nat) (b : List Int) (w : World) (hC0 : k50.C w A0 l.length l) (hle0 : l.length ≤ c0) (wf0 : ∀ a ∈ l, conWf a) (hC1 : (Kd.int .u8).C w A1 b.length b) (hle1 : b.length ≤ c1) (wf1 : ∀ a ∈ b, (Lit.int .u8 a).wf = true) :
    Calls Try.prog 3 #[.slice A0 l.length c0, .slice A1 b.length c1] w fun e w' => e = .returned (.bool true) ∧ Below w.heap.size w w' :=
  ladderbacklaw14_TabConsts.calls 10000 A0 c0 l A1 c1 b true w hC0 hle0 hC1 hle1 (Given.TabConsts l wf0 b (fun x h => wf8 (wf1 x h)))
end Go.Proofs.Ytaefdfnhibmgdaa
end

section
/- The law TabConsts holds for every input: the walk over its code shows that the call returns true and that what was read stays as it was; the row follows. -/
namespace Go.Proofs.Ytaefdfnhibmgdaa.tabConstsRw
open Go.ChangeShapes Go.WideShapes Go.ChangeAt Go.RowKit
open Go.ChangeMaps (open_string shut_string)
open Go.Proofs.Ytaefdfnhibmgdaa.Bridge
set_option linter.unusedVariables false
set_option linter.unusedSimpArgs false
theorem own : ownKnob Try.prog.godebug = none := by kernel_rfl
theorem laidOut : laidOutB Try.prog = true := by kernel_rfl
set_option maxRecDepth 100000 in
theorem lifted (os : Os) (started : os.Started) (H : Type) (enc : TypeId × Value → H) :
    ReturnsInHanded {} Try.checked os 3 .any (Rows.tabConstsSpec.pre6 enc Try.prog Try.f3 Rows.tabConstsRow.domain false) (Rows.tabConstsSpec.post enc Try.prog Try.f3 false true false false) := by
  refine returnsInHanded_of_change_sized (C := Try.checked) own started (by kernel_rfl) Try.func3
    (ChangeSpec.witness6 (enc := enc) (C := Try.checked) false ⟨#[], #[.slice none 0 0, .slice none 0 0], []⟩ 8 (by kernel_rfl) (by kernel_rfl) (by kernel_rfl) (by kernel_rfl)) ?_
  intro W base args ds gs before hval0 hW hcnd hsz0 _
  have hval : ∀ (j : Nat) t v, Try.f3.params[j]? = some t → args[j]? = some v → Value.okWide Try.prog W .any base t v := hval0
  have hsz : (DataW.weightsEach Try.prog (Try.f3.params.toList ++ Rows.tabConstsSpec.plain.varTypes Try.prog) (ds ++ gs)).all (· ≤ reachBytes) = true := hsz0
  clear hval0 hsz0 hcnd
  have hW' := hW
  obtain ⟨p, q, hA0, hV, rfl, hfz, hnd⟩ := hW
  have hA : DataW.TrodAll enc Try.prog W 0 (fun _ => true) true Try.f3.params.toList args.toList ds p := hA0
  rw [Try.params3] at hA hval hsz
  obtain ⟨v0, vs0, d0, ds0, p0, q0, hargs, rfl, rfl, h0, r0⟩ := trodAll_cons hA
  obtain ⟨v1, vs1, d1, ds1, p1, q1, rfl, rfl, rfl, h1, r1⟩ := trodAll_cons r0
  obtain ⟨rfl, rfl, rfl⟩ := trodAll_nil r1
  obtain rfl : args = #[v0, v1] := by cases args; simp_all
  obtain ⟨rfl, rfl⟩ := trodVars_none hV
  clear hA0
  have k0 := h0
  have lt0 : ∀ x ∈ p0, x.block < W.heap.size := by obtain ⟨m, hm⟩ := k0; exact DataW.trod_lt m _ _ _ hm
  obtain ⟨A0, len0, c0, rfl⟩ := okWide_slice Try.underlying22 (hval 0 22 v0 rfl rfl)
  obtain ⟨x0, hk0, wf0⟩ := Rdga.trod rd_trows h0
  obtain ⟨A0', c0', he0, hle0, hC0⟩ := hk0
  simp only [Value.cells, List.cons.injEq, Value.slice.injEq, and_true] at he0
  obtain ⟨rfl, rfl, rfl⟩ := he0
  have k1 := h1
  have lt1 : ∀ x ∈ p1, x.block < W.heap.size := by obtain ⟨m, hm⟩ := k1; exact DataW.trod_lt m _ _ _ hm
  obtain ⟨A1, len1, c1, rfl⟩ := okWide_slice Try.underlying23 (hval 1 23 v1 rfl rfl)
  obtain ⟨x1, hk1, wf1⟩ := Rdga.trod rd_octets h1
  obtain ⟨A1', c1', he1, hle1, hC1⟩ := hk1
  simp only [Value.cells, List.cons.injEq, Value.slice.injEq, and_true] at he1
  obtain ⟨rfl, rfl, rfl⟩ := he1
  refine (TabConsts_walk A0 c0 x0 A1 c1 x1 W hC0 hle0 wf0 hC1 hle1 wf1).mono fun e W' ⟨he, bel⟩ => ?_
  subst he
  exact ⟨_, rfl, _, _, _, [], _, [], hW', trodAll_mk1 (shut_bool Try.underlying4 _), (trodAll_cons_mk (Below.trod laidOut (by kernel_rfl) (of_decide_eq_true (by kernel_rfl)) k0 bel lt0) (trodAll_cons_mk (Below.trod laidOut (by kernel_rfl) (of_decide_eq_true (by kernel_rfl)) k1 bel lt1) trodAll_mk0)), rfl, bel.frame _, fun h => by cases h⟩
theorem over : Rows.tabConstsRow.holds Try.pinned (OpenSpec.ofChange Rows.tabConstsSpec) :=
  OpenClaim.holds_of_wide 3 Try.f3 rfl rfl rfl rfl rfl rfl rfl ⟨rfl, rfl, rfl, rfl, rfl⟩ rfl rfl rfl rfl rfl (by kernel_rfl) Try.func3 (by kernel_rfl)
    (of_decide_eq_true (by kernel_rfl)) (by unfold Func.isWrapper; first | (rw [if_pos (by decide +kernel)]; kernel_rfl) | (rw [if_neg (by decide +kernel)]; exact ⟨rfl, rfl⟩))
    (fun os started H enc _ => lifted os started H enc)
theorem proved : Rows.TabConstsSaid := over
end Go.Proofs.Ytaefdfnhibmgdaa.tabConstsRw
namespace Go.Proofs.Ytaefdfnhibmgdaa
theorem tabConsts_holds : Rows.TabConstsSaid := tabConstsRw.proved
#print axioms tabConsts_holds
end Go.Proofs.Ytaefdfnhibmgdaa
end
