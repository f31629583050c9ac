/- The law FeedPlays holds for every input: the walk over its code shows that the call returns true and that what was read stays as it was; the row follows. -/
import Derived.Test.YtkkjheickjogeaaRows
import Derived.WalkKit
import Derived.ProofKit
import Derived.OpenShut
import Derived.ShutString
import Derived.ChangeOld
import Derived.Below
import Derived.SizedLaws
import Derived.Test.YtkkjheickjogeaaZFeedPlaysaa
import Derived.Test.YtkkjheickjogeaaZFeedPlaysab
section
/- What stands while the two feeds are played with. -/
namespace Go.Proofs.Ytkkjheickjogeaa.Fd
open Go Go.RowKit Go.Conc Go.Proofs.Ytkkjheickjogeaa.PFd Go.Proofs.YtkkjheickjogeaaW.PrintWords Go.Proofs.YtkkjheickjogeaaW.PrintLast Go.Proofs.YtkkjheickjogeaaW.PrintMore
set_option linter.unusedVariables false
set_option linter.unusedSimpArgs false
/-- A step: its kind, its sample. -/
abbrev Stp := Int × List Int × Int
def KStp : Kd Stp := Kd.pair (Kd.int .u64) (Kd.pair (Kd.slice 3 (Kd.int .i64)) (Kd.int .i64))
def sAt (l : List Stp) (i : Nat) : List Int × Int := (l.getD i (0, [], 0)).2
def okb (c g xb : Nat) (vL : Value) (k : Nat) : Prop := k ≠ c ∧ k ≠ g ∧ k ≠ xb ∧ some k ≠ vL.ownBlock
structure PI (w : World) (l : List Stp) (n : Int) (g c xb : Nat) (buf : Array Value) (s r : Nat) (vL : Value) (Q : List Nat) (shF shX : Bool) (W : World) : Prop where
  below : Below w.heap.size w W
  lg : w.heap.size ≤ g
  lc : w.heap.size ≤ c
  lx : w.heap.size ≤ xb
  gx : g ≠ xb
  cx : c ≠ xb
  lv : ∀ k, vL.ownBlock = some k → k ≠ c ∧ k ≠ g ∧ k ≠ xb
  fd : FD W g c (room n) buf shF s r
  xf : XF W xb (room n) vL (Q.map Int.ofNat) shX w.heap.size
  bs : buf.size = Q.length
  rows : ∀ j (hj : j < Q.length), ∃ v, buf[j]? = some (.agg #[v, .int .i64 (sAt l Q[j]).2]) ∧ Kd.R (Kd.int .i64) 3 W w.heap.size (okb c g xb vL) v (sAt l Q[j]).1
  ql : Q.length ≤ room n
  qi : ∀ q ∈ Q, q < l.length
theorem room_le (n : Int) : room n ≤ 1024 := by unfold room mx mn; (repeat' split) <;> omega
section
variable {w W W1 W2 : World} {l : List Stp} {n : Int} {g c xb s r : Nat} {buf : Array Value} {vL vL' : Value} {Q : List Nat} {shF shX : Bool}
theorem PI.step (h : PI w l n g c xb buf s r vL Q shF shX W) (hb : Below W.heap.size W W1) : PI w l n g c xb buf s r vL Q shF shX W1 :=
  ⟨h.below.trans (hb.mono h.below.size), h.lg, h.lc, h.lx, h.gx, h.cx, h.lv, h.fd.below hb, ⟨(hb.block _ (chan_lt h.xf.hx)).trans h.xf.hx, Kd.R_below h.xf.r hb⟩, h.bs, fun j hj => by
    obtain ⟨v, h1, h2⟩ := h.rows j hj
    exact ⟨v, h1, Kd.R_below h2 hb⟩, h.ql, h.qi⟩
theorem PI.qlen (h : PI w l n g c xb buf s r vL Q shF shX W) : (Q.map Int.ofNat).length = Q.length := List.length_map ..
/-- The document's feed behind an event on the channel alone. -/
theorem PI.xk (h : PI w l n g c xb buf s r vL Q shF shX W) (hk : Kp c W W1) : XF W1 xb (room n) vL (Q.map Int.ofNat) shX w.heap.size := by
  refine ⟨(hk.block _ (chan_lt h.xf.hx) (Ne.symm h.cx)).trans h.xf.hx, ?_⟩
  refine Kd.R_mono (Kd.R_step (Kd.R_bound h.xf.r) (fun k hk2 hlt => hk.block k hlt ?_)) (fun _ hk => hk.1)
  rintro rfl
  obtain ⟨_, _, _, q, _, cells, hc⟩ := hk2
  have := hc.symm.trans h.fd.hc
  cases this
/-- A sample has been taken by both. -/
theorem PI.sent (h : PI w l n g c xb buf s r vL Q false false W) {i : Nat} (hi : i < l.length) {v0 : Value} (hk : Kp c W W1) (hF : FD W1 g c (room n) (buf.push (.agg #[v0, .int .i64 (sAt l i).2])) false (s + 1) r) (hR : Kd.R (Kd.int .i64) 3 W1 W.heap.size (fun k => k ≠ c) v0 (sAt l i).1)
    (hX : XF W2 xb (room n) vL' ((Q ++ [i]).map Int.ofNat) false w.heap.size) (ho : vL'.ownBlock = vL.ownBlock ∨ ∃ b, vL'.ownBlock = some b ∧ W1.heap.size ≤ b) (hx : KX xb vL W1 W2) (hq : Q.length < room n) :
    PI w l n g c xb (buf.push (.agg #[v0, .int .i64 (sAt l i).2])) (s + 1) r vL' (Q ++ [i]) false false W2 := by
  have l0 := h.below.size
  have l1 := hk.size
  have hlg := chan_lt h.fd.hg
  have hlc := chan_lt h.fd.hc
  have hlx := chan_lt h.xf.hx
  have hb1 := hk.below h.below h.lc h.below.size
  have hlt1 := h.lg
  have hlt2 := h.lc
  have hlt3 := h.lx
  have vb : ∀ k, vL.ownBlock = some k → w.heap.size ≤ k ∧ k < W.heap.size := fun k hk => ⟨own_base (Kd.own_of_R h.xf.r) k hk, own_lt (Kd.own_of_R h.xf.r) k hk⟩
  have keep : ∀ {k : Nat}, k < W1.heap.size → okb c g xb vL k → W2.heap[k]? = W1.heap[k]? := fun hk ho => hx.block _ hk ho.2.2.1 ho.2.2.2
  have okn : ∀ k, okb c g xb vL k → k < W1.heap.size → okb c g xb vL' k := fun k h1 h2 => ⟨h1.1, h1.2.1, h1.2.2.1, by
    rcases ho with e | ⟨b, e, hb⟩
    · rw [e]; exact h1.2.2.2
    · rw [e]; intro e; injection e with e; omega⟩
  refine ⟨⟨hx.os.trans hb1.os, hx.tape.trans hb1.tape, hx.output.trans hb1.output, Nat.le_trans hb1.size hx.size, fun k hk2 => (hx.block k (by omega) (by omega) (fun e => by have := vb k e.symm; omega)).trans (hb1.block k hk2)⟩, h.lg, h.lc, h.lx, h.gx, h.cx, ?_, ?_, hX, by rw [Array.size_push, h.bs, List.length_append]; rfl, ?_, by rw [List.length_append]; simp; omega, ?_⟩
  · intro k e
    rcases ho with e2 | ⟨b, e2, hb⟩
    · exact h.lv k (e2 ▸ e)
    · rw [e2] at e; injection e with e; subst e; omega
  · exact ⟨(hx.block g (by omega) h.gx (fun e => (h.lv g e.symm).2.1 rfl)).trans hF.hg, (hx.block c (by omega) h.cx (fun e => (h.lv c e.symm).1 rfl)).trans hF.hc⟩
  · intro j hj
    by_cases hjQ : j < Q.length
    · obtain ⟨v, h1, h2⟩ := h.rows j hjQ
      rw [List.getElem_append_left hjQ]
      refine ⟨v, ?_, ?_⟩
      · rw [Array.getElem?_push_lt (by rw [h.bs]; exact hjQ)]
        rw [← h1]; exact (Array.getElem?_eq_getElem (by rw [h.bs]; exact hjQ)).symm
      · have r1 := Kd.R_mono (ok' := fun k => okb c g xb vL k ∧ k < W1.heap.size) (Kd.R_bound (Kd.R_step h2 (fun k hk2 hlt => hk.block k hlt hk2.1))) (fun k hk => ⟨hk.1, hk.2.2.1⟩)
        exact Kd.R_mono (Kd.R_step r1 (fun k hk2 hlt => keep hlt hk2.1)) (fun k hk => okn k hk.1 hk.2)
    · have hje : j = Q.length := by rw [List.length_append] at hj; simp at hj; omega
      subst hje
      rw [List.getElem_append_right (Nat.le_refl _)]
      simp only [Nat.sub_self, List.getElem_cons_zero]
      refine ⟨v0, by rw [← h.bs]; exact Array.getElem?_push_size .., ?_⟩
      have r1 := Kd.R_mono (ok' := fun k => okb c g xb vL k ∧ k < W1.heap.size) (Kd.R_bound hR) (fun k hk => ⟨⟨hk.1, by have := hk.2.1; omega, by have := hk.2.1; omega, fun e => by have := vb k e.symm; have := hk.2.1; omega⟩, hk.2.2.1⟩)
      exact Kd.R_lower (Kd.R_mono (Kd.R_step r1 (fun k hk2 hlt => keep hlt hk2.1)) (fun k hk => okn k hk.1 hk.2)) l0
  · intro q hq2
    rcases List.mem_append.1 hq2 with h1 | h1
    · exact h.qi q h1
    · rw [List.mem_singleton] at h1; subst h1; exact hi
/-- The first has been handed over by both. -/
theorem PI.next {W3 : World} {q : Nat} (h : PI w l n g c xb buf s r vL (q :: Q) shF shX W) (hk : Kp c W W1) (hF : FD W1 g c (room n) (buf.extract 1 buf.size) shF s (r + 1)) (hb : Below W1.heap.size W1 W2) (hX : XF W3 xb (room n) vL' (Q.map Int.ofNat) shX w.heap.size) (ho : ∀ k, vL'.ownBlock = some k → W2.heap.size ≤ k) (hx : KX xb (.slice none 0 0) W2 W3) :
    PI w l n g c xb (buf.extract 1 buf.size) s (r + 1) vL' Q shF shX W3 := by
  have l0 := h.below.size
  have l1 := hk.size
  have l2 := hb.size
  have hlg := chan_lt h.fd.hg
  have hlc := chan_lt h.fd.hc
  have hlx := chan_lt h.xf.hx
  have hb1 := hk.below h.below h.lc h.below.size
  have hlt1 := h.lg
  have hlt2 := h.lc
  have hlt3 := h.lx
  have blk : ∀ k, k < W1.heap.size → k ≠ xb → W3.heap[k]? = W1.heap[k]? := fun k h1 h2 => (hx.block k (by omega) h2 (by simp [Value.ownBlock])).trans (hb.block k h1)
  refine ⟨⟨hx.os.trans (hb.os.trans hb1.os), hx.tape.trans (hb.tape.trans hb1.tape), hx.output.trans (hb.output.trans hb1.output), Nat.le_trans hb1.size (Nat.le_trans hb.size hx.size), fun k hk2 => (blk k (by omega) (by omega)).trans (hb1.block k hk2)⟩, h.lg, h.lc, h.lx, h.gx, h.cx, fun k e => by have := ho k e; omega, ⟨(blk g (by omega) h.gx).trans hF.hg, (blk c (by omega) h.cx).trans hF.hc⟩, hX, ?_, ?_, ?_, ?_⟩
  · have := h.bs; simp at this ⊢; omega
  · intro j hj
    obtain ⟨v, h1, h2⟩ := h.rows (j + 1) (by simp; exact hj)
    refine ⟨v, ?_, ?_⟩
    · have hbs := h.bs
      simp only [List.length_cons] at hbs
      rw [Array.getElem?_extract]
      rw [if_pos (by omega), Nat.add_comm]; exact h1
    · simp only [List.getElem_cons_succ] at h2
      have r1 := Kd.R_mono (ok' := fun k => okb c g xb vL k ∧ k < W1.heap.size) (Kd.R_bound (Kd.R_step h2 (fun k hk2 hlt => hk.block k hlt hk2.1))) (fun k hk => ⟨hk.1, hk.2.2.1⟩)
      exact Kd.R_mono (Kd.R_step r1 (fun k hk2 hlt => blk k hk2.2 hk2.1.2.2.1)) (fun k hk => ⟨hk.1.1, hk.1.2.1, hk.1.2.2.1, fun e => by have := ho k e.symm; omega⟩)
  · have := h.ql; simp at this; omega
  · exact fun q hq => h.qi q (List.mem_cons_of_mem _ hq)
/-- What was handed over is still there. -/
theorem PI.got {W3 : World} {q : Nat} (h : PI w l n g c xb buf s r vL (q :: Q) shF shX W) (hk : Kp c W W1) (hb : Below W1.heap.size W1 W2) (hx : KX xb (.slice none 0 0) W2 W3) : ∃ v, buf[0]? = some (.agg #[v, .int .i64 (sAt l q).2]) ∧ Kd.R (Kd.int .i64) 3 W1 w.heap.size (fun k => k ≠ xb) v (sAt l q).1 ∧ Kd.R (Kd.int .i64) 3 W3 w.heap.size (fun k => k ≠ xb) v (sAt l q).1 := by
  obtain ⟨v, h1, h2⟩ := h.rows 0 (by simp)
  simp only [List.getElem_cons_zero] at h1 h2
  have l1 := hk.size
  have l2 := hb.size
  have r1 := Kd.R_mono (ok' := fun k => k ≠ xb ∧ k < W1.heap.size) (Kd.R_bound (Kd.R_step h2 (fun k hk2 hlt => hk.block k hlt hk2.1))) (fun k hk => ⟨hk.1.2.2.1, hk.2.2.1⟩)
  refine ⟨v, h1, Kd.R_mono r1 (fun _ hk => hk.1), Kd.R_mono (Kd.R_step r1 (fun k hk2 hlt => (hx.block k (by omega) hk2.1 (by simp [Value.ownBlock])).trans (hb.block k hk2.2))) (fun _ hk => hk.1)⟩
theorem PI.set {b i : Nat} {u : Value} (h : PI w l n g c xb buf s r vL Q shF shX W) (hb : b = g ∨ b = xb) {sF sX : Bool} (hF : FD (W.setCell ⟨b, i, none⟩ u) g c (room n) buf sF s r) (hx : (W.setCell ⟨b, i, none⟩ u).heap[xb]? = some (.cells #[.int .i64 (room n : Int), vL, .bool sX] 41 (0, 0))) : PI w l n g c xb buf s r vL Q sF sX (W.setCell ⟨b, i, none⟩ u) := by
  refine ⟨h.below.setCell (by show _ ≤ b; have := h.lg; have := h.lx; omega) _, h.lg, h.lc, h.lx, h.gx, h.cx, h.lv, hF, ⟨hx, ?_⟩, h.bs, fun j hj => ?_, h.ql, h.qi⟩
  · have hne : ∀ k, k ≠ xb → (∃ cells, W.heap[k]? = some (.cells cells 3 (0, 0))) → k ≠ b := by
      rintro k h1 ⟨cells, hc⟩ rfl
      rcases hb with e | e
      · rw [e] at hc
        have := hc.symm.trans h.fd.hg
        injection this with this
        injection this with _ h2
        exact absurd h2 (by decide)
      · exact h1 e
    refine Kd.R_mono (Kd.R_far (p := ⟨b, i, none⟩) (Kd.R_bound h.xf.r) (fun k hk => ?_) _) (fun _ hk => hk.1)
    obtain ⟨h1, _, _, q, hq, cells, hc⟩ := hk
    have hq3 : q = 3 := by rcases List.mem_cons.1 hq with h | h; exact h; cases h
    subst hq3
    exact hne k h1 ⟨cells, hc⟩
  · obtain ⟨v, h1, h2⟩ := h.rows j hj
    exact ⟨v, h1, Kd.R_far (p := ⟨b, i, none⟩) h2 (fun k hk => by rcases hb with e | e; rw [e]; exact hk.2.1; rw [e]; exact hk.2.2.1) _⟩
theorem PI.shutX (h : PI w l n g c xb buf s r vL Q shF shX W) : PI w l n g c xb buf s r vL Q shF true (W.setCell ⟨xb, 2, none⟩ (.bool true)) :=
  h.set (.inr rfl) ⟨(Below.heap_setCell _ _ _ _ h.gx).trans h.fd.hg, (Below.heap_setCell _ _ _ _ h.cx).trans h.fd.hc⟩ (blk_put h.xf.hx 2 _ rfl)
theorem PI.shutF (h : PI w l n g c xb buf s r vL Q shF shX W) : PI w l n g c xb buf s r vL Q true shX (W.setCell ⟨g, 1, none⟩ (.bool true)) :=
  h.set (.inl rfl) ⟨blk_put h.fd.hg 1 _ rfl, (Below.heap_setCell _ _ _ _ (Ne.symm h.fd.ne)).trans h.fd.hc⟩ ((Below.heap_setCell _ _ _ _ (Ne.symm h.gx)).trans h.xf.hx)
end
theorem add_off (a : Addr) (k : Nat) : (a.add k).off = a.off + k := by unfold Addr.add; split <;> simp_all
theorem add_succ (a : Addr) (k m : Nat) (h : 0 < m) : a.add (k + m) = ⟨a.block, a.off + k + m, none⟩ := by unfold Addr.add; rw [if_neg (by omega), Nat.add_assoc]
theorem step_at {w : World} {A : Option Addr} {l : List Stp} (h : Kd.C KStp w A l.length l) (i : Nat) (hi : i < l.length) : ∃ ad A0 c0, A = some ad ∧ w.cell? (ad.add (i * 3)) = some (.int .u64 l[i].1) ∧ w.cell? ⟨(ad.add (i * 3)).block, (ad.add (i * 3)).off + 1, none⟩ = some (.slice A0 l[i].2.1.length c0) ∧ w.cell? ⟨(ad.add (i * 3)).block, (ad.add (i * 3)).off + 1 + 1, none⟩ = some (.int .i64 l[i].2.2) ∧ l[i].2.1.length ≤ c0 ∧ Kd.C (Kd.int .i64) w A0 l[i].2.1.length l[i].2.1 := by
  obtain ⟨ad, cs, e, _, hK, hc⟩ := Kd.C_get h (0, [], 0) (i : Int) (by omega) (by omega)
  rw [show l.getD (i : Int).toNat (0, [], 0) = l[i] by rw [Int.toNat_natCast, List.getD_eq_getElem?_getD, List.getElem?_eq_getElem hi]; rfl] at hK
  obtain ⟨_, _, rfl, rfl, _, _, rfl, ⟨A0, c0, rfl, l0, g0⟩, rfl⟩ := hK
  refine ⟨ad, A0, c0, e, ?_, ?_, ?_, l0, g0⟩
  · have := hc 0 _ rfl
    rw [Int.toNat_natCast] at this
    simpa [KStp, Kd.pair, Kd.slice, Kd.int, Kd.scalar] using this
  · have := hc 1 _ rfl
    rw [Int.toNat_natCast, show KStp.sz = 3 from rfl, add_succ _ _ _ (by omega)] at this
    rw [add_block, add_off]
    exact this
  · have := hc 2 _ rfl
    rw [Int.toNat_natCast, show KStp.sz = 3 from rfl, add_succ _ _ _ (by omega)] at this
    rw [add_block, add_off]
    exact this
end Go.Proofs.Ytkkjheickjogeaa.Fd
end

section
/- FeedPlays, walked by hand. -/
namespace Go.Proofs.Ytkkjheickjogeaa.Fd
open Go Go.RowKit Go.Conc Go.Proofs.Ytkkjheickjogeaa.PFd Go.Proofs.YtkkjheickjogeaaW.PrintWords Go.Proofs.YtkkjheickjogeaaW.PrintLast Go.Proofs.YtkkjheickjogeaaW.PrintMore
set_option linter.unusedVariables false
set_option linter.unusedSimpArgs false
theorem wn63 (n : Nat) (h : n < 9223372036854775807) : wrap64 ((n : Int) + 1) = ((n + 1 : Nat) : Int) := by unfold wrap64; omega
theorem ints_l63 (a : List Int) (ha : a.length ≤ 9223372036854775807) : ∀ m i k : Nat, i + m = a.length → m < k → ladderbackref15_Ints.l0 k a a (i : Int) = some true := by
  intro m
  induction m with
  | zero =>
    intro i k h1 h2
    obtain ⟨k, rfl⟩ : ∃ m, k = m + 1 := ⟨k - 1, by omega⟩
    rw [ladderbackref15_Ints.l0, if_neg (by omega)]
  | succ m ih =>
    intro i k h1 h2
    obtain ⟨k, rfl⟩ : ∃ m, k = m + 1 := ⟨k - 1, by omega⟩
    rw [ladderbackref15_Ints.l0, if_pos (by omega), if_pos (by omega), if_pos (by omega), if_pos rfl, wn63 i (by omega)]
    exact ih (i + 1) k (by omega) (by omega)
theorem ints_self63 (a : List Int) (ha : a.length ≤ 9223372036854775807) : ladderbackref15_Ints.f (a.length + 1) a a = some true := by
  unfold ladderbackref15_Ints.f
  rw [if_pos rfl]
  exact ints_l63 a ha a.length 0 _ (by omega) (by omega)
theorem fd_drewN {W W_ : World} {g c cap s r : Nat} {buf : Array Value} {sh : Bool} (h : FD W g c cap buf sh s r) (hm : ∃ m, W_ = W.drewN m) : FD W_ g c cap buf sh s r := by
  obtain ⟨m, rfl⟩ := hm
  exact h.below (pw_below_drewN (Below.refl _ _) m)
theorem len_q (w : World) (g c cap : Nat) (buf : Array Value) (sh : Bool) (s r q : Nat) (hq : buf.size = q) (h : FD w g c cap buf sh s r) : Calls Try.prog 14 #[.pointer (some ⟨g, 0, none⟩)] w fun e w' => e = .returned (.int .i64 (q : Int)) ∧ Drawn0 w w' :=
  (len_w w g c cap buf sh s r h).mono fun e w' ⟨h1, h2⟩ => ⟨by rw [h1, hq], by rw [h2]; exact Drawn0.refl _⟩
theorem over_q (w : World) (g c cap : Nat) (buf : Array Value) (sh : Bool) (s r q : Nat) (hq : buf.size = q) (h : FD w g c cap buf sh s r) : Calls Try.prog 15 #[.pointer (some ⟨g, 0, none⟩)] w fun e w' => e = .returned (.bool (sh && ((q : Int) == 0))) ∧ Drawn0 w w' :=
  (over_w w g c cap buf sh s r h).mono fun e w' ⟨h1, h2⟩ => ⟨by
    rw [h1, hq]
    have e : ((q : Int) == 0) = decide (q = 0) := by
      by_cases h : q = 0
      · rw [h]; rfl
      · rw [decide_eq_false h]; exact beq_eq_false_iff_ne.2 (by omega)
    rw [e], by rw [h2]; exact Drawn0.refl _⟩
set_option maxHeartbeats 8000000 in
set_option maxRecDepth 100000 in
theorem FeedPlays_w (n : Int) (A : Option Addr) (ca : Nat) (l : List Stp) (w : World) (hC : Kd.C KStp w A l.length l) (hca : l.length ≤ ca) :
    Calls Try.prog 3 #[.int .i64 n, .slice A l.length ca] w fun e w' => e = .returned (.bool true) ∧ Below w.heap.size w w' := by
  have HC := Aside0.mk hC
  clear hC hca
  by_cases hlen : l.length > 60
  · have HL := Aside0.mk hlen
    go_enter Try.func3, Try.ntmps3
    go_wp2_with fail
    refine (awake_w _).mono ?_
    rintro e W1 ⟨rfl, hb⟩
    have HB := Aside0.mk hb
    clear hb
    go_wp2_with fail
    go_ret
    exact ⟨rfl, HB.out⟩
  · go_enter Try.func3, Try.ntmps3
    go_wp2_with fail
    refine (new_w _ n).mono ?_
    rintro e W1 ⟨g, c, rfl, lg, lc, hF, hb⟩
    have N1 := Aside0.mk (And.intro lg (And.intro lc (And.intro hF hb)))
    clear lg lc hF hb
    go_wp2_with fail
    refine (rnew_w W1 n).mono ?_
    rintro e W2 ⟨xb, rfl, lx, hX, hb⟩
    obtain ⟨lg, lc, hF, hb1⟩ := N1.out
    have HP := Aside0.mk (show PI w l n g c xb #[] 0 0 (.slice none 0 0) [] false false W2 from
      ⟨hb1.trans (hb.mono hb1.size), lg, lc, Nat.le_trans hb1.size lx, by have := chan_lt hF.hg; omega, by have := chan_lt hF.hc; omega, fun k e => by simp [Value.ownBlock] at e, hF.below hb, ⟨hX.hx, Kd.R_nil _ _ _ _ _⟩, rfl, fun j hj => by simp at hj, by simp, fun q hq => by cases hq⟩)
    clear lg lc hF hb1 lx hX hb N1
    go_wp2_with fail
    go_loopw [7] (fun x wr => ∃ (i : Nat) (buf : Array Value) (s r : Nat) (vL : Value) (Q : List Nat) (sh : Bool), i ≤ l.length ∧ x = .int .i64 (i : Int) ∧ Aside0 (PI w l n g c xb buf s r vL Q sh sh wr)) (fun x _ => l.length - (intOf x).toNat)
    case atStart => exact ⟨0, _, _, _, _, [], false, Nat.zero_le _, rfl, HP⟩
    case round =>
      clear HP
      obtain ⟨i, buf, s, r, vL, Q, sh, hi, rfl, HP⟩ := hrel
      by_cases hil : i < l.length
      rotate_left
      · go_wp2_with fail
        refine (awake_w wr).mono ?_
        rintro e W3 ⟨rfl, hb⟩
        have HB := Aside0.mk (HP.out.step hb).below
        clear hb
        go_wp2_with fail
        go_ret
        exact ⟨rfl, HB.out⟩
      · obtain ⟨ad, A0, c0, rfl, k0, k1, k2, l0, g0⟩ := step_at (Kd.C_below HC.out HP.out.below) i hil
        obtain ⟨t, ht⟩ : ∃ t, t = l[i] := ⟨_, rfl⟩
        rw [← ht] at k0 k1 k2 l0 g0
        have hsa : sAt l i = t.2 := by unfold sAt; rw [ht, List.getD_eq_getElem?_getD, List.getElem?_eq_getElem hil]; rfl
        obtain ⟨kd, xs, dt⟩ := t
        simp only at k0 k1 k2 l0 g0 hsa
        have HS := Aside0.mk (And.intro hsa (And.intro l0 g0))
        clear ht hsa l0 g0
        by_cases h50 : xs.length > 50
        · go_wp2_with fail
          refine (awake_w wr).mono ?_
          rintro e W3 ⟨rfl, hb⟩
          have HB := Aside0.mk (HP.out.step hb).below
          clear hb
          go_wp2_with fail
          go_ret
          exact ⟨rfl, HB.out⟩
        · have q2 : wr.cell? ⟨xb, 2, none⟩ = some (.bool sh) := (blk_cell HP.out.xf.hx 2).trans rfl
          have f2 := blk_frozen HP.out.xf.hx 2
          go_wp2_with fail
          · cases sh with
            | true =>
              refine (offer_shut wr g c (room n) buf s r HP.out.fd A0 c0 xs.length dt).mono ?_
              rintro e W3 ⟨rfl, hb⟩
              have HP3 := Aside0.mk (HP.out.step hb)
              clear hb q2 HP
              go_wp2_with fail
              refine (roffer_no W3 xb (room n) vL _ true _ (i : Int) HP3.out.xf (.inl rfl)).mono ?_
              rintro e W4 ⟨rfl, hb⟩
              have HP4 := Aside0.mk (HP3.out.step hb)
              clear hb HP3
              have hbs := HP4.out.bs
              obtain ⟨AL, cL, eL, _, _⟩ := Kd.R_reads HP4.out.xf.r
              rw [HP4.out.qlen] at eL
              have q1 : W4.cell? ⟨xb, 1, none⟩ = some (.slice AL (Q).length cL) := ((blk_cell HP4.out.xf.hx 1).trans rfl).trans (congrArg some eL)
              have q2 : W4.cell? ⟨xb, 2, none⟩ = some (.bool true) := (blk_cell HP4.out.xf.hx 2).trans rfl
              have LE := Aside0.mk (fun (W_ : World) (hm : ∃ m, W_ = W4.drewN m) => len_q W_ g c (room n) _ true _ _ (Q).length hbs (fd_drewN HP4.out.fd hm))
              have OV := Aside0.mk (fun (W_ : World) (hm : ∃ m, W_ = W4.drewN m) => over_q W_ g c (room n) _ true _ _ (Q).length hbs (fd_drewN HP4.out.fd hm))
              clear hbs eL
              go_wp2_with fail; repeat (go_quiet (first | (go_at_call 14; (with_reducible refine (LE.out _ ?hm).mono ?_); (case hm => first | exact ⟨_, rfl⟩ | exact ⟨0, rfl⟩); rintro e w' ⟨rfl, ⟨nd, rfl⟩⟩; (try first | exact ⟨rfl, _, World.drewN_drewN _ _ _⟩ | exact ⟨rfl, _, Eq.trans (World.drewN_drewN _ _ _) (congrArg (World.drewN _) (Nat.add_assoc _ _ _))⟩)) | (go_at_call 15; (with_reducible refine (OV.out _ ?hm).mono ?_); (case hm => first | exact ⟨_, rfl⟩ | exact ⟨0, rfl⟩); rintro e w' ⟨rfl, ⟨nd, rfl⟩⟩; (try first | exact ⟨rfl, _, World.drewN_drewN _ _ _⟩ | exact ⟨rfl, _, Eq.trans (World.drewN_drewN _ _ _) (congrArg (World.drewN _) (Nat.add_assoc _ _ _))⟩))); try go_wp2_with fail)
              refine ⟨⟨i + 1, _, _, _, _, Q, true, by omega, by push_cast; rfl, ⟨HP4.out.step (pw_below_drewN (Below.refl _ _) _)⟩⟩, ?_⟩
              rw [show intOf (.int .i64 ((i : Int) + 1)) = (i : Int) + 1 from rfl, show intOf (.int .i64 (i : Int)) = (i : Int) from rfl]
              omega
            | false =>
              have hr1 := room_le n
              by_cases hfull : room n ≤ Q.length
              · have HFU := Aside0.mk hfull
                refine (offer_full wr g c (room n) buf s r HP.out.fd (by rw [HP.out.bs]; exact hfull) A0 c0 xs dt HS.out.2.2 HS.out.2.1 (by omega)).mono ?_
                rintro e W3 ⟨rfl, hF, hb⟩
                have HP3 := Aside0.mk (HP.out.step hb)
                clear hF hb q2 HP
                go_wp2_with fail
                refine (roffer_no W3 xb (room n) vL _ false _ (i : Int) HP3.out.xf (.inr (by rw [HP3.out.qlen]; exact HFU.out))).mono ?_
                rintro e W4 ⟨rfl, hb⟩
                have HP4 := Aside0.mk (HP3.out.step hb)
                clear hb HP3
                have hbs := HP4.out.bs
                obtain ⟨AL, cL, eL, _, _⟩ := Kd.R_reads HP4.out.xf.r
                rw [HP4.out.qlen] at eL
                have q1 : W4.cell? ⟨xb, 1, none⟩ = some (.slice AL (Q).length cL) := ((blk_cell HP4.out.xf.hx 1).trans rfl).trans (congrArg some eL)
                have q2 : W4.cell? ⟨xb, 2, none⟩ = some (.bool false) := (blk_cell HP4.out.xf.hx 2).trans rfl
                have LE := Aside0.mk (fun (W_ : World) (hm : ∃ m, W_ = W4.drewN m) => len_q W_ g c (room n) _ false _ _ (Q).length hbs (fd_drewN HP4.out.fd hm))
                have OV := Aside0.mk (fun (W_ : World) (hm : ∃ m, W_ = W4.drewN m) => over_q W_ g c (room n) _ false _ _ (Q).length hbs (fd_drewN HP4.out.fd hm))
                clear hbs eL
                go_wp2_with fail; repeat (go_quiet (first | (go_at_call 14; (with_reducible refine (LE.out _ ?hm).mono ?_); (case hm => first | exact ⟨_, rfl⟩ | exact ⟨0, rfl⟩); rintro e w' ⟨rfl, ⟨nd, rfl⟩⟩; (try first | exact ⟨rfl, _, World.drewN_drewN _ _ _⟩ | exact ⟨rfl, _, Eq.trans (World.drewN_drewN _ _ _) (congrArg (World.drewN _) (Nat.add_assoc _ _ _))⟩)) | (go_at_call 15; (with_reducible refine (OV.out _ ?hm).mono ?_); (case hm => first | exact ⟨_, rfl⟩ | exact ⟨0, rfl⟩); rintro e w' ⟨rfl, ⟨nd, rfl⟩⟩; (try first | exact ⟨rfl, _, World.drewN_drewN _ _ _⟩ | exact ⟨rfl, _, Eq.trans (World.drewN_drewN _ _ _) (congrArg (World.drewN _) (Nat.add_assoc _ _ _))⟩))); try go_wp2_with fail)
                refine ⟨⟨i + 1, _, _, _, _, Q, false, by omega, by push_cast; rfl, ⟨HP4.out.step (pw_below_drewN (Below.refl _ _) _)⟩⟩, ?_⟩
                rw [show intOf (.int .i64 ((i : Int) + 1)) = (i : Int) + 1 from rfl, show intOf (.int .i64 (i : Int)) = (i : Int) from rfl]
                omega
              · have HFU := Aside0.mk hfull
                refine (offer_send wr g c (room n) buf s r HP.out.fd (by rw [HP.out.bs]; omega) A0 c0 xs dt HS.out.2.2 HS.out.2.1 (by omega)).mono ?_
                rintro e W3 ⟨rfl, v0, hR, hF, hk⟩
                have hX3 := HP.out.xk hk
                have hlw := Nat.le_trans HP.out.below.size hk.size
                have T3 := Aside0.mk (And.intro hR (And.intro hF (And.intro hk (And.intro hX3 hlw))))
                clear hR hF hk hX3 hlw q2
                go_wp2_with fail
                refine (roffer_yes W3 xb (room n) vL _ _ (i : Int) T3.out.2.2.2.1 (by rw [HP.out.qlen]; have := HFU.out; omega) (by rw [HP.out.qlen]; have := HP.out.ql; omega) T3.out.2.2.2.2).mono ?_
                rintro e W4 ⟨rfl, v1, hX, ho, hx⟩
                have HP4 := Aside0.mk (HP.out.sent hil T3.out.2.2.1 (by rw [HS.out.1]; exact T3.out.2.1) (by rw [HS.out.1]; exact T3.out.1) (by rw [List.map_append]; exact hX) ho hx (by have := HFU.out; omega))
                clear hX ho hx T3 HP
                have hbs := HP4.out.bs
                obtain ⟨AL, cL, eL, _, _⟩ := Kd.R_reads HP4.out.xf.r
                rw [HP4.out.qlen] at eL
                have q1 : W4.cell? ⟨xb, 1, none⟩ = some (.slice AL (Q ++ [i]).length cL) := ((blk_cell HP4.out.xf.hx 1).trans rfl).trans (congrArg some eL)
                have q2 : W4.cell? ⟨xb, 2, none⟩ = some (.bool false) := (blk_cell HP4.out.xf.hx 2).trans rfl
                have LE := Aside0.mk (fun (W_ : World) (hm : ∃ m, W_ = W4.drewN m) => len_q W_ g c (room n) _ false _ _ (Q ++ [i]).length hbs (fd_drewN HP4.out.fd hm))
                have OV := Aside0.mk (fun (W_ : World) (hm : ∃ m, W_ = W4.drewN m) => over_q W_ g c (room n) _ false _ _ (Q ++ [i]).length hbs (fd_drewN HP4.out.fd hm))
                clear hbs eL
                go_wp2_with fail; repeat (go_quiet (first | (go_at_call 14; (with_reducible refine (LE.out _ ?hm).mono ?_); (case hm => first | exact ⟨_, rfl⟩ | exact ⟨0, rfl⟩); rintro e w' ⟨rfl, ⟨nd, rfl⟩⟩; (try first | exact ⟨rfl, _, World.drewN_drewN _ _ _⟩ | exact ⟨rfl, _, Eq.trans (World.drewN_drewN _ _ _) (congrArg (World.drewN _) (Nat.add_assoc _ _ _))⟩)) | (go_at_call 15; (with_reducible refine (OV.out _ ?hm).mono ?_); (case hm => first | exact ⟨_, rfl⟩ | exact ⟨0, rfl⟩); rintro e w' ⟨rfl, ⟨nd, rfl⟩⟩; (try first | exact ⟨rfl, _, World.drewN_drewN _ _ _⟩ | exact ⟨rfl, _, Eq.trans (World.drewN_drewN _ _ _) (congrArg (World.drewN _) (Nat.add_assoc _ _ _))⟩))); try go_wp2_with fail)
                refine ⟨⟨i + 1, _, _, _, _, Q ++ [i], false, by omega, by push_cast; rfl, ⟨HP4.out.step (pw_below_drewN (Below.refl _ _) _)⟩⟩, ?_⟩
                rw [show intOf (.int .i64 ((i : Int) + 1)) = (i : Int) + 1 from rfl, show intOf (.int .i64 (i : Int)) = (i : Int) from rfl]
                omega
          · cases sh with
            | true =>
              refine (offer_shut wr g c (room n) buf s r HP.out.fd A0 c0 xs.length dt).mono ?_
              rintro e W3 ⟨rfl, hb⟩
              have HP3 := Aside0.mk (HP.out.step hb)
              clear hb q2 HP
              go_wp2_with fail
              refine (roffer_no W3 xb (room n) vL _ true _ (i : Int) HP3.out.xf (.inl rfl)).mono ?_
              rintro e W4 ⟨rfl, hb⟩
              have HP4 := Aside0.mk (HP3.out.step hb)
              clear hb HP3
              have hbs := HP4.out.bs
              obtain ⟨AL, cL, eL, _, _⟩ := Kd.R_reads HP4.out.xf.r
              rw [HP4.out.qlen] at eL
              have q1 : W4.cell? ⟨xb, 1, none⟩ = some (.slice AL (Q).length cL) := ((blk_cell HP4.out.xf.hx 1).trans rfl).trans (congrArg some eL)
              have q2 : W4.cell? ⟨xb, 2, none⟩ = some (.bool true) := (blk_cell HP4.out.xf.hx 2).trans rfl
              have LE := Aside0.mk (fun (W_ : World) (hm : ∃ m, W_ = W4.drewN m) => len_q W_ g c (room n) _ true _ _ (Q).length hbs (fd_drewN HP4.out.fd hm))
              have OV := Aside0.mk (fun (W_ : World) (hm : ∃ m, W_ = W4.drewN m) => over_q W_ g c (room n) _ true _ _ (Q).length hbs (fd_drewN HP4.out.fd hm))
              clear hbs eL
              go_wp2_with fail; repeat (go_quiet (first | (go_at_call 14; (with_reducible refine (LE.out _ ?hm).mono ?_); (case hm => first | exact ⟨_, rfl⟩ | exact ⟨0, rfl⟩); rintro e w' ⟨rfl, ⟨nd, rfl⟩⟩; (try first | exact ⟨rfl, _, World.drewN_drewN _ _ _⟩ | exact ⟨rfl, _, Eq.trans (World.drewN_drewN _ _ _) (congrArg (World.drewN _) (Nat.add_assoc _ _ _))⟩)) | (go_at_call 15; (with_reducible refine (OV.out _ ?hm).mono ?_); (case hm => first | exact ⟨_, rfl⟩ | exact ⟨0, rfl⟩); rintro e w' ⟨rfl, ⟨nd, rfl⟩⟩; (try first | exact ⟨rfl, _, World.drewN_drewN _ _ _⟩ | exact ⟨rfl, _, Eq.trans (World.drewN_drewN _ _ _) (congrArg (World.drewN _) (Nat.add_assoc _ _ _))⟩))); try go_wp2_with fail)
              refine ⟨⟨i + 1, _, _, _, _, Q, true, by omega, by push_cast; rfl, ⟨HP4.out.step (pw_below_drewN (Below.refl _ _) _)⟩⟩, ?_⟩
              rw [show intOf (.int .i64 ((i : Int) + 1)) = (i : Int) + 1 from rfl, show intOf (.int .i64 (i : Int)) = (i : Int) from rfl]
              omega
            | false =>
              have hr1 := room_le n
              by_cases hfull : room n ≤ Q.length
              · have HFU := Aside0.mk hfull
                refine (offer_full wr g c (room n) buf s r HP.out.fd (by rw [HP.out.bs]; exact hfull) A0 c0 xs dt HS.out.2.2 HS.out.2.1 (by omega)).mono ?_
                rintro e W3 ⟨rfl, hF, hb⟩
                have HP3 := Aside0.mk (HP.out.step hb)
                clear hF hb q2 HP
                go_wp2_with fail
                refine (roffer_no W3 xb (room n) vL _ false _ (i : Int) HP3.out.xf (.inr (by rw [HP3.out.qlen]; exact HFU.out))).mono ?_
                rintro e W4 ⟨rfl, hb⟩
                have HP4 := Aside0.mk (HP3.out.step hb)
                clear hb HP3
                have hbs := HP4.out.bs
                obtain ⟨AL, cL, eL, _, _⟩ := Kd.R_reads HP4.out.xf.r
                rw [HP4.out.qlen] at eL
                have q1 : W4.cell? ⟨xb, 1, none⟩ = some (.slice AL (Q).length cL) := ((blk_cell HP4.out.xf.hx 1).trans rfl).trans (congrArg some eL)
                have q2 : W4.cell? ⟨xb, 2, none⟩ = some (.bool false) := (blk_cell HP4.out.xf.hx 2).trans rfl
                have LE := Aside0.mk (fun (W_ : World) (hm : ∃ m, W_ = W4.drewN m) => len_q W_ g c (room n) _ false _ _ (Q).length hbs (fd_drewN HP4.out.fd hm))
                have OV := Aside0.mk (fun (W_ : World) (hm : ∃ m, W_ = W4.drewN m) => over_q W_ g c (room n) _ false _ _ (Q).length hbs (fd_drewN HP4.out.fd hm))
                clear hbs eL
                go_wp2_with fail; repeat (go_quiet (first | (go_at_call 14; (with_reducible refine (LE.out _ ?hm).mono ?_); (case hm => first | exact ⟨_, rfl⟩ | exact ⟨0, rfl⟩); rintro e w' ⟨rfl, ⟨nd, rfl⟩⟩; (try first | exact ⟨rfl, _, World.drewN_drewN _ _ _⟩ | exact ⟨rfl, _, Eq.trans (World.drewN_drewN _ _ _) (congrArg (World.drewN _) (Nat.add_assoc _ _ _))⟩)) | (go_at_call 15; (with_reducible refine (OV.out _ ?hm).mono ?_); (case hm => first | exact ⟨_, rfl⟩ | exact ⟨0, rfl⟩); rintro e w' ⟨rfl, ⟨nd, rfl⟩⟩; (try first | exact ⟨rfl, _, World.drewN_drewN _ _ _⟩ | exact ⟨rfl, _, Eq.trans (World.drewN_drewN _ _ _) (congrArg (World.drewN _) (Nat.add_assoc _ _ _))⟩))); try go_wp2_with fail)
                refine ⟨⟨i + 1, _, _, _, _, Q, false, by omega, by push_cast; rfl, ⟨HP4.out.step (pw_below_drewN (Below.refl _ _) _)⟩⟩, ?_⟩
                rw [show intOf (.int .i64 ((i : Int) + 1)) = (i : Int) + 1 from rfl, show intOf (.int .i64 (i : Int)) = (i : Int) from rfl]
                omega
              · have HFU := Aside0.mk hfull
                refine (offer_send wr g c (room n) buf s r HP.out.fd (by rw [HP.out.bs]; omega) A0 c0 xs dt HS.out.2.2 HS.out.2.1 (by omega)).mono ?_
                rintro e W3 ⟨rfl, v0, hR, hF, hk⟩
                have hX3 := HP.out.xk hk
                have hlw := Nat.le_trans HP.out.below.size hk.size
                have T3 := Aside0.mk (And.intro hR (And.intro hF (And.intro hk (And.intro hX3 hlw))))
                clear hR hF hk hX3 hlw q2
                go_wp2_with fail
                refine (roffer_yes W3 xb (room n) vL _ _ (i : Int) T3.out.2.2.2.1 (by rw [HP.out.qlen]; have := HFU.out; omega) (by rw [HP.out.qlen]; have := HP.out.ql; omega) T3.out.2.2.2.2).mono ?_
                rintro e W4 ⟨rfl, v1, hX, ho, hx⟩
                have HP4 := Aside0.mk (HP.out.sent hil T3.out.2.2.1 (by rw [HS.out.1]; exact T3.out.2.1) (by rw [HS.out.1]; exact T3.out.1) (by rw [List.map_append]; exact hX) ho hx (by have := HFU.out; omega))
                clear hX ho hx T3 HP
                have hbs := HP4.out.bs
                obtain ⟨AL, cL, eL, _, _⟩ := Kd.R_reads HP4.out.xf.r
                rw [HP4.out.qlen] at eL
                have q1 : W4.cell? ⟨xb, 1, none⟩ = some (.slice AL (Q ++ [i]).length cL) := ((blk_cell HP4.out.xf.hx 1).trans rfl).trans (congrArg some eL)
                have q2 : W4.cell? ⟨xb, 2, none⟩ = some (.bool false) := (blk_cell HP4.out.xf.hx 2).trans rfl
                have LE := Aside0.mk (fun (W_ : World) (hm : ∃ m, W_ = W4.drewN m) => len_q W_ g c (room n) _ false _ _ (Q ++ [i]).length hbs (fd_drewN HP4.out.fd hm))
                have OV := Aside0.mk (fun (W_ : World) (hm : ∃ m, W_ = W4.drewN m) => over_q W_ g c (room n) _ false _ _ (Q ++ [i]).length hbs (fd_drewN HP4.out.fd hm))
                clear hbs eL
                go_wp2_with fail; repeat (go_quiet (first | (go_at_call 14; (with_reducible refine (LE.out _ ?hm).mono ?_); (case hm => first | exact ⟨_, rfl⟩ | exact ⟨0, rfl⟩); rintro e w' ⟨rfl, ⟨nd, rfl⟩⟩; (try first | exact ⟨rfl, _, World.drewN_drewN _ _ _⟩ | exact ⟨rfl, _, Eq.trans (World.drewN_drewN _ _ _) (congrArg (World.drewN _) (Nat.add_assoc _ _ _))⟩)) | (go_at_call 15; (with_reducible refine (OV.out _ ?hm).mono ?_); (case hm => first | exact ⟨_, rfl⟩ | exact ⟨0, rfl⟩); rintro e w' ⟨rfl, ⟨nd, rfl⟩⟩; (try first | exact ⟨rfl, _, World.drewN_drewN _ _ _⟩ | exact ⟨rfl, _, Eq.trans (World.drewN_drewN _ _ _) (congrArg (World.drewN _) (Nat.add_assoc _ _ _))⟩))); try go_wp2_with fail)
                refine ⟨⟨i + 1, _, _, _, _, Q ++ [i], false, by omega, by push_cast; rfl, ⟨HP4.out.step (pw_below_drewN (Below.refl _ _) _)⟩⟩, ?_⟩
                rw [show intOf (.int .i64 ((i : Int) + 1)) = (i : Int) + 1 from rfl, show intOf (.int .i64 (i : Int)) = (i : Int) from rfl]
                omega
          · cases Q with
            | nil =>
              have hbe : buf = #[] := Array.eq_empty_of_size_eq_zero HP.out.bs
              subst hbe
              refine (next_none wr g c (room n) sh s r HP.out.fd).mono ?_
              rintro e W3 ⟨rfl, _, hb⟩
              have HP3 := Aside0.mk ((HP.out.step hb).step ((Below.refl _ _).alloc (Nat.le_refl _) (.cells #[.slice none 0 0, .int .i64 0] 30)))
              clear hb q2 f2 HP
              go_wp2_with fail
              obtain ⟨W4, hW4⟩ : ∃ W, W = W3.alloc (.cells #[.slice none 0 0, .int .i64 0] 30) := ⟨_, rfl⟩
              have X4 : W4.heap[W3.heap.size]? = _ := hW4 ▸ alloc_get W3 _
              rw [← hW4] at HP3 ⊢
              have z0 := (blk_cell X4 0).trans rfl
              have z1 := (blk_cell X4 1).trans rfl
              clear hW4 X4
              refine (rnext_none W4 xb (room n) vL sh _ HP3.out.xf).mono ?_
              rintro e W5 ⟨rfl, rfl⟩
              go_wp2_with fail
              go_quiet (fail)
              obtain ⟨W6, hW6⟩ : ∃ W, W = W5.drewN nq := ⟨_, rfl⟩
              have HP6 := Aside0.mk (HP3.out.step (show Below W5.heap.size W5 W6 from hW6 ▸ pw_below_drewN (Below.refl _ _) nq))
              rw [← hW6]
              clear hW6 z0 z1 HP3
              cases sh with
              | true =>
                have hbs := HP6.out.bs
                obtain ⟨AL, cL, eL, _, _⟩ := Kd.R_reads HP6.out.xf.r
                rw [HP6.out.qlen] at eL
                have q1 : W6.cell? ⟨xb, 1, none⟩ = some (.slice AL (([] : List Nat)).length cL) := ((blk_cell HP6.out.xf.hx 1).trans rfl).trans (congrArg some eL)
                have q2 : W6.cell? ⟨xb, 2, none⟩ = some (.bool true) := (blk_cell HP6.out.xf.hx 2).trans rfl
                have LE := Aside0.mk (fun (W_ : World) (hm : ∃ m, W_ = W6.drewN m) => len_q W_ g c (room n) _ true _ _ (([] : List Nat)).length hbs (fd_drewN HP6.out.fd hm))
                have OV := Aside0.mk (fun (W_ : World) (hm : ∃ m, W_ = W6.drewN m) => over_q W_ g c (room n) _ true _ _ (([] : List Nat)).length hbs (fd_drewN HP6.out.fd hm))
                clear hbs eL
                go_wp2_with fail; repeat (go_quiet (first | (go_at_call 14; (with_reducible refine (LE.out _ ?hm).mono ?_); (case hm => first | exact ⟨_, rfl⟩ | exact ⟨0, rfl⟩); rintro e w' ⟨rfl, ⟨nd, rfl⟩⟩; (try first | exact ⟨rfl, _, World.drewN_drewN _ _ _⟩ | exact ⟨rfl, _, Eq.trans (World.drewN_drewN _ _ _) (congrArg (World.drewN _) (Nat.add_assoc _ _ _))⟩)) | (go_at_call 15; (with_reducible refine (OV.out _ ?hm).mono ?_); (case hm => first | exact ⟨_, rfl⟩ | exact ⟨0, rfl⟩); rintro e w' ⟨rfl, ⟨nd, rfl⟩⟩; (try first | exact ⟨rfl, _, World.drewN_drewN _ _ _⟩ | exact ⟨rfl, _, Eq.trans (World.drewN_drewN _ _ _) (congrArg (World.drewN _) (Nat.add_assoc _ _ _))⟩))); try go_wp2_with fail)
                refine ⟨⟨i + 1, _, _, _, _, ([] : List Nat), true, by omega, by push_cast; rfl, ⟨HP6.out.step (pw_below_drewN (Below.refl _ _) _)⟩⟩, ?_⟩
                rw [show intOf (.int .i64 ((i : Int) + 1)) = (i : Int) + 1 from rfl, show intOf (.int .i64 (i : Int)) = (i : Int) from rfl]
                omega
              | false =>
                have hbs := HP6.out.bs
                obtain ⟨AL, cL, eL, _, _⟩ := Kd.R_reads HP6.out.xf.r
                rw [HP6.out.qlen] at eL
                have q1 : W6.cell? ⟨xb, 1, none⟩ = some (.slice AL (([] : List Nat)).length cL) := ((blk_cell HP6.out.xf.hx 1).trans rfl).trans (congrArg some eL)
                have q2 : W6.cell? ⟨xb, 2, none⟩ = some (.bool false) := (blk_cell HP6.out.xf.hx 2).trans rfl
                have LE := Aside0.mk (fun (W_ : World) (hm : ∃ m, W_ = W6.drewN m) => len_q W_ g c (room n) _ false _ _ (([] : List Nat)).length hbs (fd_drewN HP6.out.fd hm))
                have OV := Aside0.mk (fun (W_ : World) (hm : ∃ m, W_ = W6.drewN m) => over_q W_ g c (room n) _ false _ _ (([] : List Nat)).length hbs (fd_drewN HP6.out.fd hm))
                clear hbs eL
                go_wp2_with fail; repeat (go_quiet (first | (go_at_call 14; (with_reducible refine (LE.out _ ?hm).mono ?_); (case hm => first | exact ⟨_, rfl⟩ | exact ⟨0, rfl⟩); rintro e w' ⟨rfl, ⟨nd, rfl⟩⟩; (try first | exact ⟨rfl, _, World.drewN_drewN _ _ _⟩ | exact ⟨rfl, _, Eq.trans (World.drewN_drewN _ _ _) (congrArg (World.drewN _) (Nat.add_assoc _ _ _))⟩)) | (go_at_call 15; (with_reducible refine (OV.out _ ?hm).mono ?_); (case hm => first | exact ⟨_, rfl⟩ | exact ⟨0, rfl⟩); rintro e w' ⟨rfl, ⟨nd, rfl⟩⟩; (try first | exact ⟨rfl, _, World.drewN_drewN _ _ _⟩ | exact ⟨rfl, _, Eq.trans (World.drewN_drewN _ _ _) (congrArg (World.drewN _) (Nat.add_assoc _ _ _))⟩))); try go_wp2_with fail)
                refine ⟨⟨i + 1, _, _, _, _, ([] : List Nat), false, by omega, by push_cast; rfl, ⟨HP6.out.step (pw_below_drewN (Below.refl _ _) _)⟩⟩, ?_⟩
                rw [show intOf (.int .i64 ((i : Int) + 1)) = (i : Int) + 1 from rfl, show intOf (.int .i64 (i : Int)) = (i : Int) from rfl]
                omega
            | cons q Q =>
              obtain ⟨v, hv, hvr⟩ := HP.out.rows 0 (by simp)
              simp only [List.getElem_cons_zero] at hv hvr
              obtain ⟨A8, c8, rfl, l8, _⟩ := Kd.R_reads hvr
              have hql : q < l.length := HP.out.qi q List.mem_cons_self
              have hq2 : Q.length ≤ 2000 := by have h1 := HP.out.ql; have h2 := room_le n; rw [List.length_cons] at h1; omega
              refine (next_some wr g c (room n) buf sh s r HP.out.fd A8 _ c8 _ hv).mono ?_
              rintro e W3 ⟨rfl, hF, hk⟩
              obtain ⟨xq, hxq⟩ : ∃ x, x = sAt l q := ⟨_, rfl⟩
              rw [← hxq] at hv hvr l8 ⊢
              have HXQ := Aside0.mk hxq
              clear hxq hvr
              have hb4 : Below W3.heap.size W3 (W3.alloc (.cells #[.slice A8 xq.1.length c8, .int .i64 xq.2] 30)) := (Below.refl _ _).alloc (Nat.le_refl _) _
              have hx3 := HP.out.xk hk
              have hlw := Nat.le_trans (Nat.le_trans HP.out.below.size hk.size) hb4.size
              have hx4 : XF (W3.alloc (.cells #[.slice A8 xq.1.length c8, .int .i64 xq.2] 30)) xb (room n) vL ((q : Int) :: Q.map Int.ofNat) sh w.heap.size := ⟨(hb4.block _ (chan_lt hx3.hx)).trans hx3.hx, Kd.R_below hx3.r hb4⟩
              have X4 := alloc_get W3 (.cells #[.slice A8 xq.1.length c8, .int .i64 xq.2] 30)
              have T := Aside0.mk (And.intro hF (And.intro hk (And.intro hb4 (And.intro hx4 (And.intro X4 (And.intro hlw (And.intro hv (And.intro l8 (And.intro hql hq2)))))))))
              clear hF hk hb4 hx3 hx4 X4 hlw hv l8 hql hq2 q2 f2
              go_wp2_with fail
              refine (rnext_some _ xb (room n) vL (q : Int) (Q.map Int.ofNat) sh w.heap.size T.out.2.2.2.1 (by rw [List.length_map]; exact T.out.2.2.2.2.2.2.2.2.2) T.out.2.2.2.2.2.1).mono ?_
              rintro e W5 ⟨rfl, v1, hX, ho, hx⟩
              obtain ⟨hF, hk, hb4, hx4, X4, hlw, hv, l8, hql, hq2⟩ := T.out
              have HP5 := Aside0.mk (HP.out.next hk hF hb4 hX ho hx)
              obtain ⟨v', hv', _, hR5⟩ := HP.out.got hk hb4 hx
              rw [← HXQ.out] at hv' hR5
              obtain rfl : Value.slice A8 xq.1.length c8 = v' := by have e := hv.symm.trans hv'; injection e with e; injection e with e; simpa using e
              have hC5 := (Kd.R_reads' hR5).2.2
              have X5 := (hx.block _ (chan_lt X4) (by intro e; rw [e] at X4; have := X4.symm.trans hx4.hx; injection this with this; injection this with _ h2; exact absurd h2 (by decide)) (by simp [Value.ownBlock])).trans X4
              obtain ⟨ad', Aq, cq, ea, m0, m1, m2, lq, gq⟩ := step_at (Kd.C_below HC.out HP5.out.below) q hql
              obtain rfl : ad = ad' := Option.some.inj ea
              have hsq : xq = l[q].2 := by rw [HXQ.out]; unfold sAt; rw [List.getD_eq_getElem?_getD, List.getElem?_eq_getElem hql]; rfl
              rw [← hsq] at m1 m2 lq gq
              have z0 : W5.cell? ⟨W3.heap.size, 0, none⟩ = some (.slice A8 xq.1.length c8) := (blk_cell X5 0).trans rfl
              have z1 : W5.cell? ⟨W3.heap.size, 1, none⟩ = some (.int .i64 xq.2) := (blk_cell X5 1).trans rfl
              have hl6 : xq.1.length ≤ 9223372036854775807 := hC5.2.1
              have IN := Aside0.mk (fun (W_ : World) (hm : ∃ m, W_ = W5.drewN m) => ladderbackref15_Ints.calls (xq.1.length + 1) A8 c8 xq.1 Aq cq xq.1 true W_ (by obtain ⟨m, rfl⟩ := hm; exact Kd.C_below hC5 (pw_below_drewN (Below.refl _ _) m)) l8 (by obtain ⟨m, rfl⟩ := hm; exact Kd.C_below gq (pw_below_drewN (Below.refl _ _) m)) lq (ints_self63 xq.1 hl6))
              have hq0 : (q : Int) ≥ 0 := by omega
              have hqL : (q : Int) < (l.length : Int) := by omega
              clear hF hk hb4 hx4 X4 hlw hv l8 hq2 hv' hR5 hC5 X5 m0 lq gq hsq hX ho hx T HP ea
              go_wp2_with fail
              go_quiet (first | (go_at_call 12; (with_reducible refine (IN.out _ ?hm).mono ?_); (case hm => first | exact ⟨_, rfl⟩ | exact ⟨0, rfl⟩); rintro e w' ⟨rfl, ⟨nd, rfl⟩⟩; (try first | exact ⟨rfl, _, World.drewN_drewN _ _ _⟩ | exact ⟨rfl, _, Eq.trans (World.drewN_drewN _ _ _) (congrArg (World.drewN _) (Nat.add_assoc _ _ _))⟩)))
              obtain ⟨W6, hW6⟩ : ∃ W, W = W5.drewN nq := ⟨_, rfl⟩
              have HP6 := Aside0.mk (HP5.out.step (show Below W5.heap.size W5 W6 from hW6 ▸ pw_below_drewN (Below.refl _ _) nq))
              rw [← hW6]
              clear hW6 z0 z1 HP5 m1 m2
              cases sh with
              | true =>
                have hbs := HP6.out.bs
                obtain ⟨AL, cL, eL, _, _⟩ := Kd.R_reads HP6.out.xf.r
                rw [HP6.out.qlen] at eL
                have q1 : W6.cell? ⟨xb, 1, none⟩ = some (.slice AL (Q).length cL) := ((blk_cell HP6.out.xf.hx 1).trans rfl).trans (congrArg some eL)
                have q2 : W6.cell? ⟨xb, 2, none⟩ = some (.bool true) := (blk_cell HP6.out.xf.hx 2).trans rfl
                have LE := Aside0.mk (fun (W_ : World) (hm : ∃ m, W_ = W6.drewN m) => len_q W_ g c (room n) _ true _ _ (Q).length hbs (fd_drewN HP6.out.fd hm))
                have OV := Aside0.mk (fun (W_ : World) (hm : ∃ m, W_ = W6.drewN m) => over_q W_ g c (room n) _ true _ _ (Q).length hbs (fd_drewN HP6.out.fd hm))
                clear hbs eL
                go_wp2_with fail; repeat (go_quiet (first | (go_at_call 14; (with_reducible refine (LE.out _ ?hm).mono ?_); (case hm => first | exact ⟨_, rfl⟩ | exact ⟨0, rfl⟩); rintro e w' ⟨rfl, ⟨nd, rfl⟩⟩; (try first | exact ⟨rfl, _, World.drewN_drewN _ _ _⟩ | exact ⟨rfl, _, Eq.trans (World.drewN_drewN _ _ _) (congrArg (World.drewN _) (Nat.add_assoc _ _ _))⟩)) | (go_at_call 15; (with_reducible refine (OV.out _ ?hm).mono ?_); (case hm => first | exact ⟨_, rfl⟩ | exact ⟨0, rfl⟩); rintro e w' ⟨rfl, ⟨nd, rfl⟩⟩; (try first | exact ⟨rfl, _, World.drewN_drewN _ _ _⟩ | exact ⟨rfl, _, Eq.trans (World.drewN_drewN _ _ _) (congrArg (World.drewN _) (Nat.add_assoc _ _ _))⟩))); try go_wp2_with fail)
                refine ⟨⟨i + 1, _, _, _, _, Q, true, by omega, by push_cast; rfl, ⟨HP6.out.step (pw_below_drewN (Below.refl _ _) _)⟩⟩, ?_⟩
                rw [show intOf (.int .i64 ((i : Int) + 1)) = (i : Int) + 1 from rfl, show intOf (.int .i64 (i : Int)) = (i : Int) from rfl]
                omega
              | false =>
                have hbs := HP6.out.bs
                obtain ⟨AL, cL, eL, _, _⟩ := Kd.R_reads HP6.out.xf.r
                rw [HP6.out.qlen] at eL
                have q1 : W6.cell? ⟨xb, 1, none⟩ = some (.slice AL (Q).length cL) := ((blk_cell HP6.out.xf.hx 1).trans rfl).trans (congrArg some eL)
                have q2 : W6.cell? ⟨xb, 2, none⟩ = some (.bool false) := (blk_cell HP6.out.xf.hx 2).trans rfl
                have LE := Aside0.mk (fun (W_ : World) (hm : ∃ m, W_ = W6.drewN m) => len_q W_ g c (room n) _ false _ _ (Q).length hbs (fd_drewN HP6.out.fd hm))
                have OV := Aside0.mk (fun (W_ : World) (hm : ∃ m, W_ = W6.drewN m) => over_q W_ g c (room n) _ false _ _ (Q).length hbs (fd_drewN HP6.out.fd hm))
                clear hbs eL
                go_wp2_with fail; repeat (go_quiet (first | (go_at_call 14; (with_reducible refine (LE.out _ ?hm).mono ?_); (case hm => first | exact ⟨_, rfl⟩ | exact ⟨0, rfl⟩); rintro e w' ⟨rfl, ⟨nd, rfl⟩⟩; (try first | exact ⟨rfl, _, World.drewN_drewN _ _ _⟩ | exact ⟨rfl, _, Eq.trans (World.drewN_drewN _ _ _) (congrArg (World.drewN _) (Nat.add_assoc _ _ _))⟩)) | (go_at_call 15; (with_reducible refine (OV.out _ ?hm).mono ?_); (case hm => first | exact ⟨_, rfl⟩ | exact ⟨0, rfl⟩); rintro e w' ⟨rfl, ⟨nd, rfl⟩⟩; (try first | exact ⟨rfl, _, World.drewN_drewN _ _ _⟩ | exact ⟨rfl, _, Eq.trans (World.drewN_drewN _ _ _) (congrArg (World.drewN _) (Nat.add_assoc _ _ _))⟩))); try go_wp2_with fail)
                refine ⟨⟨i + 1, _, _, _, _, Q, false, by omega, by push_cast; rfl, ⟨HP6.out.step (pw_below_drewN (Below.refl _ _) _)⟩⟩, ?_⟩
                rw [show intOf (.int .i64 ((i : Int) + 1)) = (i : Int) + 1 from rfl, show intOf (.int .i64 (i : Int)) = (i : Int) from rfl]
                omega
          · obtain ⟨W1x, hW1x⟩ : ∃ W, W = wr.setCell ⟨xb, 2, none⟩ (.bool true) := ⟨_, rfl⟩
            have HPX := Aside0.mk (HP.out.shutX)
            rw [← hW1x] at HPX ⊢
            clear hW1x HP q2 f2
            cases sh with
            | false =>
              refine (shut_w W1x g c (room n) buf s r HPX.out.fd).mono ?_
              rintro e W3 ⟨rfl, _, hW3⟩
              have HP4 := Aside0.mk (HPX.out.shutF)
              rw [← hW3] at HP4
              clear hW3 HPX
              have hbs := HP4.out.bs
              obtain ⟨AL, cL, eL, _, _⟩ := Kd.R_reads HP4.out.xf.r
              rw [HP4.out.qlen] at eL
              have q1 : W3.cell? ⟨xb, 1, none⟩ = some (.slice AL (Q).length cL) := ((blk_cell HP4.out.xf.hx 1).trans rfl).trans (congrArg some eL)
              have q2 : W3.cell? ⟨xb, 2, none⟩ = some (.bool true) := (blk_cell HP4.out.xf.hx 2).trans rfl
              have LE := Aside0.mk (fun (W_ : World) (hm : ∃ m, W_ = W3.drewN m) => len_q W_ g c (room n) _ true _ _ (Q).length hbs (fd_drewN HP4.out.fd hm))
              have OV := Aside0.mk (fun (W_ : World) (hm : ∃ m, W_ = W3.drewN m) => over_q W_ g c (room n) _ true _ _ (Q).length hbs (fd_drewN HP4.out.fd hm))
              clear hbs eL
              go_wp2_with fail; repeat (go_quiet (first | (go_at_call 14; (with_reducible refine (LE.out _ ?hm).mono ?_); (case hm => first | exact ⟨_, rfl⟩ | exact ⟨0, rfl⟩); rintro e w' ⟨rfl, ⟨nd, rfl⟩⟩; (try first | exact ⟨rfl, _, World.drewN_drewN _ _ _⟩ | exact ⟨rfl, _, Eq.trans (World.drewN_drewN _ _ _) (congrArg (World.drewN _) (Nat.add_assoc _ _ _))⟩)) | (go_at_call 15; (with_reducible refine (OV.out _ ?hm).mono ?_); (case hm => first | exact ⟨_, rfl⟩ | exact ⟨0, rfl⟩); rintro e w' ⟨rfl, ⟨nd, rfl⟩⟩; (try first | exact ⟨rfl, _, World.drewN_drewN _ _ _⟩ | exact ⟨rfl, _, Eq.trans (World.drewN_drewN _ _ _) (congrArg (World.drewN _) (Nat.add_assoc _ _ _))⟩))); try go_wp2_with fail)
              refine ⟨⟨i + 1, _, _, _, _, Q, true, by omega, by push_cast; rfl, ⟨HP4.out.step (pw_below_drewN (Below.refl _ _) _)⟩⟩, ?_⟩
              rw [show intOf (.int .i64 ((i : Int) + 1)) = (i : Int) + 1 from rfl, show intOf (.int .i64 (i : Int)) = (i : Int) from rfl]
              omega
            | true =>
              refine (shut_again W1x g c (room n) buf s r HPX.out.fd).mono ?_
              rintro e W3 ⟨rfl, rfl⟩
              have hbs := HPX.out.bs
              obtain ⟨AL, cL, eL, _, _⟩ := Kd.R_reads HPX.out.xf.r
              rw [HPX.out.qlen] at eL
              have q1 : W3.cell? ⟨xb, 1, none⟩ = some (.slice AL (Q).length cL) := ((blk_cell HPX.out.xf.hx 1).trans rfl).trans (congrArg some eL)
              have q2 : W3.cell? ⟨xb, 2, none⟩ = some (.bool true) := (blk_cell HPX.out.xf.hx 2).trans rfl
              have LE := Aside0.mk (fun (W_ : World) (hm : ∃ m, W_ = W3.drewN m) => len_q W_ g c (room n) _ true _ _ (Q).length hbs (fd_drewN HPX.out.fd hm))
              have OV := Aside0.mk (fun (W_ : World) (hm : ∃ m, W_ = W3.drewN m) => over_q W_ g c (room n) _ true _ _ (Q).length hbs (fd_drewN HPX.out.fd hm))
              clear hbs eL
              go_wp2_with fail; repeat (go_quiet (first | (go_at_call 14; (with_reducible refine (LE.out _ ?hm).mono ?_); (case hm => first | exact ⟨_, rfl⟩ | exact ⟨0, rfl⟩); rintro e w' ⟨rfl, ⟨nd, rfl⟩⟩; (try first | exact ⟨rfl, _, World.drewN_drewN _ _ _⟩ | exact ⟨rfl, _, Eq.trans (World.drewN_drewN _ _ _) (congrArg (World.drewN _) (Nat.add_assoc _ _ _))⟩)) | (go_at_call 15; (with_reducible refine (OV.out _ ?hm).mono ?_); (case hm => first | exact ⟨_, rfl⟩ | exact ⟨0, rfl⟩); rintro e w' ⟨rfl, ⟨nd, rfl⟩⟩; (try first | exact ⟨rfl, _, World.drewN_drewN _ _ _⟩ | exact ⟨rfl, _, Eq.trans (World.drewN_drewN _ _ _) (congrArg (World.drewN _) (Nat.add_assoc _ _ _))⟩))); try go_wp2_with fail)
              refine ⟨⟨i + 1, _, _, _, _, Q, true, by omega, by push_cast; rfl, ⟨HPX.out.step (pw_below_drewN (Below.refl _ _) _)⟩⟩, ?_⟩
              rw [show intOf (.int .i64 ((i : Int) + 1)) = (i : Int) + 1 from rfl, show intOf (.int .i64 (i : Int)) = (i : Int) from rfl]
              omega
end Go.Proofs.Ytkkjheickjogeaa.Fd
end

section
/- The walk of FeedPlays over what is read as data. -/
namespace Go.Proofs.Ytkkjheickjogeaa
open Go Go.RowKit Go.Proofs.Ytkkjheickjogeaa.Fd Go.Proofs.YtkkjheickjogeaaW.PrintWords
theorem rd_uint : Bridge.Rdga Try.prog 31 (Kd.int .u64) (fun x => (Lit.int .u64 x).wf = true) := Bridge.Rdg.int Try.underlying31 (by kernel_rfl)
theorem rd_step : Bridge.Rdga Try.prog 33 Fd.KStp (fun _ => True) := fun m => Bridge.Rdg.imp ((Bridge.Rdg.structa Try.underlying33 (by kernel_rfl) (fun m => Bridge.RdgF.cons rfl (rd_uint m) (Bridge.RdgF.one rfl (FdRow.rd_smp0 m)))) m) (fun _ _ => trivial)
theorem FeedPlays_walk (n : Int) (A : Option Addr) (c : Nat) (l : List Fd.Stp) (w : World) (_ : (Lit.int .i64 n).wf = true) (hC : Kd.C Fd.KStp w A l.length l) (hc : l.length ≤ c) (_ : ∀ a ∈ l, True) :
    Calls Try.prog 3 #[.int .i64 n, .slice A l.length c] w fun e w' => e = .returned (.bool true) ∧ Below w.heap.size w w' := FeedPlays_w n A c l w hC hc
theorem rd_steps : Bridge.Rdga Try.prog 22 (Kd.slice 33 Fd.KStp) (fun l => ∀ a ∈ l, True) := Bridge.Rdg.slicea Try.underlying22 (by kernel_rfl) rd_step
end Go.Proofs.Ytkkjheickjogeaa
end

section
/- The law FeedPlays holds for every input: the walk over its code shows that the call returns true and that what was read stays as it was; the row follows. -/
namespace Go.Proofs.Ytkkjheickjogeaa.feedPlaysRw
open Go.ChangeShapes Go.WideShapes Go.ChangeAt Go.RowKit
open Go.ChangeMaps (open_string shut_string)
open Go.Proofs.Ytkkjheickjogeaa.Bridge
set_option linter.unusedVariables false
set_option linter.unusedSimpArgs false
theorem own : ownKnob Try.prog.godebug = none := by kernel_rfl
theorem laidOut : laidOutB Try.prog = true := by kernel_rfl
set_option maxRecDepth 100000 in
theorem lifted (os : Os) (started : os.Started) (H : Type) (enc : TypeId × Value → H) :
    ReturnsInHanded {} Try.checked os 3 .any (Rows.feedPlaysSpec.pre6 enc Try.prog Try.f3 Rows.feedPlaysRow.domain false) (Rows.feedPlaysSpec.post enc Try.prog Try.f3 false true false false) := by
  refine returnsInHanded_of_change_sized (C := Try.checked) own started (by kernel_rfl) Try.func3
    (ChangeSpec.witness6 (enc := enc) (C := Try.checked) false ⟨#[], #[.int .i64 0, .slice none 0 0], []⟩ 8 (by kernel_rfl) (by kernel_rfl) (by kernel_rfl) (by kernel_rfl)) ?_
  intro W base args ds gs before hval0 hW hcnd hsz0 _
  have hval : ∀ (j : Nat) t v, Try.f3.params[j]? = some t → args[j]? = some v → Value.okWide Try.prog W .any base t v := hval0
  have hsz : (DataW.weightsEach Try.prog (Try.f3.params.toList ++ Rows.feedPlaysSpec.plain.varTypes Try.prog) (ds ++ gs)).all (· ≤ reachBytes) = true := hsz0
  clear hval0 hsz0 hcnd
  have hW' := hW
  obtain ⟨p, q, hA0, hV, rfl, hfz, hnd⟩ := hW
  have hA : DataW.TrodAll enc Try.prog W 0 (fun _ => true) true Try.f3.params.toList args.toList ds p := hA0
  rw [Try.params3] at hA hval hsz
  obtain ⟨v0, vs0, d0, ds0, p0, q0, hargs, rfl, rfl, h0, r0⟩ := trodAll_cons hA
  obtain ⟨v1, vs1, d1, ds1, p1, q1, rfl, rfl, rfl, h1, r1⟩ := trodAll_cons r0
  obtain ⟨rfl, rfl, rfl⟩ := trodAll_nil r1
  obtain rfl : args = #[v0, v1] := by cases args; simp_all
  obtain ⟨rfl, rfl⟩ := trodVars_none hV
  clear hA0
  have k0 := h0
  have lt0 : ∀ x ∈ p0, x.block < W.heap.size := by obtain ⟨m, hm⟩ := k0; exact DataW.trod_lt m _ _ _ hm
  obtain ⟨a0, rfl, _, _, w0⟩ := open_int Try.underlying3 (hval 0 3 v0 rfl rfl) h0
  have k1 := h1
  have lt1 : ∀ x ∈ p1, x.block < W.heap.size := by obtain ⟨m, hm⟩ := k1; exact DataW.trod_lt m _ _ _ hm
  obtain ⟨A1, len1, c1, rfl⟩ := okWide_slice Try.underlying22 (hval 1 22 v1 rfl rfl)
  obtain ⟨x1, hk1, wf1⟩ := Rdga.trod rd_steps h1
  obtain ⟨A1', c1', he1, hle1, hC1⟩ := hk1
  simp only [Value.cells, List.cons.injEq, Value.slice.injEq, and_true] at he1
  obtain ⟨rfl, rfl, rfl⟩ := he1
  refine (FeedPlays_walk a0 A1 c1 x1 W w0 hC1 hle1 wf1).mono fun e W' ⟨he, bel⟩ => ?_
  subst he
  exact ⟨_, rfl, _, _, _, [], _, [], hW', trodAll_mk1 (shut_bool Try.underlying4 _), (trodAll_cons_mk (Below.trod laidOut (by kernel_rfl) (of_decide_eq_true (by kernel_rfl)) k0 bel lt0) (trodAll_cons_mk (Below.trod laidOut (by kernel_rfl) (of_decide_eq_true (by kernel_rfl)) k1 bel lt1) trodAll_mk0)), rfl, bel.frame _, fun h => by cases h⟩
theorem over : Rows.feedPlaysRow.holds Try.pinned (OpenSpec.ofChange Rows.feedPlaysSpec) :=
  OpenClaim.holds_of_wide 3 Try.f3 rfl rfl rfl rfl rfl rfl rfl ⟨rfl, rfl, rfl, rfl, rfl⟩ rfl rfl rfl rfl rfl (by kernel_rfl) Try.func3 (by kernel_rfl)
    (of_decide_eq_true (by kernel_rfl)) (by unfold Func.isWrapper; first | (rw [if_pos (by decide +kernel)]; kernel_rfl) | (rw [if_neg (by decide +kernel)]; exact ⟨rfl, rfl⟩))
    (fun os started H enc _ => lifted os started H enc)
theorem proved : Rows.FeedPlaysSaid := over
end Go.Proofs.Ytkkjheickjogeaa.feedPlaysRw
namespace Go.Proofs.Ytkkjheickjogeaa
theorem feedPlays_holds : Rows.FeedPlaysSaid := feedPlaysRw.proved
#print axioms feedPlays_holds
end Go.Proofs.Ytkkjheickjogeaa
end
