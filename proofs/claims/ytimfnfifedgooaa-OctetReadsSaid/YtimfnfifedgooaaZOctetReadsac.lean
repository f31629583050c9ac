/- The law OctetReads holds for every input: the walk over its code shows that the call returns true and that what was read stays as it was; the row follows. -/
import Derived.Test.YtimfnfifedgooaaProg
import Derived.Test.YtimfnfifedgooaaRows
import Derived.WalkKit
import Derived.ProofKit
import Derived.OpenShut
import Derived.ShutString
import Derived.ChangeOld
import Derived.Below
import Derived.SizedLaws
import Derived.Test.YtimfnfifedgooaaZOctetReadsaa
import Derived.Test.YtimfnfifedgooaaZOctetReadsab
section
/- OctetReads, walked by hand. -/
namespace Go.Proofs.Ytimfnfifedgooaa.Given
open Go Go.RowKit Go.Proofs.YtimfnfifedgooaaW.PrintWords Go.Proofs.YtimfnfifedgooaaW.PrintLast Go.Proofs.YtimfnfifedgooaaW.PrintMore
set_option linter.unusedVariables false
set_option linter.unusedSimpArgs false
theorem blk_of_C {w : World} {A : Option Addr} {b : List Int} {g : Nat} {cs : Array Value} {t : TypeId} {fr : Nat × Nat} (h : Kd.C (Kd.int .u8) w A b.length b) (hb : w.heap[g]? = some (.cells cs t fr)) (hcs : ∀ n, (.int .u8 n : Value) ∉ cs.toList) : 0 < b.length → ∀ ad, A = some ad → ad.block ≠ g := fun hn ad e => by subst e; exact row_ne h hn hb hcs
/-- A row that is read, apart from these blocks. -/
def ReadsApart (gs : List Nat) (x : List Int) (W : World) (v : Value) : Prop := ∃ A c, v = .slice A x.length c ∧ Kd.C (Kd.int .u8) W A x.length x ∧ (0 < x.length → ∀ ad, A = some ad → ad.block ∉ gs)
theorem ReadsApart.mono (gs : List Nat) (x : List Int) : Reg.MonoL gs (ReadsApart gs x) := by
  rintro w1 w2 v hk ⟨A, c, e, hC, hn⟩
  exact ⟨A, c, e, C_same hC (fun h0 ad ea => hk.2 _ (C_lt (by rw [← ea]; exact hC) h0) (hn h0 ad ea)), hn⟩
theorem R_two {w W : World} {g gx : Nat} {b x : List Int} {at_ at2 : Int} {bad bad2 : Bool} {base : Nat} {v : Value} (h : TwoR w g gx b at_ bad at2 bad2 W) (hR : Kd.R (Kd.int .u8) 5 W base (fun _ => True) v x) : Kd.R (Kd.int .u8) 5 W base (fun k => (True ∧ k ≠ g) ∧ k ≠ gx) v x := by
  obtain ⟨_, _, _, _, ⟨a, c, h1, _⟩, ⟨a2, c2, h2, _⟩⟩ := h
  exact Kd.R_types (Kd.R_types hR h1 (by decide)) h2 (by decide)
theorem readsApart {w W : World} {g gx : Nat} {b x : List Int} {at_ at2 : Int} {bad bad2 : Bool} {A : Option Addr} {c : Nat} (h : TwoR w g gx b at_ bad at2 bad2 W) (hC : Kd.C (Kd.int .u8) W A x.length x) : ReadsApart [g, gx] x W (.slice A x.length c) := by
  obtain ⟨_, _, _, _, ⟨a, c1, h1, _⟩, ⟨a2, c2, h2, _⟩⟩ := h
  refine ⟨A, c, rfl, hC, fun hn ad e => ?_⟩
  have n1 := blk_of_C hC h1 (no_u8 _ _ _ (fun n e => by cases e)) hn ad e
  have n2 := blk_of_C hC h2 (no_u8 _ _ _ (fun n e => by cases e)) hn ad e
  simp [n1, n2]
-- U8 5 U_22 Try.underlying22 U_5 Try.underlying5 U_9 Try.underlying9 .
theorem tmp_drewN {w W W_ : World} {g gx : Nat} {b : List Int} {at_ at2 : Int} {bad bad2 : Bool} (h : TwoR w g gx b at_ bad at2 bad2 W) (hm : ∃ m, W_ = W.drewN m) : TwoR w g gx b at_ bad at2 bad2 W_ := by
  obtain ⟨m, rfl⟩ := hm
  exact h.drewN m
set_option maxHeartbeats 8000000 in
set_option maxRecDepth 100000 in
theorem OctetReads_w (A0 : Option Addr) (c0 : Nat) (B : List Int) (A : Option Addr) (ca : Nat) (l : List AskN) (wo : World) (hC0 : Kd.C (Kd.int .u8) wo A0 B.length B) (hc0 : B.length ≤ c0) (wf : ∀ a ∈ B, 0 ≤ a ∧ a < 256) (hC : Kd.C KAsk wo A l.length l) (hca : l.length ≤ ca) :
    Calls Try.prog 3 #[.slice A0 B.length c0, .slice A l.length ca] wo fun e wo' => e = .returned (.bool true) ∧ Below wo.heap.size wo wo' := by
  have HC := Aside0.mk hC
  have HC0 := Aside0.mk hC0
  have WF := Aside0.mk wf
  clear hC wf hC0
  by_cases hlen : B.length > 400 ∨ l.length > 50
  · by_cases h1 : (B.length : Int) > 400
    · clear hlen
      go_enter Try.func3, Try.ntmps3
      go_wp2_with fail
      all_goals first | (exfalso; omega) | skip
      all_goals (
        refine (awake03 wo).mono ?_
        rintro e w1 ⟨rfl, hb⟩
        go_wp2
        go_ret
        exact ⟨rfl, hb⟩)
    · have h2 : (l.length : Int) > 50 := by omega
      clear hlen
      go_enter Try.func3, Try.ntmps3
      go_wp2_with fail
      all_goals first | (exfalso; omega) | skip
      all_goals (
        refine (awake03 wo).mono ?_
        rintro e w1 ⟨rfl, hb⟩
        go_wp2
        go_ret
        exact ⟨rfl, hb⟩)
  · have h1 : ¬ B.length > 400 := by omega
    have h2 : ¬ l.length > 50 := by omega
    have OB : Aside0 (okB B = true) := ⟨by
      unfold okB
      simp only [Bool.and_eq_true, List.all_eq_true, decide_eq_true_eq]
      exact ⟨WF.out, by omega⟩⟩
    clear hlen
    go_enter Try.func3, Try.ntmps3
    go_wp2_with fail
    refine (new_calls A0 c0 B wo HC0.out hc0 (by omega)).mono ?_
    rintro e w2 ⟨w1, g, rfl, hI, hb1, hb2⟩
    have lg : wo.heap.size ≤ g := Nat.le_trans hb1.size (by obtain ⟨_, _, hg, _⟩ := hI; exact hg)
    have HI := Aside0.mk (And.intro lg (And.intro (RI.of hI hb2) (hb1.trans (hb2.mono hb1.size))))
    clear hI hb1 hb2 lg
    have h1 := Aside0.mk h1
    go_wp2_with (first
      | ((with_reducible refine gate_dst (N := 21) rfl ?_); refine Kd.R_lit (Kd.int .u8) _ 5 ?hg (N := 21) ?hd (xs := ([] : List Int)) (inner := []) (ok := fun _ => True) (okp := fun _ => True) ?hr ?hp (fun _ hk => hk) trivial (Below.refl _ _) (Nat.le_refl _) (by simp) ?_; (case hd => rfl); (case hg => rfl); (case hr => first | (go_simp; done) | (go_simp; rfl)); (case hp => exact (Reps.none _ _)); intro v4 w4 ho4 hb4 hg4 hn4; clear hg4 hn4; have HO4 := Aside0.mk ho4; have HB4 := Aside0.mk hb4; clear ho4 hb4)
      | ((with_reducible refine gate_builtin (b := .append) (xs := #[.tmp 21, .tmp 22]) rfl ?_); at_builtin; refine Kd.R_append_rows (Kd.int .u8) (w0 := w2) w2.heap.size rfl (.tmp 21) (.tmp 22) 22 5 (.int .u8 0) 1 rfl Try.underlying22 infoU8 rfl (by decide) (by omega) v4 [] B _ _ _ (fun _ => True) (fun _ => False) rfl rfl ?aO ?aR (fun _ _ h => h) (fun _ h => h.elim) ?aF ?aB ?aS ?aL ?_; (case aR => exact Kd.C_below (Kd.C_below HC0.out HI.out.2.2) HB4.out); (case aB => exact HB4.out); (case aF => exact (fun _ _ => trivial)); (case aO => exact HO4.out); (case aS => exact HB4.out.size); (case aL => have := h1.out; simp; omega); intro v5 w5 ho5 hb5 hg5 hat5; clear hg5 hat5; obtain ⟨A5, c5, rfl, hl5, hC5⟩ := Kd.R_reads ho5; rw [List.nil_append] at hl5 hC5; have HO5 := Aside0.mk (And.intro hl5 hC5); have HB5 := Aside0.mk hb5; clear ho5 hb5 hl5 hC5))
    have HP := Aside0.mk (show TwoR wo g w5.heap.size B 0 false 0 false (w5.alloc (Obj.cells #[.slice A5 B.length c5, .int .i64 0, .bool false] 29)) from
      ⟨(HI.out.2.2.trans (HB5.out.mono HI.out.2.2.size)).alloc (Nat.le_trans HI.out.2.2.size HB5.out.size) _, HI.out.1, Nat.le_trans HI.out.2.2.size HB5.out.size, by obtain ⟨_, _, hb, _⟩ := HI.out.2.1.below HB5.out; have := blk_lt hb; omega,
       (HI.out.2.1.below HB5.out).below ((Below.refl _ _).alloc (Nat.le_refl _) _), ⟨A5, c5, heap_alloc_new _ _, Kd.C_below HO5.out.2 ((Below.refl _ _).alloc (Nat.le_refl _) _), HO5.out.1, Int.le_refl _, Int.natCast_nonneg _, fun ad e hn => by subst e; exact C_lt HO5.out.2 hn⟩⟩)
    generalize w5.heap.size = gx at HP ⊢
    clear HI HO4 HB4 HO5 HB5
    go_loopw [7] (fun x wr => ∃ (ix : Nat) (at_ : Int) (bad : Bool), ix ≤ l.length ∧ x = .int .i64 (ix : Int) ∧ Aside0 (TwoR wo g gx B at_ bad at_ bad wr)) (fun x _ => l.length - (intOf x).toNat)
    case atStart => exact ⟨0, _, _, Nat.zero_le _, rfl, HP⟩
    case round =>
      clear HP
      obtain ⟨ix, at_, bad, hi, rfl, HP⟩ := hrel
      by_cases hil : ix < l.length
      rotate_left
      · go_wp2_with fail
        refine (bad_nil wr).mono ?_
        rintro e W1 ⟨rfl, rfl⟩
        go_wp2_with fail
        refine (num_nil W1).mono ?_
        rintro e W2 ⟨rfl, rfl⟩
        go_wp2_with fail
        refine (left_nil W2).mono ?_
        rintro e W3 ⟨rfl, rfl⟩
        go_wp2_with fail
        refine (at_nil W3).mono ?_
        rintro e W4 ⟨rfl, rfl⟩
        go_wp2_with fail
        refine (take_nil W4 1).mono ?_
        rintro e W5 ⟨rfl, rfl⟩
        go_wp2_with fail
        refine (text_nil W5).mono ?_
        rintro e W6 ⟨rfl, rfl⟩
        have hz0 : wrap64 ((strOfNums []).size : Int) = 0 := by rw [show (strOfNums []).size = 0 from rfl]; unfold wrap64; omega
        go_wp2_with fail
        all_goals first | (rename_i h_; exact absurd hz0 h_) | skip
        refine (awake03 W6).mono ?_
        rintro e W7 ⟨rfl, hb⟩
        have HB := Aside0.mk (HP.out.below hb).1
        clear hb
        go_wp2_with fail
        go_ret
        exact ⟨rfl, HB.out⟩
      · obtain ⟨ad, rfl, hK, hN⟩ := ask_at HC.out ix hil
        generalize hli : l[ix] = li at hK hN
        obtain ⟨kd, nn⟩ := li
        simp only at hK hN
        have HN := Aside0.mk hN
        have HK := Aside0.mk hK
        have hK := pw_cell_below HP.out.1 HK.out
        clear hN
        by_cases hk0 : kd = 0
        · subst hk0
          go_wp2_with fail
          have hMZ : ∀ c ∈ ([(13, fun W_ => TwoR wo g gx B (numR B at_ bad nn).2.1 (numR B at_ bad nn).2.2 (numR B at_ bad nn).2.1 (numR B at_ bad nn).2.2 W_), (6, fun W_ => TwoR wo g gx B (numR B at_ bad nn).2.1 (numR B at_ bad nn).2.2 at_ bad W_)] : List (Nat × (World → Prop))), Reg.MonoZ c.2 := Reg.monoZ_cons ((fun _ _ hb h => h.below hb)) (Reg.monoZ_cons ((fun _ _ hb h => h.below hb)) Reg.monoZ_nil)
          have hM0 : Reg.MonoZ (fun W_ => TwoR wo g gx B at_ bad at_ bad W_) := (fun _ _ hb h => h.below hb)
          refine Reg.region_z [some 44, some 45, some 46, some 47, some 48, some 49, some 50, some 51, some 52, some 53, some 54, some 55, some 56, some 57, some 58, some 8] [0, 0, 0, 6, 14, 30, 63, 0, 0, 0, 768, 1792, 3840, 8191, 16383, 32767] (true, [([], []), ([], []), ([], []), ([1, 2], [1, 2]), ([3], [3]), ([4], [4]), ([0, 5], [0, 5]), ([], []), ([], []), ([], []), ([8, 9], [8, 9]), ([10], [10]), ([11], [11]), ([7, 12, 6], [7, 12]), ([6, 13], [6, 13]), ([14, 13, 0, 1, 2, 3, 4, 5, 6, 7, 8, 9, 10, 11, 12, 13, 14], [14])]) (fun i => ([(fun _ v_ => v_ = (.pointer (some ⟨g, 0, none⟩))), (fun _ v_ => v_ = (.slice (some ad) l.length ca)), (fun _ v_ => v_ = (.int .i64 (ix : Int))), (fun _ v_ => v_ = (.pointer (some (ad.add (ix * 2))))), (fun _ v_ => v_ = (.pointer (some ⟨(ad.add (ix * 2)).block, (ad.add (ix * 2)).off + 1, none⟩))), (fun _ v_ => v_ = (.int .i64 nn)), (fun _ v_ => v_ = (.int .i64 (numR B at_ bad nn).1)), (fun _ v_ => v_ = (.pointer (some ⟨gx, 0, none⟩))), (fun _ v_ => v_ = (.slice (some ad) l.length ca)), (fun _ v_ => v_ = (.int .i64 (ix : Int))), (fun _ v_ => v_ = (.pointer (some (ad.add (ix * 2))))), (fun _ v_ => v_ = (.pointer (some ⟨(ad.add (ix * 2)).block, (ad.add (ix * 2)).off + 1, none⟩))), (fun _ v_ => v_ = (.int .i64 nn)), (fun _ v_ => v_ = (.int .i64 (numR B at_ bad nn).1)), (fun _ v_ => v_ = (.bool true)), (fun _ v_ => v_ = (.bool true))] : List (World → Value → Prop)).getD i (fun _ _ => False)) (Reg.Zc [(13, fun W_ => TwoR wo g gx B (numR B at_ bad nn).2.1 (numR B at_ bad nn).2.2 (numR B at_ bad nn).2.1 (numR B at_ bad nn).2.2 W_), (6, fun W_ => TwoR wo g gx B (numR B at_ bad nn).2.1 (numR B at_ bad nn).2.2 at_ bad W_)] (fun W_ => TwoR wo g gx B at_ bad at_ bad W_)) [g, gx] wo
              (by kernel_rfl) (by kernel_rfl) (by kernel_rfl) (by kernel_rfl) (by kernel_rfl) (by decide) (by rfl) (HP.out.1) (Reg.Zc.drew (fun m => HP.out.drewN m)) (Reg.monoL_getD ?_) [0, 1, 2, 3, 4, 5, 6, 7, 8, 9, 10, 11, 12, 13, 14, 15] (by kernel_rfl) ?_ ?_ ?_
          · exact Reg.monoL_cons (Reg.monoL_eq _) (Reg.monoL_cons (Reg.monoL_eq _) (Reg.monoL_cons (Reg.monoL_eq _) (Reg.monoL_cons (Reg.monoL_eq _) (Reg.monoL_cons (Reg.monoL_eq _) (Reg.monoL_cons (Reg.monoL_eq _) (Reg.monoL_cons (Reg.monoL_eq _) (Reg.monoL_cons (Reg.monoL_eq _) (Reg.monoL_cons (Reg.monoL_eq _) (Reg.monoL_cons (Reg.monoL_eq _) (Reg.monoL_cons (Reg.monoL_eq _) (Reg.monoL_cons (Reg.monoL_eq _) (Reg.monoL_cons (Reg.monoL_eq _) (Reg.monoL_cons (Reg.monoL_eq _) (Reg.monoL_cons (Reg.monoL_eq _) (Reg.monoL_cons (Reg.monoL_eq _) Reg.monoL_nil)))))))))))))))
          · skip
            refine Reg.zs_cons (Reg.ZStep.of_r hM0 hMZ (Reg.ne_chain (by rfl)) ?_) ?_
            · intro a w hb hs hel hon
              have e5 : a.tmps[5]? = some (.pointer (some ⟨g, 0, none⟩)) := (hel 5 (by decide)).trans rfl
              obtain ⟨_, g5⟩ := Array.getElem?_eq_some_iff.1 e5
              refine ⟨_, rfl, fun K hK => ?_⟩
              refine value_ (w1 := w) (v := .pointer (some ⟨g, 0, none⟩)) (by rfl) rfl ?_ (hK.out _ _ (Below.refl _ _) (rfl))
              · go_simp
                (try simp only [i64_w, g5])
                (try go_simp)
                try rfl
            refine Reg.zs_cons (Reg.ZStep.of_r hM0 hMZ (Reg.ne_chain (by rfl)) ?_) ?_
            · intro a w hb hs hel hon
              have e1 : a.tmps[1]? = some (.slice (some ad) l.length ca) := (hel 1 (by decide)).trans rfl
              obtain ⟨_, g1⟩ := Array.getElem?_eq_some_iff.1 e1
              refine ⟨_, rfl, fun K hK => ?_⟩
              refine value_ (w1 := w) (v := .slice (some ad) l.length ca) (by rfl) rfl ?_ (hK.out _ _ (Below.refl _ _) (rfl))
              · go_simp
                (try simp only [i64_w, g1])
                (try go_simp)
                try rfl
            refine Reg.zs_cons (Reg.ZStep.of_r hM0 hMZ (Reg.ne_chain (by rfl)) ?_) ?_
            · intro a w hb hs hel hon
              have e7 : a.tmps[7]? = some (.int .i64 (ix : Int)) := (hel 7 (by decide)).trans rfl
              obtain ⟨_, g7⟩ := Array.getElem?_eq_some_iff.1 e7
              refine ⟨_, rfl, fun K hK => ?_⟩
              refine value_ (w1 := w) (v := .int .i64 (ix : Int)) (by rfl) rfl ?_ (hK.out _ _ (Below.refl _ _) (rfl))
              · go_simp
                (try simp only [i64_w, g7])
                (try go_simp)
                try rfl
            refine Reg.zs_cons (Reg.ZStep.of_r hM0 hMZ (Reg.ne_chain (by rfl)) ?_) ?_
            · intro a w hb hs hel hon
              obtain ⟨_, e45, rfl⟩ := hon 1 45 (by kernel_rfl) rfl
              obtain ⟨_, e46, rfl⟩ := hon 2 46 (by kernel_rfl) rfl
              obtain ⟨_, g45⟩ := Array.getElem?_eq_some_iff.1 e45
              obtain ⟨_, g46⟩ := Array.getElem?_eq_some_iff.1 e46
              refine ⟨_, rfl, fun K hK => ?_⟩
              refine value_ (w1 := w) (v := .pointer (some (ad.add (ix * 2)))) (by rfl) rfl ?_ (hK.out _ _ (Below.refl _ _) (rfl))
              · go_simp
                (try simp only [i64_w, g45, g46])
                (try go_simp)
                try rfl
            refine Reg.zs_cons (Reg.ZStep.of_r hM0 hMZ (Reg.ne_chain (by rfl)) ?_) ?_
            · intro a w hb hs hel hon
              obtain ⟨_, e47, rfl⟩ := hon 3 47 (by kernel_rfl) rfl
              obtain ⟨_, g47⟩ := Array.getElem?_eq_some_iff.1 e47
              refine ⟨_, rfl, fun K hK => ?_⟩
              refine value_ (w1 := w) (v := .pointer (some ⟨(ad.add (ix * 2)).block, (ad.add (ix * 2)).off + 1, none⟩)) (by rfl) rfl ?_ (hK.out _ _ (Below.refl _ _) (rfl))
              · go_simp
                (try simp only [i64_w, g47])
                (try go_simp)
                try rfl
            refine Reg.zs_cons (Reg.ZStep.of_r hM0 hMZ (Reg.ne_chain (by rfl)) ?_) ?_
            · intro a w hb hs hel hon
              obtain ⟨_, e48, rfl⟩ := hon 4 48 (by kernel_rfl) rfl
              obtain ⟨_, g48⟩ := Array.getElem?_eq_some_iff.1 e48
              refine ⟨_, rfl, fun K hK => ?_⟩
              have hN_ := pw_cell_below hb HN.out
              refine value_ (w1 := w) (v := .int .i64 nn) (by rfl) rfl ?_ (hK.out _ _ (Below.refl _ _) (rfl))
              · go_simp
                (try simp only [i64_w, g48])
                (try go_simp)
                try rfl
            refine Reg.zs_cons ?_ ?_
            · intro b a w hb hz hs hel hi hup hoff hon
              have f13 := hoff 13 (by kernel_rfl)
              have hz1 := hz
              simp only [Reg.Zc, f13, hi, Bool.false_eq_true, if_false, if_true] at hz1
              obtain ⟨_, e44, rfl⟩ := hon 0 44 (by kernel_rfl) rfl
              obtain ⟨_, e49, rfl⟩ := hon 5 49 (by kernel_rfl) rfl
              refine ⟨_, rfl, fun K hK => ?_⟩
              refine goes_ Try.func6 (by kernel_rfl) rfl #[.pointer (some ⟨g, 0, none⟩), .int .i64 nn] (by rfl) rfl rfl (by first | (simp only [List.map_toArray, List.map_cons, List.map_nil, Act.eval, Array.getD_eq_getD_getElem?, Option.getD_some, e44, e49]; done) | (simp only [List.map_toArray, List.map_cons, List.map_nil, Act.eval, Array.getD_eq_getD_getElem?, Option.getD_some, e44, e49]; rfl) | rfl) ?_
              refine (num_i g w B at_ bad nn hz1.2.2.2.2.1 OB.out).mono ?_
              rintro e w2 ⟨rfl, hI2, hk2, hb2⟩
              exact ⟨_, rfl, hK.out _ _ (hb.trans (hb2.mono hz1.2.1)) (Reg.KeepL.of_keep hk2 (by simp)) (by simp only [Reg.Zc, up_self, up_ne (show 13 ≠ 6 by decide), f13, Bool.false_eq_true, if_false, if_true]; exact (hz1.one hI2 hk2 hb2)) rfl⟩
            refine Reg.zs_cons (Reg.ZStep.of_r hM0 hMZ (Reg.ne_chain (by rfl)) ?_) ?_
            · intro a w hb hs hel hon
              have e6 : a.tmps[6]? = some (.pointer (some ⟨gx, 0, none⟩)) := (hel 6 (by decide)).trans rfl
              obtain ⟨_, g6⟩ := Array.getElem?_eq_some_iff.1 e6
              refine ⟨_, rfl, fun K hK => ?_⟩
              refine value_ (w1 := w) (v := .pointer (some ⟨gx, 0, none⟩)) (by rfl) rfl ?_ (hK.out _ _ (Below.refl _ _) (rfl))
              · go_simp
                (try simp only [i64_w, g6])
                (try go_simp)
                try rfl
            refine Reg.zs_cons (Reg.ZStep.of_r hM0 hMZ (Reg.ne_chain (by rfl)) ?_) ?_
            · intro a w hb hs hel hon
              have e1 : a.tmps[1]? = some (.slice (some ad) l.length ca) := (hel 1 (by decide)).trans rfl
              obtain ⟨_, g1⟩ := Array.getElem?_eq_some_iff.1 e1
              refine ⟨_, rfl, fun K hK => ?_⟩
              refine value_ (w1 := w) (v := .slice (some ad) l.length ca) (by rfl) rfl ?_ (hK.out _ _ (Below.refl _ _) (rfl))
              · go_simp
                (try simp only [i64_w, g1])
                (try go_simp)
                try rfl
            refine Reg.zs_cons (Reg.ZStep.of_r hM0 hMZ (Reg.ne_chain (by rfl)) ?_) ?_
            · intro a w hb hs hel hon
              have e7 : a.tmps[7]? = some (.int .i64 (ix : Int)) := (hel 7 (by decide)).trans rfl
              obtain ⟨_, g7⟩ := Array.getElem?_eq_some_iff.1 e7
              refine ⟨_, rfl, fun K hK => ?_⟩
              refine value_ (w1 := w) (v := .int .i64 (ix : Int)) (by rfl) rfl ?_ (hK.out _ _ (Below.refl _ _) (rfl))
              · go_simp
                (try simp only [i64_w, g7])
                (try go_simp)
                try rfl
            refine Reg.zs_cons (Reg.ZStep.of_r hM0 hMZ (Reg.ne_chain (by rfl)) ?_) ?_
            · intro a w hb hs hel hon
              obtain ⟨_, e52, rfl⟩ := hon 8 52 (by kernel_rfl) rfl
              obtain ⟨_, e53, rfl⟩ := hon 9 53 (by kernel_rfl) rfl
              obtain ⟨_, g52⟩ := Array.getElem?_eq_some_iff.1 e52
              obtain ⟨_, g53⟩ := Array.getElem?_eq_some_iff.1 e53
              refine ⟨_, rfl, fun K hK => ?_⟩
              refine value_ (w1 := w) (v := .pointer (some (ad.add (ix * 2)))) (by rfl) rfl ?_ (hK.out _ _ (Below.refl _ _) (rfl))
              · go_simp
                (try simp only [i64_w, g52, g53])
                (try go_simp)
                try rfl
            refine Reg.zs_cons (Reg.ZStep.of_r hM0 hMZ (Reg.ne_chain (by rfl)) ?_) ?_
            · intro a w hb hs hel hon
              obtain ⟨_, e54, rfl⟩ := hon 10 54 (by kernel_rfl) rfl
              obtain ⟨_, g54⟩ := Array.getElem?_eq_some_iff.1 e54
              refine ⟨_, rfl, fun K hK => ?_⟩
              refine value_ (w1 := w) (v := .pointer (some ⟨(ad.add (ix * 2)).block, (ad.add (ix * 2)).off + 1, none⟩)) (by rfl) rfl ?_ (hK.out _ _ (Below.refl _ _) (rfl))
              · go_simp
                (try simp only [i64_w, g54])
                (try go_simp)
                try rfl
            refine Reg.zs_cons (Reg.ZStep.of_r hM0 hMZ (Reg.ne_chain (by rfl)) ?_) ?_
            · intro a w hb hs hel hon
              obtain ⟨_, e55, rfl⟩ := hon 11 55 (by kernel_rfl) rfl
              obtain ⟨_, g55⟩ := Array.getElem?_eq_some_iff.1 e55
              refine ⟨_, rfl, fun K hK => ?_⟩
              have hN_ := pw_cell_below hb HN.out
              refine value_ (w1 := w) (v := .int .i64 nn) (by rfl) rfl ?_ (hK.out _ _ (Below.refl _ _) (rfl))
              · go_simp
                (try simp only [i64_w, g55])
                (try go_simp)
                try rfl
            refine Reg.zs_cons ?_ ?_
            · intro b a w hb hz hs hel hi hup hoff hon
              have q6 := hup 6 (by kernel_rfl)
              have hz1 := hz
              simp only [Reg.Zc, hi, q6, Bool.false_eq_true, if_false, if_true] at hz1
              obtain ⟨_, e51, rfl⟩ := hon 7 51 (by kernel_rfl) rfl
              obtain ⟨_, e56, rfl⟩ := hon 12 56 (by kernel_rfl) rfl
              refine ⟨_, rfl, fun K hK => ?_⟩
              refine goes_ Try.func7 (by kernel_rfl) rfl #[.pointer (some ⟨gx, 0, none⟩), .int .i64 nn] (by rfl) rfl rfl (by first | (simp only [List.map_toArray, List.map_cons, List.map_nil, Act.eval, Array.getD_eq_getD_getElem?, Option.getD_some, e51, e56]; done) | (simp only [List.map_toArray, List.map_cons, List.map_nil, Act.eval, Array.getD_eq_getD_getElem?, Option.getD_some, e51, e56]; rfl) | rfl) ?_
              refine (rnum_j gx w B at_ bad nn hz1.2.2.2.2.2 OB.out).mono ?_
              rintro e w2 ⟨rfl, hI2, hk2, hb2⟩
              exact ⟨_, rfl, hK.out _ _ (hb.trans (hb2.mono hz1.2.2.1)) (Reg.KeepL.of_keep hk2 (by simp)) (by simp only [Reg.Zc, up_self, Bool.false_eq_true, if_false, if_true]; exact (hz1.two hI2 hk2 hb2)) rfl⟩
            refine Reg.zs_cons (Reg.ZStep.of_r hM0 hMZ (Reg.ne_chain (by rfl)) ?_) ?_
            · intro a w hb hs hel hon
              obtain ⟨_, e50, rfl⟩ := hon 6 50 (by kernel_rfl) rfl
              obtain ⟨_, e57, rfl⟩ := hon 13 57 (by kernel_rfl) rfl
              obtain ⟨_, g50⟩ := Array.getElem?_eq_some_iff.1 e50
              obtain ⟨_, g57⟩ := Array.getElem?_eq_some_iff.1 e57
              refine ⟨_, rfl, fun K hK => ?_⟩
              refine value_ (w1 := w) (v := .bool true) (by rfl) rfl ?_ (hK.out _ _ (Below.refl _ _) (rfl))
              · go_simp
                (try simp only [i64_w, g50, g57])
                (try go_simp)
                try rfl
            refine Reg.zs_cons (Reg.ZStep.of_r hM0 hMZ (Reg.ne_chain (by rfl)) ?_) ?_
            · intro a w hb hs hel hon
              obtain ⟨_, e58, rfl⟩ := hon 14 58 (by kernel_rfl) rfl
              obtain ⟨_, g58⟩ := Array.getElem?_eq_some_iff.1 e58
              refine ⟨_, rfl, fun K hK => ?_⟩
              refine value_ (w1 := w) (v := .bool true) (by rfl) rfl ?_ (hK.out _ _ (Below.refl _ _) (rfl))
              · go_simp
                (try simp only [i64_w, g58])
                (try go_simp)
                try rfl
            exact Reg.zs_nil
          · intro a w hI
            rename_i K_ hK_
            refine hK_ a w ?_
            have hz := hI.z
            simp only [Reg.Zc, if_true] at hz
            have HQ := Aside0.mk hz
            obtain ⟨_, e44, rfl⟩ := hI.vals 0 44 rfl rfl
            obtain ⟨_, e45, rfl⟩ := hI.vals 1 45 rfl rfl
            obtain ⟨_, e46, rfl⟩ := hI.vals 2 46 rfl rfl
            obtain ⟨_, e47, rfl⟩ := hI.vals 3 47 rfl rfl
            obtain ⟨_, e48, rfl⟩ := hI.vals 4 48 rfl rfl
            obtain ⟨_, e49, rfl⟩ := hI.vals 5 49 rfl rfl
            obtain ⟨_, e50, rfl⟩ := hI.vals 6 50 rfl rfl
            obtain ⟨_, e51, rfl⟩ := hI.vals 7 51 rfl rfl
            obtain ⟨_, e52, rfl⟩ := hI.vals 8 52 rfl rfl
            obtain ⟨_, e53, rfl⟩ := hI.vals 9 53 rfl rfl
            obtain ⟨_, e54, rfl⟩ := hI.vals 10 54 rfl rfl
            obtain ⟨_, e55, rfl⟩ := hI.vals 11 55 rfl rfl
            obtain ⟨_, e56, rfl⟩ := hI.vals 12 56 rfl rfl
            obtain ⟨_, e57, rfl⟩ := hI.vals 13 57 rfl rfl
            obtain ⟨_, e58, rfl⟩ := hI.vals 14 58 rfl rfl
            obtain ⟨_, e8, rfl⟩ := hI.vals 15 8 rfl rfl
            have g44 := Reg.getD_of e44
            have g45 := Reg.getD_of e45
            have g46 := Reg.getD_of e46
            have g47 := Reg.getD_of e47
            have g48 := Reg.getD_of e48
            have g49 := Reg.getD_of e49
            have g50 := Reg.getD_of e50
            have g51 := Reg.getD_of e51
            have g52 := Reg.getD_of e52
            have g53 := Reg.getD_of e53
            have g54 := Reg.getD_of e54
            have g55 := Reg.getD_of e55
            have g56 := Reg.getD_of e56
            have g57 := Reg.getD_of e57
            have g58 := Reg.getD_of e58
            have g8 := Reg.getD_of e8
            have hfr := Reg.RegI.frame (⟨hI.below, hI.defers, hI.size, hI.elder, hI.vals⟩ : Reg.RegI _ _ _ _ _ _ _)
            rw [hfr]
            simp only [Reg.puts, Act.put, List.setIfInBounds_toArray, List.set_cons_zero, List.set_cons_succ]
            rw [g44, g45, g46, g47, g48, g49, g50, g51, g52, g53, g54, g55, g56, g57, g58, g8]
            generalize a.tmps = ts_
            generalize hX : numR B at_ bad nn = X_ at HQ
            clear hI hfr hK_ hz HP hK HN HK hX e44 g44 e45 g45 e46 g46 e47 g47 e48 g48 e49 g49 e50 g50 e51 g51 e52 g52 e53 g53 e54 g54 e55 g55 e56 g56 e57 g57 e58 g58 e8 g8
            obtain ⟨u_, at2, bad2⟩ := X_
            simp only at HQ ⊢
            obtain ⟨q, hq⟩ : ∃ q : Int, (if bad2 then 0 else B.length - at2 : Int) = q := ⟨_, rfl⟩
            have q1 : w.cell? ⟨gx, 1, none⟩ = some (.int .i64 at2) := by obtain ⟨_, _, hb, _⟩ := HQ.out.2.2.2.2.2; exact (blk_cell hb 1).trans rfl
            have q2 : w.cell? ⟨gx, 2, none⟩ = some (.bool bad2) := by obtain ⟨_, _, hb, _⟩ := HQ.out.2.2.2.2.2; exact (blk_cell hb 2).trans rfl
            have LE := Aside0.mk (fun (W_ : World) (hm : ∃ m, W_ = w.drewN m) => left_i g W_ B at2 bad2 q hq (tmp_drewN HQ.out hm).2.2.2.2.1)
            have RL := Aside0.mk (fun (W_ : World) (hm : ∃ m, W_ = w.drewN m) => rleft_j gx W_ B at2 bad2 q hq (tmp_drewN HQ.out hm).2.2.2.2.2)
            have AT := Aside0.mk (fun (W_ : World) (hm : ∃ m, W_ = w.drewN m) => at_i g W_ B at2 bad2 (tmp_drewN HQ.out hm).2.2.2.2.1)
            have BA := Aside0.mk (fun (W_ : World) (hm : ∃ m, W_ = w.drewN m) => bad_i g W_ B at2 bad2 (tmp_drewN HQ.out hm).2.2.2.2.1)
            clear hq
            go_wp2_with fail; repeat (go_quiet (first | (go_at_call 12; (with_reducible refine (LE.out _ ?hm).mono ?_); (case hm => first | exact ⟨_, rfl⟩ | exact ⟨0, rfl⟩); rintro e w' ⟨rfl, ⟨nd, rfl⟩⟩; (try first | exact ⟨rfl, _, World.drewN_drewN _ _ _⟩ | exact ⟨rfl, _, Eq.trans (World.drewN_drewN _ _ _) (congrArg (World.drewN _) (Nat.add_assoc _ _ _))⟩)) | (go_at_call 13; (with_reducible refine (RL.out _ ?hm).mono ?_); (case hm => first | exact ⟨_, rfl⟩ | exact ⟨0, rfl⟩); rintro e w' ⟨rfl, ⟨nd, rfl⟩⟩; (try first | exact ⟨rfl, _, World.drewN_drewN _ _ _⟩ | exact ⟨rfl, _, Eq.trans (World.drewN_drewN _ _ _) (congrArg (World.drewN _) (Nat.add_assoc _ _ _))⟩)) | (go_at_call 14; (with_reducible refine (AT.out _ ?hm).mono ?_); (case hm => first | exact ⟨_, rfl⟩ | exact ⟨0, rfl⟩); rintro e w' ⟨rfl, ⟨nd, rfl⟩⟩; (try first | exact ⟨rfl, _, World.drewN_drewN _ _ _⟩ | exact ⟨rfl, _, Eq.trans (World.drewN_drewN _ _ _) (congrArg (World.drewN _) (Nat.add_assoc _ _ _))⟩)) | (go_at_call 15; (with_reducible refine (BA.out _ ?hm).mono ?_); (case hm => first | exact ⟨_, rfl⟩ | exact ⟨0, rfl⟩); rintro e w' ⟨rfl, ⟨nd, rfl⟩⟩; (try first | exact ⟨rfl, _, World.drewN_drewN _ _ _⟩ | exact ⟨rfl, _, Eq.trans (World.drewN_drewN _ _ _) (congrArg (World.drewN _) (Nat.add_assoc _ _ _))⟩))); try go_wp2_with fail)
            refine ⟨⟨ix + 1, at2, bad2, by omega, by push_cast; rfl, ⟨HQ.out.below (pw_below_drewN (Below.refl _ _) _)⟩⟩, ?_⟩
            rw [show intOf (.int .i64 ((ix : Int) + 1)) = (ix : Int) + 1 from rfl, show intOf (.int .i64 (ix : Int)) = (ix : Int) from rfl]
            omega
          · intro b w hall h
            have hc := hall 13 (by kernel_rfl)
            unfold Reg.Zc at h ⊢
            rw [if_pos hc] at h
            rw [if_pos rfl]
            exact h
        · by_cases hk1 : kd = 1
          · subst hk1
            go_wp2_with fail
            have hMZ : ∀ c ∈ ([(14, fun W_ => TwoR wo g gx B (takeR B at_ bad nn).2.1 (takeR B at_ bad nn).2.2 (takeR B at_ bad nn).2.1 (takeR B at_ bad nn).2.2 W_), (6, fun W_ => TwoR wo g gx B (takeR B at_ bad nn).2.1 (takeR B at_ bad nn).2.2 at_ bad W_)] : List (Nat × (World → Prop))), Reg.MonoZ c.2 := Reg.monoZ_cons ((fun _ _ hb h => h.below hb)) (Reg.monoZ_cons ((fun _ _ hb h => h.below hb)) Reg.monoZ_nil)
            have hM0 : Reg.MonoZ (fun W_ => TwoR wo g gx B at_ bad at_ bad W_) := (fun _ _ hb h => h.below hb)
            refine Reg.region_z [some 61, some 62, some 63, some 64, some 65, some 66, some 67, some 68, some 69, some 70, some 71, some 72, some 73, some 74, some 75, some 76, some 77, some 8] [0, 0, 0, 6, 14, 30, 63, 127, 0, 0, 0, 1536, 3584, 7680, 16255, 32639, 65535, 131071] (true, [([], []), ([], []), ([], []), ([1, 2], [1, 2]), ([3], [3]), ([4], [4]), ([0, 5], [0, 5]), ([6], [6]), ([], []), ([], []), ([], []), ([9, 10], [9, 10]), ([11], [11]), ([12], [12]), ([8, 13, 6], [8, 13]), ([14], [14]), ([7, 15], [7, 15]), ([16, 14, 0, 1, 2, 3, 4, 5, 6, 7, 8, 9, 10, 11, 12, 13, 14, 15, 16], [16])]) (fun i => ([(fun _ v_ => v_ = (.pointer (some ⟨g, 0, none⟩))), (fun _ v_ => v_ = (.slice (some ad) l.length ca)), (fun _ v_ => v_ = (.int .i64 (ix : Int))), (fun _ v_ => v_ = (.pointer (some (ad.add (ix * 2))))), (fun _ v_ => v_ = (.pointer (some ⟨(ad.add (ix * 2)).block, (ad.add (ix * 2)).off + 1, none⟩))), (fun _ v_ => v_ = (.int .i64 nn)), (fun w_ v_ => Kd.R (Kd.int .u8) 5 w_ wo.heap.size (fun k_ => (True ∧ k_ ≠ g) ∧ k_ ≠ gx) v_ (takeR B at_ bad nn).1), (fun _ v_ => v_ = (.string (strOfNums (takeR B at_ bad nn).1))), (fun _ v_ => v_ = (.pointer (some ⟨gx, 0, none⟩))), (fun _ v_ => v_ = (.slice (some ad) l.length ca)), (fun _ v_ => v_ = (.int .i64 (ix : Int))), (fun _ v_ => v_ = (.pointer (some (ad.add (ix * 2))))), (fun _ v_ => v_ = (.pointer (some ⟨(ad.add (ix * 2)).block, (ad.add (ix * 2)).off + 1, none⟩))), (fun _ v_ => v_ = (.int .i64 nn)), (fun w_ v_ => ReadsApart [g, gx] (takeR B at_ bad nn).1 w_ v_), (fun _ v_ => v_ = (.string (strOfNums (takeR B at_ bad nn).1))), (fun _ v_ => v_ = (.bool true)), (fun _ v_ => v_ = (.bool true))] : List (World → Value → Prop)).getD i (fun _ _ => False)) (Reg.Zc [(14, fun W_ => TwoR wo g gx B (takeR B at_ bad nn).2.1 (takeR B at_ bad nn).2.2 (takeR B at_ bad nn).2.1 (takeR B at_ bad nn).2.2 W_), (6, fun W_ => TwoR wo g gx B (takeR B at_ bad nn).2.1 (takeR B at_ bad nn).2.2 at_ bad W_)] (fun W_ => TwoR wo g gx B at_ bad at_ bad W_)) [g, gx] wo
                (by kernel_rfl) (by kernel_rfl) (by kernel_rfl) (by kernel_rfl) (by kernel_rfl) (by decide) (by rfl) (HP.out.1) (Reg.Zc.drew (fun m => HP.out.drewN m)) (Reg.monoL_getD ?_) [0, 1, 2, 3, 4, 5, 6, 7, 8, 9, 10, 11, 12, 13, 14, 15, 16, 17] (by kernel_rfl) ?_ ?_ ?_
            · exact Reg.monoL_cons (Reg.monoL_eq _) (Reg.monoL_cons (Reg.monoL_eq _) (Reg.monoL_cons (Reg.monoL_eq _) (Reg.monoL_cons (Reg.monoL_eq _) (Reg.monoL_cons (Reg.monoL_eq _) (Reg.monoL_cons (Reg.monoL_eq _) (Reg.monoL_cons (Reg.monoL_R _ _ _ _ _ (fun k h => by simpa using ⟨h.1.2, h.2⟩)) (Reg.monoL_cons (Reg.monoL_eq _) (Reg.monoL_cons (Reg.monoL_eq _) (Reg.monoL_cons (Reg.monoL_eq _) (Reg.monoL_cons (Reg.monoL_eq _) (Reg.monoL_cons (Reg.monoL_eq _) (Reg.monoL_cons (Reg.monoL_eq _) (Reg.monoL_cons (Reg.monoL_eq _) (Reg.monoL_cons (ReadsApart.mono _ _) (Reg.monoL_cons (Reg.monoL_eq _) (Reg.monoL_cons (Reg.monoL_eq _) (Reg.monoL_cons (Reg.monoL_eq _) Reg.monoL_nil)))))))))))))))))
            · skip
              refine Reg.zs_cons (Reg.ZStep.of_r hM0 hMZ (Reg.ne_chain (by rfl)) ?_) ?_
              · intro a w hb hs hel hon
                have e5 : a.tmps[5]? = some (.pointer (some ⟨g, 0, none⟩)) := (hel 5 (by decide)).trans rfl
                obtain ⟨_, g5⟩ := Array.getElem?_eq_some_iff.1 e5
                refine ⟨_, rfl, fun K hK => ?_⟩
                refine value_ (w1 := w) (v := .pointer (some ⟨g, 0, none⟩)) (by rfl) rfl ?_ (hK.out _ _ (Below.refl _ _) (rfl))
                · go_simp
                  (try simp only [i64_w, g5])
                  (try go_simp)
                  try rfl
              refine Reg.zs_cons (Reg.ZStep.of_r hM0 hMZ (Reg.ne_chain (by rfl)) ?_) ?_
              · intro a w hb hs hel hon
                have e1 : a.tmps[1]? = some (.slice (some ad) l.length ca) := (hel 1 (by decide)).trans rfl
                obtain ⟨_, g1⟩ := Array.getElem?_eq_some_iff.1 e1
                refine ⟨_, rfl, fun K hK => ?_⟩
                refine value_ (w1 := w) (v := .slice (some ad) l.length ca) (by rfl) rfl ?_ (hK.out _ _ (Below.refl _ _) (rfl))
                · go_simp
                  (try simp only [i64_w, g1])
                  (try go_simp)
                  try rfl
              refine Reg.zs_cons (Reg.ZStep.of_r hM0 hMZ (Reg.ne_chain (by rfl)) ?_) ?_
              · intro a w hb hs hel hon
                have e7 : a.tmps[7]? = some (.int .i64 (ix : Int)) := (hel 7 (by decide)).trans rfl
                obtain ⟨_, g7⟩ := Array.getElem?_eq_some_iff.1 e7
                refine ⟨_, rfl, fun K hK => ?_⟩
                refine value_ (w1 := w) (v := .int .i64 (ix : Int)) (by rfl) rfl ?_ (hK.out _ _ (Below.refl _ _) (rfl))
                · go_simp
                  (try simp only [i64_w, g7])
                  (try go_simp)
                  try rfl
              refine Reg.zs_cons (Reg.ZStep.of_r hM0 hMZ (Reg.ne_chain (by rfl)) ?_) ?_
              · intro a w hb hs hel hon
                obtain ⟨_, e62, rfl⟩ := hon 1 62 (by kernel_rfl) rfl
                obtain ⟨_, e63, rfl⟩ := hon 2 63 (by kernel_rfl) rfl
                obtain ⟨_, g62⟩ := Array.getElem?_eq_some_iff.1 e62
                obtain ⟨_, g63⟩ := Array.getElem?_eq_some_iff.1 e63
                refine ⟨_, rfl, fun K hK => ?_⟩
                refine value_ (w1 := w) (v := .pointer (some (ad.add (ix * 2)))) (by rfl) rfl ?_ (hK.out _ _ (Below.refl _ _) (rfl))
                · go_simp
                  (try simp only [i64_w, g62, g63])
                  (try go_simp)
                  try rfl
              refine Reg.zs_cons (Reg.ZStep.of_r hM0 hMZ (Reg.ne_chain (by rfl)) ?_) ?_
              · intro a w hb hs hel hon
                obtain ⟨_, e64, rfl⟩ := hon 3 64 (by kernel_rfl) rfl
                obtain ⟨_, g64⟩ := Array.getElem?_eq_some_iff.1 e64
                refine ⟨_, rfl, fun K hK => ?_⟩
                refine value_ (w1 := w) (v := .pointer (some ⟨(ad.add (ix * 2)).block, (ad.add (ix * 2)).off + 1, none⟩)) (by rfl) rfl ?_ (hK.out _ _ (Below.refl _ _) (rfl))
                · go_simp
                  (try simp only [i64_w, g64])
                  (try go_simp)
                  try rfl
              refine Reg.zs_cons (Reg.ZStep.of_r hM0 hMZ (Reg.ne_chain (by rfl)) ?_) ?_
              · intro a w hb hs hel hon
                obtain ⟨_, e65, rfl⟩ := hon 4 65 (by kernel_rfl) rfl
                obtain ⟨_, g65⟩ := Array.getElem?_eq_some_iff.1 e65
                refine ⟨_, rfl, fun K hK => ?_⟩
                have hN_ := pw_cell_below hb HN.out
                refine value_ (w1 := w) (v := .int .i64 nn) (by rfl) rfl ?_ (hK.out _ _ (Below.refl _ _) (rfl))
                · go_simp
                  (try simp only [i64_w, g65])
                  (try go_simp)
                  try rfl
              refine Reg.zs_cons ?_ ?_
              · intro b a w hb hz hs hel hi hup hoff hon
                have f14 := hoff 14 (by kernel_rfl)
                have hz1 := hz
                simp only [Reg.Zc, f14, hi, Bool.false_eq_true, if_false, if_true] at hz1
                obtain ⟨_, e61, rfl⟩ := hon 0 61 (by kernel_rfl) rfl
                obtain ⟨_, e66, rfl⟩ := hon 5 66 (by kernel_rfl) rfl
                refine ⟨_, rfl, fun K hK => ?_⟩
                refine goes_ Try.func8 (by kernel_rfl) rfl #[.pointer (some ⟨g, 0, none⟩), .int .i64 nn] (by rfl) rfl rfl (by first | (simp only [List.map_toArray, List.map_cons, List.map_nil, Act.eval, Array.getD_eq_getD_getElem?, Option.getD_some, e61, e66]; done) | (simp only [List.map_toArray, List.map_cons, List.map_nil, Act.eval, Array.getD_eq_getD_getElem?, Option.getD_some, e61, e66]; rfl) | rfl) ?_
                refine (take_i g w B at_ bad nn hz1.2.2.2.2.1 OB.out).mono ?_
                rintro e w2 ⟨v, rfl, ho, hI2, hk2, hb2⟩
                have hzz := hz1.one hI2 hk2 hb2
                have hrr := R_two hzz (Kd.R_lower ho hb.size)
                exact ⟨_, rfl, hK.out _ _ (hb.trans (hb2.mono hz1.2.1)) (Reg.KeepL.of_keep hk2 (by simp)) (by simp only [Reg.Zc, up_self, up_ne (show 14 ≠ 6 by decide), f14, Bool.false_eq_true, if_false, if_true]; exact hzz) hrr⟩
              refine Reg.zs_cons (Reg.ZStep.of_r hM0 hMZ (Reg.ne_chain (by rfl)) ?_) ?_
              · intro a w hb hs hel hon
                obtain ⟨x67, e67, hR_6⟩ := hon 6 67 (by kernel_rfl) rfl
                obtain ⟨_, g67⟩ := Array.getElem?_eq_some_iff.1 e67
                refine ⟨_, rfl, fun K hK => ?_⟩
                have hs := own_string (P := Try.prog) Try.underlying22 Try.underlying5 Try.underlying9 (Kd.own_of_R hR_6)
                refine value_ (w1 := w) (v := .string (strOfNums (takeR B at_ bad nn).1)) (by rfl) rfl ?_ (hK.out _ _ (Below.refl _ _) (rfl))
                · go_simp
                  (try simp only [i64_w, g67])
                  (try go_simp)
                  try rfl
              refine Reg.zs_cons (Reg.ZStep.of_r hM0 hMZ (Reg.ne_chain (by rfl)) ?_) ?_
              · intro a w hb hs hel hon
                have e6 : a.tmps[6]? = some (.pointer (some ⟨gx, 0, none⟩)) := (hel 6 (by decide)).trans rfl
                obtain ⟨_, g6⟩ := Array.getElem?_eq_some_iff.1 e6
                refine ⟨_, rfl, fun K hK => ?_⟩
                refine value_ (w1 := w) (v := .pointer (some ⟨gx, 0, none⟩)) (by rfl) rfl ?_ (hK.out _ _ (Below.refl _ _) (rfl))
                · go_simp
                  (try simp only [i64_w, g6])
                  (try go_simp)
                  try rfl
              refine Reg.zs_cons (Reg.ZStep.of_r hM0 hMZ (Reg.ne_chain (by rfl)) ?_) ?_
              · intro a w hb hs hel hon
                have e1 : a.tmps[1]? = some (.slice (some ad) l.length ca) := (hel 1 (by decide)).trans rfl
                obtain ⟨_, g1⟩ := Array.getElem?_eq_some_iff.1 e1
                refine ⟨_, rfl, fun K hK => ?_⟩
                refine value_ (w1 := w) (v := .slice (some ad) l.length ca) (by rfl) rfl ?_ (hK.out _ _ (Below.refl _ _) (rfl))
                · go_simp
                  (try simp only [i64_w, g1])
                  (try go_simp)
                  try rfl
              refine Reg.zs_cons (Reg.ZStep.of_r hM0 hMZ (Reg.ne_chain (by rfl)) ?_) ?_
              · intro a w hb hs hel hon
                have e7 : a.tmps[7]? = some (.int .i64 (ix : Int)) := (hel 7 (by decide)).trans rfl
                obtain ⟨_, g7⟩ := Array.getElem?_eq_some_iff.1 e7
                refine ⟨_, rfl, fun K hK => ?_⟩
                refine value_ (w1 := w) (v := .int .i64 (ix : Int)) (by rfl) rfl ?_ (hK.out _ _ (Below.refl _ _) (rfl))
                · go_simp
                  (try simp only [i64_w, g7])
                  (try go_simp)
                  try rfl
              refine Reg.zs_cons (Reg.ZStep.of_r hM0 hMZ (Reg.ne_chain (by rfl)) ?_) ?_
              · intro a w hb hs hel hon
                obtain ⟨_, e70, rfl⟩ := hon 9 70 (by kernel_rfl) rfl
                obtain ⟨_, e71, rfl⟩ := hon 10 71 (by kernel_rfl) rfl
                obtain ⟨_, g70⟩ := Array.getElem?_eq_some_iff.1 e70
                obtain ⟨_, g71⟩ := Array.getElem?_eq_some_iff.1 e71
                refine ⟨_, rfl, fun K hK => ?_⟩
                refine value_ (w1 := w) (v := .pointer (some (ad.add (ix * 2)))) (by rfl) rfl ?_ (hK.out _ _ (Below.refl _ _) (rfl))
                · go_simp
                  (try simp only [i64_w, g70, g71])
                  (try go_simp)
                  try rfl
              refine Reg.zs_cons (Reg.ZStep.of_r hM0 hMZ (Reg.ne_chain (by rfl)) ?_) ?_
              · intro a w hb hs hel hon
                obtain ⟨_, e72, rfl⟩ := hon 11 72 (by kernel_rfl) rfl
                obtain ⟨_, g72⟩ := Array.getElem?_eq_some_iff.1 e72
                refine ⟨_, rfl, fun K hK => ?_⟩
                refine value_ (w1 := w) (v := .pointer (some ⟨(ad.add (ix * 2)).block, (ad.add (ix * 2)).off + 1, none⟩)) (by rfl) rfl ?_ (hK.out _ _ (Below.refl _ _) (rfl))
                · go_simp
                  (try simp only [i64_w, g72])
                  (try go_simp)
                  try rfl
              refine Reg.zs_cons (Reg.ZStep.of_r hM0 hMZ (Reg.ne_chain (by rfl)) ?_) ?_
              · intro a w hb hs hel hon
                obtain ⟨_, e73, rfl⟩ := hon 12 73 (by kernel_rfl) rfl
                obtain ⟨_, g73⟩ := Array.getElem?_eq_some_iff.1 e73
                refine ⟨_, rfl, fun K hK => ?_⟩
                have hN_ := pw_cell_below hb HN.out
                refine value_ (w1 := w) (v := .int .i64 nn) (by rfl) rfl ?_ (hK.out _ _ (Below.refl _ _) (rfl))
                · go_simp
                  (try simp only [i64_w, g73])
                  (try go_simp)
                  try rfl
              refine Reg.zs_cons ?_ ?_
              · intro b a w hb hz hs hel hi hup hoff hon
                have q6 := hup 6 (by kernel_rfl)
                have hz1 := hz
                simp only [Reg.Zc, hi, q6, Bool.false_eq_true, if_false, if_true] at hz1
                obtain ⟨_, e69, rfl⟩ := hon 8 69 (by kernel_rfl) rfl
                obtain ⟨_, e74, rfl⟩ := hon 13 74 (by kernel_rfl) rfl
                refine ⟨_, rfl, fun K hK => ?_⟩
                refine goes_ Try.func9 (by kernel_rfl) rfl #[.pointer (some ⟨gx, 0, none⟩), .int .i64 nn] (by rfl) rfl rfl (by first | (simp only [List.map_toArray, List.map_cons, List.map_nil, Act.eval, Array.getD_eq_getD_getElem?, Option.getD_some, e69, e74]; done) | (simp only [List.map_toArray, List.map_cons, List.map_nil, Act.eval, Array.getD_eq_getD_getElem?, Option.getD_some, e69, e74]; rfl) | rfl) ?_
                refine (rtake_j gx w B at_ bad nn hz1.2.2.2.2.2 OB.out).mono ?_
                rintro e w2 ⟨A_, c_, rfl, hC_, hc_, hI2, hk2, hb2⟩
                have hzz := hz1.two hI2 hk2 hb2
                exact ⟨_, rfl, hK.out _ _ (hb.trans (hb2.mono hz1.2.2.1)) (Reg.KeepL.of_keep hk2 (by simp)) (by simp only [Reg.Zc, up_self, Bool.false_eq_true, if_false, if_true]; exact hzz) (readsApart hzz hC_)⟩
              refine Reg.zs_cons (Reg.ZStep.of_r hM0 hMZ (Reg.ne_chain (by rfl)) ?_) ?_
              · intro a w hb hs hel hon
                obtain ⟨x75, e75, ⟨A_, c_, rfl, hC_, hn_⟩⟩ := hon 14 75 (by kernel_rfl) rfl
                obtain ⟨_, g75⟩ := Array.getElem?_eq_some_iff.1 e75
                refine ⟨_, rfl, fun K hK => ?_⟩
                have hs := Kd.C_string (c := c_) (P := Try.prog) Try.underlying22 Try.underlying5 Try.underlying9 hC_
                refine value_ (w1 := w) (v := .string (strOfNums (takeR B at_ bad nn).1)) (by rfl) rfl ?_ (hK.out _ _ (Below.refl _ _) (rfl))
                · go_simp
                  (try simp only [i64_w, g75])
                  (try go_simp)
                  try rfl
              refine Reg.zs_cons (Reg.ZStep.of_r hM0 hMZ (Reg.ne_chain (by rfl)) ?_) ?_
              · intro a w hb hs hel hon
                obtain ⟨_, e68, rfl⟩ := hon 7 68 (by kernel_rfl) rfl
                obtain ⟨_, e76, rfl⟩ := hon 15 76 (by kernel_rfl) rfl
                obtain ⟨_, g68⟩ := Array.getElem?_eq_some_iff.1 e68
                obtain ⟨_, g76⟩ := Array.getElem?_eq_some_iff.1 e76
                refine ⟨_, rfl, fun K hK => ?_⟩
                refine value_ (w1 := w) (v := .bool true) (by rfl) rfl ?_ (hK.out _ _ (Below.refl _ _) (rfl))
                · go_simp
                  (try simp only [i64_w, g68, g76])
                  (try go_simp)
                  try rfl
              refine Reg.zs_cons (Reg.ZStep.of_r hM0 hMZ (Reg.ne_chain (by rfl)) ?_) ?_
              · intro a w hb hs hel hon
                obtain ⟨_, e77, rfl⟩ := hon 16 77 (by kernel_rfl) rfl
                obtain ⟨_, g77⟩ := Array.getElem?_eq_some_iff.1 e77
                refine ⟨_, rfl, fun K hK => ?_⟩
                refine value_ (w1 := w) (v := .bool true) (by rfl) rfl ?_ (hK.out _ _ (Below.refl _ _) (rfl))
                · go_simp
                  (try simp only [i64_w, g77])
                  (try go_simp)
                  try rfl
              exact Reg.zs_nil
            · intro a w hI
              rename_i K_ hK_
              refine hK_ a w ?_
              have hz := hI.z
              simp only [Reg.Zc, if_true] at hz
              have HQ := Aside0.mk hz
              obtain ⟨_, e61, rfl⟩ := hI.vals 0 61 rfl rfl
              obtain ⟨_, e62, rfl⟩ := hI.vals 1 62 rfl rfl
              obtain ⟨_, e63, rfl⟩ := hI.vals 2 63 rfl rfl
              obtain ⟨_, e64, rfl⟩ := hI.vals 3 64 rfl rfl
              obtain ⟨_, e65, rfl⟩ := hI.vals 4 65 rfl rfl
              obtain ⟨_, e66, rfl⟩ := hI.vals 5 66 rfl rfl
              obtain ⟨v67_, e67, hv67_⟩ := hI.vals 6 67 rfl rfl
              obtain ⟨_, e68, rfl⟩ := hI.vals 7 68 rfl rfl
              obtain ⟨_, e69, rfl⟩ := hI.vals 8 69 rfl rfl
              obtain ⟨_, e70, rfl⟩ := hI.vals 9 70 rfl rfl
              obtain ⟨_, e71, rfl⟩ := hI.vals 10 71 rfl rfl
              obtain ⟨_, e72, rfl⟩ := hI.vals 11 72 rfl rfl
              obtain ⟨_, e73, rfl⟩ := hI.vals 12 73 rfl rfl
              obtain ⟨_, e74, rfl⟩ := hI.vals 13 74 rfl rfl
              obtain ⟨v75_, e75, ⟨A_, c_, rfl, hC_, hn_⟩⟩ := hI.vals 14 75 rfl rfl
              obtain ⟨_, e76, rfl⟩ := hI.vals 15 76 rfl rfl
              obtain ⟨_, e77, rfl⟩ := hI.vals 16 77 rfl rfl
              obtain ⟨_, e8, rfl⟩ := hI.vals 17 8 rfl rfl
              have g61 := Reg.getD_of e61
              have g62 := Reg.getD_of e62
              have g63 := Reg.getD_of e63
              have g64 := Reg.getD_of e64
              have g65 := Reg.getD_of e65
              have g66 := Reg.getD_of e66
              have g67 := Reg.getD_of e67
              have g68 := Reg.getD_of e68
              have g69 := Reg.getD_of e69
              have g70 := Reg.getD_of e70
              have g71 := Reg.getD_of e71
              have g72 := Reg.getD_of e72
              have g73 := Reg.getD_of e73
              have g74 := Reg.getD_of e74
              have g75 := Reg.getD_of e75
              have g76 := Reg.getD_of e76
              have g77 := Reg.getD_of e77
              have g8 := Reg.getD_of e8
              have hfr := Reg.RegI.frame (⟨hI.below, hI.defers, hI.size, hI.elder, hI.vals⟩ : Reg.RegI _ _ _ _ _ _ _)
              rw [hfr]
              simp only [Reg.puts, Act.put, List.setIfInBounds_toArray, List.set_cons_zero, List.set_cons_succ]
              rw [g61, g62, g63, g64, g65, g66, g67, g68, g69, g70, g71, g72, g73, g74, g75, g76, g77, g8]
              generalize a.tmps = ts_
              generalize hX : (takeR B at_ bad nn) = X_ at HQ
              clear hI hfr hK_ hz HP hK HN HK hX e61 g61 e62 g62 e63 g63 e64 g64 e65 g65 e66 g66 e67 g67 e68 g68 e69 g69 e70 g70 e71 g71 e72 g72 e73 g73 e74 g74 e75 g75 e76 g76 e77 g77 e8 g8
              obtain ⟨u_, at2, bad2⟩ := X_
              simp only at HQ ⊢
              obtain ⟨q, hq⟩ : ∃ q : Int, (if bad2 then 0 else B.length - at2 : Int) = q := ⟨_, rfl⟩
              have q1 : w.cell? ⟨gx, 1, none⟩ = some (.int .i64 at2) := by obtain ⟨_, _, hb, _⟩ := HQ.out.2.2.2.2.2; exact (blk_cell hb 1).trans rfl
              have q2 : w.cell? ⟨gx, 2, none⟩ = some (.bool bad2) := by obtain ⟨_, _, hb, _⟩ := HQ.out.2.2.2.2.2; exact (blk_cell hb 2).trans rfl
              have LE := Aside0.mk (fun (W_ : World) (hm : ∃ m, W_ = w.drewN m) => left_i g W_ B at2 bad2 q hq (tmp_drewN HQ.out hm).2.2.2.2.1)
              have RL := Aside0.mk (fun (W_ : World) (hm : ∃ m, W_ = w.drewN m) => rleft_j gx W_ B at2 bad2 q hq (tmp_drewN HQ.out hm).2.2.2.2.2)
              have AT := Aside0.mk (fun (W_ : World) (hm : ∃ m, W_ = w.drewN m) => at_i g W_ B at2 bad2 (tmp_drewN HQ.out hm).2.2.2.2.1)
              have BA := Aside0.mk (fun (W_ : World) (hm : ∃ m, W_ = w.drewN m) => bad_i g W_ B at2 bad2 (tmp_drewN HQ.out hm).2.2.2.2.1)
              clear hq
              go_wp2_with fail; repeat (go_quiet (first | (go_at_call 12; (with_reducible refine (LE.out _ ?hm).mono ?_); (case hm => first | exact ⟨_, rfl⟩ | exact ⟨0, rfl⟩); rintro e w' ⟨rfl, ⟨nd, rfl⟩⟩; (try first | exact ⟨rfl, _, World.drewN_drewN _ _ _⟩ | exact ⟨rfl, _, Eq.trans (World.drewN_drewN _ _ _) (congrArg (World.drewN _) (Nat.add_assoc _ _ _))⟩)) | (go_at_call 13; (with_reducible refine (RL.out _ ?hm).mono ?_); (case hm => first | exact ⟨_, rfl⟩ | exact ⟨0, rfl⟩); rintro e w' ⟨rfl, ⟨nd, rfl⟩⟩; (try first | exact ⟨rfl, _, World.drewN_drewN _ _ _⟩ | exact ⟨rfl, _, Eq.trans (World.drewN_drewN _ _ _) (congrArg (World.drewN _) (Nat.add_assoc _ _ _))⟩)) | (go_at_call 14; (with_reducible refine (AT.out _ ?hm).mono ?_); (case hm => first | exact ⟨_, rfl⟩ | exact ⟨0, rfl⟩); rintro e w' ⟨rfl, ⟨nd, rfl⟩⟩; (try first | exact ⟨rfl, _, World.drewN_drewN _ _ _⟩ | exact ⟨rfl, _, Eq.trans (World.drewN_drewN _ _ _) (congrArg (World.drewN _) (Nat.add_assoc _ _ _))⟩)) | (go_at_call 15; (with_reducible refine (BA.out _ ?hm).mono ?_); (case hm => first | exact ⟨_, rfl⟩ | exact ⟨0, rfl⟩); rintro e w' ⟨rfl, ⟨nd, rfl⟩⟩; (try first | exact ⟨rfl, _, World.drewN_drewN _ _ _⟩ | exact ⟨rfl, _, Eq.trans (World.drewN_drewN _ _ _) (congrArg (World.drewN _) (Nat.add_assoc _ _ _))⟩))); try go_wp2_with fail)
              refine ⟨⟨ix + 1, at2, bad2, by omega, by push_cast; rfl, ⟨HQ.out.below (pw_below_drewN (Below.refl _ _) _)⟩⟩, ?_⟩
              rw [show intOf (.int .i64 ((ix : Int) + 1)) = (ix : Int) + 1 from rfl, show intOf (.int .i64 (ix : Int)) = (ix : Int) from rfl]
              omega
            · intro b w hall h
              have hc := hall 14 (by kernel_rfl)
              unfold Reg.Zc at h ⊢
              rw [if_pos hc] at h
              rw [if_pos rfl]
              exact h
          · go_wp2_with fail
            refine (text_i g wr B at_ bad HP.out.2.2.2.2.1 OB.out).mono ?_
            rintro e W2 ⟨rfl, hI2, hk2, hb2⟩
            have H2 := Aside0.mk (HP.out.one hI2 hk2 hb2)
            clear hI2 hk2 hb2
            go_wp2_with fail
            refine (rtext_j gx W2 B at_ bad H2.out.2.2.2.2.2 OB.out).mono ?_
            rintro e w ⟨rfl, hI2, hk2, hb2⟩
            have HQ := Aside0.mk (H2.out.two hI2 hk2 hb2)
            clear hI2 hk2 hb2 H2 HP hK HN HK
            generalize textR B at_ bad = X_ at HQ ⊢
            obtain ⟨u_, at2, bad2⟩ := X_
            simp only at HQ ⊢
            obtain ⟨q, hq⟩ : ∃ q : Int, (if bad2 then 0 else B.length - at2 : Int) = q := ⟨_, rfl⟩
            have q1 : w.cell? ⟨gx, 1, none⟩ = some (.int .i64 at2) := by obtain ⟨_, _, hb, _⟩ := HQ.out.2.2.2.2.2; exact (blk_cell hb 1).trans rfl
            have q2 : w.cell? ⟨gx, 2, none⟩ = some (.bool bad2) := by obtain ⟨_, _, hb, _⟩ := HQ.out.2.2.2.2.2; exact (blk_cell hb 2).trans rfl
            have LE := Aside0.mk (fun (W_ : World) (hm : ∃ m, W_ = w.drewN m) => left_i g W_ B at2 bad2 q hq (tmp_drewN HQ.out hm).2.2.2.2.1)
            have RL := Aside0.mk (fun (W_ : World) (hm : ∃ m, W_ = w.drewN m) => rleft_j gx W_ B at2 bad2 q hq (tmp_drewN HQ.out hm).2.2.2.2.2)
            have AT := Aside0.mk (fun (W_ : World) (hm : ∃ m, W_ = w.drewN m) => at_i g W_ B at2 bad2 (tmp_drewN HQ.out hm).2.2.2.2.1)
            have BA := Aside0.mk (fun (W_ : World) (hm : ∃ m, W_ = w.drewN m) => bad_i g W_ B at2 bad2 (tmp_drewN HQ.out hm).2.2.2.2.1)
            clear hq
            go_wp2_with fail; repeat (go_quiet (first | (go_at_call 12; (with_reducible refine (LE.out _ ?hm).mono ?_); (case hm => first | exact ⟨_, rfl⟩ | exact ⟨0, rfl⟩); rintro e w' ⟨rfl, ⟨nd, rfl⟩⟩; (try first | exact ⟨rfl, _, World.drewN_drewN _ _ _⟩ | exact ⟨rfl, _, Eq.trans (World.drewN_drewN _ _ _) (congrArg (World.drewN _) (Nat.add_assoc _ _ _))⟩)) | (go_at_call 13; (with_reducible refine (RL.out _ ?hm).mono ?_); (case hm => first | exact ⟨_, rfl⟩ | exact ⟨0, rfl⟩); rintro e w' ⟨rfl, ⟨nd, rfl⟩⟩; (try first | exact ⟨rfl, _, World.drewN_drewN _ _ _⟩ | exact ⟨rfl, _, Eq.trans (World.drewN_drewN _ _ _) (congrArg (World.drewN _) (Nat.add_assoc _ _ _))⟩)) | (go_at_call 14; (with_reducible refine (AT.out _ ?hm).mono ?_); (case hm => first | exact ⟨_, rfl⟩ | exact ⟨0, rfl⟩); rintro e w' ⟨rfl, ⟨nd, rfl⟩⟩; (try first | exact ⟨rfl, _, World.drewN_drewN _ _ _⟩ | exact ⟨rfl, _, Eq.trans (World.drewN_drewN _ _ _) (congrArg (World.drewN _) (Nat.add_assoc _ _ _))⟩)) | (go_at_call 15; (with_reducible refine (BA.out _ ?hm).mono ?_); (case hm => first | exact ⟨_, rfl⟩ | exact ⟨0, rfl⟩); rintro e w' ⟨rfl, ⟨nd, rfl⟩⟩; (try first | exact ⟨rfl, _, World.drewN_drewN _ _ _⟩ | exact ⟨rfl, _, Eq.trans (World.drewN_drewN _ _ _) (congrArg (World.drewN _) (Nat.add_assoc _ _ _))⟩))); try go_wp2_with fail)
            refine ⟨⟨ix + 1, at2, bad2, by omega, by push_cast; rfl, ⟨HQ.out.below (pw_below_drewN (Below.refl _ _) _)⟩⟩, ?_⟩
            rw [show intOf (.int .i64 ((ix : Int) + 1)) = (ix : Int) + 1 from rfl, show intOf (.int .i64 (ix : Int)) = (ix : Int) from rfl]
            omega
end Go.Proofs.Ytimfnfifedgooaa.Given
end

section
/- Slices of octets as data are lists of octets; no conditions. -/
namespace Go.Proofs.Ytimfnfifedgooaa
open Go.Proofs.YtimfnfifedgooaaW.PrintWords
open Go.RowKit
theorem rd_octets : Bridge.Rdga Try.prog 22 (Kd.slice 5 (Kd.int .u8)) (fun l => ∀ a ∈ l, (Lit.int .u8 a).wf = true) := Bridge.Rdg.slicea Try.underlying22 (by kernel_rfl) (Bridge.Rdg.int Try.underlying5 (by kernel_rfl))
end Go.Proofs.Ytimfnfifedgooaa
end

section
/- The walk of OctetReads over what is read as data. -/
namespace Go.Proofs.Ytimfnfifedgooaa
open Go Go.RowKit Go.Proofs.Ytimfnfifedgooaa.Given Go.Proofs.YtimfnfifedgooaaW.PrintWords
theorem rd_aint : Bridge.Rdga Try.prog 3 (Kd.int .i64) (fun x => (Lit.int .i64 x).wf = true) := Bridge.Rdg.int Try.underlying3 (by kernel_rfl)
theorem rd_ask : Bridge.Rdga Try.prog 31 KAsk (fun _ => True) := fun m => Bridge.Rdg.imp ((Bridge.Rdg.structa Try.underlying31 (by kernel_rfl) (fun m => Bridge.RdgF.cons rfl (rd_aint m) (Bridge.RdgF.one rfl (rd_aint m)))) m) (fun _ _ => trivial)
theorem rd_asks : Bridge.Rdga Try.prog 23 (Kd.slice 31 KAsk) (fun l => ∀ a ∈ l, True) := Bridge.Rdg.slicea Try.underlying23 (by kernel_rfl) rd_ask
theorem wf8_ {a : Int} (h : (Lit.int .u8 a).wf = true) : 0 ≤ a ∧ a < 256 := by
  unfold Lit.wf at h
  simp only [Bool.and_eq_true, decide_eq_true_eq, show IntKind.u8.min = 0 from rfl, show IntKind.u8.max = 255 from rfl] at h
  omega
theorem OctetReads_walk (A0 : Option Addr) (c0 : Nat) (b : List Int) (A : Option Addr) (c : Nat) (l : List AskN) (w : World) (hC0 : Kd.C (Kd.int .u8) w A0 b.length b) (hc0 : b.length ≤ c0) (wf : ∀ a ∈ b, (Lit.int .u8 a).wf = true) (hC : Kd.C KAsk w A l.length l) (hc : l.length ≤ c) (_ : ∀ a ∈ l, True) :
    Calls Try.prog 3 #[.slice A0 b.length c0, .slice A l.length c] w fun e w' => e = .returned (.bool true) ∧ Below w.heap.size w w' := OctetReads_w A0 c0 b A c l w hC0 hc0 (fun a h => wf8_ (wf a h)) hC hc
end Go.Proofs.Ytimfnfifedgooaa
end

section
/- The law OctetReads holds for every input: the walk over its code shows that the call returns true and that what was read stays as it was; the row follows. -/
namespace Go.Proofs.Ytimfnfifedgooaa.octetReadsRw
open Go.ChangeShapes Go.WideShapes Go.ChangeAt Go.RowKit
open Go.ChangeMaps (open_string shut_string)
open Go.Proofs.Ytimfnfifedgooaa.Bridge
set_option linter.unusedVariables false
set_option linter.unusedSimpArgs false
theorem own : ownKnob Try.prog.godebug = none := by kernel_rfl
theorem laidOut : laidOutB Try.prog = true := by kernel_rfl
set_option maxRecDepth 100000 in
theorem lifted (os : Os) (started : os.Started) (H : Type) (enc : TypeId × Value → H) :
    ReturnsInHanded {} Try.checked os 3 .any (Rows.octetReadsSpec.pre6 enc Try.prog Try.f3 Rows.octetReadsRow.domain false) (Rows.octetReadsSpec.post enc Try.prog Try.f3 false true false false) := by
  refine returnsInHanded_of_change_sized (C := Try.checked) own started (by kernel_rfl) Try.func3
    (ChangeSpec.witness6 (enc := enc) (C := Try.checked) false ⟨#[], #[.slice none 0 0, .slice none 0 0], []⟩ 8 (by kernel_rfl) (by kernel_rfl) (by kernel_rfl) (by kernel_rfl)) ?_
  intro W base args ds gs before hval0 hW hcnd hsz0 _
  have hval : ∀ (j : Nat) t v, Try.f3.params[j]? = some t → args[j]? = some v → Value.okWide Try.prog W .any base t v := hval0
  have hsz : (DataW.weightsEach Try.prog (Try.f3.params.toList ++ Rows.octetReadsSpec.plain.varTypes Try.prog) (ds ++ gs)).all (· ≤ reachBytes) = true := hsz0
  clear hval0 hsz0 hcnd
  have hW' := hW
  obtain ⟨p, q, hA0, hV, rfl, hfz, hnd⟩ := hW
  have hA : DataW.TrodAll enc Try.prog W 0 (fun _ => true) true Try.f3.params.toList args.toList ds p := hA0
  rw [Try.params3] at hA hval hsz
  obtain ⟨v0, vs0, d0, ds0, p0, q0, hargs, rfl, rfl, h0, r0⟩ := trodAll_cons hA
  obtain ⟨v1, vs1, d1, ds1, p1, q1, rfl, rfl, rfl, h1, r1⟩ := trodAll_cons r0
  obtain ⟨rfl, rfl, rfl⟩ := trodAll_nil r1
  obtain rfl : args = #[v0, v1] := by cases args; simp_all
  obtain ⟨rfl, rfl⟩ := trodVars_none hV
  clear hA0
  have k0 := h0
  have lt0 : ∀ x ∈ p0, x.block < W.heap.size := by obtain ⟨m, hm⟩ := k0; exact DataW.trod_lt m _ _ _ hm
  obtain ⟨A0, len0, c0, rfl⟩ := okWide_slice Try.underlying22 (hval 0 22 v0 rfl rfl)
  obtain ⟨x0, hk0, wf0⟩ := Rdga.trod rd_octets h0
  obtain ⟨A0', c0', he0, hle0, hC0⟩ := hk0
  simp only [Value.cells, List.cons.injEq, Value.slice.injEq, and_true] at he0
  obtain ⟨rfl, rfl, rfl⟩ := he0
  have k1 := h1
  have lt1 : ∀ x ∈ p1, x.block < W.heap.size := by obtain ⟨m, hm⟩ := k1; exact DataW.trod_lt m _ _ _ hm
  obtain ⟨A1, len1, c1, rfl⟩ := okWide_slice Try.underlying23 (hval 1 23 v1 rfl rfl)
  obtain ⟨x1, hk1, wf1⟩ := Rdga.trod rd_asks h1
  obtain ⟨A1', c1', he1, hle1, hC1⟩ := hk1
  simp only [Value.cells, List.cons.injEq, Value.slice.injEq, and_true] at he1
  obtain ⟨rfl, rfl, rfl⟩ := he1
  refine (OctetReads_walk A0 c0 x0 A1 c1 x1 W hC0 hle0 wf0 hC1 hle1 wf1).mono fun e W' ⟨he, bel⟩ => ?_
  subst he
  exact ⟨_, rfl, _, _, _, [], _, [], hW', trodAll_mk1 (shut_bool Try.underlying4 _), (trodAll_cons_mk (Below.trod laidOut (by kernel_rfl) (of_decide_eq_true (by kernel_rfl)) k0 bel lt0) (trodAll_cons_mk (Below.trod laidOut (by kernel_rfl) (of_decide_eq_true (by kernel_rfl)) k1 bel lt1) trodAll_mk0)), rfl, bel.frame _, fun h => by cases h⟩
theorem over : Rows.octetReadsRow.holds Try.pinned (OpenSpec.ofChange Rows.octetReadsSpec) :=
  OpenClaim.holds_of_wide 3 Try.f3 rfl rfl rfl rfl rfl rfl rfl ⟨rfl, rfl, rfl, rfl, rfl⟩ rfl rfl rfl rfl rfl (by kernel_rfl) Try.func3 (by kernel_rfl)
    (of_decide_eq_true (by kernel_rfl)) (by unfold Func.isWrapper; first | (rw [if_pos (by decide +kernel)]; kernel_rfl) | (rw [if_neg (by decide +kernel)]; exact ⟨rfl, rfl⟩))
    (fun os started H enc _ => lifted os started H enc)
theorem proved : Rows.OctetReadsSaid := over
end Go.Proofs.Ytimfnfifedgooaa.octetReadsRw
namespace Go.Proofs.Ytimfnfifedgooaa
theorem octetReads_holds : Rows.OctetReadsSaid := octetReadsRw.proved
#print axioms octetReads_holds
end Go.Proofs.Ytimfnfifedgooaa
end
