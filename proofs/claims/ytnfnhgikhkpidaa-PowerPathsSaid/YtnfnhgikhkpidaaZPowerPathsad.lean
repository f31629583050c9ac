/- The law's own awake: two contacts in series are two wires; power flows; they reduce. -/
import Derived.Test.YtnfnhgikhkpidaaZPowerPathsab
import Derived.Test.YtnfnhgikhkpidaaZPowerPathsac
section
/- power.straight walked: two wires that are all that meet at a point become one. -/
namespace Go.Proofs.Ytnfnhgikhkpidaa.Given
open Go Go.RowKit Go.Maps Go.Proofs.Ytnfnhgikhkpidaa Go.Proofs.Ytnfnhgikhkpidaa.PPw Go.Proofs.YtnfnhgikhkpidaaW.PrintWords Go.Proofs.YtnfnhgikhkpidaaW.PrintLast Go.Proofs.YtnfnhgikhkpidaaW.PrintMore
open Go.Proofs.Ytnfnhgikhkpidaa.Red (Ed incAt)
set_option linter.unusedVariables false
set_option linter.unusedSimpArgs false
def power_straight.f (l : List E66) : Option (List E66 × Bool) := if okW l then some (match Red.straightF (l.map ed) 0 (l.map ed) with | some o => (o.map de, true) | none => (l, false)) else none
structure GIn (w wr : World) (n : Nat) (D : DD) (F : Int → List Nat) : Prop where
  map : Gr wr w.heap.size n D
  ok : GOk D F
  below : Below w.heap.size w wr
theorem two_new (w : World) (A B : Obj) : ((w.alloc A).alloc B).drew.heap[w.heap.size]? = some A ∧ ((w.alloc A).alloc B).drew.heap[w.heap.size + 1]? = some B := by
  have hs : (w.alloc A).heap.size = w.heap.size + 1 := by simp
  refine ⟨((MapKept.heap_alloc (w.alloc A) B).2 w.heap.size (by omega)).trans (MapKept.heap_alloc w A).1, ?_⟩
  rw [← hs]
  exact (MapKept.heap_alloc (w.alloc A) B).1
theorem cell_al {w : World} {p : Addr} {v : Value} (o : Obj) (h : w.cell? p = some v) : (w.alloc o).cell? p = some v := (((Below.refl w.heap.size w).alloc (Nat.le_refl _) o).cell (World.block_lt_of_cell? w _ h)).trans h
theorem wrap_other {a b q : Int} (ha : in64 a) (hb : in64 b) (hq : a = q ∨ b = q) : wrap64 (wrap64 (a + b) - q) = a + b - q ∧ in64 (a + b - q) := by
  unfold wrap64
  unfold in64 at *
  rcases hq with rfl | rfl <;> omega
theorem nrm_mn (a b : Int) : Red.nrm a b = (mn a b, mx a b) := by
  unfold Red.nrm mn mx
  by_cases h : a ≤ b
  · rw [if_pos h, if_neg (by omega)]
    by_cases h2 : a < b
    · rw [if_pos h2]
    · rw [if_neg h2]
      have : a = b := by omega
      rw [this]
  · rw [if_neg h, if_pos (by omega), if_neg (by omega)]
theorem cand_if {W : List Ed} {i j0 j1 : Nat} {q : Int} {y0 y1 : Ed} (hj : incAt 0 W q = [j0, j1]) (h01 : ¬ (q = 0 ∨ q = 1)) (h0 : W.getD j0 (0, 0) = y0) (h1 : W.getD j1 (0, 0) = y1) :
    Red.cand W i q = if y0.1 = y0.2 ∨ y1.1 = y1.2 ∨ y0.1 + y0.2 - q = y1.1 + y1.2 - q then none else some (Red.outF i j0 j1 (Red.nrm (y0.1 + y0.2 - q) (y1.1 + y1.2 - q)) 0 W) := by
  unfold Red.cand
  rw [hj]
  simp only [h0, h1]
  rw [if_neg h01]
theorem straight_k {W : List Ed} {i k : Nat} {q : Int} {x : Ed} {ws o : List Ed} (hk : k < 2) (hq : q = if k = 0 then x.1 else x.2) (hn : Red.cand W i q = some o) (h : (1 ≤ k → Red.cand W i x.1 = none) ∧ (2 ≤ k → Red.cand W i x.2 = none)) : Red.straightF W i (x :: ws) = some o := by
  have : k = 0 ∨ k = 1 := by omega
  unfold Red.straightF
  rcases this with rfl | rfl
  · rw [if_pos rfl] at hq
    rw [← hq, hn]
  · rw [if_neg (by decide)] at hq
    rw [h.1 (by decide), ← hq, hn]
theorem out_at {i j0 j1 : Nat} {e : Ed} {m : Nat} {z : Ed} {zs : List Ed} : Red.outF i j0 j1 e m (z :: zs) = if m = i then e :: Red.outF i j0 j1 e (m + 1) zs else if m ≠ j0 ∧ m ≠ j1 then z :: Red.outF i j0 j1 e (m + 1) zs else Red.outF i j0 j1 e (m + 1) zs := rfl
theorem out_len {i j0 j1 : Nat} {e : Ed} : ∀ (zs : List Ed) (m : Nat), (Red.outF i j0 j1 e m zs).length ≤ zs.length
  | [], _ => Nat.le_refl _
  | z :: zs, m => by
    have := out_len (i := i) (j0 := j0) (j1 := j1) (e := e) zs (m + 1)
    rw [out_at, List.length_cons]
    split
    · rw [List.length_cons]; omega
    · split
      · rw [List.length_cons]; omega
      · omega
theorem ints_slice {w : World} {base : Nat} {v : Value} {zs : List Int} (ho : w.ownsInts base 3 .i64 v zs) : ∃ A c, v = .slice A zs.length c := by
  rcases ho.1.2 with ⟨rfl, h0⟩ | ⟨g, cap, cur, rfl, _⟩
  · exact ⟨none, 0, by rw [h0]⟩
  · exact ⟨_, _, rfl⟩
theorem ints_two {w : World} {base : Nat} {v : Value} {j0 j1 : Nat} (ho : w.ownsInts base 3 .i64 v (nums [j0, j1])) : ∃ g c, v = .slice (some ⟨g, 0, none⟩) 2 c ∧ w.cell? ⟨g, 0, none⟩ = some (.int .i64 (j0 : Int)) ∧ w.cell? ⟨g, 1, none⟩ = some (.int .i64 (j1 : Int)) ∧ g < w.heap.size := by
  rcases ho.1.2 with ⟨rfl, h0⟩ | ⟨g, cap, cur, rfl, _, hg, hn, _, _, htake⟩
  · cases h0
  · have h2 : cur.toList.take 2 = [.int .i64 (j0 : Int), .int .i64 (j1 : Int)] := by
      have := htake
      simpa [nums] using this
    have hc : ∀ (k : Nat) (x : Value), k < 2 → ([.int .i64 (j0 : Int), .int .i64 (j1 : Int)] : List Value)[k]? = some x → w.cell? ⟨g, k, none⟩ = some x := fun k x hk hx => by
      rw [blk_cell hg k]
      rw [← h2, List.getElem?_take_of_lt hk] at hx
      simpa using hx
    exact ⟨g, cap, rfl, hc 0 _ (by decide) rfl, hc 1 _ (by decide) rfl, (Array.getElem?_eq_some_iff.1 hg).1⟩
theorem cand_01 {W : List Ed} {i : Nat} {q : Int} (h : q = 0 ∨ q = 1) : Red.cand W i q = none := by
  unfold Red.cand
  split
  · rw [if_pos h]
  · rfl
theorem cand_len {W : List Ed} {i : Nat} {q : Int} (h : (incAt 0 W q).length ≠ 2) : Red.cand W i q = none := by
  unfold Red.cand
  split
  · rename_i hj
    rw [hj] at h
    exact absurd rfl h
  · rfl
theorem inc_at {W : List Ed} {q : Int} {L : List Nat} (h : incAt 0 W q = L) {j : Nat} (hj : j ∈ L) : j < W.length ∧ Red.Inc q (W.getD j (0, 0)) := by
  rw [← h] at hj
  obtain ⟨_, e, he, hi⟩ := (Red.incAt_mem W 0 q j).1 hj
  rw [Nat.sub_zero] at he
  exact ⟨(List.getElem?_eq_some_iff.1 he).1, by rw [List.getD_eq_getElem?_getD, he]; exact hi⟩
theorem rd_at {l : List E66} {W : List Ed} (hW : W = l.map ed) {j : Nat} (hj : j < l.length) {y : E66} (hy : rd_T66 l (j : Int) = y) : W.getD j (0, 0) = ed y := by
  rw [← hy, hW]
  unfold rd_T66
  rw [Int.toNat_natCast, List.getD_eq_getElem?_getD, List.getD_eq_getElem?_getD, List.getElem?_map, List.getElem?_eq_getElem hj]; rfl
theorem rd_mem {l : List E66} {j : Nat} (hj : j < l.length) {y : E66} (hy : rd_T66 l (j : Int) = y) : y ∈ l := by
  rw [← hy]
  unfold rd_T66
  rw [Int.toNat_natCast, List.getD_eq_getElem?_getD, List.getElem?_eq_getElem hj]
  exact List.getElem_mem hj
theorem next_k {W : List Ed} {i k : Nat} {q a b : Int} (hk : k < 2) (hq : q = if k = 0 then a else b) (hn : Red.cand W i q = none) (h : (1 ≤ k → Red.cand W i a = none) ∧ (2 ≤ k → Red.cand W i b = none)) : (1 ≤ k + 1 → Red.cand W i a = none) ∧ (2 ≤ k + 1 → Red.cand W i b = none) := by
  have : k = 0 ∨ k = 1 := by omega
  rcases this with rfl | rfl
  · rw [if_pos rfl] at hq
    exact ⟨fun _ => hq ▸ hn, fun h => by omega⟩
  · rw [if_neg (by decide)] at hq
    exact ⟨fun _ => h.1 (by decide), fun _ => hq ▸ hn⟩
set_option maxHeartbeats 8000000 in
set_option maxRecDepth 100000 in
theorem power_straight.calls (A0 : Option Addr) (c0 : Nat) (l : List E66) (r1 : List E66) (r2 : Bool) (w : World) (h0 : Kd.C k66 w A0 l.length l) (hc0 : l.length ≤ c0) (h : power_straight.f l = some (r1, r2)) :
    Calls Try.prog 29 #[.slice A0 l.length c0] w fun e w' => ∃ v0_ : Value, e = .returned (.tuple #[v0_, .bool r2]) ∧ (∀ base, base ≤ w.heap.size → Kd.R k66 66 w base (fun _ => True) (.slice A0 l.length c0) l → Kd.R k66 66 w' base (fun _ => True) v0_ r1) ∧ Below w.heap.size w w' := by
  unfold power_straight.f at h
  obtain ⟨hok, h⟩ : okW l ∧ (match Red.straightF (l.map ed) 0 (l.map ed) with | some o => (o.map de, true) | none => (l, false)) = (r1, r2) := by
    split at h
    · rename_i hok
      exact ⟨hok, Option.some.inj h⟩
    · cases h
  obtain ⟨hlen, hwf⟩ := hok
  obtain ⟨W, hW⟩ : ∃ W, W = l.map ed := ⟨_, rfl⟩
  have hWl : W.length = l.length := by rw [hW, List.length_map]
  rw [← hW] at h
  have HR := Aside0.mk h
  have HWs := Aside0.mk hW
  have hmm := @run_makeMap Try.prog
  have H0 := Aside0.mk h0
  have HW := Aside0.mk hwf
  have HIN := Aside0.mk (show GIn w (w.alloc (.map #[] 0)) 0 (.map []) (incAt 0 (W.take 0)) from ⟨World.ownsGroups_made _ _ _ _ _, GOk.nil.swap (fun p => by simp [incAt]), (Below.refl _ _).alloc (Nat.le_refl _) _⟩)
  clear h0 hwf hW h
  have hi2 : (Try.prog.info? 66).map (·.size) = some 2 := by kernel_rfl
  go_enter Try.func29, Try.ntmps29
  go_wp2_with fail
  clear hmm
  go_loopw [22] (fun iv wr => ∃ (i n : Nat) (D : DD), iv = .int .i64 (i : Int) ∧ i ≤ l.length ∧ n ≤ 2 * i ∧ Aside0 (GIn w wr n D (incAt 0 (W.take i)))) (fun iv _ => l.length - (intOf iv).toNat)
  case atStart => exact ⟨0, 0, _, rfl, Nat.zero_le _, Nat.le_refl _, HIN⟩
  case round =>
    as_aux_lemma =>
      clear HIN
      obtain ⟨i, n, D, rfl, hi, hn, HIN⟩ := hrel
      by_cases hlt : i < l.length
      · as_aux_lemma =>
          have hx : rd_T66 l (i : Int) = l[i] := by
            unfold rd_T66
            rw [Int.toNat_natCast, List.getD_eq_getElem?_getD, List.getElem?_eq_getElem hlt]; rfl
          obtain ⟨ad, e0, q0, q1⟩ := at_T66 (Kd.C_below H0.out HIN.out.below) (i : Int) (by omega) (by omega)
          rw [hx] at q0 q1
          simp only [Int.toNat_natCast] at q0 q1
          have hwx := HW.out l[i] (List.getElem_mem hlt)
          have hiW : i < W.length := by omega
          have HT := Aside0.mk (show ∀ p, incAt 0 (W.take (i + 1)) p = incAt 0 (W.take i) p ++ (if l[i].f0 = p ∨ l[i].f1 = p then [i] else []) from fun p => by
            rw [incAt_take hiW]
            have hWi : W[i] = ed l[i] := by simp only [HWs.out, List.getElem_map]
            rw [hWi]; rfl)
          generalize l[i] = x at q0 q1 hwx HT
          subst e0
          have hz := heap_alloc_new wr (.cells #[.int .i64 0, .int .i64 0] 66)
          have hg7 := setRow_heap _ _ _ #[.int .i64 x.f0, .int .i64 x.f1] _ _ hz
          have hB7 := below_setRow ((Below.refl wr.heap.size wr).alloc (Nat.le_refl _) (.cells #[.int .i64 0, .int .i64 0] 66)) (Nat.le_refl wr.heap.size) #[.int .i64 x.f0, .int .i64 x.f1]
          have HZ7 := Aside0.mk hz
          have HB7 := Aside0.mk hB7
          have HBw := Aside0.mk (HIN.out.below.trans (hB7.mono HIN.out.below.size))
          have HM7 := Aside0.mk (World.ownsGroups.below HIN.out.map hB7)
          have HGR := Aside0.mk hg7
          have HWX := Aside0.mk hwx
          clear hz hg7 hB7 hwx
          go_wp2_with ((with_reducible refine gate_store (t := 66) (p := 6) (v := .tmp 26) rfl ?_); refine wpList_store_row rfl 66 (.tmp 6) (.tmp 26) rfl wr.heap.size #[.int .i64 x.f0, .int .i64 x.f1] rfl rfl 66 _ HZ7.out (by rw [hi2]; rfl) rfl (by kernel_rfl) ?_; generalize hW7 : (wr.alloc (.cells #[.int .i64 0, .int .i64 0] 66)).setRow wr.heap.size #[.int .i64 x.f0, .int .i64 x.f1] = w7 at HBw HM7 HGR ⊢; clear hW7)
          obtain ⟨v, v', w9, w10, D', hlk, happ, hk9, hup, hgr10, hok10, hk10, hb10⟩ := prep (w := w7.drew) (show Gr w7.drew _ _ _ from HM7.out) (by omega) HIN.out.ok (p := x.f0) HWX.out.1 (i := i) (by omega)
          have s0 : w7.drew.cell? ⟨wr.heap.size, 0, none⟩ = some (.int .i64 x.f0) := (blk_cell HGR.out 0).trans rfl
          have s1 : w9.cell? ⟨wr.heap.size, 0, none⟩ = some (.int .i64 x.f0) := (blk_cell ((hk9 _ _ _ (by decide) HGR.out).trans HGR.out) 0).trans rfl
          have L0 := hlk w7.drew rfl
          have s2 : (w7.alloc (.cells #[.int .i64 (i : Int)] 3)).cell? ⟨wr.heap.size, 0, none⟩ = some (.int .i64 x.f0) := (blk_cell (blk_alloc HGR.out _) 0).trans rfl
          have HLT := Aside0.mk (show w.heap.size < w7.heap.size from Gr.lt HM7.out)
          have L1 := hlk (w7.alloc (.cells #[.int .i64 (i : Int)] 3)).drew ((MapKept.heap_alloc _ _).2 _ (show w.heap.size < w7.heap.size from HLT.out))
          apply wp_mid (w10 := w10)
          case hreg =>
            go_region_law (refine step_append_eq rfl (.tmp 33) (.tmp 35) 28 rfl v _ v' rfl rfl happ ?_)
            all_goals exact ⟨rfl, rfl⟩
          have HG10 := Aside0.mk ((hk10 _ _ _ (by decide) HGR.out).trans HGR.out)
          have HM10 := Aside0.mk hgr10
          have HK10 := Aside0.mk hok10
          have HB10 := Aside0.mk (HBw.out.drew.trans (show Below w.heap.size w7.drew w10 from hb10))
          clear hlk happ hk9 hup hgr10 hok10 hk10 hb10 s0 s1 s2 L0 L1
          have t0 := (blk_cell HG10.out 0).trans rfl
          have t1 := (blk_cell HG10.out 1).trans rfl
          by_cases hab : x.f1 = x.f0
          · as_aux_lemma =>
              have hab1 : (x.f1 != x.f0) = false := bne_eq_false_iff_eq.mpr hab
              have HAB := Aside0.mk hab
              clear hab
              go_wp2_with fail
              clear t0 t1 hab1
              go_roundw
              case rel => exact ⟨i + 1, n + 1, D', by push_cast; rfl, by omega, by omega, ⟨⟨HM10.out, HK10.out.swap (fun p => by
                rw [HT.out p, HAB.out]
                by_cases hp : p = x.f0
                · rw [if_pos hp, if_pos (.inl hp.symm), hp]
                · rw [if_neg hp, if_neg (fun h => h.elim (fun h => hp h.symm) (fun h => hp h.symm)), List.append_nil]), HB10.out⟩⟩⟩
              case measure => simp [intOf]; omega
          · as_aux_lemma =>
              have hab1 : (x.f1 != x.f0) = true := bne_iff_ne.mpr hab
              have HAB := Aside0.mk hab
              clear hab
              go_wp2_with fail
              clear t0 t1 hab1
              obtain ⟨v, v', w11, w12, D2, hlk, happ, hk9, hup, hgr12, hok12, hk12, hb12⟩ := prep (w := w10.drew) (show Gr w10.drew _ _ _ from HM10.out) (by omega) HK10.out (p := x.f1) HWX.out.2 (i := i) (by omega)
              have s0 : w10.drew.cell? ⟨wr.heap.size, 1, none⟩ = some (.int .i64 x.f1) := (blk_cell HG10.out 1).trans rfl
              have s1 : w11.cell? ⟨wr.heap.size, 1, none⟩ = some (.int .i64 x.f1) := (blk_cell ((hk9 _ _ _ (by decide) HG10.out).trans HG10.out) 1).trans rfl
              have L0 := hlk w10.drew rfl
              have L1 := hlk (w10.alloc (.cells #[.int .i64 (i : Int)] 3)).drew ((MapKept.heap_alloc _ _).2 _ (show w.heap.size < w10.heap.size from Gr.lt HM10.out))
              have s2 : (w10.alloc (.cells #[.int .i64 (i : Int)] 3)).cell? ⟨wr.heap.size, 1, none⟩ = some (.int .i64 x.f1) := (blk_cell (blk_alloc HG10.out _) 1).trans rfl
              apply wp_mid (w10 := w12)
              case hreg =>
                go_region_law (refine step_append_eq rfl (.tmp 48) (.tmp 50) 28 rfl v _ v' rfl rfl happ ?_)
                all_goals exact ⟨rfl, rfl⟩
              have HM12 := Aside0.mk hgr12
              have HK12 := Aside0.mk hok12
              have HB12 := Aside0.mk (HB10.out.drew.trans (show Below w.heap.size w10.drew w12 from hb12))
              clear hlk happ hk9 hup hgr12 hok12 hk12 hb12 s0 s1 s2 L0 L1
              go_wp2_with fail
              go_roundw
              case rel => exact ⟨i + 1, n + 1 + 1, D2, by push_cast; rfl, by omega, by omega, ⟨⟨HM12.out, HK12.out.swap (fun p => by
                rw [HT.out p]
                by_cases hp : p = x.f1
                · rw [if_pos hp, if_neg HAB.out, if_pos (.inr hp.symm), hp]
                · rw [if_neg hp]
                  by_cases hp0 : p = x.f0
                  · rw [if_pos hp0, if_pos (.inl hp0.symm), hp0]
                  · rw [if_neg hp0, if_neg (fun h => h.elim (fun h => hp0 h.symm) (fun h => hp h.symm)), List.append_nil]), HB12.out⟩⟩⟩
              case measure => simp [intOf]; omega
      · as_aux_lemma =>
          obtain ⟨Z, hZ⟩ : ∃ Z, Red.straightF W 0 W = Z := ⟨_, rfl⟩
          have hr := HR.out
          rw [hZ] at hr
          have HR2 := Aside0.mk hr
          have HZ := Aside0.mk (show Red.straightF W 0 (W.drop 0) = Z by rw [List.drop_zero]; exact hZ)
          have HG1 := Aside0.mk (show GIn w wr n D (incAt 0 W) from ⟨HIN.out.map, HIN.out.ok.swap (fun p => by rw [List.take_of_length_le (by omega)]), HIN.out.below⟩)
          have HLW := Aside0.mk (Nat.lt_of_lt_of_le (Gr.lt HG1.out.map) (Nat.le_refl _))
          clear hZ hr HIN HR
          have hn2 : n ≤ 2000 := by omega
          clear hn
          go_wp2_with fail
          clear hi hlt
          rename World => w1
          go_loopw [55] (fun iv wr => ∃ (i : Nat), iv = .int .i64 (i : Int) ∧ i ≤ l.length ∧ Aside0 (Below w1.heap.size w1 wr) ∧ Aside0 (Red.straightF W i (W.drop i) = Z)) (fun iv _ => l.length - (intOf iv).toNat)
          case atStart => exact ⟨0, rfl, Nat.zero_le _, ⟨Below.refl _ _⟩, HZ⟩
          case round =>
            as_aux_lemma =>
              clear HZ
              obtain ⟨i, rfl, hi, HB1, HZ⟩ := hrel
              by_cases hlt : i < l.length
              rotate_left
              · as_aux_lemma =>
                  have HE := Aside0.mk (show r1 = l ∧ r2 = false by
                    have hz := HZ.out
                    rw [List.drop_eq_nil_of_le (by omega)] at hz
                    have hr := HR2.out
                    rw [← hz] at hr
                    simp only [Red.straightF, Prod.mk.injEq] at hr
                    exact ⟨hr.1.symm, hr.2.symm⟩)
                  go_wp2_with fail
                  go_ret2
                  have HB := HG1.out.below.trans (HB1.out.mono HG1.out.below.size)
                  exact ⟨.slice A0 l.length c0, by rw [HE.out.2]; rfl, fun base _ hR => by rw [HE.out.1]; exact Kd.R_step hR (fun k _ hk => HB.block k hk), HB⟩
              · as_aux_lemma =>
                  have HBW := Aside0.mk (HG1.out.below.trans (HB1.out.mono HG1.out.below.size))
                  have hx : rd_T66 l (i : Int) = l[i] := by
                    unfold rd_T66
                    rw [Int.toNat_natCast, List.getD_eq_getElem?_getD, List.getElem?_eq_getElem hlt]; rfl
                  obtain ⟨ad, e0, q0, q1⟩ := at_T66 (Kd.C_below H0.out HBW.out) (i : Int) (by omega) (by omega)
                  rw [hx] at q0 q1
                  simp only [Int.toNat_natCast] at q0 q1

                  have HWX := Aside0.mk (HW.out l[i] (List.getElem_mem hlt))
                  have hiW : i < W.length := by omega
                  have hWi : W[i] = ed l[i] := by simp only [HWs.out, List.getElem_map]
                  have hzz := HZ.out
                  rw [List.drop_eq_getElem_cons hiW, hWi] at hzz
                  have HZ3 := Aside0.mk hzz
                  have HXI := Aside0.mk (show W[i]? = some (ed l[i]) by rw [List.getElem?_eq_getElem hiW, hWi])
                  clear hzz hWi HZ
                  generalize l[i] = x at q0 q1 HWX HZ3 HXI
                  subst e0
                  have hz := heap_alloc_new wr (.cells #[.int .i64 0, .int .i64 0] 66)
                  have hg7 := setRow_heap _ _ _ #[.int .i64 x.f0, .int .i64 x.f1] _ _ hz
                  have hB7 := below_setRow ((Below.refl wr.heap.size wr).alloc (Nat.le_refl _) (.cells #[.int .i64 0, .int .i64 0] 66)) (Nat.le_refl wr.heap.size) #[.int .i64 x.f0, .int .i64 x.f1]
                  have HZ7 := Aside0.mk hz
                  have HB7 := Aside0.mk hB7
                  have HGR := Aside0.mk hg7
                  have r0 := (blk_cell hg7 0).trans rfl
                  have r1 := (blk_cell hg7 1).trans rfl
                  clear hz hg7 hB7

                  have HBw := Aside0.mk (HB1.out.trans (HB7.out.mono HB1.out.size))
                  go_wp2_with ((with_reducible refine gate_store (t := 66) (p := 8) (v := .tmp 59) rfl ?_); refine wpList_store_row rfl 66 (.tmp 8) (.tmp 59) rfl wr.heap.size #[.int .i64 x.f0, .int .i64 x.f1] rfl rfl 66 _ HZ7.out (by rw [hi2]; rfl) rfl (by kernel_rfl) ?_; generalize hW7 : (wr.alloc (.cells #[.int .i64 0, .int .i64 0] 66)).setRow wr.heap.size #[.int .i64 x.f0, .int .i64 x.f1] = w7 at HBw HGR r0 r1 ⊢; clear hW7)
                  have HPA := Aside0.mk (heap_alloc_new w7 (.cells #[.int .i64 x.f0, .int .i64 x.f1] 3))
                  clear r0 r1 q0 q1
                  go_loopw [66] (fun kv w3 => ∃ (k : Nat), kv = .int .i64 (k : Int) ∧ k ≤ 2 ∧ Aside0 (Below (w7.alloc (.cells #[.int .i64 x.f0, .int .i64 x.f1] 3)).heap.size (w7.alloc (.cells #[.int .i64 x.f0, .int .i64 x.f1] 3)) w3) ∧ Aside0 ((1 ≤ k → Red.cand W i x.f0 = none) ∧ (2 ≤ k → Red.cand W i x.f1 = none))) (fun kv _ => 2 - (intOf kv).toNat)
                  case atStart => exact ⟨0, rfl, by decide, ⟨Below.refl _ _⟩, ⟨fun h => absurd h (by decide), fun h => absurd h (by decide)⟩⟩
                  case round =>
                    as_aux_lemma =>
                      obtain ⟨k, rfl, hk, HB3, HC⟩ := hrel
                      by_cases hk2 : k < 2
                      rotate_left
                      · as_aux_lemma =>
                          have hk3 : k = 2 := by omega
                          subst hk3
                          go_wp2_with fail
                          go_roundw
                          case rel => exact ⟨i + 1, by push_cast; rfl, by omega, ⟨HBw.out.trans (((Below.refl w1.heap.size w7).alloc HBw.out.size _).trans (HB3.out.mono (Nat.le_trans HBw.out.size (by simp))))⟩, ⟨by
                            have hz := HZ3.out
                            unfold Red.straightF at hz
                            rw [show (ed x).1 = x.f0 from rfl, show (ed x).2 = x.f1 from rfl, HC.out.1 (by decide), HC.out.2 (by decide)] at hz
                            exact hz⟩⟩
                          case measure => simp [intOf]; omega
                      · as_aux_lemma =>
                          obtain ⟨q, hq⟩ : ∃ q, q = (if k = 0 then x.f0 else x.f1) := ⟨_, rfl⟩
                          have HQ := Aside0.mk hq
                          have hq64 : in64 q := by rw [hq]; split; exact HWX.out.1; exact HWX.out.2
                          have HB4 := Aside0.mk (show Below w1.heap.size w1 wr from HBw.out.trans (((Below.refl w1.heap.size w7).alloc HBw.out.size _).trans (HB3.out.mono (Nat.le_trans HBw.out.size (by simp)))))
                          have c0 : wr.cell? ⟨w7.heap.size, k, none⟩ = some (.int .i64 q) := by
                            have hb := (HB3.out.block w7.heap.size (by simp)).trans HPA.out
                            have h1 := blk_cell hb k
                            rw [h1, hq]
                            have : k = 0 ∨ k = 1 := by omega
                            rcases this with rfl | rfl <;> rfl
                          clear hq
                          obtain ⟨v, hlk, ho, hl, _⟩ := look_gr HG1.out.map (by omega) HG1.out.ok hq64
                          have L0 := hlk wr (HB4.out.block _ HLW.out)
                          clear hlk
                          have HO := Aside0.mk ho
                          clear ho
                          by_cases hq0 : q = 0 ∨ q = 1
                          · as_aux_lemma =>
                              have HN := Aside0.mk (show Red.cand W i q = none from cand_01 hq0)
                              obtain ⟨A, c, rfl⟩ := ints_slice HO.out
                              rcases hq0 with hq0 | hq0
                              · as_aux_lemma =>
                                  have hq1 : (q == 0) = true := beq_iff_eq.mpr hq0
                                  clear hq0
                                  go_wp2_with fail
                                  go_roundw
                                  case rel => exact ⟨k + 1, by push_cast; rfl, by omega, ⟨HB3.out⟩, ⟨next_k hk2 HQ.out HN.out HC.out⟩⟩
                                  case measure => simp [intOf]; omega
                              · as_aux_lemma =>
                                  have hq1 : (q == 0) = false := beq_eq_false_iff_ne.mpr (by omega)
                                  have hq2 : (q == 1) = true := beq_iff_eq.mpr hq0
                                  clear hq0
                                  go_wp2_with fail
                                  go_roundw
                                  case rel => exact ⟨k + 1, by push_cast; rfl, by omega, ⟨HB3.out⟩, ⟨next_k hk2 HQ.out HN.out HC.out⟩⟩
                                  case measure => simp [intOf]; omega
                          · as_aux_lemma =>
                              have hq1 : (q == 0) = false := beq_eq_false_iff_ne.mpr (fun h => hq0 (.inl h))
                              have hq2 : (q == 1) = false := beq_eq_false_iff_ne.mpr (fun h => hq0 (.inr h))
                              by_cases h2 : (incAt 0 W q).length = 2
                              rotate_left
                              · as_aux_lemma =>
                                  have HN := Aside0.mk (show Red.cand W i q = none from cand_len h2)
                                  obtain ⟨A, c, rfl⟩ := ints_slice HO.out
                                  have hln : (nums (incAt 0 W q)).length = (incAt 0 W q).length := by simp [nums]
                                  rw [hln] at L0
                                  have h3 : (((incAt 0 W q).length : Int) != 2) = true := bne_iff_ne.mpr (by omega)
                                  clear hq0 h2 hln hl HO
                                  generalize (incAt 0 W q).length = n3 at L0 h3
                                  go_wp2_with fail
                                  go_roundw
                                  case rel => exact ⟨k + 1, by push_cast; rfl, by omega, ⟨HB3.out⟩, ⟨next_k hk2 HQ.out HN.out HC.out⟩⟩
                                  case measure => simp [intOf]; omega
                              · as_aux_lemma =>
                                  obtain ⟨j0, j1, hj⟩ : ∃ j0 j1, incAt 0 W q = [j0, j1] := by
                                    generalize incAt 0 W q = L at h2
                                    match L, h2 with
                                    | [a, b], _ => exact ⟨a, b, rfl⟩
                                  have HJ := Aside0.mk hj
                                  have hrow := HO.out
                                  rw [hj] at hrow
                                  obtain ⟨g, c, rfl, g0, g1, hg⟩ := ints_two hrow
                                  have HJ0 := Aside0.mk (inc_at hj (j := j0) (by simp))
                                  have HJ1 := Aside0.mk (inc_at hj (j := j1) (by simp))
                                  have hq01 := Aside0.mk hq0
                                  clear hrow HO hj h2 hq0 hl
                                  have hj0 : j0 < l.length := by have := HJ0.out.1; omega
                                  have hj1 : j1 < l.length := by have := HJ1.out.1; omega
                                  have G0 := (HB4.out.cell (show (⟨g, 0, none⟩ : Addr).block < w1.heap.size from hg)).trans g0
                                  have G1 := (HB4.out.cell (show (⟨g, 1, none⟩ : Addr).block < w1.heap.size from hg)).trans g1
                                  clear g0 g1
                                  obtain ⟨ad0, e0, a0, a1⟩ := at_T66 (Kd.C_below H0.out (HG1.out.below.trans (HB4.out.mono HG1.out.below.size))) (j0 : Int) (by omega) (by omega)
                                  cases e0
                                  obtain ⟨ad1, e1, b0, b1⟩ := at_T66 (Kd.C_below H0.out (HG1.out.below.trans (HB4.out.mono HG1.out.below.size))) (j1 : Int) (by omega) (by omega)
                                  cases e1
                                  simp only [Int.toNat_natCast] at a0 a1 b0 b1
                                  obtain ⟨y0, hy0⟩ : ∃ y, rd_T66 l (j0 : Int) = y := ⟨_, rfl⟩
                                  obtain ⟨y1, hy1⟩ : ∃ y, rd_T66 l (j1 : Int) = y := ⟨_, rfl⟩
                                  rw [hy0] at a0 a1
                                  rw [hy1] at b0 b1
                                  have HY0 := Aside0.mk (rd_at HWs.out hj0 hy0)
                                  have HY1 := Aside0.mk (rd_at HWs.out hj1 hy1)
                                  have HV0 := Aside0.mk (And.intro (HW.out y0 (rd_mem hj0 hy0)) (show y0.f0 = q ∨ y0.f1 = q from by have := HJ0.out.2; rw [HY0.out] at this; exact this))
                                  have HV1 := Aside0.mk (And.intro (HW.out y1 (rd_mem hj1 hy1)) (show y1.f0 = q ∨ y1.f1 = q from by have := HJ1.out.2; rw [HY1.out] at this; exact this))
                                  clear hy0 hy1
                                  have hj0i : (j0 : Int) < (l.length : Int) := by omega
                                  have hj1i : (j1 : Int) < (l.length : Int) := by omega
                                  go_wp2_with fail
                                  have G01 := cell_al (.cells #[.int .i64 0, .int .i64 0] 66) G0
                                  have G02 := cell_al (.cells #[.int .i64 0, .int .i64 0] 66) G01
                                  have G11 := cell_al (.cells #[.int .i64 0, .int .i64 0] 66) G1
                                  have G12 := cell_al (.cells #[.int .i64 0, .int .i64 0] 66) G11
                                  have a01 := cell_al (.cells #[.int .i64 0, .int .i64 0] 66) a0
                                  have a02 := cell_al (.cells #[.int .i64 0, .int .i64 0] 66) a01
                                  have a11 := cell_al (.cells #[.int .i64 0, .int .i64 0] 66) a1
                                  have a12 := cell_al (.cells #[.int .i64 0, .int .i64 0] 66) a11
                                  have b01 := cell_al (.cells #[.int .i64 0, .int .i64 0] 66) b0
                                  have b02 := cell_al (.cells #[.int .i64 0, .int .i64 0] 66) b01
                                  have b11 := cell_al (.cells #[.int .i64 0, .int .i64 0] 66) b1
                                  have b12 := cell_al (.cells #[.int .i64 0, .int .i64 0] 66) b11
                                  have G13 := cell_al (.cells #[.int .i64 y0.f0, .int .i64 y0.f1] 66) G11
                                  have G14 := cell_al (.cells #[.int .i64 0, .int .i64 0] 66) (cell_al (.cells #[.int .i64 y0.f0, .int .i64 y0.f1] 66) G1)
                                  have b03 := cell_al (.cells #[.int .i64 y0.f0, .int .i64 y0.f1] 66) b01
                                  have b04 := cell_al (.cells #[.int .i64 0, .int .i64 0] 66) (cell_al (.cells #[.int .i64 y0.f0, .int .i64 y0.f1] 66) b0)
                                  have b13 := cell_al (.cells #[.int .i64 y0.f0, .int .i64 y0.f1] 66) b11
                                  have b14 := cell_al (.cells #[.int .i64 0, .int .i64 0] 66) (cell_al (.cells #[.int .i64 y0.f0, .int .i64 y0.f1] 66) b1)
                                  have HG0 := Aside0.mk G0
                                  have HG1c := Aside0.mk G1
                                  go_region
                                  all_goals clear G0 G01 G02 G1 G11 G12 a0 a01 a02 a1 a11 a12 b0 b01 b02 b1 b11 b12 G13 G14 b03 b04 b13 b14
                                  · as_aux_lemma =>
                                      obtain ⟨w5, hW5⟩ : ∃ w5, w5 = ((wr.alloc (.cells #[.int .i64 y0.f0, .int .i64 y0.f1] 66)).alloc (.cells #[.int .i64 y1.f0, .int .i64 y1.f1] 66)).drew := ⟨_, rfl⟩
                                      rw [← hW5]
                                      have HA1 := Aside0.mk (show w5.heap[wr.heap.size]? = some (.cells #[.int .i64 y0.f0, .int .i64 y0.f1] 66) by rw [hW5]; exact (two_new wr _ _).1)
                                      have HA2 := Aside0.mk (show w5.heap[wr.heap.size + 1]? = some (.cells #[.int .i64 y1.f0, .int .i64 y1.f1] 66) by rw [hW5]; exact (two_new wr _ _).2)
                                      have HB5 := Aside0.mk (show Below wr.heap.size wr w5 by rw [hW5]; exact (((Below.refl wr.heap.size wr).alloc (Nat.le_refl _) _).alloc (by simp) _).drew)
                                      clear hW5
                                      have x0 : w5.cell? _ = _ := (blk_cell HA1.out 0).trans rfl
                                      have x1 : w5.cell? _ = _ := (blk_cell HA1.out 1).trans rfl
                                      have x2 : w5.cell? _ = _ := (blk_cell HA2.out 0).trans rfl
                                      have x3 : w5.cell? _ = _ := (blk_cell HA2.out 1).trans rfl
                                      obtain ⟨hw0, hoa64⟩ := wrap_other HV0.out.1.1 HV0.out.1.2 HV0.out.2
                                      obtain ⟨hw1, hob64⟩ := wrap_other HV1.out.1.1 HV1.out.1.2 HV1.out.2
                                      have HIF := Aside0.mk (cand_if (i := i) HJ.out hq01.out HY0.out HY1.out)
                                      obtain ⟨oa, hoa⟩ : ∃ oa, y0.f0 + y0.f1 - q = oa := ⟨_, rfl⟩
                                      obtain ⟨ob, hob⟩ : ∃ ob, y1.f0 + y1.f1 - q = ob := ⟨_, rfl⟩
                                      rw [hoa] at hw0 hoa64
                                      rw [hob] at hw1 hob64
                                      have HIF2 := Aside0.mk (show Red.cand W i q = if y0.f0 = y0.f1 ∨ y1.f0 = y1.f1 ∨ oa = ob then none else some (Red.outF i j0 j1 (Red.nrm oa ob) 0 W) by rw [← hoa, ← hob]; exact HIF.out)
                                      have HOA := Aside0.mk (And.intro hoa64 hob64)
                                      clear HIF hoa hob hoa64 hob64
                                      go_wp2_with fail
                                      go_quiet (fail)
                                      rw [hw0, hw1]
                                      have X0 : (w5.drewN nq).cell? _ = _ := x0
                                      have X1 : (w5.drewN nq).cell? _ = _ := x1
                                      have X2 : (w5.drewN nq).cell? _ = _ := x2
                                      have X3 : (w5.drewN nq).cell? _ = _ := x3
                                      have HB6 := Aside0.mk (show Below wr.heap.size wr (w5.drewN nq) from HB5.out.trans ⟨rfl, rfl, rfl, Nat.le_refl _, fun _ _ => rfl⟩)
                                      clear hw0 hw1 x0 x1 x2 x3 HA1 HA2 HB5
                                      generalize w5.drewN nq = w6 at X0 X1 X2 X3 HB6 ⊢
                                      have HBX := Aside0.mk (HB3.out.trans (HB6.out.mono HB3.out.size))
                                      by_cases z0 : y0.f0 = y0.f1
                                      · as_aux_lemma =>
                                          have HN := Aside0.mk (show Red.cand W i q = none by rw [HIF2.out, if_pos (.inl z0)])
                                          have z1 : (y0.f0 == y0.f1) = true := beq_iff_eq.mpr z0
                                          clear z0
                                          go_wp2_with fail
                                          go_roundw
                                          case rel => exact ⟨k + 1, by push_cast; rfl, by omega, ⟨HBX.out⟩, ⟨next_k hk2 HQ.out HN.out HC.out⟩⟩
                                          case measure => simp [intOf]; omega
                                      · as_aux_lemma =>
                                          by_cases z1 : y1.f0 = y1.f1
                                          · as_aux_lemma =>
                                              have HN := Aside0.mk (show Red.cand W i q = none by rw [HIF2.out, if_pos (.inr (.inl z1))])
                                              have z2 : (y0.f0 == y0.f1) = false := beq_eq_false_iff_ne.mpr z0
                                              have z3 : (y1.f0 == y1.f1) = true := beq_iff_eq.mpr z1
                                              clear z0 z1
                                              go_wp2_with fail
                                              go_roundw
                                              case rel => exact ⟨k + 1, by push_cast; rfl, by omega, ⟨HBX.out⟩, ⟨next_k hk2 HQ.out HN.out HC.out⟩⟩
                                              case measure => simp [intOf]; omega
                                          · as_aux_lemma =>
                                              by_cases z4 : oa = ob
                                              · as_aux_lemma =>
                                                  have HN := Aside0.mk (show Red.cand W i q = none by rw [HIF2.out, if_pos (.inr (.inr z4))])
                                                  have z2 : (y0.f0 == y0.f1) = false := beq_eq_false_iff_ne.mpr z0
                                                  have z3 : (y1.f0 == y1.f1) = false := beq_eq_false_iff_ne.mpr z1
                                                  have z5 : (oa == ob) = true := beq_iff_eq.mpr z4
                                                  clear z0 z1 z4
                                                  go_wp2_with fail
                                                  go_roundw
                                                  case rel => exact ⟨k + 1, by push_cast; rfl, by omega, ⟨HBX.out⟩, ⟨next_k hk2 HQ.out HN.out HC.out⟩⟩
                                                  case measure => simp [intOf]; omega
                                              · as_aux_lemma =>
                                                  have HS := Aside0.mk (show Red.cand W i q = some (Red.outF i j0 j1 (Red.nrm oa ob) 0 W) by rw [HIF2.out, if_neg (fun h => h.elim z0 (fun h => h.elim z1 z4))])
                                                  have z2 : (y0.f0 == y0.f1) = false := beq_eq_false_iff_ne.mpr z0
                                                  have z3 : (y1.f0 == y1.f1) = false := beq_eq_false_iff_ne.mpr z1
                                                  have z5 : (oa == ob) = false := beq_eq_false_iff_ne.mpr z4
                                                  clear z0 z1 z4
                                                  obtain ⟨Z3, hZ3⟩ : ∃ Z3, Red.outF i j0 j1 (Red.nrm oa ob) 0 W = Z3 := ⟨_, rfl⟩
                                                  have HRES := Aside0.mk (show r1 = Z3.map de ∧ r2 = true by
                                                    have hr := HR2.out
                                                    rw [← HZ3.out, straight_k hk2 HQ.out HS.out HC.out, hZ3] at hr
                                                    simp only [Prod.mk.injEq] at hr
                                                    exact ⟨hr.1.symm, hr.2.symm⟩)
                                                  have HOF := Aside0.mk (show List.map ed ([] : List E66) ++ Red.outF i j0 j1 (Red.nrm oa ob) 0 (W.drop 0) = Z3 by rw [List.drop_zero]; exact hZ3)
                                                  have HZL := Aside0.mk (show Z3.length ≤ 1000 by rw [← hZ3]; exact Nat.le_trans (out_len _ _) (by omega))
                                                  have HJ6 := Aside0.mk (And.intro ((HB6.out.cell (World.block_lt_of_cell? wr _ HG0.out)).trans HG0.out) ((HB6.out.cell (World.block_lt_of_cell? wr _ HG1c.out)).trans HG1c.out))
                                                  have HBW6 := Aside0.mk ((HG1.out.below.trans (HB4.out.mono HG1.out.below.size)).trans (HB6.out.mono (Nat.le_trans HG1.out.below.size HB4.out.size)))
                                                  have HMN := Aside0.mk (nrm_mn oa ob)
                                                  clear hZ3
                                                  go_wp2_with fail
                                                  clear z2 z3 z5 X0 X1 X2 X3 L0 hq1 hq2 c0
                                                  have hkd : decide ((k : Int) < 2) = true := decide_eq_true (by omega)
                                                  simp only [hkd]
                                                  clear hkd
                                                  go_loopw [16, 129] (fun v kv w8 => ∃ (m : Nat) (out : List E66), kv = .int .i64 (m : Int) ∧ m ≤ l.length ∧ Aside0 (Kd.R k66 66 w8 w6.heap.size (fun _ => True) v out) ∧ Aside0 (Below w6.heap.size w6 w8) ∧ Aside0 (out.map ed ++ Red.outF i j0 j1 (Red.nrm oa ob) m (W.drop m) = Z3)) (fun _ kv _ => l.length - (intOf kv).toNat)
                                                  case atStart => exact ⟨0, [], rfl, Nat.zero_le _, ⟨Kd.R_nil _ _ _ _ _⟩, ⟨Below.refl _ _⟩, HOF⟩
                                                  case round =>
                                                    as_aux_lemma =>
                                                      clear HOF
                                                      obtain ⟨m, out, rfl, hm, HRO, HB8, HOF⟩ := hrel
                                                      by_cases hmlt : m < l.length
                                                      rotate_left
                                                      · as_aux_lemma =>
                                                          have HE := Aside0.mk (show r1 = out by
                                                            have hz := HOF.out
                                                            rw [List.drop_eq_nil_of_le (by omega)] at hz
                                                            simp only [Red.outF, List.append_nil] at hz
                                                            rw [HRES.out.1, ← hz, map_de_ed])
                                                          go_wp2_with fail
                                                          go_ret2
                                                          have HB := HBW6.out.trans (HB8.out.mono HBW6.out.size)
                                                          exact ⟨u16, by rw [HRES.out.2]; rfl, fun base hb _ => by rw [HE.out]; exact Kd.R_lower HRO.out (Nat.le_trans hb HBW6.out.size), HB⟩
                                                      · as_aux_lemma =>
                                                          have hxm : rd_T66 l (m : Int) = l[m] := by
                                                            unfold rd_T66
                                                            rw [Int.toNat_natCast, List.getD_eq_getElem?_getD, List.getElem?_eq_getElem hmlt]; rfl
                                                          obtain ⟨ad, e0, q0, q1⟩ := at_T66 (Kd.C_below H0.out (HBW6.out.trans (HB8.out.mono HBW6.out.size))) (m : Int) (by omega) (by omega)
                                                          rw [hxm] at q0 q1
                                                          simp only [Int.toNat_natCast] at q0 q1
                                                          cases e0
                                                          have hmW : m < W.length := by omega
                                                          have hWm : W[m] = ed l[m] := by simp only [HWs.out, List.getElem_map]
                                                          have hzz := HOF.out
                                                          rw [List.drop_eq_getElem_cons hmW, hWm, out_at] at hzz
                                                          have HO9 := Aside0.mk hzz
                                                          clear hzz hWm HOF
                                                          generalize l[m] = x9 at q0 q1 HO9
                                                          have HOL := Aside0.mk (show out.length ≤ 1000 by
                                                            have h1 := congrArg List.length HO9.out
                                                            have h2 := HZL.out
                                                            rw [List.length_append, List.length_map] at h1
                                                            omega)
                                                          have hz := heap_alloc_new wr (.cells #[.int .i64 0, .int .i64 0] 66)
                                                          have hg7 := setRow_heap _ _ _ #[.int .i64 x9.f0, .int .i64 x9.f1] _ _ hz
                                                          have hB7 := below_setRow ((Below.refl wr.heap.size wr).alloc (Nat.le_refl _) (.cells #[.int .i64 0, .int .i64 0] 66)) (Nat.le_refl wr.heap.size) #[.int .i64 x9.f0, .int .i64 x9.f1]
                                                          have HZ9 := Aside0.mk hz
                                                          have HBw9 := Aside0.mk (HB8.out.trans (hB7.mono HB8.out.size))
                                                          have HRw9 := Aside0.mk (Kd.R_step HRO.out (fun k _ hk => hB7.block k hk))
                                                          have HGR9 := Aside0.mk hg7
                                                          have r0 := (blk_cell hg7 0).trans rfl
                                                          have r1c := (blk_cell hg7 1).trans rfl
                                                          have t0 := ((HBw9.out.cell (World.block_lt_of_cell? w6 _ HJ6.out.1)).trans HJ6.out.1)
                                                          have t1 := ((HBw9.out.cell (World.block_lt_of_cell? w6 _ HJ6.out.2)).trans HJ6.out.2)
                                                          clear hz hg7 hB7
                                                          by_cases hmi : m = i
                                                          · as_aux_lemma =>
                                                              have HMI := Aside0.mk hmi
                                                              have m1 : ((m : Int) == (i : Int)) = true := beq_iff_eq.mpr (by omega)
                                                              clear hmi t0 t1
                                                              go_wp2_with (first | ((with_reducible refine gate_store (t := 66) (p := 18) (v := .tmp 133) rfl ?_); refine wpList_store_row rfl 66 (.tmp 18) (.tmp 133) rfl wr.heap.size #[.int .i64 x9.f0, .int .i64 x9.f1] rfl rfl 66 _ HZ9.out (by rw [hi2]; rfl) rfl (by kernel_rfl) ?_; generalize hW7 : (wr.alloc (.cells #[.int .i64 0, .int .i64 0] 66)).setRow wr.heap.size #[.int .i64 x9.f0, .int .i64 x9.f1] = w9 at r0 r1c HBw9 HRw9 HGR9 ⊢; clear hW7) | ((with_reducible refine gate_callee (f := 28) rfl ?_); refine goesL_ (some 141) rfl rfl Try.func28 (by kernel_rfl) rfl #[.int .i64 oa, .int .i64 ob] rfl (by (try simp only [List.map_toArray, List.map_cons, List.map_nil]); first | done | rfl) ?_; (with_reducible refine (PPo.power_of.calls oa ob (mn oa ob) (mx oa ob) _ rfl).mono ?_); rintro e w10 ⟨rfl, hb⟩; refine ⟨_, rfl, ?_⟩; have HR10 := Aside0.mk (Kd.R_below HRw9.out hb); have HB10 := Aside0.mk (HBw9.out.trans (hb.mono HBw9.out.size)); clear hb) | ((with_reducible refine gate_builtin (b := .append) (xs := #[.tmp 138, .tmp 142]) rfl ?_); at_builtin; refine Kd.R_append k66 (w0 := w6) w6.heap.size rfl (.tmp 138) (.tmp 142) 64 66 (.agg #[(.int .i64 0), (.int .i64 0)]) 16 rfl Try.underlying64 info66 rfl (by decide) (by omega) u16 out (⟨mn oa ob, mx oa ob⟩ : E66) [.int .i64 (mn oa ob), .int .i64 (mx oa ob)] (fun _ => True) (fun _ => False) rfl rfl ?aP (fun _ hk => hk.elim) ?aF ?aO ?aB ?aS ?aL ?_; (case aP => exact k66_mkM _ _ _ (⟨mn oa ob, mx oa ob⟩ : E66)); (case aB => exact HB10.out); (case aF => exact (fun _ _ => trivial)); (case aO => exact HR10.out); (case aS => exact HB10.out.size); (case aL => have := HOL.out; omega); intro v11 w11 ho hb hg hat; have HO11 := Aside0.mk ho; have HB11 := Aside0.mk hb; clear ho hb hg hat))
                                                              go_roundw
                                                              case rel => exact ⟨m + 1, out ++ [⟨mn oa ob, mx oa ob⟩], by push_cast; rfl, by omega, HO11, HB11, ⟨by
                                                                have hz := HO9.out
                                                                rw [if_pos HMI.out, HMN.out] at hz
                                                                rw [List.map_append, List.append_assoc, HMN.out]
                                                                exact hz⟩⟩
                                                              case measure => simp [intOf]; omega
                                                          · as_aux_lemma =>
                                                              have HMI := Aside0.mk hmi
                                                              have m1 : ((m : Int) == (i : Int)) = false := beq_eq_false_iff_ne.mpr (by omega)
                                                              clear hmi
                                                              by_cases hm0 : m = j0
                                                              · as_aux_lemma =>
                                                                  have m2 : ((m : Int) != (j0 : Int)) = false := bne_eq_false_iff_eq.mpr (by omega)
                                                                  have HM0 := Aside0.mk hm0
                                                                  clear hm0
                                                                  go_wp2_with ((with_reducible refine gate_store (t := 66) (p := 18) (v := .tmp 133) rfl ?_); refine wpList_store_row rfl 66 (.tmp 18) (.tmp 133) rfl wr.heap.size #[.int .i64 x9.f0, .int .i64 x9.f1] rfl rfl 66 _ HZ9.out (by rw [hi2]; rfl) rfl (by kernel_rfl) ?_; generalize hW7 : (wr.alloc (.cells #[.int .i64 0, .int .i64 0] 66)).setRow wr.heap.size #[.int .i64 x9.f0, .int .i64 x9.f1] = w9 at r0 r1c HBw9 HRw9 HGR9 t0 t1 ⊢; clear hW7)
                                                                  go_roundw
                                                                  case rel => exact ⟨m + 1, out, by push_cast; rfl, by omega, HRw9, HBw9, ⟨by
                                                                    have hz := HO9.out
                                                                    rw [if_neg HMI.out, if_neg (fun h => h.1 HM0.out)] at hz
                                                                    exact hz⟩⟩
                                                                  case measure => simp [intOf]; omega
                                                              · as_aux_lemma =>
                                                                  have m2 : ((m : Int) != (j0 : Int)) = true := bne_iff_ne.mpr (by omega)
                                                                  have HM0 := Aside0.mk hm0
                                                                  clear hm0
                                                                  by_cases hm1 : m = j1
                                                                  · as_aux_lemma =>
                                                                      have m3 : ((m : Int) != (j1 : Int)) = false := bne_eq_false_iff_eq.mpr (by omega)
                                                                      have HM1 := Aside0.mk hm1
                                                                      clear hm1
                                                                      go_wp2_with ((with_reducible refine gate_store (t := 66) (p := 18) (v := .tmp 133) rfl ?_); refine wpList_store_row rfl 66 (.tmp 18) (.tmp 133) rfl wr.heap.size #[.int .i64 x9.f0, .int .i64 x9.f1] rfl rfl 66 _ HZ9.out (by rw [hi2]; rfl) rfl (by kernel_rfl) ?_; generalize hW7 : (wr.alloc (.cells #[.int .i64 0, .int .i64 0] 66)).setRow wr.heap.size #[.int .i64 x9.f0, .int .i64 x9.f1] = w9 at r0 r1c HBw9 HRw9 HGR9 t0 t1 ⊢; clear hW7)
                                                                      go_roundw
                                                                      case rel => exact ⟨m + 1, out, by push_cast; rfl, by omega, HRw9, HBw9, ⟨by
                                                                        have hz := HO9.out
                                                                        rw [if_neg HMI.out, if_neg (fun h => h.2 HM1.out)] at hz
                                                                        exact hz⟩⟩
                                                                      case measure => simp [intOf]; omega
                                                                  · as_aux_lemma =>
                                                                      have m3 : ((m : Int) != (j1 : Int)) = true := bne_iff_ne.mpr (by omega)
                                                                      have HM1 := Aside0.mk hm1
                                                                      clear hm1
                                                                      go_wp2_with (first | ((with_reducible refine gate_store (t := 66) (p := 18) (v := .tmp 133) rfl ?_); refine wpList_store_row rfl 66 (.tmp 18) (.tmp 133) rfl wr.heap.size #[.int .i64 x9.f0, .int .i64 x9.f1] rfl rfl 66 _ HZ9.out (by rw [hi2]; rfl) rfl (by kernel_rfl) ?_; generalize hW7 : (wr.alloc (.cells #[.int .i64 0, .int .i64 0] 66)).setRow wr.heap.size #[.int .i64 x9.f0, .int .i64 x9.f1] = w9 at r0 r1c HBw9 HRw9 HGR9 t0 t1 ⊢; clear hW7) | ((with_reducible refine gate_builtin (b := .append) (xs := #[.tmp 157, .tmp 159]) rfl ?_); at_builtin; refine Kd.R_append k66 (w0 := w6) w6.heap.size rfl (.tmp 157) (.tmp 159) 64 66 (.agg #[(.int .i64 0), (.int .i64 0)]) 16 rfl Try.underlying64 info66 rfl (by decide) (by omega) u16 out x9 [.int .i64 x9.f0, .int .i64 x9.f1] (fun _ => True) (fun _ => False) rfl rfl ?aP (fun _ hk => hk.elim) ?aF ?aO ?aB ?aS ?aL ?_; (case aP => exact k66_mkM _ _ _ x9); (case aB => exact HBw9.out); (case aF => exact (fun _ _ => trivial)); (case aO => exact HRw9.out); (case aS => exact HBw9.out.size); (case aL => have := HOL.out; omega); intro v11 w11 ho hb hg hat; have HO11 := Aside0.mk ho; have HB11 := Aside0.mk hb; clear ho hb hg hat))
                                                                      go_roundw
                                                                      case rel => exact ⟨m + 1, out ++ [x9], by push_cast; rfl, by omega, HO11, HB11, ⟨by
                                                                        have hz := HO9.out
                                                                        rw [if_neg HMI.out, if_pos ⟨HM0.out, HM1.out⟩] at hz
                                                                        rw [List.map_append, List.append_assoc]
                                                                        exact hz⟩⟩
                                                                      case measure => simp [intOf]; omega
                                  · as_aux_lemma =>
                                      obtain ⟨w5, hW5⟩ : ∃ w5, w5 = ((wr.alloc (.cells #[.int .i64 y1.f0, .int .i64 y1.f1] 66)).alloc (.cells #[.int .i64 y0.f0, .int .i64 y0.f1] 66)).drew := ⟨_, rfl⟩
                                      rw [← hW5]
                                      have HA1 := Aside0.mk (show w5.heap[wr.heap.size + 1]? = some (.cells #[.int .i64 y0.f0, .int .i64 y0.f1] 66) by rw [hW5]; exact (two_new wr _ _).2)
                                      have HA2 := Aside0.mk (show w5.heap[wr.heap.size]? = some (.cells #[.int .i64 y1.f0, .int .i64 y1.f1] 66) by rw [hW5]; exact (two_new wr _ _).1)
                                      have HB5 := Aside0.mk (show Below wr.heap.size wr w5 by rw [hW5]; exact (((Below.refl wr.heap.size wr).alloc (Nat.le_refl _) _).alloc (by simp) _).drew)
                                      clear hW5
                                      have x0 : w5.cell? _ = _ := (blk_cell HA1.out 0).trans rfl
                                      have x1 : w5.cell? _ = _ := (blk_cell HA1.out 1).trans rfl
                                      have x2 : w5.cell? _ = _ := (blk_cell HA2.out 0).trans rfl
                                      have x3 : w5.cell? _ = _ := (blk_cell HA2.out 1).trans rfl
                                      obtain ⟨hw0, hoa64⟩ := wrap_other HV0.out.1.1 HV0.out.1.2 HV0.out.2
                                      obtain ⟨hw1, hob64⟩ := wrap_other HV1.out.1.1 HV1.out.1.2 HV1.out.2
                                      have HIF := Aside0.mk (cand_if (i := i) HJ.out hq01.out HY0.out HY1.out)
                                      obtain ⟨oa, hoa⟩ : ∃ oa, y0.f0 + y0.f1 - q = oa := ⟨_, rfl⟩
                                      obtain ⟨ob, hob⟩ : ∃ ob, y1.f0 + y1.f1 - q = ob := ⟨_, rfl⟩
                                      rw [hoa] at hw0 hoa64
                                      rw [hob] at hw1 hob64
                                      have HIF2 := Aside0.mk (show Red.cand W i q = if y0.f0 = y0.f1 ∨ y1.f0 = y1.f1 ∨ oa = ob then none else some (Red.outF i j0 j1 (Red.nrm oa ob) 0 W) by rw [← hoa, ← hob]; exact HIF.out)
                                      have HOA := Aside0.mk (And.intro hoa64 hob64)
                                      clear HIF hoa hob hoa64 hob64
                                      go_wp2_with fail
                                      go_quiet (fail)
                                      rw [hw0, hw1]
                                      have X0 : (w5.drewN nq).cell? _ = _ := x0
                                      have X1 : (w5.drewN nq).cell? _ = _ := x1
                                      have X2 : (w5.drewN nq).cell? _ = _ := x2
                                      have X3 : (w5.drewN nq).cell? _ = _ := x3
                                      have HB6 := Aside0.mk (show Below wr.heap.size wr (w5.drewN nq) from HB5.out.trans ⟨rfl, rfl, rfl, Nat.le_refl _, fun _ _ => rfl⟩)
                                      clear hw0 hw1 x0 x1 x2 x3 HA1 HA2 HB5
                                      generalize w5.drewN nq = w6 at X0 X1 X2 X3 HB6 ⊢
                                      have HBX := Aside0.mk (HB3.out.trans (HB6.out.mono HB3.out.size))
                                      by_cases z0 : y0.f0 = y0.f1
                                      · as_aux_lemma =>
                                          have HN := Aside0.mk (show Red.cand W i q = none by rw [HIF2.out, if_pos (.inl z0)])
                                          have z1 : (y0.f0 == y0.f1) = true := beq_iff_eq.mpr z0
                                          clear z0
                                          go_wp2_with fail
                                          go_roundw
                                          case rel => exact ⟨k + 1, by push_cast; rfl, by omega, ⟨HBX.out⟩, ⟨next_k hk2 HQ.out HN.out HC.out⟩⟩
                                          case measure => simp [intOf]; omega
                                      · as_aux_lemma =>
                                          by_cases z1 : y1.f0 = y1.f1
                                          · as_aux_lemma =>
                                              have HN := Aside0.mk (show Red.cand W i q = none by rw [HIF2.out, if_pos (.inr (.inl z1))])
                                              have z2 : (y0.f0 == y0.f1) = false := beq_eq_false_iff_ne.mpr z0
                                              have z3 : (y1.f0 == y1.f1) = true := beq_iff_eq.mpr z1
                                              clear z0 z1
                                              go_wp2_with fail
                                              go_roundw
                                              case rel => exact ⟨k + 1, by push_cast; rfl, by omega, ⟨HBX.out⟩, ⟨next_k hk2 HQ.out HN.out HC.out⟩⟩
                                              case measure => simp [intOf]; omega
                                          · as_aux_lemma =>
                                              by_cases z4 : oa = ob
                                              · as_aux_lemma =>
                                                  have HN := Aside0.mk (show Red.cand W i q = none by rw [HIF2.out, if_pos (.inr (.inr z4))])
                                                  have z2 : (y0.f0 == y0.f1) = false := beq_eq_false_iff_ne.mpr z0
                                                  have z3 : (y1.f0 == y1.f1) = false := beq_eq_false_iff_ne.mpr z1
                                                  have z5 : (oa == ob) = true := beq_iff_eq.mpr z4
                                                  clear z0 z1 z4
                                                  go_wp2_with fail
                                                  go_roundw
                                                  case rel => exact ⟨k + 1, by push_cast; rfl, by omega, ⟨HBX.out⟩, ⟨next_k hk2 HQ.out HN.out HC.out⟩⟩
                                                  case measure => simp [intOf]; omega
                                              · as_aux_lemma =>
                                                  have HS := Aside0.mk (show Red.cand W i q = some (Red.outF i j0 j1 (Red.nrm oa ob) 0 W) by rw [HIF2.out, if_neg (fun h => h.elim z0 (fun h => h.elim z1 z4))])
                                                  have z2 : (y0.f0 == y0.f1) = false := beq_eq_false_iff_ne.mpr z0
                                                  have z3 : (y1.f0 == y1.f1) = false := beq_eq_false_iff_ne.mpr z1
                                                  have z5 : (oa == ob) = false := beq_eq_false_iff_ne.mpr z4
                                                  clear z0 z1 z4
                                                  obtain ⟨Z3, hZ3⟩ : ∃ Z3, Red.outF i j0 j1 (Red.nrm oa ob) 0 W = Z3 := ⟨_, rfl⟩
                                                  have HRES := Aside0.mk (show r1 = Z3.map de ∧ r2 = true by
                                                    have hr := HR2.out
                                                    rw [← HZ3.out, straight_k hk2 HQ.out HS.out HC.out, hZ3] at hr
                                                    simp only [Prod.mk.injEq] at hr
                                                    exact ⟨hr.1.symm, hr.2.symm⟩)
                                                  have HOF := Aside0.mk (show List.map ed ([] : List E66) ++ Red.outF i j0 j1 (Red.nrm oa ob) 0 (W.drop 0) = Z3 by rw [List.drop_zero]; exact hZ3)
                                                  have HZL := Aside0.mk (show Z3.length ≤ 1000 by rw [← hZ3]; exact Nat.le_trans (out_len _ _) (by omega))
                                                  have HJ6 := Aside0.mk (And.intro ((HB6.out.cell (World.block_lt_of_cell? wr _ HG0.out)).trans HG0.out) ((HB6.out.cell (World.block_lt_of_cell? wr _ HG1c.out)).trans HG1c.out))
                                                  have HBW6 := Aside0.mk ((HG1.out.below.trans (HB4.out.mono HG1.out.below.size)).trans (HB6.out.mono (Nat.le_trans HG1.out.below.size HB4.out.size)))
                                                  have HMN := Aside0.mk (nrm_mn oa ob)
                                                  clear hZ3
                                                  go_wp2_with fail
                                                  clear z2 z3 z5 X0 X1 X2 X3 L0 hq1 hq2 c0
                                                  have hkd : decide ((k : Int) < 2) = true := decide_eq_true (by omega)
                                                  simp only [hkd]
                                                  clear hkd
                                                  go_loopw [16, 129] (fun v kv w8 => ∃ (m : Nat) (out : List E66), kv = .int .i64 (m : Int) ∧ m ≤ l.length ∧ Aside0 (Kd.R k66 66 w8 w6.heap.size (fun _ => True) v out) ∧ Aside0 (Below w6.heap.size w6 w8) ∧ Aside0 (out.map ed ++ Red.outF i j0 j1 (Red.nrm oa ob) m (W.drop m) = Z3)) (fun _ kv _ => l.length - (intOf kv).toNat)
                                                  case atStart => exact ⟨0, [], rfl, Nat.zero_le _, ⟨Kd.R_nil _ _ _ _ _⟩, ⟨Below.refl _ _⟩, HOF⟩
                                                  case round =>
                                                    as_aux_lemma =>
                                                      clear HOF
                                                      obtain ⟨m, out, rfl, hm, HRO, HB8, HOF⟩ := hrel
                                                      by_cases hmlt : m < l.length
                                                      rotate_left
                                                      · as_aux_lemma =>
                                                          have HE := Aside0.mk (show r1 = out by
                                                            have hz := HOF.out
                                                            rw [List.drop_eq_nil_of_le (by omega)] at hz
                                                            simp only [Red.outF, List.append_nil] at hz
                                                            rw [HRES.out.1, ← hz, map_de_ed])
                                                          go_wp2_with fail
                                                          go_ret2
                                                          have HB := HBW6.out.trans (HB8.out.mono HBW6.out.size)
                                                          exact ⟨u16, by rw [HRES.out.2]; rfl, fun base hb _ => by rw [HE.out]; exact Kd.R_lower HRO.out (Nat.le_trans hb HBW6.out.size), HB⟩
                                                      · as_aux_lemma =>
                                                          have hxm : rd_T66 l (m : Int) = l[m] := by
                                                            unfold rd_T66
                                                            rw [Int.toNat_natCast, List.getD_eq_getElem?_getD, List.getElem?_eq_getElem hmlt]; rfl
                                                          obtain ⟨ad, e0, q0, q1⟩ := at_T66 (Kd.C_below H0.out (HBW6.out.trans (HB8.out.mono HBW6.out.size))) (m : Int) (by omega) (by omega)
                                                          rw [hxm] at q0 q1
                                                          simp only [Int.toNat_natCast] at q0 q1
                                                          cases e0
                                                          have hmW : m < W.length := by omega
                                                          have hWm : W[m] = ed l[m] := by simp only [HWs.out, List.getElem_map]
                                                          have hzz := HOF.out
                                                          rw [List.drop_eq_getElem_cons hmW, hWm, out_at] at hzz
                                                          have HO9 := Aside0.mk hzz
                                                          clear hzz hWm HOF
                                                          generalize l[m] = x9 at q0 q1 HO9
                                                          have HOL := Aside0.mk (show out.length ≤ 1000 by
                                                            have h1 := congrArg List.length HO9.out
                                                            have h2 := HZL.out
                                                            rw [List.length_append, List.length_map] at h1
                                                            omega)
                                                          have hz := heap_alloc_new wr (.cells #[.int .i64 0, .int .i64 0] 66)
                                                          have hg7 := setRow_heap _ _ _ #[.int .i64 x9.f0, .int .i64 x9.f1] _ _ hz
                                                          have hB7 := below_setRow ((Below.refl wr.heap.size wr).alloc (Nat.le_refl _) (.cells #[.int .i64 0, .int .i64 0] 66)) (Nat.le_refl wr.heap.size) #[.int .i64 x9.f0, .int .i64 x9.f1]
                                                          have HZ9 := Aside0.mk hz
                                                          have HBw9 := Aside0.mk (HB8.out.trans (hB7.mono HB8.out.size))
                                                          have HRw9 := Aside0.mk (Kd.R_step HRO.out (fun k _ hk => hB7.block k hk))
                                                          have HGR9 := Aside0.mk hg7
                                                          have r0 := (blk_cell hg7 0).trans rfl
                                                          have r1c := (blk_cell hg7 1).trans rfl
                                                          have t0 := ((HBw9.out.cell (World.block_lt_of_cell? w6 _ HJ6.out.1)).trans HJ6.out.1)
                                                          have t1 := ((HBw9.out.cell (World.block_lt_of_cell? w6 _ HJ6.out.2)).trans HJ6.out.2)
                                                          clear hz hg7 hB7
                                                          by_cases hmi : m = i
                                                          · as_aux_lemma =>
                                                              have HMI := Aside0.mk hmi
                                                              have m1 : ((m : Int) == (i : Int)) = true := beq_iff_eq.mpr (by omega)
                                                              clear hmi t0 t1
                                                              go_wp2_with (first | ((with_reducible refine gate_store (t := 66) (p := 18) (v := .tmp 133) rfl ?_); refine wpList_store_row rfl 66 (.tmp 18) (.tmp 133) rfl wr.heap.size #[.int .i64 x9.f0, .int .i64 x9.f1] rfl rfl 66 _ HZ9.out (by rw [hi2]; rfl) rfl (by kernel_rfl) ?_; generalize hW7 : (wr.alloc (.cells #[.int .i64 0, .int .i64 0] 66)).setRow wr.heap.size #[.int .i64 x9.f0, .int .i64 x9.f1] = w9 at r0 r1c HBw9 HRw9 HGR9 ⊢; clear hW7) | ((with_reducible refine gate_callee (f := 28) rfl ?_); refine goesL_ (some 141) rfl rfl Try.func28 (by kernel_rfl) rfl #[.int .i64 oa, .int .i64 ob] rfl (by (try simp only [List.map_toArray, List.map_cons, List.map_nil]); first | done | rfl) ?_; (with_reducible refine (PPo.power_of.calls oa ob (mn oa ob) (mx oa ob) _ rfl).mono ?_); rintro e w10 ⟨rfl, hb⟩; refine ⟨_, rfl, ?_⟩; have HR10 := Aside0.mk (Kd.R_below HRw9.out hb); have HB10 := Aside0.mk (HBw9.out.trans (hb.mono HBw9.out.size)); clear hb) | ((with_reducible refine gate_builtin (b := .append) (xs := #[.tmp 138, .tmp 142]) rfl ?_); at_builtin; refine Kd.R_append k66 (w0 := w6) w6.heap.size rfl (.tmp 138) (.tmp 142) 64 66 (.agg #[(.int .i64 0), (.int .i64 0)]) 16 rfl Try.underlying64 info66 rfl (by decide) (by omega) u16 out (⟨mn oa ob, mx oa ob⟩ : E66) [.int .i64 (mn oa ob), .int .i64 (mx oa ob)] (fun _ => True) (fun _ => False) rfl rfl ?aP (fun _ hk => hk.elim) ?aF ?aO ?aB ?aS ?aL ?_; (case aP => exact k66_mkM _ _ _ (⟨mn oa ob, mx oa ob⟩ : E66)); (case aB => exact HB10.out); (case aF => exact (fun _ _ => trivial)); (case aO => exact HR10.out); (case aS => exact HB10.out.size); (case aL => have := HOL.out; omega); intro v11 w11 ho hb hg hat; have HO11 := Aside0.mk ho; have HB11 := Aside0.mk hb; clear ho hb hg hat))
                                                              go_roundw
                                                              case rel => exact ⟨m + 1, out ++ [⟨mn oa ob, mx oa ob⟩], by push_cast; rfl, by omega, HO11, HB11, ⟨by
                                                                have hz := HO9.out
                                                                rw [if_pos HMI.out, HMN.out] at hz
                                                                rw [List.map_append, List.append_assoc, HMN.out]
                                                                exact hz⟩⟩
                                                              case measure => simp [intOf]; omega
                                                          · as_aux_lemma =>
                                                              have HMI := Aside0.mk hmi
                                                              have m1 : ((m : Int) == (i : Int)) = false := beq_eq_false_iff_ne.mpr (by omega)
                                                              clear hmi
                                                              by_cases hm0 : m = j0
                                                              · as_aux_lemma =>
                                                                  have m2 : ((m : Int) != (j0 : Int)) = false := bne_eq_false_iff_eq.mpr (by omega)
                                                                  have HM0 := Aside0.mk hm0
                                                                  clear hm0
                                                                  go_wp2_with ((with_reducible refine gate_store (t := 66) (p := 18) (v := .tmp 133) rfl ?_); refine wpList_store_row rfl 66 (.tmp 18) (.tmp 133) rfl wr.heap.size #[.int .i64 x9.f0, .int .i64 x9.f1] rfl rfl 66 _ HZ9.out (by rw [hi2]; rfl) rfl (by kernel_rfl) ?_; generalize hW7 : (wr.alloc (.cells #[.int .i64 0, .int .i64 0] 66)).setRow wr.heap.size #[.int .i64 x9.f0, .int .i64 x9.f1] = w9 at r0 r1c HBw9 HRw9 HGR9 t0 t1 ⊢; clear hW7)
                                                                  go_roundw
                                                                  case rel => exact ⟨m + 1, out, by push_cast; rfl, by omega, HRw9, HBw9, ⟨by
                                                                    have hz := HO9.out
                                                                    rw [if_neg HMI.out, if_neg (fun h => h.1 HM0.out)] at hz
                                                                    exact hz⟩⟩
                                                                  case measure => simp [intOf]; omega
                                                              · as_aux_lemma =>
                                                                  have m2 : ((m : Int) != (j0 : Int)) = true := bne_iff_ne.mpr (by omega)
                                                                  have HM0 := Aside0.mk hm0
                                                                  clear hm0
                                                                  by_cases hm1 : m = j1
                                                                  · as_aux_lemma =>
                                                                      have m3 : ((m : Int) != (j1 : Int)) = false := bne_eq_false_iff_eq.mpr (by omega)
                                                                      have HM1 := Aside0.mk hm1
                                                                      clear hm1
                                                                      go_wp2_with ((with_reducible refine gate_store (t := 66) (p := 18) (v := .tmp 133) rfl ?_); refine wpList_store_row rfl 66 (.tmp 18) (.tmp 133) rfl wr.heap.size #[.int .i64 x9.f0, .int .i64 x9.f1] rfl rfl 66 _ HZ9.out (by rw [hi2]; rfl) rfl (by kernel_rfl) ?_; generalize hW7 : (wr.alloc (.cells #[.int .i64 0, .int .i64 0] 66)).setRow wr.heap.size #[.int .i64 x9.f0, .int .i64 x9.f1] = w9 at r0 r1c HBw9 HRw9 HGR9 t0 t1 ⊢; clear hW7)
                                                                      go_roundw
                                                                      case rel => exact ⟨m + 1, out, by push_cast; rfl, by omega, HRw9, HBw9, ⟨by
                                                                        have hz := HO9.out
                                                                        rw [if_neg HMI.out, if_neg (fun h => h.2 HM1.out)] at hz
                                                                        exact hz⟩⟩
                                                                      case measure => simp [intOf]; omega
                                                                  · as_aux_lemma =>
                                                                      have m3 : ((m : Int) != (j1 : Int)) = true := bne_iff_ne.mpr (by omega)
                                                                      have HM1 := Aside0.mk hm1
                                                                      clear hm1
                                                                      go_wp2_with (first | ((with_reducible refine gate_store (t := 66) (p := 18) (v := .tmp 133) rfl ?_); refine wpList_store_row rfl 66 (.tmp 18) (.tmp 133) rfl wr.heap.size #[.int .i64 x9.f0, .int .i64 x9.f1] rfl rfl 66 _ HZ9.out (by rw [hi2]; rfl) rfl (by kernel_rfl) ?_; generalize hW7 : (wr.alloc (.cells #[.int .i64 0, .int .i64 0] 66)).setRow wr.heap.size #[.int .i64 x9.f0, .int .i64 x9.f1] = w9 at r0 r1c HBw9 HRw9 HGR9 t0 t1 ⊢; clear hW7) | ((with_reducible refine gate_builtin (b := .append) (xs := #[.tmp 157, .tmp 159]) rfl ?_); at_builtin; refine Kd.R_append k66 (w0 := w6) w6.heap.size rfl (.tmp 157) (.tmp 159) 64 66 (.agg #[(.int .i64 0), (.int .i64 0)]) 16 rfl Try.underlying64 info66 rfl (by decide) (by omega) u16 out x9 [.int .i64 x9.f0, .int .i64 x9.f1] (fun _ => True) (fun _ => False) rfl rfl ?aP (fun _ hk => hk.elim) ?aF ?aO ?aB ?aS ?aL ?_; (case aP => exact k66_mkM _ _ _ x9); (case aB => exact HBw9.out); (case aF => exact (fun _ _ => trivial)); (case aO => exact HRw9.out); (case aS => exact HBw9.out.size); (case aL => have := HOL.out; omega); intro v11 w11 ho hb hg hat; have HO11 := Aside0.mk ho; have HB11 := Aside0.mk hb; clear ho hb hg hat))
                                                                      go_roundw
                                                                      case rel => exact ⟨m + 1, out ++ [x9], by push_cast; rfl, by omega, HO11, HB11, ⟨by
                                                                        have hz := HO9.out
                                                                        rw [if_neg HMI.out, if_pos ⟨HM0.out, HM1.out⟩] at hz
                                                                        rw [List.map_append, List.append_assoc]
                                                                        exact hz⟩⟩
                                                                      case measure => simp [intOf]; omega
end Go.Proofs.Ytnfnhgikhkpidaa.Given
end

section
/- Printed by a program of this session (wip/pg.py, over the print of the kit): functions, their Lean twins, and the proofs that the calls come to them; each under the conditions that it names. -/
namespace Go.Proofs.Ytnfnhgikhkpidaa.PPw
open Go.RowKit Go.Proofs.YtnfnhgikhkpidaaW.PrintWords Go.Proofs.YtnfnhgikhkpidaaW.PrintLast Go.Proofs.YtnfnhgikhkpidaaW.PrintMore
attribute [local go_sem] max2_int min2_int max_two min_two max_three min_three max_four min_four   -- for this text's walks alone
set_option linter.unusedVariables false
set_option linter.unusedSimpArgs false

theorem eqA66 (d : Nat) (w : World) (x0 y0 : Int) (x1 y1 : Int) :
    (Op.equalIn (d + 2) 66 (.agg #[.int .i64 x0, .int .i64 x1]) (.agg #[.int .i64 y0, .int .i64 y1])).run Try.prog w = .ok (x0 == y0 && (x1 == y1)) w := by
  refine eqA_of Try.underlying66 (by kernel_rfl) ?_
  refine eqf_cons (by rfl) (by go_simp; rfl) (by go_simp; rfl) (by go_simp) ?_
  exact eqf_last (by rfl) (by go_simp; rfl) (by go_simp; rfl) (by go_simp)
end Go.Proofs.Ytnfnhgikhkpidaa.PPw
end

section
/- Printed by a program of this session (wip/pg.py, over the print of the kit): functions, their Lean twins, and the proofs that the calls come to them; each under the conditions that it names. -/
namespace Go.Proofs.Ytnfnhgikhkpidaa.PPw
open Go.RowKit Go.Proofs.YtnfnhgikhkpidaaW.PrintWords Go.Proofs.YtnfnhgikhkpidaaW.PrintLast Go.Proofs.YtnfnhgikhkpidaaW.PrintMore
attribute [local go_sem] max2_int min2_int max_two min_two max_three min_three max_four min_four   -- for this text's walks alone
set_option linter.unusedVariables false
set_option linter.unusedSimpArgs false

theorem eqi_cons {P : Program} {d e c j : Nat} {js : List Nat} {xs ys : Array Value} {a b : Value} {r s : Bool} {w : World} (ha : (part e xs (j * c)).run P w = .ok a w) (hb : (part e ys (j * c)).run P w = .ok b w) (he : (Op.equalIn d e a b).run P w = .ok r w) (hr : (Op.eqItems d e c xs ys js).run P w = .ok s w) : (Op.eqItems d e c xs ys (j :: js)).run P w = .ok (r && s) w := by
  rw [Op.eqItems]
  simp only [Sem.run_bind, ha, hb, he, Result.andThen_ok]
  cases r
  · simp
  · simpa using hr
theorem eqi_last {P : Program} {d e c j : Nat} {xs ys : Array Value} {a b : Value} {r : Bool} {w : World} (ha : (part e xs (j * c)).run P w = .ok a w) (hb : (part e ys (j * c)).run P w = .ok b w) (he : (Op.equalIn d e a b).run P w = .ok r w) : (Op.eqItems d e c xs ys [j]).run P w = .ok r w := by
  have h := eqi_cons (js := []) (s := true) ha hb he (by simp [Op.eqItems])
  rwa [Bool.and_true] at h
theorem eqA72 (d : Nat) (w : World) (x0 y0 : Int) (x1 y1 : Int) :
    (Op.equalIn (d + 2) 72 (.agg #[.int .i64 x0, .int .i64 x1]) (.agg #[.int .i64 y0, .int .i64 y1])).run Try.prog w = .ok (x0 == y0 && (x1 == y1)) w := by
  obtain ⟨i, hi⟩ : ∃ i, Try.prog.info? 3 = some i := Option.isSome_iff_exists.1 (by kernel_rfl)
  rw [run_equalIn_array (w := w) (d + 1) _ _ Try.underlying72 hi, show Try.prog.cellsOf 3 = 1 from by kernel_rfl, show List.range 2 = [0, 1] from rfl]
  refine eqi_cons (by go_simp; rfl) (by go_simp; rfl) (by go_simp) ?_
  exact eqi_last (by go_simp; rfl) (by go_simp; rfl) (by go_simp)
end Go.Proofs.Ytnfnhgikhkpidaa.PPw
end

section
/- Printed by a program of this session (wip/pg.py, over the print of the kit): functions, their Lean twins, and the proofs that the calls come to them; each under the conditions that it names. -/
namespace Go.Proofs.Ytnfnhgikhkpidaa.PPw
open Go.Proofs.Ytnfnhgikhkpidaa.Given
open Go.RowKit Go.Proofs.YtnfnhgikhkpidaaW.PrintWords Go.Proofs.YtnfnhgikhkpidaaW.PrintLast Go.Proofs.YtnfnhgikhkpidaaW.PrintMore
attribute [local go_sem] max2_int min2_int max_two min_two max_three min_three max_four min_four   -- for this text's walks alone
set_option linter.unusedVariables false
set_option linter.unusedSimpArgs false

attribute [local go_sem high] eqA66 eqA72
/-! ### power_of: function 28 -/
def power_of.f (a0 : Int) (a1 : Int) : Option (Int × Int) := some (mn a0 a1, mx a0 a1)
set_option maxHeartbeats 8000000 in
set_option maxRecDepth 100000 in
theorem power_of.calls (a0 : Int) (a1 : Int) (r1 : Int) (r2 : Int) (w : World) (h : power_of.f a0 a1 = some (r1, r2)) :
    Calls Try.prog 28 #[.int .i64 a0, .int .i64 a1] w fun e w' => e = .returned (.agg #[.int .i64 r1, .int .i64 r2]) ∧ Below w.heap.size w w' := by
  have hu66 := Try.underlying66
  have HB := Aside0.mk (Below.refl w.heap.size w)
  have H : (some (mn a0 a1, mx a0 a1)) = some (r1, r2) := h
  clear h
  obtain ⟨ji3, hji3⟩ : ∃ j_ : Int, (mn a0 a1) = j_ := ⟨_, rfl⟩
  replace H : (some (ji3, mx a0 a1)) = some (r1, r2) := by first | (rw [hji3] at H; exact H) | (simp only [hji3] at H ⊢; exact H)
  have hji3_ : (if a1 < a0 then a1 else a0) = ji3 := hji3
  obtain ⟨ji4, hji4⟩ : ∃ j_ : Int, (mx a0 a1) = j_ := ⟨_, rfl⟩
  replace H : (some (ji3, ji4)) = some (r1, r2) := by first | (rw [hji4] at H; exact H) | (simp only [hji4] at H ⊢; exact H)
  have hji4_ : (if a0 < a1 then a1 else a0) = ji4 := hji4
  simp only [Option.some.injEq, Prod.mk.injEq] at H
  obtain ⟨rfl, rfl⟩ := H
  go_enter Try.func28, Try.ntmps28
  go_wp2_with (first | ((with_reducible refine gate_dst (N := 4) rfl ?_); refine box_event ?hg (N := 4) ?hd (cs := #[.int .i64 0, .int .i64 0]) (t := 66) ?hr ?_; (case hd => rfl); (case hg => rfl); (case hr => first | (go_simp; done) | (go_simp; rfl)); intro gb101 hg w5 hbox hb; have n0_ := Aside0.mk (below_step (by repeat (first | (with_reducible first | exact HB.out | apply below_alloc | apply pw_below_drewN | apply below_drew1) | exact HB.out)) hb); have n1_ := Aside0.mk (hbox); have n2_ := Aside0.mk ((by rw [hg]; exact (below_size (by repeat (first | (with_reducible first | exact HB.out | apply below_alloc | apply pw_below_drewN | apply below_drew1) | exact HB.out))) : w.heap.size ≤ gb101)); have n3_ := Aside0.mk ((by rw [hg]; exact (below_size (by repeat (first | (with_reducible first | exact HB.out | apply below_alloc | apply pw_below_drewN | apply below_drew1) | exact HB.out))) : w.heap.size ≤ gb101)); clear HB; have HB := n0_; have BK101 := n1_; have GW101 := n2_; have GE101 := n3_; clear n0_ n1_ n2_ n3_; clear hb hbox hg; have hcz6_0 : w5.cell? ⟨gb101, 0, none⟩ = some (.int .i64 0) := (blk_cell BK101.out 0).trans rfl; have hcz6_1 : w5.cell? ⟨gb101, 1, none⟩ = some (.int .i64 0) := (blk_cell BK101.out 1).trans rfl; have hfz6_0 := blk_frozen BK101.out 0; have hfz6_1 := blk_frozen BK101.out 1))
  refine bodyPost_ret (results_cell_row rfl _ _ gb101 66 #[.int .i64 ji3, .int .i64 ji4] (0, 0) _ rfl (by (with_reducible repeat (first | refine blk_drewN ?_ _ | refine blk_drew ?_ | refine blk_alloc ?_ _)); refine blk_put (cs := #[.int .i64 ji3, .int .i64 0]) ?_ 1 _ rfl; (with_reducible repeat (first | refine blk_drewN ?_ _ | refine blk_drew ?_ | refine blk_alloc ?_ _)); refine blk_put (cs := #[.int .i64 0, .int .i64 0]) ?_ 0 _ rfl; (with_reducible repeat (first | refine blk_drewN ?_ _ | refine blk_drew ?_ | refine blk_alloc ?_ _)); exact BK101.out) Try.underlying66 rfl (by kernel_rfl)) rfl ?_
  exact ⟨by first | rfl | (simp [errW_none, errW_some] <;> rfl) | (simp only [← hji3, ← hji4]; first | rfl | (simp [errW_none, errW_some] <;> rfl)) | (simp [*, errW_none, errW_some] <;> rfl), by repeat (first | (with_reducible first | exact HB.out | apply below_alloc | apply pw_below_drewN | apply below_drew1 | refine below_set ?_ GE101.out) | exact HB.out)⟩

/-! ### power_Reduces: function 15 -/
mutual
def power_Reduces.l0 : Nat → List (S66) → List (S40) → Int → Int → Option (Bool)
  | 0, _, _, _, _ => none
  | k + 1, x3, x7, x8, x9 => if x9 < x8 then (if 0 ≤ x9 then (if x9 < (x7.length : Int) then ((power_of.f ((rd_T40 x7 x9).f0) ((rd_T40 x7 x9).f1)).bind fun bt104 => (if x3.length < 8796093022208 then (power_Reduces.l0 k (x3 ++ [(⟨bt104.1, bt104.2⟩ : S66)]) x7 x8 (wrap64 (x9 + 1))) else (none))) else (none)) else (none)) else (power_Reduces.l1 k x3 true)
def power_Reduces.l1 : Nat → List (S66) → Bool → Option (Bool)
  | 0, _, _ => none
  | k + 1, x3, x6 => if x6 = true then ((power_unlike.f x3).bind fun t109 => ((power_straight.f t109).bind fun bt112 => (power_Reduces.l1 k bt112.1 bt112.2))) else (if (x3.length : Int) = 1 then (if 0 < (x3.length : Int) then (some (((rd_T66 x3 0).f0) == 0 && (((rd_T66 x3 0).f1) == 1))) else (none)) else (some false))
end
def power_Reduces.f (k : Nat) (l0 : List (S40)) : Option (Bool) := power_Reduces.l0 k ([] : List (S66)) l0 (l0.length : Int) 0
set_option maxHeartbeats 8000000 in
set_option maxRecDepth 100000 in
theorem power_Reduces.calls (k : Nat) (A0 : Option Addr) (c0 : Nat) (l0 : List (S40)) (r : Bool) (w : World) (hr0 : Kd.C k40 w A0 l0.length l0) (hc0 : l0.length ≤ c0) (h : power_Reduces.f k l0 = some r) :
    Calls Try.prog 15 #[.slice A0 l0.length c0] w fun e w' => e = .returned (.bool r) ∧ Below w.heap.size w w' := by
  have hu40 := Try.underlying40
  have hu66 := Try.underlying66
  have HR0 := Aside0.mk hr0
  have HC0 := Aside0.mk hc0
  clear hr0 hc0
  have HB := Aside0.mk (Below.refl w.heap.size w)
  have H : (power_Reduces.l0 k ([] : List (S66)) l0 (l0.length : Int) 0) = some r := h
  clear h
  have H' := Aside0.mk H
  clear H
  go_enter Try.func15, Try.ntmps15
  go_wp2
  go_loopg [3, 9] k (fun kq v3 v9 w' => ∃ (x3_1 : List (S66)) (x9_1 : Int), v9 = .int .i64 x9_1 ∧ Aside0 (power_Reduces.l0 kq x3_1 l0 (l0.length : Int) x9_1 = some r) ∧ Aside0 (kq ≤ k) ∧ Aside0 (Kd.R k66 66 w' w.heap.size (fun _ => True) v3 x3_1) ∧ Aside0 (Below w.heap.size w w'))
  case atStart => exact ⟨(([] : List (S66))), (0), (by first | rfl | (simp; done) | (simp [*]; done)), H', ⟨Nat.le_refl _⟩, ⟨by first | exact Kd.R_nil _ _ _ _ _ | exact Kd.N_nil _ _ _ _ _ | exact Kd.V_nil _ _ _ _ _ | exact Kd.Q_nil _ _ _ _ _ | exact Kd.S_nil _ _ _ _ _⟩, ⟨by repeat (first | (with_reducible first | exact HB.out | apply below_alloc | apply pw_below_drewN | apply below_drew1) | exact HB.out)⟩⟩
  case round =>
    clear H'
    try clear c1
    obtain ⟨x3_1, x9_1, rfl, HA, HK1, HO_3, HB⟩ := hrel
    cases gk with
    | zero => exact absurd HA.out (by simp [power_Reduces.l0])
    | succ k1 =>
      have H := HA.out
      clear HA
      simp only [power_Reduces.l0] at H
      by_cases c2 : x9_1 < (l0.length : Int)
      · rw [if_pos c2] at H
        have c2b0 : decide (x9_1 < (l0.length : Int)) = true := decide_eq_true c2
        clear c2
        by_cases c3 : 0 ≤ x9_1
        · rw [if_pos c3] at H
          have c3b0 : decide (0 ≤ x9_1) = true := decide_eq_true c3
          clear c3
          by_cases c4 : x9_1 < (l0.length : Int)
          · rw [if_pos c4] at H
            have c4b0 : decide (x9_1 < (l0.length : Int)) = true := decide_eq_true c4
            clear c4
            replace H := Option.bind_eq_some_iff.mp H
            obtain ⟨⟨t104, t105⟩, A50, H⟩ := H
            replace H : (if x3_1.length < 8796093022208 then (power_Reduces.l0 k1 (x3_1 ++ [(⟨t104, t105⟩ : S66)]) l0 (l0.length : Int) (wrap64 (x9_1 + 1))) else (none)) = some r := H
            have A5 := Aside0.mk A50
            clear A50
            by_cases c6 : x3_1.length < 8796093022208
            · rw [if_pos c6] at H
              have LMc6 := Aside0.mk c6
              clear c6
              obtain ⟨y106, hy106⟩ : ∃ y_ : List (S66), y_ = (x3_1 ++ [(⟨t104, t105⟩ : S66)]) := ⟨_, rfl⟩
              replace H : (power_Reduces.l0 k1 y106 l0 (l0.length : Int) (wrap64 (x9_1 + 1))) = some r := by first | (rw [hy106]; with_reducible exact H) | (have H2_ := (Option.bind_some _ _).symm.trans H; rw [hy106]; with_reducible exact H2_) | (have H2_ := (Option.bind_some _ _).symm.trans H; with_reducible exact H2_) | with_reducible exact H | (rw [hy106]; exact H) | exact H
              have Ny106 := Aside0.mk hy106
              clear hy106
              have H' := Aside0.mk H
              clear H
              have p102 : 0 ≤ (x9_1 : Int) := of_decide_eq_true (by first | (with_reducible assumption) | assumption)
              have q102 : x9_1 < (l0.length : Int) := of_decide_eq_true (by first | (with_reducible assumption) | assumption)
              obtain ⟨ad102, A102_7, c102_7, e102, hx102_0, hx102_1, hx102_2, hx102_3, hx102_4, hx102_5, hx102_6, hx102_7, hl102_7, hi102_7⟩ := at_T40 HR0.out x9_1 p102 q102
              cases e102
              replace hx102_0 := (HB.out.cell (World.block_lt_of_cell? w _ hx102_0)).trans hx102_0
              replace hx102_1 := (HB.out.cell (World.block_lt_of_cell? w _ hx102_1)).trans hx102_1
              replace hx102_2 := (HB.out.cell (World.block_lt_of_cell? w _ hx102_2)).trans hx102_2
              replace hx102_3 := (HB.out.cell (World.block_lt_of_cell? w _ hx102_3)).trans hx102_3
              replace hx102_4 := (HB.out.cell (World.block_lt_of_cell? w _ hx102_4)).trans hx102_4
              replace hx102_5 := (HB.out.cell (World.block_lt_of_cell? w _ hx102_5)).trans hx102_5
              replace hx102_6 := (HB.out.cell (World.block_lt_of_cell? w _ hx102_6)).trans hx102_6
              replace hx102_7 := (HB.out.cell (World.block_lt_of_cell? w _ hx102_7)).trans hx102_7
              have HR102_7 := Aside0.mk hi102_7
              have HC102_7 := Aside0.mk hl102_7
              clear hi102_7 hl102_7
              replace p102 := eq_true p102
              replace q102 := eq_true q102
              go_wp2_with (first | ((with_reducible refine gate_dst (N := 5) rfl ?_); refine box_event ?hg (N := 5) ?hd (cs := #[.int .i64 0, .int .i64 0, .int .i64 0, .int .i64 0, .int .i64 0, .int .i64 0, .int .i64 0, .slice none 0 0]) (t := 40) ?hr ?_; (case hd => rfl); (case hg => rfl); (case hr => first | (go_simp; done) | (go_simp; rfl)); intro gb103 hg w7 hbox hb; have n0_ := Aside0.mk (Kd.R_below (by (with_reducible repeat (first | apply Kd.R_alloc | apply Kd.R_drewN | apply Kd.R_drew)); exact HO_3.out) hb); have n1_ := Aside0.mk (below_step (by repeat (first | (with_reducible first | exact HB.out | apply below_alloc | apply pw_below_drewN | apply below_drew1) | exact HB.out)) hb); have n2_ := Aside0.mk (hbox); have n3_ := Aside0.mk ((by rw [hg]; exact (below_size (by repeat (first | (with_reducible first | exact HB.out | apply below_alloc | apply pw_below_drewN | apply below_drew1) | exact HB.out))) : w.heap.size ≤ gb103)); have n4_ := Aside0.mk ((by rw [hg]; exact (below_size (by repeat (first | (with_reducible first | exact HB.out | apply below_alloc | apply pw_below_drewN | apply below_drew1) | exact HB.out))) : w.heap.size ≤ gb103)); clear HO_3; clear HB; have HO_3 := n0_; have HB := n1_; have BK103 := n2_; have GW103 := n3_; have GE103 := n4_; clear n0_ n1_ n2_ n3_ n4_; clear hb hbox hg; have hcz8_0 : w7.cell? ⟨gb103, 0, none⟩ = some (.int .i64 0) := (blk_cell BK103.out 0).trans rfl; have hcz8_1 : w7.cell? ⟨gb103, 1, none⟩ = some (.int .i64 0) := (blk_cell BK103.out 1).trans rfl; have hcz8_2 : w7.cell? ⟨gb103, 2, none⟩ = some (.int .i64 0) := (blk_cell BK103.out 2).trans rfl; have hcz8_3 : w7.cell? ⟨gb103, 3, none⟩ = some (.int .i64 0) := (blk_cell BK103.out 3).trans rfl; have hcz8_4 : w7.cell? ⟨gb103, 4, none⟩ = some (.int .i64 0) := (blk_cell BK103.out 4).trans rfl; have hcz8_5 : w7.cell? ⟨gb103, 5, none⟩ = some (.int .i64 0) := (blk_cell BK103.out 5).trans rfl; have hcz8_6 : w7.cell? ⟨gb103, 6, none⟩ = some (.int .i64 0) := (blk_cell BK103.out 6).trans rfl; have hcz8_7 : w7.cell? ⟨gb103, 7, none⟩ = some (.slice none 0 0) := (blk_cell BK103.out 7).trans rfl; have hfz8_0 := blk_frozen BK103.out 0; have hfz8_1 := blk_frozen BK103.out 1; have hfz8_2 := blk_frozen BK103.out 2; have hfz8_3 := blk_frozen BK103.out 3; have hfz8_4 := blk_frozen BK103.out 4; have hfz8_5 := blk_frozen BK103.out 5; have hfz8_6 := blk_frozen BK103.out 6; have hfz8_7 := blk_frozen BK103.out 7) | ((with_reducible refine gate_callee (f := 28) rfl ?_); refine goesL_ (some 18) rfl rfl Try.func28 (by kernel_rfl) rfl #[.int .i64 ((rd_T40 l0 x9_1).f0), .int .i64 ((rd_T40 l0 x9_1).f1)] rfl (by (try simp only [List.map_toArray, List.map_cons, List.map_nil]); first | done | rfl | (simp only [List.length_drop, List.length_take]; rfl)) ?_; (with_reducible refine (power_of.calls ((rd_T40 l0 x9_1).f0) ((rd_T40 l0 x9_1).f1) t104 t105 _ A5.out).mono ?_); rintro e w9 ⟨rfl, hb⟩; refine ⟨_, rfl, ?_⟩; have n0_ := Aside0.mk (Kd.R_below (by (with_reducible repeat (first | apply Kd.R_alloc | apply Kd.R_drewN | apply Kd.R_drew)); exact (Kd.R_mono (Kd.R_far (p := ⟨gb103, 7, none⟩) (Kd.R_far (p := ⟨gb103, 6, none⟩) (Kd.R_far (p := ⟨gb103, 5, none⟩) (Kd.R_far (p := ⟨gb103, 4, none⟩) (Kd.R_far (p := ⟨gb103, 3, none⟩) (Kd.R_far (p := ⟨gb103, 2, none⟩) (Kd.R_far (p := ⟨gb103, 1, none⟩) (Kd.R_far (p := ⟨gb103, 0, none⟩) (Kd.R_types HO_3.out BK103.out (by decide)) (fun _ hk => hk.2) (.int .i64 ((rd_T40 l0 x9_1).f0))) (fun _ hk => hk.2) (.int .i64 ((rd_T40 l0 x9_1).f1))) (fun _ hk => hk.2) (.int .i64 ((rd_T40 l0 x9_1).f2))) (fun _ hk => hk.2) (.int .i64 ((rd_T40 l0 x9_1).f3.f0))) (fun _ hk => hk.2) (.int .i64 ((rd_T40 l0 x9_1).f3.f1))) (fun _ hk => hk.2) (.int .i64 ((rd_T40 l0 x9_1).f3.f2))) (fun _ hk => hk.2) (.int .i64 ((rd_T40 l0 x9_1).f3.f3))) (fun _ hk => hk.2) (.slice A102_7 ((rd_T40 l0 x9_1).f3.f4).length c102_7)) (fun _ h_ => h_.1))) hb); have n1_ := Aside0.mk (blk_below (g := gb103) (o := .cells #[.int .i64 ((rd_T40 l0 x9_1).f0), .int .i64 ((rd_T40 l0 x9_1).f1), .int .i64 ((rd_T40 l0 x9_1).f2), .int .i64 ((rd_T40 l0 x9_1).f3.f0), .int .i64 ((rd_T40 l0 x9_1).f3.f1), .int .i64 ((rd_T40 l0 x9_1).f3.f2), .int .i64 ((rd_T40 l0 x9_1).f3.f3), .slice A102_7 ((rd_T40 l0 x9_1).f3.f4).length c102_7] 40 (0, 0)) (by (with_reducible repeat (first | refine blk_drewN ?_ _ | refine blk_drew ?_ | refine blk_alloc ?_ _)); refine blk_put (cs := #[.int .i64 ((rd_T40 l0 x9_1).f0), .int .i64 ((rd_T40 l0 x9_1).f1), .int .i64 ((rd_T40 l0 x9_1).f2), .int .i64 ((rd_T40 l0 x9_1).f3.f0), .int .i64 ((rd_T40 l0 x9_1).f3.f1), .int .i64 ((rd_T40 l0 x9_1).f3.f2), .int .i64 ((rd_T40 l0 x9_1).f3.f3), .slice none 0 0]) ?_ 7 _ rfl; (with_reducible repeat (first | refine blk_drewN ?_ _ | refine blk_drew ?_ | refine blk_alloc ?_ _)); refine blk_put (cs := #[.int .i64 ((rd_T40 l0 x9_1).f0), .int .i64 ((rd_T40 l0 x9_1).f1), .int .i64 ((rd_T40 l0 x9_1).f2), .int .i64 ((rd_T40 l0 x9_1).f3.f0), .int .i64 ((rd_T40 l0 x9_1).f3.f1), .int .i64 ((rd_T40 l0 x9_1).f3.f2), .int .i64 0, .slice none 0 0]) ?_ 6 _ rfl; (with_reducible repeat (first | refine blk_drewN ?_ _ | refine blk_drew ?_ | refine blk_alloc ?_ _)); refine blk_put (cs := #[.int .i64 ((rd_T40 l0 x9_1).f0), .int .i64 ((rd_T40 l0 x9_1).f1), .int .i64 ((rd_T40 l0 x9_1).f2), .int .i64 ((rd_T40 l0 x9_1).f3.f0), .int .i64 ((rd_T40 l0 x9_1).f3.f1), .int .i64 0, .int .i64 0, .slice none 0 0]) ?_ 5 _ rfl; (with_reducible repeat (first | refine blk_drewN ?_ _ | refine blk_drew ?_ | refine blk_alloc ?_ _)); refine blk_put (cs := #[.int .i64 ((rd_T40 l0 x9_1).f0), .int .i64 ((rd_T40 l0 x9_1).f1), .int .i64 ((rd_T40 l0 x9_1).f2), .int .i64 ((rd_T40 l0 x9_1).f3.f0), .int .i64 0, .int .i64 0, .int .i64 0, .slice none 0 0]) ?_ 4 _ rfl; (with_reducible repeat (first | refine blk_drewN ?_ _ | refine blk_drew ?_ | refine blk_alloc ?_ _)); refine blk_put (cs := #[.int .i64 ((rd_T40 l0 x9_1).f0), .int .i64 ((rd_T40 l0 x9_1).f1), .int .i64 ((rd_T40 l0 x9_1).f2), .int .i64 0, .int .i64 0, .int .i64 0, .int .i64 0, .slice none 0 0]) ?_ 3 _ rfl; (with_reducible repeat (first | refine blk_drewN ?_ _ | refine blk_drew ?_ | refine blk_alloc ?_ _)); refine blk_put (cs := #[.int .i64 ((rd_T40 l0 x9_1).f0), .int .i64 ((rd_T40 l0 x9_1).f1), .int .i64 0, .int .i64 0, .int .i64 0, .int .i64 0, .int .i64 0, .slice none 0 0]) ?_ 2 _ rfl; (with_reducible repeat (first | refine blk_drewN ?_ _ | refine blk_drew ?_ | refine blk_alloc ?_ _)); refine blk_put (cs := #[.int .i64 ((rd_T40 l0 x9_1).f0), .int .i64 0, .int .i64 0, .int .i64 0, .int .i64 0, .int .i64 0, .int .i64 0, .slice none 0 0]) ?_ 1 _ rfl; (with_reducible repeat (first | refine blk_drewN ?_ _ | refine blk_drew ?_ | refine blk_alloc ?_ _)); refine blk_put (cs := #[.int .i64 0, .int .i64 0, .int .i64 0, .int .i64 0, .int .i64 0, .int .i64 0, .int .i64 0, .slice none 0 0]) ?_ 0 _ rfl; (with_reducible repeat (first | refine blk_drewN ?_ _ | refine blk_drew ?_ | refine blk_alloc ?_ _)); exact BK103.out) hb); have n2_ := Aside0.mk (below_step (by repeat (first | (with_reducible first | exact HB.out | apply below_alloc | apply pw_below_drewN | apply below_drew1 | refine below_set ?_ GE103.out) | exact HB.out)) hb); clear HO_3; clear BK103; clear HB; have HO_3 := n0_; have BK103 := n1_; have HB := n2_; clear n0_ n1_ n2_; (try clear hb); (try clear hb2); (try clear hk); (try clear hi)) | ((with_reducible refine gate_builtin (b := .append) (xs := #[.tmp 13, .tmp 19]) rfl ?_); at_builtin; refine Kd.R_append k66 (w0 := w) w.heap.size rfl (.tmp 13) (.tmp 19) 64 66 (.agg #[(.int .i64 0), (.int .i64 0)]) 16 rfl Try.underlying64 info66 rfl (by decide) (by omega) u3 x3_1 (⟨t104, t105⟩ : S66) [.int .i64 t104, .int .i64 t105] (fun _ => True) (fun _ => False) rfl rfl ?aP (fun _ hk => hk.elim) ?aF ?aO ?aB ?aS ?aL ?_; (case aP => exact k66_mkM _ _ _ (⟨t104, t105⟩ : S66)); (case aB => exact (by repeat (first | (with_reducible first | exact HB.out | apply below_alloc | apply pw_below_drewN | apply below_drew1 | refine below_set ?_ GE103.out) | exact HB.out))); (case aF => exact (fun _ _ => trivial)); (case aO => exact (by (with_reducible repeat (first | apply Kd.R_alloc | apply Kd.R_drewN | apply Kd.R_drew)); exact HO_3.out)); (case aS => exact (below_size (by repeat (first | (with_reducible first | exact HB.out | apply below_alloc | apply pw_below_drewN | apply below_drew1 | refine below_set ?_ GE103.out) | exact HB.out)))); (case aL => have := LMc6.out; omega); intro v107 w10 ho hb hg hat; rw [← Ny106.out] at ho; have n0_ := Aside0.mk (blk_grown (g := gb103) (o := .cells #[.int .i64 ((rd_T40 l0 x9_1).f0), .int .i64 ((rd_T40 l0 x9_1).f1), .int .i64 ((rd_T40 l0 x9_1).f2), .int .i64 ((rd_T40 l0 x9_1).f3.f0), .int .i64 ((rd_T40 l0 x9_1).f3.f1), .int .i64 ((rd_T40 l0 x9_1).f3.f2), .int .i64 ((rd_T40 l0 x9_1).f3.f3), .slice A102_7 ((rd_T40 l0 x9_1).f3.f4).length c102_7] 40 (0, 0)) (by (with_reducible repeat (first | refine blk_drewN ?_ _ | refine blk_drew ?_ | refine blk_alloc ?_ _)); exact BK103.out) hg (Kd.R_ne HO_3.out BK103.out (by decide))); have n1_ := Aside0.mk (hb); have n2_ := Aside0.mk (ho); clear BK103; clear HB; clear HO_3; have BK103 := n0_; have HB := n1_; have HO108 := n2_; clear n0_ n1_ n2_; clear ho hb hg hat))
              go_roundg k1
              case measure => have := HK1.out; omega
              case rel => exact ⟨(y106), (wrap64 (x9_1 + 1)), (by first | rfl | (simp; done) | (simp [*]; done)), H', ⟨by have := HK1.out; omega⟩, ⟨by (with_reducible repeat (first | apply Kd.R_alloc | apply Kd.R_drewN | apply Kd.R_drew)); exact HO108.out⟩, ⟨by repeat (first | (with_reducible first | exact HB.out | apply below_alloc | apply pw_below_drewN | apply below_drew1 | refine below_set ?_ GE103.out) | exact HB.out)⟩⟩
            · rw [if_neg c6] at H
              exact absurd H (by simp)
          · rw [if_neg c4] at H
            exact absurd H (by simp)
        · rw [if_neg c3] at H
          exact absurd H (by simp)
      · rw [if_neg c2] at H
        have c2b0 : decide (x9_1 < (l0.length : Int)) = false := decide_eq_false c2
        clear c2
        have H' := Aside0.mk H
        clear H
        go_wp2
        go_loopg [3, 6] k1 (fun kq v3 v6 w' => ∃ (x3_2 : List (S66)) (x6_2 : Bool), v6 = .bool x6_2 ∧ Aside0 (power_Reduces.l1 kq x3_2 x6_2 = some r) ∧ Aside0 (kq ≤ k1) ∧ Aside0 (Kd.R k66 66 w' w.heap.size (fun _ => True) v3 x3_2) ∧ Aside0 (Below w.heap.size w w'))
        case atStart => exact ⟨(x3_1), (true), (by first | rfl | (simp; done) | (simp [*]; done)), H', ⟨Nat.le_refl _⟩, ⟨by (with_reducible repeat (first | apply Kd.R_alloc | apply Kd.R_drewN | apply Kd.R_drew)); exact HO_3.out⟩, ⟨by repeat (first | (with_reducible first | exact HB.out | apply below_alloc | apply pw_below_drewN | apply below_drew1) | exact HB.out)⟩⟩
        case round =>
          clear H'
          try clear c1
          try clear p1
          try clear q1
          try clear hx1
          try clear c2
          try clear c2b0
          try clear p2
          try clear c3
          try clear c3b0
          try clear c4
          try clear c4b0
          try clear c6
          try clear p6
          try clear c10
          try clear p10
          try clear q10
          try clear hx10
          try clear hcz8_0
          try clear hcz8_1
          try clear hcz8_2
          try clear hcz8_3
          try clear hcz8_4
          try clear hcz8_5
          try clear hcz8_6
          try clear hcz8_7
          try clear hfz8_0
          try clear hfz8_1
          try clear hfz8_2
          try clear hfz8_3
          try clear hfz8_4
          try clear hfz8_5
          try clear hfz8_6
          try clear hfz8_7
          try clear hx102_0
          try clear hx102_1
          try clear hx102_2
          try clear hx102_3
          try clear hx102_4
          try clear hx102_5
          try clear hx102_6
          try clear hx102_7
          try clear p102
          try clear q102
          obtain ⟨x3_2, x6_2, rfl, HA, HK2, HO_3, HB⟩ := hrel
          cases gk with
          | zero => exact absurd HA.out (by simp [power_Reduces.l1])
          | succ k2 =>
            have H := HA.out
            clear HA
            simp only [power_Reduces.l1] at H
            by_cases c11 : x6_2 = true
            · subst c11
              have H1 : ((power_unlike.f x3_2).bind fun t109 => ((power_straight.f t109).bind fun bt112 => (power_Reduces.l1 k2 bt112.1 bt112.2))) = some r := by rw [if_pos rfl] at H; exact H
              clear H
              have H := H1
              clear H1
              replace H := Option.bind_eq_some_iff.mp H
              obtain ⟨t109, A120, H⟩ := H
              replace H : ((power_straight.f t109).bind fun bt112 => (power_Reduces.l1 k2 bt112.1 bt112.2)) = some r := H
              have A12 := Aside0.mk A120
              clear A120
              replace H := Option.bind_eq_some_iff.mp H
              obtain ⟨⟨t112, t113⟩, A130, H⟩ := H
              replace H : (power_Reduces.l1 k2 t112 t113) = some r := H
              have A13 := Aside0.mk A130
              clear A130
              have H' := Aside0.mk H
              clear H
              obtain ⟨Ao14, co14, eo14⟩ := Kd.R_slice HO_3.out
              subst eo14
              go_wp2_with (first | ((with_reducible refine gate_callee (f := 30) rfl ?_); refine goesL_ (some 25) rfl rfl Try.func30 (by kernel_rfl) rfl #[.slice Ao14 x3_2.length co14] rfl (by (try simp only [List.map_toArray, List.map_cons, List.map_nil]); first | done | rfl | (simp only [List.length_drop, List.length_take]; rfl)) ?_; (with_reducible refine (power_unlike.calls _ _ x3_2 t109 _ ?side1 ?side2 A12.out).mono ?_); (case side1 => repeat (first | exact (Kd.R_reads' HO_3.out).2.2 | (with_reducible refine Kd.C_alloc ?_ _) | (with_reducible refine Kd.C_drewN ?_ _) | (with_reducible refine Kd.C_drew ?_))); (case side2 => exact (Kd.R_reads' HO_3.out).2.1); rintro e w15 ⟨v110, rfl, ho0, hb⟩; refine ⟨_, rfl, ?_⟩; have n0_ := Aside0.mk (Kd.R_elder' (by (with_reducible repeat (first | apply Kd.R_alloc | apply Kd.R_drewN | apply Kd.R_drew)); exact HO_3.out) (Kd.R_base ho0) hb); have n1_ := Aside0.mk (Kd.R_lower (Kd.R_new' ho0 (Kd.R_lt (by (with_reducible repeat (first | apply Kd.R_alloc | apply Kd.R_drewN | apply Kd.R_drew)); exact HO_3.out))) (below_size (by repeat (first | (with_reducible first | exact HB.out | apply below_alloc | apply pw_below_drewN | apply below_drew1) | exact HB.out)))); have n2_ := Aside0.mk (below_step (by repeat (first | (with_reducible first | exact HB.out | apply below_alloc | apply pw_below_drewN | apply below_drew1) | exact HB.out)) hb); clear HO_3; clear HB; have HO_3 := n0_; have HO111 := n1_; have HB := n2_; clear n0_ n1_ n2_; (try clear hb); (try clear hb2); (try clear hk); (try clear hi); (try clear ho0); obtain ⟨Ao16, co16, eo16⟩ := Kd.R_slice HO111.out; subst eo16) | ((with_reducible refine gate_callee (f := 29) rfl ?_); refine goesL_ (some 26) rfl rfl Try.func29 (by kernel_rfl) rfl #[.slice Ao16 t109.length co16] rfl (by (try simp only [List.map_toArray, List.map_cons, List.map_nil]); first | done | rfl | (simp only [List.length_drop, List.length_take]; rfl)) ?_; (with_reducible refine (power_straight.calls _ _ t109 t112 t113 _ ?side1 ?side2 A13.out).mono ?_); (case side1 => repeat (first | exact (Kd.R_reads' HO111.out).2.2 | (with_reducible refine Kd.C_alloc ?_ _) | (with_reducible refine Kd.C_drewN ?_ _) | (with_reducible refine Kd.C_drew ?_))); (case side2 => exact (Kd.R_reads' HO111.out).2.1); rintro e w17 ⟨v114, rfl, ho0, hb⟩; refine ⟨_, rfl, ?_⟩; have n8_ := Aside0.mk (ho0 _ (below_size (by repeat (first | (with_reducible first | exact HB.out | apply below_alloc | apply pw_below_drewN | apply below_drew1) | exact HB.out))) (Kd.R_mono (by (with_reducible repeat (first | apply Kd.R_alloc | apply Kd.R_drewN | apply Kd.R_drew)); exact HO111.out) (fun _ _ => trivial))); have n9_ := Aside0.mk (below_step (by repeat (first | (with_reducible first | exact HB.out | apply below_alloc | apply pw_below_drewN | apply below_drew1) | exact HB.out)) hb); have m0_ := Aside0.mk (Kd.R_below (by (with_reducible repeat (first | apply Kd.R_alloc | apply Kd.R_drewN | apply Kd.R_drew)); exact HO_3.out) hb); have m1_ := Aside0.mk (Kd.R_below (by (with_reducible repeat (first | apply Kd.R_alloc | apply Kd.R_drewN | apply Kd.R_drew)); exact HO111.out) hb); clear HB ho0 hb; clear HO_3; have HO_3 := m0_; clear m0_; clear HO111; have HO111 := m1_; clear m1_; have HO115 := n8_; have HB := n9_; clear n8_ n9_))
              go_roundg k2
              case measure => have := HK1.out; have := HK2.out; omega
              case rel => exact ⟨(t112), (t113), (by first | rfl | (simp; done) | (simp [*]; done)), H', ⟨by have := HK1.out; have := HK2.out; omega⟩, ⟨by (with_reducible repeat (first | apply Kd.R_alloc | apply Kd.R_drewN | apply Kd.R_drew)); exact Kd.R_mono HO115.out (fun _ hk => trivial)⟩, ⟨by repeat (first | (with_reducible first | exact HB.out | apply below_alloc | apply pw_below_drewN | apply below_drew1) | exact HB.out)⟩⟩
            · replace c11 := Bool.eq_false_iff.mpr c11
              subst c11
              have H1 : (if (x3_2.length : Int) = 1 then (if 0 < (x3_2.length : Int) then (some (((rd_T66 x3_2 0).f0) == 0 && (((rd_T66 x3_2 0).f1) == 1))) else (none)) else (some false)) = some r := by rw [if_neg (show ¬ (false = true) by decide)] at H; exact H
              clear H
              have H := H1
              clear H1
              by_cases c18 : (x3_2.length : Int) = 1
              · rw [if_pos c18] at H
                have c18b0 : ((x3_2.length : Int) == 1) = true := beq_iff_eq.mpr c18
                have c18b1 : ((x3_2.length : Int) != 1) = false := bne_eq_false_iff_eq.mpr c18
                clear c18
                by_cases c19 : 0 < (x3_2.length : Int)
                · rw [if_pos c19] at H
                  have c19b0 : decide (0 < (x3_2.length : Int)) = true := decide_eq_true c19
                  have c19b1 : decide (0 < x3_2.length) = true := decide_eq_true (by omega)
                  clear c19
                  obtain rfl := Option.some.inj H
                  obtain ⟨Ao20, co20, eo20⟩ := Kd.R_slice HO_3.out
                  subst eo20
                  have p116 : 0 ≤ (0 : Int) := (by omega)
                  have q116 : 0 < (x3_2.length : Int) := of_decide_eq_true (by first | (with_reducible assumption) | assumption)
                  obtain ⟨ad116, e116, hx116_0, hx116_1⟩ := at_T66 (Kd.R_reads' HO_3.out).2.2 0 p116 q116
                  cases e116
                  have qi116 : (0 < x3_2.length) = True := eq_true (by omega)
                  (try rw [show ((0 : Int)).toNat = 0 from rfl] at hx116_0)
                  (try rw [show 0 * 2 = 0 from rfl] at hx116_0)
                  (try rw [Addr.add_zero'] at hx116_0)
                  (try rw [show ((0 : Int)).toNat = 0 from rfl] at hx116_1)
                  (try rw [show 0 * 2 = 0 from rfl] at hx116_1)
                  (try rw [Addr.add_zero'] at hx116_1)
                  replace p116 := eq_true p116
                  replace q116 := eq_true q116
                  go_wp2
                  go_ret
                  exact ⟨by first | rfl | (simp [errW_none, errW_some] <;> rfl) | (simp [*, errW_none, errW_some] <;> rfl), by repeat (first | (with_reducible first | exact HB.out | apply below_alloc | apply pw_below_drewN | apply below_drew1) | exact HB.out)⟩
                · rw [if_neg c19] at H
                  exact absurd H (by simp)
              · rw [if_neg c18] at H
                have c18b0 : ((x3_2.length : Int) == 1) = false := beq_eq_false_iff_ne.mpr c18
                have c18b1 : ((x3_2.length : Int) != 1) = true := bne_iff_ne.mpr c18
                obtain rfl := Option.some.inj H
                obtain ⟨Ao21, co21, eo21⟩ := Kd.R_slice HO_3.out
                subst eo21
                go_wp2
                go_ret
                exact ⟨by first | rfl | (simp [errW_none, errW_some] <;> rfl) | (simp [*, errW_none, errW_some] <;> rfl), by repeat (first | (with_reducible first | exact HB.out | apply below_alloc | apply pw_below_drewN | apply below_drew1) | exact HB.out)⟩

/-! ### ladderbackref45_same: function 32 -/
def ladderbackref45_same.f (a0_0 : Int) (a0_1 : Int) (a1_0 : Int) (a1_1 : Int) : Option (Bool) := if (a0_0 == a1_0 && (a0_1 == a1_1)) = true then (some true) else (if a0_0 = a1_1 then (some (a0_1 == a1_0)) else (some false))
/-! ### ladderbackref45_without: function 42 -/
def ladderbackref45_without.l0 : Nat → List (S72) → Int → Int → List (S72) → Int → Option ((List (S72)))
  | 0, _, _, _, _, _ => none
  | k + 1, x0, x1, x2, x7, x8 => if x8 < (x0.length : Int) then (if x8 = x1 then (ladderbackref45_without.l0 k x0 x1 x2 x7 (wrap64 (x8 + 1))) else (if x8 = x2 then (ladderbackref45_without.l0 k x0 x1 x2 x7 (wrap64 (x8 + 1))) else (if 0 ≤ x8 then (if x7.length < 8796093022208 then (ladderbackref45_without.l0 k x0 x1 x2 (x7 ++ [(⟨(rd_T72 x0 x8).f0, (rd_T72 x0 x8).f1⟩ : S72)]) (wrap64 (x8 + 1))) else (none)) else (none)))) else (some x7)
def ladderbackref45_without.f (k : Nat) (l0 : List (S72)) (a1 : Int) (a2 : Int) : Option ((List (S72))) := ladderbackref45_without.l0 k l0 a1 a2 ([] : List (S72)) 0
/-! ### ladderbackref45_other: function 43 -/
def ladderbackref45_other.f (a0_0 : Int) (a0_1 : Int) (a1 : Int) : Option (Int) := if a0_0 = a1 then (some a0_1) else (some a0_0)
end Go.Proofs.Ytnfnhgikhkpidaa.PPw
end

section
/- The law's own awake: two contacts in series are two wires; power flows; they reduce. -/
namespace Go.Proofs.Ytnfnhgikhkpidaa.Given
open Go Go.RowKit Go.Maps Go.Proofs.Ytnfnhgikhkpidaa Go.Proofs.Ytnfnhgikhkpidaa.PPw Go.Proofs.YtnfnhgikhkpidaaW.PrintWords Go.Proofs.YtnfnhgikhkpidaaW.PrintLast Go.Proofs.YtnfnhgikhkpidaaW.PrintMore
set_option linter.unusedVariables false
set_option linter.unusedSimpArgs false
set_option maxHeartbeats 2000000 in
set_option maxRecDepth 100000 in
theorem wires_calls (w : World) (g : Nat) (hg : w.heap[g]? = some (.cells cells2 60)) :
    Calls Try.prog 26 #[.agg (cellsS g)] w fun e w' => ∃ v, e = .returned v ∧ Kd.R k40 40 w' w.heap.size (fun _ => True) v [wireOf 0 2, wireOf 2 1] ∧ Below w.heap.size w w' := by
  obtain ⟨w1, hw1⟩ : ∃ w1, w.alloc (.cells (cellsS g) 60) = w1 := ⟨_, rfl⟩
  have hB1 : Below w.heap.size w w1 := by rw [← hw1]; exact (Below.refl _ _).alloc (Nat.le_refl _) _
  have h1 : w1.heap[w.heap.size]? = some (.cells (cellsS g) 60) := by rw [← hw1]; exact heap_alloc_new w _
  have hs1 : w1.heap.size = w.heap.size + 1 := by rw [← hw1]; simp
  obtain ⟨w2, hw2⟩ : ∃ w2, w1.alloc (.cells #[.slice none 0 0, .int .i64 2] 88) = w2 := ⟨_, rfl⟩
  have hB2 : Below w.heap.size w w2 := by rw [← hw2]; exact hB1.alloc (by omega) _
  have h2 : w2.heap[w1.heap.size]? = some (.cells #[.slice none 0 0, .int .i64 2] 88) := by rw [← hw2]; exact heap_alloc_new w1 _
  have hn2 : w2.heap[w.heap.size]? = some (.cells (cellsS g) 60) := by rw [← hw2]; exact (((Below.refl w1.heap.size w1).alloc (Nat.le_refl _) _).block _ (blk_lt h1)).trans h1
  have HD := Aside0.mk (show Dr w2 w1.heap.size (.slice none 0 0) 2 [] from ⟨h2, Kd.R_nil _ _ _ _ _⟩)
  have HG := Aside0.mk ((hB2.block g (blk_lt hg)).trans hg)
  have HLT := Aside0.mk (show g < w1.heap.size by have := blk_lt hg; omega)
  have HS := Aside0.mk hs1
  have HB2 := Aside0.mk hB2
  have n0 : w2.cell? ⟨w.heap.size, 0, none⟩ = some (.int .i64 2) := (blk_cell hn2 0).trans rfl
  have n1 : w2.cell? ⟨w.heap.size, 1, none⟩ = some (.int .i64 0) := (blk_cell hn2 1).trans rfl
  have n2 : w2.cell? ⟨w.heap.size, 2, none⟩ = some (.int .i64 0) := (blk_cell hn2 2).trans rfl
  have n3 : w2.cell? ⟨w.heap.size, 3, none⟩ = some (.int .i64 0) := (blk_cell hn2 3).trans rfl
  have n4 : w2.cell? ⟨w.heap.size, 4, none⟩ = some (.int .i64 0) := (blk_cell hn2 4).trans rfl
  have n5 : w2.cell? ⟨w.heap.size, 5, none⟩ = some (.int .i64 0) := (blk_cell hn2 5).trans rfl
  have n6 : w2.cell? ⟨w.heap.size, 6, none⟩ = some (.slice none 0 0) := (blk_cell hn2 6).trans rfl
  have n7 : w2.cell? ⟨w.heap.size, 7, none⟩ = some (.slice (some ⟨g, 0, none⟩) 2 2) := (blk_cell hn2 7).trans rfl
  clear hB1 h1 hs1 hB2 h2 hn2 hg
  go_enter Try.func26, Try.ntmps26
  go_wp2_with fail
  refine (lay_series w2 w1.heap.size g HD.out HG.out HLT.out).mono ?_
  rintro e w3 ⟨rfl, hB3, v', hDr⟩
  have HB3 := Aside0.mk (HB2.out.trans (hB3.mono (by have := HS.out; omega)))
  have HR := Aside0.mk hDr.row
  have d0 : w3.cell? ⟨w1.heap.size, 0, none⟩ = some v' := (blk_cell hDr.blk 0).trans rfl
  obtain ⟨A', c', rfl⟩ := Kd.R_slice hDr.row
  clear hB3 hDr n0 n1 n2 n3 n4 n5 n6 n7 hw1 hw2
  go_wp2_with fail
  go_ret
  exact ⟨_, rfl, Kd.R_lower (Kd.R_mono HR.out (fun _ _ => trivial)) (by have := HS.out; omega), HB3.out⟩
theorem C_two {w : World} {g : Nat} {t : TypeId} (hg : w.heap[g]? = some (.cells #[.bool true, .bool true] t)) : Kd.C Kd.bool w (some ⟨g, 0, none⟩) 2 [true, true] :=
  ⟨rfl, by decide, fun _ => ⟨_, rfl, fun j p hj => ⟨[.bool p], rfl, rfl, fun i u hu => by
    have hi : i = 0 := by
      have := (List.getElem?_eq_some_iff.1 hu).1
      simp at this; omega
    subst hi
    have hp : Value.bool p = u := by simpa using hu
    subst hp
    have hj2 : j < 2 := (List.getElem?_eq_some_iff.1 hj).1
    have : j = 0 ∨ j = 1 := by omega
    rcases this with rfl | rfl
    · obtain rfl : true = p := by simpa using hj
      exact (blk_cell hg 0).trans rfl
    · obtain rfl : true = p := by simpa using hj
      exact (blk_cell hg 1).trans rfl⟩⟩⟩
def ladderbacklaw45_awake.f : Option Bool := some true
abbrev two : List S40 := [wireOf 0 2, wireOf 2 1]
theorem two_flows : power_Flows.f two [true, true] = some true := by kernel_rfl
theorem two_reduces : power_Reduces.f 20 two = some true := by kernel_rfl
set_option maxHeartbeats 4000000 in
set_option maxRecDepth 100000 in
theorem ladderbacklaw45_awake.calls (r : Bool) (w : World) (h : ladderbacklaw45_awake.f = some r) : Calls Try.prog 12 #[] w fun e w' => e = .returned (.bool r) ∧ Below w.heap.size w w' := by
  obtain rfl : true = r := Option.some.inj h
  clear h
  obtain ⟨w1, hw1⟩ : ∃ w1, w.alloc (.cells cells2 60) = w1 := ⟨_, rfl⟩
  have HB1 := Aside0.mk (show Below w.heap.size w w1 by rw [← hw1]; exact (Below.refl _ _).alloc (Nat.le_refl _) _)
  have HG := Aside0.mk (show w1.heap[w.heap.size]? = some (.cells cells2 60) by rw [← hw1]; exact heap_alloc_new w _)
  go_enter Try.func12, Try.ntmps12
  go_wp2_with fail
  refine (wires_calls w1 w.heap.size HG.out).mono ?_
  rintro e w3 ⟨v, rfl, hR, hB⟩
  have HB3 := Aside0.mk (HB1.out.trans (hB.mono HB1.out.size))
  have HR := Aside0.mk hR
  obtain ⟨A', c', rfl⟩ := Kd.R_slice hR
  obtain ⟨ad, A7, c7, rfl, a0, a1, _⟩ := at_T40 (Kd.R_reads' hR).2.2 0 (by decide) (by decide)
  obtain ⟨_, A8, c8, e1, b0, b1, _⟩ := at_T40 (Kd.R_reads' hR).2.2 1 (by decide) (by decide)
  cases e1
  have hr0 : rd_T40 [wireOf 0 2, wireOf 2 1] 0 = wireOf 0 2 := rfl
  have hr1 : rd_T40 [wireOf 0 2, wireOf 2 1] 1 = wireOf 2 1 := rfl
  rw [hr0] at a0 a1
  rw [hr1] at b0 b1
  simp only [wireOf, List.length_cons, List.length_nil, Int.toNat_zero, Int.toNat_one] at a0 a1 b0 b1
  have a1' : w3.cell? ⟨ad.block, ad.off + 1, none⟩ = some (.int .i64 2) := a1
  have b0' : w3.cell? (ad.add 8) = some (.int .i64 2) := b0
  have b1' : w3.cell? ⟨(ad.add 8).block, (ad.add 8).off + 1, none⟩ = some (.int .i64 1) := b1
  have b0'' : w3.cell? ⟨ad.block, ad.off + 8, none⟩ = some (.int .i64 2) := b0
  have b1'' : w3.cell? ⟨ad.block, ad.off + 8 + 1, none⟩ = some (.int .i64 1) := b1
  have b2'' : w3.cell? ⟨ad.block, ad.off + 9, none⟩ = some (.int .i64 1) := b1
  clear hR hB hw1 hr0 hr1 a0 a1 b0 b1
  have HC := Aside0.mk (Kd.R_reads' HR.out)
  go_wp2_with fail
  clear a1' b0' b1' b0'' b1'' b2''
  refine (power_Flows.calls (some ad) c' two (some ⟨w3.heap.size, 0, none⟩) 2 [true, true] true _ (Kd.C_alloc HC.out.2.2 _) HC.out.2.1 (C_two (heap_alloc_new w3 _)) (Nat.le_refl _) two_flows).mono ?_
  rintro e w4 ⟨rfl, hB⟩
  have hB34 : Below w3.heap.size w3 w4 := ((Below.refl _ _).alloc (Nat.le_refl _) _).trans (hB.mono (by simp))
  have HC4 := Aside0.mk (Kd.C_below HC.out.2.2 hB34)
  have HB4 := Aside0.mk (HB3.out.trans (hB34.mono HB3.out.size))
  clear hB hB34
  go_wp2_with fail
  refine (power_Reduces.calls 20 (some ad) c' two true _ HC4.out HC.out.2.1 two_reduces).mono ?_
  rintro e w5 ⟨rfl, hB⟩
  have HB5 := Aside0.mk (HB4.out.trans (hB.mono HB4.out.size))
  clear hB
  go_wp2_with fail
  go_ret
  exact ⟨rfl, HB5.out⟩
end Go.Proofs.Ytnfnhgikhkpidaa.Given
end
