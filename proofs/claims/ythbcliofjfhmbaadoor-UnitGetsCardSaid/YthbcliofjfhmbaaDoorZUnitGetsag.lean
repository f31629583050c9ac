/- Instructions' bytes, plainly: what is encoded, and what bytes say; the program's and the document's tell the same. -/
import Derived.Test.YthbcliofjfhmbaaDoorZUnitGetsac
import Derived.Test.YthbcliofjfhmbaaDoorZUnitGetsaf
section
/- Bytes as a unit, as the program reads them; bytes of at most 1000000 in length, the operations' table as the program lays it. -/
namespace Go.Proofs.YthbcliofjfhmbaaDoor.Given
open Go.RowKit Go.Proofs.YthbcliofjfhmbaaDoorW.PrintWords Go.Proofs.YthbcliofjfhmbaaDoorW.PrintLast Go.Proofs.YthbcliofjfhmbaaDoorW.PrintMore Go.Proofs.YthbcliofjfhmbaaDoor.UPure
set_option linter.unusedVariables false
set_option linter.unusedSimpArgs false
def conv (x : InS) : PUni.S47 := ⟨x.f0, x.f1, x.f2⟩
theorem C_conv {w : World} {A : Option Addr} {n : Nat} {l : List InS} (h : Kd.C inK w A n l) : Kd.C PUni.k47 w A n (l.map conv) := by
  refine ⟨by rw [List.length_map]; exact h.1, h.2.1, fun hp => ?_⟩
  obtain ⟨ad, e, hc⟩ := h.2.2 hp
  refine ⟨ad, e, fun j p hj => ?_⟩
  rw [List.getElem?_map] at hj
  cases hx : l[j]? with
  | none => rw [hx] at hj; cases hj
  | some x =>
    rw [hx] at hj
    obtain rfl := Option.some.inj hj
    obtain ⟨cs, h1, h2, h3⟩ := hc j x hx
    exact ⟨cs, h1, h2, h3⟩
abbrev UD := ByteArray × List Int × Int × List Int × List PUni.S47
def zeroU : UD := (⟨#[]⟩, [], 0, [], [])
/-- Bytes as a unit, and the error. -/
def getR (b : List Int) : UD × Int :=
  let t := textR b 0 false
  if t.2.2 = true then (zeroU, 1) else
  let p := numbersR b t.2.1 t.2.2 1 8
  if ¬ p.2.1 = 0 then (zeroU, p.2.1) else
  let r := numR b p.2.2.1 p.2.2.2 1
  if r.2.2 = true then (zeroU, 1) else
  let l := numbersR b r.2.1 r.2.2 2 1024
  if ¬ l.2.1 = 0 then (zeroU, l.2.1) else
  let n := numR b l.2.2.1 l.2.2.2 2
  if n.1 > 16384 then (zeroU, 5) else
  let x := takeR b n.2.1 n.2.2 (wrap64 (5 * n.1))
  if x.2.2 = true then (zeroU, 1) else
  let c := decF x.1.length x.1 []
  if ¬ c.2.2 = 0 then (zeroU, c.2.2) else
  if (if x.2.2 = true then 0 else (b.length : Int) - x.2.1) > 0 then (zeroU, 4) else
  ((t.1, p.1, r.1, l.1, c.1.map conv), 0)
def zeroUR : UR := ⟨⟨#[]⟩, none, 0, [], 0, none, 0, [], none, 0, []⟩
theorem zero_ok (w : World) : zeroUR.Ok w := ⟨⟨rfl, Nat.zero_le _, fun h => absurd h (Nat.lt_irrefl 0)⟩, Nat.le_refl _, ⟨rfl, Nat.zero_le _, fun h => absurd h (Nat.lt_irrefl 0)⟩, Nat.le_refl _, ⟨rfl, Nat.zero_le _, fun h => absurd h (Nat.lt_irrefl 0)⟩, Nat.le_refl _⟩
theorem keep_setRow (W : World) (g : Nat) (cs : Array Value) : KeepBut W (W.setRow g cs) g none := ⟨by simp [World.setRow], fun i hi hg _ => setRow_other W _ _ _ hg⟩
/-- What the call tells. -/
def GetPost (b : List Int) (w : World) (e : Ending) (w' : World) : Prop := ∃ u : UR, e = .returned (.tuple #[.agg u.cells, .int .i64 (getR b).2]) ∧ u.Ok w' ∧ (u.n, u.P, u.R, u.L, u.C) = (getR b).1 ∧ Below w.heap.size w w'
theorem GetPost.zero {b : List Int} {w w' : World} {e : Ending} {v : Value} {c : Int} (hG : getR b = (zeroU, c)) (he : e = .returned (.tuple #[.agg #[.string ⟨#[]⟩, .slice none 0 0, .int .i64 0, .slice none 0 0, .slice none 0 0], .int .i64 c])) (hB : Below w.heap.size w w') : GetPost b w e w' := ⟨zeroUR, by rw [he, hG]; rfl, zero_ok _, by rw [hG]; rfl, hB⟩
set_option maxHeartbeats 8000000 in
set_option maxRecDepth 100000 in
theorem get_calls (A0 : Option Addr) (c0 : Nat) (b : List Int) (w : World) (hr0 : Kd.C (Kd.int .u8) w A0 b.length b) (hc0 : b.length ≤ c0) (hl : b.length ≤ 1000000) (hb : okB b = true) (hL : LaidOps w) :
    Calls Tryd.prog 27 #[.slice A0 b.length c0] w fun e w' => GetPost b w e w' := by
  have hi : (Tryd.prog.info? 37).map (·.size) = some 5 := by kernel_rfl
  obtain ⟨G, hG⟩ : ∃ G, getR b = G := ⟨_, rfl⟩
  have hG0 := hG
  unfold getR at hG
  dsimp only at hG
  have hT := fun g w0 w hI hB => text_calls g w0 w b 0 false hI hB hb
  generalize textR b 0 false = t at hG hT
  have hP := fun g w0 w hI hB => numbers_calls g w0 w b t.2.1 t.2.2 1 8 hI hB hb
  generalize numbersR b t.2.1 t.2.2 1 8 = p at hG hP
  have hR := fun g w0 w hI hB => num_calls g w0 w b p.2.2.1 p.2.2.2 1 hI hB hb
  generalize numR b p.2.2.1 p.2.2.2 1 = r at hG hR
  have hM := fun g w0 w hI hB => numbers_calls g w0 w b r.2.1 r.2.2 2 1024 hI hB hb
  generalize numbersR b r.2.1 r.2.2 2 1024 = l at hG hM
  have hN := fun g w0 w hI hB => num_calls g w0 w b l.2.2.1 l.2.2.2 2 hI hB hb
  generalize numR b l.2.2.1 l.2.2.2 2 = n at hG hN
  have hX := fun g w0 w hI hB => take_calls g w0 w b n.2.1 n.2.2 (wrap64 (5 * n.1)) hI hB hb
  have hxl := take_len (b := b) (at_ := n.2.1) (bad := n.2.2) (n := wrap64 (5 * n.1))
  have hxm := take_mem (b := b) (at_ := n.2.1) (bad := n.2.2) (n := wrap64 (5 * n.1))
  generalize takeR b n.2.1 n.2.2 (wrap64 (5 * n.1)) = x at hG hX hxl hxm
  have hxb : okB x.1 = true := by
    have h2 := okB_all hb
    unfold okB
    simp only [Bool.and_eq_true, List.all_eq_true, decide_eq_true_eq]
    exact ⟨fun y hy => h2.1 y (hxm y hy), by omega⟩
  have hD := fun A c w hC hc hL => decode_calls A c x.1 _ w hC hc (Nat.le_trans hxl hl) hxb rfl hL
  generalize decF x.1.length x.1 [] = c at hG hD
  have HT := Aside0.mk hT
  have HP := Aside0.mk hP
  have HR := Aside0.mk hR
  have HM := Aside0.mk hM
  have HN := Aside0.mk hN
  have HX := Aside0.mk hX
  have HD := Aside0.mk hD
  have HL := Aside0.mk hL
  have hG := Aside0.mk hG
  have hG0 := Aside0.mk hG0
  clear hT hP hR hM hN hX hD hxl hxm hxb
  have hW0 := (Below.refl w.heap.size w).alloc (Nat.le_refl _) (.cells #[.string ⟨#[]⟩, .slice none 0 0, .int .i64 0, .slice none 0 0, .slice none 0 0] 37)
  have hNw := Aside0.mk (new_calls A0 c0 b (w.alloc (.cells #[.string ⟨#[]⟩, .slice none 0 0, .int .i64 0, .slice none 0 0, .slice none 0 0] 37)) (Kd.C_below hr0 hW0) hc0 (by omega))
  have hz0 := heap_alloc_new w (.cells #[.string ⟨#[]⟩, .slice none 0 0, .int .i64 0, .slice none 0 0, .slice none 0 0] 37)
  have hW0 := Aside0.mk hW0
  clear hr0 hl hb hL
  go_enter Tryd.func27, Tryd.ntmps27
  go_wp2_with fail
  refine hNw.out.mono ?_
  rintro e w8 ⟨w7, g, rfl, hI8, hb7, hb8⟩
  have HW := Aside0.mk (show ∀ W, Below w7.heap.size w7 W → Below w.heap.size w W from fun W h => (hW0.out.trans (hb7.mono hW0.out.size)).trans (h.mono (Nat.le_trans hW0.out.size hb7.size)))
  have HZ := Aside0.mk (show ∀ W, Below w7.heap.size w7 W → W.heap[w.heap.size]? = some (.cells #[.string ⟨#[]⟩, .slice none 0 0, .int .i64 0, .slice none 0 0, .slice none 0 0] 37 (0, 0)) from fun W h => (h.block w.heap.size (by have := hb7.size; simp at this; omega)).trans ((hb7.block w.heap.size (by simp)).trans hz0))
  clear hNw hW0 hz0 hb7
  go_wp2_with fail
  refine (HT.out g w7 _ hI8 hb8).mono ?_
  rintro e w9 ⟨rfl, hI9, hb9, _⟩
  clear HT hI8 hb8
  have hI := hI9.alloc (.cells #[.string t.1, .slice none 0 0, .int .i64 0, .slice none 0 0, .slice none 0 0] 37)
  have hB := hb9.alloc hb9.size (.cells #[.string t.1, .slice none 0 0, .int .i64 0, .slice none 0 0, .slice none 0 0] 37)
  have hx := heap_alloc_new w9 (.cells #[.string t.1, .slice none 0 0, .int .i64 0, .slice none 0 0, .slice none 0 0] 37)
  have hgb : g ≠ w9.heap.size := by have := hI9.lt; omega
  have hgb7 : w7.heap.size ≤ w9.heap.size := hb9.size
  clear hI9 hb9
  go_wp2_with fail
  refine (bad_calls g w7 _ b t.2.1 t.2.2 hI).mono ?_
  rintro e wd ⟨rfl, m, rfl⟩
  replace hI := hI.drewN m
  replace hB := pw_below_drewN hB m
  by_cases h1 : t.2.2 = true
  · have hg := hG.out
    rw [if_pos h1] at hg
    have HG := Aside0.mk (hG0.out.trans hg.symm)
    clear hg hG hG0
    rw [h1]
    clear h1
    have hz := HZ.out _ hB
    have hB := HW.out _ hB
    go_wp2_with ((with_reducible refine gate_store (t := 37) (p := 2) (v := .tmp 16) rfl ?_); refine wpList_store_row rfl 37 (.tmp 2) (.tmp 16) rfl w.heap.size #[.string ⟨#[]⟩, .slice none 0 0, .int .i64 0, .slice none 0 0, .slice none 0 0] rfl rfl 37 _ hz (by rw [hi]; rfl) rfl (by kernel_rfl) ?_)
    refine bodyPost_ret (results_ct rfl _ _ w.heap.size 37 #[.string ⟨#[]⟩, .slice none 0 0, .int .i64 0, .slice none 0 0, .slice none 0 0] (0, 0) _ rfl (setRow_heap _ _ _ _ _ _ hz) Tryd.underlying37 rfl hi) rfl ?_
    exact GetPost.zero (v := .bool true) HG.out rfl (below_setRow hB (Nat.le_refl _) _)
  · have hg := hG.out
    rw [if_neg h1] at hg
    replace hG := Aside0.mk hg
    clear hg
    replace h1 : t.2.2 = false := by simpa using h1
    rw [h1]
    clear h1
    go_wp2_with fail
    refine (HP.out g w7 _ hI hB).mono ?_
    rintro e wn ⟨v0, rfl, ho, hI', hB', hk⟩
    obtain ⟨AP, cP, rfl, hlP, _⟩ := Kd.R_reads ho
    have hsz := hB.size
    clear hI hB HP
    have hI := hI'
    have hB := hB'
    clear hI' hB'
    replace hx := hk.blk hx hgb.symm (by simp)
    clear hk
    have RwP := Aside0.mk (Kd.R_lower (Kd.R_mono (Kd.R_types (hI.apart ho (by decide)) hx (by decide)) (fun k h => (⟨h.1.2, h.2⟩ : k ≠ g ∧ k ≠ w9.heap.size))) hsz)
    clear ho hsz
    have fz := blk_frozen hx 1
    have fc := (blk_cell hx 1).trans rfl
    replace hI := hI.far (p := ⟨w9.heap.size, 1, none⟩) hgb (.slice AP p.1.length cP)
    replace hB := below_set (j := 1) (v := .slice AP p.1.length cP) hB hgb7
    replace hx := blk_put (cs' := #[.string t.1, .slice AP p.1.length cP, .int .i64 0, .slice none 0 0, .slice none 0 0]) hx 1 (.slice AP p.1.length cP) rfl
    replace RwP := Aside0.mk (Kd.R_far (p := ⟨w9.heap.size, 1, none⟩) RwP.out (fun k h => h.2) (.slice AP p.1.length cP))
    by_cases h1 : ¬ p.2.1 = 0
    · have hg := hG.out
      rw [if_pos h1] at hg
      have HG := Aside0.mk (hG0.out.trans hg.symm)
      clear hg hG hG0
      have hz := HZ.out _ hB
      have hB := HW.out _ hB
      go_wp2_with ((with_reducible refine gate_store (t := 37) (p := 2) (v := .tmp 25) rfl ?_); refine wpList_store_row rfl 37 (.tmp 2) (.tmp 25) rfl w.heap.size #[.string ⟨#[]⟩, .slice none 0 0, .int .i64 0, .slice none 0 0, .slice none 0 0] rfl rfl 37 _ hz (by rw [hi]; rfl) rfl (by kernel_rfl) ?_)
      refine bodyPost_ret (results_ct rfl _ _ w.heap.size 37 #[.string ⟨#[]⟩, .slice none 0 0, .int .i64 0, .slice none 0 0, .slice none 0 0] (0, 0) _ rfl (setRow_heap _ _ _ _ _ _ hz) Tryd.underlying37 rfl hi) rfl ?_
      exact GetPost.zero (v := .bool true) HG.out rfl (below_setRow hB (Nat.le_refl _) _)
    · have hg := hG.out
      rw [if_neg h1] at hg
      replace hG := Aside0.mk hg
      clear hg
      have h1 := h1
      replace h1 : p.2.1 = 0 := by simpa using h1
      rw [h1]
      clear h1
      go_wp2_with fail
      refine (HR.out g w7 _ hI hB).mono ?_
      clear fz fc
      rintro e wn ⟨rfl, hI', hB', hk⟩
      clear hI hB
      have hI := hI'
      have hB := hB'
      clear hI' hB'
      replace hx := hk.blk hx hgb.symm (by simp)
      replace RwP := Aside0.mk (Kd.R_keep RwP.out hk (fun k h => h.1))
      clear hk
      have fz := blk_frozen hx 2
      have fc := (blk_cell hx 2).trans rfl
      replace hI := hI.far (p := ⟨w9.heap.size, 2, none⟩) hgb (.int .i64 r.1)
      replace hB := below_set (j := 2) (v := .int .i64 r.1) hB hgb7
      replace hx := blk_put (cs' := #[.string t.1, .slice AP p.1.length cP, .int .i64 r.1, .slice none 0 0, .slice none 0 0]) hx 2 (.int .i64 r.1) rfl
      replace RwP := Aside0.mk (Kd.R_far (p := ⟨w9.heap.size, 2, none⟩) RwP.out (fun k h => h.2) (.int .i64 r.1))
      go_wp2_with fail
      refine (bad_calls g w7 _ b r.2.1 r.2.2 hI).mono ?_
      rintro e wd ⟨rfl, m, rfl⟩
      replace hI := hI.drewN m
      replace hB := pw_below_drewN hB m
      by_cases h1 : r.2.2 = true
      · have hg := hG.out
        rw [if_pos h1] at hg
        have HG := Aside0.mk (hG0.out.trans hg.symm)
        clear hg hG hG0
        rw [h1]
        clear h1
        have hz := HZ.out _ hB
        have hB := HW.out _ hB
        go_wp2_with ((with_reducible refine gate_store (t := 37) (p := 2) (v := .tmp 32) rfl ?_); refine wpList_store_row rfl 37 (.tmp 2) (.tmp 32) rfl w.heap.size #[.string ⟨#[]⟩, .slice none 0 0, .int .i64 0, .slice none 0 0, .slice none 0 0] rfl rfl 37 _ hz (by rw [hi]; rfl) rfl (by kernel_rfl) ?_)
        refine bodyPost_ret (results_ct rfl _ _ w.heap.size 37 #[.string ⟨#[]⟩, .slice none 0 0, .int .i64 0, .slice none 0 0, .slice none 0 0] (0, 0) _ rfl (setRow_heap _ _ _ _ _ _ hz) Tryd.underlying37 rfl hi) rfl ?_
        exact GetPost.zero (v := .bool true) HG.out rfl (below_setRow hB (Nat.le_refl _) _)
      · have hg := hG.out
        rw [if_neg h1] at hg
        replace hG := Aside0.mk hg
        clear hg
        replace h1 : r.2.2 = false := by simpa using h1
        rw [h1]
        clear h1
        clear fz fc
        go_wp2_with fail
        refine (HM.out g w7 _ hI hB).mono ?_
        rintro e wn ⟨v0, rfl, ho, hI', hB', hk⟩
        obtain ⟨AL, cL, rfl, hlL, _⟩ := Kd.R_reads ho
        have hsz := hB.size
        clear hI hB HM
        have hI := hI'
        have hB := hB'
        clear hI' hB'
        replace hx := hk.blk hx hgb.symm (by simp)
        replace RwP := Aside0.mk (Kd.R_keep RwP.out hk (fun k h => h.1))
        clear hk
        have RwL := Aside0.mk (Kd.R_lower (Kd.R_mono (Kd.R_types (hI.apart ho (by decide)) hx (by decide)) (fun k h => (⟨h.1.2, h.2⟩ : k ≠ g ∧ k ≠ w9.heap.size))) hsz)
        clear ho hsz
        have fz := blk_frozen hx 3
        have fc := (blk_cell hx 3).trans rfl
        replace hI := hI.far (p := ⟨w9.heap.size, 3, none⟩) hgb (.slice AL l.1.length cL)
        replace hB := below_set (j := 3) (v := .slice AL l.1.length cL) hB hgb7
        replace hx := blk_put (cs' := #[.string t.1, .slice AP p.1.length cP, .int .i64 r.1, .slice AL l.1.length cL, .slice none 0 0]) hx 3 (.slice AL l.1.length cL) rfl
        replace RwP := Aside0.mk (Kd.R_far (p := ⟨w9.heap.size, 3, none⟩) RwP.out (fun k h => h.2) (.slice AL l.1.length cL))
        replace RwL := Aside0.mk (Kd.R_far (p := ⟨w9.heap.size, 3, none⟩) RwL.out (fun k h => h.2) (.slice AL l.1.length cL))
        by_cases h1 : ¬ l.2.1 = 0
        · have hg := hG.out
          rw [if_pos h1] at hg
          have HG := Aside0.mk (hG0.out.trans hg.symm)
          clear hg hG hG0
          have hz := HZ.out _ hB
          have hB := HW.out _ hB
          go_wp2_with ((with_reducible refine gate_store (t := 37) (p := 2) (v := .tmp 41) rfl ?_); refine wpList_store_row rfl 37 (.tmp 2) (.tmp 41) rfl w.heap.size #[.string ⟨#[]⟩, .slice none 0 0, .int .i64 0, .slice none 0 0, .slice none 0 0] rfl rfl 37 _ hz (by rw [hi]; rfl) rfl (by kernel_rfl) ?_)
          refine bodyPost_ret (results_ct rfl _ _ w.heap.size 37 #[.string ⟨#[]⟩, .slice none 0 0, .int .i64 0, .slice none 0 0, .slice none 0 0] (0, 0) _ rfl (setRow_heap _ _ _ _ _ _ hz) Tryd.underlying37 rfl hi) rfl ?_
          exact GetPost.zero (v := .bool true) HG.out rfl (below_setRow hB (Nat.le_refl _) _)
        · have hg := hG.out
          rw [if_neg h1] at hg
          replace hG := Aside0.mk hg
          clear hg
          have h1 := h1
          replace h1 : l.2.1 = 0 := by simpa using h1
          rw [h1]
          clear h1
          go_wp2_with fail
          refine (HN.out g w7 _ hI hB).mono ?_
          clear fz fc
          rintro e wn ⟨rfl, hI', hB', hk⟩
          clear hI hB
          have hI := hI'
          have hB := hB'
          clear hI' hB'
          replace hx := hk.blk hx hgb.symm (by simp)
          replace RwP := Aside0.mk (Kd.R_keep RwP.out hk (fun k h => h.1))
          replace RwL := Aside0.mk (Kd.R_keep RwL.out hk (fun k h => h.1))
          clear hk
          by_cases h1 : n.1 > 16384
          · have hg := hG.out
            rw [if_pos h1] at hg
            have HG := Aside0.mk (hG0.out.trans hg.symm)
            clear hg hG hG0
            have hz := HZ.out _ hB
            have hB := HW.out _ hB
            go_wp2_with ((with_reducible refine gate_store (t := 37) (p := 2) (v := .tmp 47) rfl ?_); refine wpList_store_row rfl 37 (.tmp 2) (.tmp 47) rfl w.heap.size #[.string ⟨#[]⟩, .slice none 0 0, .int .i64 0, .slice none 0 0, .slice none 0 0] rfl rfl 37 _ hz (by rw [hi]; rfl) rfl (by kernel_rfl) ?_)
            refine bodyPost_ret (results_ct rfl _ _ w.heap.size 37 #[.string ⟨#[]⟩, .slice none 0 0, .int .i64 0, .slice none 0 0, .slice none 0 0] (0, 0) _ rfl (setRow_heap _ _ _ _ _ _ hz) Tryd.underlying37 rfl hi) rfl ?_
            exact GetPost.zero (v := .bool true) HG.out rfl (below_setRow hB (Nat.le_refl _) _)
          · have hg := hG.out
            rw [if_neg h1] at hg
            replace hG := Aside0.mk hg
            clear hg
            have h1 := h1
            go_wp2_with fail
            refine (HX.out g w7 _ hI hB).mono ?_
            rintro e wn ⟨v0, rfl, ho, hI', hB', hk⟩
            obtain ⟨Ax, cx, rfl, hlx, hCx⟩ := Kd.R_reads ho
            clear hI hB HX ho h1
            have hI := hI'
            have hB := hB'
            clear hI' hB'
            replace hx := hk.blk hx hgb.symm (by simp)
            replace RwP := Aside0.mk (Kd.R_keep RwP.out hk (fun k h => h.1))
            replace RwL := Aside0.mk (Kd.R_keep RwL.out hk (fun k h => h.1))
            clear hk
            replace hCx := Aside0.mk hCx
            go_wp2_with fail
            refine (bad_calls g w7 _ b x.2.1 x.2.2 hI).mono ?_
            rintro e wd ⟨rfl, m, rfl⟩
            replace hI := hI.drewN m
            replace hB := pw_below_drewN hB m
            by_cases h1 : x.2.2 = true
            · have hg := hG.out
              rw [if_pos h1] at hg
              have HG := Aside0.mk (hG0.out.trans hg.symm)
              clear hg hG hG0
              rw [h1]
              clear h1
              have hz := HZ.out _ hB
              have hB := HW.out _ hB
              go_wp2_with ((with_reducible refine gate_store (t := 37) (p := 2) (v := .tmp 54) rfl ?_); refine wpList_store_row rfl 37 (.tmp 2) (.tmp 54) rfl w.heap.size #[.string ⟨#[]⟩, .slice none 0 0, .int .i64 0, .slice none 0 0, .slice none 0 0] rfl rfl 37 _ hz (by rw [hi]; rfl) rfl (by kernel_rfl) ?_)
              refine bodyPost_ret (results_ct rfl _ _ w.heap.size 37 #[.string ⟨#[]⟩, .slice none 0 0, .int .i64 0, .slice none 0 0, .slice none 0 0] (0, 0) _ rfl (setRow_heap _ _ _ _ _ _ hz) Tryd.underlying37 rfl hi) rfl ?_
              exact GetPost.zero (v := .bool true) HG.out rfl (below_setRow hB (Nat.le_refl _) _)
            · have hg := hG.out
              rw [if_neg h1] at hg
              replace hG := Aside0.mk hg
              clear hg
              replace h1 : x.2.2 = false := by simpa using h1
              rw [h1]
              clear h1
              replace RwP := Aside0.mk (Kd.R_below RwP.out (pw_below_drewN (Below.refl _ _) m))
              replace RwL := Aside0.mk (Kd.R_below RwL.out (pw_below_drewN (Below.refl _ _) m))
              go_wp2_with fail
              refine (HD.out Ax cx _ (Kd.C_below hCx.out (pw_below_drewN (Below.refl _ _) m)) hlx (HL.out.below (HW.out _ hB))).mono ?_
              rintro e wc ⟨v0, rfl, ho, hb⟩
              obtain ⟨AC, cC, rfl, hlC, _⟩ := Kd.R_reads ho
              have hsz := hB.size
              replace hI := hI.below hb
              replace hB := below_then hB hB.size hb
              replace hx := (hb.block _ (blk_lt hx)).trans hx
              replace RwP := Aside0.mk (Kd.R_below RwP.out hb)
              replace RwL := Aside0.mk (Kd.R_below RwL.out hb)
              have RwC := Aside0.mk (Kd.R_lower (Kd.R_mono (Kd.R_types (hI.apart ho (by decide)) hx (by decide)) (fun k h => (⟨h.1.2, h.2⟩ : k ≠ g ∧ k ≠ w9.heap.size))) hsz)
              clear ho hsz HD hCx hlx hb
              have fz := blk_frozen hx 4
              have fc := (blk_cell hx 4).trans rfl
              replace hI := hI.far (p := ⟨w9.heap.size, 4, none⟩) hgb (.slice AC c.1.length cC)
              replace hB := below_set (j := 4) (v := .slice AC c.1.length cC) hB hgb7
              replace hx := blk_put (cs' := #[.string t.1, .slice AP p.1.length cP, .int .i64 r.1, .slice AL l.1.length cL, .slice AC c.1.length cC]) hx 4 (.slice AC c.1.length cC) rfl
              replace RwP := Aside0.mk (Kd.R_far (p := ⟨w9.heap.size, 4, none⟩) RwP.out (fun k h => h.2) (.slice AC c.1.length cC))
              replace RwL := Aside0.mk (Kd.R_far (p := ⟨w9.heap.size, 4, none⟩) RwL.out (fun k h => h.2) (.slice AC c.1.length cC))
              replace RwC := Aside0.mk (Kd.R_far (p := ⟨w9.heap.size, 4, none⟩) RwC.out (fun k h => h.2) (.slice AC c.1.length cC))
              by_cases h1 : ¬ c.2.2 = 0
              · have hg := hG.out
                rw [if_pos h1] at hg
                have HG := Aside0.mk (hG0.out.trans hg.symm)
                clear hg hG hG0
                have hz := HZ.out _ hB
                have hB := HW.out _ hB
                go_wp2_with ((with_reducible refine gate_store (t := 37) (p := 2) (v := .tmp 64) rfl ?_); refine wpList_store_row rfl 37 (.tmp 2) (.tmp 64) rfl w.heap.size #[.string ⟨#[]⟩, .slice none 0 0, .int .i64 0, .slice none 0 0, .slice none 0 0] rfl rfl 37 _ hz (by rw [hi]; rfl) rfl (by kernel_rfl) ?_)
                refine bodyPost_ret (results_ct rfl _ _ w.heap.size 37 #[.string ⟨#[]⟩, .slice none 0 0, .int .i64 0, .slice none 0 0, .slice none 0 0] (0, 0) _ rfl (setRow_heap _ _ _ _ _ _ hz) Tryd.underlying37 rfl hi) rfl ?_
                exact GetPost.zero (v := .bool true) HG.out rfl (below_setRow hB (Nat.le_refl _) _)
              · have hg := hG.out
                rw [if_neg h1] at hg
                replace hG := Aside0.mk hg
                clear hg
                have h1 := h1
                replace h1 : c.2.2 = 0 := by simpa using h1
                rw [h1]
                clear h1
                go_wp2_with fail
                clear fz fc
                have hlf := left_calls g w7 _ b x.2.1 x.2.2 hI
                have hg := hG.out
                generalize (if x.2.2 = true then (0 : Int) else (b.length : Int) - x.2.1) = dd at hg hlf
                replace hG := Aside0.mk hg
                clear hg
                refine hlf.mono ?_
                clear hlf
                rintro e wd ⟨rfl, m, rfl⟩
                replace hI := hI.drewN m
                replace hB := pw_below_drewN hB m
                by_cases h1 : dd > 0
                · have hg := hG.out
                  rw [if_pos h1] at hg
                  have HG := Aside0.mk (hG0.out.trans hg.symm)
                  clear hg hG hG0
                  have hz := HZ.out _ hB
                  have hB := HW.out _ hB
                  go_wp2_with ((with_reducible refine gate_store (t := 37) (p := 2) (v := .tmp 69) rfl ?_); refine wpList_store_row rfl 37 (.tmp 2) (.tmp 69) rfl w.heap.size #[.string ⟨#[]⟩, .slice none 0 0, .int .i64 0, .slice none 0 0, .slice none 0 0] rfl rfl 37 _ hz (by rw [hi]; rfl) rfl (by kernel_rfl) ?_)
                  refine bodyPost_ret (results_ct rfl _ _ w.heap.size 37 #[.string ⟨#[]⟩, .slice none 0 0, .int .i64 0, .slice none 0 0, .slice none 0 0] (0, 0) _ rfl (setRow_heap _ _ _ _ _ _ hz) Tryd.underlying37 rfl hi) rfl ?_
                  exact GetPost.zero (v := .bool true) HG.out rfl (below_setRow hB (Nat.le_refl _) _)
                · have hg := hG.out
                  rw [if_neg h1] at hg
                  replace hG := Aside0.mk hg
                  clear hg
                  have h1 := h1
                  have q0 := (blk_cell hx 0).trans rfl
                  have q1 := (blk_cell hx 1).trans rfl
                  have q2 := (blk_cell hx 2).trans rfl
                  have q3 := (blk_cell hx 3).trans rfl
                  have q4 := (blk_cell hx 4).trans rfl
                  have hz := HZ.out _ hB
                  have hBw := HW.out _ hB
                  go_wp2_with ((with_reducible refine gate_store (t := 37) (p := 2) (v := .tmp 70) rfl ?_); refine wpList_store_row rfl 37 (.tmp 2) (.tmp 70) rfl w.heap.size #[.string t.1, .slice AP p.1.length cP, .int .i64 r.1, .slice AL l.1.length cL, .slice AC c.1.length cC] rfl rfl 37 _ hz (by rw [hi]; rfl) rfl (by kernel_rfl) ?_)
                  refine bodyPost_ret (results_ct rfl _ _ w.heap.size 37 #[.string t.1, .slice AP p.1.length cP, .int .i64 r.1, .slice AL l.1.length cL, .slice AC c.1.length cC] (0, 0) _ rfl (setRow_heap _ _ _ _ _ _ hz) Tryd.underlying37 rfl hi) rfl ?_
                  have HG := hG0.out.trans hG.out.symm
                  have rP := (Kd.R_reads' (Kd.R_keep (Kd.R_types RwP.out (show (World.drewN _ m).heap[w.heap.size]? = _ from hz) (by decide)) (keep_setRow _ w.heap.size #[.string t.1, .slice AP p.1.length cP, .int .i64 r.1, .slice AL l.1.length cL, .slice AC c.1.length cC]) (fun k h => h.2))).2.2
                  have rL := (Kd.R_reads' (Kd.R_keep (Kd.R_types RwL.out (show (World.drewN _ m).heap[w.heap.size]? = _ from hz) (by decide)) (keep_setRow _ w.heap.size #[.string t.1, .slice AP p.1.length cP, .int .i64 r.1, .slice AL l.1.length cL, .slice AC c.1.length cC]) (fun k h => h.2))).2.2
                  have rC := (Kd.R_reads' (Kd.R_keep (Kd.R_types RwC.out (show (World.drewN _ m).heap[w.heap.size]? = _ from hz) (by decide)) (keep_setRow _ w.heap.size #[.string t.1, .slice AP p.1.length cP, .int .i64 r.1, .slice AL l.1.length cL, .slice AC c.1.length cC]) (fun k h => h.2))).2.2
                  refine ⟨⟨t.1, AP, cP, p.1, r.1, AL, cL, l.1, AC, cC, c.1.map conv⟩, ?_, ⟨rP, hlP, rL, hlL, ?_, ?_⟩, by rw [HG], below_setRow hBw (Nat.le_refl _) _⟩
                  · rw [HG]
                    simp only [UR.cells, List.length_map]
                    rfl
                  · have := C_conv rC
                    rw [List.length_map]
                    exact this
                  · rw [List.length_map]
                    exact hlC
end Go.Proofs.YthbcliofjfhmbaaDoor.Given
end

section
/- What a reader tells of bytes that were put; any bytes. -/
namespace Go.Proofs.YthbcliofjfhmbaaDoor.Given
set_option linter.unusedVariables false
set_option linter.unusedSimpArgs false
open Go.RowKit Go.Proofs.YthbcliofjfhmbaaDoorW.PrintWords Go.Proofs.YthbcliofjfhmbaaDoorW.PrintLast Go.Proofs.YthbcliofjfhmbaaDoorW.PrintMore
theorem bytes_len (s : ByteArray) : (bytesOf s).length = s.size := by simp [bytesOf]
theorem wf8 {a : Int} (h : (Lit.int .u8 a).wf = true) : 0 ≤ a ∧ a < 256 := by
  unfold Lit.wf at h
  simp only [Bool.and_eq_true, decide_eq_true_eq, show IntKind.u8.min = 0 from rfl, show IntKind.u8.max = 255 from rfl] at h
  omega
theorem text_all (s : ByteArray) (h : s.size ≤ 255) : textOf s = s := by
  unfold textOf
  rw [Nat.min_eq_left h]
  simp
theorem bytes_str : ∀ l : List Int, (∀ x ∈ l, 0 ≤ x ∧ x < 256) → bytesOf (strOfNums l) = l := by
  intro l h
  unfold strOfNums bytesOf
  simp only [List.map_map]
  refine (List.map_congr_left (fun x hx => ?_)).trans (List.map_id _)
  have := h x hx
  simp
  omega
theorem str_size (l : List Int) : (strOfNums l).size = l.length := by simp [strOfNums, ByteArray.size]
theorem le_leN : ∀ l : List Int, (∀ x ∈ l, 0 ≤ x ∧ x < 256) → l.length ≤ 2 → le l.length (leN l) = l
  | [], _, _ => rfl
  | [a], h, _ => by
    have := h a (by simp)
    simp [le, leN, sh]
    omega
  | [a, b], h, _ => by
    have h1 := h a (by simp)
    have h2 := h b (by simp)
    simp [le, leN, sh]
    omega
  | _ :: _ :: _ :: _, _, h => by simp at h
theorem leN_small (l : List Int) (h : ∀ x ∈ l, 0 ≤ x ∧ x < 256) (hl : l.length ≤ 2) : 0 ≤ leN l ∧ leN l < 65536 := by
  match l, hl with
  | [], _ => simp [leN]
  | [a], _ => have := h a (by simp); simp [leN]; omega
  | [a, b], _ => have h1 := h a (by simp); have h2 := h b (by simp); simp [leN]; omega
  | _ :: _ :: _ :: _, h => simp at h
/-- What was told of a number: the bytes are there. -/
theorem num_inv {b : List Int} (hb : ∀ x ∈ b, 0 ≤ x ∧ x < 256) {at_ : Int} {many : Int} {m : Nat} (hm : mx 0 (mn many 8) = m) (hm2 : m ≤ 2) (h0 : 0 ≤ at_) (h1 : at_ ≤ b.length) (h : (numR b at_ false many).2.2 = false) :
    (numR b at_ false many).2.1 = at_ + m ∧ at_ + m ≤ b.length ∧ 0 ≤ (numR b at_ false many).1 ∧ (numR b at_ false many).1 < 2 ^ (8 * m) ∧ b.drop at_.toNat = le m (numR b at_ false many).1 ++ b.drop (at_ + m).toNat := by
  unfold numR at h ⊢
  rw [hm] at h ⊢
  by_cases hk : okR b at_ false m
  · rw [if_pos hk]
    obtain ⟨_, _, hk⟩ := hk
    have hl : (cutR b at_ m).length = m := by unfold cutR; simp; omega
    have hc : ∀ x ∈ cutR b at_ m, 0 ≤ x ∧ x < 256 := fun x hx => hb x (List.mem_of_mem_drop (List.mem_of_mem_take hx))
    have hs := leN_small _ hc (by omega)
    have hs2 := (leN_lim _ hc).2
    rw [hl] at hs2
    have hw : wrap64 (leN (cutR b at_ m)) = leN (cutR b at_ m) := by unfold wrap64; omega
    refine ⟨rfl, by omega, by dsimp only; rw [hw]; exact hs.1, by dsimp only; rw [hw]; exact hs2, ?_⟩
    dsimp only
    rw [hw]
    have := le_leN _ hc (by omega)
    rw [hl] at this
    rw [this]
    unfold cutR
    rw [show (at_ + (m : Int)).toNat = at_.toNat + (m : Int).toNat by omega, ← List.drop_drop, List.take_append_drop]
  · rw [if_neg hk] at h
    cases h
theorem take_inv {b : List Int} {at_ n : Int} (h0 : 0 ≤ at_) (h1 : at_ ≤ b.length) (h : (takeR b at_ false n).2.2 = false) :
    (takeR b at_ false n).2.1 = at_ + n ∧ 0 ≤ n ∧ at_ + n ≤ b.length ∧ ((takeR b at_ false n).1.length : Int) = n ∧ b.drop at_.toNat = (takeR b at_ false n).1 ++ b.drop (at_ + n).toNat := by
  unfold takeR at h ⊢
  by_cases hk : okR b at_ false n
  · rw [if_pos hk]
    obtain ⟨_, hk0, hk⟩ := hk
    refine ⟨rfl, hk0, by omega, by dsimp only; unfold cutR; simp; omega, ?_⟩
    dsimp only
    unfold cutR
    rw [show (at_ + n).toNat = at_.toNat + n.toNat by omega, ← List.drop_drop, List.take_append_drop]
  · rw [if_neg hk] at h
    cases h
theorem take_mem' {b : List Int} {at_ : Int} {bad : Bool} {n : Int} : ∀ x ∈ (takeR b at_ bad n).1, x ∈ b := by
  intro x hx
  unfold takeR at hx
  split at hx
  · exact List.mem_of_mem_drop (List.mem_of_mem_take hx)
  · cases hx
theorem num_bad_true (b : List Int) (at_ many : Int) : numR b at_ true many = (0, at_, true) := by
  unfold numR
  rw [if_neg (fun h => by cases h.1)]
theorem take_bad_true (b : List Int) (at_ n : Int) : takeR b at_ true n = ([], at_, true) := by
  unfold takeR
  rw [if_neg (fun h => by cases h.1)]
theorem text_inv {b : List Int} (hb : ∀ x ∈ b, 0 ≤ x ∧ x < 256) {at_ : Int} (h0 : 0 ≤ at_) (h1 : at_ ≤ b.length) (h : (textR b at_ false).2.2 = false) :
    (textR b at_ false).1.size ≤ 255 ∧ (textR b at_ false).2.1 = at_ + 1 + (textR b at_ false).1.size ∧ at_ + 1 + (textR b at_ false).1.size ≤ b.length ∧ b.drop at_.toNat = le 1 ((textR b at_ false).1.size : Int) ++ bytesOf (textR b at_ false).1 ++ b.drop (textR b at_ false).2.1.toNat := by
  unfold textR at h ⊢
  dsimp only at h ⊢
  have hn := num_inv hb (at_ := at_) (many := 1) (m := 1) (by decide) (by decide) h0 h1
  generalize numR b at_ false 1 = t at h hn ⊢
  cases hq : t.2.2 with
  | true => rw [hq, take_bad_true] at h; cases h
  | false =>
    obtain ⟨e1, e2, e3, e4, e5⟩ := hn hq
    rw [hq, e1] at h
    have hm := take_mem' (b := b) (at_ := at_ + (1 : Nat)) (bad := false) (n := t.1)
    have hi := take_inv (by omega) e2 h
    rw [e1]
    generalize takeR b (at_ + (1 : Nat)) false t.1 = u at h hi hm ⊢
    obtain ⟨f1, f2, f3, f4, f5⟩ := hi
    have hp : (2 : Int) ^ (8 * 1) = 256 := rfl
    rw [hp] at e4
    rw [str_size, f1, bytes_str _ (fun x hx => hb x (hm x hx))]
    refine ⟨by omega, by omega, by omega, ?_⟩
    rw [e5, f5, ← f4, ← List.append_assoc]
end Go.Proofs.YthbcliofjfhmbaaDoor.Given
end

section
/- Printed by a program of this session (wip/pg.py, over the print of the kit): functions, their Lean twins, and the proofs that the calls come to them; each under the conditions that it names. -/
namespace Go.Proofs.YthbcliofjfhmbaaDoor.PCod
open Go.Proofs.YthbcliofjfhmbaaDoor.Given
open Go.RowKit Go.Proofs.YthbcliofjfhmbaaDoorW.PrintWords Go.Proofs.YthbcliofjfhmbaaDoorW.PrintLast Go.Proofs.YthbcliofjfhmbaaDoorW.PrintMore
attribute [local go_sem] max2_int min2_int max_two min_two max_three min_three max_four min_four   -- for this text's walks alone
set_option linter.unusedVariables false
set_option linter.unusedSimpArgs false

/-! ### op_Is: function 62 -/
def op_Is.f (a0 : Int) : Option (Bool) := if a0 ≥ 0 then (some (decide (a0 < 38))) else (some false)
set_option maxHeartbeats 8000000 in
set_option maxRecDepth 100000 in
theorem op_Is.calls (a0 : Int) (r : Bool) (w : World) (h : op_Is.f a0 = some r) :
    Calls Tryd.prog 62 #[.int .i64 a0] w fun e w' => e = .returned (.bool r) ∧ Drawn0 w w' := by
  have H : (if a0 ≥ 0 then (some (decide (a0 < 38))) else (some false)) = some r := h
  clear h
  by_cases c2 : a0 ≥ 0
  · rw [if_pos c2] at H
    have c2b0 : decide (0 ≤ a0) = true := decide_eq_true c2
    clear c2
    obtain rfl := Option.some.inj H
    go_enter Tryd.func62, Tryd.ntmps62
    go_wp2
    go_ret
    exact ⟨by first | rfl | (simp; done) | (simp [*]; done), by repeat (first | exact Drawn0.refl _ | apply Drawn0.step)⟩
  · rw [if_neg c2] at H
    have c2b0 : decide (0 ≤ a0) = false := decide_eq_false c2
    clear c2
    obtain rfl := Option.some.inj H
    go_enter Tryd.func62, Tryd.ntmps62
    go_wp2
    go_ret
    exact ⟨by first | rfl | (simp; done) | (simp [*]; done), by repeat (first | exact Drawn0.refl _ | apply Drawn0.step)⟩

/-! ### op_may: function 63 -/
def op_may.f (a0 : Int) (a1 : Int) : Option (Bool) := if a1 = 0 then (some (a0 == 0)) else (if a0 ≥ 0 then (some (decide (a0 ≤ 65535))) else (some false))
set_option maxHeartbeats 8000000 in
set_option maxRecDepth 100000 in
theorem op_may.calls (a0 : Int) (a1 : Int) (r : Bool) (w : World) (h : op_may.f a0 a1 = some r) :
    Calls Tryd.prog 63 #[.int .i64 a0, .int .i64 a1] w fun e w' => e = .returned (.bool r) ∧ Drawn0 w w' := by
  have H : (if a1 = 0 then (some (a0 == 0)) else (if a0 ≥ 0 then (some (decide (a0 ≤ 65535))) else (some false))) = some r := h
  clear h
  by_cases c3 : a1 = 0
  · rw [if_pos c3] at H
    have c3b0 : (a1 == 0) = true := beq_iff_eq.mpr c3
    have c3b1 : (a1 != 0) = false := bne_eq_false_iff_eq.mpr c3
    clear c3
    obtain rfl := Option.some.inj H
    go_enter Tryd.func63, Tryd.ntmps63
    go_wp2
    go_ret
    exact ⟨by first | rfl | (simp; done) | (simp [*]; done), by repeat (first | exact Drawn0.refl _ | apply Drawn0.step)⟩
  · rw [if_neg c3] at H
    have c3b0 : (a1 == 0) = false := beq_eq_false_iff_ne.mpr c3
    have c3b1 : (a1 != 0) = true := bne_iff_ne.mpr c3
    by_cases c4 : a0 ≥ 0
    · rw [if_pos c4] at H
      have c4b0 : decide (0 ≤ a0) = true := decide_eq_true c4
      clear c4
      obtain rfl := Option.some.inj H
      go_enter Tryd.func63, Tryd.ntmps63
      go_wp2
      go_ret
      exact ⟨by first | rfl | (simp; done) | (simp [*]; done), by repeat (first | exact Drawn0.refl _ | apply Drawn0.step)⟩
    · rw [if_neg c4] at H
      have c4b0 : decide (0 ≤ a0) = false := decide_eq_false c4
      clear c4
      obtain rfl := Option.some.inj H
      go_enter Tryd.func63, Tryd.ntmps63
      go_wp2
      go_ret
      exact ⟨by first | rfl | (simp; done) | (simp [*]; done), by repeat (first | exact Drawn0.refl _ | apply Drawn0.step)⟩

/-! ### op_Right: function 31 -/
def op_Right.f (a0_0 : Int) (a0_1 : Int) (a0_2 : Int) : Option (Bool) := (op_Shape.f a0_0).bind fun bt102 => ((op_Is.f a0_0).bind fun t104 => (if t104 = true then ((op_may.f a0_1 bt102.1).bind fun t105 => (if t105 = true then ((op_may.f a0_2 bt102.2).bind fun t106 => (some t106)) else (some false))) else (some false)))
set_option maxHeartbeats 8000000 in
set_option maxRecDepth 100000 in
theorem op_Right.calls (a0_0 : Int) (a0_1 : Int) (a0_2 : Int) (r : Bool) (w : World) (h : op_Right.f a0_0 a0_1 a0_2 = some r) (hL_ : LaidOps w) :
    Calls Tryd.prog 31 #[.agg #[.int .i64 a0_0, .int .i64 a0_1, .int .i64 a0_2]] w fun e w' => e = .returned (.bool r) ∧ Below w.heap.size w w' := by
  have HL_ := Aside0.mk hL_
  clear hL_
  have hu47 := Tryd.underlying47
  have HB := Aside0.mk (Below.refl w.heap.size w)
  have H : ((op_Shape.f a0_0).bind fun bt102 => ((op_Is.f a0_0).bind fun t104 => (if t104 = true then ((op_may.f a0_1 bt102.1).bind fun t105 => (if t105 = true then ((op_may.f a0_2 bt102.2).bind fun t106 => (some t106)) else (some false))) else (some false)))) = some r := h
  clear h
  replace H := Option.bind_eq_some_iff.mp H
  obtain ⟨⟨t102, t103⟩, A20, H⟩ := H
  replace H : ((op_Is.f a0_0).bind fun t104 => (if t104 = true then ((op_may.f a0_1 t102).bind fun t105 => (if t105 = true then ((op_may.f a0_2 t103).bind fun t106 => (some t106)) else (some false))) else (some false))) = some r := H
  have A2 := Aside0.mk A20
  clear A20
  replace H := Option.bind_eq_some_iff.mp H
  obtain ⟨t104, A30, H⟩ := H
  replace H : (if t104 = true then ((op_may.f a0_1 t102).bind fun t105 => (if t105 = true then ((op_may.f a0_2 t103).bind fun t106 => (some t106)) else (some false))) else (some false)) = some r := H
  have A3 := Aside0.mk A30
  clear A30
  by_cases c4 : t104 = true
  · subst c4
    have H1 : ((op_may.f a0_1 t102).bind fun t105 => (if t105 = true then ((op_may.f a0_2 t103).bind fun t106 => (some t106)) else (some false))) = some r := by rw [if_pos rfl] at H; exact H
    clear H
    have H := H1
    clear H1
    replace H := Option.bind_eq_some_iff.mp H
    obtain ⟨t105, A50, H⟩ := H
    replace H : (if t105 = true then ((op_may.f a0_2 t103).bind fun t106 => (some t106)) else (some false)) = some r := H
    have A5 := Aside0.mk A50
    clear A50
    by_cases c6 : t105 = true
    · subst c6
      have H1 : ((op_may.f a0_2 t103).bind fun t106 => (some t106)) = some r := by rw [if_pos rfl] at H; exact H
      clear H
      have H := H1
      clear H1
      replace H := Option.bind_eq_some_iff.mp H
      obtain ⟨t106, A70, H⟩ := H
      replace H : (some t106) = some r := H
      have A7 := Aside0.mk A70
      clear A70
      obtain rfl := Option.some.inj H
      go_enter Tryd.func31, Tryd.ntmps31
      go_wp2_with (first | ((with_reducible refine gate_dst (N := 1) rfl ?_); refine box_event ?hg (N := 1) ?hd (cs := #[.int .i64 a0_0, .int .i64 a0_1, .int .i64 a0_2]) (t := 47) ?hr ?_; (case hd => rfl); (case hg => rfl); (case hr => first | (go_simp; done) | (go_simp; rfl)); intro gb101 hg w8 hbox hb; have n0_ := Aside0.mk (below_step (by repeat (first | (with_reducible first | exact HB.out | apply below_alloc | apply pw_below_drewN | apply below_drew1) | exact HB.out)) hb); have n1_ := Aside0.mk (hbox); have n2_ := Aside0.mk ((by rw [hg]; exact (below_size (by repeat (first | (with_reducible first | exact HB.out | apply below_alloc | apply pw_below_drewN | apply below_drew1) | exact HB.out))) : w.heap.size ≤ gb101)); have n3_ := Aside0.mk ((by rw [hg]; exact (below_size (by repeat (first | (with_reducible first | exact HB.out | apply below_alloc | apply pw_below_drewN | apply below_drew1) | exact HB.out))) : w.heap.size ≤ gb101)); clear HB; have HB := n0_; have BK101 := n1_; have GW101 := n2_; have GE101 := n3_; clear n0_ n1_ n2_ n3_; clear hb hbox hg; have hcz9_0 : w8.cell? ⟨gb101, 0, none⟩ = some (.int .i64 a0_0) := (blk_cell BK101.out 0).trans rfl; have hcz9_1 : w8.cell? ⟨gb101, 1, none⟩ = some (.int .i64 a0_1) := (blk_cell BK101.out 1).trans rfl; have hcz9_2 : w8.cell? ⟨gb101, 2, none⟩ = some (.int .i64 a0_2) := (blk_cell BK101.out 2).trans rfl; have hfz9_0 := blk_frozen BK101.out 0; have hfz9_1 := blk_frozen BK101.out 1; have hfz9_2 := blk_frozen BK101.out 2) | ((with_reducible refine gate_callee (f := 61) rfl ?_); refine goesL_ (some 8) rfl rfl Tryd.func61 (by kernel_rfl) rfl #[.int .i64 a0_0] rfl (by (try simp only [List.map_toArray, List.map_cons, List.map_nil]); first | done | rfl | (simp only [List.length_drop, List.length_take]; rfl)) ?_; (with_reducible refine (op_Shape.calls a0_0 t102 t103 _ A2.out (LaidOps.below HL_.out (by repeat (first | (with_reducible first | exact HB.out | apply below_alloc | apply pw_below_drewN | apply below_drew1 | refine below_set ?_ GE101.out) | exact HB.out)))).mono ?_); rintro e w10 ⟨rfl, hb⟩; refine ⟨_, rfl, ?_⟩; have n0_ := Aside0.mk (blk_below (g := gb101) (o := .cells #[.int .i64 a0_0, .int .i64 a0_1, .int .i64 a0_2] 47 (0, 0)) (by (with_reducible repeat (first | refine blk_drewN ?_ _ | refine blk_drew ?_ | refine blk_alloc ?_ _)); exact BK101.out) hb); have n1_ := Aside0.mk (below_step (by repeat (first | (with_reducible first | exact HB.out | apply below_alloc | apply pw_below_drewN | apply below_drew1 | refine below_set ?_ GE101.out) | exact HB.out)) hb); clear BK101; clear HB; have BK101 := n0_; have HB := n1_; clear n0_ n1_; (try clear hb); (try clear hb2); (try clear hk); (try clear hi); have hcz11_0 : w10.cell? ⟨gb101, 0, none⟩ = some (.int .i64 a0_0) := (blk_cell BK101.out 0).trans rfl; have hcz11_1 : w10.cell? ⟨gb101, 1, none⟩ = some (.int .i64 a0_1) := (blk_cell BK101.out 1).trans rfl; have hcz11_2 : w10.cell? ⟨gb101, 2, none⟩ = some (.int .i64 a0_2) := (blk_cell BK101.out 2).trans rfl; have hfz11_0 := blk_frozen BK101.out 0; have hfz11_1 := blk_frozen BK101.out 1; have hfz11_2 := blk_frozen BK101.out 2) | ((with_reducible refine gate_callee (f := 62) rfl ?_); refine goesL_ (some 13) rfl rfl Tryd.func62 (by kernel_rfl) rfl #[.int .i64 a0_0] rfl (by (try simp only [List.map_toArray, List.map_cons, List.map_nil]); first | done | rfl | (simp only [List.length_drop, List.length_take]; rfl)) ?_; (with_reducible refine (op_Is.calls a0_0 true _ A3.out).mono ?_); rintro e w' ⟨rfl, ⟨nd, rfl⟩⟩; refine ⟨_, rfl, ?_⟩) | (go_at_call 63; (with_reducible refine (op_may.calls a0_1 t102 true _ A5.out).mono ?_); rintro e w' ⟨rfl, ⟨nd, rfl⟩⟩) | (go_at_call 63; (with_reducible refine (op_may.calls a0_2 t103 t106 _ A7.out).mono ?_); rintro e w' ⟨rfl, ⟨nd, rfl⟩⟩))
      go_ret
      exact ⟨by first | rfl | (simp [errW_none, errW_some] <;> rfl) | (simp [*, errW_none, errW_some] <;> rfl), by repeat (first | (with_reducible first | exact HB.out | apply below_alloc | apply pw_below_drewN | apply below_drew1 | refine below_set ?_ GE101.out) | exact HB.out)⟩
    · replace c6 := Bool.eq_false_iff.mpr c6
      subst c6
      have H1 : (some false) = some r := by rw [if_neg (show ¬ (false = true) by decide)] at H; exact H
      clear H
      have H := H1
      clear H1
      obtain rfl := Option.some.inj H
      go_enter Tryd.func31, Tryd.ntmps31
      go_wp2_with (first | ((with_reducible refine gate_dst (N := 1) rfl ?_); refine box_event ?hg (N := 1) ?hd (cs := #[.int .i64 a0_0, .int .i64 a0_1, .int .i64 a0_2]) (t := 47) ?hr ?_; (case hd => rfl); (case hg => rfl); (case hr => first | (go_simp; done) | (go_simp; rfl)); intro gb101 hg w12 hbox hb; have n0_ := Aside0.mk (below_step (by repeat (first | (with_reducible first | exact HB.out | apply below_alloc | apply pw_below_drewN | apply below_drew1) | exact HB.out)) hb); have n1_ := Aside0.mk (hbox); have n2_ := Aside0.mk ((by rw [hg]; exact (below_size (by repeat (first | (with_reducible first | exact HB.out | apply below_alloc | apply pw_below_drewN | apply below_drew1) | exact HB.out))) : w.heap.size ≤ gb101)); have n3_ := Aside0.mk ((by rw [hg]; exact (below_size (by repeat (first | (with_reducible first | exact HB.out | apply below_alloc | apply pw_below_drewN | apply below_drew1) | exact HB.out))) : w.heap.size ≤ gb101)); clear HB; have HB := n0_; have BK101 := n1_; have GW101 := n2_; have GE101 := n3_; clear n0_ n1_ n2_ n3_; clear hb hbox hg; have hcz13_0 : w12.cell? ⟨gb101, 0, none⟩ = some (.int .i64 a0_0) := (blk_cell BK101.out 0).trans rfl; have hcz13_1 : w12.cell? ⟨gb101, 1, none⟩ = some (.int .i64 a0_1) := (blk_cell BK101.out 1).trans rfl; have hcz13_2 : w12.cell? ⟨gb101, 2, none⟩ = some (.int .i64 a0_2) := (blk_cell BK101.out 2).trans rfl; have hfz13_0 := blk_frozen BK101.out 0; have hfz13_1 := blk_frozen BK101.out 1; have hfz13_2 := blk_frozen BK101.out 2) | ((with_reducible refine gate_callee (f := 61) rfl ?_); refine goesL_ (some 8) rfl rfl Tryd.func61 (by kernel_rfl) rfl #[.int .i64 a0_0] rfl (by (try simp only [List.map_toArray, List.map_cons, List.map_nil]); first | done | rfl | (simp only [List.length_drop, List.length_take]; rfl)) ?_; (with_reducible refine (op_Shape.calls a0_0 t102 t103 _ A2.out (LaidOps.below HL_.out (by repeat (first | (with_reducible first | exact HB.out | apply below_alloc | apply pw_below_drewN | apply below_drew1 | refine below_set ?_ GE101.out) | exact HB.out)))).mono ?_); rintro e w14 ⟨rfl, hb⟩; refine ⟨_, rfl, ?_⟩; have n0_ := Aside0.mk (blk_below (g := gb101) (o := .cells #[.int .i64 a0_0, .int .i64 a0_1, .int .i64 a0_2] 47 (0, 0)) (by (with_reducible repeat (first | refine blk_drewN ?_ _ | refine blk_drew ?_ | refine blk_alloc ?_ _)); exact BK101.out) hb); have n1_ := Aside0.mk (below_step (by repeat (first | (with_reducible first | exact HB.out | apply below_alloc | apply pw_below_drewN | apply below_drew1 | refine below_set ?_ GE101.out) | exact HB.out)) hb); clear BK101; clear HB; have BK101 := n0_; have HB := n1_; clear n0_ n1_; (try clear hb); (try clear hb2); (try clear hk); (try clear hi); have hcz15_0 : w14.cell? ⟨gb101, 0, none⟩ = some (.int .i64 a0_0) := (blk_cell BK101.out 0).trans rfl; have hcz15_1 : w14.cell? ⟨gb101, 1, none⟩ = some (.int .i64 a0_1) := (blk_cell BK101.out 1).trans rfl; have hcz15_2 : w14.cell? ⟨gb101, 2, none⟩ = some (.int .i64 a0_2) := (blk_cell BK101.out 2).trans rfl; have hfz15_0 := blk_frozen BK101.out 0; have hfz15_1 := blk_frozen BK101.out 1; have hfz15_2 := blk_frozen BK101.out 2) | ((with_reducible refine gate_callee (f := 62) rfl ?_); refine goesL_ (some 13) rfl rfl Tryd.func62 (by kernel_rfl) rfl #[.int .i64 a0_0] rfl (by (try simp only [List.map_toArray, List.map_cons, List.map_nil]); first | done | rfl | (simp only [List.length_drop, List.length_take]; rfl)) ?_; (with_reducible refine (op_Is.calls a0_0 true _ A3.out).mono ?_); rintro e w' ⟨rfl, ⟨nd, rfl⟩⟩; refine ⟨_, rfl, ?_⟩) | (go_at_call 63; (with_reducible refine (op_may.calls a0_1 t102 false _ A5.out).mono ?_); rintro e w' ⟨rfl, ⟨nd, rfl⟩⟩))
      go_ret
      exact ⟨by first | rfl | (simp [errW_none, errW_some] <;> rfl) | (simp [*, errW_none, errW_some] <;> rfl), by repeat (first | (with_reducible first | exact HB.out | apply below_alloc | apply pw_below_drewN | apply below_drew1 | refine below_set ?_ GE101.out) | exact HB.out)⟩
  · replace c4 := Bool.eq_false_iff.mpr c4
    subst c4
    have H1 : (some false) = some r := by rw [if_neg (show ¬ (false = true) by decide)] at H; exact H
    clear H
    have H := H1
    clear H1
    obtain rfl := Option.some.inj H
    go_enter Tryd.func31, Tryd.ntmps31
    go_wp2_with (first | ((with_reducible refine gate_dst (N := 1) rfl ?_); refine box_event ?hg (N := 1) ?hd (cs := #[.int .i64 a0_0, .int .i64 a0_1, .int .i64 a0_2]) (t := 47) ?hr ?_; (case hd => rfl); (case hg => rfl); (case hr => first | (go_simp; done) | (go_simp; rfl)); intro gb101 hg w16 hbox hb; have n0_ := Aside0.mk (below_step (by repeat (first | (with_reducible first | exact HB.out | apply below_alloc | apply pw_below_drewN | apply below_drew1) | exact HB.out)) hb); have n1_ := Aside0.mk (hbox); have n2_ := Aside0.mk ((by rw [hg]; exact (below_size (by repeat (first | (with_reducible first | exact HB.out | apply below_alloc | apply pw_below_drewN | apply below_drew1) | exact HB.out))) : w.heap.size ≤ gb101)); have n3_ := Aside0.mk ((by rw [hg]; exact (below_size (by repeat (first | (with_reducible first | exact HB.out | apply below_alloc | apply pw_below_drewN | apply below_drew1) | exact HB.out))) : w.heap.size ≤ gb101)); clear HB; have HB := n0_; have BK101 := n1_; have GW101 := n2_; have GE101 := n3_; clear n0_ n1_ n2_ n3_; clear hb hbox hg; have hcz17_0 : w16.cell? ⟨gb101, 0, none⟩ = some (.int .i64 a0_0) := (blk_cell BK101.out 0).trans rfl; have hcz17_1 : w16.cell? ⟨gb101, 1, none⟩ = some (.int .i64 a0_1) := (blk_cell BK101.out 1).trans rfl; have hcz17_2 : w16.cell? ⟨gb101, 2, none⟩ = some (.int .i64 a0_2) := (blk_cell BK101.out 2).trans rfl; have hfz17_0 := blk_frozen BK101.out 0; have hfz17_1 := blk_frozen BK101.out 1; have hfz17_2 := blk_frozen BK101.out 2) | ((with_reducible refine gate_callee (f := 61) rfl ?_); refine goesL_ (some 8) rfl rfl Tryd.func61 (by kernel_rfl) rfl #[.int .i64 a0_0] rfl (by (try simp only [List.map_toArray, List.map_cons, List.map_nil]); first | done | rfl | (simp only [List.length_drop, List.length_take]; rfl)) ?_; (with_reducible refine (op_Shape.calls a0_0 t102 t103 _ A2.out (LaidOps.below HL_.out (by repeat (first | (with_reducible first | exact HB.out | apply below_alloc | apply pw_below_drewN | apply below_drew1 | refine below_set ?_ GE101.out) | exact HB.out)))).mono ?_); rintro e w18 ⟨rfl, hb⟩; refine ⟨_, rfl, ?_⟩; have n0_ := Aside0.mk (blk_below (g := gb101) (o := .cells #[.int .i64 a0_0, .int .i64 a0_1, .int .i64 a0_2] 47 (0, 0)) (by (with_reducible repeat (first | refine blk_drewN ?_ _ | refine blk_drew ?_ | refine blk_alloc ?_ _)); exact BK101.out) hb); have n1_ := Aside0.mk (below_step (by repeat (first | (with_reducible first | exact HB.out | apply below_alloc | apply pw_below_drewN | apply below_drew1 | refine below_set ?_ GE101.out) | exact HB.out)) hb); clear BK101; clear HB; have BK101 := n0_; have HB := n1_; clear n0_ n1_; (try clear hb); (try clear hb2); (try clear hk); (try clear hi); have hcz19_0 : w18.cell? ⟨gb101, 0, none⟩ = some (.int .i64 a0_0) := (blk_cell BK101.out 0).trans rfl; have hcz19_1 : w18.cell? ⟨gb101, 1, none⟩ = some (.int .i64 a0_1) := (blk_cell BK101.out 1).trans rfl; have hcz19_2 : w18.cell? ⟨gb101, 2, none⟩ = some (.int .i64 a0_2) := (blk_cell BK101.out 2).trans rfl; have hfz19_0 := blk_frozen BK101.out 0; have hfz19_1 := blk_frozen BK101.out 1; have hfz19_2 := blk_frozen BK101.out 2) | ((with_reducible refine gate_callee (f := 62) rfl ?_); refine goesL_ (some 13) rfl rfl Tryd.func62 (by kernel_rfl) rfl #[.int .i64 a0_0] rfl (by (try simp only [List.map_toArray, List.map_cons, List.map_nil]); first | done | rfl | (simp only [List.length_drop, List.length_take]; rfl)) ?_; (with_reducible refine (op_Is.calls a0_0 false _ A3.out).mono ?_); rintro e w' ⟨rfl, ⟨nd, rfl⟩⟩; refine ⟨_, rfl, ?_⟩))
    go_ret
    exact ⟨by first | rfl | (simp [errW_none, errW_some] <;> rfl) | (simp [*, errW_none, errW_some] <;> rfl), by repeat (first | (with_reducible first | exact HB.out | apply below_alloc | apply pw_below_drewN | apply below_drew1 | refine below_set ?_ GE101.out) | exact HB.out)⟩

/-! ### code_Encode: function 13 -/
def code_Encode.l0 : Nat → List Int → List (S47) → Int → Int → Option (List Int × Bool)
  | 0, _, _, _, _ => none
  | k + 1, x4, x7, x8, x9 => if x9 < x8 then (if 0 ≤ x9 then (if x9 < (x7.length : Int) then ((op_Right.f ((rd_T47 x7 x9).f0) ((rd_T47 x7 x9).f1) ((rd_T47 x7 x9).f2)).bind fun t109 => (if t109 = true then ((some (([((rd_T47 x7 x9).f0) % 256, ((rd_T47 x7 x9).f1) % 256, (((rd_T47 x7 x9).f1) / 256) % 256, ((rd_T47 x7 x9).f2) % 256, (((rd_T47 x7 x9).f2) / 256) % 256] : List Int) : List Int)).bind fun y110 => (if x4.length + y110.length < 140737488355328 then (code_Encode.l0 k (x4 ++ y110) x7 x8 (wrap64 (x9 + 1))) else (none))) else (some (([] : List Int), false)))) else (none)) else (none)) else (some (x4, true))
def code_Encode.f (k : Nat) (l0 : List (S47)) : Option (List Int × Bool) := code_Encode.l0 k ([] : List Int) l0 (l0.length : Int) 0
theorem code_Encode.mono_l : ∀ k, (∀ y0 y1 y2 y3, LeO (code_Encode.l0 k y0 y1 y2 y3) (code_Encode.l0 (k + 1) y0 y1 y2 y3))
  | 0 => fun _ _ _ _ r h => by simp [code_Encode.l0] at h
  | k + 1 => by
    have ih0 := code_Encode.mono_l k
    · intro y0 y1 y2 y3
      unfold code_Encode.l0
      repeat' first
      | (with_reducible exact ih0 _ _ _ _)
      | (with_reducible exact LeO.refl _)
      | (with_reducible exact LeO.none _)
      | (with_reducible refine LeO.ite ?_ ?_)
      | (with_reducible refine LeO.bind ?_ (fun _ => ?_))
      | exact ih0 _ _ _ _
      | exact LeO.none _
      | refine LeO.ite ?_ ?_
      | refine LeO.bind ?_ (fun _ => ?_)
theorem code_Encode.mono : ∀ a0 k, LeO (code_Encode.f k a0) (code_Encode.f (k + 1) a0) := by
  intro a0 k
  have ih0 := code_Encode.mono_l k
  unfold code_Encode.f
  repeat' first
      | (with_reducible exact ih0 _ _ _ _)
      | (with_reducible exact LeO.refl _)
      | (with_reducible exact LeO.none _)
      | (with_reducible refine LeO.ite ?_ ?_)
      | (with_reducible refine LeO.bind ?_ (fun _ => ?_))
      | exact ih0 _ _ _ _
      | exact LeO.none _
      | refine LeO.ite ?_ ?_
      | refine LeO.bind ?_ (fun _ => ?_)
set_option maxHeartbeats 8000000 in
set_option maxRecDepth 100000 in
theorem code_Encode.calls (k : Nat) (A0 : Option Addr) (c0 : Nat) (l0 : List (S47)) (r1 : List Int) (r2 : Bool) (w : World) (hr0 : Kd.C k47 w A0 l0.length l0) (hc0 : l0.length ≤ c0) (h : code_Encode.f k l0 = some (r1, r2)) (hL_ : LaidOps w) :
    Calls Tryd.prog 13 #[.slice A0 l0.length c0] w fun e w' => ∃ v0_ : Value, e = .returned (.tuple #[v0_, .bool r2]) ∧ Kd.R (Kd.int .u8) 5 w' w.heap.size (fun _ => True) v0_ r1 ∧ Below w.heap.size w w' := by
  have HL_ := Aside0.mk hL_
  clear hL_
  have hu47 := Tryd.underlying47
  have HR0 := Aside0.mk hr0
  have HC0 := Aside0.mk hc0
  clear hr0 hc0
  have HB := Aside0.mk (Below.refl w.heap.size w)
  have H : (code_Encode.l0 k ([] : List Int) l0 (l0.length : Int) 0) = some (r1, r2) := h
  clear h
  have H' := Aside0.mk H
  clear H
  go_enter Tryd.func13, Tryd.ntmps13
  go_wp2
  go_loopg [4, 9] k (fun kq v4 v9 w' => ∃ (x4_1 : List Int) (x9_1 : Int), v9 = .int .i64 x9_1 ∧ Aside0 (code_Encode.l0 kq x4_1 l0 (l0.length : Int) x9_1 = some (r1, r2)) ∧ Aside0 (kq ≤ k) ∧ Aside0 (Kd.R (Kd.int .u8) 5 w' w.heap.size (fun _ => True) v4 x4_1) ∧ Aside0 (Below w.heap.size w w'))
  case atStart => exact ⟨(([] : List Int)), (0), (by first | rfl | (simp; done) | (simp [*]; done)), H', ⟨Nat.le_refl _⟩, ⟨by first | exact Kd.R_nil _ _ _ _ _ | exact Kd.N_nil _ _ _ _ _ | exact Kd.V_nil _ _ _ _ _ | exact Kd.Q_nil _ _ _ _ _ | exact Kd.S_nil _ _ _ _ _⟩, ⟨by repeat (first | (with_reducible first | exact HB.out | apply below_alloc | apply pw_below_drewN | apply below_drew1) | exact HB.out)⟩⟩
  case round =>
    clear H'
    try clear c1
    obtain ⟨x4_1, x9_1, rfl, HA, HK1, HO_4, HB⟩ := hrel
    cases gk with
    | zero => exact absurd HA.out (by simp [code_Encode.l0])
    | succ k1 =>
      have H := HA.out
      clear HA
      simp only [code_Encode.l0] at H
      by_cases c2 : x9_1 < (l0.length : Int)
      · rw [if_pos c2] at H
        have c2b0 : decide (x9_1 < (l0.length : Int)) = true := decide_eq_true c2
        clear c2
        by_cases c3 : 0 ≤ x9_1
        · rw [if_pos c3] at H
          have c3b0 : decide (0 ≤ x9_1) = true := decide_eq_true c3
          clear c3
          by_cases c4 : x9_1 < (l0.length : Int)
          · rw [if_pos c4] at H
            have c4b0 : decide (x9_1 < (l0.length : Int)) = true := decide_eq_true c4
            clear c4
            replace H := Option.bind_eq_some_iff.mp H
            obtain ⟨t109, A50, H⟩ := H
            replace H : (if t109 = true then ((some (([((rd_T47 l0 x9_1).f0) % 256, ((rd_T47 l0 x9_1).f1) % 256, (((rd_T47 l0 x9_1).f1) / 256) % 256, ((rd_T47 l0 x9_1).f2) % 256, (((rd_T47 l0 x9_1).f2) / 256) % 256] : List Int) : List Int)).bind fun y110 => (if x4_1.length + y110.length < 140737488355328 then (code_Encode.l0 k1 (x4_1 ++ y110) l0 (l0.length : Int) (wrap64 (x9_1 + 1))) else (none))) else (some (([] : List Int), false))) = some (r1, r2) := H
            have A5 := Aside0.mk A50
            clear A50
            by_cases c6 : t109 = true
            · subst c6
              have H1 : ((some (([((rd_T47 l0 x9_1).f0) % 256, ((rd_T47 l0 x9_1).f1) % 256, (((rd_T47 l0 x9_1).f1) / 256) % 256, ((rd_T47 l0 x9_1).f2) % 256, (((rd_T47 l0 x9_1).f2) / 256) % 256] : List Int) : List Int)).bind fun y110 => (if x4_1.length + y110.length < 140737488355328 then (code_Encode.l0 k1 (x4_1 ++ y110) l0 (l0.length : Int) (wrap64 (x9_1 + 1))) else (none))) = some (r1, r2) := by rw [if_pos rfl] at H; exact H
              clear H
              have H := H1
              clear H1
              obtain ⟨y110, hy110⟩ : ∃ y_ : List Int, y_ = (([((rd_T47 l0 x9_1).f0) % 256, ((rd_T47 l0 x9_1).f1) % 256, (((rd_T47 l0 x9_1).f1) / 256) % 256, ((rd_T47 l0 x9_1).f2) % 256, (((rd_T47 l0 x9_1).f2) / 256) % 256] : List Int)) := ⟨_, rfl⟩
              replace H : (if x4_1.length + y110.length < 140737488355328 then (code_Encode.l0 k1 (x4_1 ++ y110) l0 (l0.length : Int) (wrap64 (x9_1 + 1))) else (none)) = some (r1, r2) := by first | (rw [hy110]; with_reducible exact H) | (have H2_ := (Option.bind_some _ _).symm.trans H; rw [hy110]; with_reducible exact H2_) | (have H2_ := (Option.bind_some _ _).symm.trans H; with_reducible exact H2_) | with_reducible exact H | (rw [hy110]; exact H) | exact H
              have Ny110 := Aside0.mk hy110
              clear hy110
              by_cases c7 : x4_1.length + y110.length < 140737488355328
              · rw [if_pos c7] at H
                have LMc7 := Aside0.mk c7
                clear c7
                obtain ⟨y113, hy113⟩ : ∃ y_ : List Int, y_ = (x4_1 ++ y110) := ⟨_, rfl⟩
                replace H : (code_Encode.l0 k1 y113 l0 (l0.length : Int) (wrap64 (x9_1 + 1))) = some (r1, r2) := by first | (rw [hy113]; with_reducible exact H) | (have H2_ := (Option.bind_some _ _).symm.trans H; rw [hy113]; with_reducible exact H2_) | (have H2_ := (Option.bind_some _ _).symm.trans H; with_reducible exact H2_) | with_reducible exact H | (rw [hy113]; exact H) | exact H
                have Ny113 := Aside0.mk hy113
                clear hy113
                have H' := Aside0.mk H
                clear H
                have p107 : 0 ≤ (x9_1 : Int) := of_decide_eq_true (by first | (with_reducible assumption) | assumption)
                have q107 : x9_1 < (l0.length : Int) := of_decide_eq_true (by first | (with_reducible assumption) | assumption)
                obtain ⟨ad107, e107, hx107_0, hx107_1, hx107_2⟩ := at_T47 HR0.out x9_1 p107 q107
                cases e107
                replace hx107_0 := (HB.out.cell (World.block_lt_of_cell? w _ hx107_0)).trans hx107_0
                replace hx107_1 := (HB.out.cell (World.block_lt_of_cell? w _ hx107_1)).trans hx107_1
                replace hx107_2 := (HB.out.cell (World.block_lt_of_cell? w _ hx107_2)).trans hx107_2
                replace p107 := eq_true p107
                replace q107 := eq_true q107
                go_wp2_with (first | ((with_reducible refine gate_dst (N := 6) rfl ?_); refine box_event ?hg (N := 6) ?hd (cs := #[.int .i64 0, .int .i64 0, .int .i64 0]) (t := 47) ?hr ?_; (case hd => rfl); (case hg => rfl); (case hr => first | (go_simp; done) | (go_simp; rfl)); intro gb108 hg w8 hbox hb; have n0_ := Aside0.mk (Kd.R_below (by (with_reducible repeat (first | apply Kd.R_alloc | apply Kd.R_drewN | apply Kd.R_drew)); exact HO_4.out) hb); have n1_ := Aside0.mk (below_step (by repeat (first | (with_reducible first | exact HB.out | apply below_alloc | apply pw_below_drewN | apply below_drew1) | exact HB.out)) hb); have n2_ := Aside0.mk (hbox); have n3_ := Aside0.mk ((by rw [hg]; exact (below_size (by repeat (first | (with_reducible first | exact HB.out | apply below_alloc | apply pw_below_drewN | apply below_drew1) | exact HB.out))) : w.heap.size ≤ gb108)); have n4_ := Aside0.mk ((by rw [hg]; exact (below_size (by repeat (first | (with_reducible first | exact HB.out | apply below_alloc | apply pw_below_drewN | apply below_drew1) | exact HB.out))) : w.heap.size ≤ gb108)); clear HO_4; clear HB; have HO_4 := n0_; have HB := n1_; have BK108 := n2_; have GW108 := n3_; have GE108 := n4_; clear n0_ n1_ n2_ n3_ n4_; clear hb hbox hg; have hcz9_0 : w8.cell? ⟨gb108, 0, none⟩ = some (.int .i64 0) := (blk_cell BK108.out 0).trans rfl; have hcz9_1 : w8.cell? ⟨gb108, 1, none⟩ = some (.int .i64 0) := (blk_cell BK108.out 1).trans rfl; have hcz9_2 : w8.cell? ⟨gb108, 2, none⟩ = some (.int .i64 0) := (blk_cell BK108.out 2).trans rfl; have hfz9_0 := blk_frozen BK108.out 0; have hfz9_1 := blk_frozen BK108.out 1; have hfz9_2 := blk_frozen BK108.out 2) | ((with_reducible refine gate_callee (f := 31) rfl ?_); refine goesL_ (some 14) rfl rfl Tryd.func31 (by kernel_rfl) rfl #[.agg #[.int .i64 ((rd_T47 l0 x9_1).f0), .int .i64 ((rd_T47 l0 x9_1).f1), .int .i64 ((rd_T47 l0 x9_1).f2)]] rfl (by (try simp only [List.map_toArray, List.map_cons, List.map_nil]); first | done | rfl | (simp only [List.length_drop, List.length_take]; rfl)) ?_; (with_reducible refine (op_Right.calls ((rd_T47 l0 x9_1).f0) ((rd_T47 l0 x9_1).f1) ((rd_T47 l0 x9_1).f2) true _ A5.out (LaidOps.below HL_.out (by repeat (first | (with_reducible first | exact HB.out | apply below_alloc | apply pw_below_drewN | apply below_drew1 | refine below_set ?_ GE108.out) | exact HB.out)))).mono ?_); rintro e w10 ⟨rfl, hb⟩; refine ⟨_, rfl, ?_⟩; have n0_ := Aside0.mk (Kd.R_below (by (with_reducible repeat (first | apply Kd.R_alloc | apply Kd.R_drewN | apply Kd.R_drew)); exact (Kd.R_mono (Kd.R_far (p := ⟨gb108, 2, none⟩) (Kd.R_far (p := ⟨gb108, 1, none⟩) (Kd.R_far (p := ⟨gb108, 0, none⟩) (Kd.R_types HO_4.out BK108.out (by decide)) (fun _ hk => hk.2) (.int .i64 ((rd_T47 l0 x9_1).f0))) (fun _ hk => hk.2) (.int .i64 ((rd_T47 l0 x9_1).f1))) (fun _ hk => hk.2) (.int .i64 ((rd_T47 l0 x9_1).f2))) (fun _ h_ => h_.1))) hb); have n1_ := Aside0.mk (blk_below (g := gb108) (o := .cells #[.int .i64 ((rd_T47 l0 x9_1).f0), .int .i64 ((rd_T47 l0 x9_1).f1), .int .i64 ((rd_T47 l0 x9_1).f2)] 47 (0, 0)) (by (with_reducible repeat (first | refine blk_drewN ?_ _ | refine blk_drew ?_ | refine blk_alloc ?_ _)); refine blk_put (cs := #[.int .i64 ((rd_T47 l0 x9_1).f0), .int .i64 ((rd_T47 l0 x9_1).f1), .int .i64 0]) ?_ 2 _ rfl; (with_reducible repeat (first | refine blk_drewN ?_ _ | refine blk_drew ?_ | refine blk_alloc ?_ _)); refine blk_put (cs := #[.int .i64 ((rd_T47 l0 x9_1).f0), .int .i64 0, .int .i64 0]) ?_ 1 _ rfl; (with_reducible repeat (first | refine blk_drewN ?_ _ | refine blk_drew ?_ | refine blk_alloc ?_ _)); refine blk_put (cs := #[.int .i64 0, .int .i64 0, .int .i64 0]) ?_ 0 _ rfl; (with_reducible repeat (first | refine blk_drewN ?_ _ | refine blk_drew ?_ | refine blk_alloc ?_ _)); exact BK108.out) hb); have n2_ := Aside0.mk (below_step (by repeat (first | (with_reducible first | exact HB.out | apply below_alloc | apply pw_below_drewN | apply below_drew1 | refine below_set ?_ GE108.out) | exact HB.out)) hb); clear HO_4; clear BK108; clear HB; have HO_4 := n0_; have BK108 := n1_; have HB := n2_; clear n0_ n1_ n2_; (try clear hb); (try clear hb2); (try clear hk); (try clear hi); have hcz11_0 : w10.cell? ⟨gb108, 0, none⟩ = some (.int .i64 ((rd_T47 l0 x9_1).f0)) := (blk_cell BK108.out 0).trans rfl; have hcz11_1 : w10.cell? ⟨gb108, 1, none⟩ = some (.int .i64 ((rd_T47 l0 x9_1).f1)) := (blk_cell BK108.out 1).trans rfl; have hcz11_2 : w10.cell? ⟨gb108, 2, none⟩ = some (.int .i64 ((rd_T47 l0 x9_1).f2)) := (blk_cell BK108.out 2).trans rfl; have hfz11_0 := blk_frozen BK108.out 0; have hfz11_1 := blk_frozen BK108.out 1; have hfz11_2 := blk_frozen BK108.out 2) | ((with_reducible refine gate_dst (N := 34) rfl ?_); refine Kd.R_lit (Kd.int .u8) _ 5 ?hg (N := 34) ?hd (xs := ([((rd_T47 l0 x9_1).f0) % 256, ((rd_T47 l0 x9_1).f1) % 256, (((rd_T47 l0 x9_1).f1) / 256) % 256, ((rd_T47 l0 x9_1).f2) % 256, (((rd_T47 l0 x9_1).f2) / 256) % 256] : List Int)) (inner := [.int .u8 (((rd_T47 l0 x9_1).f0) % 256), .int .u8 (((rd_T47 l0 x9_1).f1) % 256), .int .u8 ((((rd_T47 l0 x9_1).f1) / 256) % 256), .int .u8 (((rd_T47 l0 x9_1).f2) % 256), .int .u8 ((((rd_T47 l0 x9_1).f2) / 256) % 256)]) (ok := fun _ => True) (okp := fun _ => True) ?hr ?hp (fun _ hk => hk) trivial (Below.refl _ _) (Nat.le_refl _) (by simp) ?_; (case hd => rfl); (case hg => rfl); (case hr => first | (go_simp; done) | (go_simp; rfl)); (case hp => exact (Reps.one (show Kd.M (Kd.int .u8) _ _ _ (((rd_T47 l0 x9_1).f0) % 256) [.int .u8 (((rd_T47 l0 x9_1).f0) % 256)] from rfl) (Reps.one (show Kd.M (Kd.int .u8) _ _ _ (((rd_T47 l0 x9_1).f1) % 256) [.int .u8 (((rd_T47 l0 x9_1).f1) % 256)] from rfl) (Reps.one (show Kd.M (Kd.int .u8) _ _ _ ((((rd_T47 l0 x9_1).f1) / 256) % 256) [.int .u8 ((((rd_T47 l0 x9_1).f1) / 256) % 256)] from rfl) (Reps.one (show Kd.M (Kd.int .u8) _ _ _ (((rd_T47 l0 x9_1).f2) % 256) [.int .u8 (((rd_T47 l0 x9_1).f2) % 256)] from rfl) (Reps.one (show Kd.M (Kd.int .u8) _ _ _ ((((rd_T47 l0 x9_1).f2) / 256) % 256) [.int .u8 ((((rd_T47 l0 x9_1).f2) / 256) % 256)] from rfl) (Reps.none _ _))))))); intro v111 w12 ho13 hb hg_ hnew_; clear hg_ hnew_; (first | rw [← Ny110.out] at ho13 | (simp only [Int.reduceToNat] at ho13; rw [← Ny110.out] at ho13)); have n0_ := Aside0.mk (Kd.R_elder' (by (with_reducible repeat (first | apply Kd.R_alloc | apply Kd.R_drewN | apply Kd.R_drew)); exact HO_4.out) (Kd.R_base ho13) hb); have n1_ := Aside0.mk (Kd.R_lower (Kd.R_new' ho13 (Kd.R_lt (by (with_reducible repeat (first | apply Kd.R_alloc | apply Kd.R_drewN | apply Kd.R_drew)); exact HO_4.out))) (below_size (by repeat (first | (with_reducible first | exact HB.out | apply below_alloc | apply pw_below_drewN | apply below_drew1 | refine below_set ?_ GE108.out) | exact HB.out)))); have n2_ := Aside0.mk (blk_below (g := gb108) (o := .cells #[.int .i64 ((rd_T47 l0 x9_1).f0), .int .i64 ((rd_T47 l0 x9_1).f1), .int .i64 ((rd_T47 l0 x9_1).f2)] 47 (0, 0)) (by (with_reducible repeat (first | refine blk_drewN ?_ _ | refine blk_drew ?_ | refine blk_alloc ?_ _)); exact BK108.out) hb); have n3_ := Aside0.mk (below_step (by repeat (first | (with_reducible first | exact HB.out | apply below_alloc | apply pw_below_drewN | apply below_drew1 | refine below_set ?_ GE108.out) | exact HB.out)) hb); clear HO_4; clear BK108; clear HB; have HO_4 := n0_; have HO112 := n1_; have BK108 := n2_; have HB := n3_; clear n0_ n1_ n2_ n3_; clear hb ho13; obtain ⟨Ao15, co15, eo15⟩ := Kd.R_slice HO112.out; subst eo15) | ((with_reducible refine gate_builtin (b := .append) (xs := #[.tmp 16, .tmp 34]) rfl ?_); at_builtin; refine Kd.R_append_rows (Kd.int .u8) (w0 := w) w.heap.size rfl (.tmp 16) (.tmp 34) 22 5 (.int .u8 0) 1 rfl Tryd.underlying22 info5 rfl (by decide) (by omega) u4 x4_1 y110 _ _ _ (fun k_ => some k_ ≠ (.slice Ao15 y110.length co15 : Value).ownBlock) (fun _ => False) rfl rfl ?aO ?aR (fun _ _ h => h) (fun _ h => h.elim) ?aF ?aB ?aS ?aL ?_; (case aR => repeat (first | exact (Kd.R_reads' HO112.out).2.2 | (with_reducible refine Kd.C_alloc ?_ _) | (with_reducible refine Kd.C_drewN ?_ _) | (with_reducible refine Kd.C_drew ?_))); (case aB => exact (by repeat (first | (with_reducible first | exact HB.out | apply below_alloc | apply pw_below_drewN | apply below_drew1 | refine below_set ?_ GE108.out) | exact HB.out))); (case aF => exact (fun k_ hk => Kd.fresh' (Kd.R_lt (by (with_reducible repeat (first | apply Kd.R_alloc | apply Kd.R_drewN | apply Kd.R_drew)); exact HO112.out)) k_ hk)); (case aO => exact (by (with_reducible repeat (first | apply Kd.R_alloc | apply Kd.R_drewN | apply Kd.R_drew)); exact Kd.R_mono HO_4.out (fun _ hk => hk.2))); (case aS => exact (below_size (by repeat (first | (with_reducible first | exact HB.out | apply below_alloc | apply pw_below_drewN | apply below_drew1 | refine below_set ?_ GE108.out) | exact HB.out)))); (case aL => have := LMc7.out; omega); intro v114 w14 ho hb hg hat; rw [← Ny113.out] at ho; have n0_ := Aside0.mk (blk_grown (g := gb108) (o := .cells #[.int .i64 ((rd_T47 l0 x9_1).f0), .int .i64 ((rd_T47 l0 x9_1).f1), .int .i64 ((rd_T47 l0 x9_1).f2)] 47 (0, 0)) (by (with_reducible repeat (first | refine blk_drewN ?_ _ | refine blk_drew ?_ | refine blk_alloc ?_ _)); exact BK108.out) hg (Kd.R_ne HO_4.out BK108.out (by decide))); have n1_ := Aside0.mk (Kd.R_after (ok := (fun _ => True)) (by (with_reducible repeat (first | apply Kd.R_alloc | apply Kd.R_drewN | apply Kd.R_drew)); exact HO112.out) hg hat); have n2_ := Aside0.mk (hb); have n3_ := Aside0.mk (ho); clear BK108; clear HO112; clear HB; clear HO_4; have BK108 := n0_; have HO112 := n1_; have HB := n2_; have HO115 := n3_; clear n0_ n1_ n2_ n3_; clear ho hb hg hat))
                go_roundg k1
                case measure => have := HK1.out; omega
                case rel => exact ⟨(y113), (wrap64 (x9_1 + 1)), (by first | rfl | (simp; done) | (simp [*]; done)), H', ⟨by have := HK1.out; omega⟩, ⟨by (with_reducible repeat (first | apply Kd.R_alloc | apply Kd.R_drewN | apply Kd.R_drew)); exact Kd.R_mono HO115.out (fun _ hk => trivial)⟩, ⟨by repeat (first | (with_reducible first | exact HB.out | apply below_alloc | apply pw_below_drewN | apply below_drew1 | refine below_set ?_ GE108.out) | exact HB.out)⟩⟩
              · rw [if_neg c7] at H
                exact absurd H (by simp)
            · replace c6 := Bool.eq_false_iff.mpr c6
              subst c6
              have H1 : (some (([] : List Int), false)) = some (r1, r2) := by rw [if_neg (show ¬ (false = true) by decide)] at H; exact H
              clear H
              have H := H1
              clear H1
              simp only [Option.some.injEq, Prod.mk.injEq] at H
              obtain ⟨rfl, rfl⟩ := H
              have p107 : 0 ≤ (x9_1 : Int) := of_decide_eq_true (by first | (with_reducible assumption) | assumption)
              have q107 : x9_1 < (l0.length : Int) := of_decide_eq_true (by first | (with_reducible assumption) | assumption)
              obtain ⟨ad107, e107, hx107_0, hx107_1, hx107_2⟩ := at_T47 HR0.out x9_1 p107 q107
              cases e107
              replace hx107_0 := (HB.out.cell (World.block_lt_of_cell? w _ hx107_0)).trans hx107_0
              replace hx107_1 := (HB.out.cell (World.block_lt_of_cell? w _ hx107_1)).trans hx107_1
              replace hx107_2 := (HB.out.cell (World.block_lt_of_cell? w _ hx107_2)).trans hx107_2
              replace p107 := eq_true p107
              replace q107 := eq_true q107
              go_wp2_with (first | ((with_reducible refine gate_dst (N := 6) rfl ?_); refine box_event ?hg (N := 6) ?hd (cs := #[.int .i64 0, .int .i64 0, .int .i64 0]) (t := 47) ?hr ?_; (case hd => rfl); (case hg => rfl); (case hr => first | (go_simp; done) | (go_simp; rfl)); intro gb108 hg w16 hbox hb; have n0_ := Aside0.mk (Kd.R_below (by (with_reducible repeat (first | apply Kd.R_alloc | apply Kd.R_drewN | apply Kd.R_drew)); exact HO_4.out) hb); have n1_ := Aside0.mk (below_step (by repeat (first | (with_reducible first | exact HB.out | apply below_alloc | apply pw_below_drewN | apply below_drew1) | exact HB.out)) hb); have n2_ := Aside0.mk (hbox); have n3_ := Aside0.mk ((by rw [hg]; exact (below_size (by repeat (first | (with_reducible first | exact HB.out | apply below_alloc | apply pw_below_drewN | apply below_drew1) | exact HB.out))) : w.heap.size ≤ gb108)); have n4_ := Aside0.mk ((by rw [hg]; exact (below_size (by repeat (first | (with_reducible first | exact HB.out | apply below_alloc | apply pw_below_drewN | apply below_drew1) | exact HB.out))) : w.heap.size ≤ gb108)); clear HO_4; clear HB; have HO_4 := n0_; have HB := n1_; have BK108 := n2_; have GW108 := n3_; have GE108 := n4_; clear n0_ n1_ n2_ n3_ n4_; clear hb hbox hg; have hcz17_0 : w16.cell? ⟨gb108, 0, none⟩ = some (.int .i64 0) := (blk_cell BK108.out 0).trans rfl; have hcz17_1 : w16.cell? ⟨gb108, 1, none⟩ = some (.int .i64 0) := (blk_cell BK108.out 1).trans rfl; have hcz17_2 : w16.cell? ⟨gb108, 2, none⟩ = some (.int .i64 0) := (blk_cell BK108.out 2).trans rfl; have hfz17_0 := blk_frozen BK108.out 0; have hfz17_1 := blk_frozen BK108.out 1; have hfz17_2 := blk_frozen BK108.out 2) | ((with_reducible refine gate_callee (f := 31) rfl ?_); refine goesL_ (some 14) rfl rfl Tryd.func31 (by kernel_rfl) rfl #[.agg #[.int .i64 ((rd_T47 l0 x9_1).f0), .int .i64 ((rd_T47 l0 x9_1).f1), .int .i64 ((rd_T47 l0 x9_1).f2)]] rfl (by (try simp only [List.map_toArray, List.map_cons, List.map_nil]); first | done | rfl | (simp only [List.length_drop, List.length_take]; rfl)) ?_; (with_reducible refine (op_Right.calls ((rd_T47 l0 x9_1).f0) ((rd_T47 l0 x9_1).f1) ((rd_T47 l0 x9_1).f2) false _ A5.out (LaidOps.below HL_.out (by repeat (first | (with_reducible first | exact HB.out | apply below_alloc | apply pw_below_drewN | apply below_drew1 | refine below_set ?_ GE108.out) | exact HB.out)))).mono ?_); rintro e w18 ⟨rfl, hb⟩; refine ⟨_, rfl, ?_⟩; have n0_ := Aside0.mk (Kd.R_below (by (with_reducible repeat (first | apply Kd.R_alloc | apply Kd.R_drewN | apply Kd.R_drew)); exact (Kd.R_mono (Kd.R_far (p := ⟨gb108, 2, none⟩) (Kd.R_far (p := ⟨gb108, 1, none⟩) (Kd.R_far (p := ⟨gb108, 0, none⟩) (Kd.R_types HO_4.out BK108.out (by decide)) (fun _ hk => hk.2) (.int .i64 ((rd_T47 l0 x9_1).f0))) (fun _ hk => hk.2) (.int .i64 ((rd_T47 l0 x9_1).f1))) (fun _ hk => hk.2) (.int .i64 ((rd_T47 l0 x9_1).f2))) (fun _ h_ => h_.1))) hb); have n1_ := Aside0.mk (blk_below (g := gb108) (o := .cells #[.int .i64 ((rd_T47 l0 x9_1).f0), .int .i64 ((rd_T47 l0 x9_1).f1), .int .i64 ((rd_T47 l0 x9_1).f2)] 47 (0, 0)) (by (with_reducible repeat (first | refine blk_drewN ?_ _ | refine blk_drew ?_ | refine blk_alloc ?_ _)); refine blk_put (cs := #[.int .i64 ((rd_T47 l0 x9_1).f0), .int .i64 ((rd_T47 l0 x9_1).f1), .int .i64 0]) ?_ 2 _ rfl; (with_reducible repeat (first | refine blk_drewN ?_ _ | refine blk_drew ?_ | refine blk_alloc ?_ _)); refine blk_put (cs := #[.int .i64 ((rd_T47 l0 x9_1).f0), .int .i64 0, .int .i64 0]) ?_ 1 _ rfl; (with_reducible repeat (first | refine blk_drewN ?_ _ | refine blk_drew ?_ | refine blk_alloc ?_ _)); refine blk_put (cs := #[.int .i64 0, .int .i64 0, .int .i64 0]) ?_ 0 _ rfl; (with_reducible repeat (first | refine blk_drewN ?_ _ | refine blk_drew ?_ | refine blk_alloc ?_ _)); exact BK108.out) hb); have n2_ := Aside0.mk (below_step (by repeat (first | (with_reducible first | exact HB.out | apply below_alloc | apply pw_below_drewN | apply below_drew1 | refine below_set ?_ GE108.out) | exact HB.out)) hb); clear HO_4; clear BK108; clear HB; have HO_4 := n0_; have BK108 := n1_; have HB := n2_; clear n0_ n1_ n2_; (try clear hb); (try clear hb2); (try clear hk); (try clear hi)))
              go_ret2
              exact ⟨_, by first | rfl | (simp [errW_none, errW_some] <;> rfl) | (simp [*, errW_none, errW_some] <;> rfl), by first | exact Kd.R_nil _ _ _ _ _ | exact Kd.N_nil _ _ _ _ _ | exact Kd.V_nil _ _ _ _ _ | exact Kd.Q_nil _ _ _ _ _ | exact Kd.S_nil _ _ _ _ _, by repeat (first | (with_reducible first | exact HB.out | apply below_alloc | apply pw_below_drewN | apply below_drew1 | refine below_set ?_ GE108.out) | exact HB.out)⟩
          · rw [if_neg c4] at H
            exact absurd H (by simp)
        · rw [if_neg c3] at H
          exact absurd H (by simp)
      · rw [if_neg c2] at H
        have c2b0 : decide (x9_1 < (l0.length : Int)) = false := decide_eq_false c2
        clear c2
        simp only [Option.some.injEq, Prod.mk.injEq] at H
        obtain ⟨rfl, rfl⟩ := H
        go_wp2
        go_ret2
        exact ⟨_, by first | rfl | (simp [errW_none, errW_some] <;> rfl) | (simp [*, errW_none, errW_some] <;> rfl), by (with_reducible repeat (first | apply Kd.R_alloc | apply Kd.R_drewN | apply Kd.R_drew)); exact HO_4.out, by repeat (first | (with_reducible first | exact HB.out | apply below_alloc | apply pw_below_drewN | apply below_drew1) | exact HB.out)⟩

/-! ### ladderbacklaw13_awake: function 9 -/
def ladderbacklaw13_awake.f (k : Nat)  : Option (Bool) := (code_Encode.f k (([(⟨35, 2, 258⟩ : S47)] : List (S47)))).bind fun bt119 => (if bt119.2 = true then (some ((strOfNums bt119.1).toList == ([35, 2, 0, 2, 1] : List UInt8))) else (some false))
theorem ladderbacklaw13_awake.mono : ∀ k, LeO (ladderbacklaw13_awake.f k ) (ladderbacklaw13_awake.f (k + 1) ) := by
  intro  k
  unfold ladderbacklaw13_awake.f
  repeat' first
      | (with_reducible exact code_Encode.mono _ _)
      | (with_reducible exact LeO.refl _)
      | (with_reducible exact LeO.none _)
      | (with_reducible refine LeO.ite ?_ ?_)
      | (with_reducible refine LeO.bind ?_ (fun _ => ?_))
      | exact code_Encode.mono _ _
      | exact LeO.none _
      | refine LeO.ite ?_ ?_
      | refine LeO.bind ?_ (fun _ => ?_)
-- NOT PRINTED: function 47 (octet_New)

-- NOT PRINTED: function 70 (octet_Reader_next)

-- NOT PRINTED: function 51 (octet_Reader_Num)

/-! ### op_Real: function 58 -/
def op_Real.f (a0 : Int) : Option (Bool) := if a0 ≥ 48 then (some (decide (a0 ≤ 55))) else (some false)
set_option maxHeartbeats 8000000 in
set_option maxRecDepth 100000 in
theorem op_Real.calls (a0 : Int) (r : Bool) (w : World) (h : op_Real.f a0 = some r) :
    Calls Tryd.prog 58 #[.int .i64 a0] w fun e w' => e = .returned (.bool r) ∧ Drawn0 w w' := by
  have H : (if a0 ≥ 48 then (some (decide (a0 ≤ 55))) else (some false)) = some r := h
  clear h
  by_cases c2 : a0 ≥ 48
  · rw [if_pos c2] at H
    have c2b0 : decide (48 ≤ a0) = true := decide_eq_true c2
    clear c2
    obtain rfl := Option.some.inj H
    go_enter Tryd.func58, Tryd.ntmps58
    go_wp2
    go_ret
    exact ⟨by first | rfl | (simp; done) | (simp [*]; done), by repeat (first | exact Drawn0.refl _ | apply Drawn0.step)⟩
  · rw [if_neg c2] at H
    have c2b0 : decide (48 ≤ a0) = false := decide_eq_false c2
    clear c2
    obtain rfl := Option.some.inj H
    go_enter Tryd.func58, Tryd.ntmps58
    go_wp2
    go_ret
    exact ⟨by first | rfl | (simp; done) | (simp [*]; done), by repeat (first | exact Drawn0.refl _ | apply Drawn0.step)⟩

-- NOT PRINTED: function 29 (code_one)

/-! ### ladderbackref12_Shape: function 59 -/
mutual
def ladderbackref12_Shape.j0 : Nat → Int → Bool → Option (Int × Int)
  | 0, _, _ => none
  | k + 1, x0, x10 => if x10 = true then (some (0, 0)) else ((some (([10, 1, 2, 2, 3, 3, 2, 2] : List Int) : List Int)).bind fun y127 => (if x0 < 8 then (if x0 = 0 then (some (10, 10)) else (if 0 ≤ x0 then (if x0 < (y127.length : Int) then (some (rd y127 x0, 0)) else (none)) else (none))) else (if x0 < 26 then (some (4, 0)) else (if x0 = 26 then (some (4, 4)) else (if x0 < 30 then (ladderbackref12_Shape.j1 k x0 true) else (ladderbackref12_Shape.j1 k x0 (x0 == 34)))))))
def ladderbackref12_Shape.j1 : Nat → Int → Bool → Option (Int × Int)
  | 0, _, _ => none
  | k + 1, x0, x29 => if x29 = true then (some (0, 0)) else (if x0 < 32 then (some (5, 10)) else (if x0 = 32 then (some (6, 10)) else (if x0 = 33 then (some (7, 0)) else (if x0 = 36 then (some (8, 0)) else (some (8, 9))))))
end
def ladderbackref12_Shape.f (k : Nat) (a0 : Int) : Option (Int × Int) := if a0 < 0 then (ladderbackref12_Shape.j0 k a0 true) else (ladderbackref12_Shape.j0 k a0 (decide (a0 > 37)))
theorem ladderbackref12_Shape.mono_l : ∀ k, (∀ y0 y1, LeO (ladderbackref12_Shape.j0 k y0 y1) (ladderbackref12_Shape.j0 (k + 1) y0 y1)) ∧ (∀ y0 y1, LeO (ladderbackref12_Shape.j1 k y0 y1) (ladderbackref12_Shape.j1 (k + 1) y0 y1))
  | 0 => ⟨fun _ _ r h => by simp [ladderbackref12_Shape.j0] at h, fun _ _ r h => by simp [ladderbackref12_Shape.j1] at h⟩
  | k + 1 => by
    obtain ⟨ih0, ih1⟩ := ladderbackref12_Shape.mono_l k
    refine ⟨?_, ?_⟩
    · intro y0 y1
      unfold ladderbackref12_Shape.j0
      repeat' first
      | (with_reducible exact ih0 _ _)
      | (with_reducible exact ih1 _ _)
      | (with_reducible exact LeO.refl _)
      | (with_reducible exact LeO.none _)
      | (with_reducible refine LeO.ite ?_ ?_)
      | (with_reducible refine LeO.bind ?_ (fun _ => ?_))
      | exact ih0 _ _
      | exact ih1 _ _
      | exact LeO.none _
      | refine LeO.ite ?_ ?_
      | refine LeO.bind ?_ (fun _ => ?_)
    · intro y0 y1
      unfold ladderbackref12_Shape.j1
      repeat' first
      | (with_reducible exact ih0 _ _)
      | (with_reducible exact ih1 _ _)
      | (with_reducible exact LeO.refl _)
      | (with_reducible exact LeO.none _)
      | (with_reducible refine LeO.ite ?_ ?_)
      | (with_reducible refine LeO.bind ?_ (fun _ => ?_))
      | exact ih0 _ _
      | exact ih1 _ _
      | exact LeO.none _
      | refine LeO.ite ?_ ?_
      | refine LeO.bind ?_ (fun _ => ?_)
theorem ladderbackref12_Shape.mono : ∀ a0 k, LeO (ladderbackref12_Shape.f k a0) (ladderbackref12_Shape.f (k + 1) a0) := by
  intro a0 k
  obtain ⟨ih0, ih1⟩ := ladderbackref12_Shape.mono_l k
  unfold ladderbackref12_Shape.f
  repeat' first
      | (with_reducible exact ih0 _ _)
      | (with_reducible exact ih1 _ _)
      | (with_reducible exact LeO.refl _)
      | (with_reducible exact LeO.none _)
      | (with_reducible refine LeO.ite ?_ ?_)
      | (with_reducible refine LeO.bind ?_ (fun _ => ?_))
      | exact ih0 _ _
      | exact ih1 _ _
      | exact LeO.none _
      | refine LeO.ite ?_ ?_
      | refine LeO.bind ?_ (fun _ => ?_)
set_option maxHeartbeats 8000000 in
set_option maxRecDepth 100000 in
theorem ladderbackref12_Shape.calls (k : Nat) (a0 : Int) (r1 : Int) (r2 : Int) (w : World) (h : ladderbackref12_Shape.f k a0 = some (r1, r2)) :
    Calls Tryd.prog 59 #[.int .i64 a0] w fun e w' => e = .returned (.tuple #[.int .i64 r1, .int .i64 r2]) ∧ Below w.heap.size w w' := by
  have HB := Aside0.mk (Below.refl w.heap.size w)
  have H : (if a0 < 0 then (ladderbackref12_Shape.j0 k a0 true) else (ladderbackref12_Shape.j0 k a0 (decide (a0 > 37)))) = some (r1, r2) := h
  clear h
  have HC2 := Aside0.mk H
  clear H
  go_enter Tryd.func59, Tryd.ntmps59
  go_upto_region 1 with (fail)
  go_cut [10] (fun v10 wc => ∃ (kq : Nat) (x10_1 : Bool), v10 = .bool x10_1 ∧ Aside0 (ladderbackref12_Shape.j0 kq a0 x10_1 = some (r1, r2)) ∧ Aside0 (kq ≤ k) ∧ Aside0 (Below w.heap.size w wc))
  case first =>
    have H := HC2.out
    clear HC2
    by_cases c3 : a0 < 0
    · rw [if_pos c3] at H
      have c3b0 : decide (a0 < 0) = true := decide_eq_true c3
      clear c3
      (first | rw [c3b0] | (simp only [i64_w, i32_w]; rw [c3b0]) | skip)
      have H' := Aside0.mk H
      clear H
      go_wp2
      go_meet
      case rel => exact ⟨_, (true), (by first | rfl | (simp; done) | (simp [*]; done)), H', ⟨by first | omega | exact Nat.le_refl _⟩, ⟨by repeat (first | (with_reducible first | exact HB.out | apply below_alloc | apply pw_below_drewN | apply below_drew1) | exact HB.out)⟩⟩
    · rw [if_neg c3] at H
      have c3b0 : decide (a0 < 0) = false := decide_eq_false c3
      clear c3
      (first | rw [c3b0] | (simp only [i64_w, i32_w]; rw [c3b0]) | skip)
      have H' := Aside0.mk H
      clear H
      go_wp2
      go_meet
      case rel => exact ⟨_, (decide (a0 > 37)), (by first | rfl | (simp; done) | (simp [*]; done)), H', ⟨by first | omega | exact Nat.le_refl _⟩, ⟨by repeat (first | (with_reducible first | exact HB.out | apply below_alloc | apply pw_below_drewN | apply below_drew1) | exact HB.out)⟩⟩
  case rest =>
    clear HC2
    try clear p2
    try clear c3
    try clear c3b0
    obtain ⟨kq, x10_1, rfl, HA, HJ1, HB⟩ := hcut
    cases kq with
    | zero => exact absurd HA.out (by simp [ladderbackref12_Shape.j0])
    | succ kj1 =>
      have H := HA.out
      clear HA
      simp only [ladderbackref12_Shape.j0] at H
      by_cases c4 : x10_1 = true
      · subst c4
        have H1 : (some (0, 0)) = some (r1, r2) := by rw [if_pos rfl] at H; exact H
        clear H
        have H := H1
        clear H1
        simp only [Option.some.injEq, Prod.mk.injEq] at H
        obtain ⟨rfl, rfl⟩ := H
        go_wp2
        go_ret2
        exact ⟨by first | rfl | (simp [errW_none, errW_some] <;> rfl) | (simp [*, errW_none, errW_some] <;> rfl), by repeat (first | (with_reducible first | exact HB.out | apply below_alloc | apply pw_below_drewN | apply below_drew1) | exact HB.out)⟩
      · replace c4 := Bool.eq_false_iff.mpr c4
        subst c4
        have H1 : ((some (([10, 1, 2, 2, 3, 3, 2, 2] : List Int) : List Int)).bind fun y127 => (if a0 < 8 then (if a0 = 0 then (some (10, 10)) else (if 0 ≤ a0 then (if a0 < (y127.length : Int) then (some (rd y127 a0, 0)) else (none)) else (none))) else (if a0 < 26 then (some (4, 0)) else (if a0 = 26 then (some (4, 4)) else (if a0 < 30 then (ladderbackref12_Shape.j1 kj1 a0 true) else (ladderbackref12_Shape.j1 kj1 a0 (a0 == 34))))))) = some (r1, r2) := by rw [if_neg (show ¬ (false = true) by decide)] at H; exact H
        clear H
        have H := H1
        clear H1
        obtain ⟨y127, hy127⟩ : ∃ y_ : List Int, y_ = (([10, 1, 2, 2, 3, 3, 2, 2] : List Int)) := ⟨_, rfl⟩
        replace H : (if a0 < 8 then (if a0 = 0 then (some (10, 10)) else (if 0 ≤ a0 then (if a0 < (y127.length : Int) then (some (rd y127 a0, 0)) else (none)) else (none))) else (if a0 < 26 then (some (4, 0)) else (if a0 = 26 then (some (4, 4)) else (if a0 < 30 then (ladderbackref12_Shape.j1 kj1 a0 true) else (ladderbackref12_Shape.j1 kj1 a0 (a0 == 34)))))) = some (r1, r2) := by first | (rw [hy127]; with_reducible exact H) | (have H2_ := (Option.bind_some _ _).symm.trans H; rw [hy127]; with_reducible exact H2_) | (have H2_ := (Option.bind_some _ _).symm.trans H; with_reducible exact H2_) | with_reducible exact H | (rw [hy127]; exact H) | exact H
        have Ny127 := Aside0.mk hy127
        clear hy127
        by_cases c5 : a0 < 8
        · rw [if_pos c5] at H
          have c5b0 : decide (a0 < 8) = true := decide_eq_true c5
          clear c5
          by_cases c6 : a0 = 0
          · rw [if_pos c6] at H
            have c6b0 : (a0 == 0) = true := beq_iff_eq.mpr c6
            have c6b1 : (a0 != 0) = false := bne_eq_false_iff_eq.mpr c6
            clear c6
            simp only [Option.some.injEq, Prod.mk.injEq] at H
            obtain ⟨rfl, rfl⟩ := H
            go_wp2_with (first | ((with_reducible refine gate_dst (N := 11) rfl ?_); refine Kd.R_lit (Kd.int .i64) _ 3 ?hg (N := 11) ?hd (xs := ([10, 1, 2, 2, 3, 3, 2, 2] : List Int)) (inner := [.int .i64 10, .int .i64 1, .int .i64 2, .int .i64 2, .int .i64 3, .int .i64 3, .int .i64 2, .int .i64 2]) (ok := fun _ => True) (okp := fun _ => True) ?hr ?hp (fun _ hk => hk) trivial (Below.refl _ _) (Nat.le_refl _) (by simp) ?_; (case hd => rfl); (case hg => rfl); (case hr => first | (go_simp; done) | (go_simp; rfl)); (case hp => exact (Reps.one (show Kd.M (Kd.int .i64) _ _ _ 10 [.int .i64 10] from rfl) (Reps.one (show Kd.M (Kd.int .i64) _ _ _ 1 [.int .i64 1] from rfl) (Reps.one (show Kd.M (Kd.int .i64) _ _ _ 2 [.int .i64 2] from rfl) (Reps.one (show Kd.M (Kd.int .i64) _ _ _ 2 [.int .i64 2] from rfl) (Reps.one (show Kd.M (Kd.int .i64) _ _ _ 3 [.int .i64 3] from rfl) (Reps.one (show Kd.M (Kd.int .i64) _ _ _ 3 [.int .i64 3] from rfl) (Reps.one (show Kd.M (Kd.int .i64) _ _ _ 2 [.int .i64 2] from rfl) (Reps.one (show Kd.M (Kd.int .i64) _ _ _ 2 [.int .i64 2] from rfl) (Reps.none _ _)))))))))); intro v128 w7 ho8 hb hg_ hnew_; clear hg_ hnew_; (first | rw [← Ny127.out] at ho8 | (simp only [Int.reduceToNat] at ho8; rw [← Ny127.out] at ho8)); have n0_ := Aside0.mk (Kd.R_lower ho8 (below_size (by repeat (first | (with_reducible first | exact HB.out | apply below_alloc | apply pw_below_drewN | apply below_drew1) | exact HB.out)))); have n1_ := Aside0.mk (below_step (by repeat (first | (with_reducible first | exact HB.out | apply below_alloc | apply pw_below_drewN | apply below_drew1) | exact HB.out)) hb); clear HB; have HO129 := n0_; have HB := n1_; clear n0_ n1_; clear hb ho8))
            go_ret2
            exact ⟨by first | rfl | (simp [errW_none, errW_some] <;> rfl) | (simp [*, errW_none, errW_some] <;> rfl), by repeat (first | (with_reducible first | exact HB.out | apply below_alloc | apply pw_below_drewN | apply below_drew1) | exact HB.out)⟩
          · rw [if_neg c6] at H
            have c6b0 : (a0 == 0) = false := beq_eq_false_iff_ne.mpr c6
            have c6b1 : (a0 != 0) = true := bne_iff_ne.mpr c6
            by_cases c9 : 0 ≤ a0
            · rw [if_pos c9] at H
              have c9b0 : decide (0 ≤ a0) = true := decide_eq_true c9
              clear c9
              by_cases c10 : a0 < (y127.length : Int)
              · rw [if_pos c10] at H
                have c10b0 : decide (a0 < (y127.length : Int)) = true := decide_eq_true c10
                clear c10
                simp only [Option.some.injEq, Prod.mk.injEq] at H
                obtain ⟨rfl, rfl⟩ := H
                go_wp2_with (first | ((with_reducible refine gate_dst (N := 11) rfl ?_); refine Kd.R_lit (Kd.int .i64) _ 3 ?hg (N := 11) ?hd (xs := ([10, 1, 2, 2, 3, 3, 2, 2] : List Int)) (inner := [.int .i64 10, .int .i64 1, .int .i64 2, .int .i64 2, .int .i64 3, .int .i64 3, .int .i64 2, .int .i64 2]) (ok := fun _ => True) (okp := fun _ => True) ?hr ?hp (fun _ hk => hk) trivial (Below.refl _ _) (Nat.le_refl _) (by simp) ?_; (case hd => rfl); (case hg => rfl); (case hr => first | (go_simp; done) | (go_simp; rfl)); (case hp => exact (Reps.one (show Kd.M (Kd.int .i64) _ _ _ 10 [.int .i64 10] from rfl) (Reps.one (show Kd.M (Kd.int .i64) _ _ _ 1 [.int .i64 1] from rfl) (Reps.one (show Kd.M (Kd.int .i64) _ _ _ 2 [.int .i64 2] from rfl) (Reps.one (show Kd.M (Kd.int .i64) _ _ _ 2 [.int .i64 2] from rfl) (Reps.one (show Kd.M (Kd.int .i64) _ _ _ 3 [.int .i64 3] from rfl) (Reps.one (show Kd.M (Kd.int .i64) _ _ _ 3 [.int .i64 3] from rfl) (Reps.one (show Kd.M (Kd.int .i64) _ _ _ 2 [.int .i64 2] from rfl) (Reps.one (show Kd.M (Kd.int .i64) _ _ _ 2 [.int .i64 2] from rfl) (Reps.none _ _)))))))))); intro v128 w11 ho12 hb hg_ hnew_; clear hg_ hnew_; (first | rw [← Ny127.out] at ho12 | (simp only [Int.reduceToNat] at ho12; rw [← Ny127.out] at ho12)); have n0_ := Aside0.mk (Kd.R_lower ho12 (below_size (by repeat (first | (with_reducible first | exact HB.out | apply below_alloc | apply pw_below_drewN | apply below_drew1) | exact HB.out)))); have n1_ := Aside0.mk (below_step (by repeat (first | (with_reducible first | exact HB.out | apply below_alloc | apply pw_below_drewN | apply below_drew1) | exact HB.out)) hb); clear HB; have HO129 := n0_; have HB := n1_; clear n0_ n1_; clear hb ho12; obtain ⟨Ao13, co13, eo13⟩ := Kd.R_slice HO129.out; subst eo13; have p130 : 0 ≤ (a0 : Int) := of_decide_eq_true (by first | (with_reducible assumption) | assumption); have q130 : a0 < (y127.length : Int) := of_decide_eq_true (by first | (with_reducible assumption) | assumption); obtain ⟨ad130, e130, hx130_0⟩ := Kd.at_int (Kd.R_reads' HO129.out).2.2 a0 p130 q130; cases e130; replace p130 := eq_true p130; replace q130 := eq_true q130))
                go_ret2
                exact ⟨by first | rfl | (simp [errW_none, errW_some] <;> rfl) | (simp [*, errW_none, errW_some] <;> rfl), by repeat (first | (with_reducible first | exact HB.out | apply below_alloc | apply pw_below_drewN | apply below_drew1) | exact HB.out)⟩
              · rw [if_neg c10] at H
                exact absurd H (by simp)
            · rw [if_neg c9] at H
              exact absurd H (by simp)
        · rw [if_neg c5] at H
          have c5b0 : decide (a0 < 8) = false := decide_eq_false c5
          clear c5
          by_cases c14 : a0 < 26
          · rw [if_pos c14] at H
            have c14b0 : decide (a0 < 26) = true := decide_eq_true c14
            clear c14
            simp only [Option.some.injEq, Prod.mk.injEq] at H
            obtain ⟨rfl, rfl⟩ := H
            go_wp2_with (first | ((with_reducible refine gate_dst (N := 11) rfl ?_); refine Kd.R_lit (Kd.int .i64) _ 3 ?hg (N := 11) ?hd (xs := ([10, 1, 2, 2, 3, 3, 2, 2] : List Int)) (inner := [.int .i64 10, .int .i64 1, .int .i64 2, .int .i64 2, .int .i64 3, .int .i64 3, .int .i64 2, .int .i64 2]) (ok := fun _ => True) (okp := fun _ => True) ?hr ?hp (fun _ hk => hk) trivial (Below.refl _ _) (Nat.le_refl _) (by simp) ?_; (case hd => rfl); (case hg => rfl); (case hr => first | (go_simp; done) | (go_simp; rfl)); (case hp => exact (Reps.one (show Kd.M (Kd.int .i64) _ _ _ 10 [.int .i64 10] from rfl) (Reps.one (show Kd.M (Kd.int .i64) _ _ _ 1 [.int .i64 1] from rfl) (Reps.one (show Kd.M (Kd.int .i64) _ _ _ 2 [.int .i64 2] from rfl) (Reps.one (show Kd.M (Kd.int .i64) _ _ _ 2 [.int .i64 2] from rfl) (Reps.one (show Kd.M (Kd.int .i64) _ _ _ 3 [.int .i64 3] from rfl) (Reps.one (show Kd.M (Kd.int .i64) _ _ _ 3 [.int .i64 3] from rfl) (Reps.one (show Kd.M (Kd.int .i64) _ _ _ 2 [.int .i64 2] from rfl) (Reps.one (show Kd.M (Kd.int .i64) _ _ _ 2 [.int .i64 2] from rfl) (Reps.none _ _)))))))))); intro v128 w15 ho16 hb hg_ hnew_; clear hg_ hnew_; (first | rw [← Ny127.out] at ho16 | (simp only [Int.reduceToNat] at ho16; rw [← Ny127.out] at ho16)); have n0_ := Aside0.mk (Kd.R_lower ho16 (below_size (by repeat (first | (with_reducible first | exact HB.out | apply below_alloc | apply pw_below_drewN | apply below_drew1) | exact HB.out)))); have n1_ := Aside0.mk (below_step (by repeat (first | (with_reducible first | exact HB.out | apply below_alloc | apply pw_below_drewN | apply below_drew1) | exact HB.out)) hb); clear HB; have HO129 := n0_; have HB := n1_; clear n0_ n1_; clear hb ho16))
            go_ret2
            exact ⟨by first | rfl | (simp [errW_none, errW_some] <;> rfl) | (simp [*, errW_none, errW_some] <;> rfl), by repeat (first | (with_reducible first | exact HB.out | apply below_alloc | apply pw_below_drewN | apply below_drew1) | exact HB.out)⟩
          · rw [if_neg c14] at H
            have c14b0 : decide (a0 < 26) = false := decide_eq_false c14
            clear c14
            by_cases c17 : a0 = 26
            · rw [if_pos c17] at H
              have c17b0 : (a0 == 26) = true := beq_iff_eq.mpr c17
              have c17b1 : (a0 != 26) = false := bne_eq_false_iff_eq.mpr c17
              clear c17
              simp only [Option.some.injEq, Prod.mk.injEq] at H
              obtain ⟨rfl, rfl⟩ := H
              go_wp2_with (first | ((with_reducible refine gate_dst (N := 11) rfl ?_); refine Kd.R_lit (Kd.int .i64) _ 3 ?hg (N := 11) ?hd (xs := ([10, 1, 2, 2, 3, 3, 2, 2] : List Int)) (inner := [.int .i64 10, .int .i64 1, .int .i64 2, .int .i64 2, .int .i64 3, .int .i64 3, .int .i64 2, .int .i64 2]) (ok := fun _ => True) (okp := fun _ => True) ?hr ?hp (fun _ hk => hk) trivial (Below.refl _ _) (Nat.le_refl _) (by simp) ?_; (case hd => rfl); (case hg => rfl); (case hr => first | (go_simp; done) | (go_simp; rfl)); (case hp => exact (Reps.one (show Kd.M (Kd.int .i64) _ _ _ 10 [.int .i64 10] from rfl) (Reps.one (show Kd.M (Kd.int .i64) _ _ _ 1 [.int .i64 1] from rfl) (Reps.one (show Kd.M (Kd.int .i64) _ _ _ 2 [.int .i64 2] from rfl) (Reps.one (show Kd.M (Kd.int .i64) _ _ _ 2 [.int .i64 2] from rfl) (Reps.one (show Kd.M (Kd.int .i64) _ _ _ 3 [.int .i64 3] from rfl) (Reps.one (show Kd.M (Kd.int .i64) _ _ _ 3 [.int .i64 3] from rfl) (Reps.one (show Kd.M (Kd.int .i64) _ _ _ 2 [.int .i64 2] from rfl) (Reps.one (show Kd.M (Kd.int .i64) _ _ _ 2 [.int .i64 2] from rfl) (Reps.none _ _)))))))))); intro v128 w18 ho19 hb hg_ hnew_; clear hg_ hnew_; (first | rw [← Ny127.out] at ho19 | (simp only [Int.reduceToNat] at ho19; rw [← Ny127.out] at ho19)); have n0_ := Aside0.mk (Kd.R_lower ho19 (below_size (by repeat (first | (with_reducible first | exact HB.out | apply below_alloc | apply pw_below_drewN | apply below_drew1) | exact HB.out)))); have n1_ := Aside0.mk (below_step (by repeat (first | (with_reducible first | exact HB.out | apply below_alloc | apply pw_below_drewN | apply below_drew1) | exact HB.out)) hb); clear HB; have HO129 := n0_; have HB := n1_; clear n0_ n1_; clear hb ho19))
              go_ret2
              exact ⟨by first | rfl | (simp [errW_none, errW_some] <;> rfl) | (simp [*, errW_none, errW_some] <;> rfl), by repeat (first | (with_reducible first | exact HB.out | apply below_alloc | apply pw_below_drewN | apply below_drew1) | exact HB.out)⟩
            · rw [if_neg c17] at H
              have c17b0 : (a0 == 26) = false := beq_eq_false_iff_ne.mpr c17
              have c17b1 : (a0 != 26) = true := bne_iff_ne.mpr c17
              have HC20 := Aside0.mk H
              clear H
              go_upto_region 12 with (first | ((with_reducible refine gate_dst (N := 11) rfl ?_); refine Kd.R_lit (Kd.int .i64) _ 3 ?hg (N := 11) ?hd (xs := ([10, 1, 2, 2, 3, 3, 2, 2] : List Int)) (inner := [.int .i64 10, .int .i64 1, .int .i64 2, .int .i64 2, .int .i64 3, .int .i64 3, .int .i64 2, .int .i64 2]) (ok := fun _ => True) (okp := fun _ => True) ?hr ?hp (fun _ hk => hk) trivial (Below.refl _ _) (Nat.le_refl _) (by simp) ?_; (case hd => rfl); (case hg => rfl); (case hr => first | (go_simp; done) | (go_simp; rfl)); (case hp => exact (Reps.one (show Kd.M (Kd.int .i64) _ _ _ 10 [.int .i64 10] from rfl) (Reps.one (show Kd.M (Kd.int .i64) _ _ _ 1 [.int .i64 1] from rfl) (Reps.one (show Kd.M (Kd.int .i64) _ _ _ 2 [.int .i64 2] from rfl) (Reps.one (show Kd.M (Kd.int .i64) _ _ _ 2 [.int .i64 2] from rfl) (Reps.one (show Kd.M (Kd.int .i64) _ _ _ 3 [.int .i64 3] from rfl) (Reps.one (show Kd.M (Kd.int .i64) _ _ _ 3 [.int .i64 3] from rfl) (Reps.one (show Kd.M (Kd.int .i64) _ _ _ 2 [.int .i64 2] from rfl) (Reps.one (show Kd.M (Kd.int .i64) _ _ _ 2 [.int .i64 2] from rfl) (Reps.none _ _)))))))))); intro v128 w21 ho22 hb hg_ hnew_; clear hg_ hnew_; (first | rw [← Ny127.out] at ho22 | (simp only [Int.reduceToNat] at ho22; rw [← Ny127.out] at ho22)); have n0_ := Aside0.mk (Kd.R_lower ho22 (below_size (by repeat (first | (with_reducible first | exact HB.out | apply below_alloc | apply pw_below_drewN | apply below_drew1) | exact HB.out)))); have n1_ := Aside0.mk (below_step (by repeat (first | (with_reducible first | exact HB.out | apply below_alloc | apply pw_below_drewN | apply below_drew1) | exact HB.out)) hb); clear HB; have HO129 := n0_; have HB := n1_; clear n0_ n1_; clear hb ho22))
              (try simp only [Act.put, List.setIfInBounds_toArray, List.set_cons_zero, List.set_cons_succ])
              go_cut [29] (fun v29 wc => ∃ (kq : Nat) (x29_19 : Bool), v29 = .bool x29_19 ∧ Aside0 (ladderbackref12_Shape.j1 kq a0 x29_19 = some (r1, r2)) ∧ Aside0 (kq ≤ kj1) ∧ Aside0 (Below w.heap.size w wc))
              case first =>
                have H := HC20.out
                clear HC20
                by_cases c23 : a0 < 30
                · rw [if_pos c23] at H
                  have c23b0 : decide (a0 < 30) = true := decide_eq_true c23
                  clear c23
                  (first | rw [c23b0] | (simp only [i64_w, i32_w]; rw [c23b0]) | skip)
                  have H' := Aside0.mk H
                  clear H
                  go_wp2
                  go_meet
                  case rel => exact ⟨_, (true), (by first | rfl | (simp; done) | (simp [*]; done)), H', ⟨by have := HJ1.out; first | omega | exact Nat.le_refl _⟩, ⟨by repeat (first | (with_reducible first | exact HB.out | apply below_alloc | apply pw_below_drewN | apply below_drew1) | exact HB.out)⟩⟩
                · rw [if_neg c23] at H
                  have c23b0 : decide (a0 < 30) = false := decide_eq_false c23
                  clear c23
                  (first | rw [c23b0] | (simp only [i64_w, i32_w]; rw [c23b0]) | skip)
                  have H' := Aside0.mk H
                  clear H
                  go_wp2
                  go_meet
                  case rel => exact ⟨_, ((a0 == 34)), (by first | rfl | (simp; done) | (simp [*]; done)), H', ⟨by have := HJ1.out; first | omega | exact Nat.le_refl _⟩, ⟨by repeat (first | (with_reducible first | exact HB.out | apply below_alloc | apply pw_below_drewN | apply below_drew1) | exact HB.out)⟩⟩
              case rest =>
                clear HC20
                try clear c1
                try clear p1
                try clear q1
                try clear hx1
                try clear c2
                try clear p2
                try clear c3
                try clear c3b0
                try clear c4
                try clear c5
                try clear c5b0
                try clear c6
                try clear c6b0
                try clear c6b1
                try clear c9
                try clear c9b0
                try clear c10
                try clear c10b0
                try clear p13
                try clear q13
                try clear hx13
                try clear c14
                try clear c14b0
                try clear c17
                try clear c17b0
                try clear c17b1
                try clear c23
                try clear c23b0
                try clear hx130_0
                try clear p130
                try clear p2
                try clear q130
                obtain ⟨kq, x29_19, rfl, HA, HJ19, HB⟩ := hcut
                cases kq with
                | zero => exact absurd HA.out (by simp [ladderbackref12_Shape.j1])
                | succ kj19 =>
                  have H := HA.out
                  clear HA
                  simp only [ladderbackref12_Shape.j1] at H
                  by_cases c24 : x29_19 = true
                  · subst c24
                    have H1 : (some (0, 0)) = some (r1, r2) := by rw [if_pos rfl] at H; exact H
                    clear H
                    have H := H1
                    clear H1
                    simp only [Option.some.injEq, Prod.mk.injEq] at H
                    obtain ⟨rfl, rfl⟩ := H
                    go_wp2
                    go_ret2
                    exact ⟨by first | rfl | (simp [errW_none, errW_some] <;> rfl) | (simp [*, errW_none, errW_some] <;> rfl), by repeat (first | (with_reducible first | exact HB.out | apply below_alloc | apply pw_below_drewN | apply below_drew1) | exact HB.out)⟩
                  · replace c24 := Bool.eq_false_iff.mpr c24
                    subst c24
                    have H1 : (if a0 < 32 then (some (5, 10)) else (if a0 = 32 then (some (6, 10)) else (if a0 = 33 then (some (7, 0)) else (if a0 = 36 then (some (8, 0)) else (some (8, 9)))))) = some (r1, r2) := by rw [if_neg (show ¬ (false = true) by decide)] at H; exact H
                    clear H
                    have H := H1
                    clear H1
                    by_cases c25 : a0 < 32
                    · rw [if_pos c25] at H
                      have c25b0 : decide (a0 < 32) = true := decide_eq_true c25
                      clear c25
                      simp only [Option.some.injEq, Prod.mk.injEq] at H
                      obtain ⟨rfl, rfl⟩ := H
                      go_wp2
                      go_ret2
                      exact ⟨by first | rfl | (simp [errW_none, errW_some] <;> rfl) | (simp [*, errW_none, errW_some] <;> rfl), by repeat (first | (with_reducible first | exact HB.out | apply below_alloc | apply pw_below_drewN | apply below_drew1) | exact HB.out)⟩
                    · rw [if_neg c25] at H
                      have c25b0 : decide (a0 < 32) = false := decide_eq_false c25
                      clear c25
                      by_cases c26 : a0 = 32
                      · rw [if_pos c26] at H
                        have c26b0 : (a0 == 32) = true := beq_iff_eq.mpr c26
                        have c26b1 : (a0 != 32) = false := bne_eq_false_iff_eq.mpr c26
                        clear c26
                        simp only [Option.some.injEq, Prod.mk.injEq] at H
                        obtain ⟨rfl, rfl⟩ := H
                        go_wp2
                        go_ret2
                        exact ⟨by first | rfl | (simp [errW_none, errW_some] <;> rfl) | (simp [*, errW_none, errW_some] <;> rfl), by repeat (first | (with_reducible first | exact HB.out | apply below_alloc | apply pw_below_drewN | apply below_drew1) | exact HB.out)⟩
                      · rw [if_neg c26] at H
                        have c26b0 : (a0 == 32) = false := beq_eq_false_iff_ne.mpr c26
                        have c26b1 : (a0 != 32) = true := bne_iff_ne.mpr c26
                        by_cases c27 : a0 = 33
                        · rw [if_pos c27] at H
                          have c27b0 : (a0 == 33) = true := beq_iff_eq.mpr c27
                          have c27b1 : (a0 != 33) = false := bne_eq_false_iff_eq.mpr c27
                          clear c27
                          simp only [Option.some.injEq, Prod.mk.injEq] at H
                          obtain ⟨rfl, rfl⟩ := H
                          go_wp2
                          go_ret2
                          exact ⟨by first | rfl | (simp [errW_none, errW_some] <;> rfl) | (simp [*, errW_none, errW_some] <;> rfl), by repeat (first | (with_reducible first | exact HB.out | apply below_alloc | apply pw_below_drewN | apply below_drew1) | exact HB.out)⟩
                        · rw [if_neg c27] at H
                          have c27b0 : (a0 == 33) = false := beq_eq_false_iff_ne.mpr c27
                          have c27b1 : (a0 != 33) = true := bne_iff_ne.mpr c27
                          by_cases c28 : a0 = 36
                          · rw [if_pos c28] at H
                            have c28b0 : (a0 == 36) = true := beq_iff_eq.mpr c28
                            have c28b1 : (a0 != 36) = false := bne_eq_false_iff_eq.mpr c28
                            clear c28
                            simp only [Option.some.injEq, Prod.mk.injEq] at H
                            obtain ⟨rfl, rfl⟩ := H
                            go_wp2
                            go_ret2
                            exact ⟨by first | rfl | (simp [errW_none, errW_some] <;> rfl) | (simp [*, errW_none, errW_some] <;> rfl), by repeat (first | (with_reducible first | exact HB.out | apply below_alloc | apply pw_below_drewN | apply below_drew1) | exact HB.out)⟩
                          · rw [if_neg c28] at H
                            have c28b0 : (a0 == 36) = false := beq_eq_false_iff_ne.mpr c28
                            have c28b1 : (a0 != 36) = true := bne_iff_ne.mpr c28
                            simp only [Option.some.injEq, Prod.mk.injEq] at H
                            obtain ⟨rfl, rfl⟩ := H
                            go_wp2
                            go_ret2
                            exact ⟨by first | rfl | (simp [errW_none, errW_some] <;> rfl) | (simp [*, errW_none, errW_some] <;> rfl), by repeat (first | (with_reducible first | exact HB.out | apply below_alloc | apply pw_below_drewN | apply below_drew1) | exact HB.out)⟩

/-! ### ladderbackref12_may: function 60 -/
def ladderbackref12_may.f (a0 : Int) (a1 : Int) : Option (Bool) := if a0 = 0 then (some true) else (if a1 = 0 then (some false) else (if a0 > 0 then (some (decide (a0 < 65536))) else (some false)))
set_option maxHeartbeats 8000000 in
set_option maxRecDepth 100000 in
theorem ladderbackref12_may.calls (a0 : Int) (a1 : Int) (r : Bool) (w : World) (h : ladderbackref12_may.f a0 a1 = some r) :
    Calls Tryd.prog 60 #[.int .i64 a0, .int .i64 a1] w fun e w' => e = .returned (.bool r) ∧ Drawn0 w w' := by
  have H : (if a0 = 0 then (some true) else (if a1 = 0 then (some false) else (if a0 > 0 then (some (decide (a0 < 65536))) else (some false)))) = some r := h
  clear h
  by_cases c3 : a0 = 0
  · rw [if_pos c3] at H
    have c3b0 : (a0 == 0) = true := beq_iff_eq.mpr c3
    have c3b1 : (a0 != 0) = false := bne_eq_false_iff_eq.mpr c3
    clear c3
    obtain rfl := Option.some.inj H
    go_enter Tryd.func60, Tryd.ntmps60
    go_wp2
    go_ret
    exact ⟨by first | rfl | (simp; done) | (simp [*]; done), by repeat (first | exact Drawn0.refl _ | apply Drawn0.step)⟩
  · rw [if_neg c3] at H
    have c3b0 : (a0 == 0) = false := beq_eq_false_iff_ne.mpr c3
    have c3b1 : (a0 != 0) = true := bne_iff_ne.mpr c3
    by_cases c4 : a1 = 0
    · rw [if_pos c4] at H
      have c4b0 : (a1 == 0) = true := beq_iff_eq.mpr c4
      have c4b1 : (a1 != 0) = false := bne_eq_false_iff_eq.mpr c4
      clear c4
      obtain rfl := Option.some.inj H
      go_enter Tryd.func60, Tryd.ntmps60
      go_wp2
      go_ret
      exact ⟨by first | rfl | (simp; done) | (simp [*]; done), by repeat (first | exact Drawn0.refl _ | apply Drawn0.step)⟩
    · rw [if_neg c4] at H
      have c4b0 : (a1 == 0) = false := beq_eq_false_iff_ne.mpr c4
      have c4b1 : (a1 != 0) = true := bne_iff_ne.mpr c4
      by_cases c5 : a0 > 0
      · rw [if_pos c5] at H
        have c5b0 : decide (0 < a0) = true := decide_eq_true c5
        clear c5
        obtain rfl := Option.some.inj H
        go_enter Tryd.func60, Tryd.ntmps60
        go_wp2
        go_ret
        exact ⟨by first | rfl | (simp; done) | (simp [*]; done), by repeat (first | exact Drawn0.refl _ | apply Drawn0.step)⟩
      · rw [if_neg c5] at H
        have c5b0 : decide (0 < a0) = false := decide_eq_false c5
        clear c5
        obtain rfl := Option.some.inj H
        go_enter Tryd.func60, Tryd.ntmps60
        go_wp2
        go_ret
        exact ⟨by first | rfl | (simp; done) | (simp [*]; done), by repeat (first | exact Drawn0.refl _ | apply Drawn0.step)⟩

/-! ### ladderbackref12_Right: function 30 -/
def ladderbackref12_Right.f (k : Nat) (a0_0 : Int) (a0_1 : Int) (a0_2 : Int) : Option (Bool) := (ladderbackref12_Shape.f k a0_0).bind fun bt132 => (if a0_0 ≥ 0 then (if a0_0 ≤ 37 then ((ladderbackref12_may.f a0_1 bt132.1).bind fun t134 => (if t134 = true then ((ladderbackref12_may.f a0_2 bt132.2).bind fun t135 => (some t135)) else (some false))) else (some false)) else (some false))
set_option maxHeartbeats 8000000 in
set_option maxRecDepth 100000 in
theorem ladderbackref12_Right.calls (k : Nat) (a0_0 : Int) (a0_1 : Int) (a0_2 : Int) (r : Bool) (w : World) (h : ladderbackref12_Right.f k a0_0 a0_1 a0_2 = some r) :
    Calls Tryd.prog 30 #[.agg #[.int .i64 a0_0, .int .i64 a0_1, .int .i64 a0_2]] w fun e w' => e = .returned (.bool r) ∧ Below w.heap.size w w' := by
  have hu47 := Tryd.underlying47
  have HB := Aside0.mk (Below.refl w.heap.size w)
  have H : ((ladderbackref12_Shape.f k a0_0).bind fun bt132 => (if a0_0 ≥ 0 then (if a0_0 ≤ 37 then ((ladderbackref12_may.f a0_1 bt132.1).bind fun t134 => (if t134 = true then ((ladderbackref12_may.f a0_2 bt132.2).bind fun t135 => (some t135)) else (some false))) else (some false)) else (some false))) = some r := h
  clear h
  replace H := Option.bind_eq_some_iff.mp H
  obtain ⟨⟨t132, t133⟩, A20, H⟩ := H
  replace H : (if a0_0 ≥ 0 then (if a0_0 ≤ 37 then ((ladderbackref12_may.f a0_1 t132).bind fun t134 => (if t134 = true then ((ladderbackref12_may.f a0_2 t133).bind fun t135 => (some t135)) else (some false))) else (some false)) else (some false)) = some r := H
  have A2 := Aside0.mk A20
  clear A20
  by_cases c3 : a0_0 ≥ 0
  · rw [if_pos c3] at H
    have c3b0 : decide (0 ≤ a0_0) = true := decide_eq_true c3
    clear c3
    by_cases c4 : a0_0 ≤ 37
    · rw [if_pos c4] at H
      have c4b0 : decide (a0_0 ≤ 37) = true := decide_eq_true c4
      clear c4
      replace H := Option.bind_eq_some_iff.mp H
      obtain ⟨t134, A50, H⟩ := H
      replace H : (if t134 = true then ((ladderbackref12_may.f a0_2 t133).bind fun t135 => (some t135)) else (some false)) = some r := H
      have A5 := Aside0.mk A50
      clear A50
      by_cases c6 : t134 = true
      · subst c6
        have H1 : ((ladderbackref12_may.f a0_2 t133).bind fun t135 => (some t135)) = some r := by rw [if_pos rfl] at H; exact H
        clear H
        have H := H1
        clear H1
        replace H := Option.bind_eq_some_iff.mp H
        obtain ⟨t135, A70, H⟩ := H
        replace H : (some t135) = some r := H
        have A7 := Aside0.mk A70
        clear A70
        obtain rfl := Option.some.inj H
        go_enter Tryd.func30, Tryd.ntmps30
        go_wp2_with (first | ((with_reducible refine gate_dst (N := 1) rfl ?_); refine box_event ?hg (N := 1) ?hd (cs := #[.int .i64 a0_0, .int .i64 a0_1, .int .i64 a0_2]) (t := 47) ?hr ?_; (case hd => rfl); (case hg => rfl); (case hr => first | (go_simp; done) | (go_simp; rfl)); intro gb131 hg w8 hbox hb; have n0_ := Aside0.mk (below_step (by repeat (first | (with_reducible first | exact HB.out | apply below_alloc | apply pw_below_drewN | apply below_drew1) | exact HB.out)) hb); have n1_ := Aside0.mk (hbox); have n2_ := Aside0.mk ((by rw [hg]; exact (below_size (by repeat (first | (with_reducible first | exact HB.out | apply below_alloc | apply pw_below_drewN | apply below_drew1) | exact HB.out))) : w.heap.size ≤ gb131)); have n3_ := Aside0.mk ((by rw [hg]; exact (below_size (by repeat (first | (with_reducible first | exact HB.out | apply below_alloc | apply pw_below_drewN | apply below_drew1) | exact HB.out))) : w.heap.size ≤ gb131)); clear HB; have HB := n0_; have BK131 := n1_; have GW131 := n2_; have GE131 := n3_; clear n0_ n1_ n2_ n3_; clear hb hbox hg; have hcz9_0 : w8.cell? ⟨gb131, 0, none⟩ = some (.int .i64 a0_0) := (blk_cell BK131.out 0).trans rfl; have hcz9_1 : w8.cell? ⟨gb131, 1, none⟩ = some (.int .i64 a0_1) := (blk_cell BK131.out 1).trans rfl; have hcz9_2 : w8.cell? ⟨gb131, 2, none⟩ = some (.int .i64 a0_2) := (blk_cell BK131.out 2).trans rfl; have hfz9_0 := blk_frozen BK131.out 0; have hfz9_1 := blk_frozen BK131.out 1; have hfz9_2 := blk_frozen BK131.out 2) | ((with_reducible refine gate_callee (f := 59) rfl ?_); refine goesL_ (some 8) rfl rfl Tryd.func59 (by kernel_rfl) rfl #[.int .i64 a0_0] rfl (by (try simp only [List.map_toArray, List.map_cons, List.map_nil]); first | done | rfl | (simp only [List.length_drop, List.length_take]; rfl)) ?_; (with_reducible refine (ladderbackref12_Shape.calls k a0_0 t132 t133 _ A2.out).mono ?_); rintro e w10 ⟨rfl, hb⟩; refine ⟨_, rfl, ?_⟩; have n0_ := Aside0.mk (blk_below (g := gb131) (o := .cells #[.int .i64 a0_0, .int .i64 a0_1, .int .i64 a0_2] 47 (0, 0)) (by (with_reducible repeat (first | refine blk_drewN ?_ _ | refine blk_drew ?_ | refine blk_alloc ?_ _)); exact BK131.out) hb); have n1_ := Aside0.mk (below_step (by repeat (first | (with_reducible first | exact HB.out | apply below_alloc | apply pw_below_drewN | apply below_drew1 | refine below_set ?_ GE131.out) | exact HB.out)) hb); clear BK131; clear HB; have BK131 := n0_; have HB := n1_; clear n0_ n1_; (try clear hb); (try clear hb2); (try clear hk); (try clear hi); have hcz11_0 : w10.cell? ⟨gb131, 0, none⟩ = some (.int .i64 a0_0) := (blk_cell BK131.out 0).trans rfl; have hcz11_1 : w10.cell? ⟨gb131, 1, none⟩ = some (.int .i64 a0_1) := (blk_cell BK131.out 1).trans rfl; have hcz11_2 : w10.cell? ⟨gb131, 2, none⟩ = some (.int .i64 a0_2) := (blk_cell BK131.out 2).trans rfl; have hfz11_0 := blk_frozen BK131.out 0; have hfz11_1 := blk_frozen BK131.out 1; have hfz11_2 := blk_frozen BK131.out 2) | (go_at_call 60; (with_reducible refine (ladderbackref12_may.calls a0_1 t132 true _ A5.out).mono ?_); rintro e w' ⟨rfl, ⟨nd, rfl⟩⟩) | (go_at_call 60; (with_reducible refine (ladderbackref12_may.calls a0_2 t133 t135 _ A7.out).mono ?_); rintro e w' ⟨rfl, ⟨nd, rfl⟩⟩))
        go_ret
        exact ⟨by first | rfl | (simp [errW_none, errW_some] <;> rfl) | (simp [*, errW_none, errW_some] <;> rfl), by repeat (first | (with_reducible first | exact HB.out | apply below_alloc | apply pw_below_drewN | apply below_drew1 | refine below_set ?_ GE131.out) | exact HB.out)⟩
      · replace c6 := Bool.eq_false_iff.mpr c6
        subst c6
        have H1 : (some false) = some r := by rw [if_neg (show ¬ (false = true) by decide)] at H; exact H
        clear H
        have H := H1
        clear H1
        obtain rfl := Option.some.inj H
        go_enter Tryd.func30, Tryd.ntmps30
        go_wp2_with (first | ((with_reducible refine gate_dst (N := 1) rfl ?_); refine box_event ?hg (N := 1) ?hd (cs := #[.int .i64 a0_0, .int .i64 a0_1, .int .i64 a0_2]) (t := 47) ?hr ?_; (case hd => rfl); (case hg => rfl); (case hr => first | (go_simp; done) | (go_simp; rfl)); intro gb131 hg w12 hbox hb; have n0_ := Aside0.mk (below_step (by repeat (first | (with_reducible first | exact HB.out | apply below_alloc | apply pw_below_drewN | apply below_drew1) | exact HB.out)) hb); have n1_ := Aside0.mk (hbox); have n2_ := Aside0.mk ((by rw [hg]; exact (below_size (by repeat (first | (with_reducible first | exact HB.out | apply below_alloc | apply pw_below_drewN | apply below_drew1) | exact HB.out))) : w.heap.size ≤ gb131)); have n3_ := Aside0.mk ((by rw [hg]; exact (below_size (by repeat (first | (with_reducible first | exact HB.out | apply below_alloc | apply pw_below_drewN | apply below_drew1) | exact HB.out))) : w.heap.size ≤ gb131)); clear HB; have HB := n0_; have BK131 := n1_; have GW131 := n2_; have GE131 := n3_; clear n0_ n1_ n2_ n3_; clear hb hbox hg; have hcz13_0 : w12.cell? ⟨gb131, 0, none⟩ = some (.int .i64 a0_0) := (blk_cell BK131.out 0).trans rfl; have hcz13_1 : w12.cell? ⟨gb131, 1, none⟩ = some (.int .i64 a0_1) := (blk_cell BK131.out 1).trans rfl; have hcz13_2 : w12.cell? ⟨gb131, 2, none⟩ = some (.int .i64 a0_2) := (blk_cell BK131.out 2).trans rfl; have hfz13_0 := blk_frozen BK131.out 0; have hfz13_1 := blk_frozen BK131.out 1; have hfz13_2 := blk_frozen BK131.out 2) | ((with_reducible refine gate_callee (f := 59) rfl ?_); refine goesL_ (some 8) rfl rfl Tryd.func59 (by kernel_rfl) rfl #[.int .i64 a0_0] rfl (by (try simp only [List.map_toArray, List.map_cons, List.map_nil]); first | done | rfl | (simp only [List.length_drop, List.length_take]; rfl)) ?_; (with_reducible refine (ladderbackref12_Shape.calls k a0_0 t132 t133 _ A2.out).mono ?_); rintro e w14 ⟨rfl, hb⟩; refine ⟨_, rfl, ?_⟩; have n0_ := Aside0.mk (blk_below (g := gb131) (o := .cells #[.int .i64 a0_0, .int .i64 a0_1, .int .i64 a0_2] 47 (0, 0)) (by (with_reducible repeat (first | refine blk_drewN ?_ _ | refine blk_drew ?_ | refine blk_alloc ?_ _)); exact BK131.out) hb); have n1_ := Aside0.mk (below_step (by repeat (first | (with_reducible first | exact HB.out | apply below_alloc | apply pw_below_drewN | apply below_drew1 | refine below_set ?_ GE131.out) | exact HB.out)) hb); clear BK131; clear HB; have BK131 := n0_; have HB := n1_; clear n0_ n1_; (try clear hb); (try clear hb2); (try clear hk); (try clear hi); have hcz15_0 : w14.cell? ⟨gb131, 0, none⟩ = some (.int .i64 a0_0) := (blk_cell BK131.out 0).trans rfl; have hcz15_1 : w14.cell? ⟨gb131, 1, none⟩ = some (.int .i64 a0_1) := (blk_cell BK131.out 1).trans rfl; have hcz15_2 : w14.cell? ⟨gb131, 2, none⟩ = some (.int .i64 a0_2) := (blk_cell BK131.out 2).trans rfl; have hfz15_0 := blk_frozen BK131.out 0; have hfz15_1 := blk_frozen BK131.out 1; have hfz15_2 := blk_frozen BK131.out 2) | (go_at_call 60; (with_reducible refine (ladderbackref12_may.calls a0_1 t132 false _ A5.out).mono ?_); rintro e w' ⟨rfl, ⟨nd, rfl⟩⟩))
        go_ret
        exact ⟨by first | rfl | (simp [errW_none, errW_some] <;> rfl) | (simp [*, errW_none, errW_some] <;> rfl), by repeat (first | (with_reducible first | exact HB.out | apply below_alloc | apply pw_below_drewN | apply below_drew1 | refine below_set ?_ GE131.out) | exact HB.out)⟩
    · rw [if_neg c4] at H
      have c4b0 : decide (a0_0 ≤ 37) = false := decide_eq_false c4
      clear c4
      obtain rfl := Option.some.inj H
      go_enter Tryd.func30, Tryd.ntmps30
      go_wp2_with (first | ((with_reducible refine gate_dst (N := 1) rfl ?_); refine box_event ?hg (N := 1) ?hd (cs := #[.int .i64 a0_0, .int .i64 a0_1, .int .i64 a0_2]) (t := 47) ?hr ?_; (case hd => rfl); (case hg => rfl); (case hr => first | (go_simp; done) | (go_simp; rfl)); intro gb131 hg w16 hbox hb; have n0_ := Aside0.mk (below_step (by repeat (first | (with_reducible first | exact HB.out | apply below_alloc | apply pw_below_drewN | apply below_drew1) | exact HB.out)) hb); have n1_ := Aside0.mk (hbox); have n2_ := Aside0.mk ((by rw [hg]; exact (below_size (by repeat (first | (with_reducible first | exact HB.out | apply below_alloc | apply pw_below_drewN | apply below_drew1) | exact HB.out))) : w.heap.size ≤ gb131)); have n3_ := Aside0.mk ((by rw [hg]; exact (below_size (by repeat (first | (with_reducible first | exact HB.out | apply below_alloc | apply pw_below_drewN | apply below_drew1) | exact HB.out))) : w.heap.size ≤ gb131)); clear HB; have HB := n0_; have BK131 := n1_; have GW131 := n2_; have GE131 := n3_; clear n0_ n1_ n2_ n3_; clear hb hbox hg; have hcz17_0 : w16.cell? ⟨gb131, 0, none⟩ = some (.int .i64 a0_0) := (blk_cell BK131.out 0).trans rfl; have hcz17_1 : w16.cell? ⟨gb131, 1, none⟩ = some (.int .i64 a0_1) := (blk_cell BK131.out 1).trans rfl; have hcz17_2 : w16.cell? ⟨gb131, 2, none⟩ = some (.int .i64 a0_2) := (blk_cell BK131.out 2).trans rfl; have hfz17_0 := blk_frozen BK131.out 0; have hfz17_1 := blk_frozen BK131.out 1; have hfz17_2 := blk_frozen BK131.out 2) | ((with_reducible refine gate_callee (f := 59) rfl ?_); refine goesL_ (some 8) rfl rfl Tryd.func59 (by kernel_rfl) rfl #[.int .i64 a0_0] rfl (by (try simp only [List.map_toArray, List.map_cons, List.map_nil]); first | done | rfl | (simp only [List.length_drop, List.length_take]; rfl)) ?_; (with_reducible refine (ladderbackref12_Shape.calls k a0_0 t132 t133 _ A2.out).mono ?_); rintro e w18 ⟨rfl, hb⟩; refine ⟨_, rfl, ?_⟩; have n0_ := Aside0.mk (blk_below (g := gb131) (o := .cells #[.int .i64 a0_0, .int .i64 a0_1, .int .i64 a0_2] 47 (0, 0)) (by (with_reducible repeat (first | refine blk_drewN ?_ _ | refine blk_drew ?_ | refine blk_alloc ?_ _)); exact BK131.out) hb); have n1_ := Aside0.mk (below_step (by repeat (first | (with_reducible first | exact HB.out | apply below_alloc | apply pw_below_drewN | apply below_drew1 | refine below_set ?_ GE131.out) | exact HB.out)) hb); clear BK131; clear HB; have BK131 := n0_; have HB := n1_; clear n0_ n1_; (try clear hb); (try clear hb2); (try clear hk); (try clear hi); have hcz19_0 : w18.cell? ⟨gb131, 0, none⟩ = some (.int .i64 a0_0) := (blk_cell BK131.out 0).trans rfl; have hcz19_1 : w18.cell? ⟨gb131, 1, none⟩ = some (.int .i64 a0_1) := (blk_cell BK131.out 1).trans rfl; have hcz19_2 : w18.cell? ⟨gb131, 2, none⟩ = some (.int .i64 a0_2) := (blk_cell BK131.out 2).trans rfl; have hfz19_0 := blk_frozen BK131.out 0; have hfz19_1 := blk_frozen BK131.out 1; have hfz19_2 := blk_frozen BK131.out 2))
      go_ret
      exact ⟨by first | rfl | (simp [errW_none, errW_some] <;> rfl) | (simp [*, errW_none, errW_some] <;> rfl), by repeat (first | (with_reducible first | exact HB.out | apply below_alloc | apply pw_below_drewN | apply below_drew1 | refine below_set ?_ GE131.out) | exact HB.out)⟩
  · rw [if_neg c3] at H
    have c3b0 : decide (0 ≤ a0_0) = false := decide_eq_false c3
    clear c3
    obtain rfl := Option.some.inj H
    go_enter Tryd.func30, Tryd.ntmps30
    go_wp2_with (first | ((with_reducible refine gate_dst (N := 1) rfl ?_); refine box_event ?hg (N := 1) ?hd (cs := #[.int .i64 a0_0, .int .i64 a0_1, .int .i64 a0_2]) (t := 47) ?hr ?_; (case hd => rfl); (case hg => rfl); (case hr => first | (go_simp; done) | (go_simp; rfl)); intro gb131 hg w20 hbox hb; have n0_ := Aside0.mk (below_step (by repeat (first | (with_reducible first | exact HB.out | apply below_alloc | apply pw_below_drewN | apply below_drew1) | exact HB.out)) hb); have n1_ := Aside0.mk (hbox); have n2_ := Aside0.mk ((by rw [hg]; exact (below_size (by repeat (first | (with_reducible first | exact HB.out | apply below_alloc | apply pw_below_drewN | apply below_drew1) | exact HB.out))) : w.heap.size ≤ gb131)); have n3_ := Aside0.mk ((by rw [hg]; exact (below_size (by repeat (first | (with_reducible first | exact HB.out | apply below_alloc | apply pw_below_drewN | apply below_drew1) | exact HB.out))) : w.heap.size ≤ gb131)); clear HB; have HB := n0_; have BK131 := n1_; have GW131 := n2_; have GE131 := n3_; clear n0_ n1_ n2_ n3_; clear hb hbox hg; have hcz21_0 : w20.cell? ⟨gb131, 0, none⟩ = some (.int .i64 a0_0) := (blk_cell BK131.out 0).trans rfl; have hcz21_1 : w20.cell? ⟨gb131, 1, none⟩ = some (.int .i64 a0_1) := (blk_cell BK131.out 1).trans rfl; have hcz21_2 : w20.cell? ⟨gb131, 2, none⟩ = some (.int .i64 a0_2) := (blk_cell BK131.out 2).trans rfl; have hfz21_0 := blk_frozen BK131.out 0; have hfz21_1 := blk_frozen BK131.out 1; have hfz21_2 := blk_frozen BK131.out 2) | ((with_reducible refine gate_callee (f := 59) rfl ?_); refine goesL_ (some 8) rfl rfl Tryd.func59 (by kernel_rfl) rfl #[.int .i64 a0_0] rfl (by (try simp only [List.map_toArray, List.map_cons, List.map_nil]); first | done | rfl | (simp only [List.length_drop, List.length_take]; rfl)) ?_; (with_reducible refine (ladderbackref12_Shape.calls k a0_0 t132 t133 _ A2.out).mono ?_); rintro e w22 ⟨rfl, hb⟩; refine ⟨_, rfl, ?_⟩; have n0_ := Aside0.mk (blk_below (g := gb131) (o := .cells #[.int .i64 a0_0, .int .i64 a0_1, .int .i64 a0_2] 47 (0, 0)) (by (with_reducible repeat (first | refine blk_drewN ?_ _ | refine blk_drew ?_ | refine blk_alloc ?_ _)); exact BK131.out) hb); have n1_ := Aside0.mk (below_step (by repeat (first | (with_reducible first | exact HB.out | apply below_alloc | apply pw_below_drewN | apply below_drew1 | refine below_set ?_ GE131.out) | exact HB.out)) hb); clear BK131; clear HB; have BK131 := n0_; have HB := n1_; clear n0_ n1_; (try clear hb); (try clear hb2); (try clear hk); (try clear hi); have hcz23_0 : w22.cell? ⟨gb131, 0, none⟩ = some (.int .i64 a0_0) := (blk_cell BK131.out 0).trans rfl; have hcz23_1 : w22.cell? ⟨gb131, 1, none⟩ = some (.int .i64 a0_1) := (blk_cell BK131.out 1).trans rfl; have hcz23_2 : w22.cell? ⟨gb131, 2, none⟩ = some (.int .i64 a0_2) := (blk_cell BK131.out 2).trans rfl; have hfz23_0 := blk_frozen BK131.out 0; have hfz23_1 := blk_frozen BK131.out 1; have hfz23_2 := blk_frozen BK131.out 2))
    go_ret
    exact ⟨by first | rfl | (simp [errW_none, errW_some] <;> rfl) | (simp [*, errW_none, errW_some] <;> rfl), by repeat (first | (with_reducible first | exact HB.out | apply below_alloc | apply pw_below_drewN | apply below_drew1 | refine below_set ?_ GE131.out) | exact HB.out)⟩

end Go.Proofs.YthbcliofjfhmbaaDoor.PCod
end

section
/- Instructions' bytes, plainly: what is encoded, and what bytes say; the program's and the document's tell the same. -/
namespace Go.Proofs.YthbcliofjfhmbaaDoor.Pure
open Go.RowKit Go.Proofs.YthbcliofjfhmbaaDoor.PCod Go.Proofs.YthbcliofjfhmbaaDoor.Given Go.Proofs.YthbcliofjfhmbaaDoorW.PrintWords Go.Proofs.YthbcliofjfhmbaaDoorW.PrintLast
set_option linter.unusedVariables false
set_option linter.unusedSimpArgs false
theorem w64 (x : Int) (h0 : -9223372036854775808 ≤ x) (h1 : x < 9223372036854775808) : wrap64 x = x := by unfold wrap64; omega
def mayF (n w : Int) : Bool := if w = 0 then n == 0 else decide (0 ≤ n) && decide (n ≤ 65535)
theorem may_is (n w : Int) : op_may.f n w = some (mayF n w) := by
  unfold op_may.f mayF
  by_cases h : w = 0
  · rw [if_pos h, if_pos h]
  · rw [if_neg h, if_neg h]
    by_cases h0 : 0 ≤ n
    · rw [if_pos h0]; simp [h0]
    · rw [if_neg h0]; simp [h0]
theorem is_is (x : Int) : op_Is.f x = some (isOp x) := by
  unfold op_Is.f isOp
  by_cases h0 : 0 ≤ x
  · rw [if_pos h0]; simp [h0]
  · rw [if_neg h0]; simp [h0]
theorem right_is (x y z : Int) : right3 x y z = (isOp x && mayF y (shapeA x) && mayF z (shapeB x)) := by
  have h : op_Right.f x y z = some (right3 x y z) := right_some x y z
  have h2 : op_Right.f x y z = some (isOp x && mayF y (shapeA x) && mayF z (shapeB x)) := by
    unfold op_Right.f op_Shape.f
    simp only [Option.bind_some, is_is, may_is]
    cases isOp x <;> cases mayF y (shapeA x) <;> simp
  exact Option.some.inj (h.symm.trans h2)
theorem rmay_is (n w : Int) : ladderbackref12_may.f n w = some (mayF n w) := by
  unfold ladderbackref12_may.f mayF
  by_cases hn : n = 0
  · rw [if_pos hn]; subst hn; by_cases h : w = 0 <;> simp [h]
  · rw [if_neg hn]
    by_cases h : w = 0
    · rw [if_pos h, if_pos h]; simp [hn]
    · rw [if_neg h, if_neg h]
      by_cases h0 : n > 0
      · rw [if_pos h0]
        congr 1
        rw [Bool.eq_iff_iff]
        simp
        omega
      · rw [if_neg h0]
        congr 1
        rw [Bool.eq_iff_iff]
        simp
        omega
theorem shapes : ∀ n : Fin 38, ladderbackref12_Shape.f 3 (n.val : Int) = some (shapeA n.val, shapeB n.val) := by decide +kernel
theorem shape_more (x : Int) : ∀ d, ladderbackref12_Shape.f 3 x = some (shapeA x, shapeB x) → ladderbackref12_Shape.f (3 + d) x = some (shapeA x, shapeB x) := by
  intro d h
  induction d with
  | zero => exact h
  | succ d ih => exact ladderbackref12_Shape.mono x (3 + d) _ ih
theorem rshape (x : Int) (k : Nat) (hk : 3 ≤ k) : ladderbackref12_Shape.f k x = some (shapeA x, shapeB x) := by
  rw [show k = 3 + (k - 3) by omega]
  refine shape_more x _ ?_
  by_cases h : isOp x = true
  · unfold isOp at h
    simp only [Bool.and_eq_true, decide_eq_true_eq] at h
    obtain ⟨n, rfl⟩ := Int.eq_ofNat_of_zero_le h.1
    exact shapes ⟨n, by omega⟩
  · unfold shapeA shapeB
    rw [if_neg h, if_neg h]
    unfold isOp at h
    simp only [Bool.and_eq_true, decide_eq_true_eq, not_and] at h
    unfold ladderbackref12_Shape.f
    by_cases h0 : x < 0
    · rw [if_pos h0]; rfl
    · rw [if_neg h0, decide_eq_true (by omega)]; rfl
theorem rright (x y z : Int) (k : Nat) (hk : 3 ≤ k) : ladderbackref12_Right.f k x y z = some (right3 x y z) := by
  rw [right_is]
  unfold ladderbackref12_Right.f
  rw [rshape x k hk]
  simp only [Option.bind_some, rmay_is]
  unfold isOp
  by_cases h0 : x ≥ 0
  · rw [if_pos h0]
    by_cases h1 : x ≤ 37
    · rw [if_pos h1, decide_eq_true (show 0 ≤ x from h0), decide_eq_true (show x < 38 by omega)]
      cases mayF y (shapeA x) <;> simp
    · rw [if_neg h1, decide_eq_false (show ¬ x < 38 by omega)]; simp
  · rw [if_neg h0, decide_eq_false h0]; simp
theorem real_is (x : Int) : isReal x = (decide (48 ≤ x) && decide (x ≤ 55)) := by
  have h := real_some x
  unfold POp.op_Real.f at h
  by_cases h0 : x ≥ 48
  · rw [if_pos h0] at h
    rw [← Option.some.inj h]; simp [h0]
  · rw [if_neg h0] at h
    rw [← Option.some.inj h]; simp [h0]
end Go.Proofs.YthbcliofjfhmbaaDoor.Pure
end
