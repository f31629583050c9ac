/- box.read where it throws: bytes that do not begin as a container; bytes whose sum differs. -/
import Derived.Test.YtdbfgfgbjheibaaDoorZBoxBackq
import Derived.Test.YtdbfgfgbjheibaaDoorProg
import Derived.Below
import Derived.Deep.Draws
import Derived.Deep.AppendLies
import Derived.Maps.AppendAt
import Derived.OwnWalk
import Derived.Laws.BytesArg
import Derived.Laws.MakeOwn
import Derived.Laws.OwnMore
import Derived.Deep.OwnRows
import Derived.Tactics
import Derived.Lib.ConvBytes
import Derived.Laws.Slices
import Derived.WalkKit
import Derived.KernelRfl
import Derived.RowKit3
import Derived.Deep.LoopGhost
import Derived.Deep.QuietTactic
import Derived.BigQuiet
import Derived.WideLaws
import Derived.Deep.DeepCutAuto
import Derived.Deep.CutBlock
import Derived.Deep.RegionHeld3
import Derived.Laws.Rows
import Derived.Lib.AppendStr
import Derived.ArgAppend
import Derived.Laws.IdiomCopy
import Derived.OrdersHeld
import Derived.Laws.BitsLemmas
import Derived.RowKit
import Derived.Deep.RegionWith
import Derived.Test.YtdbfgfgbjheibaaDoorZBoxBackaa
import Derived.Test.YtdbfgfgbjheibaaDoorZBoxBackab
import Derived.Test.YtdbfgfgbjheibaaDoorZBoxBackaf
import Derived.Test.YtdbfgfgbjheibaaDoorZBoxBackai
import Derived.Test.YtdbfgfgbjheibaaDoorZBoxBackaj
section
/- Bytes as a unit, as the program reads them; bytes of at most 1000000 in length, the operations' table as the program lays it. -/
namespace Go.Proofs.YtdbfgfgbjheibaaDoor.Given
open Go.RowKit Go.Proofs.YtdbfgfgbjheibaaDoorW.PrintWords Go.Proofs.YtdbfgfgbjheibaaDoorW.PrintLast Go.Proofs.YtdbfgfgbjheibaaDoorW.PrintMore
set_option linter.unusedVariables false
set_option linter.unusedSimpArgs false
def conv (x : InS) : PBx.S109 := ⟨x.f0, x.f1, x.f2⟩
abbrev UD := ByteArray × List Int × Int × List Int × List PBx.S109
def zeroU : UD := (⟨#[]⟩, [], 0, [], [])
/-- Bytes as a unit, and the error. -/
def ugetR (b : List Int) : UD × Int :=
 let t := textR b 0 false
 if t.2.2 = true then (zeroU, 1) else
 let p := numbersR b t.2.1 t.2.2 1 8
 if ¬ p.2.1 = 0 then (zeroU, p.2.1) else
 let r := numR b p.2.2.1 p.2.2.2 1
 if r.2.2 = true then (zeroU, 1) else
 let l := numbersR b r.2.1 r.2.2 2 1024
 if ¬ l.2.1 = 0 then (zeroU, l.2.1) else
 let n := numR b l.2.2.1 l.2.2.2 2
 if n.1 > 16384 then (zeroU, 5) else
 let x := takeR b n.2.1 n.2.2 (wrap64 (5 * n.1))
 if x.2.2 = true then (zeroU, 1) else
 let c := decF x.1.length x.1 []
 if ¬ c.2.2 = 0 then (zeroU, c.2.2) else
 if (if x.2.2 = true then 0 else (b.length : Int) - x.2.1) > 0 then (zeroU, 4) else
 ((t.1, p.1, r.1, l.1, c.1.map conv), 0)
/-- A unit that was read: its cells, and its lists' rows (of the call's own). -/
def UOk (W : World) (base : Nat) (cs : Array Value) (X : UD) : Prop := ∃ AP cP AL cL AC cC, cs = #[.string X.1, .slice AP X.2.1.length cP, .int .i64 X.2.2.1, .slice AL X.2.2.2.1.length cL, .slice AC X.2.2.2.2.length cC] ∧ Kd.R (Kd.int .i64) 3 W base (fun _ => True) (.slice AP X.2.1.length cP) X.2.1 ∧ Kd.R (Kd.int .i64) 3 W base (fun _ => True) (.slice AL X.2.2.2.1.length cL) X.2.2.2.1 ∧ Kd.R PBx.k109 109 W base (fun _ => True) (.slice AC X.2.2.2.2.length cC) X.2.2.2.2
theorem zero_ok (W : World) (base : Nat) : UOk W base #[.string ⟨#[]⟩, .slice none 0 0, .int .i64 0, .slice none 0 0, .slice none 0 0] zeroU := ⟨none, 0, none, 0, none, 0, rfl, Kd.R_nil _ _ _ _ _, Kd.R_nil _ _ _ _ _, Kd.R_nil _ _ _ _ _⟩
theorem R_conv {W : World} {base : Nat} {v : Value} {l : List InS} (h : Kd.R inK 109 W base (fun _ => True) v l) : Kd.R PBx.k109 109 W base (fun _ => True) v (l.map conv) := by
 obtain ⟨h0, inner, ho, h1, h2⟩ := h
 refine ⟨h0, inner, by rw [List.length_map]; exact ho, by rw [List.length_map]; exact h1, fun j p hj => ?_⟩
 rw [List.getElem?_map] at hj
 cases hx : l[j]? with
 | none => rw [hx] at hj; cases hj
 | some x =>
  rw [hx] at hj
  obtain rfl := zJ hj
  exact h2 j x hx
theorem UOk.mk {W : World} {base : Nat} {n : ByteArray} {P : List Int} {R : Int} {L : List Int} {C : List InS} {AP AL AC : Option Addr} {cP cL cC : Nat} (hP : Kd.R (Kd.int .i64) 3 W base (fun _ => True) (.slice AP P.length cP) P) (hL : Kd.R (Kd.int .i64) 3 W base (fun _ => True) (.slice AL L.length cL) L) (hC : Kd.R inK 109 W base (fun _ => True) (.slice AC C.length cC) C) :
  UOk W base #[.string n, .slice AP P.length cP, .int .i64 R, .slice AL L.length cL, .slice AC C.length cC] (n, P, R, L, C.map conv) := by
 have h := R_conv hC
 exact ⟨AP, cP, AL, cL, AC, cC, by rw [List.length_map], hP, hL, by show Kd.R _ _ _ _ _ (.slice AC (C.map conv).length cC) _; rw [List.length_map]; exact h⟩
theorem keep_setRow (W : World) (g : Nat) (cs : Array Value) : KeepBut W (W.setRow g cs) g none := ⟨by simp [World.setRow], fun i hi hg _ => setRow_other W _ _ _ hg⟩
/-- What the call tells. -/
def GetPost (b : List Int) (w : World) (e : Ending) (w' : World) : Prop := ∃ cs : Array Value, e = .returned (.tuple #[.agg cs, .int .i64 (ugetR b).2]) ∧ UOk w' w.heap.size cs (ugetR b).1 ∧ Below w.heap.size w w'
theorem GetPost.zero {b : List Int} {w w' : World} {e : Ending} {v : Value} {c : Int} (hG : ugetR b = (zeroU, c)) (he : e = .returned (.tuple #[.agg #[.string ⟨#[]⟩, .slice none 0 0, .int .i64 0, .slice none 0 0, .slice none 0 0], .int .i64 c])) (hB : Below w.heap.size w w') : GetPost b w e w' := ⟨_, by rw [he, hG], by rw [hG]; exact zero_ok _ _, hB⟩
set_option maxHeartbeats 8000000 in
set_option maxRecDepth 100000 in
theorem get_calls (A0 : Option Addr) (c0 : Nat) (b : List Int) (w : World) (hr0 : Kd.C (Kd.int .u8) w A0 b.length b) (hc0 : b.length ≤ c0) (hl : b.length ≤ 1000000) (hb : okB b = true) (hL : LaidOps w) :
  Calls Tryd.prog 97 #[.slice A0 b.length c0] w fun e w' => GetPost b w e w' := by
 have hi : (Tryd.prog.info? 48).map (·.size) = some 5 := by kernel_rfl
 obtain ⟨G, hG⟩ : ∃ G, ugetR b = G := ⟨_, rfl⟩
 have hG0 := hG
 unfold ugetR at hG
 dsimp only at hG
 have hT := fun g w0 w hI hB => text_calls g w0 w b 0 false hI hB hb
 generalize textR b 0 false = t at hG hT
 have hP := fun g w0 w hI hB => numbers_calls g w0 w b t.2.1 t.2.2 1 8 hI hB hb
 generalize numbersR b t.2.1 t.2.2 1 8 = p at hG hP
 have hR := fun g w0 w hI hB => num_calls g w0 w b p.2.2.1 p.2.2.2 1 hI hB hb
 generalize numR b p.2.2.1 p.2.2.2 1 = r at hG hR
 have hM := fun g w0 w hI hB => numbers_calls g w0 w b r.2.1 r.2.2 2 1024 hI hB hb
 generalize numbersR b r.2.1 r.2.2 2 1024 = l at hG hM
 have hN := fun g w0 w hI hB => num_calls g w0 w b l.2.2.1 l.2.2.2 2 hI hB hb
 generalize numR b l.2.2.1 l.2.2.2 2 = n at hG hN
 have hX := fun g w0 w hI hB => take_calls g w0 w b n.2.1 n.2.2 (wrap64 (5 * n.1)) hI hB hb
 have hxl := take_len (b := b) (at_ := n.2.1) (bad := n.2.2) (n := wrap64 (5 * n.1))
 have hxm := take_mem (b := b) (at_ := n.2.1) (bad := n.2.2) (n := wrap64 (5 * n.1))
 generalize takeR b n.2.1 n.2.2 (wrap64 (5 * n.1)) = x at hG hX hxl hxm
 have hxb : okB x.1 = true := by
  have h2 := okB_all hb
  unfold okB
  simp only [Bool.and_eq_true, List.all_eq_true, decide_eq_true_eq]
  exact ⟨fun y hy => h2.1 y (hxm y hy), by omega⟩
 have hD := fun A c w hC hc hL => decode_calls A c x.1 _ w hC hc (Nat.le_trans hxl hl) hxb rfl hL
 generalize decF x.1.length x.1 [] = c at hG hD
 have HT := zA hT
 have HP := zA hP
 have HR := zA hR
 have HM := zA hM
 have HN := zA hN
 have HX := zA hX
 have HD := zA hD
 have HL := zA hL
 have hG := zA hG
 have hG0 := zA hG0
 clear hT hP hR hM hN hX hD hxl hxm hxb
 have hW0 := (zX w.heap.size w).alloc (z5 _) (.cells #[.string ⟨#[]⟩, .slice none 0 0, .int .i64 0, .slice none 0 0, .slice none 0 0] 48)
 have hNw := zA (new_calls A0 c0 b (w.alloc (.cells #[.string ⟨#[]⟩, .slice none 0 0, .int .i64 0, .slice none 0 0, .slice none 0 0] 48)) (zD hr0 hW0) hc0 (by omega))
 have hz0 := heap_alloc_new w (.cells #[.string ⟨#[]⟩, .slice none 0 0, .int .i64 0, .slice none 0 0, .slice none 0 0] 48)
 have hW0 := zA hW0
 clear hr0 hl hb hL
 go_enter Tryd.func97, Tryd.ntmps97
 go_wp2_with fail
 refine hNw.out.mono ?_
 rintro e w8 ⟨w7, g, rfl, hI8, hb7, hb8⟩
 have HW := zA (show ∀ W, Below w7.heap.size w7 W → Below w.heap.size w W from fun W h => (hW0.out.trans (hb7.mono hW0.out.size)).trans (h.mono (Nat.le_trans hW0.out.size hb7.size)))
 have HSZ : w.heap.size ≤ w7.heap.size := by have := hb7.size; simp at this; omega
 have HZ := zA (show ∀ W, Below w7.heap.size w7 W → W.heap[w.heap.size]? = some (.cells #[.string ⟨#[]⟩, .slice none 0 0, .int .i64 0, .slice none 0 0, .slice none 0 0] 48 (0, 0)) from fun W h => (h.block w.heap.size (by have := hb7.size; simp at this; omega)).trans ((hb7.block w.heap.size (by simp)).trans hz0))
 clear hNw hW0 hz0 hb7
 go_wp2_with fail
 refine (HT.out g w7 _ hI8 hb8).mono ?_
 rintro e w9 ⟨rfl, hI9, hb9, _⟩
 clear HT hI8 hb8
 have hI := hI9.alloc (.cells #[.string t.1, .slice none 0 0, .int .i64 0, .slice none 0 0, .slice none 0 0] 48)
 have hB := hb9.alloc hb9.size (.cells #[.string t.1, .slice none 0 0, .int .i64 0, .slice none 0 0, .slice none 0 0] 48)
 have hx := heap_alloc_new w9 (.cells #[.string t.1, .slice none 0 0, .int .i64 0, .slice none 0 0, .slice none 0 0] 48)
 have hgb : g ≠ w9.heap.size := by have := hI9.lt; omega
 have hgb7 : w7.heap.size ≤ w9.heap.size := hb9.size
 clear hI9 hb9
 go_wp2_with fail
 refine (bad_calls g w7 _ b t.2.1 t.2.2 hI).mono ?_
 rintro e wd ⟨rfl, m, rfl⟩
 replace hI := hI.drewN m
 replace hB := zN hB m
 by_cases h1 : t.2.2 = true
 ·have hg := hG.out
  rw [if_pos h1] at hg
  have HG := zA (hG0.out.trans hg.symm)
  clear hg hG hG0
  rw [h1]
  clear h1
  have hz := HZ.out _ hB
  have hB := HW.out _ hB
  go_wp2_with ((with_reducible refine gate_store (t := 48) (p := 2) (v := .tmp 16) rfl ?_); refine wpList_store_row rfl 48 (.tmp 2) (.tmp 16) rfl w.heap.size #[.string ⟨#[]⟩, .slice none 0 0, .int .i64 0, .slice none 0 0, .slice none 0 0] rfl rfl 48 _ hz (by rw [hi]; rfl) rfl (by kernel_rfl) ?_)
  refine bodyPost_ret (results_ct rfl _ _ w.heap.size 48 #[.string ⟨#[]⟩, .slice none 0 0, .int .i64 0, .slice none 0 0, .slice none 0 0] (0, 0) _ rfl (setRow_heap _ _ _ _ _ _ hz) Tryd.underlying48 rfl hi) rfl ?_
  exact GetPost.zero (v := .bool true) HG.out rfl (below_setRow hB (z5 _) _)
 ·have hg := hG.out
  rw [if_neg h1] at hg
  replace hG := zA hg
  clear hg
  replace h1 : t.2.2 = false := by simpa using h1
  rw [h1]
  clear h1
  go_wp2_with fail
  refine (HP.out g w7 _ hI hB).mono ?_
  rintro e wn ⟨v0, rfl, ho, hI', hB', hk⟩
  obtain ⟨AP, cP, rfl, hlP, _⟩ := Kd.R_reads ho
  have hsz := hB.size
  clear hI hB HP
  have hI := hI'
  have hB := hB'
  clear hI' hB'
  replace hx := hk.blk hx hgb.symm (by simp)
  clear hk
  have RwP := zA (Kd.R_lower (Kd.R_mono (Kd.R_types (hI.apart ho (by decide)) hx (by decide)) (fun k h => (⟨h.1.2, h.2⟩ : k ≠ g ∧ k ≠ w9.heap.size))) hsz)
  clear ho hsz
  have fz := zF hx 1
  have fc := (zC hx 1).trans rfl
  replace hI := hI.far (p := ⟨w9.heap.size, 1, none⟩) hgb (.slice AP p.1.length cP)
  replace hB := zE (j := 1) (v := .slice AP p.1.length cP) hB hgb7
  replace hx := blk_put (cs' := #[.string t.1, .slice AP p.1.length cP, .int .i64 0, .slice none 0 0, .slice none 0 0]) hx 1 (.slice AP p.1.length cP) rfl
  replace RwP := zA (Kd.R_far (p := ⟨w9.heap.size, 1, none⟩) RwP.out (fun k h => h.2) (.slice AP p.1.length cP))
  by_cases h1 : ¬ p.2.1 = 0
  ·have hg := hG.out
   rw [if_pos h1] at hg
   have HG := zA (hG0.out.trans hg.symm)
   clear hg hG hG0
   have hz := HZ.out _ hB
   have hB := HW.out _ hB
   go_wp2_with ((with_reducible refine gate_store (t := 48) (p := 2) (v := .tmp 25) rfl ?_); refine wpList_store_row rfl 48 (.tmp 2) (.tmp 25) rfl w.heap.size #[.string ⟨#[]⟩, .slice none 0 0, .int .i64 0, .slice none 0 0, .slice none 0 0] rfl rfl 48 _ hz (by rw [hi]; rfl) rfl (by kernel_rfl) ?_)
   refine bodyPost_ret (results_ct rfl _ _ w.heap.size 48 #[.string ⟨#[]⟩, .slice none 0 0, .int .i64 0, .slice none 0 0, .slice none 0 0] (0, 0) _ rfl (setRow_heap _ _ _ _ _ _ hz) Tryd.underlying48 rfl hi) rfl ?_
   exact GetPost.zero (v := .bool true) HG.out rfl (below_setRow hB (z5 _) _)
  ·have hg := hG.out
   rw [if_neg h1] at hg
   replace hG := zA hg
   clear hg
   have h1 := h1
   replace h1 : p.2.1 = 0 := by simpa using h1
   rw [h1]
   clear h1
   go_wp2_with fail
   refine (HR.out g w7 _ hI hB).mono ?_
   clear fz fc
   rintro e wn ⟨rfl, hI', hB', hk⟩
   clear hI hB
   have hI := hI'
   have hB := hB'
   clear hI' hB'
   replace hx := hk.blk hx hgb.symm (by simp)
   replace RwP := zA (Kd.R_keep RwP.out hk (fun k h => h.1))
   clear hk
   have fz := zF hx 2
   have fc := (zC hx 2).trans rfl
   replace hI := hI.far (p := ⟨w9.heap.size, 2, none⟩) hgb (.int .i64 r.1)
   replace hB := zE (j := 2) (v := .int .i64 r.1) hB hgb7
   replace hx := blk_put (cs' := #[.string t.1, .slice AP p.1.length cP, .int .i64 r.1, .slice none 0 0, .slice none 0 0]) hx 2 (.int .i64 r.1) rfl
   replace RwP := zA (Kd.R_far (p := ⟨w9.heap.size, 2, none⟩) RwP.out (fun k h => h.2) (.int .i64 r.1))
   go_wp2_with fail
   refine (bad_calls g w7 _ b r.2.1 r.2.2 hI).mono ?_
   rintro e wd ⟨rfl, m, rfl⟩
   replace hI := hI.drewN m
   replace hB := zN hB m
   by_cases h1 : r.2.2 = true
   ·have hg := hG.out
    rw [if_pos h1] at hg
    have HG := zA (hG0.out.trans hg.symm)
    clear hg hG hG0
    rw [h1]
    clear h1
    have hz := HZ.out _ hB
    have hB := HW.out _ hB
    go_wp2_with ((with_reducible refine gate_store (t := 48) (p := 2) (v := .tmp 32) rfl ?_); refine wpList_store_row rfl 48 (.tmp 2) (.tmp 32) rfl w.heap.size #[.string ⟨#[]⟩, .slice none 0 0, .int .i64 0, .slice none 0 0, .slice none 0 0] rfl rfl 48 _ hz (by rw [hi]; rfl) rfl (by kernel_rfl) ?_)
    refine bodyPost_ret (results_ct rfl _ _ w.heap.size 48 #[.string ⟨#[]⟩, .slice none 0 0, .int .i64 0, .slice none 0 0, .slice none 0 0] (0, 0) _ rfl (setRow_heap _ _ _ _ _ _ hz) Tryd.underlying48 rfl hi) rfl ?_
    exact GetPost.zero (v := .bool true) HG.out rfl (below_setRow hB (z5 _) _)
   ·have hg := hG.out
    rw [if_neg h1] at hg
    replace hG := zA hg
    clear hg
    replace h1 : r.2.2 = false := by simpa using h1
    rw [h1]
    clear h1
    clear fz fc
    go_wp2_with fail
    refine (HM.out g w7 _ hI hB).mono ?_
    rintro e wn ⟨v0, rfl, ho, hI', hB', hk⟩
    obtain ⟨AL, cL, rfl, hlL, _⟩ := Kd.R_reads ho
    have hsz := hB.size
    clear hI hB HM
    have hI := hI'
    have hB := hB'
    clear hI' hB'
    replace hx := hk.blk hx hgb.symm (by simp)
    replace RwP := zA (Kd.R_keep RwP.out hk (fun k h => h.1))
    clear hk
    have RwL := zA (Kd.R_lower (Kd.R_mono (Kd.R_types (hI.apart ho (by decide)) hx (by decide)) (fun k h => (⟨h.1.2, h.2⟩ : k ≠ g ∧ k ≠ w9.heap.size))) hsz)
    clear ho hsz
    have fz := zF hx 3
    have fc := (zC hx 3).trans rfl
    replace hI := hI.far (p := ⟨w9.heap.size, 3, none⟩) hgb (.slice AL l.1.length cL)
    replace hB := zE (j := 3) (v := .slice AL l.1.length cL) hB hgb7
    replace hx := blk_put (cs' := #[.string t.1, .slice AP p.1.length cP, .int .i64 r.1, .slice AL l.1.length cL, .slice none 0 0]) hx 3 (.slice AL l.1.length cL) rfl
    replace RwP := zA (Kd.R_far (p := ⟨w9.heap.size, 3, none⟩) RwP.out (fun k h => h.2) (.slice AL l.1.length cL))
    replace RwL := zA (Kd.R_far (p := ⟨w9.heap.size, 3, none⟩) RwL.out (fun k h => h.2) (.slice AL l.1.length cL))
    by_cases h1 : ¬ l.2.1 = 0
    ·have hg := hG.out
     rw [if_pos h1] at hg
     have HG := zA (hG0.out.trans hg.symm)
     clear hg hG hG0
     have hz := HZ.out _ hB
     have hB := HW.out _ hB
     go_wp2_with ((with_reducible refine gate_store (t := 48) (p := 2) (v := .tmp 41) rfl ?_); refine wpList_store_row rfl 48 (.tmp 2) (.tmp 41) rfl w.heap.size #[.string ⟨#[]⟩, .slice none 0 0, .int .i64 0, .slice none 0 0, .slice none 0 0] rfl rfl 48 _ hz (by rw [hi]; rfl) rfl (by kernel_rfl) ?_)
     refine bodyPost_ret (results_ct rfl _ _ w.heap.size 48 #[.string ⟨#[]⟩, .slice none 0 0, .int .i64 0, .slice none 0 0, .slice none 0 0] (0, 0) _ rfl (setRow_heap _ _ _ _ _ _ hz) Tryd.underlying48 rfl hi) rfl ?_
     exact GetPost.zero (v := .bool true) HG.out rfl (below_setRow hB (z5 _) _)
    ·have hg := hG.out
     rw [if_neg h1] at hg
     replace hG := zA hg
     clear hg
     have h1 := h1
     replace h1 : l.2.1 = 0 := by simpa using h1
     rw [h1]
     clear h1
     go_wp2_with fail
     refine (HN.out g w7 _ hI hB).mono ?_
     clear fz fc
     rintro e wn ⟨rfl, hI', hB', hk⟩
     clear hI hB
     have hI := hI'
     have hB := hB'
     clear hI' hB'
     replace hx := hk.blk hx hgb.symm (by simp)
     replace RwP := zA (Kd.R_keep RwP.out hk (fun k h => h.1))
     replace RwL := zA (Kd.R_keep RwL.out hk (fun k h => h.1))
     clear hk
     by_cases h1 : n.1 > 16384
     ·have hg := hG.out
      rw [if_pos h1] at hg
      have HG := zA (hG0.out.trans hg.symm)
      clear hg hG hG0
      have hz := HZ.out _ hB
      have hB := HW.out _ hB
      go_wp2_with ((with_reducible refine gate_store (t := 48) (p := 2) (v := .tmp 47) rfl ?_); refine wpList_store_row rfl 48 (.tmp 2) (.tmp 47) rfl w.heap.size #[.string ⟨#[]⟩, .slice none 0 0, .int .i64 0, .slice none 0 0, .slice none 0 0] rfl rfl 48 _ hz (by rw [hi]; rfl) rfl (by kernel_rfl) ?_)
      refine bodyPost_ret (results_ct rfl _ _ w.heap.size 48 #[.string ⟨#[]⟩, .slice none 0 0, .int .i64 0, .slice none 0 0, .slice none 0 0] (0, 0) _ rfl (setRow_heap _ _ _ _ _ _ hz) Tryd.underlying48 rfl hi) rfl ?_
      exact GetPost.zero (v := .bool true) HG.out rfl (below_setRow hB (z5 _) _)
     ·have hg := hG.out
      rw [if_neg h1] at hg
      replace hG := zA hg
      clear hg
      have h1 := h1
      go_wp2_with fail
      refine (HX.out g w7 _ hI hB).mono ?_
      rintro e wn ⟨v0, rfl, ho, hI', hB', hk⟩
      obtain ⟨Ax, cx, rfl, hlx, hCx⟩ := Kd.R_reads ho
      clear hI hB HX ho h1
      have hI := hI'
      have hB := hB'
      clear hI' hB'
      replace hx := hk.blk hx hgb.symm (by simp)
      replace RwP := zA (Kd.R_keep RwP.out hk (fun k h => h.1))
      replace RwL := zA (Kd.R_keep RwL.out hk (fun k h => h.1))
      clear hk
      replace hCx := zA hCx
      go_wp2_with fail
      refine (bad_calls g w7 _ b x.2.1 x.2.2 hI).mono ?_
      rintro e wd ⟨rfl, m, rfl⟩
      replace hI := hI.drewN m
      replace hB := zN hB m
      by_cases h1 : x.2.2 = true
      ·have hg := hG.out
       rw [if_pos h1] at hg
       have HG := zA (hG0.out.trans hg.symm)
       clear hg hG hG0
       rw [h1]
       clear h1
       have hz := HZ.out _ hB
       have hB := HW.out _ hB
       go_wp2_with ((with_reducible refine gate_store (t := 48) (p := 2) (v := .tmp 54) rfl ?_); refine wpList_store_row rfl 48 (.tmp 2) (.tmp 54) rfl w.heap.size #[.string ⟨#[]⟩, .slice none 0 0, .int .i64 0, .slice none 0 0, .slice none 0 0] rfl rfl 48 _ hz (by rw [hi]; rfl) rfl (by kernel_rfl) ?_)
       refine bodyPost_ret (results_ct rfl _ _ w.heap.size 48 #[.string ⟨#[]⟩, .slice none 0 0, .int .i64 0, .slice none 0 0, .slice none 0 0] (0, 0) _ rfl (setRow_heap _ _ _ _ _ _ hz) Tryd.underlying48 rfl hi) rfl ?_
       exact GetPost.zero (v := .bool true) HG.out rfl (below_setRow hB (z5 _) _)
      ·have hg := hG.out
       rw [if_neg h1] at hg
       replace hG := zA hg
       clear hg
       replace h1 : x.2.2 = false := by simpa using h1
       rw [h1]
       clear h1
       replace RwP := zA (Kd.R_below RwP.out (zN (zX _ _) m))
       replace RwL := zA (Kd.R_below RwL.out (zN (zX _ _) m))
       go_wp2_with fail
       refine (HD.out Ax cx _ (zD hCx.out (zN (zX _ _) m)) hlx (HL.out.below (HW.out _ hB))).mono ?_
       rintro e wc ⟨v0, rfl, ho, hb⟩
       obtain ⟨AC, cC, rfl, hlC, _⟩ := Kd.R_reads ho
       have hsz := hB.size
       replace hI := hI.below hb
       replace hB := below_then hB hB.size hb
       replace hx := (hb.block _ (blk_lt hx)).trans hx
       replace RwP := zA (Kd.R_below RwP.out hb)
       replace RwL := zA (Kd.R_below RwL.out hb)
       have RwC := zA (Kd.R_lower (Kd.R_mono (Kd.R_types (hI.apart ho (by decide)) hx (by decide)) (fun k h => (⟨h.1.2, h.2⟩ : k ≠ g ∧ k ≠ w9.heap.size))) hsz)
       clear ho hsz HD hCx hlx hb
       have fz := zF hx 4
       have fc := (zC hx 4).trans rfl
       replace hI := hI.far (p := ⟨w9.heap.size, 4, none⟩) hgb (.slice AC c.1.length cC)
       replace hB := zE (j := 4) (v := .slice AC c.1.length cC) hB hgb7
       replace hx := blk_put (cs' := #[.string t.1, .slice AP p.1.length cP, .int .i64 r.1, .slice AL l.1.length cL, .slice AC c.1.length cC]) hx 4 (.slice AC c.1.length cC) rfl
       replace RwP := zA (Kd.R_far (p := ⟨w9.heap.size, 4, none⟩) RwP.out (fun k h => h.2) (.slice AC c.1.length cC))
       replace RwL := zA (Kd.R_far (p := ⟨w9.heap.size, 4, none⟩) RwL.out (fun k h => h.2) (.slice AC c.1.length cC))
       replace RwC := zA (Kd.R_far (p := ⟨w9.heap.size, 4, none⟩) RwC.out (fun k h => h.2) (.slice AC c.1.length cC))
       by_cases h1 : ¬ c.2.2 = 0
       ·have hg := hG.out
        rw [if_pos h1] at hg
        have HG := zA (hG0.out.trans hg.symm)
        clear hg hG hG0
        have hz := HZ.out _ hB
        have hB := HW.out _ hB
        go_wp2_with ((with_reducible refine gate_store (t := 48) (p := 2) (v := .tmp 64) rfl ?_); refine wpList_store_row rfl 48 (.tmp 2) (.tmp 64) rfl w.heap.size #[.string ⟨#[]⟩, .slice none 0 0, .int .i64 0, .slice none 0 0, .slice none 0 0] rfl rfl 48 _ hz (by rw [hi]; rfl) rfl (by kernel_rfl) ?_)
        refine bodyPost_ret (results_ct rfl _ _ w.heap.size 48 #[.string ⟨#[]⟩, .slice none 0 0, .int .i64 0, .slice none 0 0, .slice none 0 0] (0, 0) _ rfl (setRow_heap _ _ _ _ _ _ hz) Tryd.underlying48 rfl hi) rfl ?_
        exact GetPost.zero (v := .bool true) HG.out rfl (below_setRow hB (z5 _) _)
       ·have hg := hG.out
        rw [if_neg h1] at hg
        replace hG := zA hg
        clear hg
        have h1 := h1
        replace h1 : c.2.2 = 0 := by simpa using h1
        rw [h1]
        clear h1
        go_wp2_with fail
        clear fz fc
        have hlf := left_calls g w7 _ b x.2.1 x.2.2 hI
        have hg := hG.out
        generalize (if x.2.2 = true then (0 : Int) else (b.length : Int) - x.2.1) = dd at hg hlf
        replace hG := zA hg
        clear hg
        refine hlf.mono ?_
        clear hlf
        rintro e wd ⟨rfl, m, rfl⟩
        replace hI := hI.drewN m
        replace hB := zN hB m
        by_cases h1 : dd > 0
        ·have hg := hG.out
         rw [if_pos h1] at hg
         have HG := zA (hG0.out.trans hg.symm)
         clear hg hG hG0
         have hz := HZ.out _ hB
         have hB := HW.out _ hB
         go_wp2_with ((with_reducible refine gate_store (t := 48) (p := 2) (v := .tmp 69) rfl ?_); refine wpList_store_row rfl 48 (.tmp 2) (.tmp 69) rfl w.heap.size #[.string ⟨#[]⟩, .slice none 0 0, .int .i64 0, .slice none 0 0, .slice none 0 0] rfl rfl 48 _ hz (by rw [hi]; rfl) rfl (by kernel_rfl) ?_)
         refine bodyPost_ret (results_ct rfl _ _ w.heap.size 48 #[.string ⟨#[]⟩, .slice none 0 0, .int .i64 0, .slice none 0 0, .slice none 0 0] (0, 0) _ rfl (setRow_heap _ _ _ _ _ _ hz) Tryd.underlying48 rfl hi) rfl ?_
         exact GetPost.zero (v := .bool true) HG.out rfl (below_setRow hB (z5 _) _)
        ·have hg := hG.out
         rw [if_neg h1] at hg
         replace hG := zA hg
         clear hg
         have h1 := h1
         have q0 := (zC hx 0).trans rfl
         have q1 := (zC hx 1).trans rfl
         have q2 := (zC hx 2).trans rfl
         have q3 := (zC hx 3).trans rfl
         have q4 := (zC hx 4).trans rfl
         have hz := HZ.out _ hB
         have hBw := HW.out _ hB
         go_wp2_with ((with_reducible refine gate_store (t := 48) (p := 2) (v := .tmp 70) rfl ?_); refine wpList_store_row rfl 48 (.tmp 2) (.tmp 70) rfl w.heap.size #[.string t.1, .slice AP p.1.length cP, .int .i64 r.1, .slice AL l.1.length cL, .slice AC c.1.length cC] rfl rfl 48 _ hz (by rw [hi]; rfl) rfl (by kernel_rfl) ?_)
         refine bodyPost_ret (results_ct rfl _ _ w.heap.size 48 #[.string t.1, .slice AP p.1.length cP, .int .i64 r.1, .slice AL l.1.length cL, .slice AC c.1.length cC] (0, 0) _ rfl (setRow_heap _ _ _ _ _ _ hz) Tryd.underlying48 rfl hi) rfl ?_
         have HG := hG0.out.trans hG.out.symm
         have rP := Kd.R_mono (Kd.R_lower (Kd.R_keep (Kd.R_types RwP.out (show (World.drewN _ m).heap[w.heap.size]? = _ from hz) (by decide)) (keep_setRow _ w.heap.size #[.string t.1, .slice AP p.1.length cP, .int .i64 r.1, .slice AL l.1.length cL, .slice AC c.1.length cC]) (fun k h => h.2)) HSZ) (fun _ _ => trivial)
         have rL := Kd.R_mono (Kd.R_lower (Kd.R_keep (Kd.R_types RwL.out (show (World.drewN _ m).heap[w.heap.size]? = _ from hz) (by decide)) (keep_setRow _ w.heap.size #[.string t.1, .slice AP p.1.length cP, .int .i64 r.1, .slice AL l.1.length cL, .slice AC c.1.length cC]) (fun k h => h.2)) HSZ) (fun _ _ => trivial)
         have rC := Kd.R_mono (Kd.R_lower (Kd.R_keep (Kd.R_types RwC.out (show (World.drewN _ m).heap[w.heap.size]? = _ from hz) (by decide)) (keep_setRow _ w.heap.size #[.string t.1, .slice AP p.1.length cP, .int .i64 r.1, .slice AL l.1.length cL, .slice AC c.1.length cC]) (fun k h => h.2)) HSZ) (fun _ _ => trivial)
         have e1 := congrArg Prod.fst HG
         have e2 := congrArg Prod.snd HG
         dsimp only at e1 e2
         refine ⟨#[.string t.1, .slice AP p.1.length cP, .int .i64 r.1, .slice AL l.1.length cL, .slice AC c.1.length cC], by rw [e2]; rfl, ?_, below_setRow hBw (z5 _) _⟩
         rw [e1]
         exact UOk.mk rP rL rC
end Go.Proofs.YtdbfgfgbjheibaaDoor.Given
end

section
/- The container's sections as the program reads them: a run of bytes, a section; what is thrown. -/
namespace Go.Proofs.YtdbfgfgbjheibaaDoor.Given
open Go Go.RowKit Go.Proofs.YtdbfgfgbjheibaaDoor Go.Proofs.YtdbfgfgbjheibaaDoorW.PrintWords Go.Proofs.YtdbfgfgbjheibaaDoorW.PrintLast Go.Proofs.YtdbfgfgbjheibaaDoorW.PrintMore
set_option linter.unusedVariables false
set_option linter.unusedSimpArgs false
/-- Bytes behind how many they are. -/
def runF (b : List Int) (at_ : Int) (bad : Bool) : List Int × Int × Bool := takeR b (numR b at_ bad 4).2.1 (numR b at_ bad 4).2.2 (numR b at_ bad 4).1
theorem runF_mem {b : List Int} {at_ : Int} {bad : Bool} : ∀ x ∈ (runF b at_ bad).1, x ∈ b := take_mem
theorem runF_len {b : List Int} {at_ : Int} {bad : Bool} : (runF b at_ bad).1.length ≤ b.length := take_len
/-- The bytes of the section k: a code, these, where the reader is. -/
def takeS (b : List Int) (at_ : Int) (k : Int) : Int × List Int × Int :=
 if (b.length : Int) - at_ < 5 then (1, [], 0) else
 if ¬ (numR b at_ false 1).1 = k then (4, [], 0) else
 if (runF b (numR b at_ false 1).2.1 (numR b at_ false 1).2.2).2.2 = true then (1, [], 0) else
 (0, (runF b (numR b at_ false 1).2.1 (numR b at_ false 1).2.2).1, (runF b (numR b at_ false 1).2.1 (numR b at_ false 1).2.2).2.1)
theorem RI.drewN {W : World} {g : Nat} {b : List Int} {at_ : Int} {bad : Bool} (h : RI W g b at_ bad) (m : Nat) : RI (W.drewN m) g b at_ bad := h.below (zN (zX _ _) m)
theorem keep_drewN {W w : World} {g : Nat} (h : KeepBut W w g none) (m : Nat) : KeepBut W (w.drewN m) g none := h
set_option maxHeartbeats 2000000 in
theorem run_ok (g : Nat) (W : World) (b : List Int) (at_ : Int) (bad : Bool) (h : RI W g b at_ bad) (hb : okB b = true) (hx : (runF b at_ bad).2.2 = false) :
  Calls Tryd.prog 90 #[.pointer (some ⟨g, 0, none⟩)] W fun e w' => ∃ A c, e = .returned (.slice A (runF b at_ bad).1.length c) ∧ Kd.C (Kd.int .u8) w' A (runF b at_ bad).1.length (runF b at_ bad).1 ∧ (runF b at_ bad).1.length ≤ c ∧ RI w' g b (runF b at_ bad).2.1 (runF b at_ bad).2.2 ∧ KeepBut W w' g none ∧ Below g W w' := by
 have P1 := num_i g W b at_ bad 4 h hb
 unfold runF at hx ⊢
 generalize numR b at_ bad 4 = n at hx P1 ⊢
 have P2 := zA (fun W (h : RI W g b n.2.1 n.2.2) => take_i g W b n.2.1 n.2.2 n.1 h hb)
 generalize takeR b n.2.1 n.2.2 n.1 = x at hx P2 ⊢
 have P3 := zA P1
 clear P1 h hb
 go_enter Tryd.func90, Tryd.ntmps90
 go_wp2_with fail
 refine P3.out.mono ?_
 rintro e w1 ⟨rfl, h1, hk1, hb1⟩
 have H1 := zA (And.intro h1 (And.intro hk1 hb1))
 clear h1 hk1 hb1 P3
 go_wp2_with fail
 refine (P2.out w1 H1.out.1).mono ?_
 rintro e w2 ⟨v, rfl, ho, h2, hk2, hb2⟩
 obtain ⟨A, c, rfl, hl, hC⟩ := Kd.R_reads ho
 have H2 := zA (And.intro h2 (And.intro (H1.out.2.1.trans hk2 (.inl rfl)) (H1.out.2.2.trans hb2)))
 have HC := zA hC
 have HLl := zA hl
 clear h2 hk2 hb2 ho hC hl P2 H1
 go_wp2_with fail
 refine (bad_i g w2 b _ _ H2.out.1).mono ?_
 rintro e w3 ⟨rfl, m, rfl⟩
 rw [hx]
 go_wp2_with fail
 go_ret
 exact ⟨A, c, rfl, HC.out, HLl.out, H2.out.1.drewN m, keep_drewN H2.out.2.1 m, zN H2.out.2.2 m⟩
set_option maxHeartbeats 2000000 in
theorem run_no (g : Nat) (W : World) (b : List Int) (at_ : Int) (bad : Bool) (h : RI W g b at_ bad) (hb : okB b = true) (hx : (runF b at_ bad).2.2 = true) :
  Calls Tryd.prog 90 #[.pointer (some ⟨g, 0, none⟩)] W fun e w' => e = .panicked [{ v := wrongV 1, recovered := false }] ∧ Below g W w' := by
 have P1 := num_i g W b at_ bad 4 h hb
 have PM := zA (fun W => must_bad 1 (by decide) W)
 unfold runF at hx
 generalize numR b at_ bad 4 = n at hx P1 ⊢
 have P2 := zA (fun W (h : RI W g b n.2.1 n.2.2) => take_i g W b n.2.1 n.2.2 n.1 h hb)
 generalize takeR b n.2.1 n.2.2 n.1 = x at hx P2 ⊢
 have P3 := zA P1
 clear P1 h hb
 go_enter Tryd.func90, Tryd.ntmps90
 go_wp2_with fail
 refine P3.out.mono ?_
 rintro e w1 ⟨rfl, h1, hk1, hb1⟩
 have H1 := zA (And.intro h1 hb1)
 clear h1 hk1 hb1 P3
 go_wp2_with fail
 refine (P2.out w1 H1.out.1).mono ?_
 rintro e w2 ⟨v, rfl, ho, h2, hk2, hb2⟩
 have H2 := zA (And.intro h2 (H1.out.2.trans hb2))
 clear h2 hk2 hb2 ho P2 H1
 go_wp2_with fail
 refine (bad_i g w2 b _ _ H2.out.1).mono ?_
 rintro e w3 ⟨rfl, m, rfl⟩
 rw [hx]
 go_wp2_with fail
 refine (PM.out _).mono ?_
 rintro e w4 ⟨rfl, rfl⟩
 exact ⟨rfl, rfl, zN H2.out.2 m⟩
set_option maxHeartbeats 2000000 in
theorem take_ok2 (g : Nat) (W : World) (b : List Int) (at_ k : Int) (h : RI W g b at_ false) (hb : okB b = true) (hx : (takeS b at_ k).1 = 0) :
  Calls Tryd.prog 62 #[.pointer (some ⟨g, 0, none⟩), .int .i64 k] W fun e w' => ∃ A c, e = .returned (.slice A (takeS b at_ k).2.1.length c) ∧ Kd.C (Kd.int .u8) w' A (takeS b at_ k).2.1.length (takeS b at_ k).2.1 ∧ (takeS b at_ k).2.1.length ≤ c ∧ RI w' g b (takeS b at_ k).2.2 false ∧ KeepBut W w' g none ∧ Below g W w' := by
 have P1 := left_i g W b at_ h
 have P2 := zA (fun W (h : RI W g b at_ false) => num_i g W b at_ false 1 h hb)
 have P3 := zA (fun W (h : RI W g b (numR b at_ false 1).2.1 (numR b at_ false 1).2.2) => run_ok g W b (numR b at_ false 1).2.1 (numR b at_ false 1).2.2 h hb)
 obtain ⟨T, hT⟩ : ∃ T, takeS b at_ k = T := ⟨_, rfl⟩
 rw [hT] at hx ⊢
 unfold takeS at hT
 by_cases c1 : (b.length : Int) - at_ < 5
 ·rw [if_pos c1] at hT; subst hT; cases hx
 rw [if_neg c1] at hT
 generalize numR b at_ false 1 = n at P2 P3 hT
 by_cases c2 : ¬ n.1 = k
 ·rw [if_pos c2] at hT; subst hT; cases hx
 rw [if_neg c2] at hT
 generalize runF b n.2.1 n.2.2 = x at P3 hT
 by_cases c3 : x.2.2 = true
 ·rw [if_pos c3] at hT; subst hT; cases hx
 rw [if_neg c3] at hT
 have c3 : x.2.2 = false := by simpa using c3
 have hbne : (n.1 != k) = false := by simpa using c2
 have c2 : n.1 = k := by simpa using c2
 subst hT
 dsimp only
 have HH := zA h
 have P4 := zA P1
 clear P1 h hb hx
 go_enter Tryd.func62, Tryd.ntmps62
 go_wp2_with fail
 refine P4.out.mono ?_
 rintro e w1 ⟨rfl, m, rfl⟩
 have H1 := zA (And.intro (HH.out.drewN m) (And.intro (keep_drewN (KeepBut.refl W g none) m) (zN (zX g W) m)))
 clear HH P4
 generalize W.drewN m = w1 at H1 ⊢
 go_wp2_with fail
 refine (P2.out w1 H1.out.1).mono ?_
 rintro e w2 ⟨rfl, h2, hk2, hb2⟩
 have H2 := zA (And.intro h2 (And.intro (H1.out.2.1.trans hk2 (.inl rfl)) (H1.out.2.2.trans hb2)))
 clear h2 hk2 hb2 P2 H1
 go_wp2_with fail
 refine (P3.out w2 H2.out.1 c3).mono ?_
 rintro e w3 ⟨A, c, rfl, hC, hl, h3, hk3, hb3⟩
 rw [c3] at h3
 have HF := zA (And.intro hC (And.intro hl (And.intro h3 (And.intro (H2.out.2.1.trans hk3 (.inl rfl)) (H2.out.2.2.trans hb3)))))
 clear hC hl h3 hk3 hb3 P3 H2
 go_wp2_with fail
 go_ret
 exact ⟨A, c, rfl, HF.out.1, HF.out.2.1, HF.out.2.2.1, HF.out.2.2.2.1, HF.out.2.2.2.2⟩
set_option maxHeartbeats 2000000 in
theorem take_no (g : Nat) (W : World) (b : List Int) (at_ k : Int) (h : RI W g b at_ false) (hb : okB b = true) (hx : ¬ (takeS b at_ k).1 = 0) :
  Calls Tryd.prog 62 #[.pointer (some ⟨g, 0, none⟩), .int .i64 k] W fun e w' => e = .panicked [{ v := wrongV (takeS b at_ k).1, recovered := false }] ∧ Below g W w' := by
 have P1 := left_i g W b at_ h
 have P2 := zA (fun W (h : RI W g b at_ false) => num_i g W b at_ false 1 h hb)
 have P3 := zA (fun W (h : RI W g b (numR b at_ false 1).2.1 (numR b at_ false 1).2.2) => run_no g W b (numR b at_ false 1).2.1 (numR b at_ false 1).2.2 h hb)
 have M1 := zA (fun W => must_bad 1 (by decide) W)
 have M4 := zA (fun W => must_bad 4 (by decide) W)
 obtain ⟨T, hT⟩ : ∃ T, takeS b at_ k = T := ⟨_, rfl⟩
 rw [hT] at hx ⊢
 unfold takeS at hT
 have HH := zA h
 have P4 := zA P1
 clear P1 h hb
 by_cases c1 : (b.length : Int) - at_ < 5
 ·rw [if_pos c1] at hT; subst hT
  go_enter Tryd.func62, Tryd.ntmps62
  go_wp2_with fail
  refine P4.out.mono ?_
  rintro e w1 ⟨rfl, m, rfl⟩
  go_wp2_with fail
  refine (M1.out _).mono ?_
  rintro e w4 ⟨rfl, rfl⟩
  exact ⟨rfl, rfl, zN (zX g W) m⟩
 rw [if_neg c1] at hT
 generalize numR b at_ false 1 = n at P2 P3 hT
 by_cases c2 : ¬ n.1 = k
 ·rw [if_pos c2] at hT; subst hT
  have hbne : (n.1 != k) = true := by simpa using c2
  go_enter Tryd.func62, Tryd.ntmps62
  go_wp2_with fail
  refine P4.out.mono ?_
  rintro e w1 ⟨rfl, m, rfl⟩
  have H1 := zA (And.intro (HH.out.drewN m) (zN (zX g W) m))
  generalize W.drewN m = w1 at H1 ⊢
  go_wp2_with fail
  refine (P2.out w1 H1.out.1).mono ?_
  rintro e w2 ⟨rfl, h2, hk2, hb2⟩
  have H2 := zA (H1.out.2.trans hb2)
  clear h2 hk2 hb2 P2 H1
  go_wp2_with fail
  refine (M4.out _).mono ?_
  rintro e w4 ⟨rfl, rfl⟩
  exact ⟨rfl, rfl, H2.out⟩
 rw [if_neg c2] at hT
 generalize runF b n.2.1 n.2.2 = x at P3 hT
 by_cases c3 : x.2.2 = true
 rotate_left
 ·rw [if_neg c3] at hT; subst hT; exact absurd rfl hx
 rw [if_pos c3] at hT
 have hbne : (n.1 != k) = false := by simpa using c2
 have c2 : n.1 = k := by simpa using c2
 subst hT
 go_enter Tryd.func62, Tryd.ntmps62
 go_wp2_with fail
 refine P4.out.mono ?_
 rintro e w1 ⟨rfl, m, rfl⟩
 have H1 := zA (And.intro (HH.out.drewN m) (zN (zX g W) m))
 clear HH P4
 generalize W.drewN m = w1 at H1 ⊢
 go_wp2_with fail
 refine (P2.out w1 H1.out.1).mono ?_
 rintro e w2 ⟨rfl, h2, hk2, hb2⟩
 have H2 := zA (And.intro h2 (H1.out.2.trans hb2))
 clear h2 hk2 hb2 P2 H1
 go_wp2_with fail
 refine (P3.out w2 H2.out.1 c3).mono ?_
 rintro e w3 ⟨rfl, hb3⟩
 exact ⟨rfl, rfl, H2.out.2.trans hb3⟩
end Go.Proofs.YtdbfgfgbjheibaaDoor.Given
end

section
/- Printed by a program of this session (wip/pg.py, over the print of the kit): functions, their Lean twins, and the proofs that the calls come to them; each under the conditions that it names. -/
namespace Go.Proofs.YtdbfgfgbjheibaaDoor.PCod

open Go.RowKit Go.Proofs.YtdbfgfgbjheibaaDoorW.PrintWords Go.Proofs.YtdbfgfgbjheibaaDoorW.PrintLast Go.Proofs.YtdbfgfgbjheibaaDoorW.PrintMore
attribute [local go_sem] max2_int min2_int max_two min_two max_three min_three max_four min_four   -- for this text's walks alone
set_option linter.unusedVariables false
set_option linter.unusedSimpArgs false

/-! ### r12_Shape: function 111 -/
mutual
def r12_Shape.j0 : Nat → Int → Bool → Option (Int × Int)
 | 0, _, _ => none
 | k + 1, x0, x10 => if x10 = true then (some (0, 0)) else ((some (([10, 1, 2, 2, 3, 3, 2, 2] : List Int) : List Int)).bind fun y101 => (if x0 < 8 then (if x0 = 0 then (some (10, 10)) else (if 0 ≤ x0 then (if x0 < (y101.length : Int) then (some (rd y101 x0, 0)) else (none)) else (none))) else (if x0 < 26 then (some (4, 0)) else (if x0 = 26 then (some (4, 4)) else (if x0 < 30 then (r12_Shape.j1 k x0 true) else (r12_Shape.j1 k x0 (x0 == 34)))))))
def r12_Shape.j1 : Nat → Int → Bool → Option (Int × Int)
 | 0, _, _ => none
 | k + 1, x0, x29 => if x29 = true then (some (0, 0)) else (if x0 < 32 then (some (5, 10)) else (if x0 = 32 then (some (6, 10)) else (if x0 = 33 then (some (7, 0)) else (if x0 = 36 then (some (8, 0)) else (some (8, 9))))))
end
def r12_Shape.f (k : Nat) (a0 : Int) : Option (Int × Int) := if a0 < 0 then (r12_Shape.j0 k a0 true) else (r12_Shape.j0 k a0 (decide (a0 > 37)))
/-! ### r12_may: function 112 -/
def r12_may.f (a0 : Int) (a1 : Int) : Option (Bool) := if a0 = 0 then (some true) else (if a1 = 0 then (some false) else (if a0 > 0 then (some (decide (a0 < 65536))) else (some false)))
/-! ### r12_Right: function 98 -/
def r12_Right.f (k : Nat) (a0_0 : Int) (a0_1 : Int) (a0_2 : Int) : Option (Bool) := (r12_Shape.f k a0_0).bind fun bt106 => (if a0_0 ≥ 0 then (if a0_0 ≤ 37 then ((r12_may.f a0_1 bt106.1).bind fun t108 => (if t108 = true then ((r12_may.f a0_2 bt106.2).bind fun t109 => (some t109)) else (some false))) else (some false)) else (some false))
end Go.Proofs.YtdbfgfgbjheibaaDoor.PCod
end

section
/- Printed by a program of this session (wip/pg.py, over the print of the kit): functions, their Lean twins, and the proofs that the calls come to them; each under the conditions that it names. -/
namespace Go.Proofs.YtdbfgfgbjheibaaDoor.PCod

open Go.RowKit Go.Proofs.YtdbfgfgbjheibaaDoorW.PrintWords Go.Proofs.YtdbfgfgbjheibaaDoorW.PrintLast Go.Proofs.YtdbfgfgbjheibaaDoorW.PrintMore
attribute [local go_sem] max2_int min2_int max_two min_two max_three min_three max_four min_four   -- for this text's walks alone
set_option linter.unusedVariables false
set_option linter.unusedSimpArgs false

/-! ### r13_Decode: function 114 -/
end Go.Proofs.YtdbfgfgbjheibaaDoor.PCod
end

section
/- Instructions' bytes, plainly: the document's decoder tells what the program's does. -/
namespace Go.Proofs.YtdbfgfgbjheibaaDoor.Pure
open Go.RowKit Go.Proofs.YtdbfgfgbjheibaaDoor.PCod Go.Proofs.YtdbfgfgbjheibaaDoor.POp Go.Proofs.YtdbfgfgbjheibaaDoor.Given Go.Proofs.YtdbfgfgbjheibaaDoorW.PrintWords Go.Proofs.YtdbfgfgbjheibaaDoorW.PrintLast
set_option linter.unusedVariables false
set_option linter.unusedSimpArgs false
theorem w64 (x : Int) (h0 : -9223372036854775808 ≤ x) (h1 : x < 9223372036854775808) : wrap64 x = x := by unfold wrap64; omega
def mayF (n w : Int) : Bool := if w = 0 then n == 0 else decide (0 ≤ n) && decide (n ≤ 65535)
theorem may_is (n w : Int) : op_may.f n w = some (mayF n w) := by
 unfold op_may.f mayF
 by_cases h : w = 0
 ·rw [if_pos h, if_pos h]
 ·rw [if_neg h, if_neg h]
  by_cases h0 : 0 ≤ n
  ·rw [if_pos h0]; simp [h0]
  ·rw [if_neg h0]; simp [h0]
theorem is_is (x : Int) : op_Is.f x = some (isOp x) := by
 unfold op_Is.f isOp
 by_cases h0 : 0 ≤ x
 ·rw [if_pos h0]; simp [h0]
 ·rw [if_neg h0]; simp [h0]
theorem right_is (x y z : Int) : right3 x y z = (isOp x && mayF y (shapeA x) && mayF z (shapeB x)) := by
 have h : op_Right.f x y z = some (right3 x y z) := right_some x y z
 have h2 : op_Right.f x y z = some (isOp x && mayF y (shapeA x) && mayF z (shapeB x)) := by
  unfold op_Right.f op_Shape.f
  simp only [zP, is_is, may_is]
  cases isOp x <;> cases mayF y (shapeA x) <;> simp
 exact zJ (h.symm.trans h2)
theorem real_is (x : Int) : isReal x = (decide (48 ≤ x) && decide (x ≤ 55)) := by
 have h := real_some x
 unfold POp.op_Real.f at h
 by_cases h0 : x ≥ 48
 ·rw [if_pos h0] at h
  rw [← zJ h]; simp [h0]
 ·rw [if_neg h0] at h
  rw [← zJ h]; simp [h0]
theorem okB_of (l : List Int) (hz : l.length ≤ 1000000) (h : ∀ x ∈ l, 0 ≤ x ∧ x < 256) : okB l = true := by
 unfold okB
 simp only [Bool.and_eq_true, List.all_eq_true, decide_eq_true_eq]
 exact ⟨h, by omega⟩
theorem may_lim {n w : Int} (h : mayF n w = true) : 0 ≤ n ∧ n ≤ 65535 := by
 unfold mayF at h
 split at h
 ·have := eq_of_beq h; omega
 ·simpa using h
theorem right_lim {x y z : Int} (h : right3 x y z = true) : (0 ≤ x ∧ x < 38) ∧ (0 ≤ y ∧ y ≤ 65535) ∧ (0 ≤ z ∧ z ≤ 65535) := by
 rw [right_is] at h
 simp only [Bool.and_eq_true] at h
 have h0 := h.1.1
 unfold isOp at h0
 exact ⟨by simpa using h0, may_lim h.1.2, may_lim h.2⟩
theorem err_right {x y z : Int} (h : right3 x y z = true) : errI x y z = 0 := by
 have := right_lim h
 unfold errI
 rw [real_is, decide_eq_false (by omega : ¬ 48 ≤ x), h]
 rfl
theorem right_err {x y z : Int} (h : errI x y z = 0) : right3 x y z = true := by
 unfold errI at h
 split at h
 ·omega
 ·split at h
  ·assumption
  ·omega
end Go.Proofs.YtdbfgfgbjheibaaDoor.Pure
end

section
/- The units of a container as the program reads them; bytes of at most 1000000, the operations' table as the program lays it. -/
namespace Go.Proofs.YtdbfgfgbjheibaaDoor.Given
open Go Go.RowKit Go.Proofs.YtdbfgfgbjheibaaDoor Go.Proofs.YtdbfgfgbjheibaaDoorW.PrintWords Go.Proofs.YtdbfgfgbjheibaaDoorW.PrintLast Go.Proofs.YtdbfgfgbjheibaaDoorW.PrintMore
set_option linter.unusedVariables false
set_option linter.unusedSimpArgs false
abbrev SU := PBx.S48
def mkU (X : UD) : SU := ⟨X.1, X.2.1, X.2.2.1, X.2.2.2.1, X.2.2.2.2⟩
/-- The units, one by one: a code, these, where the reader is. -/
def unitsL (b : List Int) : Nat → Int → Bool → List SU → Int × List SU × Int × Bool
 | 0, at_, bad, out => (0, out, at_, bad)
 | n + 1, at_, bad, out =>
  if (runF b at_ bad).2.2 = true then (1, [], 0, false) else
  if ¬ (ugetR (runF b at_ bad).1).2 = 0 then ((ugetR (runF b at_ bad).1).2, [], 0, false) else
  unitsL b n (runF b at_ bad).2.1 false (out ++ [mkU (ugetR (runF b at_ bad).1).1])
def unitsR (b : List Int) : List SU × Int :=
 if (numR b 0 false 1).2.2 = true then ([], 1) else if (numR b 0 false 1).1 > 8 then ([], 5) else
 if ¬ (unitsL b (numR b 0 false 1).1.toNat (numR b 0 false 1).2.1 false []).1 = 0 then ([], (unitsL b (numR b 0 false 1).1.toNat (numR b 0 false 1).2.1 false []).1) else
 if (b.length : Int) - (unitsL b (numR b 0 false 1).1.toNat (numR b 0 false 1).2.1 false []).2.2.1 > 0 then ([], 4) else ((unitsL b (numR b 0 false 1).1.toNat (numR b 0 false 1).2.1 false []).2.1, 0)
theorem num1_range (b : List Int) (hb : okB b = true) : 0 ≤ (numR b 0 false 1).1 ∧ (numR b 0 false 1).1 < 256 := by
 unfold numR
 split
 ·have hm : mx 0 (mn 1 8) = 1 := by decide
  rw [hm]
  have hlen : (cutR b 0 1).length ≤ 1 := by unfold cutR; rw [zt]; exact Nat.le_trans (Nat.min_le_left _ _) (by decide)
  have h := leN_lim (cutR b 0 1) (fun x hx => (okB_all hb).1 x (List.mem_of_mem_drop (List.mem_of_mem_take hx)))
  have h2 : (2 : Int) ^ (8 * (cutR b 0 1).length) ≤ 256 := by
   have h3 : (cutR b 0 1).length = 0 ∨ (cutR b 0 1).length = 1 := by omega
   rcases h3 with h3 | h3 <;> rw [h3] <;> decide
  have e : wrap64 (leN (cutR b 0 1)) = leN (cutR b 0 1) := by unfold wrap64; omega
  dsimp only
  rw [e]
  omega
 ·exact ⟨Int.le_refl _, by decide⟩
/-- What the call tells. -/
def UPost (r : List SU × Int) (g : Nat) (W : World) (e : Ending) (w' : World) : Prop :=
 (r.2 = 0 ∧ (∃ v : Value, e = .returned v ∧ Kd.R PBx.k48 48 w' g (fun k => g < k) v r.1) ∧ Below g W w') ∨ (¬ r.2 = 0 ∧ e = .panicked [{ v := wrongV r.2, recovered := false }] ∧ Below g W w')
theorem laid_of {w0 W W2 : World} {g : Nat} (hL : LaidOps w0) (h : Below w0.heap.size w0 W) (h2 : Below g W W2) (hg : w0.heap.size ≤ g) : LaidOps W2 := hL.below (h.trans (h2.mono hg))
theorem unit_M {W : World} {base b2 : Nat} {cs : Array Value} {X : UD} (h : UOk W b2 cs X) (hb : base ≤ b2) : PBx.k48.M W base (fun k => b2 ≤ k) (mkU X) cs.toList := by
 obtain ⟨AP, cP, AL, cL, AC, cC, rfl, rP, rL, rC⟩ := h
 exact PBx.k48_mkM W base _ (mkU X) (Kd.R_lower (Kd.R_mono (Kd.R_bound rP) (fun k hk => hk.2.1)) hb) (Kd.R_lower (Kd.R_mono (Kd.R_bound rL) (fun k hk => hk.2.1)) hb) (Kd.R_lower (Kd.R_mono (Kd.R_bound rC) (fun k hk => hk.2.1)) hb)
set_option maxHeartbeats 4000000 in
set_option maxRecDepth 100000 in
theorem units_calls (w0 : World) (g : Nat) (W : World) (b : List Int) (h : RI W g b 0 false) (hb : okB b = true) (hl : b.length ≤ 1000000) (hL : LaidOps w0) (hB0 : Below w0.heap.size w0 W) (hg0 : w0.heap.size ≤ g) :
  Calls Tryd.prog 65 #[.pointer (some ⟨g, 0, none⟩)] W fun e w' => UPost (unitsR b) g W e w' := by
 have hi : (Tryd.prog.info? 48).map (·.size) = some 5 := by kernel_rfl
 have HO := zA hb
 have HLn := zA hl
 have HL := zA hL
 have HB0 := zA hB0
 have MB := zA (fun n (hn : ¬ n = 0) W => must_bad n hn W)
 have MO := zA (fun W => must_ok W)
 have HU := zA (fun W2 A c at_ bad (hC : Kd.C (Kd.int .u8) W2 A (runF b at_ bad).1.length (runF b at_ bad).1) hc (h2 : Below g W W2) => get_calls A c (runF b at_ bad).1 W2 hC hc (Nat.le_trans runF_len hl) (Pure.okB_of _ (Nat.le_trans runF_len hl) (fun x hx => (okB_all hb).1 x (runF_mem x hx))) (laid_of hL hB0 h2 hg0))
 have P1 := zA (num_i g W b 0 false 1 h hb)
 have hrg := num1_range b hb
 obtain ⟨r, hR⟩ : ∃ r, unitsR b = r := ⟨_, rfl⟩
 rw [hR]
 unfold unitsR at hR
 generalize numR b 0 false 1 = t at hR P1 hrg
 have HR := zA hR
 clear hb hR hL hB0 hl h
 go_enter Tryd.func65, Tryd.ntmps65
 go_wp2_with fail
 refine P1.out.mono ?_
 rintro e W3 ⟨rfl, h3, hk3, hb3⟩
 have H3 := zA (And.intro h3 hb3)
 clear h3 hk3 hb3 P1
 obtain ⟨n, at0, bad0⟩ := t
 simp only at hrg
 go_wp2_with fail
 refine (bad_i g W3 b _ _ H3.out.1).mono ?_
 rintro e W4 ⟨rfl, m4, rfl⟩
 cases bad0 with
 | true =>
  have hh := HR.out
  simp only [if_true] at hh
  subst hh
  go_wp2_with fail
  refine (MB.out 1 (by decide) _).mono ?_
  rintro e W5 ⟨rfl, rfl⟩
  exact ⟨rfl, .inr ⟨by decide, rfl, zN H3.out.2 m4⟩⟩
 | false =>
  have hh := HR.out
  simp only [Bool.false_eq_true, if_false] at hh
  by_cases hm : n > 8
  ·rw [if_pos hm] at hh
   subst hh
   go_wp2_with fail
   refine (MB.out 5 (by decide) _).mono ?_
   rintro e W5 ⟨rfl, rfl⟩
   exact ⟨rfl, .inr ⟨by decide, rfl, zN H3.out.2 m4⟩⟩
  ·rw [if_neg hm] at hh
   obtain ⟨u, hU⟩ : ∃ u, unitsL b n.toNat at0 false [] = u := ⟨_, rfl⟩
   rw [hU] at hh
   have HH := zA hh
   have HUL := zA hU
   have H4 := zA (And.intro (H3.out.1.drewN m4) (zN H3.out.2 m4))
   clear hh hU HR H3
   generalize W3.drewN m4 = W4 at H4 ⊢
   obtain ⟨N, rfl⟩ : ∃ N : Nat, n = (N : Int) := ⟨n.toNat, by omega⟩
   rw [Int.toNat_natCast] at HUL
   go_wp2_with fail
   go_loopw [4, 18] (fun ov iv wr => ∃ (j : Nat) (at_ : Int) (l : List SU), j ≤ N ∧ iv = .int .i64 (j : Int) ∧ Aside0 (l.length = j) ∧ Aside0 (Kd.R PBx.k48 48 wr g (fun k => g < k) ov l) ∧ Aside0 (RI wr g b at_ false ∧ Below g W wr) ∧ Aside0 (unitsL b (N - j) at_ false l = u)) (fun _ iv _ => N - (intOf iv).toNat)
   case atStart => exact ⟨0, _, [], Nat.zero_le _, rfl, ⟨rfl⟩, ⟨Kd.R_nil _ _ _ _ _⟩, H4, HUL⟩
   case round =>
    clear HUL H4
    obtain ⟨j, at_, l, hj, rfl, HLl, HV, HI, HUL⟩ := hrel
    obtain ⟨A2, c2, rfl, hl2, hC2⟩ := Kd.R_reads HV.out
    clear hC2 hl2
    by_cases hjn : j < N
    rotate_left
    ·have hu := HUL.out
     rw [show N - j = 0 by omega] at hu
     have HU2 := zA (show (0, l, at_, false) = u from hu)
     clear hu HUL
     have H5 := zA (left_i g wr b at_ HI.out.1)
     have hh := HH.out
     rw [← HU2.out] at hh
     dsimp only at hh
     rw [if_neg (by decide)] at hh
     by_cases hz : (b.length : Int) - at_ > 0
     ·rw [if_pos hz] at hh
      subst hh
      clear HH
      go_wp2_with fail
      refine H5.out.mono ?_
      rintro e W6 ⟨rfl, m6, rfl⟩
      go_wp2_with fail
      refine (MB.out 4 (by decide) _).mono ?_
      rintro e W7 ⟨rfl, rfl⟩
      exact ⟨rfl, .inr ⟨by decide, rfl, zN HI.out.2 m6⟩⟩
     ·rw [if_neg hz] at hh
      subst hh
      clear HH
      go_wp2_with fail
      refine H5.out.mono ?_
      rintro e W6 ⟨rfl, m6, rfl⟩
      go_wp2_with fail
      go_ret
      exact .inl ⟨rfl, ⟨_, rfl, zS HV.out m6⟩, zN HI.out.2 m6⟩
    ·have hu := HUL.out
     rw [show N - j = (N - (j + 1)) + 1 by omega] at hu
     unfold unitsL at hu
     have RO := zA (run_ok g wr b at_ false HI.out.1 HO.out)
     have RN := zA (run_no g wr b at_ false HI.out.1 HO.out)
     have HUX := zA (fun W2 A c => HU.out W2 A c at_ false)
     generalize runF b at_ false = x at hu RO RN HUX
     by_cases hx : x.2.2 = true
     ·rw [if_pos hx] at hu
      subst hu
      have hh := HH.out
      dsimp only at hh
      rw [if_pos (by decide)] at hh
      subst hh
      go_wp2_with fail
      refine (RN.out hx).mono ?_
      rintro e W5 ⟨rfl, hb5⟩
      exact ⟨rfl, .inr ⟨by decide, rfl, HI.out.2.trans hb5⟩⟩
     ·rw [if_neg hx] at hu
      have hx : x.2.2 = false := by simpa using hx
      have RX := zA (RO.out hx)
      clear RO RN HUL
      go_wp2_with fail
      refine RX.out.mono ?_
      rintro e W5 ⟨A, c, rfl, hC, hlc, h5, hk5, hb5⟩
      rw [hx] at h5
      have HI5 := zA (And.intro h5 (HI.out.2.trans hb5))
      have HV5 := zA (R_keep HV.out hk5)
      have HG5 := zA (HUX.out W5 A c hC hlc HI5.out.2)
      clear h5 hk5 hb5 HI HV RX hC hlc
      go_wp2_with fail
      refine HG5.out.mono ?_
      rintro e W6 ⟨cs, rfl, hcs, hb6⟩
      clear HG5 HUX
      unfold GetPost at *
      generalize ugetR x.1 = U at hu hcs
      have hm6 := unit_M hcs (show g ≤ W5.heap.size from Nat.le_of_lt HI5.out.1.ltS)
      obtain ⟨AP, cP, AL, cL, AC, cC, rfl, _⟩ := hcs
      have hz := heap_alloc_new W6 (.cells #[.string ⟨#[]⟩, .slice none 0 0, .int .i64 0, .slice none 0 0, .slice none 0 0] 48)
      have hg7 := setRow_heap _ _ _ #[.string U.1.1, .slice AP U.1.2.1.length cP, .int .i64 U.1.2.2.1, .slice AL U.1.2.2.2.1.length cL, .slice AC U.1.2.2.2.2.length cC] _ _ hz
      have hB7 := below_setRow ((zX W6.heap.size W6).alloc (z5 _) (.cells #[.string ⟨#[]⟩, .slice none 0 0, .int .i64 0, .slice none 0 0, .slice none 0 0] 48)) (z5 W6.heap.size) #[.string U.1.1, .slice AP U.1.2.1.length cP, .int .i64 U.1.2.2.1, .slice AL U.1.2.2.2.1.length cL, .slice AC U.1.2.2.2.2.length cC]
      have hb7 := hb6.trans (hB7.mono hb6.size)
      have HI7 := zA (And.intro (HI5.out.1.below hb7) (HI5.out.2.trans (hb7.mono (Nat.le_of_lt HI5.out.1.ltS))))
      have HV7 := zA (Kd.R_below HV5.out hb7)
      have HM7 := zA (Kd.M_below hm6 hB7)
      have HG7 := zA hg7
      have HZ := zA hz
      have HW5 := zA (And.intro (show ∀ k, (Value.slice A2 l.length c2).ownBlock = some k → k < W5.heap.size from Kd.R_lt HV5.out) HI5.out.1.ltS)
      clear hm6 hz hg7 hB7 hb7 hb6 HI5 HV5
      by_cases hu0 : U.2 = 0
      rotate_left
      ·rw [if_pos hu0] at hu
       subst hu
       have hh := HH.out
       dsimp only at hh
       rw [if_pos hu0] at hh
       subst hh
       go_wp2_with ((with_reducible refine gate_store (t := 48) (p := 5) (v := .tmp 24) rfl ?_); refine wpList_store_row rfl 48 (.tmp 5) (.tmp 24) rfl W6.heap.size #[.string U.1.1, .slice AP U.1.2.1.length cP, .int .i64 U.1.2.2.1, .slice AL U.1.2.2.2.1.length cL, .slice AC U.1.2.2.2.2.length cC] rfl rfl 48 _ HZ.out (by rw [hi]; rfl) rfl (by kernel_rfl) ?_)
       refine (MB.out U.2 hu0 _).mono ?_
       rintro e W8 ⟨rfl, rfl⟩
       exact ⟨rfl, .inr ⟨hu0, rfl, HI7.out.2⟩⟩
      ·rw [if_neg (by simp [hu0])] at hu
       have HU2 := zA hu
       clear hu
       rw [hu0]
       go_wp2_with ((with_reducible refine gate_store (t := 48) (p := 5) (v := .tmp 24) rfl ?_); refine wpList_store_row rfl 48 (.tmp 5) (.tmp 24) rfl W6.heap.size #[.string U.1.1, .slice AP U.1.2.1.length cP, .int .i64 U.1.2.2.1, .slice AL U.1.2.2.2.1.length cL, .slice AC U.1.2.2.2.2.length cC] rfl rfl 48 _ HZ.out (by rw [hi]; rfl) rfl (by kernel_rfl) ?_)
       refine (MO.out _).mono ?_
       rintro e W8 ⟨rfl, hW8⟩
       rw [← hW8] at HI7 HV7 HM7 HG7
       clear hW8 HZ
       go_wp2_with (first
        | ((with_reducible refine gate_dst (N := 29) rfl ?_); refine wpList_load_row rfl 48 (.tmp 5) rfl W6.heap.size rfl 48 _ (0, 0) _ HG7.out Tryd.underlying48 rfl (by rw [hi]; rfl) ?_)
        | ((with_reducible refine gate_builtin (b := .append) (xs := #[.tmp 28, .tmp 30]) rfl ?_); at_builtin; refine Kd.R_append PBx.k48 (w0 := W) g rfl (.tmp 28) (.tmp 30) 25 48 (.agg #[.string ⟨#[]⟩, .slice none 0 0, .int .i64 0, .slice none 0 0, .slice none 0 0]) 96 rfl Tryd.underlying25 (by kernel_rfl) rfl (by decide) (by omega) (.slice A2 l.length c2) l (mkU U.1) [.string U.1.1, .slice AP U.1.2.1.length cP, .int .i64 U.1.2.2.1, .slice AL U.1.2.2.2.1.length cL, .slice AC U.1.2.2.2.2.length cC] (fun k => g < k) (fun k => W5.heap.size ≤ k) rfl (by first | (go_simp; done) | (go_simp; rfl)) ?aP ?aK ?aF ?aO ?aB ?aS ?aL ?_; (case aP => exact HM7.out); (case aK => exact fun k hk => ⟨Nat.lt_of_lt_of_le HW5.out.2 hk, fun e => absurd (HW5.out.1 k e.symm) (by omega)⟩); (case aB => exact HI7.out.2); (case aF => exact fun k hk => Nat.lt_of_lt_of_le HI7.out.1.ltS hk); (case aO => exact HV7.out); (case aS => exact Nat.le_of_lt HI7.out.1.ltS); (case aL => have := HLl.out; omega); intro v7 W9 ho7 hb7 hg7 hat7; have HI9 := zA (And.intro (HI7.out.1.grown hg7 (fun k e => HV7.out.1 k e)) hb7); have HV9 := zA ho7; clear hg7 hat7 ho7 hb7))
       refine ⟨⟨j + 1, _, l ++ [mkU U.1], by omega, by push_cast; rfl, ⟨by rw [List.length_append, HLl.out]; rfl⟩, HV9, HI9, HU2⟩, ?_⟩
       rw [show intOf (.int .i64 ((j : Int) + 1)) = (j : Int) + 1 from rfl, show intOf (.int .i64 (j : Int)) = (j : Int) from rfl]
       omega
end Go.Proofs.YtdbfgfgbjheibaaDoor.Given
end

section
/- What bytes say as a container, plainly: a code, and a program's lists. -/
namespace Go.Proofs.YtdbfgfgbjheibaaDoor.Given
open Go Go.RowKit Go.Proofs.YtdbfgfgbjheibaaDoor Go.Proofs.YtdbfgfgbjheibaaDoorW.PrintWords Go.Proofs.YtdbfgfgbjheibaaDoorW.PrintLast Go.Proofs.YtdbfgfgbjheibaaDoorW.PrintMore
set_option linter.unusedVariables false
abbrev PD := List SC × List SV × List SB × List SU
def noP : PD := ([], [], [], [])
def readC4 (c : List Int) (C : List SC) (V : List SV) (B : List SB) (a : Int) : Int × PD :=
 if ¬ (takeS c a 4).1 = 0 then ((takeS c a 4).1, noP) else
 if ¬ (unitsR (takeS c a 4).2.1).2 = 0 then ((unitsR (takeS c a 4).2.1).2, noP) else
 if (c.length : Int) - (takeS c a 4).2.2 > 0 then (4, noP) else (0, (C, V, B, (unitsR (takeS c a 4).2.1).1))
def readC3 (c : List Int) (C : List SC) (V : List SV) (a : Int) : Int × PD :=
 if ¬ (takeS c a 3).1 = 0 then ((takeS c a 3).1, noP) else
 if ¬ (getR blkR 32 (takeS c a 3).2.1).2 = 0 then ((getR blkR 32 (takeS c a 3).2.1).2, noP) else
 readC4 c C V (getR blkR 32 (takeS c a 3).2.1).1 (takeS c a 3).2.2
def readC2 (c : List Int) (C : List SC) (a : Int) : Int × PD :=
 if ¬ (takeS c a 2).1 = 0 then ((takeS c a 2).1, noP) else
 if ¬ (getR varR 64 (takeS c a 2).2.1).2 = 0 then ((getR varR 64 (takeS c a 2).2.1).2, noP) else
 readC3 c C (getR varR 64 (takeS c a 2).2.1).1 (takeS c a 2).2.2
def readC1 (c : List Int) (a : Int) : Int × PD :=
 if ¬ (takeS c a 1).1 = 0 then ((takeS c a 1).1, noP) else
 if ¬ (getR conR 1024 (takeS c a 1).2.1).2 = 0 then ((getR conR 1024 (takeS c a 1).2.1).2, noP) else
 readC2 c (getR conR 1024 (takeS c a 1).2.1).1 (takeS c a 1).2.2
def magicB (l : List Int) : Bool := (strOfNums (l.take 4)).toList == ([76, 66, 75, 49] : List UInt8)
def bodyOf (l : List Int) : List Int := (l.take (l.length - 4)).drop 4
def readF (l : List Int) : Int × PD :=
 if l.length > 1048576 then (5, noP) else if l.length < 8 then (1, noP) else
 if magicB l = false then (2, noP) else
 if ¬ (numR (l.drop (l.length - 4)) 0 false 4).1 = 4294967295 - overF 4294967295 (l.take (l.length - 4)) then (3, noP) else readC1 (bodyOf l) 0
theorem takeS_mem {c : List Int} {a k : Int} : ∀ x ∈ (takeS c a k).2.1, x ∈ c := by
 intro x hx
 unfold takeS at hx
 split at hx
 ·cases hx
 ·split at hx
  ·cases hx
  ·split at hx
   ·cases hx
   ·exact runF_mem x hx
theorem takeS_len {c : List Int} {a k : Int} : (takeS c a k).2.1.length ≤ c.length := by
 unfold takeS
 split
 ·simp
 ·split
  ·simp
  ·split
   ·simp
   ·exact runF_len
theorem takeS_ok {c : List Int} {a k : Int} (hb : okB c = true) (hl : c.length ≤ 1000000) : okB (takeS c a k).2.1 = true := Pure.okB_of _ (Nat.le_trans takeS_len hl) (fun x hx => (okB_all hb).1 x (takeS_mem x hx))
theorem read4 {c : List Int} {C : List SC} {V : List SV} {B : List SB} {a : Int} {t : Int × List Int × Int} {u : List SU × Int} (ht : takeS c a 4 = t) (hu : unitsR t.2.1 = u) : readC4 c C V B a = if ¬ t.1 = 0 then (t.1, noP) else if ¬ u.2 = 0 then (u.2, noP) else if (c.length : Int) - t.2.2 > 0 then (4, noP) else (0, (C, V, B, u.1)) := by subst ht hu; rfl
theorem read3 {c : List Int} {C : List SC} {V : List SV} {a : Int} {t : Int × List Int × Int} {u : List SB × Int} (ht : takeS c a 3 = t) (hu : getR blkR 32 t.2.1 = u) : readC3 c C V a = if ¬ t.1 = 0 then (t.1, noP) else if ¬ u.2 = 0 then (u.2, noP) else readC4 c C V u.1 t.2.2 := by subst ht hu; rfl
theorem read2 {c : List Int} {C : List SC} {a : Int} {t : Int × List Int × Int} {u : List SV × Int} (ht : takeS c a 2 = t) (hu : getR varR 64 t.2.1 = u) : readC2 c C a = if ¬ t.1 = 0 then (t.1, noP) else if ¬ u.2 = 0 then (u.2, noP) else readC3 c C u.1 t.2.2 := by subst ht hu; rfl
theorem read1 {c : List Int} {a : Int} {t : Int × List Int × Int} {u : List SC × Int} (ht : takeS c a 1 = t) (hu : getR conR 1024 t.2.1 = u) : readC1 c a = if ¬ t.1 = 0 then (t.1, noP) else if ¬ u.2 = 0 then (u.2, noP) else readC2 c u.1 t.2.2 := by subst ht hu; rfl
end Go.Proofs.YtdbfgfgbjheibaaDoor.Given
end

section
/- The document's GetConsts, GetBlocks, GetVars; bytes of at most 1000000000. -/
namespace Go.Proofs.YtdbfgfgbjheibaaDoor.Given
open Go Go.RowKit Go.Proofs.YtdbfgfgbjheibaaDoorW.PrintWords Go.Proofs.YtdbfgfgbjheibaaDoorW.PrintLast Go.Proofs.YtdbfgfgbjheibaaDoorW.PrintMore
set_option linter.unusedVariables false
set_option linter.unusedSimpArgs false
theorem head_range (most : Int) (b : List Int) (hb : okB b = true) : 0 ≤ (headR most b).1 ∧ (headR most b).1 < 65536 := by
 have h := num2_range b hb
 unfold headR
 split
 ·exact ⟨Int.le_refl _, by decide⟩
 ·split
  ·exact ⟨Int.le_refl _, by decide⟩
  ·exact h
/-- Behind the reader, and no record's own block. -/
def okr (g x : Nat) (k : Nat) : Prop := g < k ∧ k ≠ x
theorem okr_new {g x k : Nat} (h : g < k) (h2 : x < k) : okr g x k := ⟨h, by omega⟩
theorem R_keep2 {α : Type} {d : Kd α} {e base : Nat} {W W' : World} {g x : Nat} {v : Value} {xs : List α} (h : d.R e W base (okr g x) v xs) (hk : KeepBut W W' g none) : d.R e W' base (okr g x) v xs :=
 Kd.R_step h (fun k ho hlt => hk.2 k hlt (by have := ho.1; omega) (by simp))
theorem R_set {α : Type} {d : Kd α} {e base : Nat} {W : World} {g x : Nat} {p : Addr} (hp : p.block = x) {v : Value} {xs : List α} (h : d.R e W base (okr g x) v xs) (u : Value) : d.R e (W.setCell p u) base (okr g x) v xs :=
 Kd.R_step h (fun k ho hlt => Below.heap_setCell _ _ _ _ (by rw [hp]; exact ho.2))
theorem R_okr {α : Type} {d : Kd α} {e base : Nat} {W : World} {g : Nat} {v : Value} {xs : List α} (hM : ∀ x cs, d.M W base (fun k => (fun k => g < k) k ∧ some k ≠ v.ownBlock) x cs → d.M W base (fun k => okr g W.heap.size k ∧ some k ≠ v.ownBlock) x cs) (h : d.R e W base (fun k => g < k) v xs) (o : Obj) : d.R e (W.alloc o) base (okr g W.heap.size) v xs :=
 zR ⟨fun k hk => ⟨h.1 k hk, Nat.ne_of_lt (Kd.R_lt h k hk)⟩, h.2.imp_ (fun x cs hp => hM x cs hp)⟩ o
theorem rows_w (A0 : Option Addr) (c0 : Nat) (b : List Int) (most : Int) (H : Int × Int) (hH : headR most b = H) (w : World) (hr0 : Kd.C (Kd.int .u8) w A0 b.length b) (hc0 : b.length ≤ c0) (hb : okB b = true) :
  Calls Tryd.prog 101 #[.slice A0 b.length c0, .int .i64 most] w fun e w' => ∃ g, e = .returned (.tuple #[.pointer (some ⟨g, 0, none⟩), .int .i64 H.1, .int .i64 H.2]) ∧ w.heap.size ≤ g ∧ RJ w' g b (numR b 0 false 2).2.1 (numR b 0 false 2).2.2 ∧ Below w.heap.size w w' := by
 have hJ : RJ (w.alloc (.cells #[.slice A0 b.length c0, .int .i64 0, .bool false] 71)) w.heap.size b 0 false :=
  ⟨A0, c0, heap_alloc_new _ _, zD hr0 ((zX _ _).alloc (z5 _) _), hc0, Int.le_refl _, Int.natCast_nonneg _, fun ad e hn => by subst e; exact C_lt hr0 hn⟩
 have HJ := zA hJ
 have HO := zA hb
 clear hJ hr0 hb
 unfold headR at hH
 obtain ⟨t, hT⟩ : ∃ t, numR b 0 false 2 = t := ⟨_, rfl⟩
 rw [hT] at hH ⊢
 have HT := zA hT
 have HH := zA hH
 clear hT hH
 go_enter Tryd.func101, Tryd.ntmps101
 go_wp2_with fail
 refine (rnum_j w.heap.size _ b 0 false 2 HJ.out HO.out).mono ?_
 rw [HT.out]
 rintro e W3 ⟨rfl, h3, hk3, hb3⟩
 obtain ⟨n, at0, bad0⟩ := t
 have hB3 : Below w.heap.size w W3 := ((zX _ _).alloc (z5 _) _).trans hb3
 have H3 := zA (And.intro h3 hB3)
 obtain ⟨a_, c_, hbk, _⟩ := h3
 have q2 : W3.cell? ⟨w.heap.size, 2, none⟩ = some (.bool bad0) := (zC hbk 2).trans rfl
 clear hbk hb3 hB3 hk3 HJ HT
 cases bad0 with
 | true =>
  have hh := HH.out
  simp only [if_true] at hh
  subst hh
  clear HH
  go_wp2_with fail
  refine bodyPost_ret (results_tmp3 rfl _ _ _) rfl ?_
  exact ⟨_, rfl, z5 _, H3.out.1, H3.out.2⟩
 | false =>
  have hh := HH.out
  simp only [Bool.false_eq_true, if_false] at hh
  clear HH
  by_cases hm : n > most
  ·rw [if_pos hm] at hh
   subst hh
   go_wp2_with fail
   refine bodyPost_ret (results_tmp3 rfl _ _ _) rfl ?_
   exact ⟨_, rfl, z5 _, H3.out.1, H3.out.2⟩
  ·rw [if_neg hm] at hh
   subst hh
   go_wp2_with fail
   refine bodyPost_ret (results_tmp3 rfl _ _ _) rfl ?_
   exact ⟨_, rfl, z5 _, H3.out.1, H3.out.2⟩
theorem end_w (g : Nat) (W : World) (b : List Int) (at_ : Int) (bad : Bool) (h : RJ W g b at_ bad) :
  Calls Tryd.prog 102 #[.pointer (some ⟨g, 0, none⟩)] W fun e w' => e = .returned (.int .i64 (endR b at_ bad)) ∧ w' = W := by
 obtain ⟨a, c, hb, _, _, h0, h1, _⟩ := h
 have q0 : W.cell? ⟨g, 0, none⟩ = some (.slice a (b.drop at_.toNat).length c) := (zC hb 0).trans rfl
 have q2 : W.cell? ⟨g, 2, none⟩ = some (.bool bad) := (zC hb 2).trans rfl
 have hl : (((b.drop at_.toNat).length : Nat) : Int) = b.length - at_ := by simp; omega
 unfold endR
 rw [← hl]
 generalize (b.drop at_.toNat).length = L at q0
 clear hl hb
 cases bad with
 | true =>
  go_enter Tryd.func102, Tryd.ntmps102
  go_wp2_with fail
  go_ret
  exact ⟨rfl, rfl⟩
 | false =>
  simp only [Bool.false_eq_true, if_false]
  by_cases hL : (L : Int) > 0
  ·rw [if_pos hL]
   go_enter Tryd.func102, Tryd.ntmps102
   go_wp2_with fail
   go_ret
   exact ⟨rfl, rfl⟩
  ·rw [if_neg hL]
   go_enter Tryd.func102, Tryd.ntmps102
   go_wp2_with fail
   go_ret
   exact ⟨rfl, rfl⟩
set_option maxHeartbeats 4000000 in
set_option maxRecDepth 100000 in
theorem rcon_get (A0 : Option Addr) (c0 : Nat) (b : List Int) (w : World) (hr0 : Kd.C (Kd.int .u8) w A0 b.length b) (hc0 : b.length ≤ c0) (hb : okB b = true) :
  Calls Tryd.prog 78 #[.slice A0 b.length c0] w fun e w' => ∃ v0_ : Value, e = .returned (.tuple #[v0_, .int .i64 (getR conR 1024 b).2]) ∧ Kd.R PBx.k68 68 w' w.heap.size (fun _ => True) v0_ (getR conR 1024 b).1 ∧ Below w.heap.size w w' := by
 have HO := zA hb
 obtain ⟨t, hT⟩ : ∃ t, numR b 0 false 2 = t := ⟨_, rfl⟩
 have hrg := head_range 1024 b hb
 obtain ⟨H, hH⟩ : ∃ H, headR 1024 b = H := ⟨_, rfl⟩
 rw [hH] at hrg
 obtain ⟨r, hR⟩ : ∃ r, getR conR 1024 b = r := ⟨_, rfl⟩
 rw [hR]
 unfold getR at hR
 rw [hT, hH] at hR
 have HW := zA (rows_w A0 c0 b 1024 H hH w hr0 hc0 hb)
 rw [hT] at HW
 obtain ⟨n, E⟩ := H
 simp only at hrg
 obtain ⟨N, rfl⟩ : ∃ N : Nat, n = (N : Int) := ⟨n.toNat, by omega⟩
 obtain ⟨u, hU⟩ : ∃ u, rowsR (conR b) N t.2.1 t.2.2 [] = u := ⟨_, rfl⟩
 simp only [Int.toNat_natCast] at hR
 rw [hU] at hR
 have HR := zA hR
 have HU := zA hU
 clear hb hT hR hU hH hr0 hc0
 obtain ⟨t0, at0, bad0⟩ := t
 go_enter Tryd.func78, Tryd.ntmps78
 go_wp2_with fail
 refine HW.out.mono ?_
 rintro e W3 ⟨g, rfl, hg, h3, hb3⟩
 have H4 := zA (And.intro h3 hb3)
 clear h3 hb3 HW
 go_wp2_with fail
 go_loopw [7, 8] (fun ov iv wr => ∃ (j : Nat) (at_ : Int) (bad : Bool) (l : List SC), j ≤ N ∧ iv = .int .i64 (j : Int) ∧ Aside0 (l.length = j) ∧ Aside0 (Kd.R PBx.k68 68 wr w.heap.size (fun k => g < k) ov l) ∧ Aside0 (RJ wr g b at_ bad ∧ Below w.heap.size w wr) ∧ Aside0 (rowsR (conR b) (N - j) at_ bad l = u)) (fun _ iv _ => N - (intOf iv).toNat)
 case atStart => exact ⟨0, _, _, [], Nat.zero_le _, rfl, ⟨rfl⟩, ⟨Kd.R_nil _ _ _ _ _⟩, H4, HU⟩
 case round =>
  clear HU H4
  obtain ⟨j, at_, bad, l, hj, rfl, HL, HV, HI, HU⟩ := hrel
  obtain ⟨A2, c2, rfl, hl2, hC2⟩ := Kd.R_reads HV.out
  clear hC2 hl2
  by_cases hjn : j < N
  rotate_left
  ·have hu := HU.out
   rw [show N - j = 0 by omega] at hu
   have HU2 := zA (show (l, at_, bad) = u from hu)
   have hh := HR.out
   rw [← HU2.out] at hh
   clear hu HU
   by_cases hE : E = 0
   ·subst hE
    rw [if_pos rfl] at hh
    have H5 := zA (end_w g wr b at_ bad HI.out.1)
    generalize endR b at_ bad = D at hh H5
    by_cases hD : D = 0
    ·subst hD
     rw [if_pos rfl] at hh
     have HH := zA hh
     clear hh HR
     go_wp2_with fail
     refine H5.out.mono ?_
     rintro e W6 ⟨rfl, rfl⟩
     go_wp2_with fail
     go_ret2
     rw [← HH.out]
     exact ⟨_, rfl, Kd.R_mono HV.out (fun _ _ => trivial), HI.out.2⟩
    ·rw [if_neg hD] at hh
     have HH := zA hh
     have hDb : (D == 0) = false := beq_eq_false_iff_ne.2 hD
     clear hh HR
     go_wp2_with fail
     refine H5.out.mono ?_
     rintro e W6 ⟨rfl, rfl⟩
     go_wp2_with fail
     go_ret2
     rw [← HH.out]
     exact ⟨_, rfl, Kd.R_nil _ _ _ _ _, HI.out.2⟩
   ·rw [if_neg hE] at hh
    have HH := zA hh
    have hEb : (E == 0) = false := beq_eq_false_iff_ne.2 hE
    clear hh HR
    go_wp2_with fail
    go_ret2
    rw [← HH.out]
    exact ⟨_, rfl, Kd.R_nil _ _ _ _ _, HI.out.2⟩
  ·have hu := HU.out
   rw [show N - j = (N - (j + 1)) + 1 by omega] at hu
   unfold rowsR conR at hu
   dsimp only at hu
   have HU2 := hu
   clear hu HU HR
   ·skip
    generalize hU0 : numR b at_ bad 1 = u0_ at HU2
    have HX0 := zA hU0
    clear hU0
    go_wp2_with fail
    refine (rnum_j g wr b at_ bad 1 HI.out.1 HO.out).mono ?_
    rw [HX0.out]
    rintro e V0 ⟨rfl, h5, hk5, hb5⟩
    have HI0 := zA (And.intro h5 (HI.out.2.trans (hb5.mono hg)))
    have HV0 := zA (R_keep HV.out hk5)
    clear h5 hk5 hb5 HX0 HI HV
    generalize hU1 : numR b u0_.2.1 u0_.2.2 8 = u1_ at HU2
    have HX1 := zA hU1
    clear hU1
    go_wp2_with fail
    refine (rnum_j g V0 b u0_.2.1 u0_.2.2 8 HI0.out.1 HO.out).mono ?_
    rw [HX1.out]
    rintro e V1 ⟨rfl, h5, hk5, hb5⟩
    have HI1 := zA (And.intro h5 (HI0.out.2.trans (hb5.mono hg)))
    have HV1 := zA (R_keep HV0.out hk5)
    clear h5 hk5 hb5 HX1 HI0 HV0
    go_wp2_with ((with_reducible refine gate_builtin (b := .append) (xs := #[.tmp 23, .tmp 28]) rfl ?_); at_builtin; refine Kd.R_append PBx.k68 (w0 := w) w.heap.size rfl (.tmp 23) (.tmp 28) 22 68 (.agg #[.int .i64 0, .int .i64 0]) 16 rfl Tryd.underlying22 (by kernel_rfl) rfl (by decide) (by omega) (.slice A2 l.length c2) l (⟨u0_.1, u1_.1⟩ : SC) [.int .i64 u0_.1, .int .i64 u1_.1] (fun k => g < k) (fun _ => False) rfl (by first | (go_simp; done) | (go_simp; rfl)) ?aP (fun _ hk => hk.elim) ?aF ?aO ?aB ?aS ?aL ?_; (case aP => exact PBx.k68_mkM _ _ _ (⟨u0_.1, u1_.1⟩ : SC)); (case aB => exact HI1.out.2); (case aF => exact fun k hk => Nat.lt_of_lt_of_le HI1.out.1.ltS hk); (case aO => exact HV1.out); (case aS => exact HI1.out.2.size); (case aL => have := HL.out; omega); intro v7 W7 ho7 hb7 hg7 hat7; have HI7 := zA (And.intro (HI1.out.1.grown hg7 (fun k e => HV1.out.1 k e)) hb7); have HV7 := zA ho7; clear hg7 hat7 ho7 hb7)
    refine ⟨⟨j + 1, _, _, l ++ [(⟨u0_.1, u1_.1⟩ : SC)], by omega, by push_cast; rfl, ⟨by rw [List.length_append, HL.out]; rfl⟩, HV7, HI7, ⟨HU2⟩⟩, ?_⟩
    rw [show intOf (.int .i64 ((j : Int) + 1)) = (j : Int) + 1 from rfl, show intOf (.int .i64 (j : Int)) = (j : Int) from rfl]
    omega
def r14_GetConsts.f (b : List Int) : Option (List SC × Int) := if okB b = true then some (getR conR 1024 b) else none
theorem r14_GetConsts.calls (A0 : Option Addr) (c0 : Nat) (l0 : List Int) (r1 : List SC) (r2 : Int) (w : World) (hr0 : Kd.C (Kd.int .u8) w A0 l0.length l0) (hc0 : l0.length ≤ c0) (h : r14_GetConsts.f l0 = some (r1, r2)) :
  Calls Tryd.prog 78 #[.slice A0 l0.length c0] w fun e w' => ∃ v0_ : Value, e = .returned (.tuple #[v0_, .int .i64 r2]) ∧ Kd.R PBx.k68 68 w' w.heap.size (fun _ => True) v0_ r1 ∧ Below w.heap.size w w' := by
 unfold r14_GetConsts.f at h
 split at h
 ·rename_i hb
  have h := zJ h
  have HG := rcon_get A0 c0 l0 w hr0 hc0 hb
  rw [h] at HG
  exact HG
 ·cases h
set_option maxHeartbeats 4000000 in
set_option maxRecDepth 100000 in
theorem rblk_get (A0 : Option Addr) (c0 : Nat) (b : List Int) (w : World) (hr0 : Kd.C (Kd.int .u8) w A0 b.length b) (hc0 : b.length ≤ c0) (hb : okB b = true) :
  Calls Tryd.prog 80 #[.slice A0 b.length c0] w fun e w' => ∃ v0_ : Value, e = .returned (.tuple #[v0_, .int .i64 (getR blkR 32 b).2]) ∧ Kd.R PBx.k43 43 w' w.heap.size (fun _ => True) v0_ (getR blkR 32 b).1 ∧ Below w.heap.size w w' := by
 have HO := zA hb
 obtain ⟨t, hT⟩ : ∃ t, numR b 0 false 2 = t := ⟨_, rfl⟩
 have hrg := head_range 32 b hb
 obtain ⟨H, hH⟩ : ∃ H, headR 32 b = H := ⟨_, rfl⟩
 rw [hH] at hrg
 obtain ⟨r, hR⟩ : ∃ r, getR blkR 32 b = r := ⟨_, rfl⟩
 rw [hR]
 unfold getR at hR
 rw [hT, hH] at hR
 have HW := zA (rows_w A0 c0 b 32 H hH w hr0 hc0 hb)
 rw [hT] at HW
 obtain ⟨n, E⟩ := H
 simp only at hrg
 obtain ⟨N, rfl⟩ : ∃ N : Nat, n = (N : Int) := ⟨n.toNat, by omega⟩
 obtain ⟨u, hU⟩ : ∃ u, rowsR (blkR b) N t.2.1 t.2.2 [] = u := ⟨_, rfl⟩
 simp only [Int.toNat_natCast] at hR
 rw [hU] at hR
 have HR := zA hR
 have HU := zA hU
 clear hb hT hR hU hH hr0 hc0
 obtain ⟨t0, at0, bad0⟩ := t
 go_enter Tryd.func80, Tryd.ntmps80
 go_wp2_with fail
 refine HW.out.mono ?_
 rintro e W3 ⟨g, rfl, hg, h3, hb3⟩
 have H4 := zA (And.intro h3 hb3)
 clear h3 hb3 HW
 go_wp2_with fail
 go_loopw [7, 8] (fun ov iv wr => ∃ (j : Nat) (at_ : Int) (bad : Bool) (l : List SB), j ≤ N ∧ iv = .int .i64 (j : Int) ∧ Aside0 (l.length = j) ∧ Aside0 (Kd.R PBx.k43 43 wr w.heap.size (fun k => g < k) ov l) ∧ Aside0 (RJ wr g b at_ bad ∧ Below w.heap.size w wr) ∧ Aside0 (rowsR (blkR b) (N - j) at_ bad l = u)) (fun _ iv _ => N - (intOf iv).toNat)
 case atStart => exact ⟨0, _, _, [], Nat.zero_le _, rfl, ⟨rfl⟩, ⟨Kd.R_nil _ _ _ _ _⟩, H4, HU⟩
 case round =>
  clear HU H4
  obtain ⟨j, at_, bad, l, hj, rfl, HL, HV, HI, HU⟩ := hrel
  obtain ⟨A2, c2, rfl, hl2, hC2⟩ := Kd.R_reads HV.out
  clear hC2 hl2
  by_cases hjn : j < N
  rotate_left
  ·have hu := HU.out
   rw [show N - j = 0 by omega] at hu
   have HU2 := zA (show (l, at_, bad) = u from hu)
   have hh := HR.out
   rw [← HU2.out] at hh
   clear hu HU
   by_cases hE : E = 0
   ·subst hE
    rw [if_pos rfl] at hh
    have H5 := zA (end_w g wr b at_ bad HI.out.1)
    generalize endR b at_ bad = D at hh H5
    by_cases hD : D = 0
    ·subst hD
     rw [if_pos rfl] at hh
     have HH := zA hh
     clear hh HR
     go_wp2_with fail
     refine H5.out.mono ?_
     rintro e W6 ⟨rfl, rfl⟩
     go_wp2_with fail
     go_ret2
     rw [← HH.out]
     exact ⟨_, rfl, Kd.R_mono HV.out (fun _ _ => trivial), HI.out.2⟩
    ·rw [if_neg hD] at hh
     have HH := zA hh
     have hDb : (D == 0) = false := beq_eq_false_iff_ne.2 hD
     clear hh HR
     go_wp2_with fail
     refine H5.out.mono ?_
     rintro e W6 ⟨rfl, rfl⟩
     go_wp2_with fail
     go_ret2
     rw [← HH.out]
     exact ⟨_, rfl, Kd.R_nil _ _ _ _ _, HI.out.2⟩
   ·rw [if_neg hE] at hh
    have HH := zA hh
    have hEb : (E == 0) = false := beq_eq_false_iff_ne.2 hE
    clear hh HR
    go_wp2_with fail
    go_ret2
    rw [← HH.out]
    exact ⟨_, rfl, Kd.R_nil _ _ _ _ _, HI.out.2⟩
  ·have hu := HU.out
   rw [show N - j = (N - (j + 1)) + 1 by omega] at hu
   unfold rowsR blkR at hu
   dsimp only at hu
   have HU2 := hu
   clear hu HU HR
   ·skip
    generalize hU0 : textR b at_ bad = u0_ at HU2
    have HX0 := zA hU0
    clear hU0
    go_wp2_with fail
    refine (rtext_j g wr b at_ bad HI.out.1 HO.out).mono ?_
    rw [HX0.out]
    rintro e V0 ⟨rfl, h5, hk5, hb5⟩
    have HI0 := zA (And.intro h5 (HI.out.2.trans (hb5.mono hg)))
    have HV0 := zA (R_keep HV.out hk5)
    clear h5 hk5 hb5 HX0 HI HV
    generalize hU1 : numR b u0_.2.1 u0_.2.2 1 = u1_ at HU2
    have HX1 := zA hU1
    clear hU1
    go_wp2_with fail
    refine (rnum_j g V0 b u0_.2.1 u0_.2.2 1 HI0.out.1 HO.out).mono ?_
    rw [HX1.out]
    rintro e V1 ⟨rfl, h5, hk5, hb5⟩
    have HI1 := zA (And.intro h5 (HI0.out.2.trans (hb5.mono hg)))
    have HV1 := zA (R_keep HV0.out hk5)
    clear h5 hk5 hb5 HX1 HI0 HV0
    go_wp2_with ((with_reducible refine gate_builtin (b := .append) (xs := #[.tmp 23, .tmp 28]) rfl ?_); at_builtin; refine Kd.R_append PBx.k43 (w0 := w) w.heap.size rfl (.tmp 23) (.tmp 28) 24 43 (.agg #[.string ⟨#[]⟩, .int .i64 0]) 24 rfl Tryd.underlying24 (by kernel_rfl) rfl (by decide) (by omega) (.slice A2 l.length c2) l (⟨u0_.1, u1_.1⟩ : SB) [.string u0_.1, .int .i64 u1_.1] (fun k => g < k) (fun _ => False) rfl (by first | (go_simp; done) | (go_simp; rfl)) ?aP (fun _ hk => hk.elim) ?aF ?aO ?aB ?aS ?aL ?_; (case aP => exact PBx.k43_mkM _ _ _ (⟨u0_.1, u1_.1⟩ : SB)); (case aB => exact HI1.out.2); (case aF => exact fun k hk => Nat.lt_of_lt_of_le HI1.out.1.ltS hk); (case aO => exact HV1.out); (case aS => exact HI1.out.2.size); (case aL => have := HL.out; omega); intro v7 W7 ho7 hb7 hg7 hat7; have HI7 := zA (And.intro (HI1.out.1.grown hg7 (fun k e => HV1.out.1 k e)) hb7); have HV7 := zA ho7; clear hg7 hat7 ho7 hb7)
    refine ⟨⟨j + 1, _, _, l ++ [(⟨u0_.1, u1_.1⟩ : SB)], by omega, by push_cast; rfl, ⟨by rw [List.length_append, HL.out]; rfl⟩, HV7, HI7, ⟨HU2⟩⟩, ?_⟩
    rw [show intOf (.int .i64 ((j : Int) + 1)) = (j : Int) + 1 from rfl, show intOf (.int .i64 (j : Int)) = (j : Int) from rfl]
    omega
def r14_GetBlocks.f (b : List Int) : Option (List SB × Int) := if okB b = true then some (getR blkR 32 b) else none
theorem r14_GetBlocks.calls (A0 : Option Addr) (c0 : Nat) (l0 : List Int) (r1 : List SB) (r2 : Int) (w : World) (hr0 : Kd.C (Kd.int .u8) w A0 l0.length l0) (hc0 : l0.length ≤ c0) (h : r14_GetBlocks.f l0 = some (r1, r2)) :
  Calls Tryd.prog 80 #[.slice A0 l0.length c0] w fun e w' => ∃ v0_ : Value, e = .returned (.tuple #[v0_, .int .i64 r2]) ∧ Kd.R PBx.k43 43 w' w.heap.size (fun _ => True) v0_ r1 ∧ Below w.heap.size w w' := by
 unfold r14_GetBlocks.f at h
 split at h
 ·rename_i hb
  have h := zJ h
  have HG := rblk_get A0 c0 l0 w hr0 hc0 hb
  rw [h] at HG
  exact HG
 ·cases h
set_option maxHeartbeats 4000000 in
set_option maxRecDepth 100000 in
theorem rvar_get (A0 : Option Addr) (c0 : Nat) (b : List Int) (w : World) (hr0 : Kd.C (Kd.int .u8) w A0 b.length b) (hc0 : b.length ≤ c0) (hb : okB b = true) :
  Calls Tryd.prog 79 #[.slice A0 b.length c0] w fun e w' => ∃ v0_ : Value, e = .returned (.tuple #[v0_, .int .i64 (getR varR 64 b).2]) ∧ Kd.R PBx.k41 41 w' w.heap.size (fun _ => True) v0_ (getR varR 64 b).1 ∧ Below w.heap.size w w' := by
 have HO := zA hb
 obtain ⟨t, hT⟩ : ∃ t, numR b 0 false 2 = t := ⟨_, rfl⟩
 have hrg := head_range 64 b hb
 obtain ⟨H, hH⟩ : ∃ H, headR 64 b = H := ⟨_, rfl⟩
 rw [hH] at hrg
 obtain ⟨r, hR⟩ : ∃ r, getR varR 64 b = r := ⟨_, rfl⟩
 rw [hR]
 unfold getR at hR
 rw [hT, hH] at hR
 have HW := zA (rows_w A0 c0 b 64 H hH w hr0 hc0 hb)
 rw [hT] at HW
 obtain ⟨n, E⟩ := H
 simp only at hrg
 obtain ⟨N, rfl⟩ : ∃ N : Nat, n = (N : Int) := ⟨n.toNat, by omega⟩
 obtain ⟨u, hU⟩ : ∃ u, rowsR (varR b) N t.2.1 t.2.2 [] = u := ⟨_, rfl⟩
 simp only [Int.toNat_natCast] at hR
 rw [hU] at hR
 have HR := zA hR
 have HU := zA hU
 clear hb hT hR hU hH hr0 hc0
 obtain ⟨t0, at0, bad0⟩ := t
 go_enter Tryd.func79, Tryd.ntmps79
 go_wp2_with fail
 refine HW.out.mono ?_
 rintro e W3 ⟨g, rfl, hg, h3, hb3⟩
 have H4 := zA (And.intro h3 hb3)
 clear h3 hb3 HW
 go_wp2_with fail
 go_loopw [7, 8] (fun ov iv wr => ∃ (j : Nat) (at_ : Int) (bad : Bool) (l : List SV), j ≤ N ∧ iv = .int .i64 (j : Int) ∧ Aside0 (l.length = j) ∧ Aside0 (Kd.R PBx.k41 41 wr w.heap.size (fun k => g < k) ov l) ∧ Aside0 (RJ wr g b at_ bad ∧ Below w.heap.size w wr) ∧ Aside0 (rowsR (varR b) (N - j) at_ bad l = u)) (fun _ iv _ => N - (intOf iv).toNat)
 case atStart => exact ⟨0, _, _, [], Nat.zero_le _, rfl, ⟨rfl⟩, ⟨Kd.R_nil _ _ _ _ _⟩, H4, HU⟩
 case round =>
  clear HU H4
  obtain ⟨j, at_, bad, l, hj, rfl, HL, HV, HI, HU⟩ := hrel
  obtain ⟨A2, c2, rfl, hl2, hC2⟩ := Kd.R_reads HV.out
  clear hC2 hl2
  by_cases hjn : j < N
  rotate_left
  ·have hu := HU.out
   rw [show N - j = 0 by omega] at hu
   have HU2 := zA (show (l, at_, bad) = u from hu)
   have hh := HR.out
   rw [← HU2.out] at hh
   clear hu HU
   by_cases hE : E = 0
   ·subst hE
    rw [if_pos rfl] at hh
    have H5 := zA (end_w g wr b at_ bad HI.out.1)
    generalize endR b at_ bad = D at hh H5
    by_cases hD : D = 0
    ·subst hD
     rw [if_pos rfl] at hh
     have HH := zA hh
     clear hh HR
     go_wp2_with fail
     refine H5.out.mono ?_
     rintro e W6 ⟨rfl, rfl⟩
     go_wp2_with fail
     go_ret2
     rw [← HH.out]
     exact ⟨_, rfl, Kd.R_mono HV.out (fun _ _ => trivial), HI.out.2⟩
    ·rw [if_neg hD] at hh
     have HH := zA hh
     have hDb : (D == 0) = false := beq_eq_false_iff_ne.2 hD
     clear hh HR
     go_wp2_with fail
     refine H5.out.mono ?_
     rintro e W6 ⟨rfl, rfl⟩
     go_wp2_with fail
     go_ret2
     rw [← HH.out]
     exact ⟨_, rfl, Kd.R_nil _ _ _ _ _, HI.out.2⟩
   ·rw [if_neg hE] at hh
    have HH := zA hh
    have hEb : (E == 0) = false := beq_eq_false_iff_ne.2 hE
    clear hh HR
    go_wp2_with fail
    go_ret2
    rw [← HH.out]
    exact ⟨_, rfl, Kd.R_nil _ _ _ _ _, HI.out.2⟩
  ·have hu := HU.out
   rw [show N - j = (N - (j + 1)) + 1 by omega] at hu
   unfold rowsR varR at hu
   dsimp only at hu
   have HU2 := hu
   clear hu HU HR
   ·skip
    have hx0 : (wr.alloc (.cells #[.string ⟨#[]⟩, .int .i64 0, .int .i64 0, .int .i64 0, .int .i64 0] 41)).heap[wr.heap.size]? = some (.cells #[.string ⟨#[]⟩, .int .i64 0, .int .i64 0, .int .i64 0, .int .i64 0] 41 (0, 0)) := heap_alloc_new wr _
    have hgl := HI.out.1.ltS
    have hne : wr.heap.size ≠ g := by omega
    have hB0 := (zX wr.heap.size wr).alloc (z5 _) (.cells #[.string ⟨#[]⟩, .int .i64 0, .int .i64 0, .int .i64 0, .int .i64 0] 41)
    have T0 := zA (And.intro (HI.out.1.below hB0) (And.intro (HI.out.2.trans (hB0.mono HI.out.2.size)) (And.intro (R_okr (fun x cs hp => by obtain rfl := PBx.k41_openM hp; exact PBx.k41_mkM _ _ _ x) HV.out (.cells #[.string ⟨#[]⟩, .int .i64 0, .int .i64 0, .int .i64 0, .int .i64 0] 41)) hx0)))
    clear hx0 hB0
    generalize hU0 : textR b at_ bad = u0_ at HU2
    have HX0 := zA hU0
    clear hU0
    go_wp2_with fail
    refine (rtext_j g _ b at_ bad T0.out.1 HO.out).mono ?_
    rw [HX0.out]
    rintro e V0 ⟨rfl, h5, hk5, hb5⟩
    have hx5 := hk5.blk T0.out.2.2.2 hne (by simp)
    have f5 := zF hx5 0
    have s5 : V0.cell? ⟨wr.heap.size, 0, none⟩ = some (.string ⟨#[]⟩) := (zC hx5 0).trans rfl
    have T1 := zA (show RJ (V0.setCell ⟨wr.heap.size, 0, none⟩ (.string u0_.1)) g b u0_.2.1 u0_.2.2 ∧ Below w.heap.size w (V0.setCell ⟨wr.heap.size, 0, none⟩ (.string u0_.1)) ∧ Kd.R PBx.k41 41 (V0.setCell ⟨wr.heap.size, 0, none⟩ (.string u0_.1)) w.heap.size (okr g wr.heap.size) (.slice A2 l.length c2) l ∧ (V0.setCell ⟨wr.heap.size, 0, none⟩ (.string u0_.1)).heap[wr.heap.size]? = some (.cells #[.string u0_.1, .int .i64 0, .int .i64 0, .int .i64 0, .int .i64 0] 41 (0, 0)) from
     ⟨h5.le (fun k hk => Below.heap_setCell _ _ _ _ (by show k ≠ wr.heap.size; omega)), ((T0.out.2.1.trans (hb5.mono hg)).setCell (p := ⟨wr.heap.size, 0, none⟩) (Nat.le_trans hg (Nat.le_of_lt hgl)) _), R_set (p := ⟨wr.heap.size, 0, none⟩) rfl (R_keep2 T0.out.2.2.1 hk5) _, blk_put hx5 0 _ rfl⟩)
    clear h5 hk5 hb5 hx5 HX0 T0
    generalize hU1 : numR b u0_.2.1 u0_.2.2 1 = u1_ at HU2
    have HX1 := zA hU1
    clear hU1
    go_wp2_with fail
    refine (rnum_j g _ b u0_.2.1 u0_.2.2 1 T1.out.1 HO.out).mono ?_
    rw [HX1.out]
    rintro e V1 ⟨rfl, h5, hk5, hb5⟩
    have hx5 := hk5.blk T1.out.2.2.2 hne (by simp)
    have f5 := zF hx5 1
    have s5 : V1.cell? ⟨wr.heap.size, 1, none⟩ = some (.int .i64 0) := (zC hx5 1).trans rfl
    have T2 := zA (show RJ (V1.setCell ⟨wr.heap.size, 1, none⟩ (.int .i64 u1_.1)) g b u1_.2.1 u1_.2.2 ∧ Below w.heap.size w (V1.setCell ⟨wr.heap.size, 1, none⟩ (.int .i64 u1_.1)) ∧ Kd.R PBx.k41 41 (V1.setCell ⟨wr.heap.size, 1, none⟩ (.int .i64 u1_.1)) w.heap.size (okr g wr.heap.size) (.slice A2 l.length c2) l ∧ (V1.setCell ⟨wr.heap.size, 1, none⟩ (.int .i64 u1_.1)).heap[wr.heap.size]? = some (.cells #[.string u0_.1, .int .i64 u1_.1, .int .i64 0, .int .i64 0, .int .i64 0] 41 (0, 0)) from
     ⟨h5.le (fun k hk => Below.heap_setCell _ _ _ _ (by show k ≠ wr.heap.size; omega)), ((T1.out.2.1.trans (hb5.mono hg)).setCell (p := ⟨wr.heap.size, 1, none⟩) (Nat.le_trans hg (Nat.le_of_lt hgl)) _), R_set (p := ⟨wr.heap.size, 1, none⟩) rfl (R_keep2 T1.out.2.2.1 hk5) _, blk_put hx5 1 _ rfl⟩)
    clear h5 hk5 hb5 hx5 HX1 T1
    generalize hU2 : numR b u1_.2.1 u1_.2.2 1 = u2_ at HU2
    have HX2 := zA hU2
    clear hU2
    go_wp2_with fail
    refine (rnum_j g _ b u1_.2.1 u1_.2.2 1 T2.out.1 HO.out).mono ?_
    rw [HX2.out]
    rintro e V2 ⟨rfl, h5, hk5, hb5⟩
    have hx5 := hk5.blk T2.out.2.2.2 hne (by simp)
    have f5 := zF hx5 2
    have s5 : V2.cell? ⟨wr.heap.size, 2, none⟩ = some (.int .i64 0) := (zC hx5 2).trans rfl
    have T3 := zA (show RJ (V2.setCell ⟨wr.heap.size, 2, none⟩ (.int .i64 u2_.1)) g b u2_.2.1 u2_.2.2 ∧ Below w.heap.size w (V2.setCell ⟨wr.heap.size, 2, none⟩ (.int .i64 u2_.1)) ∧ Kd.R PBx.k41 41 (V2.setCell ⟨wr.heap.size, 2, none⟩ (.int .i64 u2_.1)) w.heap.size (okr g wr.heap.size) (.slice A2 l.length c2) l ∧ (V2.setCell ⟨wr.heap.size, 2, none⟩ (.int .i64 u2_.1)).heap[wr.heap.size]? = some (.cells #[.string u0_.1, .int .i64 u1_.1, .int .i64 u2_.1, .int .i64 0, .int .i64 0] 41 (0, 0)) from
     ⟨h5.le (fun k hk => Below.heap_setCell _ _ _ _ (by show k ≠ wr.heap.size; omega)), ((T2.out.2.1.trans (hb5.mono hg)).setCell (p := ⟨wr.heap.size, 2, none⟩) (Nat.le_trans hg (Nat.le_of_lt hgl)) _), R_set (p := ⟨wr.heap.size, 2, none⟩) rfl (R_keep2 T2.out.2.2.1 hk5) _, blk_put hx5 2 _ rfl⟩)
    clear h5 hk5 hb5 hx5 HX2 T2
    generalize hU3 : numR b u2_.2.1 u2_.2.2 1 = u3_ at HU2
    have HX3 := zA hU3
    clear hU3
    go_wp2_with fail
    refine (rnum_j g _ b u2_.2.1 u2_.2.2 1 T3.out.1 HO.out).mono ?_
    rw [HX3.out]
    rintro e V3 ⟨rfl, h5, hk5, hb5⟩
    have hx5 := hk5.blk T3.out.2.2.2 hne (by simp)
    have f5 := zF hx5 3
    have s5 : V3.cell? ⟨wr.heap.size, 3, none⟩ = some (.int .i64 0) := (zC hx5 3).trans rfl
    have T4 := zA (show RJ (V3.setCell ⟨wr.heap.size, 3, none⟩ (.int .i64 u3_.1)) g b u3_.2.1 u3_.2.2 ∧ Below w.heap.size w (V3.setCell ⟨wr.heap.size, 3, none⟩ (.int .i64 u3_.1)) ∧ Kd.R PBx.k41 41 (V3.setCell ⟨wr.heap.size, 3, none⟩ (.int .i64 u3_.1)) w.heap.size (okr g wr.heap.size) (.slice A2 l.length c2) l ∧ (V3.setCell ⟨wr.heap.size, 3, none⟩ (.int .i64 u3_.1)).heap[wr.heap.size]? = some (.cells #[.string u0_.1, .int .i64 u1_.1, .int .i64 u2_.1, .int .i64 u3_.1, .int .i64 0] 41 (0, 0)) from
     ⟨h5.le (fun k hk => Below.heap_setCell _ _ _ _ (by show k ≠ wr.heap.size; omega)), ((T3.out.2.1.trans (hb5.mono hg)).setCell (p := ⟨wr.heap.size, 3, none⟩) (Nat.le_trans hg (Nat.le_of_lt hgl)) _), R_set (p := ⟨wr.heap.size, 3, none⟩) rfl (R_keep2 T3.out.2.2.1 hk5) _, blk_put hx5 3 _ rfl⟩)
    clear h5 hk5 hb5 hx5 HX3 T3
    generalize hU4 : numR b u3_.2.1 u3_.2.2 8 = u4_ at HU2
    have HX4 := zA hU4
    clear hU4
    go_wp2_with fail
    refine (rnum_j g _ b u3_.2.1 u3_.2.2 8 T4.out.1 HO.out).mono ?_
    rw [HX4.out]
    rintro e V4 ⟨rfl, h5, hk5, hb5⟩
    have hx5 := hk5.blk T4.out.2.2.2 hne (by simp)
    have f5 := zF hx5 4
    have s5 : V4.cell? ⟨wr.heap.size, 4, none⟩ = some (.int .i64 0) := (zC hx5 4).trans rfl
    have T5 := zA (show RJ (V4.setCell ⟨wr.heap.size, 4, none⟩ (.int .i64 u4_.1)) g b u4_.2.1 u4_.2.2 ∧ Below w.heap.size w (V4.setCell ⟨wr.heap.size, 4, none⟩ (.int .i64 u4_.1)) ∧ Kd.R PBx.k41 41 (V4.setCell ⟨wr.heap.size, 4, none⟩ (.int .i64 u4_.1)) w.heap.size (okr g wr.heap.size) (.slice A2 l.length c2) l ∧ (V4.setCell ⟨wr.heap.size, 4, none⟩ (.int .i64 u4_.1)).heap[wr.heap.size]? = some (.cells #[.string u0_.1, .int .i64 u1_.1, .int .i64 u2_.1, .int .i64 u3_.1, .int .i64 u4_.1] 41 (0, 0)) from
     ⟨h5.le (fun k hk => Below.heap_setCell _ _ _ _ (by show k ≠ wr.heap.size; omega)), ((T4.out.2.1.trans (hb5.mono hg)).setCell (p := ⟨wr.heap.size, 4, none⟩) (Nat.le_trans hg (Nat.le_of_lt hgl)) _), R_set (p := ⟨wr.heap.size, 4, none⟩) rfl (R_keep2 T4.out.2.2.1 hk5) _, blk_put hx5 4 _ rfl⟩)
    clear h5 hk5 hb5 hx5 HX4 T4
    have hx5 := T5.out.2.2.2
    have q0 : (V4.setCell ⟨wr.heap.size, 4, none⟩ (.int .i64 u4_.1)).cell? ⟨wr.heap.size, 0, none⟩ = some (.string u0_.1) := (zC hx5 0).trans rfl
    have q1 : (V4.setCell ⟨wr.heap.size, 4, none⟩ (.int .i64 u4_.1)).cell? ⟨wr.heap.size, 1, none⟩ = some (.int .i64 u1_.1) := (zC hx5 1).trans rfl
    have q2 : (V4.setCell ⟨wr.heap.size, 4, none⟩ (.int .i64 u4_.1)).cell? ⟨wr.heap.size, 2, none⟩ = some (.int .i64 u2_.1) := (zC hx5 2).trans rfl
    have q3 : (V4.setCell ⟨wr.heap.size, 4, none⟩ (.int .i64 u4_.1)).cell? ⟨wr.heap.size, 3, none⟩ = some (.int .i64 u3_.1) := (zC hx5 3).trans rfl
    have q4 : (V4.setCell ⟨wr.heap.size, 4, none⟩ (.int .i64 u4_.1)).cell? ⟨wr.heap.size, 4, none⟩ = some (.int .i64 u4_.1) := (zC hx5 4).trans rfl
    clear hx5
    go_wp2_with ((with_reducible refine gate_builtin (b := .append) (xs := #[.tmp 37, .tmp 39]) rfl ?_); at_builtin; refine Kd.R_append PBx.k41 (w0 := w) w.heap.size rfl (.tmp 37) (.tmp 39) 23 41 (.agg #[.string ⟨#[]⟩, .int .i64 0, .int .i64 0, .int .i64 0, .int .i64 0]) 48 rfl Tryd.underlying23 (by kernel_rfl) rfl (by decide) (by omega) (.slice A2 l.length c2) l (⟨u0_.1, u1_.1, u2_.1, u3_.1, u4_.1⟩ : SV) [.string u0_.1, .int .i64 u1_.1, .int .i64 u2_.1, .int .i64 u3_.1, .int .i64 u4_.1] (okr g wr.heap.size) (fun _ => False) rfl (by first | (go_simp; done) | (go_simp; rfl)) ?aP (fun _ hk => hk.elim) ?aF ?aO ?aB ?aS ?aL ?_; (case aP => exact PBx.k41_mkM _ _ _ (⟨u0_.1, u1_.1, u2_.1, u3_.1, u4_.1⟩ : SV)); (case aB => exact T5.out.2.1); (case aF => exact fun k hk => okr_new (Nat.lt_of_lt_of_le T5.out.1.ltS hk) (Nat.lt_of_lt_of_le (blk_lt T5.out.2.2.2) hk)); (case aO => exact T5.out.2.2.1); (case aS => exact T5.out.2.1.size); (case aL => have := HL.out; omega); intro v7 W7 ho7 hb7 hg7 hat7; have HI7 := zA (And.intro (T5.out.1.grown hg7 (fun k e => (T5.out.2.2.1.1 k e).1)) hb7); have HV7 := zA (Kd.R_mono ho7 (fun k hk => hk.1)); clear hg7 hat7 ho7 hb7)
    refine ⟨⟨j + 1, _, _, l ++ [(⟨u0_.1, u1_.1, u2_.1, u3_.1, u4_.1⟩ : SV)], by omega, by push_cast; rfl, ⟨by rw [List.length_append, HL.out]; rfl⟩, HV7, HI7, ⟨HU2⟩⟩, ?_⟩
    rw [show intOf (.int .i64 ((j : Int) + 1)) = (j : Int) + 1 from rfl, show intOf (.int .i64 (j : Int)) = (j : Int) from rfl]
    omega
def r14_GetVars.f (b : List Int) : Option (List SV × Int) := if okB b = true then some (getR varR 64 b) else none
theorem r14_GetVars.calls (A0 : Option Addr) (c0 : Nat) (l0 : List Int) (r1 : List SV) (r2 : Int) (w : World) (hr0 : Kd.C (Kd.int .u8) w A0 l0.length l0) (hc0 : l0.length ≤ c0) (h : r14_GetVars.f l0 = some (r1, r2)) :
  Calls Tryd.prog 79 #[.slice A0 l0.length c0] w fun e w' => ∃ v0_ : Value, e = .returned (.tuple #[v0_, .int .i64 r2]) ∧ Kd.R PBx.k41 41 w' w.heap.size (fun _ => True) v0_ r1 ∧ Below w.heap.size w w' := by
 unfold r14_GetVars.f at h
 split at h
 ·rename_i hb
  have h := zJ h
  have HG := rvar_get A0 c0 l0 w hr0 hc0 hb
  rw [h] at HG
  exact HG
 ·cases h
end Go.Proofs.YtdbfgfgbjheibaaDoor.Given
end

section
/- What a reader tells of bytes that were put; any bytes. -/
namespace Go.Proofs.YtdbfgfgbjheibaaDoor.Given
set_option linter.unusedVariables false
set_option linter.unusedSimpArgs false
open Go.RowKit Go.Proofs.YtdbfgfgbjheibaaDoorW.PrintWords Go.Proofs.YtdbfgfgbjheibaaDoorW.PrintLast Go.Proofs.YtdbfgfgbjheibaaDoorW.PrintMore
theorem sh_div (v : Int) : ∀ n, sh n v = v / 2 ^ (8 * n)
 | 0 => by simp [sh]
 | n + 1 => by
  rw [sh, sh_div v n, show 8 * (n + 1) = 8 * n + 8 by omega, Int.pow_add, Int.ediv_ediv_of_nonneg (Int.le_of_lt (Int.pow_pos (by decide)))]
  rfl
theorem leN_le (v : Int) : ∀ n, leN (le n v) = v % 2 ^ (8 * n)
 | 0 => by simp [le, leN, Int.emod_one]
 | n + 1 => by
  rw [le, leN_app, leN_le v n, le_length, sh_div, show 8 * (n + 1) = 8 * n + 8 by omega, Int.pow_add, show (2 : Int) ^ 8 = 256 from rfl]
  have hp : (0 : Int) < 2 ^ (8 * n) := Int.pow_pos (by decide)
  generalize (2 : Int) ^ (8 * n) = p at *
  have e1 := Int.mul_ediv_add_emod v p
  have e2 := Int.mul_ediv_add_emod (v / p) 256
  have h0 := Int.emod_nonneg v (show p ≠ 0 by omega)
  have h1 := Int.emod_lt_of_pos v hp
  have h2 := Int.emod_nonneg (v / p) (show (256 : Int) ≠ 0 by omega)
  have h3 := Int.emod_lt_of_pos (v / p) (show (0 : Int) < 256 by omega)
  generalize v % p = r at *
  generalize v / p % 256 = x at *
  generalize v / p / 256 = q at *
  generalize v / p = y at *
  subst e2
  have e3 : v = r + x * p + p * 256 * q := by rw [← e1, Int.mul_add, ← Int.mul_assoc, Int.mul_comm x p]; omega
  have h4 : x * p ≤ 255 * p := Int.mul_le_mul_of_nonneg_right (by omega) (by omega)
  have h5 : 0 ≤ x * p := Int.mul_nonneg h2 (by omega)
  rw [e3, Int.add_mul_emod_self_left]
  exact (Int.emod_eq_of_lt (by omega) (by omega)).symm
theorem cut_mid (a m c : List Int) (i n : Int) (hi : i = a.length) (hn : n = m.length) : cutR (a ++ m ++ c) i n = m := by
 subst hi hn
 unfold cutR
 rw [Int.toNat_natCast, Int.toNat_natCast, List.append_assoc, List.drop_left, List.take_left]
theorem num_at (a m c : List Int) (i many : Int) (hi : i = a.length) (hm : mx 0 (mn many 8) = m.length) : numR (a ++ m ++ c) i false many = (wrap64 (leN m), i + m.length, false) := by
 unfold numR
 rw [hm, cut_mid a m c i _ hi rfl, if_pos]
 refine ⟨rfl, Int.natCast_nonneg _, ?_⟩
 simp only [List.length_append]
 omega
theorem take_at (a m c : List Int) (i n : Int) (hi : i = a.length) (hn : n = m.length) : takeR (a ++ m ++ c) i false n = (m, i + n, false) := by
 unfold takeR
 rw [cut_mid a m c i n hi hn, if_pos]
 refine ⟨rfl, by omega, ?_⟩
 simp only [List.length_append]
 omega
theorem bytes_len (s : ByteArray) : (bytesOf s).length = s.size := by simp [bytesOf]
theorem str_bytes (s : ByteArray) : strOfNums (bytesOf s) = s := by
 obtain ⟨⟨l⟩⟩ := s
 unfold strOfNums bytesOf
 simp only [List.map_map]
 congr 2
 have : ∀ b : UInt8, ((fun x : Int => x.toNat.toUInt8) ∘ fun b : UInt8 => (b.toNat : Int)) b = b := by intro b; simp
 exact (List.map_congr_left (fun b _ => this b)).trans (List.map_id _)
theorem wf8 {a : Int} (h : (Lit.int .u8 a).wf = true) : 0 ≤ a ∧ a < 256 := by
 unfold Lit.wf at h
 simp only [Bool.and_eq_true, decide_eq_true_eq, show IntKind.u8.min = 0 from rfl, show IntKind.u8.max = 255 from rfl] at h
 omega
theorem le_byte (v : Int) : ∀ m, ∀ b ∈ le m v, 0 ≤ b ∧ b < 256
 | 0, b, h => by simp [le] at h
 | m + 1, b, h => by
  unfold le at h
  rcases List.mem_append.1 h with h | h
  ·exact le_byte v m b h
  ·rw [List.mem_singleton.1 h]
   omega
theorem bytes_byte (s : ByteArray) : ∀ b ∈ bytesOf s, 0 ≤ b ∧ b < 256 := by
 intro b h
 obtain ⟨u, _, rfl⟩ := List.mem_map.1 h
 have := u.toNat_lt
 omega
theorem text_all (s : ByteArray) (h : s.size ≤ 255) : textOf s = s := by
 unfold textOf
 rw [Nat.min_eq_left h]
 simp
theorem bytes_str : ∀ l : List Int, (∀ x ∈ l, 0 ≤ x ∧ x < 256) → bytesOf (strOfNums l) = l := by
 intro l h
 unfold strOfNums bytesOf
 simp only [List.map_map]
 refine (List.map_congr_left (fun x hx => ?_)).trans (List.map_id _)
 have := h x hx
 simp
 omega
theorem str_size (l : List Int) : (strOfNums l).size = l.length := by simp [strOfNums, ByteArray.size]
theorem le_leN : ∀ l : List Int, (∀ x ∈ l, 0 ≤ x ∧ x < 256) → l.length ≤ 2 → le l.length (leN l) = l
 | [], _, _ => rfl
 | [a], h, _ => by
  have := h a (by simp)
  simp [le, leN, sh]
  omega
 | [a, b], h, _ => by
  have h1 := h a (by simp)
  have h2 := h b (by simp)
  simp [le, leN, sh]
  omega
 | _ :: _ :: _ :: _, _, h => by simp at h
theorem leN_small (l : List Int) (h : ∀ x ∈ l, 0 ≤ x ∧ x < 256) (hl : l.length ≤ 2) : 0 ≤ leN l ∧ leN l < 65536 := by
 match l, hl with
 | [], _ => simp [leN]
 | [a], _ => have := h a (by simp); simp [leN]; omega
 | [a, b], _ => have h1 := h a (by simp); have h2 := h b (by simp); simp [leN]; omega
 | _ :: _ :: _ :: _, h => simp at h
/-- What was told of a number: the bytes are there. -/
theorem num_inv {b : List Int} (hb : ∀ x ∈ b, 0 ≤ x ∧ x < 256) {at_ : Int} {many : Int} {m : Nat} (hm : mx 0 (mn many 8) = m) (hm2 : m ≤ 2) (h0 : 0 ≤ at_) (h1 : at_ ≤ b.length) (h : (numR b at_ false many).2.2 = false) :
  (numR b at_ false many).2.1 = at_ + m ∧ at_ + m ≤ b.length ∧ 0 ≤ (numR b at_ false many).1 ∧ (numR b at_ false many).1 < 2 ^ (8 * m) ∧ b.drop at_.toNat = le m (numR b at_ false many).1 ++ b.drop (at_ + m).toNat := by
 unfold numR at h ⊢
 rw [hm] at h ⊢
 by_cases hk : okR b at_ false m
 ·rw [if_pos hk]
  obtain ⟨_, _, hk⟩ := hk
  have hl : (cutR b at_ m).length = m := by unfold cutR; simp; omega
  have hc : ∀ x ∈ cutR b at_ m, 0 ≤ x ∧ x < 256 := fun x hx => hb x (List.mem_of_mem_drop (List.mem_of_mem_take hx))
  have hs := leN_small _ hc (by omega)
  have hs2 := (leN_lim _ hc).2
  rw [hl] at hs2
  have hw : wrap64 (leN (cutR b at_ m)) = leN (cutR b at_ m) := by unfold wrap64; omega
  refine ⟨rfl, by omega, by dsimp only; rw [hw]; exact hs.1, by dsimp only; rw [hw]; exact hs2, ?_⟩
  dsimp only
  rw [hw]
  have := le_leN _ hc (by omega)
  rw [hl] at this
  rw [this]
  unfold cutR
  rw [show (at_ + (m : Int)).toNat = at_.toNat + (m : Int).toNat by omega, ← List.drop_drop, List.take_append_drop]
 ·rw [if_neg hk] at h
  cases h
theorem take_inv {b : List Int} {at_ n : Int} (h0 : 0 ≤ at_) (h1 : at_ ≤ b.length) (h : (takeR b at_ false n).2.2 = false) :
  (takeR b at_ false n).2.1 = at_ + n ∧ 0 ≤ n ∧ at_ + n ≤ b.length ∧ ((takeR b at_ false n).1.length : Int) = n ∧ b.drop at_.toNat = (takeR b at_ false n).1 ++ b.drop (at_ + n).toNat := by
 unfold takeR at h ⊢
 by_cases hk : okR b at_ false n
 ·rw [if_pos hk]
  obtain ⟨_, hk0, hk⟩ := hk
  refine ⟨rfl, hk0, by omega, by dsimp only; unfold cutR; simp; omega, ?_⟩
  dsimp only
  unfold cutR
  rw [show (at_ + n).toNat = at_.toNat + n.toNat by omega, ← List.drop_drop, List.take_append_drop]
 ·rw [if_neg hk] at h
  cases h
theorem take_mem' {b : List Int} {at_ : Int} {bad : Bool} {n : Int} : ∀ x ∈ (takeR b at_ bad n).1, x ∈ b := by
 intro x hx
 unfold takeR at hx
 split at hx
 ·exact List.mem_of_mem_drop (List.mem_of_mem_take hx)
 ·cases hx
theorem num_bad_true (b : List Int) (at_ many : Int) : numR b at_ true many = (0, at_, true) := by
 unfold numR
 rw [if_neg (fun h => by cases h.1)]
theorem take_bad_true (b : List Int) (at_ n : Int) : takeR b at_ true n = ([], at_, true) := by
 unfold takeR
 rw [if_neg (fun h => by cases h.1)]
theorem text_inv {b : List Int} (hb : ∀ x ∈ b, 0 ≤ x ∧ x < 256) {at_ : Int} (h0 : 0 ≤ at_) (h1 : at_ ≤ b.length) (h : (textR b at_ false).2.2 = false) :
  (textR b at_ false).1.size ≤ 255 ∧ (textR b at_ false).2.1 = at_ + 1 + (textR b at_ false).1.size ∧ at_ + 1 + (textR b at_ false).1.size ≤ b.length ∧ b.drop at_.toNat = le 1 ((textR b at_ false).1.size : Int) ++ bytesOf (textR b at_ false).1 ++ b.drop (textR b at_ false).2.1.toNat := by
 unfold textR at h ⊢
 dsimp only at h ⊢
 have hn := num_inv hb (at_ := at_) (many := 1) (m := 1) (by decide) (by decide) h0 h1
 generalize numR b at_ false 1 = t at h hn ⊢
 cases hq : t.2.2 with
 | true => rw [hq, take_bad_true] at h; cases h
 | false =>
  obtain ⟨e1, e2, e3, e4, e5⟩ := hn hq
  rw [hq, e1] at h
  have hm := take_mem' (b := b) (at_ := at_ + (1 : Nat)) (bad := false) (n := t.1)
  have hi := take_inv (by omega) e2 h
  rw [e1]
  generalize takeR b (at_ + (1 : Nat)) false t.1 = u at h hi hm ⊢
  obtain ⟨f1, f2, f3, f4, f5⟩ := hi
  have hp : (2 : Int) ^ (8 * 1) = 256 := rfl
  rw [hp] at e4
  rw [str_size, f1, bytes_str _ (fun x hx => hb x (hm x hx))]
  refine ⟨by omega, by omega, by omega, ?_⟩
  rw [e5, f5, ← f4, ← List.append_assoc]
end Go.Proofs.YtdbfgfgbjheibaaDoor.Given
end

section
/- The document's reader's contract as printed texts call it; any reader of bytes that is not past its end. -/
namespace Go.Proofs.YtdbfgfgbjheibaaDoor.Given
set_option linter.unusedVariables false
open Go.RowKit Go.Proofs.YtdbfgfgbjheibaaDoorW.PrintWords Go.Proofs.YtdbfgfgbjheibaaDoorW.PrintLast Go.Proofs.YtdbfgfgbjheibaaDoorW.PrintMore
def r03_Reader_Num.f (s0_0 : List Int) (s0_1 : Int) (s0_2 : Bool) (a1 : Int) : Option (Int × Int × Bool) := if okB s0_0 = true then some (numR s0_0 s0_1 s0_2 a1) else none
theorem r03_Reader_Num.calls (g : Nat) (s0_0 : List Int) (s0_1 : Int) (s0_2 : Bool) (a1 : Int) (r1 : Int) (r2 : Int) (r3 : Bool) (w0 w : World) (hI : IsS71 w0 w g s0_0 s0_1 s0_2) (hB : Below w0.heap.size w0 w) (h : r03_Reader_Num.f s0_0 s0_1 s0_2 a1 = some (r1, r2, r3)) :
  Calls Tryd.prog 41 #[.pointer (some ⟨g, 0, none⟩), .int .i64 a1] w fun e w' => e = .returned (.int .i64 r1) ∧ IsS71 w0 w' g s0_0 r2 r3 ∧ Below w0.heap.size w0 w' ∧ KeepBut w w' g none := by
 unfold r03_Reader_Num.f at h
 split at h
 ·rename_i hb
  have h := zJ h
  have := rnum_calls g w0 w s0_0 s0_1 s0_2 a1 hI hB hb
  rw [h] at this
  exact this
 ·cases h
end Go.Proofs.YtdbfgfgbjheibaaDoor.Given
end

section
/- Printed by a program of this session (wip/pg.py, over the print of the kit): functions, their Lean twins, and the proofs that the calls come to them; each under the conditions that it names. -/
namespace Go.Proofs.YtdbfgfgbjheibaaDoor.PTyp
open Go.Proofs.YtdbfgfgbjheibaaDoor.Given
open Go.RowKit Go.Proofs.YtdbfgfgbjheibaaDoorW.PrintWords Go.Proofs.YtdbfgfgbjheibaaDoorW.PrintLast Go.Proofs.YtdbfgfgbjheibaaDoorW.PrintMore
attribute [local go_sem] max2_int min2_int max_two min_two max_three min_three max_four min_four   -- for this text's walks alone
set_option linter.unusedVariables false
set_option linter.unusedSimpArgs false



def errW : Option Int → Value
 | none => .nilIface
 | some c => .iface 0 (.int .i64 c)
theorem errW_none : errW none = .nilIface := rfl
theorem errW_some (c : Int) : errW (some c) = .iface 0 (.int .i64 c) := rfl

-- the values' own types

end Go.Proofs.YtdbfgfgbjheibaaDoor.PTyp
end

section
/- Printed by a program of this session (wip/pg.py, over the print of the kit): functions, their Lean twins, and the proofs that the calls come to them; each under the conditions that it names. -/
namespace Go.Proofs.YtdbfgfgbjheibaaDoor.PTyp
open Go.Proofs.YtdbfgfgbjheibaaDoor.Given
open Go.RowKit Go.Proofs.YtdbfgfgbjheibaaDoorW.PrintWords Go.Proofs.YtdbfgfgbjheibaaDoorW.PrintLast Go.Proofs.YtdbfgfgbjheibaaDoorW.PrintMore
attribute [local go_sem] max2_int min2_int max_two min_two max_three min_three max_four min_four   -- for this text's walks alone
set_option linter.unusedVariables false
set_option linter.unusedSimpArgs false

/-! ### r03_held: function 73 -/
def r03_held.f (a0 : Int) : Option (Int) := if a0 < 0 then (some 0) else (if a0 > 8 then (some 8) else (some a0))
-- NOT PRINTED: function 77 (r03_Reader_Take)


/-! ### r15_types: function 113 -/
end Go.Proofs.YtdbfgfgbjheibaaDoor.PTyp
end

section
/- Bytes as a unit, as the document reads them, plainly: it is what the program reads. -/
namespace Go.Proofs.YtdbfgfgbjheibaaDoor.Given
open Go.RowKit Go.Proofs.YtdbfgfgbjheibaaDoorW.PrintWords Go.Proofs.YtdbfgfgbjheibaaDoorW.PrintLast Go.Proofs.YtdbfgfgbjheibaaDoorW.PrintMore
set_option linter.unusedVariables false
set_option linter.unusedSimpArgs false
/-- The next numbers of a byte, one by one; where the reader is, whether it's bad. -/
def typesF (b : List Int) : Nat → Int → Bool → List Int × Int × Bool
 | 0, a, d => ([], a, d)
 | k + 1, a, d =>
  let t := numR b a d 1
  let u := typesF b k t.2.1 t.2.2
  (t.1 :: u.1, u.2)
def typesR (b : List Int) (at_ : Int) (bad : Bool) (n : Int) : List Int × Int × Bool := typesF b n.toNat at_ bad
/-- Bytes as a unit, and the error, as the document reads them. -/
def refR (b : List Int) : UD × Int :=
 let t := textR b 0 false
 let n := numR b t.2.1 t.2.2 1
 if n.2.2 = true then (zeroU, 1) else
 if n.1 > 8 then (zeroU, 5) else
 let p := typesR b n.2.1 n.2.2 n.1
 let r := numR b p.2.1 p.2.2 1
 let m := numR b r.2.1 r.2.2 2
 if m.2.2 = true then (zeroU, 1) else
 if m.1 > 1024 then (zeroU, 5) else
 let l := typesR b m.2.1 m.2.2 m.1
 let q := numR b l.2.1 l.2.2 2
 if q.2.2 = true then (zeroU, 1) else
 if q.1 > 16384 then (zeroU, 5) else
 let x := takeR b q.2.1 q.2.2 (wrap64 (5 * q.1))
 if x.2.2 = true then (zeroU, 1) else
 let c := decF x.1.length x.1 []
 if ¬ c.2.2 = 0 then (zeroU, c.2.2) else
 if (b.length : Int) - x.2.1 > 0 then (zeroU, 4) else
 ((t.1, p.1, r.1, l.1, c.1.map conv), 0)
/-! ### The loop -/
end Go.Proofs.YtdbfgfgbjheibaaDoor.Given
end

section
/- Bytes as a unit, as the document reads them: its call tells what the program's tells; bytes of at most 90000 in length. -/
namespace Go.Proofs.YtdbfgfgbjheibaaDoor.Given
open Go.RowKit Go.Proofs.YtdbfgfgbjheibaaDoorW.PrintWords Go.Proofs.YtdbfgfgbjheibaaDoorW.PrintLast Go.Proofs.YtdbfgfgbjheibaaDoorW.PrintMore
set_option linter.unusedVariables false
set_option linter.unusedSimpArgs false
def RefPost (b : List Int) (w : World) (e : Ending) (w' : World) : Prop := ∃ cs : Array Value, e = .returned (.tuple #[.agg cs, .int .i64 (refR b).2]) ∧ UOk w' w.heap.size cs (refR b).1 ∧ Below w.heap.size w w'
theorem RefPost.zero {b : List Int} {w w' : World} {e : Ending} {v : Value} {c : Int} (hG : refR b = (zeroU, c)) (he : e = .returned (.tuple #[.agg #[.string ⟨#[]⟩, .slice none 0 0, .int .i64 0, .slice none 0 0, .slice none 0 0], .int .i64 c])) (hB : Below w.heap.size w w') : RefPost b w e w' := ⟨_, by rw [he, hG], by rw [hG]; exact zero_ok _ _, hB⟩
end Go.Proofs.YtdbfgfgbjheibaaDoor.Given
end

section
/- The container's sections and units as the document reads them: they tell what the program's tell. -/
namespace Go.Proofs.YtdbfgfgbjheibaaDoor.Given
open Go Go.RowKit Go.Proofs.YtdbfgfgbjheibaaDoor Go.Proofs.YtdbfgfgbjheibaaDoorW.PrintWords Go.Proofs.YtdbfgfgbjheibaaDoorW.PrintLast Go.Proofs.YtdbfgfgbjheibaaDoorW.PrintMore
set_option linter.unusedVariables false
set_option linter.unusedSimpArgs false
end Go.Proofs.YtdbfgfgbjheibaaDoor.Given
end

section
/- The units of a container as the document reads them; bytes of at most 90000. -/
namespace Go.Proofs.YtdbfgfgbjheibaaDoor.Given
open Go Go.RowKit Go.Proofs.YtdbfgfgbjheibaaDoor Go.Proofs.YtdbfgfgbjheibaaDoorW.PrintWords Go.Proofs.YtdbfgfgbjheibaaDoorW.PrintLast Go.Proofs.YtdbfgfgbjheibaaDoorW.PrintMore
set_option linter.unusedVariables false
set_option linter.unusedSimpArgs false
/-- What the call tells. -/
def VPost (r : List SU × Int) (w : World) (e : Ending) (w' : World) : Prop := ∃ v : Value, e = .returned (.tuple #[v, .int .i64 r.2]) ∧ Kd.R PBx.k48 48 w' w.heap.size (fun _ => True) v r.1 ∧ Below w.heap.size w w'
theorem VPost.no {n : Int} {w w' : World} (hB : Below w.heap.size w w') : VPost ([], n) w (.returned (.tuple #[.slice none 0 0, .int .i64 n])) w' := ⟨_, rfl, Kd.R_nil _ _ _ _ _, hB⟩
end Go.Proofs.YtdbfgfgbjheibaaDoor.Given
end

section
/- box.read where it throws: bytes that do not begin as a container; bytes whose sum differs. -/
namespace Go.Proofs.YtdbfgfgbjheibaaDoor.Given
open Go Go.RowKit Go.Proofs.YtdbfgfgbjheibaaDoor Go.Proofs.YtdbfgfgbjheibaaDoorW.PrintWords Go.Proofs.YtdbfgfgbjheibaaDoorW.PrintLast Go.Proofs.YtdbfgfgbjheibaaDoorW.PrintMore
set_option linter.unusedVariables false
set_option linter.unusedSimpArgs false
set_option maxHeartbeats 1000000 in
set_option maxRecDepth 100000 in
theorem read_magic (A0 : Option Addr) (c0 : Nat) (l : List Int) (w : World) (h : Kd.C (Kd.int .u8) w A0 l.length l) (hc : l.length ≤ c0) (h8 : 8 ≤ l.length) (hm : l.length ≤ 1048576) (hne : ((strOfNums (l.take 4)).toList == ([76, 66, 75, 49] : List UInt8)) = false) :
  Calls Tryd.prog 25 #[.slice A0 l.length c0] w fun e w' => e = .panicked [{ v := wrongV 2, recovered := false }] ∧ Below w.heap.size w w' := by
 have hB : Below w.heap.size w (w.alloc (.cells #[.slice none 0 0, .slice none 0 0, .slice none 0 0, .slice none 0 0] 27)) := (zX _ _).alloc (z5 _) _
 have g1 : ¬ ((l.length : Int) > 1048576) := by omega
 have g2 : ¬ ((l.length : Int) < 8) := by omega
 have HM := zA (fun W => must_bad 2 (by decide) W)
 have HB := zA hB
 have HH := zA (zD h hB)
 have h4 := Kd.C_take (m := 4) (zD h hB) (by omega)
 have y4 : (l.take 4).length = 4 := by rw [zt]; omega
 obtain ⟨y, hy⟩ : ∃ y, y = l.take 4 := ⟨_, rfl⟩
 rw [← hy] at h4 hne y4
 have hcv := Kd.C_string (P := Tryd.prog) (A := A0) (c := c0) Tryd.underlying28 Tryd.underlying5 Tryd.underlying9 (y4 ▸ h4)
 first | rw [y4] at hcv | skip
 clear h hB h4 hy y4
 go_enter Tryd.func25, Tryd.ntmps25
 go_wp2_with fail
 refine (HM.out _).mono ?_
 rintro e w2 ⟨rfl, rfl⟩
 exact ⟨rfl, rfl, HB.out⟩
set_option maxHeartbeats 2000000 in
set_option maxRecDepth 100000 in
/-- Bytes that begin as a container, whose sum differs: w's end is the last four bytes' number, s the sum of the others. -/
theorem read_sum (A0 : Option Addr) (c0 : Nat) (l : List Int) (w : World) (h : Kd.C (Kd.int .u8) w A0 l.length l) (hc : l.length ≤ c0) (h8 : 8 ≤ l.length) (hm : l.length ≤ 1048576) (hb : ∀ x ∈ l, 0 ≤ x ∧ x < 256) (heq : ((strOfNums (l.take 4)).toList == ([76, 66, 75, 49] : List UInt8)) = true)
  (hne : ¬ (numR (l.drop (l.length - 4)) 0 false 4).1 = 4294967295 - overF 4294967295 (l.take (l.length - 4))) :
  Calls Tryd.prog 25 #[.slice A0 l.length c0] w fun e w' => e = .panicked [{ v := wrongV 3, recovered := false }] ∧ Below w.heap.size w w' := by
 have hB : Below w.heap.size w (w.alloc (.cells #[.slice none 0 0, .slice none 0 0, .slice none 0 0, .slice none 0 0] 27)) := (zX _ _).alloc (z5 _) _
 have g1 : ¬ ((l.length : Int) > 1048576) := by omega
 have g2 : ¬ ((l.length : Int) < 8) := by omega
 have HM := zA (fun W => must_bad 3 (by decide) W)
 have HB := zA hB
 have HH := zA (zD h hB)
 have h4 := Kd.C_take (m := 4) (zD h hB) (by omega)
 have y4 : (l.take 4).length = 4 := by rw [zt]; omega
 obtain ⟨y, hy⟩ : ∃ y, y = l.take 4 := ⟨_, rfl⟩
 rw [← hy] at h4 heq y4
 have hcv := Kd.C_string (P := Tryd.prog) (A := A0) (c := c0) Tryd.underlying28 Tryd.underlying5 Tryd.underlying9 (y4 ▸ h4)
 first | rw [y4] at hcv | skip
 have hz : (Tryd.prog.info? 5).map (·.size) = some 1 := by kernel_rfl
 obtain ⟨i0, hi0, hsz0⟩ := Option.map_eq_some_iff.1 hz
 have hs1 := cut_from (P := Tryd.prog) 28 5 .i64 Tryd.underlying28 hi0 1 hsz0 A0 l.length c0 ((l.length : Int) - 4) (by omega) (by omega)
 have hs2 := cut_to (P := Tryd.prog) 28 5 .i64 Tryd.underlying28 hi0 A0 l.length c0 ((l.length : Int) - 4) (by omega) (by omega) hc
 have e1 : ((l.length : Int) - 4).toNat = l.length - 4 := by omega
 have hC1 := Kd.C_drop (m := l.length - 4) (zD h hB) (by omega) hc
 have hC2 := Kd.C_take (m := l.length - 4) (zD h hB) (by omega)
 have e2 : l.length - (l.length - 4) = (l.drop (l.length - 4)).length := by rw [zd]
 have e3 : l.length - 4 = (l.take (l.length - 4)).length := by rw [zt]; omega
 rw [e1] at hs1 hs2
 rw [show (Kd.int .u8).sz = 1 from rfl] at hC1
 have hd1 : (l.drop (l.length - 4)).length = 4 := by rw [zd]; omega
 have hb1 : okB (l.drop (l.length - 4)) = true := by unfold okB; simp only [Bool.and_eq_true, List.all_eq_true, decide_eq_true_eq]; exact ⟨fun x hx => hb x (List.mem_of_mem_drop hx), by omega⟩
 have hbT : ∀ x ∈ l.take (l.length - 4), 0 ≤ x ∧ x < 256 := fun x hx => hb x (List.mem_of_mem_take hx)
 have hlT : (l.take (l.length - 4)).length ≤ 1000000000 := by rw [zt]; omega
 have hk1 : (l.drop (l.length - 4)).length ≤ c0 - (l.length - 4) := by rw [zd]; omega
 have hk2 : (l.take (l.length - 4)).length ≤ c0 := by rw [← e3]; omega
 rw [e2] at hs1
 generalize (if c0 = l.length - 4 then A0 else Option.map (fun x => x.add ((l.length - 4) * 1)) A0) = A1 at hs1 hC1
 generalize c0 - (l.length - 4) = c1 at hs1 hk1
 rw [e3] at hs2
 generalize hD : l.drop (l.length - 4) = D at *
 generalize hT : l.take (l.length - 4) = T at *
 have PN := zA (fun W (hW : Below (w.alloc (.cells #[.slice none 0 0, .slice none 0 0, .slice none 0 0, .slice none 0 0] 27)).heap.size (w.alloc (.cells #[.slice none 0 0, .slice none 0 0, .slice none 0 0, .slice none 0 0] 27)) W) => new_calls A1 c1 D W (zD hC1 hW) hk1 (by omega))
 have PT := zA (fun W (hW : Below (w.alloc (.cells #[.slice none 0 0, .slice none 0 0, .slice none 0 0, .slice none 0 0] 27)).heap.size (w.alloc (.cells #[.slice none 0 0, .slice none 0 0, .slice none 0 0, .slice none 0 0] 27)) W) => Of_calls A0 c0 T W (zD hC2 hW) hk2 hlT hbT)
 have HO := zA hb1
 clear h hB h4 y4 hC1 hC2 e1 e2 e3 hz hi0 hsz0 hb1 hk1 hk2 hb hd1 hbT hlT
 clear hD hT hy
 go_enter Tryd.func25, Tryd.ntmps25
 go_wp2_with fail
 go_region_with (first
  | (go_at_call 59; refine (PN.out _ (by first | exact (zX _ _) | exact (below_drew1 (zX _ _)))).mono ?_; rintro e w8 ⟨w7, g, rfl, hI8, hb7, hb8⟩; have hb78 := hb7.trans (hb8.mono hb7.size))
  | (go_at_call 60; refine (num_calls g w7 _ D 0 false 4 hI8 hb8 HO.out).mono ?_; rintro e w9 ⟨rfl, hI9, hb9, hk9⟩)
  | (go_at_call 23; refine (PT.out _ (by first | exact hb7.trans (hb9.mono hb7.size) | exact (below_drew1 (zX _ _)).trans (hb7.trans (hb9.mono hb7.size)))).mono ?_; rintro e w10 ⟨rfl, hb10⟩))
 simp only [Act.put, zY, List.set_cons_zero, z2]
 have hB0 := below_drew1 HB.out
 have hB9 := hB0.trans ((hb7.trans (hb9.mono hb7.size)).mono hB0.size)
 have HB9 := zA (hB9.trans (hb10.mono hB9.size))
 have hbne : ((numR D 0 false 4).1 != IntKind.i64.wrap (4294967295 - overF 4294967295 T)) = true := by
  have hlim := overF_lim 4294967295 (by decide) T
  rw [i64_w, show wrap64 (4294967295 - overF 4294967295 T) = 4294967295 - overF 4294967295 T by unfold wrap64; omega]
  simpa using hne
 have hbne2 : ¬ (numR D 0 false 4).1 = IntKind.i64.wrap (4294967295 - overF 4294967295 T) := by simpa using hbne
 go_wp2_with fail
 refine (HM.out _).mono ?_
 rintro e w11 ⟨rfl, rfl⟩
 exact ⟨rfl, rfl, HB9.out⟩
end Go.Proofs.YtdbfgfgbjheibaaDoor.Given
end
