/- The statement FnExactReversesOrientationSaid, proved: part 2 of 8 (texts of this session and of the kit's print, put together and cut to what is used by a program of it). -/
import Derived.Test.YtembbpalgfikiaaMFnExactReversesOrientation1
import Derived.Test.YtembbpalgfikiaaProg
import Derived.Below
import Derived.Deep.Draws
import Derived.Deep.AppendLies
import Derived.Maps.AppendAt
import Derived.OwnWalk
import Derived.Laws.BytesArg
import Derived.Laws.MakeOwn
import Derived.Laws.OwnMore
import Derived.Deep.OwnRows
import Derived.Tactics
import Derived.Lib.ConvBytes
import Derived.Laws.Slices
import Derived.WalkKit
import Derived.KernelRfl
import Derived.RowKit3
import Derived.Deep.LoopGhost
import Derived.Deep.QuietTactic
import Derived.BigQuiet
import Derived.WideLaws
import Derived.Deep.DeepCutAuto
import Derived.Deep.CutBlock
import Derived.Deep.RegionHeld3
import Derived.Laws.Rows
import Derived.Lib.AppendStr
import Derived.ArgAppend
import Derived.Laws.IdiomCopy
import Derived.OrdersHeld
import Derived.Laws.BitsLemmas
import Derived.RowKit
import Derived.Shelf.SlicesG.Delete
import Derived.Ground.SlgnProg
import Derived.Sort.Row
namespace Go.Proofs.Ytembbpalgfikiaa
abbrev yay := @List.setIfInBounds_toArray
abbrev yby := @List.set_cons_zero
abbrev ycy := @List.set_cons_succ
abbrev ydy := @Option.bind_eq_some_iff
abbrev yey := @Option.some.inj
abbrev yfy := @Option.bind_some
abbrev ygy := @decide_eq_true
abbrev yhy := @decide_eq_false
abbrev yiy := @List.map_toArray
abbrev yjy := @List.map_cons
abbrev yky := @List.map_nil
abbrev yly := @List.length_drop
abbrev ymy := @List.length_take
abbrev yny := @Go.World.block_lt_of_cell?
abbrev yoy := @Nat.le_refl
end Go.Proofs.Ytembbpalgfikiaa
namespace Go.Proofs.Ytembbpalgfikiaa.P
open Go.RowKit Go.Proofs.YtembbpalgfikiaaW.PrintWords Go.Proofs.YtembbpalgfikiaaW.PrintLast Go.Proofs.YtembbpalgfikiaaW.PrintMore
attribute [local go_sem] max2_int min2_int max_two min_two max_three min_three max_four min_four   -- for this text's walks alone
set_option linter.unusedVariables false
set_option linter.unusedSimpArgs false
def errW : Option Int → Value
  | none => .nilIface
  | some c => .iface 0 (.int .i64 c)
theorem errW_none : errW none = .nilIface := rfl
theorem errW_some (c : Int) : errW (some c) = .iface 0 (.int .i64 c) := rfl
theorem info2 : (Try.prog.info? 2).map (fun i => (i.zero, i.size, i.bytes)) = some (some (.int .i64 0), 1, 8) := by kernel_rfl
theorem info22 : (Try.prog.info? 22).map (fun i => (i.zero, i.size, i.bytes)) = some (some (.slice none 0 0), 1, 24) := by kernel_rfl
theorem info75 : (Try.prog.info? 75).map (fun i => (i.zero, i.size, i.bytes)) = some (some (.agg #[(.int .i64 0), (.int .i64 0)]), 2, 16) := by kernel_rfl
theorem info76 : (Try.prog.info? 76).map (fun i => (i.zero, i.size, i.bytes)) = some (some (.slice none 0 0), 1, 24) := by kernel_rfl
-- the values' own types
def rd_LInt (xs : List (List Int)) (i : Int) : (List Int) := xs.getD i.toNat ([] : List Int)
theorem at_LInt {w : World} {A : Option Addr} {n : Nat} {xs : List (List Int)} (h : Kd.C (Kd.slice 2 (Kd.int .i64)) w A n xs) (i : Int) (h0 : 0 ≤ i) (h1 : i < n) : ∃ ad A0 c0, A = some ad ∧ w.cell? (ad.add i.toNat) = some (.slice A0 (rd_LInt xs i).length c0) ∧ (rd_LInt xs i).length ≤ c0 ∧ (Kd.int .i64).C w A0 (rd_LInt xs i).length (rd_LInt xs i) := by
  obtain ⟨ad, c, e, _, hK, hc0⟩ := Kd.C_get h ([] : List Int) i h0 h1
  have hc : ∀ j u, c[j]? = some u → w.cell? (ad.add (i.toNat * 1 + j)) = some u := hc0
  obtain ⟨A0, c0, rfl, l0, g0⟩ := hK
  exact ⟨ad, A0, c0, e, by have hq := hc 0 _ rfl; rwa [Nat.mul_one, Nat.add_zero] at hq, l0, g0⟩
/-! #### struct type 118 -/
structure SLawFace where
  f0 : Int
  f1 : Int
def zLawFace : SLawFace := ⟨(0 : Int), (0 : Int)⟩
def kLawFace : Kd SLawFace := Kd.iso (Kd.pair (Kd.int .i64) (Kd.int .i64)) (fun x : SLawFace => (x.f0, x.f1))
theorem kLawFace_open {w : World} {x : SLawFace} {cs : List Value} (h : kLawFace.K w x cs) : cs = [.int .i64 x.f0, .int .i64 x.f1] := by
  obtain ⟨_, _, rfl, rfl, rfl⟩ := h
  exact rfl
theorem kLawFace_mk (w : World) (x : SLawFace)  : kLawFace.K w x [.int .i64 x.f0, .int .i64 x.f1] := ⟨[.int .i64 x.f0], [.int .i64 x.f1], rfl, rfl, rfl⟩
def rd_LawFace (xs : List SLawFace) (i : Int) : SLawFace := xs.getD i.toNat zLawFace
theorem at_LawFace {w : World} {A : Option Addr} {n : Nat} {xs : List SLawFace} (h : Kd.C kLawFace w A n xs) (i : Int) (h0 : 0 ≤ i) (h1 : i < n) : ∃ ad , A = some ad ∧ w.cell? (ad.add (i.toNat * 2)) = some (.int .i64 (rd_LawFace xs i).f0) ∧ w.cell? ⟨(ad.add (i.toNat * 2)).block, (ad.add (i.toNat * 2)).off + 1, none⟩ = some (.int .i64 (rd_LawFace xs i).f1) := by
  obtain ⟨ad, c, e, _, hK, hc0⟩ := Kd.C_get h zLawFace i h0 h1
  have hc : ∀ j u, c[j]? = some u → w.cell? (ad.add (i.toNat * 2 + j)) = some u := hc0
  obtain rfl := kLawFace_open hK
  exact ⟨ad, e, hc 0 _ rfl, by rw [← add_field _ _ 1 (by omega)]; exact hc 1 _ rfl⟩
def rd_LLawFace (xs : List (List SLawFace)) (i : Int) : (List SLawFace) := xs.getD i.toNat ([] : List SLawFace)
theorem at_LLawFace {w : World} {A : Option Addr} {n : Nat} {xs : List (List SLawFace)} (h : Kd.C (Kd.slice 118 kLawFace) w A n xs) (i : Int) (h0 : 0 ≤ i) (h1 : i < n) : ∃ ad A0 c0, A = some ad ∧ w.cell? (ad.add i.toNat) = some (.slice A0 (rd_LLawFace xs i).length c0) ∧ (rd_LLawFace xs i).length ≤ c0 ∧ kLawFace.C w A0 (rd_LLawFace xs i).length (rd_LLawFace xs i) := by
  obtain ⟨ad, c, e, _, hK, hc0⟩ := Kd.C_get h ([] : List SLawFace) i h0 h1
  have hc : ∀ j u, c[j]? = some u → w.cell? (ad.add (i.toNat * 1 + j)) = some u := hc0
  obtain ⟨A0, c0, rfl, l0, g0⟩ := hK
  exact ⟨ad, A0, c0, e, by have hq := hc 0 _ rfl; rwa [Nat.mul_one, Nat.add_zero] at hq, l0, g0⟩
/-! #### struct type 75 -/
structure SFace where
  f0 : Int
  f1 : Int
def zFace : SFace := ⟨(0 : Int), (0 : Int)⟩
def kFace : Kd SFace := Kd.iso (Kd.pair (Kd.int .i64) (Kd.int .i64)) (fun x : SFace => (x.f0, x.f1))
theorem kFace_open {w : World} {x : SFace} {cs : List Value} (h : kFace.K w x cs) : cs = [.int .i64 x.f0, .int .i64 x.f1] := by
  obtain ⟨_, _, rfl, rfl, rfl⟩ := h
  exact rfl
theorem kFace_openM {w : World} {base : Nat} {ok : Nat → Prop} {x : SFace} {cs : List Value} (h : kFace.M w base ok x cs) : cs = [.int .i64 x.f0, .int .i64 x.f1] := by
  obtain ⟨_, _, rfl, rfl, rfl⟩ := h
  exact rfl
theorem kFace_mkM (w : World) (base : Nat) (ok : Nat → Prop) (x : SFace)  : kFace.M w base ok x [.int .i64 x.f0, .int .i64 x.f1] := ⟨[.int .i64 x.f0], [.int .i64 x.f1], rfl, rfl, rfl⟩
def rd_Face (xs : List SFace) (i : Int) : SFace := xs.getD i.toNat zFace
theorem at_Face {w : World} {A : Option Addr} {n : Nat} {xs : List SFace} (h : Kd.C kFace w A n xs) (i : Int) (h0 : 0 ≤ i) (h1 : i < n) : ∃ ad , A = some ad ∧ w.cell? (ad.add (i.toNat * 2)) = some (.int .i64 (rd_Face xs i).f0) ∧ w.cell? ⟨(ad.add (i.toNat * 2)).block, (ad.add (i.toNat * 2)).off + 1, none⟩ = some (.int .i64 (rd_Face xs i).f1) := by
  obtain ⟨ad, c, e, _, hK, hc0⟩ := Kd.C_get h zFace i h0 h1
  have hc : ∀ j u, c[j]? = some u → w.cell? (ad.add (i.toNat * 2 + j)) = some u := hc0
  obtain rfl := kFace_open hK
  exact ⟨ad, e, hc 0 _ rfl, by rw [← add_field _ _ 1 (by omega)]; exact hc 1 _ rfl⟩
def rd_LFace (xs : List (List SFace)) (i : Int) : (List SFace) := xs.getD i.toNat ([] : List SFace)
theorem at_LFace {w : World} {A : Option Addr} {n : Nat} {xs : List (List SFace)} (h : Kd.C (Kd.slice 75 kFace) w A n xs) (i : Int) (h0 : 0 ≤ i) (h1 : i < n) : ∃ ad A0 c0, A = some ad ∧ w.cell? (ad.add i.toNat) = some (.slice A0 (rd_LFace xs i).length c0) ∧ (rd_LFace xs i).length ≤ c0 ∧ kFace.C w A0 (rd_LFace xs i).length (rd_LFace xs i) := by
  obtain ⟨ad, c, e, _, hK, hc0⟩ := Kd.C_get h ([] : List SFace) i h0 h1
  have hc : ∀ j u, c[j]? = some u → w.cell? (ad.add (i.toNat * 1 + j)) = some u := hc0
  obtain ⟨A0, c0, rfl, l0, g0⟩ := hK
  exact ⟨ad, A0, c0, e, by have hq := hc 0 _ rfl; rwa [Nat.mul_one, Nat.add_zero] at hq, l0, g0⟩
/-! #### struct type 35 -/
/-! ### impl_Face_isBoundary: function 77 -/
def impl_Face_isBoundary.f (a0_0 : Int) (a0_1 : Int) : Option (Bool) := some (decide (a0_0 < 0))
set_option maxHeartbeats 8000000 in
set_option maxRecDepth 100000 in
theorem impl_Face_isBoundary.calls (a0_0 : Int) (a0_1 : Int) (r : Bool) (w : World) (h : impl_Face_isBoundary.f a0_0 a0_1 = some r) :
    Calls Try.prog 77 #[.agg #[.int .i64 a0_0, .int .i64 a0_1]] w fun e w' => e = .returned (.bool r) ∧ Below w.heap.size w w' := by
  have hu75 := Try.underlying75
  have HB := Aside0.mk (Below.refl w.heap.size w)
  have H : (some (decide (a0_0 < 0))) = some r := h
  clear h
  obtain rfl := yey H
  go_enter Try.func77, Try.ntmps77
  go_wp2_with (first | ((with_reducible refine gate_dst (N := 1) rfl ?_); refine box_event ?hg (N := 1) ?hd (cs := #[.int .i64 a0_0, .int .i64 a0_1]) (t := 75) ?hr ?_; (case hd => rfl); (case hg => rfl); (case hr => first | (go_simp; done) | (go_simp; rfl)); intro gb101 hg w2 hbox hb; have n0_ := Aside0.mk (below_step (by repeat (first | (with_reducible first | exact HB.out | apply below_alloc | apply pw_below_drewN | apply below_drew1) | exact HB.out)) hb); have n1_ := Aside0.mk (hbox); have n2_ := Aside0.mk ((by rw [hg]; exact (below_size (by repeat (first | (with_reducible first | exact HB.out | apply below_alloc | apply pw_below_drewN | apply below_drew1) | exact HB.out))) : w.heap.size ≤ gb101)); have n3_ := Aside0.mk ((by rw [hg]; exact (below_size (by repeat (first | (with_reducible first | exact HB.out | apply below_alloc | apply pw_below_drewN | apply below_drew1) | exact HB.out))) : w.heap.size ≤ gb101)); clear HB; have HB := n0_; have BK101 := n1_; have GW101 := n2_; have GE101 := n3_; clear n0_ n1_ n2_ n3_; clear hb hbox hg; have hcz3_0 : w2.cell? ⟨gb101, 0, none⟩ = some (.int .i64 a0_0) := (blk_cell BK101.out 0).trans rfl; have hcz3_1 : w2.cell? ⟨gb101, 1, none⟩ = some (.int .i64 a0_1) := (blk_cell BK101.out 1).trans rfl; have hfz3_0 := blk_frozen BK101.out 0; have hfz3_1 := blk_frozen BK101.out 1))
  go_ret
  exact ⟨by first | rfl | (simp [errW_none, errW_some] <;> rfl) | (simp [*, errW_none, errW_some] <;> rfl), by repeat (first | (with_reducible first | exact HB.out | apply below_alloc | apply pw_below_drewN | apply below_drew1 | refine below_set ?_ GE101.out) | exact HB.out)⟩
/-! ### impl_Triangulation_isPath: function 72 -/
def impl_Triangulation_isPath.l0 : Nat → List (List Int) → List (List Int) → Int → Int → List (List (SFace)) → Option (Bool)
 | 0, _, _, _, _, _ => none
 | k + 1, x1, x8, x9, x10, x102000 => if x10 < x9 then (if 0 ≤ x10 then (if x10 < (x8.length : Int) then (if 0 < ((rd_LInt x8 x10).length : Int) then (if 0 ≤ (rd (rd_LInt x8 x10) 0) then (if (rd (rd_LInt x8 x10) 0) < (x102000.length : Int) then (if 1 < ((rd_LInt x8 x10).length : Int) then (if 0 ≤ (rd (rd_LInt x8 x10) 1) then (if (rd (rd_LInt x8 x10) 1) < ((rd_LFace x102000 (rd (rd_LInt x8 x10) 0)).length : Int) then ((impl_Face_isBoundary.f ((rd_Face (rd_LFace x102000 (rd (rd_LInt x8 x10) 0)) (rd (rd_LInt x8 x10) 1)).f0) ((rd_Face (rd_LFace x102000 (rd (rd_LInt x8 x10) 0)) (rd (rd_LInt x8 x10) 1)).f1)).bind fun t108 => (if t108 = true then (some false) else (if (x1.length : Int) = 0 then (none) else (if 0 ≤ (Int.tmod (wrap64 (x10 + 1)) (x1.length : Int)) then (if (Int.tmod (wrap64 (x10 + 1)) (x1.length : Int)) < (x1.length : Int) then (if 0 < ((rd_LInt x1 (Int.tmod (wrap64 (x10 + 1)) (x1.length : Int))).length : Int) then (if ((rd_Face (rd_LFace x102000 (rd (rd_LInt x8 x10) 0)) (rd (rd_LInt x8 x10) 1)).f0) = (rd (rd_LInt x1 (Int.tmod (wrap64 (x10 + 1)) (x1.length : Int))) 0) then (impl_Triangulation_isPath.l0 k x1 x8 x9 (wrap64 (x10 + 1)) x102000) else (some false)) else (none)) else (none)) else (none))))) else (none)) else (none)) else (none)) else (none)) else (none)) else (none)) else (none)) else (none)) else (some (decide ((x1.length : Int) > 0)))
def impl_Triangulation_isPath.f (k : Nat) (l0_0 : List (List (SFace))) (l1 : List (List Int)) : Option (Bool) := impl_Triangulation_isPath.l0 k l1 l1 (l1.length : Int) 0 l0_0
def impl_Triangulation_isPath.T4 : Bool × List (List Nat × List Nat) := (true, [([], []), ([0], [0]), ([], []), ([2], [2]), ([3], [3]), ([1, 4], [1, 4]), ([5], [5]), ([], []), ([7], [7]), ([8], [8]), ([6, 9], [6, 9]), ([10], [10]), ([], []), ([12, 11, 0, 1, 2, 3, 4, 5, 6, 7, 8, 9, 10, 11, 12], [11, 12])])
def impl_Triangulation_isPath.B4 : List Nat := [0, 1, 0, 4, 12, 31, 63, 0, 128, 384, 1023, 2047, 0, 8191]
theorem impl_Triangulation_isPath.tab4 : rtab .any (opsOf Try.f72 4) = impl_Triangulation_isPath.T4 := by kernel_rfl
theorem impl_Triangulation_isPath.bits4 : waitsOk impl_Triangulation_isPath.T4.2 impl_Triangulation_isPath.B4 = true := by kernel_rfl
def impl_Triangulation_isPath.T5 : Bool × List (List Nat × List Nat) := (true, [([], []), ([0], [0]), ([1, 1], [1]), ([2], [2]), ([3, 2], [2, 3]), ([2], [2]), ([2], [2]), ([6, 2], [2, 6]), ([2], [2]), ([8, 2], [2, 8]), ([7, 9, 2], [2, 7, 9]), ([5, 10, 2], [2, 5, 10]), ([11, 2], [2, 11]), ([12, 2], [2, 12]), ([13, 2], [2, 13]), ([4, 14, 2], [2, 4, 14]), ([2, 15], [2, 15])])
def impl_Triangulation_isPath.B5 : List Nat := [0, 1, 3, 7, 15, 7, 7, 71, 7, 263, 967, 2023, 4071, 8167, 16359, 32767, 65535]
theorem impl_Triangulation_isPath.tab5 : rtab .any (opsOf Try.f72 5) = impl_Triangulation_isPath.T5 := by kernel_rfl
theorem impl_Triangulation_isPath.bits5 : waitsOk impl_Triangulation_isPath.T5.2 impl_Triangulation_isPath.B5 = true := by kernel_rfl
set_option maxHeartbeats 8000000 in
set_option maxRecDepth 100000 in
theorem impl_Triangulation_isPath.calls (k : Nat) (A0_0 : Option Addr) (c0_0 : Nat) (l0_0 : List (List (SFace))) (A1 : Option Addr) (c1 : Nat) (l1 : List (List Int)) (r : Bool) (w : World) (hr0_0 : Kd.C (Kd.slice 75 kFace) w A0_0 l0_0.length l0_0) (hc0_0 : l0_0.length ≤ c0_0) (hr1 : Kd.C (Kd.slice 2 (Kd.int .i64)) w A1 l1.length l1) (hc1 : l1.length ≤ c1) (h : impl_Triangulation_isPath.f k l0_0 l1 = some r) :
 Calls Try.prog 72 #[.agg #[.slice A0_0 l0_0.length c0_0], .slice A1 l1.length c1] w fun e w' => e = .returned (.bool r) ∧ Below w.heap.size w w' := by
 have hu35 := Try.underlying35
 have hu75 := Try.underlying75
 have HR0_0 := Aside0.mk hr0_0
 have HC0_0 := Aside0.mk hc0_0
 clear hr0_0 hc0_0
 have HR1 := Aside0.mk hr1
 have HC1 := Aside0.mk hc1
 clear hr1 hc1
 have HB := Aside0.mk (Below.refl w.heap.size w)
 have H : (impl_Triangulation_isPath.l0 k l1 l1 (l1.length : Int) 0 l0_0) = some r := h
 clear h
 have H' := Aside0.mk H
 clear H
 go_enter Try.func72, Try.ntmps72
 go_wp2_with (first | ((with_reducible refine gate_dst (N := 2) rfl ?_); (try (refine gate_guard (by rfl) ?_; dsimp only)); refine box_event ?hg (N := 2) ?hd (cs := #[.slice A0_0 l0_0.length c0_0]) (t := 35) ?hr ?_; (case hd => rfl); (case hg => rfl); (case hr => first | (go_simp; done) | (go_simp; rfl)); intro gb101 hg w3 hbox hb; have n0_ := Aside0.mk (below_step (by repeat (first | (with_reducible first | exact HB.out | apply below_alloc | apply pw_below_drewN | apply below_drew1) | exact HB.out)) hb); have n1_ := Aside0.mk (hbox); have n2_ := Aside0.mk ((by rw [hg]; exact (below_size (by repeat (first | (with_reducible first | exact HB.out | apply below_alloc | apply pw_below_drewN | apply below_drew1) | exact HB.out))) : w.heap.size ≤ gb101)); have n3_ := Aside0.mk ((by rw [hg]; exact (below_size (by repeat (first | (with_reducible first | exact HB.out | apply below_alloc | apply pw_below_drewN | apply below_drew1) | exact HB.out))) : w.heap.size ≤ gb101)); clear HB; have HB := n0_; have BK101 := n1_; have GW101 := n2_; have GE101 := n3_; clear n0_ n1_ n2_ n3_; clear hb hbox hg))
 go_loopg [10] k (fun kq v10 w' => ∃ (x10_1 : Int), v10 = .int .i64 x10_1 ∧ Aside0 (impl_Triangulation_isPath.l0 kq l1 l1 (l1.length : Int) x10_1 l0_0 = some r) ∧ Aside0 (kq ≤ k) ∧ Aside0 (w'.heap[gb101]? = some (.cells #[(.slice A0_0 l0_0.length c0_0)] 35 (0, 0))) ∧ Aside0 (Below w.heap.size w w'))
 case atStart => exact ⟨(0), (by first | rfl | (simp; done) | (simp [*]; done)), H', ⟨yoy _⟩, ⟨by (with_reducible repeat (first | refine blk_drewN ?_ _ | refine blk_drew ?_ | refine blk_alloc ?_ _)); exact BK101.out⟩, ⟨by repeat (first | (with_reducible first | exact HB.out | apply below_alloc | apply pw_below_drewN | apply below_drew1 | refine below_set ?_ GE101.out) | exact HB.out)⟩⟩
 case round =>
  clear H'
  try clear c1
  try clear p2
  obtain ⟨x10_1, rfl, HA, HK1, BK101, HB⟩ := hrel
  cases gk with
  | zero => exact absurd HA.out (by simp [impl_Triangulation_isPath.l0])
  | succ k1 =>
   have H := HA.out
   clear HA
   simp only [impl_Triangulation_isPath.l0] at H
   by_cases c4 : x10_1 < (l1.length : Int)
   rotate_left
   next =>
    rw [if_neg c4] at H
    have c4b0 : decide (x10_1 < (l1.length : Int)) = false := yhy c4
    clear c4
    obtain rfl := yey H
    go_wp2
    go_ret
    exact ⟨by first | rfl | (simp [errW_none, errW_some] <;> rfl) | (simp [*, errW_none, errW_some] <;> rfl), by repeat (first | (with_reducible first | exact HB.out | apply below_alloc | apply pw_below_drewN | apply below_drew1 | refine below_set ?_ GE101.out) | exact HB.out)⟩
   rw [if_pos c4] at H
   have c4b0 : decide (x10_1 < (l1.length : Int)) = true := ygy c4
   clear c4
   by_cases c5 : 0 ≤ x10_1
   rotate_left
   next =>
    rw [if_neg c5] at H
    exact absurd H (by simp)
   rw [if_pos c5] at H
   have c5b0 : decide (0 ≤ x10_1) = true := ygy c5
   clear c5
   by_cases c6 : x10_1 < (l1.length : Int)
   rotate_left
   next =>
    rw [if_neg c6] at H
    exact absurd H (by simp)
   rw [if_pos c6] at H
   have c6b0 : decide (x10_1 < (l1.length : Int)) = true := ygy c6
   clear c6
   by_cases c7 : 0 < ((rd_LInt l1 x10_1).length : Int)
   rotate_left
   next =>
    rw [if_neg c7] at H
    exact absurd H (by simp)
   rw [if_pos c7] at H
   have c7b0 : decide (0 < ((rd_LInt l1 x10_1).length : Int)) = true := ygy c7
   have c7b1 : decide (0 < (rd_LInt l1 x10_1).length) = true := ygy (by omega)
   clear c7
   by_cases c8 : 0 ≤ (rd (rd_LInt l1 x10_1) 0)
   rotate_left
   next =>
    rw [if_neg c8] at H
    exact absurd H (by simp)
   rw [if_pos c8] at H
   have c8b0 : decide (0 ≤ (rd (rd_LInt l1 x10_1) 0)) = true := ygy c8
   clear c8
   by_cases c9 : (rd (rd_LInt l1 x10_1) 0) < (l0_0.length : Int)
   rotate_left
   next =>
    rw [if_neg c9] at H
    exact absurd H (by simp)
   rw [if_pos c9] at H
   have c9b0 : decide ((rd (rd_LInt l1 x10_1) 0) < (l0_0.length : Int)) = true := ygy c9
   clear c9
   by_cases c10 : 1 < ((rd_LInt l1 x10_1).length : Int)
   rotate_left
   next =>
    rw [if_neg c10] at H
    exact absurd H (by simp)
   rw [if_pos c10] at H
   have c10b0 : decide (1 < ((rd_LInt l1 x10_1).length : Int)) = true := ygy c10
   have c10b1 : decide (1 < (rd_LInt l1 x10_1).length) = true := ygy (by omega)
   clear c10
   by_cases c11 : 0 ≤ (rd (rd_LInt l1 x10_1) 1)
   rotate_left
   next =>
    rw [if_neg c11] at H
    exact absurd H (by simp)
   rw [if_pos c11] at H
   have c11b0 : decide (0 ≤ (rd (rd_LInt l1 x10_1) 1)) = true := ygy c11
   clear c11
   by_cases c12 : (rd (rd_LInt l1 x10_1) 1) < ((rd_LFace l0_0 (rd (rd_LInt l1 x10_1) 0)).length : Int)
   rotate_left
   next =>
    rw [if_neg c12] at H
    exact absurd H (by simp)
   rw [if_pos c12] at H
   have c12b0 : decide ((rd (rd_LInt l1 x10_1) 1) < ((rd_LFace l0_0 (rd (rd_LInt l1 x10_1) 0)).length : Int)) = true := ygy c12
   clear c12
   replace H := ydy.mp H
   obtain ⟨t108, A130, H⟩ := H
   replace H : (if t108 = true then (some false) else (if (l1.length : Int) = 0 then (none) else (if 0 ≤ (Int.tmod (wrap64 (x10_1 + 1)) (l1.length : Int)) then (if (Int.tmod (wrap64 (x10_1 + 1)) (l1.length : Int)) < (l1.length : Int) then (if 0 < ((rd_LInt l1 (Int.tmod (wrap64 (x10_1 + 1)) (l1.length : Int))).length : Int) then (if ((rd_Face (rd_LFace l0_0 (rd (rd_LInt l1 x10_1) 0)) (rd (rd_LInt l1 x10_1) 1)).f0) = (rd (rd_LInt l1 (Int.tmod (wrap64 (x10_1 + 1)) (l1.length : Int))) 0) then (impl_Triangulation_isPath.l0 k1 l1 l1 (l1.length : Int) (wrap64 (x10_1 + 1)) l0_0) else (some false)) else (none)) else (none)) else (none)))) = some r := H
   have A13 := Aside0.mk A130
   clear A130
   by_cases c14 : t108 = true
   next =>
    subst c14
    have H1 : (some false) = some r := by rw [if_pos rfl] at H; exact H
    clear H
    have H := H1
    clear H1
    obtain rfl := yey H
    have p102 : 0 ≤ (x10_1 : Int) := of_decide_eq_true (by first | (with_reducible assumption) | assumption)
    have q102 : x10_1 < (l1.length : Int) := of_decide_eq_true (by first | (with_reducible assumption) | assumption)
    obtain ⟨ad102, A102_0, c102_0, e102, hx102_0, hl102_0, hi102_0⟩ := at_LInt HR1.out x10_1 p102 q102
    cases e102
    replace hx102_0 := (HB.out.cell (yny w _ hx102_0)).trans hx102_0
    have HR102_0 := Aside0.mk hi102_0
    have HC102_0 := Aside0.mk hl102_0
    clear hi102_0 hl102_0
    replace p102 := eq_true p102
    replace q102 := eq_true q102
    try go_wp2
    have n0_ := Aside0.mk (blk_drew BK101.out)
    have n1_ := Aside0.mk (below_drew1 HB.out)
    clear BK101
    clear HB
    have BK101 := n0_
    have HB := n1_
    clear n0_ n1_
    have p103 : 0 ≤ (0 : Int) := (by omega)
    have q103 : 0 < ((rd_LInt l1 x10_1).length : Int) := of_decide_eq_true (by first | (with_reducible assumption) | assumption)
    obtain ⟨ad103, e103, hx103_0⟩ := Kd.at_int HR102_0.out 0 p103 q103
    have hw103_0 := hx103_0
    (try rw [show ((0 : Int)).toNat = 0 from rfl] at hw103_0)
    (try rw [show 0 * 1 = 0 from rfl] at hw103_0)
    (try rw [Addr.add_zero'] at hw103_0)
    cases e103
    have qi103 : (0 < (rd_LInt l1 x10_1).length) = True := eq_true (by omega)
    (try rw [show ((0 : Int)).toNat = 0 from rfl] at hx103_0)
    (try rw [Addr.add_zero'] at hx103_0)
    replace hx103_0 := (HB.out.cell (yny w _ hx103_0)).trans hx103_0
    replace p103 := eq_true p103
    replace q103 := eq_true q103
    have p104 : 0 ≤ ((rd (rd_LInt l1 x10_1) 0) : Int) := of_decide_eq_true (by first | (with_reducible assumption) | assumption)
    have q104 : (rd (rd_LInt l1 x10_1) 0) < (l0_0.length : Int) := of_decide_eq_true (by first | (with_reducible assumption) | assumption)
    obtain ⟨ad104, A104_0, c104_0, e104, hx104_0, hl104_0, hi104_0⟩ := at_LFace HR0_0.out (rd (rd_LInt l1 x10_1) 0) p104 q104
    have hw104_0 := hx104_0
    cases e104
    replace hx104_0 := (HB.out.cell (yny w _ hx104_0)).trans hx104_0
    have HR104_0 := Aside0.mk hi104_0
    have HC104_0 := Aside0.mk hl104_0
    clear hi104_0 hl104_0
    replace p104 := eq_true p104
    replace q104 := eq_true q104
    have p105 : 0 ≤ (1 : Int) := (by omega)
    have q105 : 1 < ((rd_LInt l1 x10_1).length : Int) := of_decide_eq_true (by first | (with_reducible assumption) | assumption)
    obtain ⟨ad105, e105, hx105_0⟩ := Kd.at_int HR102_0.out 1 p105 q105
    have hw105_0 := hx105_0
    (try rw [show ((1 : Int)).toNat = 1 from rfl] at hw105_0)
    (try rw [show 1 * 1 = 1 from rfl] at hw105_0)
    (try simp only [Nat.reduceMul, Nat.reduceEqDiff, Go.Addr.add, ↓reduceIte] at hw105_0)
    obtain rfl : ad103 = ad105 := (by injection e105)
    (try simp only [show (1 : Int).toNat = 1 from rfl, Nat.reduceMul, Nat.reduceEqDiff, Go.Addr.add, ↓reduceIte] at hx105_0)
    have qi105 : (1 < (rd_LInt l1 x10_1).length) = True := eq_true (by omega)
    (try rw [show ((1 : Int)).toNat = 1 from rfl] at hx105_0)
    replace hx105_0 := (HB.out.cell (yny w _ hx105_0)).trans hx105_0
    replace p105 := eq_true p105
    replace q105 := eq_true q105
    have p106 : 0 ≤ ((rd (rd_LInt l1 x10_1) 1) : Int) := of_decide_eq_true (by first | (with_reducible assumption) | assumption)
    have q106 : (rd (rd_LInt l1 x10_1) 1) < ((rd_LFace l0_0 (rd (rd_LInt l1 x10_1) 0)).length : Int) := of_decide_eq_true (by first | (with_reducible assumption) | assumption)
    obtain ⟨ad106, e106, hx106_0, hx106_1⟩ := at_Face HR104_0.out (rd (rd_LInt l1 x10_1) 1) p106 q106
    have hw106_1 := hx106_1
    have hw106_0 := hx106_0
    cases e106
    replace hx106_0 := (HB.out.cell (yny w _ hx106_0)).trans hx106_0
    replace hx106_1 := (HB.out.cell (yny w _ hx106_1)).trans hx106_1
    replace p106 := eq_true p106
    replace q106 := eq_true q106
    refine start_ (n := 14) (S := fun w' => w'.cell? ⟨gb101, 0, none⟩ = some (.slice (some ad104) l0_0.length c0_0) ∧ w'.cell? ad103 = some (.int .i64 (rd (rd_LInt l1 x10_1) 0)) ∧ w'.cell? (ad104.add ((rd (rd_LInt l1 x10_1) 0)).toNat) = some (.slice (some ad106) (rd_LFace l0_0 (rd (rd_LInt l1 x10_1) 0)).length c104_0) ∧ w'.cell? ⟨ad103.block, ad103.off + 1, none⟩ = some (.int .i64 (rd (rd_LInt l1 x10_1) 1)) ∧ w'.cell? (ad106.add (((rd (rd_LInt l1 x10_1) 1)).toNat * 2)) = some (.int .i64 ((rd_Face (rd_LFace l0_0 (rd (rd_LInt l1 x10_1) 0)) (rd (rd_LInt l1 x10_1) 1)).f0)) ∧ w'.cell? ⟨(ad106.add (((rd (rd_LInt l1 x10_1) 1)).toNat * 2)).block, (ad106.add (((rd (rd_LInt l1 x10_1) 1)).toNat * 2)).off + 1, none⟩ = some (.int .i64 ((rd_Face (rd_LFace l0_0 (rd (rd_LInt l1 x10_1) 0)) (rd (rd_LInt l1 x10_1) 1)).f1))) (ds := []) #[false, false, false, false, false, false, false, false, false, false, false, false, false, false] (by kernel_rfl) rfl rfl ⟨(blk_cell BK101.out 0).trans rfl, ((HB.out.cell (yny w _ hw103_0)).trans hw103_0), ((HB.out.cell (yny w _ hw104_0)).trans hw104_0), ((HB.out.cell (yny w _ hw105_0)).trans hw105_0), ((HB.out.cell (yny w _ hw106_0)).trans hw106_0), ((HB.out.cell (yny w _ hw106_1)).trans hw106_1)⟩ (fun hHeld => ?_); refine with_tabW impl_Triangulation_isPath.tab4 impl_Triangulation_isPath.bits4 (fun HT_ HW_ => ?_)
    generalize wr.drew = w15 at BK101 HB HR104_0 hx103_0 hx104_0 hx105_0 hx106_0 hx106_1 hHeld ⊢
    refine pure_ (i := 0) (N := some 15) (v := ?_) (a' := ?_) #[true, false, false, false, false, false, false, false, false, false, false, false, false, false] rfl rfl (any_of HT_.out (by kernel_rfl)) (fun _ _ _ h => h) (Or.inl ⟨by rfl, ?_⟩) ?_ ?_
    rotate_left
    next =>
     intro w'
     go_simp
     with_reducible rfl
    rotate_left
    next =>
     simp only [Act.put, yay, yby, ycy, i64_w, i32_w]
     rfl
    refine pure_ (i := 2) (N := some 17) (v := ?_) (a' := ?_) #[true, false, true, false, false, false, false, false, false, false, false, false, false, false] rfl rfl (any_of HT_.out (by kernel_rfl)) (fun _ _ _ h => h) (Or.inl ⟨by rfl, ?_⟩) ?_ ?_
    rotate_left
    next =>
     intro w'
     go_simp
     with_reducible rfl
    rotate_left
    next =>
     simp only [Act.put, yay, yby, ycy, i64_w, i32_w]
     rfl
    refine pure_ (i := 3) (N := some 18) (v := ?_) (a' := ?_) #[true, false, true, true, false, false, false, false, false, false, false, false, false, false] rfl rfl (any_of HT_.out (by kernel_rfl)) (fun _ _ _ h => h) (Or.inl ⟨by rfl, ?_⟩) ?_ ?_
    rotate_left
    next =>
     intro w'
     go_simp
     with_reducible rfl
    rotate_left
    next =>
     simp only [Act.put, yay, yby, ycy, i64_w, i32_w]
     rfl
    refine pure_ (i := 7) (N := some 22) (v := ?_) (a' := ?_) #[true, false, true, true, false, false, false, true, false, false, false, false, false, false] rfl rfl (any_of HT_.out (by kernel_rfl)) (fun _ _ _ h => h) (Or.inl ⟨by rfl, ?_⟩) ?_ ?_
    rotate_left
    next =>
     intro w'
     go_simp
     with_reducible rfl
    rotate_left
    next =>
     simp only [Act.put, yay, yby, ycy, i64_w, i32_w]
     rfl
    refine pure_ (i := 8) (N := some 23) (v := ?_) (a' := ?_) #[true, false, true, true, false, false, false, true, true, false, false, false, false, false] rfl rfl (any_of HT_.out (by kernel_rfl)) (fun _ _ _ h => h) (Or.inl ⟨by rfl, ?_⟩) ?_ ?_
    rotate_left
    next =>
     intro w'
     go_simp
     with_reducible rfl
    rotate_left
    next =>
     simp only [Act.put, yay, yby, ycy, i64_w, i32_w]
     rfl
    refine take_ (i := 1) (N := some 16) (v := ?_) (a' := ?_) #[true, true, true, true, false, false, false, true, true, false, false, false, false, false] rfl rfl (take_ofW HT_.out HW_.out (by kernel_rfl)) (fun _ _ _ h => h) (Or.inl ⟨by rfl, ?_⟩) hHeld ?_ ?_
    rotate_left
    next =>
     rintro w' ⟨s0, s1, s2, s3, s4, s5⟩
     go_simp
     with_reducible rfl
    rotate_left
    next =>
     simp only [Act.put, yay, yby, ycy, i64_w, i32_w]
     rfl
    refine take_ (i := 4) (N := some 19) (v := ?_) (a' := ?_) #[true, true, true, true, true, false, false, true, true, false, false, false, false, false] rfl rfl (take_ofW HT_.out HW_.out (by kernel_rfl)) (fun _ _ _ h => h) (Or.inl ⟨by rfl, ?_⟩) hHeld ?_ ?_
    rotate_left
    next =>
     rintro w' ⟨s0, s1, s2, s3, s4, s5⟩
     go_simp
     with_reducible rfl
    rotate_left
    next =>
     simp only [Act.put, yay, yby, ycy, i64_w, i32_w]
     rfl
    refine pure_ (i := 5) (N := some 20) (v := ?_) (a' := ?_) #[true, true, true, true, true, true, false, true, true, false, false, false, false, false] rfl rfl (any_of HT_.out (by kernel_rfl)) (fun _ _ _ h => h) (Or.inl ⟨by rfl, ?_⟩) ?_ ?_
    rotate_left
    next =>
     intro w'
     go_simp
     with_reducible rfl
    rotate_left
    next =>
     simp only [Act.put, yay, yby, ycy, i64_w, i32_w]
     rfl
    refine take_ (i := 6) (N := some 21) (v := ?_) (a' := ?_) #[true, true, true, true, true, true, true, true, true, false, false, false, false, false] rfl rfl (take_ofW HT_.out HW_.out (by kernel_rfl)) (fun _ _ _ h => h) (Or.inl ⟨by rfl, ?_⟩) hHeld ?_ ?_
    rotate_left
    next =>
     rintro w' ⟨s0, s1, s2, s3, s4, s5⟩
     go_simp
     with_reducible rfl
    rotate_left
    next =>
     simp only [Act.put, yay, yby, ycy, i64_w, i32_w]
     rfl
    refine take_ (i := 9) (N := some 24) (v := ?_) (a' := ?_) #[true, true, true, true, true, true, true, true, true, true, false, false, false, false] rfl rfl (take_ofW HT_.out HW_.out (by kernel_rfl)) (fun _ _ _ h => h) (Or.inl ⟨by rfl, ?_⟩) hHeld ?_ ?_
    rotate_left
    next =>
     rintro w' ⟨s0, s1, s2, s3, s4, s5⟩
     go_simp
     with_reducible rfl
    rotate_left
    next =>
     simp only [Act.put, yay, yby, ycy, i64_w, i32_w]
     rfl
    refine pure_ (i := 10) (N := some 25) (v := ?_) (a' := ?_) #[true, true, true, true, true, true, true, true, true, true, true, false, false, false] rfl rfl (any_of HT_.out (by kernel_rfl)) (fun _ _ _ h => h) (Or.inl ⟨by rfl, ?_⟩) ?_ ?_
    rotate_left
    next =>
     intro w'
     go_simp
     with_reducible rfl
    rotate_left
    next =>
     simp only [Act.put, yay, yby, ycy, i64_w, i32_w]
     rfl
    refine take_ (i := 11) (N := some 26) (v := ?_) (a' := ?_) #[true, true, true, true, true, true, true, true, true, true, true, true, false, false] rfl rfl (take_ofW HT_.out HW_.out (by kernel_rfl)) (fun _ _ _ h => h) (Or.inl ⟨by rfl, ?_⟩) hHeld ?_ ?_
    rotate_left
    next =>
     rintro w' ⟨s0, s1, s2, s3, s4, s5⟩
     go_simp
     with_reducible rfl
    rotate_left
    next =>
     simp only [Act.put, yay, yby, ycy, i64_w, i32_w]
     rfl
    refine one_ (i := 12) (N := some 7) #[true, true, true, true, true, true, true, true, true, true, true, true, true, false] rfl rfl (one_of HT_.out (by kernel_rfl)) (by decide) (fun K hK => ?_)
    refine box_step ?hg (N := 7) ?hd (cs := #[.int .i64 0, .int .i64 0]) (t := 75) ?hr ?_; (case hd => rfl); (case hg => rfl); (case hr => first | (go_simp; done) | (go_simp; rfl))
    intro gb107 hg w16 hbox hb
    have n0_ := Aside0.mk (blk_below (g := gb101) (o := .cells #[.slice (some ad104) l0_0.length c0_0] 35 (0, 0)) (by (with_reducible repeat (first | refine blk_drewN ?_ _ | refine blk_drew ?_ | refine blk_alloc ?_ _)); exact BK101.out) hb)
    have n1_ := Aside0.mk (below_step (by repeat (first | (with_reducible first | exact HB.out | apply below_alloc | apply pw_below_drewN | apply below_drew1 | refine below_set ?_ GE101.out) | exact HB.out)) hb)
    have n2_ := Aside0.mk (hbox)
    have n3_ := Aside0.mk ((by rw [hg]; exact (below_size (by repeat (first | (with_reducible first | exact HB.out | apply below_alloc | apply pw_below_drewN | apply below_drew1 | refine below_set ?_ GE101.out) | exact HB.out))) : w.heap.size ≤ gb107))
    have n4_ := Aside0.mk ((by rw [hg]; exact (below_size (by repeat (first | (with_reducible first | exact HB.out | apply below_alloc | apply pw_below_drewN | apply below_drew1 | refine below_set ?_ GE101.out) | exact HB.out))) : w.heap.size ≤ gb107))
    have n5_ := Aside0.mk ((by rw [hg]; exact Nat.ne_of_lt (blk_lt (g := gb101) (o := .cells #[.slice (some ad104) l0_0.length c0_0] 35 (0, 0)) (by (with_reducible repeat (first | refine blk_drewN ?_ _ | refine blk_drew ?_ | refine blk_alloc ?_ _)); exact BK101.out)) : gb101 ≠ gb107))
    have n6_ := Aside0.mk ((by rw [hg]; exact Nat.ne_of_gt (blk_lt (g := gb101) (o := .cells #[.slice (some ad104) l0_0.length c0_0] 35 (0, 0)) (by (with_reducible repeat (first | refine blk_drewN ?_ _ | refine blk_drew ?_ | refine blk_alloc ?_ _)); exact BK101.out)) : gb107 ≠ gb101))
    clear BK101
    clear HB
    have BK101 := n0_
    have HB := n1_
    have BK107 := n2_
    have GW107 := n3_
    have GE107 := n4_
    have NB101_107 := n5_
    have NB107_101 := n6_
    clear n0_ n1_ n2_ n3_ n4_ n5_ n6_
    clear hb hbox hg
    refine hK.out _ _ ⟨(blk_cell BK101.out 0).trans rfl, ((HB.out.cell (yny w _ hw103_0)).trans hw103_0), ((HB.out.cell (yny w _ hw104_0)).trans hw104_0), ((HB.out.cell (yny w _ hw105_0)).trans hw105_0), ((HB.out.cell (yny w _ hw106_0)).trans hw106_0), ((HB.out.cell (yny w _ hw106_1)).trans hw106_1)⟩ (fun hHeld => ?_)
    clear hK K
    refine norm_ (a' := ?_) ?_ ?_
    rotate_left
    next =>
     show Act.put _ (some 7) _ = _
     simp only [Act.put, yay, yby, ycy, i64_w, i32_w]
     rfl
    refine one_ (i := 13) (N := none) #[true, true, true, true, true, true, true, true, true, true, true, true, true, true] rfl rfl (one_of HT_.out (by kernel_rfl)) (by decide) (fun K hK => ?_)
    have hs17 : w16.cell? ⟨gb107, 0, none⟩ = some (.int .i64 0) := (blk_cell BK107.out 0).trans rfl
    have hfs17 := blk_frozen BK107.out 0
    have hns17_0 := NB101_107.out
    have hms17_0 := NB107_101.out
    have hs18 : w16.cell? ⟨gb107, 1, none⟩ = some (.int .i64 0) := (blk_cell BK107.out 1).trans rfl
    have hfs18 := blk_frozen BK107.out 1
    have hns18_0 := NB101_107.out
    have hms18_0 := NB107_101.out
    refine skip_ (w1 := ?_) (by rfl) rfl ?_ ?_
    rotate_left
    next =>
     go_simp
     rfl
    refine hK.out _ _ ⟨((cell_far (p := ⟨gb107, _, none⟩) NB101_107.out _).trans (((cell_far (p := ⟨gb107, _, none⟩) NB101_107.out _).trans (hHeld.1)))), ((cell_far (p := ⟨gb107, _, none⟩) (by first | exact Nat.ne_of_lt (Nat.lt_of_lt_of_le (by have := yny _ _ hw103_0; first | rwa [add_block] at this | exact this) GW107.out) | (rw [add_block]; exact Nat.ne_of_lt (Nat.lt_of_lt_of_le (by have := yny _ _ hw103_0; first | rwa [add_block] at this | exact this) GW107.out)) | (show (Addr.add _ _).block ≠ _; rw [add_block]; exact Nat.ne_of_lt (Nat.lt_of_lt_of_le (by have := yny _ _ hw103_0; first | rwa [add_block] at this | exact this) GW107.out)) | (dsimp only; exact Nat.ne_of_lt (Nat.lt_of_lt_of_le (by have := yny _ _ hw103_0; first | rwa [add_block] at this | exact this) GW107.out))) _).trans (((cell_far (p := ⟨gb107, _, none⟩) (by first | exact Nat.ne_of_lt (Nat.lt_of_lt_of_le (by have := yny _ _ hw103_0; first | rwa [add_block] at this | exact this) GW107.out) | (rw [add_block]; exact Nat.ne_of_lt (Nat.lt_of_lt_of_le (by have := yny _ _ hw103_0; first | rwa [add_block] at this | exact this) GW107.out)) | (show (Addr.add _ _).block ≠ _; rw [add_block]; exact Nat.ne_of_lt (Nat.lt_of_lt_of_le (by have := yny _ _ hw103_0; first | rwa [add_block] at this | exact this) GW107.out)) | (dsimp only; exact Nat.ne_of_lt (Nat.lt_of_lt_of_le (by have := yny _ _ hw103_0; first | rwa [add_block] at this | exact this) GW107.out))) _).trans (hHeld.2.1)))), ((cell_far (p := ⟨gb107, _, none⟩) (by first | exact Nat.ne_of_lt (Nat.lt_of_lt_of_le (by have := yny _ _ hw104_0; first | rwa [add_block] at this | exact this) GW107.out) | (rw [add_block]; exact Nat.ne_of_lt (Nat.lt_of_lt_of_le (by have := yny _ _ hw104_0; first | rwa [add_block] at this | exact this) GW107.out)) | (show (Addr.add _ _).block ≠ _; rw [add_block]; exact Nat.ne_of_lt (Nat.lt_of_lt_of_le (by have := yny _ _ hw104_0; first | rwa [add_block] at this | exact this) GW107.out)) | (dsimp only; exact Nat.ne_of_lt (Nat.lt_of_lt_of_le (by have := yny _ _ hw104_0; first | rwa [add_block] at this | exact this) GW107.out))) _).trans (((cell_far (p := ⟨gb107, _, none⟩) (by first | exact Nat.ne_of_lt (Nat.lt_of_lt_of_le (by have := yny _ _ hw104_0; first | rwa [add_block] at this | exact this) GW107.out) | (rw [add_block]; exact Nat.ne_of_lt (Nat.lt_of_lt_of_le (by have := yny _ _ hw104_0; first | rwa [add_block] at this | exact this) GW107.out)) | (show (Addr.add _ _).block ≠ _; rw [add_block]; exact Nat.ne_of_lt (Nat.lt_of_lt_of_le (by have := yny _ _ hw104_0; first | rwa [add_block] at this | exact this) GW107.out)) | (dsimp only; exact Nat.ne_of_lt (Nat.lt_of_lt_of_le (by have := yny _ _ hw104_0; first | rwa [add_block] at this | exact this) GW107.out))) _).trans (hHeld.2.2.1)))), ((cell_far (p := ⟨gb107, _, none⟩) (by first | exact Nat.ne_of_lt (Nat.lt_of_lt_of_le (by have := yny _ _ hw105_0; first | rwa [add_block] at this | exact this) GW107.out) | (rw [add_block]; exact Nat.ne_of_lt (Nat.lt_of_lt_of_le (by have := yny _ _ hw105_0; first | rwa [add_block] at this | exact this) GW107.out)) | (show (Addr.add _ _).block ≠ _; rw [add_block]; exact Nat.ne_of_lt (Nat.lt_of_lt_of_le (by have := yny _ _ hw105_0; first | rwa [add_block] at this | exact this) GW107.out)) | (dsimp only; exact Nat.ne_of_lt (Nat.lt_of_lt_of_le (by have := yny _ _ hw105_0; first | rwa [add_block] at this | exact this) GW107.out))) _).trans (((cell_far (p := ⟨gb107, _, none⟩) (by first | exact Nat.ne_of_lt (Nat.lt_of_lt_of_le (by have := yny _ _ hw105_0; first | rwa [add_block] at this | exact this) GW107.out) | (rw [add_block]; exact Nat.ne_of_lt (Nat.lt_of_lt_of_le (by have := yny _ _ hw105_0; first | rwa [add_block] at this | exact this) GW107.out)) | (show (Addr.add _ _).block ≠ _; rw [add_block]; exact Nat.ne_of_lt (Nat.lt_of_lt_of_le (by have := yny _ _ hw105_0; first | rwa [add_block] at this | exact this) GW107.out)) | (dsimp only; exact Nat.ne_of_lt (Nat.lt_of_lt_of_le (by have := yny _ _ hw105_0; first | rwa [add_block] at this | exact this) GW107.out))) _).trans (hHeld.2.2.2.1)))), ((cell_far (p := ⟨gb107, _, none⟩) (by first | exact Nat.ne_of_lt (Nat.lt_of_lt_of_le (by have := yny _ _ hw106_0; first | rwa [add_block] at this | exact this) GW107.out) | (rw [add_block]; exact Nat.ne_of_lt (Nat.lt_of_lt_of_le (by have := yny _ _ hw106_0; first | rwa [add_block] at this | exact this) GW107.out)) | (show (Addr.add _ _).block ≠ _; rw [add_block]; exact Nat.ne_of_lt (Nat.lt_of_lt_of_le (by have := yny _ _ hw106_0; first | rwa [add_block] at this | exact this) GW107.out)) | (dsimp only; exact Nat.ne_of_lt (Nat.lt_of_lt_of_le (by have := yny _ _ hw106_0; first | rwa [add_block] at this | exact this) GW107.out))) _).trans (((cell_far (p := ⟨gb107, _, none⟩) (by first | exact Nat.ne_of_lt (Nat.lt_of_lt_of_le (by have := yny _ _ hw106_0; first | rwa [add_block] at this | exact this) GW107.out) | (rw [add_block]; exact Nat.ne_of_lt (Nat.lt_of_lt_of_le (by have := yny _ _ hw106_0; first | rwa [add_block] at this | exact this) GW107.out)) | (show (Addr.add _ _).block ≠ _; rw [add_block]; exact Nat.ne_of_lt (Nat.lt_of_lt_of_le (by have := yny _ _ hw106_0; first | rwa [add_block] at this | exact this) GW107.out)) | (dsimp only; exact Nat.ne_of_lt (Nat.lt_of_lt_of_le (by have := yny _ _ hw106_0; first | rwa [add_block] at this | exact this) GW107.out))) _).trans (hHeld.2.2.2.2.1)))), ((cell_far (p := ⟨gb107, _, none⟩) (by first | exact Nat.ne_of_lt (Nat.lt_of_lt_of_le (by have := yny _ _ hw106_1; first | rwa [add_block] at this | exact this) GW107.out) | (rw [add_block]; exact Nat.ne_of_lt (Nat.lt_of_lt_of_le (by have := yny _ _ hw106_1; first | rwa [add_block] at this | exact this) GW107.out)) | (show (Addr.add _ _).block ≠ _; rw [add_block]; exact Nat.ne_of_lt (Nat.lt_of_lt_of_le (by have := yny _ _ hw106_1; first | rwa [add_block] at this | exact this) GW107.out)) | (dsimp only; exact Nat.ne_of_lt (Nat.lt_of_lt_of_le (by have := yny _ _ hw106_1; first | rwa [add_block] at this | exact this) GW107.out))) _).trans (((cell_far (p := ⟨gb107, _, none⟩) (by first | exact Nat.ne_of_lt (Nat.lt_of_lt_of_le (by have := yny _ _ hw106_1; first | rwa [add_block] at this | exact this) GW107.out) | (rw [add_block]; exact Nat.ne_of_lt (Nat.lt_of_lt_of_le (by have := yny _ _ hw106_1; first | rwa [add_block] at this | exact this) GW107.out)) | (show (Addr.add _ _).block ≠ _; rw [add_block]; exact Nat.ne_of_lt (Nat.lt_of_lt_of_le (by have := yny _ _ hw106_1; first | rwa [add_block] at this | exact this) GW107.out)) | (dsimp only; exact Nat.ne_of_lt (Nat.lt_of_lt_of_le (by have := yny _ _ hw106_1; first | rwa [add_block] at this | exact this) GW107.out))) _).trans (hHeld.2.2.2.2.2))))⟩ (fun hHeld => ?_)
    clear hK K
    refine done_ (done_of HT_.out (by kernel_rfl)) ?_
    try go_wp2
    have n0_ : Aside0 (((w16.setCell ⟨gb107, 0, none⟩ (.int .i64 ((rd_Face (rd_LFace l0_0 (rd (rd_LInt l1 x10_1) 0)) (rd (rd_LInt l1 x10_1) 1)).f0))).setCell ⟨gb107, 1, none⟩ (.int .i64 ((rd_Face (rd_LFace l0_0 (rd (rd_LInt l1 x10_1) 0)) (rd (rd_LInt l1 x10_1) 1)).f1))).heap[gb101]? = some (.cells #[.slice (some ad104) l0_0.length c0_0] 35 (0, 0))) := ⟨by (with_reducible repeat (first | refine blk_drewN ?_ _ | refine blk_drew ?_ | refine blk_alloc ?_ _)); refine blk_far ?_ NB101_107.out _; (with_reducible repeat (first | refine blk_drewN ?_ _ | refine blk_drew ?_ | refine blk_alloc ?_ _)); refine blk_far ?_ NB101_107.out _; (with_reducible repeat (first | refine blk_drewN ?_ _ | refine blk_drew ?_ | refine blk_alloc ?_ _)); exact BK101.out⟩
    have n1_ : Aside0 (((w16.setCell ⟨gb107, 0, none⟩ (.int .i64 ((rd_Face (rd_LFace l0_0 (rd (rd_LInt l1 x10_1) 0)) (rd (rd_LInt l1 x10_1) 1)).f0))).setCell ⟨gb107, 1, none⟩ (.int .i64 ((rd_Face (rd_LFace l0_0 (rd (rd_LInt l1 x10_1) 0)) (rd (rd_LInt l1 x10_1) 1)).f1))).heap[gb107]? = some (.cells #[.int .i64 ((rd_Face (rd_LFace l0_0 (rd (rd_LInt l1 x10_1) 0)) (rd (rd_LInt l1 x10_1) 1)).f0), .int .i64 ((rd_Face (rd_LFace l0_0 (rd (rd_LInt l1 x10_1) 0)) (rd (rd_LInt l1 x10_1) 1)).f1)] 75 (0, 0))) := ⟨by (with_reducible repeat (first | refine blk_drewN ?_ _ | refine blk_drew ?_ | refine blk_alloc ?_ _)); refine blk_put (cs := #[.int .i64 ((rd_Face (rd_LFace l0_0 (rd (rd_LInt l1 x10_1) 0)) (rd (rd_LInt l1 x10_1) 1)).f0), .int .i64 0]) ?_ 1 _ rfl; (with_reducible repeat (first | refine blk_drewN ?_ _ | refine blk_drew ?_ | refine blk_alloc ?_ _)); refine blk_put (cs := #[.int .i64 0, .int .i64 0]) ?_ 0 _ rfl; (with_reducible repeat (first | refine blk_drewN ?_ _ | refine blk_drew ?_ | refine blk_alloc ?_ _)); exact BK107.out⟩
    have n2_ : Aside0 (Below w.heap.size w ((w16.setCell ⟨gb107, 0, none⟩ (.int .i64 ((rd_Face (rd_LFace l0_0 (rd (rd_LInt l1 x10_1) 0)) (rd (rd_LInt l1 x10_1) 1)).f0))).setCell ⟨gb107, 1, none⟩ (.int .i64 ((rd_Face (rd_LFace l0_0 (rd (rd_LInt l1 x10_1) 0)) (rd (rd_LInt l1 x10_1) 1)).f1)))) := ⟨by repeat (first | (with_reducible first | exact HB.out | apply below_alloc | apply pw_below_drewN | apply below_drew1 | refine below_set ?_ GE101.out | refine below_set ?_ GE107.out) | exact HB.out)⟩
    (try clear BK101)
    (try clear BK107)
    (try clear HB)
    generalize ((w16.setCell ⟨gb107, 0, none⟩ (.int .i64 ((rd_Face (rd_LFace l0_0 (rd (rd_LInt l1 x10_1) 0)) (rd (rd_LInt l1 x10_1) 1)).f0))).setCell ⟨gb107, 1, none⟩ (.int .i64 ((rd_Face (rd_LFace l0_0 (rd (rd_LInt l1 x10_1) 0)) (rd (rd_LInt l1 x10_1) 1)).f1))) = w19 at n0_ n1_ n2_ ⊢
    have BK101 := n0_
    have BK107 := n1_
    have HB := n2_
    clear n0_ n1_ n2_
    have n0_ := Aside0.mk (blk_drew BK101.out)
    have n1_ := Aside0.mk (blk_drew BK107.out)
    have n2_ := Aside0.mk (below_drew1 HB.out)
    clear BK101
    clear BK107
    clear HB
    have BK101 := n0_
    have BK107 := n1_
    have HB := n2_
    clear n0_ n1_ n2_
    refine start_ (n := 17) (S := fun w' => w'.cell? ⟨gb107, 0, none⟩ = some (.int .i64 ((rd_Face (rd_LFace l0_0 (rd (rd_LInt l1 x10_1) 0)) (rd (rd_LInt l1 x10_1) 1)).f0)) ∧ w'.cell? ⟨gb107, 1, none⟩ = some (.int .i64 ((rd_Face (rd_LFace l0_0 (rd (rd_LInt l1 x10_1) 0)) (rd (rd_LInt l1 x10_1) 1)).f1))) (ds := []) #[false, false, false, false, false, false, false, false, false, false, false, false, false, false, false, false, false] (by kernel_rfl) rfl rfl ⟨(blk_cell BK107.out 0).trans rfl, (blk_cell BK107.out 1).trans rfl⟩ (fun hHeld => ?_); refine with_tabW impl_Triangulation_isPath.tab5 impl_Triangulation_isPath.bits5 (fun HT_ HW_ => ?_)
    generalize w19.drew = w20 at BK101 BK107 HB hHeld ⊢
    refine take_ (i := 0) (N := some 27) (v := ?_) (a' := ?_) #[true, false, false, false, false, false, false, false, false, false, false, false, false, false, false, false, false] rfl rfl (take_ofW HT_.out HW_.out (by kernel_rfl)) (fun _ _ _ h => h) (Or.inl ⟨by rfl, ?_⟩) hHeld ?_ ?_
    rotate_left
    next =>
     rintro w' ⟨s0, s1⟩
     go_simp
     with_reducible rfl
    rotate_left
    next =>
     simp only [Act.put, yay, yby, ycy, i64_w, i32_w]
     rfl
    refine one_ (i := 1) (N := some 28) #[true, true, false, false, false, false, false, false, false, false, false, false, false, false, false, false, false] rfl rfl (one_of HT_.out (by kernel_rfl)) (by decide) (fun K hK => ?_)
    refine goes_ Try.func77 (by kernel_rfl) rfl #[.agg #[.int .i64 ((rd_Face (rd_LFace l0_0 (rd (rd_LInt l1 x10_1) 0)) (rd (rd_LInt l1 x10_1) 1)).f0), .int .i64 ((rd_Face (rd_LFace l0_0 (rd (rd_LInt l1 x10_1) 0)) (rd (rd_LInt l1 x10_1) 1)).f1)]] (by rfl) rfl rfl (by (try simp only [yiy, yjy, yky]); first | done | rfl | (simp only [yly, ymy]; rfl)) ?_
    with_reducible refine (impl_Face_isBoundary.calls ((rd_Face (rd_LFace l0_0 (rd (rd_LInt l1 x10_1) 0)) (rd (rd_LInt l1 x10_1) 1)).f0) ((rd_Face (rd_LFace l0_0 (rd (rd_LInt l1 x10_1) 0)) (rd (rd_LInt l1 x10_1) 1)).f1) true _ A13.out).mono ?_
    rintro e w21 ⟨rfl, hb⟩
    refine ⟨_, rfl, ?_⟩
    have n0_ := Aside0.mk (blk_below (g := gb101) (o := .cells #[.slice (some ad104) l0_0.length c0_0] 35 (0, 0)) (by (with_reducible repeat (first | refine blk_drewN ?_ _ | refine blk_drew ?_ | refine blk_alloc ?_ _)); exact BK101.out) hb)
    have n1_ := Aside0.mk (blk_below (g := gb107) (o := .cells #[.int .i64 ((rd_Face (rd_LFace l0_0 (rd (rd_LInt l1 x10_1) 0)) (rd (rd_LInt l1 x10_1) 1)).f0), .int .i64 ((rd_Face (rd_LFace l0_0 (rd (rd_LInt l1 x10_1) 0)) (rd (rd_LInt l1 x10_1) 1)).f1)] 75 (0, 0)) (by (with_reducible repeat (first | refine blk_drewN ?_ _ | refine blk_drew ?_ | refine blk_alloc ?_ _)); exact BK107.out) hb)
    have n2_ := Aside0.mk (below_step (by repeat (first | (with_reducible first | exact HB.out | apply below_alloc | apply pw_below_drewN | apply below_drew1 | refine below_set ?_ GE101.out | refine below_set ?_ GE107.out) | exact HB.out)) hb)
    clear BK101
    clear BK107
    clear HB
    have BK101 := n0_
    have BK107 := n1_
    have HB := n2_
    clear n0_ n1_ n2_
    (try clear hb)
    (try clear hb2)
    (try clear hk)
    (try clear hi)
    refine hK.out _ _ ⟨(blk_cell BK107.out 0).trans rfl, (blk_cell BK107.out 1).trans rfl⟩ (fun hHeld => ?_)
    clear hK K
    refine norm_ (a' := ?_) ?_ ?_
    rotate_left
    next =>
     show Act.put _ (some 28) _ = _
     simp only [Act.put, yay, yby, ycy, i64_w, i32_w]
     rfl
    refine pure_ (i := 2) (N := some 29) (v := ?_) (a' := ?_) #[true, true, true, false, false, false, false, false, false, false, false, false, false, false, false, false, false] rfl rfl (any_of HT_.out (by kernel_rfl)) (fun _ _ _ h => h) (Or.inl ⟨by rfl, ?_⟩) ?_ ?_
    rotate_left
    next =>
     intro w'
     go_simp
     with_reducible rfl
    rotate_left
    next =>
     simp only [Act.put, yay, yby, ycy, i64_w, i32_w]
     rfl
    refine pure_ (i := 3) (N := some 30) (v := undef) (a' := ?_) #[true, true, true, true, false, false, false, false, false, false, false, false, false, false, false, false, false] rfl rfl (any_of HT_.out (by kernel_rfl)) (fun _ _ _ h => h) (Or.inr ⟨by rfl, rfl⟩) ?_ ?_
    rotate_left
    next =>
     simp only [Act.put, yay, yby, ycy, i64_w, i32_w]
     rfl
    refine pure_ (i := 4) (N := some 31) (v := undef) (a' := ?_) #[true, true, true, true, true, false, false, false, false, false, false, false, false, false, false, false, false] rfl rfl (any_of HT_.out (by kernel_rfl)) (fun _ _ _ h => h) (Or.inr ⟨by rfl, rfl⟩) ?_ ?_
    rotate_left
    next =>
     simp only [Act.put, yay, yby, ycy, i64_w, i32_w]
     rfl
    refine pure_ (i := 5) (N := some 32) (v := undef) (a' := ?_) #[true, true, true, true, true, true, false, false, false, false, false, false, false, false, false, false, false] rfl rfl (any_of HT_.out (by kernel_rfl)) (fun _ _ _ h => h) (Or.inr ⟨by rfl, rfl⟩) ?_ ?_
    rotate_left
    next =>
     simp only [Act.put, yay, yby, ycy, i64_w, i32_w]
     rfl
    refine pure_ (i := 6) (N := some 33) (v := undef) (a' := ?_) #[true, true, true, true, true, true, true, false, false, false, false, false, false, false, false, false, false] rfl rfl (any_of HT_.out (by kernel_rfl)) (fun _ _ _ h => h) (Or.inr ⟨by rfl, rfl⟩) ?_ ?_
    rotate_left
    next =>
     simp only [Act.put, yay, yby, ycy, i64_w, i32_w]
     rfl
    refine pure_ (i := 7) (N := some 34) (v := undef) (a' := ?_) #[true, true, true, true, true, true, true, true, false, false, false, false, false, false, false, false, false] rfl rfl (any_of HT_.out (by kernel_rfl)) (fun _ _ _ h => h) (Or.inr ⟨by rfl, rfl⟩) ?_ ?_
    rotate_left
    next =>
     simp only [Act.put, yay, yby, ycy, i64_w, i32_w]
     rfl
    refine pure_ (i := 8) (N := some 35) (v := undef) (a' := ?_) #[true, true, true, true, true, true, true, true, true, false, false, false, false, false, false, false, false] rfl rfl (any_of HT_.out (by kernel_rfl)) (fun _ _ _ h => h) (Or.inr ⟨by rfl, rfl⟩) ?_ ?_
    rotate_left
    next =>
     simp only [Act.put, yay, yby, ycy, i64_w, i32_w]
     rfl
    refine pure_ (i := 9) (N := some 36) (v := undef) (a' := ?_) #[true, true, true, true, true, true, true, true, true, true, false, false, false, false, false, false, false] rfl rfl (any_of HT_.out (by kernel_rfl)) (fun _ _ _ h => h) (Or.inr ⟨by rfl, rfl⟩) ?_ ?_
    rotate_left
    next =>
     simp only [Act.put, yay, yby, ycy, i64_w, i32_w]
     rfl
    refine pure_ (i := 10) (N := some 37) (v := undef) (a' := ?_) #[true, true, true, true, true, true, true, true, true, true, true, false, false, false, false, false, false] rfl rfl (any_of HT_.out (by kernel_rfl)) (fun _ _ _ h => h) (Or.inr ⟨by rfl, rfl⟩) ?_ ?_
    rotate_left
    next =>
     simp only [Act.put, yay, yby, ycy, i64_w, i32_w]
     rfl
    refine pure_ (i := 11) (N := some 38) (v := undef) (a' := ?_) #[true, true, true, true, true, true, true, true, true, true, true, true, false, false, false, false, false] rfl rfl (any_of HT_.out (by kernel_rfl)) (fun _ _ _ h => h) (Or.inr ⟨by rfl, rfl⟩) ?_ ?_
    rotate_left
    next =>
     simp only [Act.put, yay, yby, ycy, i64_w, i32_w]
     rfl
    refine pure_ (i := 12) (N := some 39) (v := undef) (a' := ?_) #[true, true, true, true, true, true, true, true, true, true, true, true, true, false, false, false, false] rfl rfl (any_of HT_.out (by kernel_rfl)) (fun _ _ _ h => h) (Or.inr ⟨by rfl, rfl⟩) ?_ ?_
    rotate_left
    next =>
     simp only [Act.put, yay, yby, ycy, i64_w, i32_w]
     rfl
    refine pure_ (i := 13) (N := some 40) (v := undef) (a' := ?_) #[true, true, true, true, true, true, true, true, true, true, true, true, true, true, false, false, false] rfl rfl (any_of HT_.out (by kernel_rfl)) (fun _ _ _ h => h) (Or.inr ⟨by rfl, rfl⟩) ?_ ?_
    rotate_left
    next =>
     simp only [Act.put, yay, yby, ycy, i64_w, i32_w]
     rfl
    refine pure_ (i := 14) (N := some 41) (v := undef) (a' := ?_) #[true, true, true, true, true, true, true, true, true, true, true, true, true, true, true, false, false] rfl rfl (any_of HT_.out (by kernel_rfl)) (fun _ _ _ h => h) (Or.inr ⟨by rfl, rfl⟩) ?_ ?_
    rotate_left
    next =>
     simp only [Act.put, yay, yby, ycy, i64_w, i32_w]
     rfl
    refine pure_ (i := 15) (N := some 42) (v := undef) (a' := ?_) #[true, true, true, true, true, true, true, true, true, true, true, true, true, true, true, true, false] rfl rfl (any_of HT_.out (by kernel_rfl)) (fun _ _ _ h => h) (Or.inr ⟨by rfl, rfl⟩) ?_ ?_
    rotate_left
    next =>
     simp only [Act.put, yay, yby, ycy, i64_w, i32_w]
     rfl
    refine pure_ (i := 16) (N := some 43) (v := ?_) (a' := ?_) #[true, true, true, true, true, true, true, true, true, true, true, true, true, true, true, true, true] rfl rfl (any_of HT_.out (by kernel_rfl)) (fun _ _ _ h => h) (Or.inl ⟨by rfl, ?_⟩) ?_ ?_
    rotate_left
    next =>
     intro w'
     go_simp
     with_reducible rfl
    rotate_left
    next =>
     simp only [Act.put, yay, yby, ycy, i64_w, i32_w]
     rfl
    refine done_ (done_of HT_.out (by kernel_rfl)) ?_
    try go_wp2
    go_ret
    exact ⟨by first | rfl | (simp [errW_none, errW_some] <;> rfl) | (simp [*, errW_none, errW_some] <;> rfl), by repeat (first | (with_reducible first | exact HB.out | apply below_alloc | apply pw_below_drewN | apply below_drew1 | refine below_set ?_ GE101.out | refine below_set ?_ GE107.out) | exact HB.out)⟩
   next =>
    replace c14 := Bool.eq_false_iff.mpr c14
    subst c14
    have H1 : (if (l1.length : Int) = 0 then (none) else (if 0 ≤ (Int.tmod (wrap64 (x10_1 + 1)) (l1.length : Int)) then (if (Int.tmod (wrap64 (x10_1 + 1)) (l1.length : Int)) < (l1.length : Int) then (if 0 < ((rd_LInt l1 (Int.tmod (wrap64 (x10_1 + 1)) (l1.length : Int))).length : Int) then (if ((rd_Face (rd_LFace l0_0 (rd (rd_LInt l1 x10_1) 0)) (rd (rd_LInt l1 x10_1) 1)).f0) = (rd (rd_LInt l1 (Int.tmod (wrap64 (x10_1 + 1)) (l1.length : Int))) 0) then (impl_Triangulation_isPath.l0 k1 l1 l1 (l1.length : Int) (wrap64 (x10_1 + 1)) l0_0) else (some false)) else (none)) else (none)) else (none))) = some r := by rw [if_neg (show ¬ (false = true) by decide)] at H; exact H
    clear H
    have H := H1
    clear H1
    by_cases c22 : (l1.length : Int) = 0
    next =>
     rw [if_pos c22] at H
     exact absurd H (by simp)
    next =>
     rw [if_neg c22] at H
     have c22b0 : ((l1.length : Int) == 0) = false := beq_eq_false_iff_ne.mpr c22
     have c22b1 : ((l1.length : Int) != 0) = true := bne_iff_ne.mpr c22
     have c22b2 : ¬ (l1 = []) := fun h_ => c22 (by rw [h_]; rfl)
     obtain ⟨ji23, hji23⟩ : ∃ j_ : Int, (Int.tmod (wrap64 (x10_1 + 1)) (l1.length : Int)) = j_ := ⟨_, rfl⟩
     replace H : (if 0 ≤ (ji23) then (if (ji23) < (l1.length : Int) then (if 0 < ((rd_LInt l1 (ji23)).length : Int) then (if ((rd_Face (rd_LFace l0_0 (rd (rd_LInt l1 x10_1) 0)) (rd (rd_LInt l1 x10_1) 1)).f0) = (rd (rd_LInt l1 (ji23)) 0) then (impl_Triangulation_isPath.l0 k1 l1 l1 (l1.length : Int) (wrap64 (x10_1 + 1)) l0_0) else (some false)) else (none)) else (none)) else (none)) = some r := by first | (rw [hji23] at H; exact H) | (simp only [hji23] at H ⊢; exact H)
     (try rw [hji23] at A13)
     by_cases c24 : 0 ≤ (ji23)
     rotate_left
     next =>
      rw [if_neg c24] at H
      exact absurd H (by simp)
     rw [if_pos c24] at H
     have c24b0 : decide (0 ≤ (ji23)) = true := ygy c24
     clear c24
     by_cases c25 : (ji23) < (l1.length : Int)
     rotate_left
     next =>
      rw [if_neg c25] at H
      exact absurd H (by simp)
     rw [if_pos c25] at H
     have c25b0 : decide ((ji23) < (l1.length : Int)) = true := ygy c25
     clear c25
     by_cases c26 : 0 < ((rd_LInt l1 (ji23)).length : Int)
     rotate_left
     next =>
      rw [if_neg c26] at H
      exact absurd H (by simp)
     rw [if_pos c26] at H
     have c26b0 : decide (0 < ((rd_LInt l1 (ji23)).length : Int)) = true := ygy c26
     have c26b1 : decide (0 < (rd_LInt l1 (ji23)).length) = true := ygy (by omega)
     clear c26
     by_cases c27 : ((rd_Face (rd_LFace l0_0 (rd (rd_LInt l1 x10_1) 0)) (rd (rd_LInt l1 x10_1) 1)).f0) = (rd (rd_LInt l1 (ji23)) 0)
     next =>
      rw [if_pos c27] at H
      have c27b0 : (((rd_Face (rd_LFace l0_0 (rd (rd_LInt l1 x10_1) 0)) (rd (rd_LInt l1 x10_1) 1)).f0) == (rd (rd_LInt l1 (ji23)) 0)) = true := beq_iff_eq.mpr c27
      have c27b1 : (((rd_Face (rd_LFace l0_0 (rd (rd_LInt l1 x10_1) 0)) (rd (rd_LInt l1 x10_1) 1)).f0) != (rd (rd_LInt l1 (ji23)) 0)) = false := bne_eq_false_iff_eq.mpr c27
      clear c27
      have H' := Aside0.mk H
      clear H
      have p102 : 0 ≤ (x10_1 : Int) := of_decide_eq_true (by first | (with_reducible assumption) | assumption)
      have q102 : x10_1 < (l1.length : Int) := of_decide_eq_true (by first | (with_reducible assumption) | assumption)
      obtain ⟨ad102, A102_0, c102_0, e102, hx102_0, hl102_0, hi102_0⟩ := at_LInt HR1.out x10_1 p102 q102
      cases e102
      replace hx102_0 := (HB.out.cell (yny w _ hx102_0)).trans hx102_0
      have HR102_0 := Aside0.mk hi102_0
      have HC102_0 := Aside0.mk hl102_0
      clear hi102_0 hl102_0
      replace p102 := eq_true p102
      replace q102 := eq_true q102
      try go_wp2
      have n0_ := Aside0.mk (blk_drew BK101.out)
      have n1_ := Aside0.mk (below_drew1 HB.out)
      clear BK101
      clear HB
      have BK101 := n0_
      have HB := n1_
      clear n0_ n1_
      have p103 : 0 ≤ (0 : Int) := (by omega)
      have q103 : 0 < ((rd_LInt l1 x10_1).length : Int) := of_decide_eq_true (by first | (with_reducible assumption) | assumption)
      obtain ⟨ad103, e103, hx103_0⟩ := Kd.at_int HR102_0.out 0 p103 q103
      have hw103_0 := hx103_0
      (try rw [show ((0 : Int)).toNat = 0 from rfl] at hw103_0)
      (try rw [show 0 * 1 = 0 from rfl] at hw103_0)
      (try rw [Addr.add_zero'] at hw103_0)
      cases e103
      have qi103 : (0 < (rd_LInt l1 x10_1).length) = True := eq_true (by omega)
      (try rw [show ((0 : Int)).toNat = 0 from rfl] at hx103_0)
      (try rw [Addr.add_zero'] at hx103_0)
      replace hx103_0 := (HB.out.cell (yny w _ hx103_0)).trans hx103_0
      replace p103 := eq_true p103
      replace q103 := eq_true q103
      have p104 : 0 ≤ ((rd (rd_LInt l1 x10_1) 0) : Int) := of_decide_eq_true (by first | (with_reducible assumption) | assumption)
      have q104 : (rd (rd_LInt l1 x10_1) 0) < (l0_0.length : Int) := of_decide_eq_true (by first | (with_reducible assumption) | assumption)
      obtain ⟨ad104, A104_0, c104_0, e104, hx104_0, hl104_0, hi104_0⟩ := at_LFace HR0_0.out (rd (rd_LInt l1 x10_1) 0) p104 q104
      have hw104_0 := hx104_0
      cases e104
      replace hx104_0 := (HB.out.cell (yny w _ hx104_0)).trans hx104_0
      have HR104_0 := Aside0.mk hi104_0
      have HC104_0 := Aside0.mk hl104_0
      clear hi104_0 hl104_0
      replace p104 := eq_true p104
      replace q104 := eq_true q104
      have p105 : 0 ≤ (1 : Int) := (by omega)
      have q105 : 1 < ((rd_LInt l1 x10_1).length : Int) := of_decide_eq_true (by first | (with_reducible assumption) | assumption)
      obtain ⟨ad105, e105, hx105_0⟩ := Kd.at_int HR102_0.out 1 p105 q105
      have hw105_0 := hx105_0
      (try rw [show ((1 : Int)).toNat = 1 from rfl] at hw105_0)
      (try rw [show 1 * 1 = 1 from rfl] at hw105_0)
      (try simp only [Nat.reduceMul, Nat.reduceEqDiff, Go.Addr.add, ↓reduceIte] at hw105_0)
      obtain rfl : ad103 = ad105 := (by injection e105)
      (try simp only [show (1 : Int).toNat = 1 from rfl, Nat.reduceMul, Nat.reduceEqDiff, Go.Addr.add, ↓reduceIte] at hx105_0)
      have qi105 : (1 < (rd_LInt l1 x10_1).length) = True := eq_true (by omega)
      (try rw [show ((1 : Int)).toNat = 1 from rfl] at hx105_0)
      replace hx105_0 := (HB.out.cell (yny w _ hx105_0)).trans hx105_0
      replace p105 := eq_true p105
      replace q105 := eq_true q105
      have p106 : 0 ≤ ((rd (rd_LInt l1 x10_1) 1) : Int) := of_decide_eq_true (by first | (with_reducible assumption) | assumption)
      have q106 : (rd (rd_LInt l1 x10_1) 1) < ((rd_LFace l0_0 (rd (rd_LInt l1 x10_1) 0)).length : Int) := of_decide_eq_true (by first | (with_reducible assumption) | assumption)
      obtain ⟨ad106, e106, hx106_0, hx106_1⟩ := at_Face HR104_0.out (rd (rd_LInt l1 x10_1) 1) p106 q106
      have hw106_1 := hx106_1
      have hw106_0 := hx106_0
      cases e106
      replace hx106_0 := (HB.out.cell (yny w _ hx106_0)).trans hx106_0
      replace hx106_1 := (HB.out.cell (yny w _ hx106_1)).trans hx106_1
      replace p106 := eq_true p106
      replace q106 := eq_true q106
      refine start_ (n := 14) (S := fun w' => w'.cell? ⟨gb101, 0, none⟩ = some (.slice (some ad104) l0_0.length c0_0) ∧ w'.cell? ad103 = some (.int .i64 (rd (rd_LInt l1 x10_1) 0)) ∧ w'.cell? (ad104.add ((rd (rd_LInt l1 x10_1) 0)).toNat) = some (.slice (some ad106) (rd_LFace l0_0 (rd (rd_LInt l1 x10_1) 0)).length c104_0) ∧ w'.cell? ⟨ad103.block, ad103.off + 1, none⟩ = some (.int .i64 (rd (rd_LInt l1 x10_1) 1)) ∧ w'.cell? (ad106.add (((rd (rd_LInt l1 x10_1) 1)).toNat * 2)) = some (.int .i64 ((rd_Face (rd_LFace l0_0 (rd (rd_LInt l1 x10_1) 0)) (rd (rd_LInt l1 x10_1) 1)).f0)) ∧ w'.cell? ⟨(ad106.add (((rd (rd_LInt l1 x10_1) 1)).toNat * 2)).block, (ad106.add (((rd (rd_LInt l1 x10_1) 1)).toNat * 2)).off + 1, none⟩ = some (.int .i64 ((rd_Face (rd_LFace l0_0 (rd (rd_LInt l1 x10_1) 0)) (rd (rd_LInt l1 x10_1) 1)).f1))) (ds := []) #[false, false, false, false, false, false, false, false, false, false, false, false, false, false] (by kernel_rfl) rfl rfl ⟨(blk_cell BK101.out 0).trans rfl, ((HB.out.cell (yny w _ hw103_0)).trans hw103_0), ((HB.out.cell (yny w _ hw104_0)).trans hw104_0), ((HB.out.cell (yny w _ hw105_0)).trans hw105_0), ((HB.out.cell (yny w _ hw106_0)).trans hw106_0), ((HB.out.cell (yny w _ hw106_1)).trans hw106_1)⟩ (fun hHeld => ?_); refine with_tabW impl_Triangulation_isPath.tab4 impl_Triangulation_isPath.bits4 (fun HT_ HW_ => ?_)
      generalize wr.drew = w28 at BK101 HB HR104_0 hx103_0 hx104_0 hx105_0 hx106_0 hx106_1 hHeld ⊢
      refine pure_ (i := 0) (N := some 15) (v := ?_) (a' := ?_) #[true, false, false, false, false, false, false, false, false, false, false, false, false, false] rfl rfl (any_of HT_.out (by kernel_rfl)) (fun _ _ _ h => h) (Or.inl ⟨by rfl, ?_⟩) ?_ ?_
      rotate_left
      next =>
       intro w'
       go_simp
       with_reducible rfl
      rotate_left
      next =>
       simp only [Act.put, yay, yby, ycy, i64_w, i32_w]
       rfl
      refine pure_ (i := 2) (N := some 17) (v := ?_) (a' := ?_) #[true, false, true, false, false, false, false, false, false, false, false, false, false, false] rfl rfl (any_of HT_.out (by kernel_rfl)) (fun _ _ _ h => h) (Or.inl ⟨by rfl, ?_⟩) ?_ ?_
      rotate_left
      next =>
       intro w'
       go_simp
       with_reducible rfl
      rotate_left
      next =>
       simp only [Act.put, yay, yby, ycy, i64_w, i32_w]
       rfl
      refine pure_ (i := 3) (N := some 18) (v := ?_) (a' := ?_) #[true, false, true, true, false, false, false, false, false, false, false, false, false, false] rfl rfl (any_of HT_.out (by kernel_rfl)) (fun _ _ _ h => h) (Or.inl ⟨by rfl, ?_⟩) ?_ ?_
      rotate_left
      next =>
       intro w'
       go_simp
       with_reducible rfl
      rotate_left
      next =>
       simp only [Act.put, yay, yby, ycy, i64_w, i32_w]
       rfl
      refine pure_ (i := 7) (N := some 22) (v := ?_) (a' := ?_) #[true, false, true, true, false, false, false, true, false, false, false, false, false, false] rfl rfl (any_of HT_.out (by kernel_rfl)) (fun _ _ _ h => h) (Or.inl ⟨by rfl, ?_⟩) ?_ ?_
      rotate_left
      next =>
       intro w'
       go_simp
       with_reducible rfl
      rotate_left
      next =>
       simp only [Act.put, yay, yby, ycy, i64_w, i32_w]
       rfl
      refine pure_ (i := 8) (N := some 23) (v := ?_) (a' := ?_) #[true, false, true, true, false, false, false, true, true, false, false, false, false, false] rfl rfl (any_of HT_.out (by kernel_rfl)) (fun _ _ _ h => h) (Or.inl ⟨by rfl, ?_⟩) ?_ ?_
      rotate_left
      next =>
       intro w'
       go_simp
       with_reducible rfl
      rotate_left
      next =>
       simp only [Act.put, yay, yby, ycy, i64_w, i32_w]
       rfl
      refine take_ (i := 1) (N := some 16) (v := ?_) (a' := ?_) #[true, true, true, true, false, false, false, true, true, false, false, false, false, false] rfl rfl (take_ofW HT_.out HW_.out (by kernel_rfl)) (fun _ _ _ h => h) (Or.inl ⟨by rfl, ?_⟩) hHeld ?_ ?_
      rotate_left
      next =>
       rintro w' ⟨s0, s1, s2, s3, s4, s5⟩
       go_simp
       with_reducible rfl
      rotate_left
      next =>
       simp only [Act.put, yay, yby, ycy, i64_w, i32_w]
       rfl
      refine take_ (i := 4) (N := some 19) (v := ?_) (a' := ?_) #[true, true, true, true, true, false, false, true, true, false, false, false, false, false] rfl rfl (take_ofW HT_.out HW_.out (by kernel_rfl)) (fun _ _ _ h => h) (Or.inl ⟨by rfl, ?_⟩) hHeld ?_ ?_
      rotate_left
      next =>
       rintro w' ⟨s0, s1, s2, s3, s4, s5⟩
       go_simp
       with_reducible rfl
      rotate_left
      next =>
       simp only [Act.put, yay, yby, ycy, i64_w, i32_w]
       rfl
      refine pure_ (i := 5) (N := some 20) (v := ?_) (a' := ?_) #[true, true, true, true, true, true, false, true, true, false, false, false, false, false] rfl rfl (any_of HT_.out (by kernel_rfl)) (fun _ _ _ h => h) (Or.inl ⟨by rfl, ?_⟩) ?_ ?_
      rotate_left
      next =>
       intro w'
       go_simp
       with_reducible rfl
      rotate_left
      next =>
       simp only [Act.put, yay, yby, ycy, i64_w, i32_w]
       rfl
      refine take_ (i := 6) (N := some 21) (v := ?_) (a' := ?_) #[true, true, true, true, true, true, true, true, true, false, false, false, false, false] rfl rfl (take_ofW HT_.out HW_.out (by kernel_rfl)) (fun _ _ _ h => h) (Or.inl ⟨by rfl, ?_⟩) hHeld ?_ ?_
      rotate_left
      next =>
       rintro w' ⟨s0, s1, s2, s3, s4, s5⟩
       go_simp
       with_reducible rfl
      rotate_left
      next =>
       simp only [Act.put, yay, yby, ycy, i64_w, i32_w]
       rfl
      refine take_ (i := 9) (N := some 24) (v := ?_) (a' := ?_) #[true, true, true, true, true, true, true, true, true, true, false, false, false, false] rfl rfl (take_ofW HT_.out HW_.out (by kernel_rfl)) (fun _ _ _ h => h) (Or.inl ⟨by rfl, ?_⟩) hHeld ?_ ?_
      rotate_left
      next =>
       rintro w' ⟨s0, s1, s2, s3, s4, s5⟩
       go_simp
       with_reducible rfl
      rotate_left
      next =>
       simp only [Act.put, yay, yby, ycy, i64_w, i32_w]
       rfl
      refine pure_ (i := 10) (N := some 25) (v := ?_) (a' := ?_) #[true, true, true, true, true, true, true, true, true, true, true, false, false, false] rfl rfl (any_of HT_.out (by kernel_rfl)) (fun _ _ _ h => h) (Or.inl ⟨by rfl, ?_⟩) ?_ ?_
      rotate_left
      next =>
       intro w'
       go_simp
       with_reducible rfl
      rotate_left
      next =>
       simp only [Act.put, yay, yby, ycy, i64_w, i32_w]
       rfl
      refine take_ (i := 11) (N := some 26) (v := ?_) (a' := ?_) #[true, true, true, true, true, true, true, true, true, true, true, true, false, false] rfl rfl (take_ofW HT_.out HW_.out (by kernel_rfl)) (fun _ _ _ h => h) (Or.inl ⟨by rfl, ?_⟩) hHeld ?_ ?_
      rotate_left
      next =>
       rintro w' ⟨s0, s1, s2, s3, s4, s5⟩
       go_simp
       with_reducible rfl
      rotate_left
      next =>
       simp only [Act.put, yay, yby, ycy, i64_w, i32_w]
       rfl
      refine one_ (i := 12) (N := some 7) #[true, true, true, true, true, true, true, true, true, true, true, true, true, false] rfl rfl (one_of HT_.out (by kernel_rfl)) (by decide) (fun K hK => ?_)
      refine box_step ?hg (N := 7) ?hd (cs := #[.int .i64 0, .int .i64 0]) (t := 75) ?hr ?_; (case hd => rfl); (case hg => rfl); (case hr => first | (go_simp; done) | (go_simp; rfl))
      intro gb107 hg w29 hbox hb
      have n0_ := Aside0.mk (blk_below (g := gb101) (o := .cells #[.slice (some ad104) l0_0.length c0_0] 35 (0, 0)) (by (with_reducible repeat (first | refine blk_drewN ?_ _ | refine blk_drew ?_ | refine blk_alloc ?_ _)); exact BK101.out) hb)
      have n1_ := Aside0.mk (below_step (by repeat (first | (with_reducible first | exact HB.out | apply below_alloc | apply pw_below_drewN | apply below_drew1 | refine below_set ?_ GE101.out) | exact HB.out)) hb)
      have n2_ := Aside0.mk (hbox)
      have n3_ := Aside0.mk ((by rw [hg]; exact (below_size (by repeat (first | (with_reducible first | exact HB.out | apply below_alloc | apply pw_below_drewN | apply below_drew1 | refine below_set ?_ GE101.out) | exact HB.out))) : w.heap.size ≤ gb107))
      have n4_ := Aside0.mk ((by rw [hg]; exact (below_size (by repeat (first | (with_reducible first | exact HB.out | apply below_alloc | apply pw_below_drewN | apply below_drew1 | refine below_set ?_ GE101.out) | exact HB.out))) : w.heap.size ≤ gb107))
      have n5_ := Aside0.mk ((by rw [hg]; exact Nat.ne_of_lt (blk_lt (g := gb101) (o := .cells #[.slice (some ad104) l0_0.length c0_0] 35 (0, 0)) (by (with_reducible repeat (first | refine blk_drewN ?_ _ | refine blk_drew ?_ | refine blk_alloc ?_ _)); exact BK101.out)) : gb101 ≠ gb107))
      have n6_ := Aside0.mk ((by rw [hg]; exact Nat.ne_of_gt (blk_lt (g := gb101) (o := .cells #[.slice (some ad104) l0_0.length c0_0] 35 (0, 0)) (by (with_reducible repeat (first | refine blk_drewN ?_ _ | refine blk_drew ?_ | refine blk_alloc ?_ _)); exact BK101.out)) : gb107 ≠ gb101))
      clear BK101
      clear HB
      have BK101 := n0_
      have HB := n1_
      have BK107 := n2_
      have GW107 := n3_
      have GE107 := n4_
      have NB101_107 := n5_
      have NB107_101 := n6_
      clear n0_ n1_ n2_ n3_ n4_ n5_ n6_
      clear hb hbox hg
      refine hK.out _ _ ⟨(blk_cell BK101.out 0).trans rfl, ((HB.out.cell (yny w _ hw103_0)).trans hw103_0), ((HB.out.cell (yny w _ hw104_0)).trans hw104_0), ((HB.out.cell (yny w _ hw105_0)).trans hw105_0), ((HB.out.cell (yny w _ hw106_0)).trans hw106_0), ((HB.out.cell (yny w _ hw106_1)).trans hw106_1)⟩ (fun hHeld => ?_)
      clear hK K
      refine norm_ (a' := ?_) ?_ ?_
      rotate_left
      next =>
       show Act.put _ (some 7) _ = _
       simp only [Act.put, yay, yby, ycy, i64_w, i32_w]
       rfl
      refine one_ (i := 13) (N := none) #[true, true, true, true, true, true, true, true, true, true, true, true, true, true] rfl rfl (one_of HT_.out (by kernel_rfl)) (by decide) (fun K hK => ?_)
      have hs30 : w29.cell? ⟨gb107, 0, none⟩ = some (.int .i64 0) := (blk_cell BK107.out 0).trans rfl
      have hfs30 := blk_frozen BK107.out 0
      have hns30_0 := NB101_107.out
      have hms30_0 := NB107_101.out
      have hs31 : w29.cell? ⟨gb107, 1, none⟩ = some (.int .i64 0) := (blk_cell BK107.out 1).trans rfl
      have hfs31 := blk_frozen BK107.out 1
      have hns31_0 := NB101_107.out
      have hms31_0 := NB107_101.out
      refine skip_ (w1 := ?_) (by rfl) rfl ?_ ?_
      rotate_left
      next =>
       go_simp
       rfl
      refine hK.out _ _ ⟨((cell_far (p := ⟨gb107, _, none⟩) NB101_107.out _).trans (((cell_far (p := ⟨gb107, _, none⟩) NB101_107.out _).trans (hHeld.1)))), ((cell_far (p := ⟨gb107, _, none⟩) (by first | exact Nat.ne_of_lt (Nat.lt_of_lt_of_le (by have := yny _ _ hw103_0; first | rwa [add_block] at this | exact this) GW107.out) | (rw [add_block]; exact Nat.ne_of_lt (Nat.lt_of_lt_of_le (by have := yny _ _ hw103_0; first | rwa [add_block] at this | exact this) GW107.out)) | (show (Addr.add _ _).block ≠ _; rw [add_block]; exact Nat.ne_of_lt (Nat.lt_of_lt_of_le (by have := yny _ _ hw103_0; first | rwa [add_block] at this | exact this) GW107.out)) | (dsimp only; exact Nat.ne_of_lt (Nat.lt_of_lt_of_le (by have := yny _ _ hw103_0; first | rwa [add_block] at this | exact this) GW107.out))) _).trans (((cell_far (p := ⟨gb107, _, none⟩) (by first | exact Nat.ne_of_lt (Nat.lt_of_lt_of_le (by have := yny _ _ hw103_0; first | rwa [add_block] at this | exact this) GW107.out) | (rw [add_block]; exact Nat.ne_of_lt (Nat.lt_of_lt_of_le (by have := yny _ _ hw103_0; first | rwa [add_block] at this | exact this) GW107.out)) | (show (Addr.add _ _).block ≠ _; rw [add_block]; exact Nat.ne_of_lt (Nat.lt_of_lt_of_le (by have := yny _ _ hw103_0; first | rwa [add_block] at this | exact this) GW107.out)) | (dsimp only; exact Nat.ne_of_lt (Nat.lt_of_lt_of_le (by have := yny _ _ hw103_0; first | rwa [add_block] at this | exact this) GW107.out))) _).trans (hHeld.2.1)))), ((cell_far (p := ⟨gb107, _, none⟩) (by first | exact Nat.ne_of_lt (Nat.lt_of_lt_of_le (by have := yny _ _ hw104_0; first | rwa [add_block] at this | exact this) GW107.out) | (rw [add_block]; exact Nat.ne_of_lt (Nat.lt_of_lt_of_le (by have := yny _ _ hw104_0; first | rwa [add_block] at this | exact this) GW107.out)) | (show (Addr.add _ _).block ≠ _; rw [add_block]; exact Nat.ne_of_lt (Nat.lt_of_lt_of_le (by have := yny _ _ hw104_0; first | rwa [add_block] at this | exact this) GW107.out)) | (dsimp only; exact Nat.ne_of_lt (Nat.lt_of_lt_of_le (by have := yny _ _ hw104_0; first | rwa [add_block] at this | exact this) GW107.out))) _).trans (((cell_far (p := ⟨gb107, _, none⟩) (by first | exact Nat.ne_of_lt (Nat.lt_of_lt_of_le (by have := yny _ _ hw104_0; first | rwa [add_block] at this | exact this) GW107.out) | (rw [add_block]; exact Nat.ne_of_lt (Nat.lt_of_lt_of_le (by have := yny _ _ hw104_0; first | rwa [add_block] at this | exact this) GW107.out)) | (show (Addr.add _ _).block ≠ _; rw [add_block]; exact Nat.ne_of_lt (Nat.lt_of_lt_of_le (by have := yny _ _ hw104_0; first | rwa [add_block] at this | exact this) GW107.out)) | (dsimp only; exact Nat.ne_of_lt (Nat.lt_of_lt_of_le (by have := yny _ _ hw104_0; first | rwa [add_block] at this | exact this) GW107.out))) _).trans (hHeld.2.2.1)))), ((cell_far (p := ⟨gb107, _, none⟩) (by first | exact Nat.ne_of_lt (Nat.lt_of_lt_of_le (by have := yny _ _ hw105_0; first | rwa [add_block] at this | exact this) GW107.out) | (rw [add_block]; exact Nat.ne_of_lt (Nat.lt_of_lt_of_le (by have := yny _ _ hw105_0; first | rwa [add_block] at this | exact this) GW107.out)) | (show (Addr.add _ _).block ≠ _; rw [add_block]; exact Nat.ne_of_lt (Nat.lt_of_lt_of_le (by have := yny _ _ hw105_0; first | rwa [add_block] at this | exact this) GW107.out)) | (dsimp only; exact Nat.ne_of_lt (Nat.lt_of_lt_of_le (by have := yny _ _ hw105_0; first | rwa [add_block] at this | exact this) GW107.out))) _).trans (((cell_far (p := ⟨gb107, _, none⟩) (by first | exact Nat.ne_of_lt (Nat.lt_of_lt_of_le (by have := yny _ _ hw105_0; first | rwa [add_block] at this | exact this) GW107.out) | (rw [add_block]; exact Nat.ne_of_lt (Nat.lt_of_lt_of_le (by have := yny _ _ hw105_0; first | rwa [add_block] at this | exact this) GW107.out)) | (show (Addr.add _ _).block ≠ _; rw [add_block]; exact Nat.ne_of_lt (Nat.lt_of_lt_of_le (by have := yny _ _ hw105_0; first | rwa [add_block] at this | exact this) GW107.out)) | (dsimp only; exact Nat.ne_of_lt (Nat.lt_of_lt_of_le (by have := yny _ _ hw105_0; first | rwa [add_block] at this | exact this) GW107.out))) _).trans (hHeld.2.2.2.1)))), ((cell_far (p := ⟨gb107, _, none⟩) (by first | exact Nat.ne_of_lt (Nat.lt_of_lt_of_le (by have := yny _ _ hw106_0; first | rwa [add_block] at this | exact this) GW107.out) | (rw [add_block]; exact Nat.ne_of_lt (Nat.lt_of_lt_of_le (by have := yny _ _ hw106_0; first | rwa [add_block] at this | exact this) GW107.out)) | (show (Addr.add _ _).block ≠ _; rw [add_block]; exact Nat.ne_of_lt (Nat.lt_of_lt_of_le (by have := yny _ _ hw106_0; first | rwa [add_block] at this | exact this) GW107.out)) | (dsimp only; exact Nat.ne_of_lt (Nat.lt_of_lt_of_le (by have := yny _ _ hw106_0; first | rwa [add_block] at this | exact this) GW107.out))) _).trans (((cell_far (p := ⟨gb107, _, none⟩) (by first | exact Nat.ne_of_lt (Nat.lt_of_lt_of_le (by have := yny _ _ hw106_0; first | rwa [add_block] at this | exact this) GW107.out) | (rw [add_block]; exact Nat.ne_of_lt (Nat.lt_of_lt_of_le (by have := yny _ _ hw106_0; first | rwa [add_block] at this | exact this) GW107.out)) | (show (Addr.add _ _).block ≠ _; rw [add_block]; exact Nat.ne_of_lt (Nat.lt_of_lt_of_le (by have := yny _ _ hw106_0; first | rwa [add_block] at this | exact this) GW107.out)) | (dsimp only; exact Nat.ne_of_lt (Nat.lt_of_lt_of_le (by have := yny _ _ hw106_0; first | rwa [add_block] at this | exact this) GW107.out))) _).trans (hHeld.2.2.2.2.1)))), ((cell_far (p := ⟨gb107, _, none⟩) (by first | exact Nat.ne_of_lt (Nat.lt_of_lt_of_le (by have := yny _ _ hw106_1; first | rwa [add_block] at this | exact this) GW107.out) | (rw [add_block]; exact Nat.ne_of_lt (Nat.lt_of_lt_of_le (by have := yny _ _ hw106_1; first | rwa [add_block] at this | exact this) GW107.out)) | (show (Addr.add _ _).block ≠ _; rw [add_block]; exact Nat.ne_of_lt (Nat.lt_of_lt_of_le (by have := yny _ _ hw106_1; first | rwa [add_block] at this | exact this) GW107.out)) | (dsimp only; exact Nat.ne_of_lt (Nat.lt_of_lt_of_le (by have := yny _ _ hw106_1; first | rwa [add_block] at this | exact this) GW107.out))) _).trans (((cell_far (p := ⟨gb107, _, none⟩) (by first | exact Nat.ne_of_lt (Nat.lt_of_lt_of_le (by have := yny _ _ hw106_1; first | rwa [add_block] at this | exact this) GW107.out) | (rw [add_block]; exact Nat.ne_of_lt (Nat.lt_of_lt_of_le (by have := yny _ _ hw106_1; first | rwa [add_block] at this | exact this) GW107.out)) | (show (Addr.add _ _).block ≠ _; rw [add_block]; exact Nat.ne_of_lt (Nat.lt_of_lt_of_le (by have := yny _ _ hw106_1; first | rwa [add_block] at this | exact this) GW107.out)) | (dsimp only; exact Nat.ne_of_lt (Nat.lt_of_lt_of_le (by have := yny _ _ hw106_1; first | rwa [add_block] at this | exact this) GW107.out))) _).trans (hHeld.2.2.2.2.2))))⟩ (fun hHeld => ?_)
      clear hK K
      refine done_ (done_of HT_.out (by kernel_rfl)) ?_
      try go_wp2
      have n0_ : Aside0 (((w29.setCell ⟨gb107, 0, none⟩ (.int .i64 ((rd_Face (rd_LFace l0_0 (rd (rd_LInt l1 x10_1) 0)) (rd (rd_LInt l1 x10_1) 1)).f0))).setCell ⟨gb107, 1, none⟩ (.int .i64 ((rd_Face (rd_LFace l0_0 (rd (rd_LInt l1 x10_1) 0)) (rd (rd_LInt l1 x10_1) 1)).f1))).heap[gb101]? = some (.cells #[.slice (some ad104) l0_0.length c0_0] 35 (0, 0))) := ⟨by (with_reducible repeat (first | refine blk_drewN ?_ _ | refine blk_drew ?_ | refine blk_alloc ?_ _)); refine blk_far ?_ NB101_107.out _; (with_reducible repeat (first | refine blk_drewN ?_ _ | refine blk_drew ?_ | refine blk_alloc ?_ _)); refine blk_far ?_ NB101_107.out _; (with_reducible repeat (first | refine blk_drewN ?_ _ | refine blk_drew ?_ | refine blk_alloc ?_ _)); exact BK101.out⟩
      have n1_ : Aside0 (((w29.setCell ⟨gb107, 0, none⟩ (.int .i64 ((rd_Face (rd_LFace l0_0 (rd (rd_LInt l1 x10_1) 0)) (rd (rd_LInt l1 x10_1) 1)).f0))).setCell ⟨gb107, 1, none⟩ (.int .i64 ((rd_Face (rd_LFace l0_0 (rd (rd_LInt l1 x10_1) 0)) (rd (rd_LInt l1 x10_1) 1)).f1))).heap[gb107]? = some (.cells #[.int .i64 ((rd_Face (rd_LFace l0_0 (rd (rd_LInt l1 x10_1) 0)) (rd (rd_LInt l1 x10_1) 1)).f0), .int .i64 ((rd_Face (rd_LFace l0_0 (rd (rd_LInt l1 x10_1) 0)) (rd (rd_LInt l1 x10_1) 1)).f1)] 75 (0, 0))) := ⟨by (with_reducible repeat (first | refine blk_drewN ?_ _ | refine blk_drew ?_ | refine blk_alloc ?_ _)); refine blk_put (cs := #[.int .i64 ((rd_Face (rd_LFace l0_0 (rd (rd_LInt l1 x10_1) 0)) (rd (rd_LInt l1 x10_1) 1)).f0), .int .i64 0]) ?_ 1 _ rfl; (with_reducible repeat (first | refine blk_drewN ?_ _ | refine blk_drew ?_ | refine blk_alloc ?_ _)); refine blk_put (cs := #[.int .i64 0, .int .i64 0]) ?_ 0 _ rfl; (with_reducible repeat (first | refine blk_drewN ?_ _ | refine blk_drew ?_ | refine blk_alloc ?_ _)); exact BK107.out⟩
      have n2_ : Aside0 (Below w.heap.size w ((w29.setCell ⟨gb107, 0, none⟩ (.int .i64 ((rd_Face (rd_LFace l0_0 (rd (rd_LInt l1 x10_1) 0)) (rd (rd_LInt l1 x10_1) 1)).f0))).setCell ⟨gb107, 1, none⟩ (.int .i64 ((rd_Face (rd_LFace l0_0 (rd (rd_LInt l1 x10_1) 0)) (rd (rd_LInt l1 x10_1) 1)).f1)))) := ⟨by repeat (first | (with_reducible first | exact HB.out | apply below_alloc | apply pw_below_drewN | apply below_drew1 | refine below_set ?_ GE101.out | refine below_set ?_ GE107.out) | exact HB.out)⟩
      (try clear BK101)
      (try clear BK107)
      (try clear HB)
      generalize ((w29.setCell ⟨gb107, 0, none⟩ (.int .i64 ((rd_Face (rd_LFace l0_0 (rd (rd_LInt l1 x10_1) 0)) (rd (rd_LInt l1 x10_1) 1)).f0))).setCell ⟨gb107, 1, none⟩ (.int .i64 ((rd_Face (rd_LFace l0_0 (rd (rd_LInt l1 x10_1) 0)) (rd (rd_LInt l1 x10_1) 1)).f1))) = w32 at n0_ n1_ n2_ ⊢
      have BK101 := n0_
      have BK107 := n1_
      have HB := n2_
      clear n0_ n1_ n2_
      have n0_ := Aside0.mk (blk_drew BK101.out)
      have n1_ := Aside0.mk (blk_drew BK107.out)
      have n2_ := Aside0.mk (below_drew1 HB.out)
      clear BK101
      clear BK107
      clear HB
      have BK101 := n0_
      have BK107 := n1_
      have HB := n2_
      clear n0_ n1_ n2_
      have p109 : 0 ≤ ((ji23) : Int) := of_decide_eq_true (by first | (with_reducible assumption) | assumption)
      have q109 : (ji23) < (l1.length : Int) := of_decide_eq_true (by first | (with_reducible assumption) | assumption)
      obtain ⟨ad109, A109_0, c109_0, e109, hx109_0, hl109_0, hi109_0⟩ := at_LInt HR1.out (ji23) p109 q109
      have hw109_0 := hx109_0
      obtain rfl : ad102 = ad109 := (by injection e109)
      replace hx109_0 := (HB.out.cell (yny w _ hx109_0)).trans hx109_0
      have HR109_0 := Aside0.mk hi109_0
      have HC109_0 := Aside0.mk hl109_0
      clear hi109_0 hl109_0
      replace p109 := eq_true p109
      replace q109 := eq_true q109
      have p110 : 0 ≤ (0 : Int) := (by omega)
      have q110 : 0 < ((rd_LInt l1 (ji23)).length : Int) := of_decide_eq_true (by first | (with_reducible assumption) | assumption)
      obtain ⟨ad110, e110, hx110_0⟩ := Kd.at_int HR109_0.out 0 p110 q110
      have hw110_0 := hx110_0
      (try rw [show ((0 : Int)).toNat = 0 from rfl] at hw110_0)
      (try rw [show 0 * 1 = 0 from rfl] at hw110_0)
      (try rw [Addr.add_zero'] at hw110_0)
      cases e110
      have qi110 : (0 < (rd_LInt l1 (ji23)).length) = True := eq_true (by omega)
      (try rw [show ((0 : Int)).toNat = 0 from rfl] at hx110_0)
      (try rw [Addr.add_zero'] at hx110_0)
      replace hx110_0 := (HB.out.cell (yny w _ hx110_0)).trans hx110_0
      replace p110 := eq_true p110
      replace q110 := eq_true q110
      refine start_ (n := 17) (S := fun w' => w'.cell? ⟨gb107, 0, none⟩ = some (.int .i64 ((rd_Face (rd_LFace l0_0 (rd (rd_LInt l1 x10_1) 0)) (rd (rd_LInt l1 x10_1) 1)).f0)) ∧ w'.cell? ⟨gb107, 1, none⟩ = some (.int .i64 ((rd_Face (rd_LFace l0_0 (rd (rd_LInt l1 x10_1) 0)) (rd (rd_LInt l1 x10_1) 1)).f1)) ∧ w'.cell? (ad102.add ((ji23)).toNat) = some (.slice (some ad110) (rd_LInt l1 (ji23)).length c109_0) ∧ w'.cell? ad110 = some (.int .i64 (rd (rd_LInt l1 (ji23)) 0))) (ds := []) #[false, false, false, false, false, false, false, false, false, false, false, false, false, false, false, false, false] (by kernel_rfl) rfl rfl ⟨(blk_cell BK107.out 0).trans rfl, (blk_cell BK107.out 1).trans rfl, ((HB.out.cell (yny w _ hw109_0)).trans hw109_0), ((HB.out.cell (yny w _ hw110_0)).trans hw110_0)⟩ (fun hHeld => ?_); refine with_tabW impl_Triangulation_isPath.tab5 impl_Triangulation_isPath.bits5 (fun HT_ HW_ => ?_)
      generalize w32.drew = w33 at BK101 BK107 HB HR109_0 hx109_0 hx110_0 hHeld ⊢
      refine take_ (i := 0) (N := some 27) (v := ?_) (a' := ?_) #[true, false, false, false, false, false, false, false, false, false, false, false, false, false, false, false, false] rfl rfl (take_ofW HT_.out HW_.out (by kernel_rfl)) (fun _ _ _ h => h) (Or.inl ⟨by rfl, ?_⟩) hHeld ?_ ?_
      rotate_left
      next =>
       rintro w' ⟨s0, s1, s2, s3⟩
       go_simp
       with_reducible rfl
      rotate_left
      next =>
       simp only [Act.put, yay, yby, ycy, i64_w, i32_w]
       rfl
      refine one_ (i := 1) (N := some 28) #[true, true, false, false, false, false, false, false, false, false, false, false, false, false, false, false, false] rfl rfl (one_of HT_.out (by kernel_rfl)) (by decide) (fun K hK => ?_)
      refine goes_ Try.func77 (by kernel_rfl) rfl #[.agg #[.int .i64 ((rd_Face (rd_LFace l0_0 (rd (rd_LInt l1 x10_1) 0)) (rd (rd_LInt l1 x10_1) 1)).f0), .int .i64 ((rd_Face (rd_LFace l0_0 (rd (rd_LInt l1 x10_1) 0)) (rd (rd_LInt l1 x10_1) 1)).f1)]] (by rfl) rfl rfl (by (try simp only [yiy, yjy, yky]); first | done | rfl | (simp only [yly, ymy]; rfl)) ?_
      with_reducible refine (impl_Face_isBoundary.calls ((rd_Face (rd_LFace l0_0 (rd (rd_LInt l1 x10_1) 0)) (rd (rd_LInt l1 x10_1) 1)).f0) ((rd_Face (rd_LFace l0_0 (rd (rd_LInt l1 x10_1) 0)) (rd (rd_LInt l1 x10_1) 1)).f1) false _ A13.out).mono ?_
      rintro e w34 ⟨rfl, hb⟩
      refine ⟨_, rfl, ?_⟩
      have n0_ := Aside0.mk (blk_below (g := gb101) (o := .cells #[.slice (some ad104) l0_0.length c0_0] 35 (0, 0)) (by (with_reducible repeat (first | refine blk_drewN ?_ _ | refine blk_drew ?_ | refine blk_alloc ?_ _)); exact BK101.out) hb)
      have n1_ := Aside0.mk (blk_below (g := gb107) (o := .cells #[.int .i64 ((rd_Face (rd_LFace l0_0 (rd (rd_LInt l1 x10_1) 0)) (rd (rd_LInt l1 x10_1) 1)).f0), .int .i64 ((rd_Face (rd_LFace l0_0 (rd (rd_LInt l1 x10_1) 0)) (rd (rd_LInt l1 x10_1) 1)).f1)] 75 (0, 0)) (by (with_reducible repeat (first | refine blk_drewN ?_ _ | refine blk_drew ?_ | refine blk_alloc ?_ _)); exact BK107.out) hb)
      have n2_ := Aside0.mk (below_step (by repeat (first | (with_reducible first | exact HB.out | apply below_alloc | apply pw_below_drewN | apply below_drew1 | refine below_set ?_ GE101.out | refine below_set ?_ GE107.out) | exact HB.out)) hb)
      clear BK101
      clear BK107
      clear HB
      have BK101 := n0_
      have BK107 := n1_
      have HB := n2_
      clear n0_ n1_ n2_
      (try clear hb)
      (try clear hb2)
      (try clear hk)
      (try clear hi)
      refine hK.out _ _ ⟨(blk_cell BK107.out 0).trans rfl, (blk_cell BK107.out 1).trans rfl, ((HB.out.cell (yny w _ hw109_0)).trans hw109_0), ((HB.out.cell (yny w _ hw110_0)).trans hw110_0)⟩ (fun hHeld => ?_)
      clear hK K
      refine norm_ (a' := ?_) ?_ ?_
      rotate_left
      next =>
       show Act.put _ (some 28) _ = _
       simp only [Act.put, yay, yby, ycy, i64_w, i32_w]
       rfl
      refine pure_ (i := 2) (N := some 29) (v := ?_) (a' := ?_) #[true, true, true, false, false, false, false, false, false, false, false, false, false, false, false, false, false] rfl rfl (any_of HT_.out (by kernel_rfl)) (fun _ _ _ h => h) (Or.inl ⟨by rfl, ?_⟩) ?_ ?_
      rotate_left
      next =>
       intro w'
       go_simp
       with_reducible rfl
      rotate_left
      next =>
       simp only [Act.put, yay, yby, ycy, i64_w, i32_w]
       rfl
      refine pure_ (i := 3) (N := some 30) (v := ?_) (a' := ?_) #[true, true, true, true, false, false, false, false, false, false, false, false, false, false, false, false, false] rfl rfl (any_of HT_.out (by kernel_rfl)) (fun _ _ _ h => h) (Or.inl ⟨by rfl, ?_⟩) ?_ ?_
      rotate_left
      next =>
       intro w'
       go_simp
       with_reducible rfl
      rotate_left
      next =>
       simp only [Act.put, yay, yby, ycy, i64_w, i32_w]
       rfl
      refine pure_ (i := 5) (N := some 32) (v := ?_) (a' := ?_) #[true, true, true, true, false, true, false, false, false, false, false, false, false, false, false, false, false] rfl rfl (any_of HT_.out (by kernel_rfl)) (fun _ _ _ h => h) (Or.inl ⟨by rfl, ?_⟩) ?_ ?_
      rotate_left
      next =>
       intro w'
       go_simp
       with_reducible rfl
      rotate_left
      next =>
       simp only [Act.put, yay, yby, ycy, i64_w, i32_w]
       rfl
      refine pure_ (i := 6) (N := some 33) (v := ?_) (a' := ?_) #[true, true, true, true, false, true, true, false, false, false, false, false, false, false, false, false, false] rfl rfl (any_of HT_.out (by kernel_rfl)) (fun _ _ _ h => h) (Or.inl ⟨by rfl, ?_⟩) ?_ ?_
      rotate_left
      next =>
       intro w'
       go_simp
       with_reducible rfl
      rotate_left
      next =>
       simp only [Act.put, yay, yby, ycy, i64_w, i32_w]
       rfl
      refine pure_ (i := 7) (N := some 34) (v := ?_) (a' := ?_) #[true, true, true, true, false, true, true, true, false, false, false, false, false, false, false, false, false] rfl rfl (any_of HT_.out (by kernel_rfl)) (fun _ _ _ h => h) (Or.inl ⟨by rfl, ?_⟩) ?_ ?_
      rotate_left
      next =>
       intro w'
       go_simp
       with_reducible rfl
      rotate_left
      next =>
       simp only [Act.put, yay, yby, ycy, i64_w, i32_w]
       rfl
      refine pure_ (i := 8) (N := some 35) (v := ?_) (a' := ?_) #[true, true, true, true, false, true, true, true, true, false, false, false, false, false, false, false, false] rfl rfl (any_of HT_.out (by kernel_rfl)) (fun _ _ _ h => h) (Or.inl ⟨by rfl, ?_⟩) ?_ ?_
      rotate_left
      next =>
       intro w'
       go_simp
       with_reducible rfl
      rotate_left
      next =>
       simp only [Act.put, yay, yby, ycy, i64_w, i32_w]
       rfl
      refine pure_ (i := 9) (N := some 36) (v := ?_) (a' := ?_) #[true, true, true, true, false, true, true, true, true, true, false, false, false, false, false, false, false] rfl rfl (any_of HT_.out (by kernel_rfl)) (fun _ _ _ h => h) (Or.inl ⟨by rfl, ?_⟩) ?_ ?_
      rotate_left
      next =>
       intro w'
       go_simp
       with_reducible rfl
      rotate_left
      next =>
       simp only [Act.put, yay, yby, ycy, i64_w, i32_w]
       rfl
      refine pure_ (i := 10) (N := some 37) (v := ?_) (a' := ?_) #[true, true, true, true, false, true, true, true, true, true, true, false, false, false, false, false, false] rfl rfl (any_of HT_.out (by kernel_rfl)) (fun _ _ _ h => h) (Or.inl ⟨by rfl, ?_⟩) ?_ ?_
      rotate_left
      next =>
       intro w'
       go_simp
       with_reducible rfl
      rotate_left
      next =>
       simp only [Act.put, yay, yby, ycy, i64_w, i32_w]
       rfl
      refine pure_ (i := 11) (N := some 38) (v := ?_) (a' := ?_) #[true, true, true, true, false, true, true, true, true, true, true, true, false, false, false, false, false] rfl rfl (any_of HT_.out (by kernel_rfl)) (fun _ _ _ h => h) (Or.inl ⟨by rfl, ?_⟩) ?_ ?_
      rotate_left
      next =>
       intro w'
       go_simp
       with_reducible rfl
      rotate_left
      next =>
       simp only [Act.put, yay, yby, ycy, i64_w, i32_w]
       rfl
      refine take_ (i := 4) (N := some 31) (v := ?_) (a' := ?_) #[true, true, true, true, true, true, true, true, true, true, true, true, false, false, false, false, false] rfl rfl (take_ofW HT_.out HW_.out (by kernel_rfl)) (fun _ _ _ h => h) (Or.inl ⟨by rfl, ?_⟩) hHeld ?_ ?_
      rotate_left
      next =>
       rintro w' ⟨s0, s1, s2, s3⟩
       go_simp
       with_reducible rfl
      rotate_left
      next =>
       simp only [Act.put, yay, yby, ycy, i64_w, i32_w]
       rfl
      refine take_ (i := 12) (N := some 39) (v := ?_) (a' := ?_) #[true, true, true, true, true, true, true, true, true, true, true, true, true, false, false, false, false] rfl rfl (take_ofW HT_.out HW_.out (by kernel_rfl)) (fun _ _ _ h => h) (Or.inl ⟨by rfl, ?_⟩) hHeld ?_ ?_
      rotate_left
      next =>
       rintro w' ⟨s0, s1, s2, s3⟩
       go_simp
       with_reducible rfl
      rotate_left
      next =>
       simp only [Act.put, yay, yby, ycy, i64_w, i32_w]
       rfl
      refine pure_ (i := 13) (N := some 40) (v := ?_) (a' := ?_) #[true, true, true, true, true, true, true, true, true, true, true, true, true, true, false, false, false] rfl rfl (any_of HT_.out (by kernel_rfl)) (fun _ _ _ h => h) (Or.inl ⟨by rfl, ?_⟩) ?_ ?_
      rotate_left
      next =>
       intro w'
       go_simp
       with_reducible rfl
      rotate_left
      next =>
       simp only [Act.put, yay, yby, ycy, i64_w, i32_w]
       rfl
      refine take_ (i := 14) (N := some 41) (v := ?_) (a' := ?_) #[true, true, true, true, true, true, true, true, true, true, true, true, true, true, true, false, false] rfl rfl (take_ofW HT_.out HW_.out (by kernel_rfl)) (fun _ _ _ h => h) (Or.inl ⟨by rfl, ?_⟩) hHeld ?_ ?_
      rotate_left
      next =>
       rintro w' ⟨s0, s1, s2, s3⟩
       go_simp
       with_reducible rfl
      rotate_left
      next =>
       simp only [Act.put, yay, yby, ycy, i64_w, i32_w]
       rfl
      refine pure_ (i := 15) (N := some 42) (v := ?_) (a' := ?_) #[true, true, true, true, true, true, true, true, true, true, true, true, true, true, true, true, false] rfl rfl (any_of HT_.out (by kernel_rfl)) (fun _ _ _ h => h) (Or.inl ⟨by rfl, ?_⟩) ?_ ?_
      rotate_left
      next =>
       intro w'
       go_simp
       with_reducible rfl
      rotate_left
      next =>
       simp only [Act.put, yay, yby, ycy, i64_w, i32_w]
       rfl
      refine pure_ (i := 16) (N := some 43) (v := ?_) (a' := ?_) #[true, true, true, true, true, true, true, true, true, true, true, true, true, true, true, true, true] rfl rfl (any_of HT_.out (by kernel_rfl)) (fun _ _ _ h => h) (Or.inl ⟨by rfl, ?_⟩) ?_ ?_
      rotate_left
      next =>
       intro w'
       go_simp
       with_reducible rfl
      rotate_left
      next =>
       simp only [Act.put, yay, yby, ycy, i64_w, i32_w]
       rfl
      refine done_ (done_of HT_.out (by kernel_rfl)) ?_
      try go_wp2
      go_roundg k1
      case measure => have := HK1.out; omega
      case rel => exact ⟨(wrap64 (x10_1 + 1)), (by first | rfl | (simp; done) | (simp [*]; done)), H', ⟨by have := HK1.out; omega⟩, ⟨by (with_reducible repeat (first | refine blk_drewN ?_ _ | refine blk_drew ?_ | refine blk_alloc ?_ _)); exact BK101.out⟩, ⟨by repeat (first | (with_reducible first | exact HB.out | apply below_alloc | apply pw_below_drewN | apply below_drew1 | refine below_set ?_ GE101.out | refine below_set ?_ GE107.out) | exact HB.out)⟩⟩
     next =>
      rw [if_neg c27] at H
      have c27b0 : (((rd_Face (rd_LFace l0_0 (rd (rd_LInt l1 x10_1) 0)) (rd (rd_LInt l1 x10_1) 1)).f0) == (rd (rd_LInt l1 (ji23)) 0)) = false := beq_eq_false_iff_ne.mpr c27
      have c27b1 : (((rd_Face (rd_LFace l0_0 (rd (rd_LInt l1 x10_1) 0)) (rd (rd_LInt l1 x10_1) 1)).f0) != (rd (rd_LInt l1 (ji23)) 0)) = true := bne_iff_ne.mpr c27
      obtain rfl := yey H
      have p102 : 0 ≤ (x10_1 : Int) := of_decide_eq_true (by first | (with_reducible assumption) | assumption)
      have q102 : x10_1 < (l1.length : Int) := of_decide_eq_true (by first | (with_reducible assumption) | assumption)
      obtain ⟨ad102, A102_0, c102_0, e102, hx102_0, hl102_0, hi102_0⟩ := at_LInt HR1.out x10_1 p102 q102
      cases e102
      replace hx102_0 := (HB.out.cell (yny w _ hx102_0)).trans hx102_0
      have HR102_0 := Aside0.mk hi102_0
      have HC102_0 := Aside0.mk hl102_0
      clear hi102_0 hl102_0
      replace p102 := eq_true p102
      replace q102 := eq_true q102
      try go_wp2
      have n0_ := Aside0.mk (blk_drew BK101.out)
      have n1_ := Aside0.mk (below_drew1 HB.out)
      clear BK101
      clear HB
      have BK101 := n0_
      have HB := n1_
      clear n0_ n1_
      have p103 : 0 ≤ (0 : Int) := (by omega)
      have q103 : 0 < ((rd_LInt l1 x10_1).length : Int) := of_decide_eq_true (by first | (with_reducible assumption) | assumption)
      obtain ⟨ad103, e103, hx103_0⟩ := Kd.at_int HR102_0.out 0 p103 q103
      have hw103_0 := hx103_0
      (try rw [show ((0 : Int)).toNat = 0 from rfl] at hw103_0)
      (try rw [show 0 * 1 = 0 from rfl] at hw103_0)
      (try rw [Addr.add_zero'] at hw103_0)
      cases e103
      have qi103 : (0 < (rd_LInt l1 x10_1).length) = True := eq_true (by omega)
      (try rw [show ((0 : Int)).toNat = 0 from rfl] at hx103_0)
      (try rw [Addr.add_zero'] at hx103_0)
      replace hx103_0 := (HB.out.cell (yny w _ hx103_0)).trans hx103_0
      replace p103 := eq_true p103
      replace q103 := eq_true q103
      have p104 : 0 ≤ ((rd (rd_LInt l1 x10_1) 0) : Int) := of_decide_eq_true (by first | (with_reducible assumption) | assumption)
      have q104 : (rd (rd_LInt l1 x10_1) 0) < (l0_0.length : Int) := of_decide_eq_true (by first | (with_reducible assumption) | assumption)
      obtain ⟨ad104, A104_0, c104_0, e104, hx104_0, hl104_0, hi104_0⟩ := at_LFace HR0_0.out (rd (rd_LInt l1 x10_1) 0) p104 q104
      have hw104_0 := hx104_0
      cases e104
      replace hx104_0 := (HB.out.cell (yny w _ hx104_0)).trans hx104_0
      have HR104_0 := Aside0.mk hi104_0
      have HC104_0 := Aside0.mk hl104_0
      clear hi104_0 hl104_0
      replace p104 := eq_true p104
      replace q104 := eq_true q104
      have p105 : 0 ≤ (1 : Int) := (by omega)
      have q105 : 1 < ((rd_LInt l1 x10_1).length : Int) := of_decide_eq_true (by first | (with_reducible assumption) | assumption)
      obtain ⟨ad105, e105, hx105_0⟩ := Kd.at_int HR102_0.out 1 p105 q105
      have hw105_0 := hx105_0
      (try rw [show ((1 : Int)).toNat = 1 from rfl] at hw105_0)
      (try rw [show 1 * 1 = 1 from rfl] at hw105_0)
      (try simp only [Nat.reduceMul, Nat.reduceEqDiff, Go.Addr.add, ↓reduceIte] at hw105_0)
      obtain rfl : ad103 = ad105 := (by injection e105)
      (try simp only [show (1 : Int).toNat = 1 from rfl, Nat.reduceMul, Nat.reduceEqDiff, Go.Addr.add, ↓reduceIte] at hx105_0)
      have qi105 : (1 < (rd_LInt l1 x10_1).length) = True := eq_true (by omega)
      (try rw [show ((1 : Int)).toNat = 1 from rfl] at hx105_0)
      replace hx105_0 := (HB.out.cell (yny w _ hx105_0)).trans hx105_0
      replace p105 := eq_true p105
      replace q105 := eq_true q105
      have p106 : 0 ≤ ((rd (rd_LInt l1 x10_1) 1) : Int) := of_decide_eq_true (by first | (with_reducible assumption) | assumption)
      have q106 : (rd (rd_LInt l1 x10_1) 1) < ((rd_LFace l0_0 (rd (rd_LInt l1 x10_1) 0)).length : Int) := of_decide_eq_true (by first | (with_reducible assumption) | assumption)
      obtain ⟨ad106, e106, hx106_0, hx106_1⟩ := at_Face HR104_0.out (rd (rd_LInt l1 x10_1) 1) p106 q106
      have hw106_1 := hx106_1
      have hw106_0 := hx106_0
      cases e106
      replace hx106_0 := (HB.out.cell (yny w _ hx106_0)).trans hx106_0
      replace hx106_1 := (HB.out.cell (yny w _ hx106_1)).trans hx106_1
      replace p106 := eq_true p106
      replace q106 := eq_true q106
      refine start_ (n := 14) (S := fun w' => w'.cell? ⟨gb101, 0, none⟩ = some (.slice (some ad104) l0_0.length c0_0) ∧ w'.cell? ad103 = some (.int .i64 (rd (rd_LInt l1 x10_1) 0)) ∧ w'.cell? (ad104.add ((rd (rd_LInt l1 x10_1) 0)).toNat) = some (.slice (some ad106) (rd_LFace l0_0 (rd (rd_LInt l1 x10_1) 0)).length c104_0) ∧ w'.cell? ⟨ad103.block, ad103.off + 1, none⟩ = some (.int .i64 (rd (rd_LInt l1 x10_1) 1)) ∧ w'.cell? (ad106.add (((rd (rd_LInt l1 x10_1) 1)).toNat * 2)) = some (.int .i64 ((rd_Face (rd_LFace l0_0 (rd (rd_LInt l1 x10_1) 0)) (rd (rd_LInt l1 x10_1) 1)).f0)) ∧ w'.cell? ⟨(ad106.add (((rd (rd_LInt l1 x10_1) 1)).toNat * 2)).block, (ad106.add (((rd (rd_LInt l1 x10_1) 1)).toNat * 2)).off + 1, none⟩ = some (.int .i64 ((rd_Face (rd_LFace l0_0 (rd (rd_LInt l1 x10_1) 0)) (rd (rd_LInt l1 x10_1) 1)).f1))) (ds := []) #[false, false, false, false, false, false, false, false, false, false, false, false, false, false] (by kernel_rfl) rfl rfl ⟨(blk_cell BK101.out 0).trans rfl, ((HB.out.cell (yny w _ hw103_0)).trans hw103_0), ((HB.out.cell (yny w _ hw104_0)).trans hw104_0), ((HB.out.cell (yny w _ hw105_0)).trans hw105_0), ((HB.out.cell (yny w _ hw106_0)).trans hw106_0), ((HB.out.cell (yny w _ hw106_1)).trans hw106_1)⟩ (fun hHeld => ?_); refine with_tabW impl_Triangulation_isPath.tab4 impl_Triangulation_isPath.bits4 (fun HT_ HW_ => ?_)
      generalize wr.drew = w35 at BK101 HB HR104_0 hx103_0 hx104_0 hx105_0 hx106_0 hx106_1 hHeld ⊢
      refine pure_ (i := 0) (N := some 15) (v := ?_) (a' := ?_) #[true, false, false, false, false, false, false, false, false, false, false, false, false, false] rfl rfl (any_of HT_.out (by kernel_rfl)) (fun _ _ _ h => h) (Or.inl ⟨by rfl, ?_⟩) ?_ ?_
      rotate_left
      next =>
       intro w'
       go_simp
       with_reducible rfl
      rotate_left
      next =>
       simp only [Act.put, yay, yby, ycy, i64_w, i32_w]
       rfl
      refine pure_ (i := 2) (N := some 17) (v := ?_) (a' := ?_) #[true, false, true, false, false, false, false, false, false, false, false, false, false, false] rfl rfl (any_of HT_.out (by kernel_rfl)) (fun _ _ _ h => h) (Or.inl ⟨by rfl, ?_⟩) ?_ ?_
      rotate_left
      next =>
       intro w'
       go_simp
       with_reducible rfl
      rotate_left
      next =>
       simp only [Act.put, yay, yby, ycy, i64_w, i32_w]
       rfl
      refine pure_ (i := 3) (N := some 18) (v := ?_) (a' := ?_) #[true, false, true, true, false, false, false, false, false, false, false, false, false, false] rfl rfl (any_of HT_.out (by kernel_rfl)) (fun _ _ _ h => h) (Or.inl ⟨by rfl, ?_⟩) ?_ ?_
      rotate_left
      next =>
       intro w'
       go_simp
       with_reducible rfl
      rotate_left
      next =>
       simp only [Act.put, yay, yby, ycy, i64_w, i32_w]
       rfl
      refine pure_ (i := 7) (N := some 22) (v := ?_) (a' := ?_) #[true, false, true, true, false, false, false, true, false, false, false, false, false, false] rfl rfl (any_of HT_.out (by kernel_rfl)) (fun _ _ _ h => h) (Or.inl ⟨by rfl, ?_⟩) ?_ ?_
      rotate_left
      next =>
       intro w'
       go_simp
       with_reducible rfl
      rotate_left
      next =>
       simp only [Act.put, yay, yby, ycy, i64_w, i32_w]
       rfl
      refine pure_ (i := 8) (N := some 23) (v := ?_) (a' := ?_) #[true, false, true, true, false, false, false, true, true, false, false, false, false, false] rfl rfl (any_of HT_.out (by kernel_rfl)) (fun _ _ _ h => h) (Or.inl ⟨by rfl, ?_⟩) ?_ ?_
      rotate_left
      next =>
       intro w'
       go_simp
       with_reducible rfl
      rotate_left
      next =>
       simp only [Act.put, yay, yby, ycy, i64_w, i32_w]
       rfl
      refine take_ (i := 1) (N := some 16) (v := ?_) (a' := ?_) #[true, true, true, true, false, false, false, true, true, false, false, false, false, false] rfl rfl (take_ofW HT_.out HW_.out (by kernel_rfl)) (fun _ _ _ h => h) (Or.inl ⟨by rfl, ?_⟩) hHeld ?_ ?_
      rotate_left
      next =>
       rintro w' ⟨s0, s1, s2, s3, s4, s5⟩
       go_simp
       with_reducible rfl
      rotate_left
      next =>
       simp only [Act.put, yay, yby, ycy, i64_w, i32_w]
       rfl
      refine take_ (i := 4) (N := some 19) (v := ?_) (a' := ?_) #[true, true, true, true, true, false, false, true, true, false, false, false, false, false] rfl rfl (take_ofW HT_.out HW_.out (by kernel_rfl)) (fun _ _ _ h => h) (Or.inl ⟨by rfl, ?_⟩) hHeld ?_ ?_
      rotate_left
      next =>
       rintro w' ⟨s0, s1, s2, s3, s4, s5⟩
       go_simp
       with_reducible rfl
      rotate_left
      next =>
       simp only [Act.put, yay, yby, ycy, i64_w, i32_w]
       rfl
      refine pure_ (i := 5) (N := some 20) (v := ?_) (a' := ?_) #[true, true, true, true, true, true, false, true, true, false, false, false, false, false] rfl rfl (any_of HT_.out (by kernel_rfl)) (fun _ _ _ h => h) (Or.inl ⟨by rfl, ?_⟩) ?_ ?_
      rotate_left
      next =>
       intro w'
       go_simp
       with_reducible rfl
      rotate_left
      next =>
       simp only [Act.put, yay, yby, ycy, i64_w, i32_w]
       rfl
      refine take_ (i := 6) (N := some 21) (v := ?_) (a' := ?_) #[true, true, true, true, true, true, true, true, true, false, false, false, false, false] rfl rfl (take_ofW HT_.out HW_.out (by kernel_rfl)) (fun _ _ _ h => h) (Or.inl ⟨by rfl, ?_⟩) hHeld ?_ ?_
      rotate_left
      next =>
       rintro w' ⟨s0, s1, s2, s3, s4, s5⟩
       go_simp
       with_reducible rfl
      rotate_left
      next =>
       simp only [Act.put, yay, yby, ycy, i64_w, i32_w]
       rfl
      refine take_ (i := 9) (N := some 24) (v := ?_) (a' := ?_) #[true, true, true, true, true, true, true, true, true, true, false, false, false, false] rfl rfl (take_ofW HT_.out HW_.out (by kernel_rfl)) (fun _ _ _ h => h) (Or.inl ⟨by rfl, ?_⟩) hHeld ?_ ?_
      rotate_left
      next =>
       rintro w' ⟨s0, s1, s2, s3, s4, s5⟩
       go_simp
       with_reducible rfl
      rotate_left
      next =>
       simp only [Act.put, yay, yby, ycy, i64_w, i32_w]
       rfl
      refine pure_ (i := 10) (N := some 25) (v := ?_) (a' := ?_) #[true, true, true, true, true, true, true, true, true, true, true, false, false, false] rfl rfl (any_of HT_.out (by kernel_rfl)) (fun _ _ _ h => h) (Or.inl ⟨by rfl, ?_⟩) ?_ ?_
      rotate_left
      next =>
       intro w'
       go_simp
       with_reducible rfl
      rotate_left
      next =>
       simp only [Act.put, yay, yby, ycy, i64_w, i32_w]
       rfl
      refine take_ (i := 11) (N := some 26) (v := ?_) (a' := ?_) #[true, true, true, true, true, true, true, true, true, true, true, true, false, false] rfl rfl (take_ofW HT_.out HW_.out (by kernel_rfl)) (fun _ _ _ h => h) (Or.inl ⟨by rfl, ?_⟩) hHeld ?_ ?_
      rotate_left
      next =>
       rintro w' ⟨s0, s1, s2, s3, s4, s5⟩
       go_simp
       with_reducible rfl
      rotate_left
      next =>
       simp only [Act.put, yay, yby, ycy, i64_w, i32_w]
       rfl
      refine one_ (i := 12) (N := some 7) #[true, true, true, true, true, true, true, true, true, true, true, true, true, false] rfl rfl (one_of HT_.out (by kernel_rfl)) (by decide) (fun K hK => ?_)
      refine box_step ?hg (N := 7) ?hd (cs := #[.int .i64 0, .int .i64 0]) (t := 75) ?hr ?_; (case hd => rfl); (case hg => rfl); (case hr => first | (go_simp; done) | (go_simp; rfl))
      intro gb107 hg w36 hbox hb
      have n0_ := Aside0.mk (blk_below (g := gb101) (o := .cells #[.slice (some ad104) l0_0.length c0_0] 35 (0, 0)) (by (with_reducible repeat (first | refine blk_drewN ?_ _ | refine blk_drew ?_ | refine blk_alloc ?_ _)); exact BK101.out) hb)
      have n1_ := Aside0.mk (below_step (by repeat (first | (with_reducible first | exact HB.out | apply below_alloc | apply pw_below_drewN | apply below_drew1 | refine below_set ?_ GE101.out) | exact HB.out)) hb)
      have n2_ := Aside0.mk (hbox)
      have n3_ := Aside0.mk ((by rw [hg]; exact (below_size (by repeat (first | (with_reducible first | exact HB.out | apply below_alloc | apply pw_below_drewN | apply below_drew1 | refine below_set ?_ GE101.out) | exact HB.out))) : w.heap.size ≤ gb107))
      have n4_ := Aside0.mk ((by rw [hg]; exact (below_size (by repeat (first | (with_reducible first | exact HB.out | apply below_alloc | apply pw_below_drewN | apply below_drew1 | refine below_set ?_ GE101.out) | exact HB.out))) : w.heap.size ≤ gb107))
      have n5_ := Aside0.mk ((by rw [hg]; exact Nat.ne_of_lt (blk_lt (g := gb101) (o := .cells #[.slice (some ad104) l0_0.length c0_0] 35 (0, 0)) (by (with_reducible repeat (first | refine blk_drewN ?_ _ | refine blk_drew ?_ | refine blk_alloc ?_ _)); exact BK101.out)) : gb101 ≠ gb107))
      have n6_ := Aside0.mk ((by rw [hg]; exact Nat.ne_of_gt (blk_lt (g := gb101) (o := .cells #[.slice (some ad104) l0_0.length c0_0] 35 (0, 0)) (by (with_reducible repeat (first | refine blk_drewN ?_ _ | refine blk_drew ?_ | refine blk_alloc ?_ _)); exact BK101.out)) : gb107 ≠ gb101))
      clear BK101
      clear HB
      have BK101 := n0_
      have HB := n1_
      have BK107 := n2_
      have GW107 := n3_
      have GE107 := n4_
      have NB101_107 := n5_
      have NB107_101 := n6_
      clear n0_ n1_ n2_ n3_ n4_ n5_ n6_
      clear hb hbox hg
      refine hK.out _ _ ⟨(blk_cell BK101.out 0).trans rfl, ((HB.out.cell (yny w _ hw103_0)).trans hw103_0), ((HB.out.cell (yny w _ hw104_0)).trans hw104_0), ((HB.out.cell (yny w _ hw105_0)).trans hw105_0), ((HB.out.cell (yny w _ hw106_0)).trans hw106_0), ((HB.out.cell (yny w _ hw106_1)).trans hw106_1)⟩ (fun hHeld => ?_)
      clear hK K
      refine norm_ (a' := ?_) ?_ ?_
      rotate_left
      next =>
       show Act.put _ (some 7) _ = _
       simp only [Act.put, yay, yby, ycy, i64_w, i32_w]
       rfl
      refine one_ (i := 13) (N := none) #[true, true, true, true, true, true, true, true, true, true, true, true, true, true] rfl rfl (one_of HT_.out (by kernel_rfl)) (by decide) (fun K hK => ?_)
      have hs37 : w36.cell? ⟨gb107, 0, none⟩ = some (.int .i64 0) := (blk_cell BK107.out 0).trans rfl
      have hfs37 := blk_frozen BK107.out 0
      have hns37_0 := NB101_107.out
      have hms37_0 := NB107_101.out
      have hs38 : w36.cell? ⟨gb107, 1, none⟩ = some (.int .i64 0) := (blk_cell BK107.out 1).trans rfl
      have hfs38 := blk_frozen BK107.out 1
      have hns38_0 := NB101_107.out
      have hms38_0 := NB107_101.out
      refine skip_ (w1 := ?_) (by rfl) rfl ?_ ?_
      rotate_left
      next =>
       go_simp
       rfl
      refine hK.out _ _ ⟨((cell_far (p := ⟨gb107, _, none⟩) NB101_107.out _).trans (((cell_far (p := ⟨gb107, _, none⟩) NB101_107.out _).trans (hHeld.1)))), ((cell_far (p := ⟨gb107, _, none⟩) (by first | exact Nat.ne_of_lt (Nat.lt_of_lt_of_le (by have := yny _ _ hw103_0; first | rwa [add_block] at this | exact this) GW107.out) | (rw [add_block]; exact Nat.ne_of_lt (Nat.lt_of_lt_of_le (by have := yny _ _ hw103_0; first | rwa [add_block] at this | exact this) GW107.out)) | (show (Addr.add _ _).block ≠ _; rw [add_block]; exact Nat.ne_of_lt (Nat.lt_of_lt_of_le (by have := yny _ _ hw103_0; first | rwa [add_block] at this | exact this) GW107.out)) | (dsimp only; exact Nat.ne_of_lt (Nat.lt_of_lt_of_le (by have := yny _ _ hw103_0; first | rwa [add_block] at this | exact this) GW107.out))) _).trans (((cell_far (p := ⟨gb107, _, none⟩) (by first | exact Nat.ne_of_lt (Nat.lt_of_lt_of_le (by have := yny _ _ hw103_0; first | rwa [add_block] at this | exact this) GW107.out) | (rw [add_block]; exact Nat.ne_of_lt (Nat.lt_of_lt_of_le (by have := yny _ _ hw103_0; first | rwa [add_block] at this | exact this) GW107.out)) | (show (Addr.add _ _).block ≠ _; rw [add_block]; exact Nat.ne_of_lt (Nat.lt_of_lt_of_le (by have := yny _ _ hw103_0; first | rwa [add_block] at this | exact this) GW107.out)) | (dsimp only; exact Nat.ne_of_lt (Nat.lt_of_lt_of_le (by have := yny _ _ hw103_0; first | rwa [add_block] at this | exact this) GW107.out))) _).trans (hHeld.2.1)))), ((cell_far (p := ⟨gb107, _, none⟩) (by first | exact Nat.ne_of_lt (Nat.lt_of_lt_of_le (by have := yny _ _ hw104_0; first | rwa [add_block] at this | exact this) GW107.out) | (rw [add_block]; exact Nat.ne_of_lt (Nat.lt_of_lt_of_le (by have := yny _ _ hw104_0; first | rwa [add_block] at this | exact this) GW107.out)) | (show (Addr.add _ _).block ≠ _; rw [add_block]; exact Nat.ne_of_lt (Nat.lt_of_lt_of_le (by have := yny _ _ hw104_0; first | rwa [add_block] at this | exact this) GW107.out)) | (dsimp only; exact Nat.ne_of_lt (Nat.lt_of_lt_of_le (by have := yny _ _ hw104_0; first | rwa [add_block] at this | exact this) GW107.out))) _).trans (((cell_far (p := ⟨gb107, _, none⟩) (by first | exact Nat.ne_of_lt (Nat.lt_of_lt_of_le (by have := yny _ _ hw104_0; first | rwa [add_block] at this | exact this) GW107.out) | (rw [add_block]; exact Nat.ne_of_lt (Nat.lt_of_lt_of_le (by have := yny _ _ hw104_0; first | rwa [add_block] at this | exact this) GW107.out)) | (show (Addr.add _ _).block ≠ _; rw [add_block]; exact Nat.ne_of_lt (Nat.lt_of_lt_of_le (by have := yny _ _ hw104_0; first | rwa [add_block] at this | exact this) GW107.out)) | (dsimp only; exact Nat.ne_of_lt (Nat.lt_of_lt_of_le (by have := yny _ _ hw104_0; first | rwa [add_block] at this | exact this) GW107.out))) _).trans (hHeld.2.2.1)))), ((cell_far (p := ⟨gb107, _, none⟩) (by first | exact Nat.ne_of_lt (Nat.lt_of_lt_of_le (by have := yny _ _ hw105_0; first | rwa [add_block] at this | exact this) GW107.out) | (rw [add_block]; exact Nat.ne_of_lt (Nat.lt_of_lt_of_le (by have := yny _ _ hw105_0; first | rwa [add_block] at this | exact this) GW107.out)) | (show (Addr.add _ _).block ≠ _; rw [add_block]; exact Nat.ne_of_lt (Nat.lt_of_lt_of_le (by have := yny _ _ hw105_0; first | rwa [add_block] at this | exact this) GW107.out)) | (dsimp only; exact Nat.ne_of_lt (Nat.lt_of_lt_of_le (by have := yny _ _ hw105_0; first | rwa [add_block] at this | exact this) GW107.out))) _).trans (((cell_far (p := ⟨gb107, _, none⟩) (by first | exact Nat.ne_of_lt (Nat.lt_of_lt_of_le (by have := yny _ _ hw105_0; first | rwa [add_block] at this | exact this) GW107.out) | (rw [add_block]; exact Nat.ne_of_lt (Nat.lt_of_lt_of_le (by have := yny _ _ hw105_0; first | rwa [add_block] at this | exact this) GW107.out)) | (show (Addr.add _ _).block ≠ _; rw [add_block]; exact Nat.ne_of_lt (Nat.lt_of_lt_of_le (by have := yny _ _ hw105_0; first | rwa [add_block] at this | exact this) GW107.out)) | (dsimp only; exact Nat.ne_of_lt (Nat.lt_of_lt_of_le (by have := yny _ _ hw105_0; first | rwa [add_block] at this | exact this) GW107.out))) _).trans (hHeld.2.2.2.1)))), ((cell_far (p := ⟨gb107, _, none⟩) (by first | exact Nat.ne_of_lt (Nat.lt_of_lt_of_le (by have := yny _ _ hw106_0; first | rwa [add_block] at this | exact this) GW107.out) | (rw [add_block]; exact Nat.ne_of_lt (Nat.lt_of_lt_of_le (by have := yny _ _ hw106_0; first | rwa [add_block] at this | exact this) GW107.out)) | (show (Addr.add _ _).block ≠ _; rw [add_block]; exact Nat.ne_of_lt (Nat.lt_of_lt_of_le (by have := yny _ _ hw106_0; first | rwa [add_block] at this | exact this) GW107.out)) | (dsimp only; exact Nat.ne_of_lt (Nat.lt_of_lt_of_le (by have := yny _ _ hw106_0; first | rwa [add_block] at this | exact this) GW107.out))) _).trans (((cell_far (p := ⟨gb107, _, none⟩) (by first | exact Nat.ne_of_lt (Nat.lt_of_lt_of_le (by have := yny _ _ hw106_0; first | rwa [add_block] at this | exact this) GW107.out) | (rw [add_block]; exact Nat.ne_of_lt (Nat.lt_of_lt_of_le (by have := yny _ _ hw106_0; first | rwa [add_block] at this | exact this) GW107.out)) | (show (Addr.add _ _).block ≠ _; rw [add_block]; exact Nat.ne_of_lt (Nat.lt_of_lt_of_le (by have := yny _ _ hw106_0; first | rwa [add_block] at this | exact this) GW107.out)) | (dsimp only; exact Nat.ne_of_lt (Nat.lt_of_lt_of_le (by have := yny _ _ hw106_0; first | rwa [add_block] at this | exact this) GW107.out))) _).trans (hHeld.2.2.2.2.1)))), ((cell_far (p := ⟨gb107, _, none⟩) (by first | exact Nat.ne_of_lt (Nat.lt_of_lt_of_le (by have := yny _ _ hw106_1; first | rwa [add_block] at this | exact this) GW107.out) | (rw [add_block]; exact Nat.ne_of_lt (Nat.lt_of_lt_of_le (by have := yny _ _ hw106_1; first | rwa [add_block] at this | exact this) GW107.out)) | (show (Addr.add _ _).block ≠ _; rw [add_block]; exact Nat.ne_of_lt (Nat.lt_of_lt_of_le (by have := yny _ _ hw106_1; first | rwa [add_block] at this | exact this) GW107.out)) | (dsimp only; exact Nat.ne_of_lt (Nat.lt_of_lt_of_le (by have := yny _ _ hw106_1; first | rwa [add_block] at this | exact this) GW107.out))) _).trans (((cell_far (p := ⟨gb107, _, none⟩) (by first | exact Nat.ne_of_lt (Nat.lt_of_lt_of_le (by have := yny _ _ hw106_1; first | rwa [add_block] at this | exact this) GW107.out) | (rw [add_block]; exact Nat.ne_of_lt (Nat.lt_of_lt_of_le (by have := yny _ _ hw106_1; first | rwa [add_block] at this | exact this) GW107.out)) | (show (Addr.add _ _).block ≠ _; rw [add_block]; exact Nat.ne_of_lt (Nat.lt_of_lt_of_le (by have := yny _ _ hw106_1; first | rwa [add_block] at this | exact this) GW107.out)) | (dsimp only; exact Nat.ne_of_lt (Nat.lt_of_lt_of_le (by have := yny _ _ hw106_1; first | rwa [add_block] at this | exact this) GW107.out))) _).trans (hHeld.2.2.2.2.2))))⟩ (fun hHeld => ?_)
      clear hK K
      refine done_ (done_of HT_.out (by kernel_rfl)) ?_
      try go_wp2
      have n0_ : Aside0 (((w36.setCell ⟨gb107, 0, none⟩ (.int .i64 ((rd_Face (rd_LFace l0_0 (rd (rd_LInt l1 x10_1) 0)) (rd (rd_LInt l1 x10_1) 1)).f0))).setCell ⟨gb107, 1, none⟩ (.int .i64 ((rd_Face (rd_LFace l0_0 (rd (rd_LInt l1 x10_1) 0)) (rd (rd_LInt l1 x10_1) 1)).f1))).heap[gb101]? = some (.cells #[.slice (some ad104) l0_0.length c0_0] 35 (0, 0))) := ⟨by (with_reducible repeat (first | refine blk_drewN ?_ _ | refine blk_drew ?_ | refine blk_alloc ?_ _)); refine blk_far ?_ NB101_107.out _; (with_reducible repeat (first | refine blk_drewN ?_ _ | refine blk_drew ?_ | refine blk_alloc ?_ _)); refine blk_far ?_ NB101_107.out _; (with_reducible repeat (first | refine blk_drewN ?_ _ | refine blk_drew ?_ | refine blk_alloc ?_ _)); exact BK101.out⟩
      have n1_ : Aside0 (((w36.setCell ⟨gb107, 0, none⟩ (.int .i64 ((rd_Face (rd_LFace l0_0 (rd (rd_LInt l1 x10_1) 0)) (rd (rd_LInt l1 x10_1) 1)).f0))).setCell ⟨gb107, 1, none⟩ (.int .i64 ((rd_Face (rd_LFace l0_0 (rd (rd_LInt l1 x10_1) 0)) (rd (rd_LInt l1 x10_1) 1)).f1))).heap[gb107]? = some (.cells #[.int .i64 ((rd_Face (rd_LFace l0_0 (rd (rd_LInt l1 x10_1) 0)) (rd (rd_LInt l1 x10_1) 1)).f0), .int .i64 ((rd_Face (rd_LFace l0_0 (rd (rd_LInt l1 x10_1) 0)) (rd (rd_LInt l1 x10_1) 1)).f1)] 75 (0, 0))) := ⟨by (with_reducible repeat (first | refine blk_drewN ?_ _ | refine blk_drew ?_ | refine blk_alloc ?_ _)); refine blk_put (cs := #[.int .i64 ((rd_Face (rd_LFace l0_0 (rd (rd_LInt l1 x10_1) 0)) (rd (rd_LInt l1 x10_1) 1)).f0), .int .i64 0]) ?_ 1 _ rfl; (with_reducible repeat (first | refine blk_drewN ?_ _ | refine blk_drew ?_ | refine blk_alloc ?_ _)); refine blk_put (cs := #[.int .i64 0, .int .i64 0]) ?_ 0 _ rfl; (with_reducible repeat (first | refine blk_drewN ?_ _ | refine blk_drew ?_ | refine blk_alloc ?_ _)); exact BK107.out⟩
      have n2_ : Aside0 (Below w.heap.size w ((w36.setCell ⟨gb107, 0, none⟩ (.int .i64 ((rd_Face (rd_LFace l0_0 (rd (rd_LInt l1 x10_1) 0)) (rd (rd_LInt l1 x10_1) 1)).f0))).setCell ⟨gb107, 1, none⟩ (.int .i64 ((rd_Face (rd_LFace l0_0 (rd (rd_LInt l1 x10_1) 0)) (rd (rd_LInt l1 x10_1) 1)).f1)))) := ⟨by repeat (first | (with_reducible first | exact HB.out | apply below_alloc | apply pw_below_drewN | apply below_drew1 | refine below_set ?_ GE101.out | refine below_set ?_ GE107.out) | exact HB.out)⟩
      (try clear BK101)
      (try clear BK107)
      (try clear HB)
      generalize ((w36.setCell ⟨gb107, 0, none⟩ (.int .i64 ((rd_Face (rd_LFace l0_0 (rd (rd_LInt l1 x10_1) 0)) (rd (rd_LInt l1 x10_1) 1)).f0))).setCell ⟨gb107, 1, none⟩ (.int .i64 ((rd_Face (rd_LFace l0_0 (rd (rd_LInt l1 x10_1) 0)) (rd (rd_LInt l1 x10_1) 1)).f1))) = w39 at n0_ n1_ n2_ ⊢
      have BK101 := n0_
      have BK107 := n1_
      have HB := n2_
      clear n0_ n1_ n2_
      have n0_ := Aside0.mk (blk_drew BK101.out)
      have n1_ := Aside0.mk (blk_drew BK107.out)
      have n2_ := Aside0.mk (below_drew1 HB.out)
      clear BK101
      clear BK107
      clear HB
      have BK101 := n0_
      have BK107 := n1_
      have HB := n2_
      clear n0_ n1_ n2_
      have p109 : 0 ≤ ((ji23) : Int) := of_decide_eq_true (by first | (with_reducible assumption) | assumption)
      have q109 : (ji23) < (l1.length : Int) := of_decide_eq_true (by first | (with_reducible assumption) | assumption)
      obtain ⟨ad109, A109_0, c109_0, e109, hx109_0, hl109_0, hi109_0⟩ := at_LInt HR1.out (ji23) p109 q109
      have hw109_0 := hx109_0
      obtain rfl : ad102 = ad109 := (by injection e109)
      replace hx109_0 := (HB.out.cell (yny w _ hx109_0)).trans hx109_0
      have HR109_0 := Aside0.mk hi109_0
      have HC109_0 := Aside0.mk hl109_0
      clear hi109_0 hl109_0
      replace p109 := eq_true p109
      replace q109 := eq_true q109
      have p110 : 0 ≤ (0 : Int) := (by omega)
      have q110 : 0 < ((rd_LInt l1 (ji23)).length : Int) := of_decide_eq_true (by first | (with_reducible assumption) | assumption)
      obtain ⟨ad110, e110, hx110_0⟩ := Kd.at_int HR109_0.out 0 p110 q110
      have hw110_0 := hx110_0
      (try rw [show ((0 : Int)).toNat = 0 from rfl] at hw110_0)
      (try rw [show 0 * 1 = 0 from rfl] at hw110_0)
      (try rw [Addr.add_zero'] at hw110_0)
      cases e110
      have qi110 : (0 < (rd_LInt l1 (ji23)).length) = True := eq_true (by omega)
      (try rw [show ((0 : Int)).toNat = 0 from rfl] at hx110_0)
      (try rw [Addr.add_zero'] at hx110_0)
      replace hx110_0 := (HB.out.cell (yny w _ hx110_0)).trans hx110_0
      replace p110 := eq_true p110
      replace q110 := eq_true q110
      refine start_ (n := 17) (S := fun w' => w'.cell? ⟨gb107, 0, none⟩ = some (.int .i64 ((rd_Face (rd_LFace l0_0 (rd (rd_LInt l1 x10_1) 0)) (rd (rd_LInt l1 x10_1) 1)).f0)) ∧ w'.cell? ⟨gb107, 1, none⟩ = some (.int .i64 ((rd_Face (rd_LFace l0_0 (rd (rd_LInt l1 x10_1) 0)) (rd (rd_LInt l1 x10_1) 1)).f1)) ∧ w'.cell? (ad102.add ((ji23)).toNat) = some (.slice (some ad110) (rd_LInt l1 (ji23)).length c109_0) ∧ w'.cell? ad110 = some (.int .i64 (rd (rd_LInt l1 (ji23)) 0))) (ds := []) #[false, false, false, false, false, false, false, false, false, false, false, false, false, false, false, false, false] (by kernel_rfl) rfl rfl ⟨(blk_cell BK107.out 0).trans rfl, (blk_cell BK107.out 1).trans rfl, ((HB.out.cell (yny w _ hw109_0)).trans hw109_0), ((HB.out.cell (yny w _ hw110_0)).trans hw110_0)⟩ (fun hHeld => ?_); refine with_tabW impl_Triangulation_isPath.tab5 impl_Triangulation_isPath.bits5 (fun HT_ HW_ => ?_)
      generalize w39.drew = w40 at BK101 BK107 HB HR109_0 hx109_0 hx110_0 hHeld ⊢
      refine take_ (i := 0) (N := some 27) (v := ?_) (a' := ?_) #[true, false, false, false, false, false, false, false, false, false, false, false, false, false, false, false, false] rfl rfl (take_ofW HT_.out HW_.out (by kernel_rfl)) (fun _ _ _ h => h) (Or.inl ⟨by rfl, ?_⟩) hHeld ?_ ?_
      rotate_left
      next =>
       rintro w' ⟨s0, s1, s2, s3⟩
       go_simp
       with_reducible rfl
      rotate_left
      next =>
       simp only [Act.put, yay, yby, ycy, i64_w, i32_w]
       rfl
      refine one_ (i := 1) (N := some 28) #[true, true, false, false, false, false, false, false, false, false, false, false, false, false, false, false, false] rfl rfl (one_of HT_.out (by kernel_rfl)) (by decide) (fun K hK => ?_)
      refine goes_ Try.func77 (by kernel_rfl) rfl #[.agg #[.int .i64 ((rd_Face (rd_LFace l0_0 (rd (rd_LInt l1 x10_1) 0)) (rd (rd_LInt l1 x10_1) 1)).f0), .int .i64 ((rd_Face (rd_LFace l0_0 (rd (rd_LInt l1 x10_1) 0)) (rd (rd_LInt l1 x10_1) 1)).f1)]] (by rfl) rfl rfl (by (try simp only [yiy, yjy, yky]); first | done | rfl | (simp only [yly, ymy]; rfl)) ?_
      with_reducible refine (impl_Face_isBoundary.calls ((rd_Face (rd_LFace l0_0 (rd (rd_LInt l1 x10_1) 0)) (rd (rd_LInt l1 x10_1) 1)).f0) ((rd_Face (rd_LFace l0_0 (rd (rd_LInt l1 x10_1) 0)) (rd (rd_LInt l1 x10_1) 1)).f1) false _ A13.out).mono ?_
      rintro e w41 ⟨rfl, hb⟩
      refine ⟨_, rfl, ?_⟩
      have n0_ := Aside0.mk (blk_below (g := gb101) (o := .cells #[.slice (some ad104) l0_0.length c0_0] 35 (0, 0)) (by (with_reducible repeat (first | refine blk_drewN ?_ _ | refine blk_drew ?_ | refine blk_alloc ?_ _)); exact BK101.out) hb)
      have n1_ := Aside0.mk (blk_below (g := gb107) (o := .cells #[.int .i64 ((rd_Face (rd_LFace l0_0 (rd (rd_LInt l1 x10_1) 0)) (rd (rd_LInt l1 x10_1) 1)).f0), .int .i64 ((rd_Face (rd_LFace l0_0 (rd (rd_LInt l1 x10_1) 0)) (rd (rd_LInt l1 x10_1) 1)).f1)] 75 (0, 0)) (by (with_reducible repeat (first | refine blk_drewN ?_ _ | refine blk_drew ?_ | refine blk_alloc ?_ _)); exact BK107.out) hb)
      have n2_ := Aside0.mk (below_step (by repeat (first | (with_reducible first | exact HB.out | apply below_alloc | apply pw_below_drewN | apply below_drew1 | refine below_set ?_ GE101.out | refine below_set ?_ GE107.out) | exact HB.out)) hb)
      clear BK101
      clear BK107
      clear HB
      have BK101 := n0_
      have BK107 := n1_
      have HB := n2_
      clear n0_ n1_ n2_
      (try clear hb)
      (try clear hb2)
      (try clear hk)
      (try clear hi)
      refine hK.out _ _ ⟨(blk_cell BK107.out 0).trans rfl, (blk_cell BK107.out 1).trans rfl, ((HB.out.cell (yny w _ hw109_0)).trans hw109_0), ((HB.out.cell (yny w _ hw110_0)).trans hw110_0)⟩ (fun hHeld => ?_)
      clear hK K
      refine norm_ (a' := ?_) ?_ ?_
      rotate_left
      next =>
       show Act.put _ (some 28) _ = _
       simp only [Act.put, yay, yby, ycy, i64_w, i32_w]
       rfl
      refine pure_ (i := 2) (N := some 29) (v := ?_) (a' := ?_) #[true, true, true, false, false, false, false, false, false, false, false, false, false, false, false, false, false] rfl rfl (any_of HT_.out (by kernel_rfl)) (fun _ _ _ h => h) (Or.inl ⟨by rfl, ?_⟩) ?_ ?_
      rotate_left
      next =>
       intro w'
       go_simp
       with_reducible rfl
      rotate_left
      next =>
       simp only [Act.put, yay, yby, ycy, i64_w, i32_w]
       rfl
      refine pure_ (i := 3) (N := some 30) (v := ?_) (a' := ?_) #[true, true, true, true, false, false, false, false, false, false, false, false, false, false, false, false, false] rfl rfl (any_of HT_.out (by kernel_rfl)) (fun _ _ _ h => h) (Or.inl ⟨by rfl, ?_⟩) ?_ ?_
      rotate_left
      next =>
       intro w'
       go_simp
       with_reducible rfl
      rotate_left
      next =>
       simp only [Act.put, yay, yby, ycy, i64_w, i32_w]
       rfl
      refine pure_ (i := 5) (N := some 32) (v := ?_) (a' := ?_) #[true, true, true, true, false, true, false, false, false, false, false, false, false, false, false, false, false] rfl rfl (any_of HT_.out (by kernel_rfl)) (fun _ _ _ h => h) (Or.inl ⟨by rfl, ?_⟩) ?_ ?_
      rotate_left
      next =>
       intro w'
       go_simp
       with_reducible rfl
      rotate_left
      next =>
       simp only [Act.put, yay, yby, ycy, i64_w, i32_w]
       rfl
      refine pure_ (i := 6) (N := some 33) (v := ?_) (a' := ?_) #[true, true, true, true, false, true, true, false, false, false, false, false, false, false, false, false, false] rfl rfl (any_of HT_.out (by kernel_rfl)) (fun _ _ _ h => h) (Or.inl ⟨by rfl, ?_⟩) ?_ ?_
      rotate_left
      next =>
       intro w'
       go_simp
       with_reducible rfl
      rotate_left
      next =>
       simp only [Act.put, yay, yby, ycy, i64_w, i32_w]
       rfl
      refine pure_ (i := 7) (N := some 34) (v := ?_) (a' := ?_) #[true, true, true, true, false, true, true, true, false, false, false, false, false, false, false, false, false] rfl rfl (any_of HT_.out (by kernel_rfl)) (fun _ _ _ h => h) (Or.inl ⟨by rfl, ?_⟩) ?_ ?_
      rotate_left
      next =>
       intro w'
       go_simp
       with_reducible rfl
      rotate_left
      next =>
       simp only [Act.put, yay, yby, ycy, i64_w, i32_w]
       rfl
      refine pure_ (i := 8) (N := some 35) (v := ?_) (a' := ?_) #[true, true, true, true, false, true, true, true, true, false, false, false, false, false, false, false, false] rfl rfl (any_of HT_.out (by kernel_rfl)) (fun _ _ _ h => h) (Or.inl ⟨by rfl, ?_⟩) ?_ ?_
      rotate_left
      next =>
       intro w'
       go_simp
       with_reducible rfl
      rotate_left
      next =>
       simp only [Act.put, yay, yby, ycy, i64_w, i32_w]
       rfl
      refine pure_ (i := 9) (N := some 36) (v := ?_) (a' := ?_) #[true, true, true, true, false, true, true, true, true, true, false, false, false, false, false, false, false] rfl rfl (any_of HT_.out (by kernel_rfl)) (fun _ _ _ h => h) (Or.inl ⟨by rfl, ?_⟩) ?_ ?_
      rotate_left
      next =>
       intro w'
       go_simp
       with_reducible rfl
      rotate_left
      next =>
       simp only [Act.put, yay, yby, ycy, i64_w, i32_w]
       rfl
      refine pure_ (i := 10) (N := some 37) (v := ?_) (a' := ?_) #[true, true, true, true, false, true, true, true, true, true, true, false, false, false, false, false, false] rfl rfl (any_of HT_.out (by kernel_rfl)) (fun _ _ _ h => h) (Or.inl ⟨by rfl, ?_⟩) ?_ ?_
      rotate_left
      next =>
       intro w'
       go_simp
       with_reducible rfl
      rotate_left
      next =>
       simp only [Act.put, yay, yby, ycy, i64_w, i32_w]
       rfl
      refine pure_ (i := 11) (N := some 38) (v := ?_) (a' := ?_) #[true, true, true, true, false, true, true, true, true, true, true, true, false, false, false, false, false] rfl rfl (any_of HT_.out (by kernel_rfl)) (fun _ _ _ h => h) (Or.inl ⟨by rfl, ?_⟩) ?_ ?_
      rotate_left
      next =>
       intro w'
       go_simp
       with_reducible rfl
      rotate_left
      next =>
       simp only [Act.put, yay, yby, ycy, i64_w, i32_w]
       rfl
      refine take_ (i := 4) (N := some 31) (v := ?_) (a' := ?_) #[true, true, true, true, true, true, true, true, true, true, true, true, false, false, false, false, false] rfl rfl (take_ofW HT_.out HW_.out (by kernel_rfl)) (fun _ _ _ h => h) (Or.inl ⟨by rfl, ?_⟩) hHeld ?_ ?_
      rotate_left
      next =>
       rintro w' ⟨s0, s1, s2, s3⟩
       go_simp
       with_reducible rfl
      rotate_left
      next =>
       simp only [Act.put, yay, yby, ycy, i64_w, i32_w]
       rfl
      refine take_ (i := 12) (N := some 39) (v := ?_) (a' := ?_) #[true, true, true, true, true, true, true, true, true, true, true, true, true, false, false, false, false] rfl rfl (take_ofW HT_.out HW_.out (by kernel_rfl)) (fun _ _ _ h => h) (Or.inl ⟨by rfl, ?_⟩) hHeld ?_ ?_
      rotate_left
      next =>
       rintro w' ⟨s0, s1, s2, s3⟩
       go_simp
       with_reducible rfl
      rotate_left
      next =>
       simp only [Act.put, yay, yby, ycy, i64_w, i32_w]
       rfl
      refine pure_ (i := 13) (N := some 40) (v := ?_) (a' := ?_) #[true, true, true, true, true, true, true, true, true, true, true, true, true, true, false, false, false] rfl rfl (any_of HT_.out (by kernel_rfl)) (fun _ _ _ h => h) (Or.inl ⟨by rfl, ?_⟩) ?_ ?_
      rotate_left
      next =>
       intro w'
       go_simp
       with_reducible rfl
      rotate_left
      next =>
       simp only [Act.put, yay, yby, ycy, i64_w, i32_w]
       rfl
      refine take_ (i := 14) (N := some 41) (v := ?_) (a' := ?_) #[true, true, true, true, true, true, true, true, true, true, true, true, true, true, true, false, false] rfl rfl (take_ofW HT_.out HW_.out (by kernel_rfl)) (fun _ _ _ h => h) (Or.inl ⟨by rfl, ?_⟩) hHeld ?_ ?_
      rotate_left
      next =>
       rintro w' ⟨s0, s1, s2, s3⟩
       go_simp
       with_reducible rfl
      rotate_left
      next =>
       simp only [Act.put, yay, yby, ycy, i64_w, i32_w]
       rfl
      refine pure_ (i := 15) (N := some 42) (v := ?_) (a' := ?_) #[true, true, true, true, true, true, true, true, true, true, true, true, true, true, true, true, false] rfl rfl (any_of HT_.out (by kernel_rfl)) (fun _ _ _ h => h) (Or.inl ⟨by rfl, ?_⟩) ?_ ?_
      rotate_left
      next =>
       intro w'
       go_simp
       with_reducible rfl
      rotate_left
      next =>
       simp only [Act.put, yay, yby, ycy, i64_w, i32_w]
       rfl
      refine pure_ (i := 16) (N := some 43) (v := ?_) (a' := ?_) #[true, true, true, true, true, true, true, true, true, true, true, true, true, true, true, true, true] rfl rfl (any_of HT_.out (by kernel_rfl)) (fun _ _ _ h => h) (Or.inl ⟨by rfl, ?_⟩) ?_ ?_
      rotate_left
      next =>
       intro w'
       go_simp
       with_reducible rfl
      rotate_left
      next =>
       simp only [Act.put, yay, yby, ycy, i64_w, i32_w]
       rfl
      refine done_ (done_of HT_.out (by kernel_rfl)) ?_
      try go_wp2
      go_ret
      exact ⟨by first | rfl | (simp [errW_none, errW_some] <;> rfl) | (simp only [← hji23]; first | rfl | (simp [errW_none, errW_some] <;> rfl)) | (simp [*, errW_none, errW_some] <;> rfl), by repeat (first | (with_reducible first | exact HB.out | apply below_alloc | apply pw_below_drewN | apply below_drew1 | refine below_set ?_ GE101.out | refine below_set ?_ GE107.out) | exact HB.out)⟩
theorem eqA75 (d : Nat) (w : World) (x0 y0 : Int) (x1 y1 : Int) :
    (Op.equalIn (d + 2) 75 (.agg #[.int .i64 x0, .int .i64 x1]) (.agg #[.int .i64 y0, .int .i64 y1])).run Try.prog w = .ok (x0 == y0 && (x1 == y1)) w := by
  refine eqA_of Try.underlying75 (by kernel_rfl) ?_
  refine eqf_cons (by rfl) (by go_simp; rfl) (by go_simp; rfl) (by go_simp) ?_
  exact eqf_last (by rfl) (by go_simp; rfl) (by go_simp; rfl) (by go_simp)
/-! slices.Delete at []int64, for one element of a row of the call's own: the shelf's contract, laid here, in the words of this seat. -/
def lDelete_ren : Go.Shelf.Ren := ⟨fun | 45 => 127 | n => n, fun | 22 => 22 | 23 => 2 | 3 => 3 | 4 => 4 | 0 => 0 | n => n, fun | n => n⟩
theorem lDelete : Go.Proofs.SlLaysN.n45 Try.prog lDelete_ren := {
  mixed := by kernel_rfl
  f45 := ⟨Try.f127.name, by decide, Try.func127.trans (congrArg some (by kernel_rfl))⟩
  t0 := Try.underlying0
  a0 := Try.isAgg0
  z0 := Try.sizeOf0
  v0 := Try.zeroValue0
  t3 := Try.underlying3
  a3 := Try.isAgg3
  z3 := Try.sizeOf3
  v3 := Try.zeroValue3
  t4 := Try.underlying4
  a4 := Try.isAgg4
  z4 := Try.sizeOf4
  v4 := Try.zeroValue4
  t22 := Try.underlying22
  a22 := Try.isAgg22
  z22 := Try.sizeOf22
  v22 := Try.zeroValue22
  t23 := Try.underlying2
  a23 := Try.isAgg2
  z23 := Try.sizeOf2
  v23 := Try.zeroValue2
  i23 := by kernel_rfl }
theorem erase_eq (xs : List Int) (i : Nat) : xs.take i ++ xs.drop (i + 1) = xs.eraseIdx i := (List.eraseIdx_eq_take_drop_succ xs i).symm
theorem slices_Delete_int64.calls1 (g cap i : Nat) (xs : List Int) (base : Nat) (ok : Nat → Prop) (w : World) (ho : Kd.R (Kd.int .i64) 2 w base ok (.slice (some ⟨g, 0, none⟩) xs.length cap) xs) (hi : i < xs.length) :
    Calls Try.prog 127 #[.slice (some ⟨g, 0, none⟩) xs.length cap, .int .i64 i, .int .i64 (i + 1)] w fun e w' => e = .returned (.slice (some ⟨g, 0, none⟩) (xs.length - 1) cap) ∧
      Kd.R (Kd.int .i64) 2 w' base ok (.slice (some ⟨g, 0, none⟩) (xs.length - 1) cap) (xs.eraseIdx i) ∧ w.grownBy w' (some g) := by
  have hown := Kd.own_of_R ho
  rcases hown.2 with ⟨hv, _⟩ | ⟨g', cap', cur, hv, hbase, hh, hle, hmax, hcs, htake⟩
  · cases hv
  injection hv with hv1 _ hv3
  injection hv1 with hv1
  injection hv1 with hv1 _ _
  subst hv1 hv3
  rw [Nat.mul_one] at hcs htake
  have hcell : ∀ j, j < xs.length → w.cell? ⟨g, 0 + j, none⟩ = some (.int .i64 xs[j]!) := by
    intro j hj
    rw [Nat.zero_add]
    have h1 : cur.toList[j]? = some (.int .i64 xs[j]!) := by
      have h2 : (cur.toList.take xs.length)[j]? = some (.int .i64 xs[j]!) := by
        rw [htake, encs, List.getElem?_map, List.getElem?_eq_getElem hj]
        simp [getElem!_pos, hj]
      rw [List.getElem?_take, if_pos hj] at h2
      exact h2
    rw [blk_cell hh j, ← Array.getElem?_toList, h1]
  have hH : Go.Sort.Holds (Value.int .i64) w g 0 xs.toArray := by
    intro j hj
    have hj' : j < xs.length := by simpa using hj
    refine ⟨?_, by rw [Nat.zero_add]; exact blk_frozen hh j⟩
    rw [hcell j hj']
    simp [getElem!_pos, hj']
  have hc := AnyG.slices_Delete_int lDelete g 0 cap i (i + 1) xs w hH hle (by unfold maxLen at hmax; omega) (by omega) (by omega)
  have hc2 : Calls Try.prog 127 #[.slice (some ⟨g, 0, none⟩) xs.length cap, .int .i64 (i : Nat), .int .i64 ((i + 1 : Nat) : Int)] w fun e w' => e = .returned (.slice (some ⟨g, 0, none⟩) (xs.length - (i + 1 - i)) cap) ∧ ∃ q, w' = Go.Sort.putRow (Value.int .i64) (Go.Sort.ahead w q) g 0 (xs.take i ++ xs.drop (i + 1) ++ List.replicate (i + 1 - i) 0).toArray := hc
  refine hc2.mono ?_
  rintro e w' ⟨rfl, q, rfl⟩
  have hlen : (xs.eraseIdx i).length = xs.length - 1 := by rw [List.length_eraseIdx]; simp [hi]
  have hd : xs.take i ++ xs.drop (i + 1) ++ List.replicate (i + 1 - i) 0 = xs.eraseIdx i ++ [0] := by
    rw [erase_eq, show i + 1 - i = 1 by omega]; rfl
  rw [hd, show i + 1 - i = 1 by omega]
  have hheap : (Go.Sort.putRow (Value.int .i64) (Go.Sort.ahead w q) g 0 (xs.eraseIdx i ++ [0]).toArray).heap[g]? = some (.cells (Go.Sort.putCells (Value.int .i64) 0 (xs.eraseIdx i ++ [0]).toArray cur) 2 (0, 0)) := by
    show (w.heap.modify g _)[g]? = _
    rw [Array.getElem?_modify, if_pos rfl, hh]
    rfl
  have hfar : ∀ k, k ≠ g → (Go.Sort.putRow (Value.int .i64) (Go.Sort.ahead w q) g 0 (xs.eraseIdx i ++ [0]).toArray).heap[k]? = w.heap[k]? := by
    intro k hk
    show (w.heap.modify g _)[k]? = _
    rw [Array.getElem?_modify, if_neg (Ne.symm hk)]
  refine ⟨rfl, ?_, ⟨rfl, rfl, rfl, ?_, fun k _ hk => hfar k (fun e => hk (by rw [e]))⟩⟩
  · have e1 : xs.length - 1 = (xs.eraseIdx i).length := hlen.symm
    rw [e1]
    refine Kd.R_of_own ⟨by simp [encs], .inr ⟨g, cap, _, rfl, hbase, hheap, by omega, hmax, by simp [Go.Sort.putCells, hcs], ?_⟩⟩ (fun k hk => ho.1 k hk)
    rw [Nat.mul_one]
    apply List.ext_getElem?
    intro j
    rw [List.getElem?_take]
    by_cases hj : j < (xs.eraseIdx i).length
    · rw [if_pos hj, Array.getElem?_toList, Go.Sort.putCells, Array.getElem?_mapIdx, Array.getElem?_eq_getElem (by omega), Option.map_some, if_pos ⟨by omega, by simp; omega⟩, Nat.sub_zero, encs, List.getElem?_map, List.getElem?_eq_getElem hj, Option.map_some]
      congr 2
      rw [List.getElem!_toArray, getElem!_pos _ j (by simp; omega), List.getElem_append_left hj]
    · rw [if_neg hj, List.getElem?_eq_none (by simp [encs]; omega)]
  · show w.heap.size ≤ (w.heap.modify g _).size
    rw [Array.size_modify]
    omega
/-! impl.perm: the images of the permutation with an index. -/
/-- The blocks by which the digits of an index are told. -/
def permB : Nat → Int
 | 0 => 6
 | 1 => 2
 | _ => 1
def permP (p : Int) : Nat → Int
 | 0 => p
 | i + 1 => permP p i % permB i
def permK (p : Int) (i : Nat) : Int := permP p i / permB i
def permLeft (p : Int) : Nat → List Int
 | 0 => [0, 1, 2, 3]
 | i + 1 => (permLeft p i).eraseIdx (permK p i).toNat
def permAt (p : Int) (i : Nat) : Int := (permLeft p i).getD (permK p i).toNat 0
/-- The images. -/
def permL (p : Int) : List Int := [permAt p 0, permAt p 1, permAt p 2, permAt p 3]
theorem permP_bd (p : Int) (h0 : 0 ≤ p) (h1 : p ≤ 23) : (0 ≤ permP p 0 ∧ permP p 0 ≤ 23) ∧ (0 ≤ permP p 1 ∧ permP p 1 ≤ 5) ∧ (0 ≤ permP p 2 ∧ permP p 2 ≤ 1) ∧ (0 ≤ permP p 3 ∧ permP p 3 ≤ 0) := by
 simp only [permP, permB]; omega
theorem permK_bd (p : Int) (h0 : 0 ≤ p) (h1 : p ≤ 23) : (0 ≤ permK p 0 ∧ permK p 0 < 4) ∧ (0 ≤ permK p 1 ∧ permK p 1 < 3) ∧ (0 ≤ permK p 2 ∧ permK p 2 < 2) ∧ (0 ≤ permK p 3 ∧ permK p 3 < 1) := by
 have := permP_bd p h0 h1
 simp only [permK, permB]; omega
theorem permLeft_len (p : Int) (h0 : 0 ≤ p) (h1 : p ≤ 23) : (permLeft p 0).length = 4 ∧ (permLeft p 1).length = 3 ∧ (permLeft p 2).length = 2 ∧ (permLeft p 3).length = 1 ∧ (permLeft p 4).length = 0 := by
 obtain ⟨a, b, c, d⟩ := permK_bd p h0 h1
 have e0 : (permLeft p 0).length = 4 := rfl
 have e1 : (permLeft p 1).length = 3 := by rw [permLeft, List.length_eraseIdx, e0, if_pos (by omega)]
 have e2 : (permLeft p 2).length = 2 := by rw [permLeft, List.length_eraseIdx, e1, if_pos (by omega)]
 have e3 : (permLeft p 3).length = 1 := by rw [permLeft, List.length_eraseIdx, e2, if_pos (by omega)]
 have e4 : (permLeft p 4).length = 0 := by rw [permLeft, List.length_eraseIdx, e3, if_pos (by omega)]
 exact ⟨e0, e1, e2, e3, e4⟩
theorem new_at {W : World} {n : Nat} (h : W.heap.size = n) (o : Obj) : (W.alloc o).heap[n]? = some o := h ▸ blk_new W o
/-- A value of the array after i rounds. -/
def permO (p : Int) (i j : Nat) : Int := if j < i then permAt p j else 0
set_option maxHeartbeats 8000000 in
set_option maxRecDepth 100000 in
theorem impl_perm.calls (p : Int) (w : World) (h0 : 0 ≤ p) (h1 : p ≤ 23) :
 Calls Try.prog 105 #[.int .i64 p] w fun e w' => e = .returned (.agg #[.int .i64 (permAt p 0), .int .i64 (permAt p 1), .int .i64 (permAt p 2), .int .i64 (permAt p 3)]) ∧ Below w.heap.size w w' := by
 have HP := Aside0.mk (permP_bd p h0 h1)
 have HK := Aside0.mk (permK_bd p h0 h1)
 have HL := Aside0.mk (permLeft_len p h0 h1)
 clear h0 h1
 go_enter Try.func105, Try.ntmps105
 go_wp2_with fail
 go_loopg [0, 4, 11] 4 (fun gg v0 v4 v11 w' => ∃ i : Nat, i ≤ 4 ∧ 4 - i ≤ gg ∧ v11 = .int .i64 i ∧ v0 = .int .i64 (permP p i) ∧ v4 = .slice (some ⟨w.heap.size + 1 + 1, 0, none⟩) (permLeft p i).length 4 ∧
  Aside0 (Kd.R (Kd.int .i64) 2 w' w.heap.size (fun k => k = w.heap.size + 1 + 1) (.slice (some ⟨w.heap.size + 1 + 1, 0, none⟩) (permLeft p i).length 4) (permLeft p i)) ∧
  Aside0 (w'.heap[w.heap.size + 1]? = some (.cells #[.int .i64 (permO p i 0), .int .i64 (permO p i 1), .int .i64 (permO p i 2), .int .i64 (permO p i 3)] 101 (0, 0))) ∧
  Aside0 (w'.heap[w.heap.size]? = some (.cells #[.int .i64 0, .int .i64 0, .int .i64 0, .int .i64 0] 101 (0, 0))) ∧
  Aside0 (w'.heap[w.heap.size + 1 + 1 + 1]? = some (.cells #[.int .i64 6, .int .i64 2, .int .i64 1, .int .i64 1] 2 (0, 0))) ∧ Aside0 (Below w.heap.size w w'))
 case atStart =>
  refine ⟨0, by omega, by omega, rfl, rfl, rfl, ⟨?_⟩, ⟨?_⟩, ⟨?_⟩, ⟨?_⟩, ⟨?_⟩⟩
  next =>
   refine Kd.R_of_own ⟨by simp [encs], .inr ⟨w.heap.size + 1 + 1, 4, #[.int .i64 0, .int .i64 1, .int .i64 2, .int .i64 3], rfl, by omega, ?_, yoy 4, by decide, rfl, rfl⟩⟩ (fun k hk => by simpa [Value.ownBlock] using hk.symm)
   exact blk_alloc (new_at (by simp) _) _
  next =>
   exact blk_alloc (blk_alloc (new_at (by simp) _) _) _
  next =>
   exact blk_alloc (blk_alloc (blk_alloc (new_at rfl _) _) _) _
  next =>
   exact new_at (by simp) _
  next =>
   exact below_alloc (below_alloc (below_alloc (below_alloc (Below.refl _ _) _) _) _) _
 case round =>
  obtain ⟨i, hi, hg, rfl, rfl, rfl, HR, B3, B2, B9, HB⟩ := hrel
  rcases (show i = 4 ∨ i = 3 ∨ i = 2 ∨ i = 1 ∨ i = 0 by omega) with rfl | rfl | rfl | rfl | rfl
  next =>
   have c0 : wr.cell? ⟨w.heap.size + 1, 0, none⟩ = some (.int .i64 (permO p 4 0)) := (blk_cell B3.out 0).trans rfl
   have c1 : wr.cell? ⟨w.heap.size + 1, 1, none⟩ = some (.int .i64 (permO p 4 1)) := (blk_cell B3.out 1).trans rfl
   have c2 : wr.cell? ⟨w.heap.size + 1, 2, none⟩ = some (.int .i64 (permO p 4 2)) := (blk_cell B3.out 2).trans rfl
   have c3 : wr.cell? ⟨w.heap.size + 1, 3, none⟩ = some (.int .i64 (permO p 4 3)) := (blk_cell B3.out 3).trans rfl
   have d0 : wr.cell? ⟨w.heap.size, 0, none⟩ = some (.int .i64 0) := (blk_cell B2.out 0).trans rfl
   have d1 : wr.cell? ⟨w.heap.size, 1, none⟩ = some (.int .i64 0) := (blk_cell B2.out 1).trans rfl
   have d2 : wr.cell? ⟨w.heap.size, 2, none⟩ = some (.int .i64 0) := (blk_cell B2.out 2).trans rfl
   have d3 : wr.cell? ⟨w.heap.size, 3, none⟩ = some (.int .i64 0) := (blk_cell B2.out 3).trans rfl
   have f0 := blk_frozen B2.out 0
   have f1 := blk_frozen B2.out 1
   have f2 := blk_frozen B2.out 2
   have f3 := blk_frozen B2.out 3
   have ht := Try.underlying101
   go_wp2
   refine bodyPost_ret (results_cell_row rfl _ _ w.heap.size 101 #[.int .i64 (permO p 4 0), .int .i64 (permO p 4 1), .int .i64 (permO p 4 2), .int .i64 (permO p 4 3)] (0, 0) _ rfl (blk_put (cs := #[.int .i64 (permO p 4 0), .int .i64 (permO p 4 1), .int .i64 (permO p 4 2), .int .i64 0]) (blk_put (cs := #[.int .i64 (permO p 4 0), .int .i64 (permO p 4 1), .int .i64 0, .int .i64 0]) (blk_put (cs := #[.int .i64 (permO p 4 0), .int .i64 0, .int .i64 0, .int .i64 0]) (blk_put B2.out 0 _ rfl) 1 _ rfl) 2 _ rfl) 3 _ rfl) ht rfl (by kernel_rfl)) rfl ⟨rfl, ?_⟩
   exact below_set (below_set (below_set (below_set HB.out (yoy _)) (yoy _)) (yoy _)) (yoy _)
  next =>
   have hK : 0 ≤ permK p 3 ∧ permK p 3 < (permLeft p 3).length := by have := HK.out; have := HL.out; omega
   have hP : 0 ≤ permP p 3 ∧ permP p 3 ≤ 23 := by have := HP.out; omega
   have HLN := Aside0.mk (show (permLeft p 3).length = 1 by have := HL.out; omega)
   have HLN2 := Aside0.mk (show (permLeft p 4).length = (permLeft p 3).length - 1 by have := HL.out; omega)
   obtain ⟨A1, q1, hA1, hq1, hC⟩ := Kd.R_reads HR.out
   injection hA1 with hA1 hl1 hc1
   subst hA1
   clear hl1 hc1 hq1
   obtain ⟨ad, had, hx⟩ := Kd.at_int hC (permK p 3) hK.1 (by omega)
   injection had with had
   subst had
   rw [add_plain] at hx
   have HAT := Aside0.mk (show rd (permLeft p 3) (permK p 3) = permAt p 3 from rfl)
   rw [HAT.out] at hx
   have HER := Aside0.mk (show (permLeft p 3).eraseIdx (permK p 3).toNat = permLeft p 4 from rfl)
   have hX : permK p 3 = permP p 3 := by have e : permK p 3 = permP p 3 / 1 := rfl; rw [e]; exact Int.ediv_one _
   have HY := Aside0.mk (show 0 = permP p 4 by have e : permP p 4 = permP p 3 % 1 := rfl; rw [e]; omega)
   rw [hX] at hx hK
   have HX := Aside0.mk hX
   clear hX hC
   obtain ⟨hk0, hk1⟩ := hK
   obtain ⟨hp0, hp1⟩ := hP
   have b9 : wr.cell? ⟨w.heap.size + 1 + 1 + 1, 3, none⟩ = some (.int .i64 1) := (blk_cell B9.out 3).trans rfl
   have b3 : wr.cell? ⟨w.heap.size + 1, 3, none⟩ = some (.int .i64 (permO p 3 3)) := (blk_cell B3.out 3).trans rfl
   have f3 := blk_frozen B3.out 3
   have hk2 : permP p 3 < 9223372036854775807 := by omega
   go_wp2_with fail
   have HRw := Aside0.mk (show Kd.R (Kd.int .i64) 2 (wr.setCell ⟨w.heap.size + 1, 3, none⟩ (.int .i64 (permAt p 3))) w.heap.size (fun k => k = w.heap.size + 1 + 1) (.slice (some ⟨w.heap.size + 1 + 1, 0, none⟩) (permLeft p 3).length 4) (permLeft p 3) from Kd.R_far (p := ⟨w.heap.size + 1, 3, none⟩) HR.out (fun k hk => by rw [hk]; show w.heap.size + 1 + 1 ≠ w.heap.size + 1; omega) _)
   refine calls_of_args (args' := #[.slice (some ⟨w.heap.size + 1 + 1, 0, none⟩) (permLeft p 3).length 4, .int .i64 ((permP p 3).toNat : Int), .int .i64 (((permP p 3).toNat : Int) + 1)]) (by rw [Int.toNat_of_nonneg hk0]) ?_
   refine (slices_Delete_int64.calls1 (w.heap.size + 1 + 1) 4 (permP p 3).toNat (permLeft p 3) w.heap.size (fun k => k = w.heap.size + 1 + 1) _ HRw.out (by omega)).mono ?_
   rintro e w1 ⟨rfl, hR1, hg1⟩
   have hl2 := HLN2.out
   have er : (permLeft p 3).eraseIdx (permP p 3).toNat = permLeft p 4 := by rw [← HER.out, HX.out]
   rw [er, ← hl2] at hR1
   rw [← hl2]
   have HR2 := Aside0.mk hR1
   have B3a : (wr.setCell ⟨w.heap.size + 1, 3, none⟩ (.int .i64 (permAt p 3))).heap[w.heap.size + 1]? = some (.cells #[.int .i64 (permO p 4 0), .int .i64 (permO p 4 1), .int .i64 (permO p 4 2), .int .i64 (permO p 4 3)] 101 (0, 0)) := blk_put B3.out 3 _ rfl
   have B3n := Aside0.mk (blk_grown B3a hg1 (by simp))
   have B2n := Aside0.mk (blk_grown (blk_far (p := ⟨w.heap.size + 1, 3, none⟩) B2.out (by show w.heap.size ≠ w.heap.size + 1; omega) (.int .i64 (permAt p 3))) hg1 (by simp; omega))
   have B9n := Aside0.mk (blk_grown (blk_far (p := ⟨w.heap.size + 1, 3, none⟩) B9.out (by show w.heap.size + 1 + 1 + 1 ≠ w.heap.size + 1; omega) (.int .i64 (permAt p 3))) hg1 (by simp))
   have HBn := Aside0.mk (pw_below_grown (below_set (j := 3) (v := .int .i64 (permAt p 3)) HB.out (show w.heap.size ≤ w.heap.size + 1 by omega)) (some (w.heap.size + 1 + 1)) (by have := HB.out.size; simp [World.setCell]; omega) hg1 (fun k hk => by injection hk with hk; omega))
   clear hR1 hg1 B3a HRw B3 B2 B9 HB HR er hl2 hx b9 b3 f3
   go_wp2
   go_roundg (4 - 4)
   case measure => omega
   case rel => exact ⟨4, by omega, by omega, by first | rfl | go_num, by rw [← HY.out], rfl, HR2, B3n, B2n, B9n, HBn⟩
  next =>
   have hK : 0 ≤ permK p 2 ∧ permK p 2 < (permLeft p 2).length := by have := HK.out; have := HL.out; omega
   have hP : 0 ≤ permP p 2 ∧ permP p 2 ≤ 23 := by have := HP.out; omega
   have HLN := Aside0.mk (show (permLeft p 2).length = 2 by have := HL.out; omega)
   have HLN2 := Aside0.mk (show (permLeft p 3).length = (permLeft p 2).length - 1 by have := HL.out; omega)
   obtain ⟨A1, q1, hA1, hq1, hC⟩ := Kd.R_reads HR.out
   injection hA1 with hA1 hl1 hc1
   subst hA1
   clear hl1 hc1 hq1
   obtain ⟨ad, had, hx⟩ := Kd.at_int hC (permK p 2) hK.1 (by omega)
   injection had with had
   subst had
   rw [add_plain] at hx
   have HAT := Aside0.mk (show rd (permLeft p 2) (permK p 2) = permAt p 2 from rfl)
   rw [HAT.out] at hx
   have HER := Aside0.mk (show (permLeft p 2).eraseIdx (permK p 2).toNat = permLeft p 3 from rfl)
   have hX : permK p 2 = permP p 2 := by have e : permK p 2 = permP p 2 / 1 := rfl; rw [e]; exact Int.ediv_one _
   have HY := Aside0.mk (show 0 = permP p 3 by have e : permP p 3 = permP p 2 % 1 := rfl; rw [e]; omega)
   rw [hX] at hx hK
   have HX := Aside0.mk hX
   clear hX hC
   obtain ⟨hk0, hk1⟩ := hK
   obtain ⟨hp0, hp1⟩ := hP
   have b9 : wr.cell? ⟨w.heap.size + 1 + 1 + 1, 2, none⟩ = some (.int .i64 1) := (blk_cell B9.out 2).trans rfl
   have b3 : wr.cell? ⟨w.heap.size + 1, 2, none⟩ = some (.int .i64 (permO p 2 2)) := (blk_cell B3.out 2).trans rfl
   have f3 := blk_frozen B3.out 2
   have hk2 : permP p 2 < 9223372036854775807 := by omega
   go_wp2_with fail
   have HRw := Aside0.mk (show Kd.R (Kd.int .i64) 2 (wr.setCell ⟨w.heap.size + 1, 2, none⟩ (.int .i64 (permAt p 2))) w.heap.size (fun k => k = w.heap.size + 1 + 1) (.slice (some ⟨w.heap.size + 1 + 1, 0, none⟩) (permLeft p 2).length 4) (permLeft p 2) from Kd.R_far (p := ⟨w.heap.size + 1, 2, none⟩) HR.out (fun k hk => by rw [hk]; show w.heap.size + 1 + 1 ≠ w.heap.size + 1; omega) _)
   refine calls_of_args (args' := #[.slice (some ⟨w.heap.size + 1 + 1, 0, none⟩) (permLeft p 2).length 4, .int .i64 ((permP p 2).toNat : Int), .int .i64 (((permP p 2).toNat : Int) + 1)]) (by rw [Int.toNat_of_nonneg hk0]) ?_
   refine (slices_Delete_int64.calls1 (w.heap.size + 1 + 1) 4 (permP p 2).toNat (permLeft p 2) w.heap.size (fun k => k = w.heap.size + 1 + 1) _ HRw.out (by omega)).mono ?_
   rintro e w1 ⟨rfl, hR1, hg1⟩
   have hl2 := HLN2.out
   have er : (permLeft p 2).eraseIdx (permP p 2).toNat = permLeft p 3 := by rw [← HER.out, HX.out]
   rw [er, ← hl2] at hR1
   rw [← hl2]
   have HR2 := Aside0.mk hR1
   have B3a : (wr.setCell ⟨w.heap.size + 1, 2, none⟩ (.int .i64 (permAt p 2))).heap[w.heap.size + 1]? = some (.cells #[.int .i64 (permO p 3 0), .int .i64 (permO p 3 1), .int .i64 (permO p 3 2), .int .i64 (permO p 3 3)] 101 (0, 0)) := blk_put B3.out 2 _ rfl
   have B3n := Aside0.mk (blk_grown B3a hg1 (by simp))
   have B2n := Aside0.mk (blk_grown (blk_far (p := ⟨w.heap.size + 1, 2, none⟩) B2.out (by show w.heap.size ≠ w.heap.size + 1; omega) (.int .i64 (permAt p 2))) hg1 (by simp; omega))
   have B9n := Aside0.mk (blk_grown (blk_far (p := ⟨w.heap.size + 1, 2, none⟩) B9.out (by show w.heap.size + 1 + 1 + 1 ≠ w.heap.size + 1; omega) (.int .i64 (permAt p 2))) hg1 (by simp))
   have HBn := Aside0.mk (pw_below_grown (below_set (j := 2) (v := .int .i64 (permAt p 2)) HB.out (show w.heap.size ≤ w.heap.size + 1 by omega)) (some (w.heap.size + 1 + 1)) (by have := HB.out.size; simp [World.setCell]; omega) hg1 (fun k hk => by injection hk with hk; omega))
   clear hR1 hg1 B3a HRw B3 B2 B9 HB HR er hl2 hx b9 b3 f3
   go_wp2
   go_roundg (4 - 3)
   case measure => omega
   case rel => exact ⟨3, by omega, by omega, by first | rfl | go_num, by rw [← HY.out], rfl, HR2, B3n, B2n, B9n, HBn⟩
  next =>
   have hK : 0 ≤ permK p 1 ∧ permK p 1 < (permLeft p 1).length := by have := HK.out; have := HL.out; omega
   have hP : 0 ≤ permP p 1 ∧ permP p 1 ≤ 23 := by have := HP.out; omega
   have HLN := Aside0.mk (show (permLeft p 1).length = 3 by have := HL.out; omega)
   have HLN2 := Aside0.mk (show (permLeft p 2).length = (permLeft p 1).length - 1 by have := HL.out; omega)
   obtain ⟨A1, q1, hA1, hq1, hC⟩ := Kd.R_reads HR.out
   injection hA1 with hA1 hl1 hc1
   subst hA1
   clear hl1 hc1 hq1
   obtain ⟨ad, had, hx⟩ := Kd.at_int hC (permK p 1) hK.1 (by omega)
   injection had with had
   subst had
   rw [add_plain] at hx
   have HAT := Aside0.mk (show rd (permLeft p 1) (permK p 1) = permAt p 1 from rfl)
   rw [HAT.out] at hx
   have HER := Aside0.mk (show (permLeft p 1).eraseIdx (permK p 1).toNat = permLeft p 2 from rfl)
   have hX : permK p 1 = permP p 1 / 2 := by have e : permK p 1 = permP p 1 / 2 := rfl; rw [e]
   have HY := Aside0.mk (show permP p 1 % 2 = permP p 2 by have e : permP p 2 = permP p 1 % 2 := rfl; rw [e])
   rw [hX] at hx hK
   have HX := Aside0.mk hX
   clear hX hC
   obtain ⟨hk0, hk1⟩ := hK
   obtain ⟨hp0, hp1⟩ := hP
   have b9 : wr.cell? ⟨w.heap.size + 1 + 1 + 1, 1, none⟩ = some (.int .i64 2) := (blk_cell B9.out 1).trans rfl
   have b3 : wr.cell? ⟨w.heap.size + 1, 1, none⟩ = some (.int .i64 (permO p 1 1)) := (blk_cell B3.out 1).trans rfl
   have f3 := blk_frozen B3.out 1
   have hk2 : permP p 1 / 2 < 9223372036854775807 := by omega
   go_wp2_with fail
   have HRw := Aside0.mk (show Kd.R (Kd.int .i64) 2 (wr.setCell ⟨w.heap.size + 1, 1, none⟩ (.int .i64 (permAt p 1))) w.heap.size (fun k => k = w.heap.size + 1 + 1) (.slice (some ⟨w.heap.size + 1 + 1, 0, none⟩) (permLeft p 1).length 4) (permLeft p 1) from Kd.R_far (p := ⟨w.heap.size + 1, 1, none⟩) HR.out (fun k hk => by rw [hk]; show w.heap.size + 1 + 1 ≠ w.heap.size + 1; omega) _)
   refine calls_of_args (args' := #[.slice (some ⟨w.heap.size + 1 + 1, 0, none⟩) (permLeft p 1).length 4, .int .i64 ((permP p 1 / 2).toNat : Int), .int .i64 (((permP p 1 / 2).toNat : Int) + 1)]) (by rw [Int.toNat_of_nonneg hk0]) ?_
   refine (slices_Delete_int64.calls1 (w.heap.size + 1 + 1) 4 (permP p 1 / 2).toNat (permLeft p 1) w.heap.size (fun k => k = w.heap.size + 1 + 1) _ HRw.out (by omega)).mono ?_
   rintro e w1 ⟨rfl, hR1, hg1⟩
   have hl2 := HLN2.out
   have er : (permLeft p 1).eraseIdx (permP p 1 / 2).toNat = permLeft p 2 := by rw [← HER.out, HX.out]
   rw [er, ← hl2] at hR1
   rw [← hl2]
   have HR2 := Aside0.mk hR1
   have B3a : (wr.setCell ⟨w.heap.size + 1, 1, none⟩ (.int .i64 (permAt p 1))).heap[w.heap.size + 1]? = some (.cells #[.int .i64 (permO p 2 0), .int .i64 (permO p 2 1), .int .i64 (permO p 2 2), .int .i64 (permO p 2 3)] 101 (0, 0)) := blk_put B3.out 1 _ rfl
   have B3n := Aside0.mk (blk_grown B3a hg1 (by simp))
   have B2n := Aside0.mk (blk_grown (blk_far (p := ⟨w.heap.size + 1, 1, none⟩) B2.out (by show w.heap.size ≠ w.heap.size + 1; omega) (.int .i64 (permAt p 1))) hg1 (by simp; omega))
   have B9n := Aside0.mk (blk_grown (blk_far (p := ⟨w.heap.size + 1, 1, none⟩) B9.out (by show w.heap.size + 1 + 1 + 1 ≠ w.heap.size + 1; omega) (.int .i64 (permAt p 1))) hg1 (by simp))
   have HBn := Aside0.mk (pw_below_grown (below_set (j := 1) (v := .int .i64 (permAt p 1)) HB.out (show w.heap.size ≤ w.heap.size + 1 by omega)) (some (w.heap.size + 1 + 1)) (by have := HB.out.size; simp [World.setCell]; omega) hg1 (fun k hk => by injection hk with hk; omega))
   clear hR1 hg1 B3a HRw B3 B2 B9 HB HR er hl2 hx b9 b3 f3
   go_wp2
   go_roundg (4 - 2)
   case measure => omega
   case rel => exact ⟨2, by omega, by omega, by first | rfl | go_num, by rw [← HY.out], rfl, HR2, B3n, B2n, B9n, HBn⟩
  next =>
   have hK : 0 ≤ permK p 0 ∧ permK p 0 < (permLeft p 0).length := by have := HK.out; have := HL.out; omega
   have hP : 0 ≤ permP p 0 ∧ permP p 0 ≤ 23 := by have := HP.out; omega
   have HLN := Aside0.mk (show (permLeft p 0).length = 4 by have := HL.out; omega)
   have HLN2 := Aside0.mk (show (permLeft p 1).length = (permLeft p 0).length - 1 by have := HL.out; omega)
   obtain ⟨A1, q1, hA1, hq1, hC⟩ := Kd.R_reads HR.out
   injection hA1 with hA1 hl1 hc1
   subst hA1
   clear hl1 hc1 hq1
   obtain ⟨ad, had, hx⟩ := Kd.at_int hC (permK p 0) hK.1 (by omega)
   injection had with had
   subst had
   rw [add_plain] at hx
   have HAT := Aside0.mk (show rd (permLeft p 0) (permK p 0) = permAt p 0 from rfl)
   rw [HAT.out] at hx
   have HER := Aside0.mk (show (permLeft p 0).eraseIdx (permK p 0).toNat = permLeft p 1 from rfl)
   have hX : permK p 0 = permP p 0 / 6 := by have e : permK p 0 = permP p 0 / 6 := rfl; rw [e]
   have HY := Aside0.mk (show permP p 0 % 6 = permP p 1 by have e : permP p 1 = permP p 0 % 6 := rfl; rw [e])
   rw [hX] at hx hK
   have HX := Aside0.mk hX
   clear hX hC
   obtain ⟨hk0, hk1⟩ := hK
   obtain ⟨hp0, hp1⟩ := hP
   have b9 : wr.cell? ⟨w.heap.size + 1 + 1 + 1, 0, none⟩ = some (.int .i64 6) := (blk_cell B9.out 0).trans rfl
   have b3 : wr.cell? ⟨w.heap.size + 1, 0, none⟩ = some (.int .i64 (permO p 0 0)) := (blk_cell B3.out 0).trans rfl
   have f3 := blk_frozen B3.out 0
   have hk2 : permP p 0 / 6 < 9223372036854775807 := by omega
   go_wp2_with fail
   have HRw := Aside0.mk (show Kd.R (Kd.int .i64) 2 (wr.setCell ⟨w.heap.size + 1, 0, none⟩ (.int .i64 (permAt p 0))) w.heap.size (fun k => k = w.heap.size + 1 + 1) (.slice (some ⟨w.heap.size + 1 + 1, 0, none⟩) (permLeft p 0).length 4) (permLeft p 0) from Kd.R_far (p := ⟨w.heap.size + 1, 0, none⟩) HR.out (fun k hk => by rw [hk]; show w.heap.size + 1 + 1 ≠ w.heap.size + 1; omega) _)
   refine calls_of_args (args' := #[.slice (some ⟨w.heap.size + 1 + 1, 0, none⟩) (permLeft p 0).length 4, .int .i64 ((permP p 0 / 6).toNat : Int), .int .i64 (((permP p 0 / 6).toNat : Int) + 1)]) (by rw [Int.toNat_of_nonneg hk0]) ?_
   refine (slices_Delete_int64.calls1 (w.heap.size + 1 + 1) 4 (permP p 0 / 6).toNat (permLeft p 0) w.heap.size (fun k => k = w.heap.size + 1 + 1) _ HRw.out (by omega)).mono ?_
   rintro e w1 ⟨rfl, hR1, hg1⟩
   have hl2 := HLN2.out
   have er : (permLeft p 0).eraseIdx (permP p 0 / 6).toNat = permLeft p 1 := by rw [← HER.out, HX.out]
   rw [er, ← hl2] at hR1
   rw [← hl2]
   have HR2 := Aside0.mk hR1
   have B3a : (wr.setCell ⟨w.heap.size + 1, 0, none⟩ (.int .i64 (permAt p 0))).heap[w.heap.size + 1]? = some (.cells #[.int .i64 (permO p 1 0), .int .i64 (permO p 1 1), .int .i64 (permO p 1 2), .int .i64 (permO p 1 3)] 101 (0, 0)) := blk_put B3.out 0 _ rfl
   have B3n := Aside0.mk (blk_grown B3a hg1 (by simp))
   have B2n := Aside0.mk (blk_grown (blk_far (p := ⟨w.heap.size + 1, 0, none⟩) B2.out (by show w.heap.size ≠ w.heap.size + 1; omega) (.int .i64 (permAt p 0))) hg1 (by simp; omega))
   have B9n := Aside0.mk (blk_grown (blk_far (p := ⟨w.heap.size + 1, 0, none⟩) B9.out (by show w.heap.size + 1 + 1 + 1 ≠ w.heap.size + 1; omega) (.int .i64 (permAt p 0))) hg1 (by simp))
   have HBn := Aside0.mk (pw_below_grown (below_set (j := 0) (v := .int .i64 (permAt p 0)) HB.out (show w.heap.size ≤ w.heap.size + 1 by omega)) (some (w.heap.size + 1 + 1)) (by have := HB.out.size; simp [World.setCell]; omega) hg1 (fun k hk => by injection hk with hk; omega))
   clear hR1 hg1 B3a HRw B3 B2 B9 HB HR er hl2 hx b9 b3 f3
   go_wp2
   go_roundg (4 - 1)
   case measure => omega
   case rel => exact ⟨1, by omega, by omega, by first | rfl | go_num, by rw [← HY.out], rfl, HR2, B3n, B2n, B9n, HBn⟩
/-! Arrays of four numbers. -/
theorem arr_index (a b c d : Int) (f : Int) (h0 : 0 ≤ f) (h1 : f ≤ 3) : ∀ w : World, (Instr.index 101 (.agg #[.int .i64 a, .int .i64 b, .int .i64 c, .int .i64 d]) (.int .i64 f)).run Try.prog w = .ok (.int .i64 (rd [a, b, c, d] f)) w := by
  intro w
  rcases (show f = 0 ∨ f = 1 ∨ f = 2 ∨ f = 3 by omega) with rfl | rfl | rfl | rfl
  · kernel_rfl
  · kernel_rfl
  · kernel_rfl
  · kernel_rfl
theorem arr_cell {w : World} {g : Nat} {T : TypeId} {a b c d : Int} (h : w.heap[g]? = some (.cells #[.int .i64 a, .int .i64 b, .int .i64 c, .int .i64 d] T (0, 0))) (f : Int) (h0 : 0 ≤ f) (h1 : f ≤ 3) : w.cell? ⟨g, f.toNat, none⟩ = some (.int .i64 (rd [a, b, c, d] f)) := by
  rw [blk_cell h]
  rcases (show f = 0 ∨ f = 1 ∨ f = 2 ∨ f = 3 by omega) with rfl | rfl | rfl | rfl <;> rfl
theorem arr_put {w : World} {g : Nat} {T : TypeId} {a b c d : Int} (h : w.heap[g]? = some (.cells #[.int .i64 a, .int .i64 b, .int .i64 c, .int .i64 d] T (0, 0))) (f v : Int) (h0 : 0 ≤ f) (h1 : f ≤ 3) :
    (w.setCell ⟨g, f.toNat, none⟩ (.int .i64 v)).heap[g]? = some (.cells #[.int .i64 (rd ([a, b, c, d].set f.toNat v) 0), .int .i64 (rd ([a, b, c, d].set f.toNat v) 1), .int .i64 (rd ([a, b, c, d].set f.toNat v) 2), .int .i64 (rd ([a, b, c, d].set f.toNat v) 3)] T (0, 0)) := by
  rcases (show f = 0 ∨ f = 1 ∨ f = 2 ∨ f = 3 by omega) with rfl | rfl | rfl | rfl
  · exact blk_put h 0 _ rfl
  · exact blk_put h 1 _ rfl
  · exact blk_put h 2 _ rfl
  · exact blk_put h 3 _ rfl
theorem new_at4 {W : World} {n : Nat} (h : W.heap.size = n) (o : Obj) : (W.alloc o).heap[n]? = some o := h ▸ blk_new W o
/-- A list of four numbers, written out. -/
theorem four_eq {l : List Int} (h : l.length = 4) : l = [rd l 0, rd l 1, rd l 2, rd l 3] := by
  match l, h with
  | [a, b, c, d], _ => rfl
/-! indexOf: the index of a permutation with given images. -/
/-- The element at i, less one for each of the first j that is smaller. -/
def lessAt (l : List Int) (i : Nat) : Nat → Int
  | 0 => rd l i
  | j + 1 => if rd l j < rd l i then lessAt l i j - 1 else lessAt l i j
def idxAt (l : List Int) : Nat → Int
  | 0 => 0
  | i + 1 => idxAt l i + lessAt l i i * permB i
def idxL (l : List Int) : Int := idxAt l 4
def sm (x : Int) : Prop := 0 ≤ x ∧ x ≤ 3
theorem lessAt_bd (l : List Int) (i : Nat) (h : sm (rd l i)) : ∀ j : Nat, -(j : Int) ≤ lessAt l i j ∧ lessAt l i j ≤ 3
  | 0 => by have := h.1; have := h.2; unfold lessAt; omega
  | j + 1 => by
    have := lessAt_bd l i h j
    unfold lessAt
    split <;> omega
set_option maxHeartbeats 8000000 in
set_option maxRecDepth 100000 in
theorem impl_indexOf.calls (a b c d : Int) (w : World) (ha : sm a) (hb : sm b) (hc : sm c) (hd : sm d) :
    Calls Try.prog 134 #[.agg #[.int .i64 a, .int .i64 b, .int .i64 c, .int .i64 d]] w fun e w' => e = .returned (.int .i64 (idxL [a, b, c, d])) ∧ Below w.heap.size w w' := by
  have hl0 : sm (rd [a, b, c, d] (0 : Nat)) := ha
  have hl1 : sm (rd [a, b, c, d] (1 : Nat)) := hb
  have hl2 : sm (rd [a, b, c, d] (2 : Nat)) := hc
  have hl3 : sm (rd [a, b, c, d] (3 : Nat)) := hd
  have HL := Aside0.mk (And.intro (lessAt_bd _ 0 hl0) (And.intro (lessAt_bd _ 1 hl1) (And.intro (lessAt_bd _ 2 hl2) (lessAt_bd _ 3 hl3))))
  have HS := Aside0.mk (And.intro hl0 (And.intro hl1 (And.intro hl2 hl3)))
  clear ha hb hc hd hl0 hl1 hl2 hl3
  generalize hl : [a, b, c, d] = l at HL HS ⊢
  have HLL := Aside0.mk hl
  clear hl
  go_enter Try.func134, Try.ntmps134
  go_wp2_with fail
  go_loopg [3, 11] 4 (fun gg v3 v11 w' => ∃ i : Nat, i ≤ 4 ∧ 4 - i ≤ gg ∧ v11 = .int .i64 i ∧ v3 = .int .i64 (idxAt l i) ∧ Aside0 (-24 * (i : Int) ≤ idxAt l i ∧ idxAt l i ≤ 24 * i) ∧
    Aside0 (w'.heap[w.heap.size]? = some (.cells #[.int .i64 a, .int .i64 b, .int .i64 c, .int .i64 d] 101 (0, 0))) ∧
    Aside0 (w'.heap[w.heap.size + 1]? = some (.cells #[.int .i64 6, .int .i64 2, .int .i64 1, .int .i64 1] 2 (0, 0))) ∧ Aside0 (Below w.heap.size w w'))
  case atStart =>
    refine ⟨0, by omega, by omega, rfl, rfl, ⟨by simp [idxAt]⟩, ⟨?_⟩, ⟨?_⟩, ⟨?_⟩⟩
    · exact blk_alloc (new_at4 rfl _) _
    · exact new_at4 (by simp) _
    · exact below_alloc (below_alloc (Below.refl _ _) _) _
  case round =>
    obtain ⟨i, hi, hg, rfl, rfl, HI, B1, B9, HB⟩ := hrel
    rcases (show i = 4 ∨ i = 3 ∨ i = 2 ∨ i = 1 ∨ i = 0 by omega) with rfl | rfl | rfl | rfl | rfl
    · go_wp2
      go_ret
      exact ⟨rfl, HB.out⟩
    · have b9 : wr.cell? ⟨w.heap.size + 1, 3, none⟩ = some (.int .i64 1) := (blk_cell B9.out 3).trans rfl
      have b1 : wr.cell? ⟨w.heap.size, 3, none⟩ = some (.int .i64 (rd l (3 : Nat))) := (blk_cell B1.out 3).trans (by rw [← HLL.out]; rfl)
      have hx : sm (rd l (3 : Nat)) := by have := HS.out; exact this.2.2.2
      have HD := Aside0.mk (show ∀ j : Nat, lessAt l 3 (j + 1) = if rd l (j : Nat) < rd l (3 : Nat) then lessAt l 3 j - 1 else lessAt l 3 j from fun _ => rfl)
      have HD0 := Aside0.mk (show rd l (3 : Nat) = lessAt l 3 0 from rfl)
      generalize rd l (3 : Nat) = xi at b1 HD HD0 hx
      go_wp2_with fail
      go_loopg [6, 22] 3 (fun gg v6 v22 w' => ∃ j : Nat, j ≤ 3 ∧ 3 - j ≤ gg ∧ v22 = .int .i64 j ∧ v6 = .int .i64 (lessAt l 3 j) ∧ w' = wr)
      case atStart => exact ⟨0, by omega, by omega, rfl, by rw [HD0.out], rfl⟩
      case round =>
        obtain ⟨j, hj, hg2, rfl, rfl, rfl⟩ := hrel
        by_cases hlt : j < 3
        · have hltz : (j : Int) < 3 := by omega
          have bj : wr.cell? ⟨w.heap.size, j, none⟩ = some (.int .i64 (rd l (j : Nat))) := by
            have := arr_cell B1.out (j : Int) (by omega) (by omega)
            rw [HLL.out, Int.toNat_natCast] at this
            exact this
          have hbd := (HL.out.2.2.2 j)
          obtain ⟨hbd1, hbd2⟩ := hbd
          have HN := Aside0.mk (HD.out j)
          generalize lessAt l 3 j = lv at HN hbd1 hbd2 ⊢
          generalize rd l (j : Nat) = xj at bj HN
          by_cases hless : xj < xi
          · have hd1 : decide (xj < xi) = true := ygy hless
            go_wp2
            go_roundg (3 - (j + 1))
            case measure => omega
            case rel => exact ⟨j + 1, by omega, by omega, by go_num, by rw [HN.out, if_pos hless], rfl⟩
          · have hd1 : decide (xj < xi) = false := yhy hless
            go_wp2
            go_roundg (3 - (j + 1))
            case measure => omega
            case rel => exact ⟨j + 1, by omega, by omega, by go_num, by rw [HN.out, if_neg (by omega)], rfl⟩
        · have hltz : ¬ (j : Int) < 3 := by omega
          obtain rfl : j = 3 := by omega
          have hbd := (HL.out.2.2.2 3)
          obtain ⟨hbd1, hbd2⟩ := hbd
          obtain ⟨hi1, hi2⟩ := HI.out
          have HN := Aside0.mk (show idxAt l 4 = idxAt l 3 + lessAt l 3 3 * 1 from rfl)
          generalize lessAt l 3 3 = lv at HN hbd1 hbd2 ⊢
          generalize idxAt l 3 = iv at HN hi1 hi2 ⊢
          go_wp2
          go_roundg (4 - 4)
          case measure => omega
          case rel => exact ⟨4, by omega, by omega, by first | rfl | go_num, by rw [HN.out]; rw [Int.mul_one], ⟨by rw [HN.out]; omega⟩, B1, B9, HB⟩
    · have b9 : wr.cell? ⟨w.heap.size + 1, 2, none⟩ = some (.int .i64 1) := (blk_cell B9.out 2).trans rfl
      have b1 : wr.cell? ⟨w.heap.size, 2, none⟩ = some (.int .i64 (rd l (2 : Nat))) := (blk_cell B1.out 2).trans (by rw [← HLL.out]; rfl)
      have hx : sm (rd l (2 : Nat)) := by have := HS.out; exact this.2.2.1
      have HD := Aside0.mk (show ∀ j : Nat, lessAt l 2 (j + 1) = if rd l (j : Nat) < rd l (2 : Nat) then lessAt l 2 j - 1 else lessAt l 2 j from fun _ => rfl)
      have HD0 := Aside0.mk (show rd l (2 : Nat) = lessAt l 2 0 from rfl)
      generalize rd l (2 : Nat) = xi at b1 HD HD0 hx
      go_wp2_with fail
      go_loopg [6, 22] 2 (fun gg v6 v22 w' => ∃ j : Nat, j ≤ 2 ∧ 2 - j ≤ gg ∧ v22 = .int .i64 j ∧ v6 = .int .i64 (lessAt l 2 j) ∧ w' = wr)
      case atStart => exact ⟨0, by omega, by omega, rfl, by rw [HD0.out], rfl⟩
      case round =>
        obtain ⟨j, hj, hg2, rfl, rfl, rfl⟩ := hrel
        by_cases hlt : j < 2
        · have hltz : (j : Int) < 2 := by omega
          have bj : wr.cell? ⟨w.heap.size, j, none⟩ = some (.int .i64 (rd l (j : Nat))) := by
            have := arr_cell B1.out (j : Int) (by omega) (by omega)
            rw [HLL.out, Int.toNat_natCast] at this
            exact this
          have hbd := (HL.out.2.2.1 j)
          obtain ⟨hbd1, hbd2⟩ := hbd
          have HN := Aside0.mk (HD.out j)
          generalize lessAt l 2 j = lv at HN hbd1 hbd2 ⊢
          generalize rd l (j : Nat) = xj at bj HN
          by_cases hless : xj < xi
          · have hd1 : decide (xj < xi) = true := ygy hless
            go_wp2
            go_roundg (2 - (j + 1))
            case measure => omega
            case rel => exact ⟨j + 1, by omega, by omega, by go_num, by rw [HN.out, if_pos hless], rfl⟩
          · have hd1 : decide (xj < xi) = false := yhy hless
            go_wp2
            go_roundg (2 - (j + 1))
            case measure => omega
            case rel => exact ⟨j + 1, by omega, by omega, by go_num, by rw [HN.out, if_neg (by omega)], rfl⟩
        · have hltz : ¬ (j : Int) < 2 := by omega
          obtain rfl : j = 2 := by omega
          have hbd := (HL.out.2.2.1 2)
          obtain ⟨hbd1, hbd2⟩ := hbd
          obtain ⟨hi1, hi2⟩ := HI.out
          have HN := Aside0.mk (show idxAt l 3 = idxAt l 2 + lessAt l 2 2 * 1 from rfl)
          generalize lessAt l 2 2 = lv at HN hbd1 hbd2 ⊢
          generalize idxAt l 2 = iv at HN hi1 hi2 ⊢
          go_wp2
          go_roundg (4 - 3)
          case measure => omega
          case rel => exact ⟨3, by omega, by omega, by first | rfl | go_num, by rw [HN.out]; rw [Int.mul_one], ⟨by rw [HN.out]; omega⟩, B1, B9, HB⟩
    · have b9 : wr.cell? ⟨w.heap.size + 1, 1, none⟩ = some (.int .i64 2) := (blk_cell B9.out 1).trans rfl
      have b1 : wr.cell? ⟨w.heap.size, 1, none⟩ = some (.int .i64 (rd l (1 : Nat))) := (blk_cell B1.out 1).trans (by rw [← HLL.out]; rfl)
      have hx : sm (rd l (1 : Nat)) := by have := HS.out; exact this.2.1
      have HD := Aside0.mk (show ∀ j : Nat, lessAt l 1 (j + 1) = if rd l (j : Nat) < rd l (1 : Nat) then lessAt l 1 j - 1 else lessAt l 1 j from fun _ => rfl)
      have HD0 := Aside0.mk (show rd l (1 : Nat) = lessAt l 1 0 from rfl)
      generalize rd l (1 : Nat) = xi at b1 HD HD0 hx
      go_wp2_with fail
      go_loopg [6, 22] 1 (fun gg v6 v22 w' => ∃ j : Nat, j ≤ 1 ∧ 1 - j ≤ gg ∧ v22 = .int .i64 j ∧ v6 = .int .i64 (lessAt l 1 j) ∧ w' = wr)
      case atStart => exact ⟨0, by omega, by omega, rfl, by rw [HD0.out], rfl⟩
      case round =>
        obtain ⟨j, hj, hg2, rfl, rfl, rfl⟩ := hrel
        by_cases hlt : j < 1
        · have hltz : (j : Int) < 1 := by omega
          have bj : wr.cell? ⟨w.heap.size, j, none⟩ = some (.int .i64 (rd l (j : Nat))) := by
            have := arr_cell B1.out (j : Int) (by omega) (by omega)
            rw [HLL.out, Int.toNat_natCast] at this
            exact this
          have hbd := (HL.out.2.1 j)
          obtain ⟨hbd1, hbd2⟩ := hbd
          have HN := Aside0.mk (HD.out j)
          generalize lessAt l 1 j = lv at HN hbd1 hbd2 ⊢
          generalize rd l (j : Nat) = xj at bj HN
          by_cases hless : xj < xi
          · have hd1 : decide (xj < xi) = true := ygy hless
            go_wp2
            go_roundg (1 - (j + 1))
            case measure => omega
            case rel => exact ⟨j + 1, by omega, by omega, by go_num, by rw [HN.out, if_pos hless], rfl⟩
          · have hd1 : decide (xj < xi) = false := yhy hless
            go_wp2
            go_roundg (1 - (j + 1))
            case measure => omega
            case rel => exact ⟨j + 1, by omega, by omega, by go_num, by rw [HN.out, if_neg (by omega)], rfl⟩
        · have hltz : ¬ (j : Int) < 1 := by omega
          obtain rfl : j = 1 := by omega
          have hbd := (HL.out.2.1 1)
          obtain ⟨hbd1, hbd2⟩ := hbd
          obtain ⟨hi1, hi2⟩ := HI.out
          have HN := Aside0.mk (show idxAt l 2 = idxAt l 1 + lessAt l 1 1 * 2 from rfl)
          generalize lessAt l 1 1 = lv at HN hbd1 hbd2 ⊢
          generalize idxAt l 1 = iv at HN hi1 hi2 ⊢
          go_wp2
          go_roundg (4 - 2)
          case measure => omega
          case rel => exact ⟨2, by omega, by omega, by first | rfl | go_num, by rw [HN.out], ⟨by rw [HN.out]; omega⟩, B1, B9, HB⟩
    · have b9 : wr.cell? ⟨w.heap.size + 1, 0, none⟩ = some (.int .i64 6) := (blk_cell B9.out 0).trans rfl
      have b1 : wr.cell? ⟨w.heap.size, 0, none⟩ = some (.int .i64 (rd l (0 : Nat))) := (blk_cell B1.out 0).trans (by rw [← HLL.out]; rfl)
      have hx : sm (rd l (0 : Nat)) := by have := HS.out; exact this.1
      have HD := Aside0.mk (show ∀ j : Nat, lessAt l 0 (j + 1) = if rd l (j : Nat) < rd l (0 : Nat) then lessAt l 0 j - 1 else lessAt l 0 j from fun _ => rfl)
      have HD0 := Aside0.mk (show rd l (0 : Nat) = lessAt l 0 0 from rfl)
      generalize rd l (0 : Nat) = xi at b1 HD HD0 hx
      go_wp2_with fail
      go_loopg [6, 22] 0 (fun gg v6 v22 w' => ∃ j : Nat, j ≤ 0 ∧ 0 - j ≤ gg ∧ v22 = .int .i64 j ∧ v6 = .int .i64 (lessAt l 0 j) ∧ w' = wr)
      case atStart => exact ⟨0, by omega, by omega, rfl, by rw [HD0.out], rfl⟩
      case round =>
        obtain ⟨j, hj, hg2, rfl, rfl, rfl⟩ := hrel
        by_cases hlt : j < 0
        · have hltz : (j : Int) < 0 := by omega
          have bj : wr.cell? ⟨w.heap.size, j, none⟩ = some (.int .i64 (rd l (j : Nat))) := by
            have := arr_cell B1.out (j : Int) (by omega) (by omega)
            rw [HLL.out, Int.toNat_natCast] at this
            exact this
          have hbd := (HL.out.1 j)
          obtain ⟨hbd1, hbd2⟩ := hbd
          have HN := Aside0.mk (HD.out j)
          generalize lessAt l 0 j = lv at HN hbd1 hbd2 ⊢
          generalize rd l (j : Nat) = xj at bj HN
          by_cases hless : xj < xi
          · have hd1 : decide (xj < xi) = true := ygy hless
            go_wp2
            go_roundg (0 - (j + 1))
            case measure => omega
            case rel => exact ⟨j + 1, by omega, by omega, by go_num, by rw [HN.out, if_pos hless], rfl⟩
          · have hd1 : decide (xj < xi) = false := yhy hless
            go_wp2
            go_roundg (0 - (j + 1))
            case measure => omega
            case rel => exact ⟨j + 1, by omega, by omega, by go_num, by rw [HN.out, if_neg (by omega)], rfl⟩
        · have hltz : ¬ (j : Int) < 0 := by omega
          obtain rfl : j = 0 := by omega
          have hbd := (HL.out.1 0)
          obtain ⟨hbd1, hbd2⟩ := hbd
          obtain ⟨hi1, hi2⟩ := HI.out
          have HN := Aside0.mk (show idxAt l 1 = idxAt l 0 + lessAt l 0 0 * 6 from rfl)
          generalize lessAt l 0 0 = lv at HN hbd1 hbd2 ⊢
          generalize idxAt l 0 = iv at HN hi1 hi2 ⊢
          go_wp2
          go_roundg (4 - 1)
          case measure => omega
          case rel => exact ⟨1, by omega, by omega, by first | rfl | go_num, by rw [HN.out], ⟨by rw [HN.out]; omega⟩, B1, B9, HB⟩
/-! The images of a permutation are 0 to 3; indexes are 0 to 23. -/
theorem permAt_sm (p : Int) (h0 : 0 ≤ p) (h1 : p ≤ 23) : sm (permAt p 0) ∧ sm (permAt p 1) ∧ sm (permAt p 2) ∧ sm (permAt p 3) := by
  obtain ⟨n, rfl⟩ := Int.eq_ofNat_of_zero_le h0
  have hn : n < 24 := by omega
  have key : ∀ m : Fin 24, (0 ≤ permAt (m.val : Int) 0 ∧ permAt (m.val : Int) 0 ≤ 3) ∧ (0 ≤ permAt (m.val : Int) 1 ∧ permAt (m.val : Int) 1 ≤ 3) ∧ (0 ≤ permAt (m.val : Int) 2 ∧ permAt (m.val : Int) 2 ≤ 3) ∧ (0 ≤ permAt (m.val : Int) 3 ∧ permAt (m.val : Int) 3 ≤ 3) := by decide
  exact key ⟨n, hn⟩
/-- The inverse's images after i rounds. -/
def invList (l : List Int) : Nat → List Int
  | 0 => [0, 0, 0, 0]
  | i + 1 => (invList l i).set (rd l i).toNat i
theorem invList_sm (l : List Int) : ∀ i, i ≤ 4 → ∀ x ∈ invList l i, sm x
  | 0, _, x, hx => by
    have : x = 0 := by simp [invList] at hx; exact hx
    subst this; exact ⟨by omega, by omega⟩
  | i + 1, hi, x, hx => by
    rw [invList] at hx
    rcases List.mem_or_eq_of_mem_set hx with h | rfl
    · exact invList_sm l i (by omega) x h
    · exact ⟨by omega, by omega⟩
def invP (p : Int) : Int := idxL (invList (permL p) 4)
theorem rd_four_sm {a b c d : Int} (ha : sm a) (hb : sm b) (hc : sm c) (hd : sm d) (f : Int) (h0 : 0 ≤ f) (h1 : f ≤ 3) : sm (rd [a, b, c, d] f) := by
  rcases (show f = 0 ∨ f = 1 ∨ f = 2 ∨ f = 3 by omega) with rfl | rfl | rfl | rfl <;> assumption
/-! invert: the index of the inverse permutation. -/
def impl_invert.f (a0 : Int) : Option Int := if 0 ≤ a0 ∧ a0 ≤ 23 then some (invP a0) else none
set_option maxHeartbeats 8000000 in
set_option maxRecDepth 100000 in
theorem impl_invert.calls (a0 : Int) (r : Int) (w : World) (h : impl_invert.f a0 = some r) :
    Calls Try.prog 133 #[.int .i64 a0] w fun e w' => e = .returned (.int .i64 r) ∧ Below w.heap.size w w' := by
  unfold impl_invert.f at h
  by_cases hc : 0 ≤ a0 ∧ a0 ≤ 23
  case neg => rw [if_neg hc] at h; exact absurd h (by simp)
  rw [if_pos hc] at h
  have hr : invP a0 = r := yey h
  clear h
  subst hr
  obtain ⟨h0, h1⟩ := hc
  have HS := Aside0.mk (permAt_sm a0 h0 h1)
  have H0 := Aside0.mk h0
  have H1 := Aside0.mk h1
  clear h0 h1
  go_enter Try.func133, Try.ntmps133
  go_wp2_with fail
  refine (impl_perm.calls _ _ H0.out H1.out).mono ?_
  rintro e w1 ⟨rfl, hb⟩
  have B3 := Aside0.mk (blk_below (new_at4 (W := w) rfl (.cells #[.int .i64 0, .int .i64 0, .int .i64 0, .int .i64 0] 101)) hb)
  have HB := Aside0.mk (below_step (below_alloc (Below.refl _ _) _) hb)
  clear hb
  have HPL := Aside0.mk (show permL a0 = [permAt a0 0, permAt a0 1, permAt a0 2, permAt a0 3] from rfl)
  have HIP := Aside0.mk (show invP a0 = idxL (invList (permL a0) 4) from rfl)
  generalize permL a0 = pl at HPL HIP
  generalize permAt a0 0 = x0 at HS HPL ⊢
  generalize permAt a0 1 = x1 at HS HPL ⊢
  generalize permAt a0 2 = x2 at HS HPL ⊢
  generalize permAt a0 3 = x3 at HS HPL ⊢
  go_wp2_with fail
  go_loopg [8] 4 (fun gg v8 w' => ∃ (i : Nat) (b0 b1 b2 b3 : Int), i ≤ 4 ∧ 4 - i ≤ gg ∧ v8 = .int .i64 i ∧ Aside0 ([b0, b1, b2, b3] = invList pl i) ∧
    Aside0 (w'.heap[w.heap.size]? = some (.cells #[.int .i64 b0, .int .i64 b1, .int .i64 b2, .int .i64 b3] 101 (0, 0))) ∧ Aside0 (Below w.heap.size w w'))
  case atStart => exact ⟨0, 0, 0, 0, 0, by omega, by omega, rfl, ⟨rfl⟩, B3, HB⟩
  case round =>
    clear HB B3
    obtain ⟨i, b0, b1, b2, b3, hi, hg, rfl, HI, B3, HB⟩ := hrel
    rcases (show i = 4 ∨ i = 3 ∨ i = 2 ∨ i = 1 ∨ i = 0 by omega) with rfl | rfl | rfl | rfl | rfl
    · have c0 : wr.cell? ⟨w.heap.size, 0, none⟩ = some (.int .i64 b0) := (blk_cell B3.out 0).trans rfl
      have c1 : wr.cell? ⟨w.heap.size, 1, none⟩ = some (.int .i64 b1) := (blk_cell B3.out 1).trans rfl
      have c2 : wr.cell? ⟨w.heap.size, 2, none⟩ = some (.int .i64 b2) := (blk_cell B3.out 2).trans rfl
      have c3 : wr.cell? ⟨w.heap.size, 3, none⟩ = some (.int .i64 b3) := (blk_cell B3.out 3).trans rfl
      have ht := Try.underlying101
      go_wp2_with fail
      have hsm := invList_sm pl 4 (by omega)
      rw [← HI.out] at hsm
      refine (impl_indexOf.calls b0 b1 b2 b3 _ (hsm _ (by simp)) (hsm _ (by simp)) (hsm _ (by simp)) (hsm _ (by simp))).mono ?_
      rintro e w2 ⟨rfl, hb⟩
      have HB2 := Aside0.mk (below_step HB.out hb)
      clear hb hsm
      go_wp2
      go_ret
      exact ⟨by rw [HIP.out, ← HI.out]; rfl, HB2.out⟩
    · have ix := arr_index x0 x1 x2 x3 3 (by omega) (by omega)
      have hx : rd [x0, x1, x2, x3] 3 = x3 := rfl
      rw [hx] at ix
      have hs : sm x3 := HS.out.2.2.2
      obtain ⟨hs0, hs1⟩ := hs
      have c3 := arr_cell B3.out x3 hs0 hs1
      have f3 := blk_frozen B3.out x3.toNat
      have B3n := Aside0.mk (arr_put B3.out x3 3 hs0 hs1)
      have HN : [b0, b1, b2, b3].set x3.toNat 3 = invList pl (3 + 1) := by rw [HI.out, HPL.out]; rfl
      have hlen : ([b0, b1, b2, b3].set x3.toNat (3 : Int)).length = 4 := by simp
      have HF := Aside0.mk ((four_eq hlen).symm.trans HN)
      clear hx HN hlen
      go_wp2
      go_roundg (4 - (3 + 1))
      case measure => omega
      case rel => exact ⟨3 + 1, _, _, _, _, by omega, by omega, by first | rfl | go_num, HF, B3n, ⟨below_set HB.out (yoy _)⟩⟩
    · have ix := arr_index x0 x1 x2 x3 2 (by omega) (by omega)
      have hx : rd [x0, x1, x2, x3] 2 = x2 := rfl
      rw [hx] at ix
      have hs : sm x2 := HS.out.2.2.1
      obtain ⟨hs0, hs1⟩ := hs
      have c3 := arr_cell B3.out x2 hs0 hs1
      have f3 := blk_frozen B3.out x2.toNat
      have B3n := Aside0.mk (arr_put B3.out x2 2 hs0 hs1)
      have HN : [b0, b1, b2, b3].set x2.toNat 2 = invList pl (2 + 1) := by rw [HI.out, HPL.out]; rfl
      have hlen : ([b0, b1, b2, b3].set x2.toNat (2 : Int)).length = 4 := by simp
      have HF := Aside0.mk ((four_eq hlen).symm.trans HN)
      clear hx HN hlen
      go_wp2
      go_roundg (4 - (2 + 1))
      case measure => omega
      case rel => exact ⟨2 + 1, _, _, _, _, by omega, by omega, by first | rfl | go_num, HF, B3n, ⟨below_set HB.out (yoy _)⟩⟩
    · have ix := arr_index x0 x1 x2 x3 1 (by omega) (by omega)
      have hx : rd [x0, x1, x2, x3] 1 = x1 := rfl
      rw [hx] at ix
      have hs : sm x1 := HS.out.2.1
      obtain ⟨hs0, hs1⟩ := hs
      have c3 := arr_cell B3.out x1 hs0 hs1
      have f3 := blk_frozen B3.out x1.toNat
      have B3n := Aside0.mk (arr_put B3.out x1 1 hs0 hs1)
      have HN : [b0, b1, b2, b3].set x1.toNat 1 = invList pl (1 + 1) := by rw [HI.out, HPL.out]; rfl
      have hlen : ([b0, b1, b2, b3].set x1.toNat (1 : Int)).length = 4 := by simp
      have HF := Aside0.mk ((four_eq hlen).symm.trans HN)
      clear hx HN hlen
      go_wp2
      go_roundg (4 - (1 + 1))
      case measure => omega
      case rel => exact ⟨1 + 1, _, _, _, _, by omega, by omega, by first | rfl | go_num, HF, B3n, ⟨below_set HB.out (yoy _)⟩⟩
    · have ix := arr_index x0 x1 x2 x3 0 (by omega) (by omega)
      have hx : rd [x0, x1, x2, x3] 0 = x0 := rfl
      rw [hx] at ix
      have hs : sm x0 := HS.out.1
      obtain ⟨hs0, hs1⟩ := hs
      have c3 := arr_cell B3.out x0 hs0 hs1
      have f3 := blk_frozen B3.out x0.toNat
      have B3n := Aside0.mk (arr_put B3.out x0 0 hs0 hs1)
      have HN : [b0, b1, b2, b3].set x0.toNat 0 = invList pl (0 + 1) := by rw [HI.out, HPL.out]; rfl
      have hlen : ([b0, b1, b2, b3].set x0.toNat (0 : Int)).length = 4 := by simp
      have HF := Aside0.mk ((four_eq hlen).symm.trans HN)
      clear hx HN hlen
      go_wp2
      go_roundg (4 - (0 + 1))
      case measure => omega
      case rel => exact ⟨0 + 1, _, _, _, _, by omega, by omega, by first | rfl | go_num, HF, B3n, ⟨below_set HB.out (yoy _)⟩⟩
/-! ### impl_Face_partner: function 131 -/
def impl_Face_partner.f (a0_0 : Int) (a0_1 : Int) (a1 : Int) : Option (Int × Int) := (impl_invert.f a0_1).bind fun t103 => (some (a1, t103))
set_option maxHeartbeats 8000000 in
set_option maxRecDepth 100000 in
theorem impl_Face_partner.calls (a0_0 : Int) (a0_1 : Int) (a1 : Int) (r1 : Int) (r2 : Int) (w : World) (h : impl_Face_partner.f a0_0 a0_1 a1 = some (r1, r2)) :
    Calls Try.prog 131 #[.agg #[.int .i64 a0_0, .int .i64 a0_1], .int .i64 a1] w fun e w' => e = .returned (.agg #[.int .i64 r1, .int .i64 r2]) ∧ Below w.heap.size w w' := by
  have hu75 := Try.underlying75
  have HB := Aside0.mk (Below.refl w.heap.size w)
  have H : ((impl_invert.f a0_1).bind fun t103 => (some (a1, t103))) = some (r1, r2) := h
  clear h
  replace H := ydy.mp H
  obtain ⟨t103, A30, H⟩ := H
  replace H : (some (a1, t103)) = some (r1, r2) := H
  have A3 := Aside0.mk A30
  clear A30
  simp only [Option.some.injEq, Prod.mk.injEq] at H
  obtain ⟨rfl, rfl⟩ := H
  go_enter Try.func131, Try.ntmps131
  go_wp2_with (first | ((with_reducible refine gate_dst (N := 2) rfl ?_); refine box_event ?hg (N := 2) ?hd (cs := #[.int .i64 a0_0, .int .i64 a0_1]) (t := 75) ?hr ?_; (case hd => rfl); (case hg => rfl); (case hr => first | (go_simp; done) | (go_simp; rfl)); intro gb101 hg w4 hbox hb; have n0_ := Aside0.mk (below_step (by repeat (first | (with_reducible first | exact HB.out | apply below_alloc | apply pw_below_drewN | apply below_drew1) | exact HB.out)) hb); have n1_ := Aside0.mk (hbox); have n2_ := Aside0.mk ((by rw [hg]; exact (below_size (by repeat (first | (with_reducible first | exact HB.out | apply below_alloc | apply pw_below_drewN | apply below_drew1) | exact HB.out))) : w.heap.size ≤ gb101)); have n3_ := Aside0.mk ((by rw [hg]; exact (below_size (by repeat (first | (with_reducible first | exact HB.out | apply below_alloc | apply pw_below_drewN | apply below_drew1) | exact HB.out))) : w.heap.size ≤ gb101)); clear HB; have HB := n0_; have BK101 := n1_; have GW101 := n2_; have GE101 := n3_; clear n0_ n1_ n2_ n3_; clear hb hbox hg) | ((with_reducible refine gate_dst (N := 4) rfl ?_); refine box_event ?hg (N := 4) ?hd (cs := #[.int .i64 0, .int .i64 0]) (t := 75) ?hr ?_; (case hd => rfl); (case hg => rfl); (case hr => first | (go_simp; done) | (go_simp; rfl)); intro gb102 hg w5 hbox hb; have n0_ := Aside0.mk (blk_below (g := gb101) (o := .cells #[.int .i64 a0_0, .int .i64 a0_1] 75 (0, 0)) (by (with_reducible repeat (first | refine blk_drewN ?_ _ | refine blk_drew ?_ | refine blk_alloc ?_ _)); exact BK101.out) hb); have n1_ := Aside0.mk (below_step (by repeat (first | (with_reducible first | exact HB.out | apply below_alloc | apply pw_below_drewN | apply below_drew1 | refine below_set ?_ GE101.out) | exact HB.out)) hb); have n2_ := Aside0.mk (hbox); have n3_ := Aside0.mk ((by rw [hg]; exact (below_size (by repeat (first | (with_reducible first | exact HB.out | apply below_alloc | apply pw_below_drewN | apply below_drew1 | refine below_set ?_ GE101.out) | exact HB.out))) : w.heap.size ≤ gb102)); have n4_ := Aside0.mk ((by rw [hg]; exact (below_size (by repeat (first | (with_reducible first | exact HB.out | apply below_alloc | apply pw_below_drewN | apply below_drew1 | refine below_set ?_ GE101.out) | exact HB.out))) : w.heap.size ≤ gb102)); have n5_ := Aside0.mk ((by rw [hg]; exact Nat.ne_of_lt (blk_lt (g := gb101) (o := .cells #[.int .i64 a0_0, .int .i64 a0_1] 75 (0, 0)) (by (with_reducible repeat (first | refine blk_drewN ?_ _ | refine blk_drew ?_ | refine blk_alloc ?_ _)); exact BK101.out)) : gb101 ≠ gb102)); have n6_ := Aside0.mk ((by rw [hg]; exact Nat.ne_of_gt (blk_lt (g := gb101) (o := .cells #[.int .i64 a0_0, .int .i64 a0_1] 75 (0, 0)) (by (with_reducible repeat (first | refine blk_drewN ?_ _ | refine blk_drew ?_ | refine blk_alloc ?_ _)); exact BK101.out)) : gb102 ≠ gb101)); clear BK101; clear HB; have BK101 := n0_; have HB := n1_; have BK102 := n2_; have GW102 := n3_; have GE102 := n4_; have NB101_102 := n5_; have NB102_101 := n6_; clear n0_ n1_ n2_ n3_ n4_ n5_ n6_; clear hb hbox hg; have hnb6 := NB101_102.out; have hnc6 := NB102_101.out; have hcz7_0 : w5.cell? ⟨gb101, 0, none⟩ = some (.int .i64 a0_0) := (blk_cell BK101.out 0).trans rfl; have hcz7_1 : w5.cell? ⟨gb101, 1, none⟩ = some (.int .i64 a0_1) := (blk_cell BK101.out 1).trans rfl; have hfz7_0 := blk_frozen BK101.out 0; have hfz7_1 := blk_frozen BK101.out 1) | ((with_reducible refine gate_callee (f := 133) rfl ?_); refine goesL_ (some 8) rfl rfl Try.func133 (by kernel_rfl) rfl #[.int .i64 a0_1] rfl (by (try simp only [yiy, yjy, yky]); first | done | rfl | (simp only [yly, ymy]; rfl)) ?_; (with_reducible refine (impl_invert.calls a0_1 t103 _ A3.out).mono ?_); rintro e w8 ⟨rfl, hb⟩; refine ⟨_, rfl, ?_⟩; have n0_ := Aside0.mk (blk_below (g := gb101) (o := .cells #[.int .i64 a0_0, .int .i64 a0_1] 75 (0, 0)) (by (with_reducible repeat (first | refine blk_drewN ?_ _ | refine blk_drew ?_ | refine blk_alloc ?_ _)); exact BK101.out) hb); have n1_ := Aside0.mk (blk_below (g := gb102) (o := .cells #[.int .i64 0, .int .i64 0] 75 (0, 0)) (by (with_reducible repeat (first | refine blk_drewN ?_ _ | refine blk_drew ?_ | refine blk_alloc ?_ _)); exact BK102.out) hb); have n2_ := Aside0.mk (below_step (by repeat (first | (with_reducible first | exact HB.out | apply below_alloc | apply pw_below_drewN | apply below_drew1 | refine below_set ?_ GE101.out | refine below_set ?_ GE102.out) | exact HB.out)) hb); clear BK101; clear BK102; clear HB; have BK101 := n0_; have BK102 := n1_; have HB := n2_; clear n0_ n1_ n2_; (try clear hb); (try clear hb2); (try clear hk); (try clear hi); have hcz9_0 : w8.cell? ⟨gb102, 0, none⟩ = some (.int .i64 0) := (blk_cell BK102.out 0).trans rfl; have hcz9_1 : w8.cell? ⟨gb102, 1, none⟩ = some (.int .i64 0) := (blk_cell BK102.out 1).trans rfl; have hfz9_0 := blk_frozen BK102.out 0; have hfz9_1 := blk_frozen BK102.out 1))
  refine bodyPost_ret (results_cell_row rfl _ _ gb102 75 #[.int .i64 a1, .int .i64 t103] (0, 0) _ rfl (by (with_reducible repeat (first | refine blk_drewN ?_ _ | refine blk_drew ?_ | refine blk_alloc ?_ _)); refine blk_put (cs := #[.int .i64 a1, .int .i64 0]) ?_ 1 _ rfl; (with_reducible repeat (first | refine blk_drewN ?_ _ | refine blk_drew ?_ | refine blk_alloc ?_ _)); refine blk_put (cs := #[.int .i64 0, .int .i64 0]) ?_ 0 _ rfl; (with_reducible repeat (first | refine blk_drewN ?_ _ | refine blk_drew ?_ | refine blk_alloc ?_ _)); exact BK102.out) Try.underlying75 rfl (by kernel_rfl)) rfl ?_
  exact ⟨by first | rfl | (simp [errW_none, errW_some] <;> rfl) | (simp [*, errW_none, errW_some] <;> rfl), by repeat (first | (with_reducible first | exact HB.out | apply below_alloc | apply pw_below_drewN | apply below_drew1 | refine below_set ?_ GE101.out | refine below_set ?_ GE102.out) | exact HB.out)⟩
/-! Face.target: the image of a face's number. -/
def impl_Face_target.f (a0_0 : Int) (a0_1 : Int) (a1 : Int) : Option Int := if 0 ≤ a0_1 ∧ a0_1 ≤ 23 ∧ 0 ≤ a1 ∧ a1 ≤ 3 then some (rd (permL a0_1) a1) else none
set_option maxHeartbeats 800000 in
set_option maxRecDepth 100000 in
theorem impl_Face_target.calls (a0_0 : Int) (a0_1 : Int) (a1 : Int) (r : Int) (w : World) (h : impl_Face_target.f a0_0 a0_1 a1 = some r) :
    Calls Try.prog 130 #[.agg #[.int .i64 a0_0, .int .i64 a0_1], .int .i64 a1] w fun e w' => e = .returned (.int .i64 r) ∧ Below w.heap.size w w' := by
  unfold impl_Face_target.f at h
  by_cases hc : 0 ≤ a0_1 ∧ a0_1 ≤ 23 ∧ 0 ≤ a1 ∧ a1 ≤ 3
  · rw [if_pos hc] at h
    obtain ⟨h0, h1, hf0, hf1⟩ := hc
    have ix := arr_index (permAt a0_1 0) (permAt a0_1 1) (permAt a0_1 2) (permAt a0_1 3) a1 hf0 hf1
    have H0 := Aside0.mk h0
    have H1 := Aside0.mk h1
    clear h0 h1
    have hr : rd [permAt a0_1 0, permAt a0_1 1, permAt a0_1 2, permAt a0_1 3] a1 = r := yey h
    rw [hr] at ix
    clear hr h
    go_enter Try.func130, Try.ntmps130
    go_wp2_with fail
    refine (impl_perm.calls _ _ H0.out H1.out).mono ?_
    rintro e w' ⟨rfl, hb⟩
    have HB := Aside0.mk (below_step (below_alloc (Below.refl _ _) _) hb)
    clear hb
    go_wp2
    go_ret
    exact ⟨rfl, HB.out⟩
  · rw [if_neg hc] at h
    exact absurd h (by simp)
/-! ### impl_inRange: function 86 -/
def impl_inRange.f (a0 : Int) (a1 : Int) (a2 : Int) : Option (Bool) := if a1 ≤ a0 then (some (decide (a0 ≤ a2))) else (some false)
set_option maxHeartbeats 8000000 in
set_option maxRecDepth 100000 in
theorem impl_inRange.calls (a0 : Int) (a1 : Int) (a2 : Int) (r : Bool) (w : World) (h : impl_inRange.f a0 a1 a2 = some r) :
    Calls Try.prog 86 #[.int .i64 a0, .int .i64 a1, .int .i64 a2] w fun e w' => e = .returned (.bool r) ∧ Drawn0 w w' := by
  have H : (if a1 ≤ a0 then (some (decide (a0 ≤ a2))) else (some false)) = some r := h
  clear h
  by_cases c4 : a1 ≤ a0
  · rw [if_pos c4] at H
    have c4b0 : decide (a1 ≤ a0) = true := ygy c4
    clear c4
    obtain rfl := yey H
    go_enter Try.func86, Try.ntmps86
    go_wp2
    go_ret
    exact ⟨by first | rfl | (simp; done) | (simp [*]; done), by repeat (first | exact Drawn0.refl _ | apply Drawn0.step)⟩
  · rw [if_neg c4] at H
    have c4b0 : decide (a1 ≤ a0) = false := yhy c4
    clear c4
    obtain rfl := yey H
    go_enter Try.func86, Try.ntmps86
    go_wp2
    go_ret
    exact ⟨by first | rfl | (simp; done) | (simp [*]; done), by repeat (first | exact Drawn0.refl _ | apply Drawn0.step)⟩
/-! ### impl_size_Simpl_Face: function 75 -/
def impl_size_Simpl_Face.f (l0 : List (List (SFace))) : Option (Int) := some (l0.length : Int)
set_option maxHeartbeats 8000000 in
set_option maxRecDepth 100000 in
theorem impl_size_Simpl_Face.calls (A0 : Option Addr) (c0 : Nat) (l0 : List (List (SFace))) (r : Int) (w : World) (hr0 : Kd.C (Kd.slice 75 kFace) w A0 l0.length l0) (hc0 : l0.length ≤ c0) (h : impl_size_Simpl_Face.f l0 = some r) :
    Calls Try.prog 75 #[.slice A0 l0.length c0] w fun e w' => e = .returned (.int .i64 r) ∧ Drawn0 w w' := by
  have HR0 := Aside0.mk hr0
  have HC0 := Aside0.mk hc0
  clear hr0 hc0
  have H : (some (l0.length : Int)) = some r := h
  clear h
  obtain rfl := yey H
  go_enter Try.func75, Try.ntmps75
  go_wp2
  go_ret
  exact ⟨by first | rfl | (simp; done) | (simp [*]; done), by repeat (first | exact Drawn0.refl _ | apply Drawn0.step)⟩
/-! ### impl_hasIndex_Simpl_Face: function 70 -/
def impl_hasIndex_Simpl_Face.f (l0 : List (List (SFace))) (a1 : Int) : Option (Bool) := (impl_size_Simpl_Face.f l0).bind fun t101 => ((impl_inRange.f a1 0 (wrap64 (t101 - 1))).bind fun t102 => (some t102))
set_option maxHeartbeats 8000000 in
set_option maxRecDepth 100000 in
theorem impl_hasIndex_Simpl_Face.calls (A0 : Option Addr) (c0 : Nat) (l0 : List (List (SFace))) (a1 : Int) (r : Bool) (w : World) (hr0 : Kd.C (Kd.slice 75 kFace) w A0 l0.length l0) (hc0 : l0.length ≤ c0) (h : impl_hasIndex_Simpl_Face.f l0 a1 = some r) :
    Calls Try.prog 70 #[.slice A0 l0.length c0, .int .i64 a1] w fun e w' => e = .returned (.bool r) ∧ Drawn0 w w' := by
  have HR0 := Aside0.mk hr0
  have HC0 := Aside0.mk hc0
  clear hr0 hc0
  have H : ((impl_size_Simpl_Face.f l0).bind fun t101 => ((impl_inRange.f a1 0 (wrap64 (t101 - 1))).bind fun t102 => (some t102))) = some r := h
  clear h
  replace H := ydy.mp H
  obtain ⟨t101, A30, H⟩ := H
  replace H : ((impl_inRange.f a1 0 (wrap64 (t101 - 1))).bind fun t102 => (some t102)) = some r := H
  have A3 := Aside0.mk A30
  clear A30
  replace H := ydy.mp H
  obtain ⟨t102, A40, H⟩ := H
  replace H : (some t102) = some r := H
  have A4 := Aside0.mk A40
  clear A40
  obtain rfl := yey H
  go_enter Try.func70, Try.ntmps70
  go_wp2_with (first | ((with_reducible refine gate_callee (f := 75) rfl ?_); refine goesL_ (some 7) rfl rfl Try.func75 (by kernel_rfl) rfl #[.slice A0 l0.length c0] rfl (by (try simp only [yiy, yjy, yky]); first | done | rfl | (simp only [yly, ymy]; rfl)) ?_; (with_reducible refine (impl_size_Simpl_Face.calls _ _ l0 t101 _ ?side1 ?side2 A3.out).mono ?_); (case side1 => repeat (first | exact HR0.out | (with_reducible refine Kd.C_alloc ?_ _) | (with_reducible refine Kd.C_drewN ?_ _) | (with_reducible refine Kd.C_drew ?_))); (case side2 => exact HC0.out); rintro e w' ⟨rfl, ⟨nd, rfl⟩⟩; refine ⟨_, rfl, ?_⟩) | ((with_reducible refine gate_callee (f := 86) rfl ?_); refine goesL_ (some 9) rfl rfl Try.func86 (by kernel_rfl) rfl #[.int .i64 a1, .int .i64 0, .int .i64 (wrap64 (t101 - 1))] rfl (by (try simp only [yiy, yjy, yky]); first | done | rfl | (simp only [yly, ymy]; rfl)) ?_; (with_reducible refine (impl_inRange.calls a1 0 (wrap64 (t101 - 1)) t102 _ A4.out).mono ?_); rintro e w' ⟨rfl, ⟨nd, rfl⟩⟩; refine ⟨_, rfl, ?_⟩))
  go_ret
  exact ⟨by first | rfl | (simp; done) | (simp [*]; done), by repeat (first | exact Drawn0.refl _ | apply Drawn0.step)⟩
/-! ### impl_isPerm: function 129 -/
def impl_isPerm.f (a0 : Int) : Option (Bool) := (impl_inRange.f a0 0 23).bind fun t101 => (some t101)
set_option maxHeartbeats 8000000 in
set_option maxRecDepth 100000 in
theorem impl_isPerm.calls (a0 : Int) (r : Bool) (w : World) (h : impl_isPerm.f a0 = some r) :
    Calls Try.prog 129 #[.int .i64 a0] w fun e w' => e = .returned (.bool r) ∧ Drawn0 w w' := by
  have H : ((impl_inRange.f a0 0 23).bind fun t101 => (some t101)) = some r := h
  clear h
  replace H := ydy.mp H
  obtain ⟨t101, A20, H⟩ := H
  replace H : (some t101) = some r := H
  have A2 := Aside0.mk A20
  clear A20
  obtain rfl := yey H
  go_enter Try.func129, Try.ntmps129
  go_wp2_with (first | ((with_reducible refine gate_callee (f := 86) rfl ?_); refine goesL_ (some 4) rfl rfl Try.func86 (by kernel_rfl) rfl #[.int .i64 a0, .int .i64 0, .int .i64 23] rfl (by (try simp only [yiy, yjy, yky]); first | done | rfl | (simp only [yly, ymy]; rfl)) ?_; (with_reducible refine (impl_inRange.calls a0 0 23 t101 _ A2.out).mono ?_); rintro e w' ⟨rfl, ⟨nd, rfl⟩⟩; refine ⟨_, rfl, ?_⟩))
  go_ret
  exact ⟨by first | rfl | (simp; done) | (simp [*]; done), by repeat (first | exact Drawn0.refl _ | apply Drawn0.step)⟩
end Go.Proofs.Ytembbpalgfikiaa.P
