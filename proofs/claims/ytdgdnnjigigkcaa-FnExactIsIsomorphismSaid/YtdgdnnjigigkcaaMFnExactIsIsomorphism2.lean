/- The statement FnExactIsIsomorphismSaid, proved: part 2 of 8 (texts of this session and of the kit's print, put together and cut to what is used by a program of it). -/
import Derived.Test.YtdgdnnjigigkcaaMFnExactIsIsomorphism1
import Derived.Test.YtdgdnnjigigkcaaProg
import Derived.Below
import Derived.Deep.Draws
import Derived.Deep.AppendLies
import Derived.Maps.AppendAt
import Derived.OwnWalk
import Derived.Laws.BytesArg
import Derived.Laws.MakeOwn
import Derived.Laws.OwnMore
import Derived.Deep.OwnRows
import Derived.Tactics
import Derived.Lib.ConvBytes
import Derived.Laws.Slices
import Derived.WalkKit
import Derived.KernelRfl
import Derived.RowKit3
import Derived.Deep.LoopGhost
import Derived.Deep.QuietTactic
import Derived.BigQuiet
import Derived.WideLaws
import Derived.Deep.DeepCutAuto
import Derived.Deep.CutBlock
import Derived.Deep.RegionHeld3
import Derived.Laws.Rows
import Derived.Lib.AppendStr
import Derived.ArgAppend
import Derived.Laws.IdiomCopy
import Derived.OrdersHeld
import Derived.Laws.BitsLemmas
import Derived.RowKit
import Derived.Shelf.SlicesG.Delete
import Derived.Ground.SlgnProg
import Derived.Sort.Row
import Derived.Shelf.Bits.Mul64
import Derived.Laws.CopyOwn
import Derived.WalkSpells
import Derived.Lib.SliceRun
namespace Go.Proofs.Ytdgdnnjigigkcaa
abbrev yay := @List.setIfInBounds_toArray
abbrev yby := @List.set_cons_zero
abbrev ycy := @List.set_cons_succ
abbrev ydy := @Option.bind_eq_some_iff
abbrev yey := @Option.some.inj
abbrev yfy := @Option.bind_some
abbrev ygy := @decide_eq_true
abbrev yhy := @decide_eq_false
abbrev yiy := @List.map_toArray
abbrev yjy := @List.map_cons
abbrev yky := @List.map_nil
abbrev yly := @List.length_drop
abbrev ymy := @List.length_take
abbrev yny := @Go.World.block_lt_of_cell?
abbrev yoy := @Nat.le_refl
abbrev ypy := @Go.RowKit.Below.refl
end Go.Proofs.Ytdgdnnjigigkcaa
namespace Go.Proofs.Ytdgdnnjigigkcaa.P
open Go.RowKit Go.Proofs.YtdgdnnjigigkcaaW.PrintWords Go.Proofs.YtdgdnnjigigkcaaW.PrintLast Go.Proofs.YtdgdnnjigigkcaaW.PrintMore
attribute [local go_sem] max2_int min2_int max_two min_two max_three min_three max_four min_four   -- for this text's walks alone
set_option linter.unusedVariables false
set_option linter.unusedSimpArgs false
def errW : Option Int → Value
  | none => .nilIface
  | some c => .iface 0 (.int .i64 c)
theorem errW_none : errW none = .nilIface := rfl
theorem errW_some (c : Int) : errW (some c) = .iface 0 (.int .i64 c) := rfl
theorem info2 : (Try.prog.info? 2).map (fun i => (i.zero, i.size, i.bytes)) = some (some (.int .i64 0), 1, 8) := by kernel_rfl
theorem info4 : (Try.prog.info? 4).map (fun i => (i.zero, i.size, i.bytes)) = some (some (.bool false), 1, 1) := by kernel_rfl
theorem info74 : (Try.prog.info? 74).map (fun i => (i.zero, i.size, i.bytes)) = some (some (.agg #[(.int .i64 0), (.int .i64 0)]), 2, 16) := by kernel_rfl
theorem info75 : (Try.prog.info? 75).map (fun i => (i.zero, i.size, i.bytes)) = some (some (.slice none 0 0), 1, 24) := by kernel_rfl
-- the values' own types
/-! #### struct type 133 -/
structure SLawFace where
  f0 : Int
  f1 : Int
def zLawFace : SLawFace := ⟨(0 : Int), (0 : Int)⟩
def kLawFace : Kd SLawFace := Kd.iso (Kd.pair (Kd.int .i64) (Kd.int .i64)) (fun x : SLawFace => (x.f0, x.f1))
theorem kLawFace_open {w : World} {x : SLawFace} {cs : List Value} (h : kLawFace.K w x cs) : cs = [.int .i64 x.f0, .int .i64 x.f1] := by
  obtain ⟨_, _, rfl, rfl, rfl⟩ := h
  exact rfl
theorem kLawFace_mk (w : World) (x : SLawFace)  : kLawFace.K w x [.int .i64 x.f0, .int .i64 x.f1] := ⟨[.int .i64 x.f0], [.int .i64 x.f1], rfl, rfl, rfl⟩
def rd_LawFace (xs : List SLawFace) (i : Int) : SLawFace := xs.getD i.toNat zLawFace
theorem at_LawFace {w : World} {A : Option Addr} {n : Nat} {xs : List SLawFace} (h : Kd.C kLawFace w A n xs) (i : Int) (h0 : 0 ≤ i) (h1 : i < n) : ∃ ad , A = some ad ∧ w.cell? (ad.add (i.toNat * 2)) = some (.int .i64 (rd_LawFace xs i).f0) ∧ w.cell? ⟨(ad.add (i.toNat * 2)).block, (ad.add (i.toNat * 2)).off + 1, none⟩ = some (.int .i64 (rd_LawFace xs i).f1) := by
  obtain ⟨ad, c, e, _, hK, hc0⟩ := Kd.C_get h zLawFace i h0 h1
  have hc : ∀ j u, c[j]? = some u → w.cell? (ad.add (i.toNat * 2 + j)) = some u := hc0
  obtain rfl := kLawFace_open hK
  exact ⟨ad, e, hc 0 _ rfl, by rw [← add_field _ _ 1 (by omega)]; exact hc 1 _ rfl⟩
def rd_LLawFace (xs : List (List SLawFace)) (i : Int) : (List SLawFace) := xs.getD i.toNat ([] : List SLawFace)
theorem at_LLawFace {w : World} {A : Option Addr} {n : Nat} {xs : List (List SLawFace)} (h : Kd.C (Kd.slice 133 kLawFace) w A n xs) (i : Int) (h0 : 0 ≤ i) (h1 : i < n) : ∃ ad A0 c0, A = some ad ∧ w.cell? (ad.add i.toNat) = some (.slice A0 (rd_LLawFace xs i).length c0) ∧ (rd_LLawFace xs i).length ≤ c0 ∧ kLawFace.C w A0 (rd_LLawFace xs i).length (rd_LLawFace xs i) := by
  obtain ⟨ad, c, e, _, hK, hc0⟩ := Kd.C_get h ([] : List SLawFace) i h0 h1
  have hc : ∀ j u, c[j]? = some u → w.cell? (ad.add (i.toNat * 1 + j)) = some u := hc0
  obtain ⟨A0, c0, rfl, l0, g0⟩ := hK
  exact ⟨ad, A0, c0, e, by have hq := hc 0 _ rfl; rwa [Nat.mul_one, Nat.add_zero] at hq, l0, g0⟩
/-! #### struct type 74 -/
structure SFace where
  f0 : Int
  f1 : Int
def zFace : SFace := ⟨(0 : Int), (0 : Int)⟩
def kFace : Kd SFace := Kd.iso (Kd.pair (Kd.int .i64) (Kd.int .i64)) (fun x : SFace => (x.f0, x.f1))
theorem kFace_open {w : World} {x : SFace} {cs : List Value} (h : kFace.K w x cs) : cs = [.int .i64 x.f0, .int .i64 x.f1] := by
  obtain ⟨_, _, rfl, rfl, rfl⟩ := h
  exact rfl
theorem kFace_openM {w : World} {base : Nat} {ok : Nat → Prop} {x : SFace} {cs : List Value} (h : kFace.M w base ok x cs) : cs = [.int .i64 x.f0, .int .i64 x.f1] := by
  obtain ⟨_, _, rfl, rfl, rfl⟩ := h
  exact rfl
theorem kFace_mkM (w : World) (base : Nat) (ok : Nat → Prop) (x : SFace)  : kFace.M w base ok x [.int .i64 x.f0, .int .i64 x.f1] := ⟨[.int .i64 x.f0], [.int .i64 x.f1], rfl, rfl, rfl⟩
def rd_Face (xs : List SFace) (i : Int) : SFace := xs.getD i.toNat zFace
theorem at_Face {w : World} {A : Option Addr} {n : Nat} {xs : List SFace} (h : Kd.C kFace w A n xs) (i : Int) (h0 : 0 ≤ i) (h1 : i < n) : ∃ ad , A = some ad ∧ w.cell? (ad.add (i.toNat * 2)) = some (.int .i64 (rd_Face xs i).f0) ∧ w.cell? ⟨(ad.add (i.toNat * 2)).block, (ad.add (i.toNat * 2)).off + 1, none⟩ = some (.int .i64 (rd_Face xs i).f1) := by
  obtain ⟨ad, c, e, _, hK, hc0⟩ := Kd.C_get h zFace i h0 h1
  have hc : ∀ j u, c[j]? = some u → w.cell? (ad.add (i.toNat * 2 + j)) = some u := hc0
  obtain rfl := kFace_open hK
  exact ⟨ad, e, hc 0 _ rfl, by rw [← add_field _ _ 1 (by omega)]; exact hc 1 _ rfl⟩
def rd_LFace (xs : List (List SFace)) (i : Int) : (List SFace) := xs.getD i.toNat ([] : List SFace)
theorem at_LFace {w : World} {A : Option Addr} {n : Nat} {xs : List (List SFace)} (h : Kd.C (Kd.slice 74 kFace) w A n xs) (i : Int) (h0 : 0 ≤ i) (h1 : i < n) : ∃ ad A0 c0, A = some ad ∧ w.cell? (ad.add i.toNat) = some (.slice A0 (rd_LFace xs i).length c0) ∧ (rd_LFace xs i).length ≤ c0 ∧ kFace.C w A0 (rd_LFace xs i).length (rd_LFace xs i) := by
  obtain ⟨ad, c, e, _, hK, hc0⟩ := Kd.C_get h ([] : List SFace) i h0 h1
  have hc : ∀ j u, c[j]? = some u → w.cell? (ad.add (i.toNat * 1 + j)) = some u := hc0
  obtain ⟨A0, c0, rfl, l0, g0⟩ := hK
  exact ⟨ad, A0, c0, e, by have hq := hc 0 _ rfl; rwa [Nat.mul_one, Nat.add_zero] at hq, l0, g0⟩
/-! #### struct type 28 -/
/-! #### struct type 156 -/
/-! ### impl_Face_isBoundary: function 75 -/
def impl_Face_isBoundary.f (a0_0 : Int) (a0_1 : Int) : Option (Bool) := some (decide (a0_0 < 0))
set_option maxHeartbeats 8000000 in
set_option maxRecDepth 100000 in
theorem impl_Face_isBoundary.calls (a0_0 : Int) (a0_1 : Int) (r : Bool) (w : World) (h : impl_Face_isBoundary.f a0_0 a0_1 = some r) :
    Calls Try.prog 75 #[.agg #[.int .i64 a0_0, .int .i64 a0_1]] w fun e w' => e = .returned (.bool r) ∧ Below w.heap.size w w' := by
  have hu74 := Try.underlying74
  have HB := Aside0.mk (ypy w.heap.size w)
  have H : (some (decide (a0_0 < 0))) = some r := h
  clear h
  obtain rfl := yey H
  go_enter Try.func75, Try.ntmps75
  go_wp2_with (first | ((with_reducible refine gate_dst (N := 1) rfl ?_); refine box_event ?hg (N := 1) ?hd (cs := #[.int .i64 a0_0, .int .i64 a0_1]) (t := 74) ?hr ?_; (case hd => rfl); (case hg => rfl); (case hr => first | (go_simp; done) | (go_simp; rfl)); intro gb101 hg w2 hbox hb; have n0_ := Aside0.mk (below_step (by repeat (first | (with_reducible first | exact HB.out | apply below_alloc | apply pw_below_drewN | apply below_drew1) | exact HB.out)) hb); have n1_ := Aside0.mk (hbox); have n2_ := Aside0.mk ((by rw [hg]; exact (below_size (by repeat (first | (with_reducible first | exact HB.out | apply below_alloc | apply pw_below_drewN | apply below_drew1) | exact HB.out))) : w.heap.size ≤ gb101)); have n3_ := Aside0.mk ((by rw [hg]; exact (below_size (by repeat (first | (with_reducible first | exact HB.out | apply below_alloc | apply pw_below_drewN | apply below_drew1) | exact HB.out))) : w.heap.size ≤ gb101)); clear HB; have HB := n0_; have BK101 := n1_; have GW101 := n2_; have GE101 := n3_; clear n0_ n1_ n2_ n3_; clear hb hbox hg; have hcz3_0 : w2.cell? ⟨gb101, 0, none⟩ = some (.int .i64 a0_0) := (blk_cell BK101.out 0).trans rfl; have hcz3_1 : w2.cell? ⟨gb101, 1, none⟩ = some (.int .i64 a0_1) := (blk_cell BK101.out 1).trans rfl; have hfz3_0 := blk_frozen BK101.out 0; have hfz3_1 := blk_frozen BK101.out 1))
  go_ret
  exact ⟨by first | rfl | (simp [errW_none, errW_some] <;> rfl) | (simp [*, errW_none, errW_some] <;> rfl), by repeat (first | (with_reducible first | exact HB.out | apply below_alloc | apply pw_below_drewN | apply below_drew1 | refine below_set ?_ GE101.out) | exact HB.out)⟩
/-! ### impl_boundary: function 130 -/
def impl_boundary.f  : Option (Int × Int) := some ((-1), 0)
set_option maxHeartbeats 8000000 in
set_option maxRecDepth 100000 in
theorem impl_boundary.calls  (r1 : Int) (r2 : Int) (w : World) (h : impl_boundary.f  = some (r1, r2)) :
    Calls Try.prog 130 #[] w fun e w' => e = .returned (.agg #[.int .i64 r1, .int .i64 r2]) ∧ Below w.heap.size w w' := by
  have hu74 := Try.underlying74
  have HB := Aside0.mk (ypy w.heap.size w)
  have H : (some ((-1), 0)) = some (r1, r2) := h
  clear h
  simp only [Option.some.injEq, Prod.mk.injEq] at H
  obtain ⟨rfl, rfl⟩ := H
  go_enter Try.func130, Try.ntmps130
  go_wp2_with (first | ((with_reducible refine gate_dst (N := 0) rfl ?_); refine box_event ?hg (N := 0) ?hd (cs := #[.int .i64 0, .int .i64 0]) (t := 74) ?hr ?_; (case hd => rfl); (case hg => rfl); (case hr => first | (go_simp; done) | (go_simp; rfl)); intro gb101 hg w1 hbox hb; have n0_ := Aside0.mk (below_step (by repeat (first | (with_reducible first | exact HB.out | apply below_alloc | apply pw_below_drewN | apply below_drew1) | exact HB.out)) hb); have n1_ := Aside0.mk (hbox); have n2_ := Aside0.mk ((by rw [hg]; exact (below_size (by repeat (first | (with_reducible first | exact HB.out | apply below_alloc | apply pw_below_drewN | apply below_drew1) | exact HB.out))) : w.heap.size ≤ gb101)); have n3_ := Aside0.mk ((by rw [hg]; exact (below_size (by repeat (first | (with_reducible first | exact HB.out | apply below_alloc | apply pw_below_drewN | apply below_drew1) | exact HB.out))) : w.heap.size ≤ gb101)); clear HB; have HB := n0_; have BK101 := n1_; have GW101 := n2_; have GE101 := n3_; clear n0_ n1_ n2_ n3_; clear hb hbox hg; have hcz2_0 : w1.cell? ⟨gb101, 0, none⟩ = some (.int .i64 0) := (blk_cell BK101.out 0).trans rfl; have hcz2_1 : w1.cell? ⟨gb101, 1, none⟩ = some (.int .i64 0) := (blk_cell BK101.out 1).trans rfl; have hfz2_0 := blk_frozen BK101.out 0; have hfz2_1 := blk_frozen BK101.out 1))
  refine bodyPost_ret (results_cell_row rfl _ _ gb101 74 #[.int .i64 (-1), .int .i64 0] (0, 0) _ rfl (by (with_reducible repeat (first | refine blk_drewN ?_ _ | refine blk_drew ?_ | refine blk_alloc ?_ _)); refine blk_put (cs := #[.int .i64 (-1), .int .i64 0]) ?_ 1 _ rfl; (with_reducible repeat (first | refine blk_drewN ?_ _ | refine blk_drew ?_ | refine blk_alloc ?_ _)); refine blk_put (cs := #[.int .i64 0, .int .i64 0]) ?_ 0 _ rfl; (with_reducible repeat (first | refine blk_drewN ?_ _ | refine blk_drew ?_ | refine blk_alloc ?_ _)); exact BK101.out) Try.underlying74 rfl (by kernel_rfl)) rfl ?_
  exact ⟨by first | rfl | (simp [errW_none, errW_some] <;> rfl) | (simp [*, errW_none, errW_some] <;> rfl), by repeat (first | (with_reducible first | exact HB.out | apply below_alloc | apply pw_below_drewN | apply below_drew1 | refine below_set ?_ GE101.out) | exact HB.out)⟩
/-! slices.Delete at []int64, for one element of a row of the call's own: the shelf's contract, laid here, in the words of this seat. -/
def lDelete_ren : Go.Shelf.Ren := ⟨fun | 45 => 149 | n => n, fun | 22 => 41 | 23 => 2 | 3 => 3 | 4 => 4 | 0 => 0 | n => n, fun | n => n⟩
theorem lDelete : Go.Proofs.SlLaysN.n45 Try.prog lDelete_ren := {
  mixed := by kernel_rfl
  f45 := ⟨Try.f149.name, by decide, Try.func149.trans (congrArg some (by kernel_rfl))⟩
  t0 := Try.underlying0
  a0 := Try.isAgg0
  z0 := Try.sizeOf0
  v0 := Try.zeroValue0
  t3 := Try.underlying3
  a3 := Try.isAgg3
  z3 := Try.sizeOf3
  v3 := Try.zeroValue3
  t4 := Try.underlying4
  a4 := Try.isAgg4
  z4 := Try.sizeOf4
  v4 := Try.zeroValue4
  t22 := Try.underlying41
  a22 := Try.isAgg41
  z22 := Try.sizeOf41
  v22 := Try.zeroValue41
  t23 := Try.underlying2
  a23 := Try.isAgg2
  z23 := Try.sizeOf2
  v23 := Try.zeroValue2
  i23 := by kernel_rfl }
theorem erase_eq (xs : List Int) (i : Nat) : xs.take i ++ xs.drop (i + 1) = xs.eraseIdx i := (List.eraseIdx_eq_take_drop_succ xs i).symm
theorem slices_Delete_int64.calls1 (g cap i : Nat) (xs : List Int) (base : Nat) (ok : Nat → Prop) (w : World) (ho : Kd.R (Kd.int .i64) 2 w base ok (.slice (some ⟨g, 0, none⟩) xs.length cap) xs) (hi : i < xs.length) :
    Calls Try.prog 149 #[.slice (some ⟨g, 0, none⟩) xs.length cap, .int .i64 i, .int .i64 (i + 1)] w fun e w' => e = .returned (.slice (some ⟨g, 0, none⟩) (xs.length - 1) cap) ∧
      Kd.R (Kd.int .i64) 2 w' base ok (.slice (some ⟨g, 0, none⟩) (xs.length - 1) cap) (xs.eraseIdx i) ∧ w.grownBy w' (some g) := by
  have hown := Kd.own_of_R ho
  rcases hown.2 with ⟨hv, _⟩ | ⟨g', cap', cur, hv, hbase, hh, hle, hmax, hcs, htake⟩
  · cases hv
  injection hv with hv1 _ hv3
  injection hv1 with hv1
  injection hv1 with hv1 _ _
  subst hv1 hv3
  rw [Nat.mul_one] at hcs htake
  have hcell : ∀ j, j < xs.length → w.cell? ⟨g, 0 + j, none⟩ = some (.int .i64 xs[j]!) := by
    intro j hj
    rw [Nat.zero_add]
    have h1 : cur.toList[j]? = some (.int .i64 xs[j]!) := by
      have h2 : (cur.toList.take xs.length)[j]? = some (.int .i64 xs[j]!) := by
        rw [htake, encs, List.getElem?_map, List.getElem?_eq_getElem hj]
        simp [getElem!_pos, hj]
      rw [List.getElem?_take, if_pos hj] at h2
      exact h2
    rw [blk_cell hh j, ← Array.getElem?_toList, h1]
  have hH : Go.Sort.Holds (Value.int .i64) w g 0 xs.toArray := by
    intro j hj
    have hj' : j < xs.length := by simpa using hj
    refine ⟨?_, by rw [Nat.zero_add]; exact blk_frozen hh j⟩
    rw [hcell j hj']
    simp [getElem!_pos, hj']
  have hc := AnyG.slices_Delete_int lDelete g 0 cap i (i + 1) xs w hH hle (by unfold maxLen at hmax; omega) (by omega) (by omega)
  have hc2 : Calls Try.prog 149 #[.slice (some ⟨g, 0, none⟩) xs.length cap, .int .i64 (i : Nat), .int .i64 ((i + 1 : Nat) : Int)] w fun e w' => e = .returned (.slice (some ⟨g, 0, none⟩) (xs.length - (i + 1 - i)) cap) ∧ ∃ q, w' = Go.Sort.putRow (Value.int .i64) (Go.Sort.ahead w q) g 0 (xs.take i ++ xs.drop (i + 1) ++ List.replicate (i + 1 - i) 0).toArray := hc
  refine hc2.mono ?_
  rintro e w' ⟨rfl, q, rfl⟩
  have hlen : (xs.eraseIdx i).length = xs.length - 1 := by rw [List.length_eraseIdx]; simp [hi]
  have hd : xs.take i ++ xs.drop (i + 1) ++ List.replicate (i + 1 - i) 0 = xs.eraseIdx i ++ [0] := by
    rw [erase_eq, show i + 1 - i = 1 by omega]; rfl
  rw [hd, show i + 1 - i = 1 by omega]
  have hheap : (Go.Sort.putRow (Value.int .i64) (Go.Sort.ahead w q) g 0 (xs.eraseIdx i ++ [0]).toArray).heap[g]? = some (.cells (Go.Sort.putCells (Value.int .i64) 0 (xs.eraseIdx i ++ [0]).toArray cur) 2 (0, 0)) := by
    show (w.heap.modify g _)[g]? = _
    rw [Array.getElem?_modify, if_pos rfl, hh]
    rfl
  have hfar : ∀ k, k ≠ g → (Go.Sort.putRow (Value.int .i64) (Go.Sort.ahead w q) g 0 (xs.eraseIdx i ++ [0]).toArray).heap[k]? = w.heap[k]? := by
    intro k hk
    show (w.heap.modify g _)[k]? = _
    rw [Array.getElem?_modify, if_neg (Ne.symm hk)]
  refine ⟨rfl, ?_, ⟨rfl, rfl, rfl, ?_, fun k _ hk => hfar k (fun e => hk (by rw [e]))⟩⟩
  · have e1 : xs.length - 1 = (xs.eraseIdx i).length := hlen.symm
    rw [e1]
    refine Kd.R_of_own ⟨by simp [encs], .inr ⟨g, cap, _, rfl, hbase, hheap, by omega, hmax, by simp [Go.Sort.putCells, hcs], ?_⟩⟩ (fun k hk => ho.1 k hk)
    rw [Nat.mul_one]
    apply List.ext_getElem?
    intro j
    rw [List.getElem?_take]
    by_cases hj : j < (xs.eraseIdx i).length
    · rw [if_pos hj, Array.getElem?_toList, Go.Sort.putCells, Array.getElem?_mapIdx, Array.getElem?_eq_getElem (by omega), Option.map_some, if_pos ⟨by omega, by simp; omega⟩, Nat.sub_zero, encs, List.getElem?_map, List.getElem?_eq_getElem hj, Option.map_some]
      congr 2
      rw [List.getElem!_toArray, getElem!_pos _ j (by simp; omega), List.getElem_append_left hj]
    · rw [if_neg hj, List.getElem?_eq_none (by simp [encs]; omega)]
  · show w.heap.size ≤ (w.heap.modify g _).size
    rw [Array.size_modify]
    omega
/-! impl.perm: the images of the permutation with an index. -/
/-- The blocks by which the digits of an index are told. -/
def permB : Nat → Int
 | 0 => 6
 | 1 => 2
 | _ => 1
def permP (p : Int) : Nat → Int
 | 0 => p
 | i + 1 => permP p i % permB i
def permK (p : Int) (i : Nat) : Int := permP p i / permB i
def permLeft (p : Int) : Nat → List Int
 | 0 => [0, 1, 2, 3]
 | i + 1 => (permLeft p i).eraseIdx (permK p i).toNat
def permAt (p : Int) (i : Nat) : Int := (permLeft p i).getD (permK p i).toNat 0
/-- The images. -/
def permL (p : Int) : List Int := [permAt p 0, permAt p 1, permAt p 2, permAt p 3]
theorem permP_bd (p : Int) (h0 : 0 ≤ p) (h1 : p ≤ 23) : (0 ≤ permP p 0 ∧ permP p 0 ≤ 23) ∧ (0 ≤ permP p 1 ∧ permP p 1 ≤ 5) ∧ (0 ≤ permP p 2 ∧ permP p 2 ≤ 1) ∧ (0 ≤ permP p 3 ∧ permP p 3 ≤ 0) := by
 simp only [permP, permB]; omega
theorem permK_bd (p : Int) (h0 : 0 ≤ p) (h1 : p ≤ 23) : (0 ≤ permK p 0 ∧ permK p 0 < 4) ∧ (0 ≤ permK p 1 ∧ permK p 1 < 3) ∧ (0 ≤ permK p 2 ∧ permK p 2 < 2) ∧ (0 ≤ permK p 3 ∧ permK p 3 < 1) := by
 have := permP_bd p h0 h1
 simp only [permK, permB]; omega
theorem permLeft_len (p : Int) (h0 : 0 ≤ p) (h1 : p ≤ 23) : (permLeft p 0).length = 4 ∧ (permLeft p 1).length = 3 ∧ (permLeft p 2).length = 2 ∧ (permLeft p 3).length = 1 ∧ (permLeft p 4).length = 0 := by
 obtain ⟨a, b, c, d⟩ := permK_bd p h0 h1
 have e0 : (permLeft p 0).length = 4 := rfl
 have e1 : (permLeft p 1).length = 3 := by rw [permLeft, List.length_eraseIdx, e0, if_pos (by omega)]
 have e2 : (permLeft p 2).length = 2 := by rw [permLeft, List.length_eraseIdx, e1, if_pos (by omega)]
 have e3 : (permLeft p 3).length = 1 := by rw [permLeft, List.length_eraseIdx, e2, if_pos (by omega)]
 have e4 : (permLeft p 4).length = 0 := by rw [permLeft, List.length_eraseIdx, e3, if_pos (by omega)]
 exact ⟨e0, e1, e2, e3, e4⟩
theorem new_at {W : World} {n : Nat} (h : W.heap.size = n) (o : Obj) : (W.alloc o).heap[n]? = some o := h ▸ blk_new W o
/-- A value of the array after i rounds. -/
def permO (p : Int) (i j : Nat) : Int := if j < i then permAt p j else 0
set_option maxHeartbeats 8000000 in
set_option maxRecDepth 100000 in
theorem impl_perm.calls (p : Int) (w : World) (h0 : 0 ≤ p) (h1 : p ≤ 23) :
 Calls Try.prog 127 #[.int .i64 p] w fun e w' => e = .returned (.agg #[.int .i64 (permAt p 0), .int .i64 (permAt p 1), .int .i64 (permAt p 2), .int .i64 (permAt p 3)]) ∧ Below w.heap.size w w' := by
 have HP := Aside0.mk (permP_bd p h0 h1)
 have HK := Aside0.mk (permK_bd p h0 h1)
 have HL := Aside0.mk (permLeft_len p h0 h1)
 clear h0 h1
 go_enter Try.func127, Try.ntmps127
 go_wp2_with fail
 go_loopg [0, 4, 11] 4 (fun gg v0 v4 v11 w' => ∃ i : Nat, i ≤ 4 ∧ 4 - i ≤ gg ∧ v11 = .int .i64 i ∧ v0 = .int .i64 (permP p i) ∧ v4 = .slice (some ⟨w.heap.size + 1 + 1, 0, none⟩) (permLeft p i).length 4 ∧
  Aside0 (Kd.R (Kd.int .i64) 2 w' w.heap.size (fun k => k = w.heap.size + 1 + 1) (.slice (some ⟨w.heap.size + 1 + 1, 0, none⟩) (permLeft p i).length 4) (permLeft p i)) ∧
  Aside0 (w'.heap[w.heap.size + 1]? = some (.cells #[.int .i64 (permO p i 0), .int .i64 (permO p i 1), .int .i64 (permO p i 2), .int .i64 (permO p i 3)] 108 (0, 0))) ∧
  Aside0 (w'.heap[w.heap.size]? = some (.cells #[.int .i64 0, .int .i64 0, .int .i64 0, .int .i64 0] 108 (0, 0))) ∧
  Aside0 (w'.heap[w.heap.size + 1 + 1 + 1]? = some (.cells #[.int .i64 6, .int .i64 2, .int .i64 1, .int .i64 1] 2 (0, 0))) ∧ Aside0 (Below w.heap.size w w'))
 case atStart =>
  refine ⟨0, by omega, by omega, rfl, rfl, rfl, ⟨?_⟩, ⟨?_⟩, ⟨?_⟩, ⟨?_⟩, ⟨?_⟩⟩
  next =>
   refine Kd.R_of_own ⟨by simp [encs], .inr ⟨w.heap.size + 1 + 1, 4, #[.int .i64 0, .int .i64 1, .int .i64 2, .int .i64 3], rfl, by omega, ?_, yoy 4, by decide, rfl, rfl⟩⟩ (fun k hk => by simpa [Value.ownBlock] using hk.symm)
   exact blk_alloc (new_at (by simp) _) _
  next =>
   exact blk_alloc (blk_alloc (new_at (by simp) _) _) _
  next =>
   exact blk_alloc (blk_alloc (blk_alloc (new_at rfl _) _) _) _
  next =>
   exact new_at (by simp) _
  next =>
   exact below_alloc (below_alloc (below_alloc (below_alloc (ypy _ _) _) _) _) _
 case round =>
  obtain ⟨i, hi, hg, rfl, rfl, rfl, HR, B3, B2, B9, HB⟩ := hrel
  rcases (show i = 4 ∨ i = 3 ∨ i = 2 ∨ i = 1 ∨ i = 0 by omega) with rfl | rfl | rfl | rfl | rfl
  next =>
   have c0 : wr.cell? ⟨w.heap.size + 1, 0, none⟩ = some (.int .i64 (permO p 4 0)) := (blk_cell B3.out 0).trans rfl
   have c1 : wr.cell? ⟨w.heap.size + 1, 1, none⟩ = some (.int .i64 (permO p 4 1)) := (blk_cell B3.out 1).trans rfl
   have c2 : wr.cell? ⟨w.heap.size + 1, 2, none⟩ = some (.int .i64 (permO p 4 2)) := (blk_cell B3.out 2).trans rfl
   have c3 : wr.cell? ⟨w.heap.size + 1, 3, none⟩ = some (.int .i64 (permO p 4 3)) := (blk_cell B3.out 3).trans rfl
   have d0 : wr.cell? ⟨w.heap.size, 0, none⟩ = some (.int .i64 0) := (blk_cell B2.out 0).trans rfl
   have d1 : wr.cell? ⟨w.heap.size, 1, none⟩ = some (.int .i64 0) := (blk_cell B2.out 1).trans rfl
   have d2 : wr.cell? ⟨w.heap.size, 2, none⟩ = some (.int .i64 0) := (blk_cell B2.out 2).trans rfl
   have d3 : wr.cell? ⟨w.heap.size, 3, none⟩ = some (.int .i64 0) := (blk_cell B2.out 3).trans rfl
   have f0 := blk_frozen B2.out 0
   have f1 := blk_frozen B2.out 1
   have f2 := blk_frozen B2.out 2
   have f3 := blk_frozen B2.out 3
   have ht := Try.underlying108
   go_wp2
   refine bodyPost_ret (results_cell_row rfl _ _ w.heap.size 108 #[.int .i64 (permO p 4 0), .int .i64 (permO p 4 1), .int .i64 (permO p 4 2), .int .i64 (permO p 4 3)] (0, 0) _ rfl (blk_put (cs := #[.int .i64 (permO p 4 0), .int .i64 (permO p 4 1), .int .i64 (permO p 4 2), .int .i64 0]) (blk_put (cs := #[.int .i64 (permO p 4 0), .int .i64 (permO p 4 1), .int .i64 0, .int .i64 0]) (blk_put (cs := #[.int .i64 (permO p 4 0), .int .i64 0, .int .i64 0, .int .i64 0]) (blk_put B2.out 0 _ rfl) 1 _ rfl) 2 _ rfl) 3 _ rfl) ht rfl (by kernel_rfl)) rfl ⟨rfl, ?_⟩
   exact below_set (below_set (below_set (below_set HB.out (yoy _)) (yoy _)) (yoy _)) (yoy _)
  next =>
   have hK : 0 ≤ permK p 3 ∧ permK p 3 < (permLeft p 3).length := by have := HK.out; have := HL.out; omega
   have hP : 0 ≤ permP p 3 ∧ permP p 3 ≤ 23 := by have := HP.out; omega
   have HLN := Aside0.mk (show (permLeft p 3).length = 1 by have := HL.out; omega)
   have HLN2 := Aside0.mk (show (permLeft p 4).length = (permLeft p 3).length - 1 by have := HL.out; omega)
   obtain ⟨A1, q1, hA1, hq1, hC⟩ := Kd.R_reads HR.out
   injection hA1 with hA1 hl1 hc1
   subst hA1
   clear hl1 hc1 hq1
   obtain ⟨ad, had, hx⟩ := Kd.at_int hC (permK p 3) hK.1 (by omega)
   injection had with had
   subst had
   rw [add_plain] at hx
   have HAT := Aside0.mk (show rd (permLeft p 3) (permK p 3) = permAt p 3 from rfl)
   rw [HAT.out] at hx
   have HER := Aside0.mk (show (permLeft p 3).eraseIdx (permK p 3).toNat = permLeft p 4 from rfl)
   have hX : permK p 3 = permP p 3 := by have e : permK p 3 = permP p 3 / 1 := rfl; rw [e]; exact Int.ediv_one _
   have HY := Aside0.mk (show 0 = permP p 4 by have e : permP p 4 = permP p 3 % 1 := rfl; rw [e]; omega)
   rw [hX] at hx hK
   have HX := Aside0.mk hX
   clear hX hC
   obtain ⟨hk0, hk1⟩ := hK
   obtain ⟨hp0, hp1⟩ := hP
   have b9 : wr.cell? ⟨w.heap.size + 1 + 1 + 1, 3, none⟩ = some (.int .i64 1) := (blk_cell B9.out 3).trans rfl
   have b3 : wr.cell? ⟨w.heap.size + 1, 3, none⟩ = some (.int .i64 (permO p 3 3)) := (blk_cell B3.out 3).trans rfl
   have f3 := blk_frozen B3.out 3
   have hk2 : permP p 3 < 9223372036854775807 := by omega
   go_wp2_with fail
   have HRw := Aside0.mk (show Kd.R (Kd.int .i64) 2 (wr.setCell ⟨w.heap.size + 1, 3, none⟩ (.int .i64 (permAt p 3))) w.heap.size (fun k => k = w.heap.size + 1 + 1) (.slice (some ⟨w.heap.size + 1 + 1, 0, none⟩) (permLeft p 3).length 4) (permLeft p 3) from Kd.R_far (p := ⟨w.heap.size + 1, 3, none⟩) HR.out (fun k hk => by rw [hk]; show w.heap.size + 1 + 1 ≠ w.heap.size + 1; omega) _)
   refine calls_of_args (args' := #[.slice (some ⟨w.heap.size + 1 + 1, 0, none⟩) (permLeft p 3).length 4, .int .i64 ((permP p 3).toNat : Int), .int .i64 (((permP p 3).toNat : Int) + 1)]) (by rw [Int.toNat_of_nonneg hk0]) ?_
   refine (slices_Delete_int64.calls1 (w.heap.size + 1 + 1) 4 (permP p 3).toNat (permLeft p 3) w.heap.size (fun k => k = w.heap.size + 1 + 1) _ HRw.out (by omega)).mono ?_
   rintro e w1 ⟨rfl, hR1, hg1⟩
   have hl2 := HLN2.out
   have er : (permLeft p 3).eraseIdx (permP p 3).toNat = permLeft p 4 := by rw [← HER.out, HX.out]
   rw [er, ← hl2] at hR1
   rw [← hl2]
   have HR2 := Aside0.mk hR1
   have B3a : (wr.setCell ⟨w.heap.size + 1, 3, none⟩ (.int .i64 (permAt p 3))).heap[w.heap.size + 1]? = some (.cells #[.int .i64 (permO p 4 0), .int .i64 (permO p 4 1), .int .i64 (permO p 4 2), .int .i64 (permO p 4 3)] 108 (0, 0)) := blk_put B3.out 3 _ rfl
   have B3n := Aside0.mk (blk_grown B3a hg1 (by simp))
   have B2n := Aside0.mk (blk_grown (blk_far (p := ⟨w.heap.size + 1, 3, none⟩) B2.out (by show w.heap.size ≠ w.heap.size + 1; omega) (.int .i64 (permAt p 3))) hg1 (by simp; omega))
   have B9n := Aside0.mk (blk_grown (blk_far (p := ⟨w.heap.size + 1, 3, none⟩) B9.out (by show w.heap.size + 1 + 1 + 1 ≠ w.heap.size + 1; omega) (.int .i64 (permAt p 3))) hg1 (by simp))
   have HBn := Aside0.mk (pw_below_grown (below_set (j := 3) (v := .int .i64 (permAt p 3)) HB.out (show w.heap.size ≤ w.heap.size + 1 by omega)) (some (w.heap.size + 1 + 1)) (by have := HB.out.size; simp [World.setCell]; omega) hg1 (fun k hk => by injection hk with hk; omega))
   clear hR1 hg1 B3a HRw B3 B2 B9 HB HR er hl2 hx b9 b3 f3
   go_wp2
   go_roundg (4 - 4)
   case measure => omega
   case rel => exact ⟨4, by omega, by omega, by first | rfl | go_num, by rw [← HY.out], rfl, HR2, B3n, B2n, B9n, HBn⟩
  next =>
   have hK : 0 ≤ permK p 2 ∧ permK p 2 < (permLeft p 2).length := by have := HK.out; have := HL.out; omega
   have hP : 0 ≤ permP p 2 ∧ permP p 2 ≤ 23 := by have := HP.out; omega
   have HLN := Aside0.mk (show (permLeft p 2).length = 2 by have := HL.out; omega)
   have HLN2 := Aside0.mk (show (permLeft p 3).length = (permLeft p 2).length - 1 by have := HL.out; omega)
   obtain ⟨A1, q1, hA1, hq1, hC⟩ := Kd.R_reads HR.out
   injection hA1 with hA1 hl1 hc1
   subst hA1
   clear hl1 hc1 hq1
   obtain ⟨ad, had, hx⟩ := Kd.at_int hC (permK p 2) hK.1 (by omega)
   injection had with had
   subst had
   rw [add_plain] at hx
   have HAT := Aside0.mk (show rd (permLeft p 2) (permK p 2) = permAt p 2 from rfl)
   rw [HAT.out] at hx
   have HER := Aside0.mk (show (permLeft p 2).eraseIdx (permK p 2).toNat = permLeft p 3 from rfl)
   have hX : permK p 2 = permP p 2 := by have e : permK p 2 = permP p 2 / 1 := rfl; rw [e]; exact Int.ediv_one _
   have HY := Aside0.mk (show 0 = permP p 3 by have e : permP p 3 = permP p 2 % 1 := rfl; rw [e]; omega)
   rw [hX] at hx hK
   have HX := Aside0.mk hX
   clear hX hC
   obtain ⟨hk0, hk1⟩ := hK
   obtain ⟨hp0, hp1⟩ := hP
   have b9 : wr.cell? ⟨w.heap.size + 1 + 1 + 1, 2, none⟩ = some (.int .i64 1) := (blk_cell B9.out 2).trans rfl
   have b3 : wr.cell? ⟨w.heap.size + 1, 2, none⟩ = some (.int .i64 (permO p 2 2)) := (blk_cell B3.out 2).trans rfl
   have f3 := blk_frozen B3.out 2
   have hk2 : permP p 2 < 9223372036854775807 := by omega
   go_wp2_with fail
   have HRw := Aside0.mk (show Kd.R (Kd.int .i64) 2 (wr.setCell ⟨w.heap.size + 1, 2, none⟩ (.int .i64 (permAt p 2))) w.heap.size (fun k => k = w.heap.size + 1 + 1) (.slice (some ⟨w.heap.size + 1 + 1, 0, none⟩) (permLeft p 2).length 4) (permLeft p 2) from Kd.R_far (p := ⟨w.heap.size + 1, 2, none⟩) HR.out (fun k hk => by rw [hk]; show w.heap.size + 1 + 1 ≠ w.heap.size + 1; omega) _)
   refine calls_of_args (args' := #[.slice (some ⟨w.heap.size + 1 + 1, 0, none⟩) (permLeft p 2).length 4, .int .i64 ((permP p 2).toNat : Int), .int .i64 (((permP p 2).toNat : Int) + 1)]) (by rw [Int.toNat_of_nonneg hk0]) ?_
   refine (slices_Delete_int64.calls1 (w.heap.size + 1 + 1) 4 (permP p 2).toNat (permLeft p 2) w.heap.size (fun k => k = w.heap.size + 1 + 1) _ HRw.out (by omega)).mono ?_
   rintro e w1 ⟨rfl, hR1, hg1⟩
   have hl2 := HLN2.out
   have er : (permLeft p 2).eraseIdx (permP p 2).toNat = permLeft p 3 := by rw [← HER.out, HX.out]
   rw [er, ← hl2] at hR1
   rw [← hl2]
   have HR2 := Aside0.mk hR1
   have B3a : (wr.setCell ⟨w.heap.size + 1, 2, none⟩ (.int .i64 (permAt p 2))).heap[w.heap.size + 1]? = some (.cells #[.int .i64 (permO p 3 0), .int .i64 (permO p 3 1), .int .i64 (permO p 3 2), .int .i64 (permO p 3 3)] 108 (0, 0)) := blk_put B3.out 2 _ rfl
   have B3n := Aside0.mk (blk_grown B3a hg1 (by simp))
   have B2n := Aside0.mk (blk_grown (blk_far (p := ⟨w.heap.size + 1, 2, none⟩) B2.out (by show w.heap.size ≠ w.heap.size + 1; omega) (.int .i64 (permAt p 2))) hg1 (by simp; omega))
   have B9n := Aside0.mk (blk_grown (blk_far (p := ⟨w.heap.size + 1, 2, none⟩) B9.out (by show w.heap.size + 1 + 1 + 1 ≠ w.heap.size + 1; omega) (.int .i64 (permAt p 2))) hg1 (by simp))
   have HBn := Aside0.mk (pw_below_grown (below_set (j := 2) (v := .int .i64 (permAt p 2)) HB.out (show w.heap.size ≤ w.heap.size + 1 by omega)) (some (w.heap.size + 1 + 1)) (by have := HB.out.size; simp [World.setCell]; omega) hg1 (fun k hk => by injection hk with hk; omega))
   clear hR1 hg1 B3a HRw B3 B2 B9 HB HR er hl2 hx b9 b3 f3
   go_wp2
   go_roundg (4 - 3)
   case measure => omega
   case rel => exact ⟨3, by omega, by omega, by first | rfl | go_num, by rw [← HY.out], rfl, HR2, B3n, B2n, B9n, HBn⟩
  next =>
   have hK : 0 ≤ permK p 1 ∧ permK p 1 < (permLeft p 1).length := by have := HK.out; have := HL.out; omega
   have hP : 0 ≤ permP p 1 ∧ permP p 1 ≤ 23 := by have := HP.out; omega
   have HLN := Aside0.mk (show (permLeft p 1).length = 3 by have := HL.out; omega)
   have HLN2 := Aside0.mk (show (permLeft p 2).length = (permLeft p 1).length - 1 by have := HL.out; omega)
   obtain ⟨A1, q1, hA1, hq1, hC⟩ := Kd.R_reads HR.out
   injection hA1 with hA1 hl1 hc1
   subst hA1
   clear hl1 hc1 hq1
   obtain ⟨ad, had, hx⟩ := Kd.at_int hC (permK p 1) hK.1 (by omega)
   injection had with had
   subst had
   rw [add_plain] at hx
   have HAT := Aside0.mk (show rd (permLeft p 1) (permK p 1) = permAt p 1 from rfl)
   rw [HAT.out] at hx
   have HER := Aside0.mk (show (permLeft p 1).eraseIdx (permK p 1).toNat = permLeft p 2 from rfl)
   have hX : permK p 1 = permP p 1 / 2 := by have e : permK p 1 = permP p 1 / 2 := rfl; rw [e]
   have HY := Aside0.mk (show permP p 1 % 2 = permP p 2 by have e : permP p 2 = permP p 1 % 2 := rfl; rw [e])
   rw [hX] at hx hK
   have HX := Aside0.mk hX
   clear hX hC
   obtain ⟨hk0, hk1⟩ := hK
   obtain ⟨hp0, hp1⟩ := hP
   have b9 : wr.cell? ⟨w.heap.size + 1 + 1 + 1, 1, none⟩ = some (.int .i64 2) := (blk_cell B9.out 1).trans rfl
   have b3 : wr.cell? ⟨w.heap.size + 1, 1, none⟩ = some (.int .i64 (permO p 1 1)) := (blk_cell B3.out 1).trans rfl
   have f3 := blk_frozen B3.out 1
   have hk2 : permP p 1 / 2 < 9223372036854775807 := by omega
   go_wp2_with fail
   have HRw := Aside0.mk (show Kd.R (Kd.int .i64) 2 (wr.setCell ⟨w.heap.size + 1, 1, none⟩ (.int .i64 (permAt p 1))) w.heap.size (fun k => k = w.heap.size + 1 + 1) (.slice (some ⟨w.heap.size + 1 + 1, 0, none⟩) (permLeft p 1).length 4) (permLeft p 1) from Kd.R_far (p := ⟨w.heap.size + 1, 1, none⟩) HR.out (fun k hk => by rw [hk]; show w.heap.size + 1 + 1 ≠ w.heap.size + 1; omega) _)
   refine calls_of_args (args' := #[.slice (some ⟨w.heap.size + 1 + 1, 0, none⟩) (permLeft p 1).length 4, .int .i64 ((permP p 1 / 2).toNat : Int), .int .i64 (((permP p 1 / 2).toNat : Int) + 1)]) (by rw [Int.toNat_of_nonneg hk0]) ?_
   refine (slices_Delete_int64.calls1 (w.heap.size + 1 + 1) 4 (permP p 1 / 2).toNat (permLeft p 1) w.heap.size (fun k => k = w.heap.size + 1 + 1) _ HRw.out (by omega)).mono ?_
   rintro e w1 ⟨rfl, hR1, hg1⟩
   have hl2 := HLN2.out
   have er : (permLeft p 1).eraseIdx (permP p 1 / 2).toNat = permLeft p 2 := by rw [← HER.out, HX.out]
   rw [er, ← hl2] at hR1
   rw [← hl2]
   have HR2 := Aside0.mk hR1
   have B3a : (wr.setCell ⟨w.heap.size + 1, 1, none⟩ (.int .i64 (permAt p 1))).heap[w.heap.size + 1]? = some (.cells #[.int .i64 (permO p 2 0), .int .i64 (permO p 2 1), .int .i64 (permO p 2 2), .int .i64 (permO p 2 3)] 108 (0, 0)) := blk_put B3.out 1 _ rfl
   have B3n := Aside0.mk (blk_grown B3a hg1 (by simp))
   have B2n := Aside0.mk (blk_grown (blk_far (p := ⟨w.heap.size + 1, 1, none⟩) B2.out (by show w.heap.size ≠ w.heap.size + 1; omega) (.int .i64 (permAt p 1))) hg1 (by simp; omega))
   have B9n := Aside0.mk (blk_grown (blk_far (p := ⟨w.heap.size + 1, 1, none⟩) B9.out (by show w.heap.size + 1 + 1 + 1 ≠ w.heap.size + 1; omega) (.int .i64 (permAt p 1))) hg1 (by simp))
   have HBn := Aside0.mk (pw_below_grown (below_set (j := 1) (v := .int .i64 (permAt p 1)) HB.out (show w.heap.size ≤ w.heap.size + 1 by omega)) (some (w.heap.size + 1 + 1)) (by have := HB.out.size; simp [World.setCell]; omega) hg1 (fun k hk => by injection hk with hk; omega))
   clear hR1 hg1 B3a HRw B3 B2 B9 HB HR er hl2 hx b9 b3 f3
   go_wp2
   go_roundg (4 - 2)
   case measure => omega
   case rel => exact ⟨2, by omega, by omega, by first | rfl | go_num, by rw [← HY.out], rfl, HR2, B3n, B2n, B9n, HBn⟩
  next =>
   have hK : 0 ≤ permK p 0 ∧ permK p 0 < (permLeft p 0).length := by have := HK.out; have := HL.out; omega
   have hP : 0 ≤ permP p 0 ∧ permP p 0 ≤ 23 := by have := HP.out; omega
   have HLN := Aside0.mk (show (permLeft p 0).length = 4 by have := HL.out; omega)
   have HLN2 := Aside0.mk (show (permLeft p 1).length = (permLeft p 0).length - 1 by have := HL.out; omega)
   obtain ⟨A1, q1, hA1, hq1, hC⟩ := Kd.R_reads HR.out
   injection hA1 with hA1 hl1 hc1
   subst hA1
   clear hl1 hc1 hq1
   obtain ⟨ad, had, hx⟩ := Kd.at_int hC (permK p 0) hK.1 (by omega)
   injection had with had
   subst had
   rw [add_plain] at hx
   have HAT := Aside0.mk (show rd (permLeft p 0) (permK p 0) = permAt p 0 from rfl)
   rw [HAT.out] at hx
   have HER := Aside0.mk (show (permLeft p 0).eraseIdx (permK p 0).toNat = permLeft p 1 from rfl)
   have hX : permK p 0 = permP p 0 / 6 := by have e : permK p 0 = permP p 0 / 6 := rfl; rw [e]
   have HY := Aside0.mk (show permP p 0 % 6 = permP p 1 by have e : permP p 1 = permP p 0 % 6 := rfl; rw [e])
   rw [hX] at hx hK
   have HX := Aside0.mk hX
   clear hX hC
   obtain ⟨hk0, hk1⟩ := hK
   obtain ⟨hp0, hp1⟩ := hP
   have b9 : wr.cell? ⟨w.heap.size + 1 + 1 + 1, 0, none⟩ = some (.int .i64 6) := (blk_cell B9.out 0).trans rfl
   have b3 : wr.cell? ⟨w.heap.size + 1, 0, none⟩ = some (.int .i64 (permO p 0 0)) := (blk_cell B3.out 0).trans rfl
   have f3 := blk_frozen B3.out 0
   have hk2 : permP p 0 / 6 < 9223372036854775807 := by omega
   go_wp2_with fail
   have HRw := Aside0.mk (show Kd.R (Kd.int .i64) 2 (wr.setCell ⟨w.heap.size + 1, 0, none⟩ (.int .i64 (permAt p 0))) w.heap.size (fun k => k = w.heap.size + 1 + 1) (.slice (some ⟨w.heap.size + 1 + 1, 0, none⟩) (permLeft p 0).length 4) (permLeft p 0) from Kd.R_far (p := ⟨w.heap.size + 1, 0, none⟩) HR.out (fun k hk => by rw [hk]; show w.heap.size + 1 + 1 ≠ w.heap.size + 1; omega) _)
   refine calls_of_args (args' := #[.slice (some ⟨w.heap.size + 1 + 1, 0, none⟩) (permLeft p 0).length 4, .int .i64 ((permP p 0 / 6).toNat : Int), .int .i64 (((permP p 0 / 6).toNat : Int) + 1)]) (by rw [Int.toNat_of_nonneg hk0]) ?_
   refine (slices_Delete_int64.calls1 (w.heap.size + 1 + 1) 4 (permP p 0 / 6).toNat (permLeft p 0) w.heap.size (fun k => k = w.heap.size + 1 + 1) _ HRw.out (by omega)).mono ?_
   rintro e w1 ⟨rfl, hR1, hg1⟩
   have hl2 := HLN2.out
   have er : (permLeft p 0).eraseIdx (permP p 0 / 6).toNat = permLeft p 1 := by rw [← HER.out, HX.out]
   rw [er, ← hl2] at hR1
   rw [← hl2]
   have HR2 := Aside0.mk hR1
   have B3a : (wr.setCell ⟨w.heap.size + 1, 0, none⟩ (.int .i64 (permAt p 0))).heap[w.heap.size + 1]? = some (.cells #[.int .i64 (permO p 1 0), .int .i64 (permO p 1 1), .int .i64 (permO p 1 2), .int .i64 (permO p 1 3)] 108 (0, 0)) := blk_put B3.out 0 _ rfl
   have B3n := Aside0.mk (blk_grown B3a hg1 (by simp))
   have B2n := Aside0.mk (blk_grown (blk_far (p := ⟨w.heap.size + 1, 0, none⟩) B2.out (by show w.heap.size ≠ w.heap.size + 1; omega) (.int .i64 (permAt p 0))) hg1 (by simp; omega))
   have B9n := Aside0.mk (blk_grown (blk_far (p := ⟨w.heap.size + 1, 0, none⟩) B9.out (by show w.heap.size + 1 + 1 + 1 ≠ w.heap.size + 1; omega) (.int .i64 (permAt p 0))) hg1 (by simp))
   have HBn := Aside0.mk (pw_below_grown (below_set (j := 0) (v := .int .i64 (permAt p 0)) HB.out (show w.heap.size ≤ w.heap.size + 1 by omega)) (some (w.heap.size + 1 + 1)) (by have := HB.out.size; simp [World.setCell]; omega) hg1 (fun k hk => by injection hk with hk; omega))
   clear hR1 hg1 B3a HRw B3 B2 B9 HB HR er hl2 hx b9 b3 f3
   go_wp2
   go_roundg (4 - 1)
   case measure => omega
   case rel => exact ⟨1, by omega, by omega, by first | rfl | go_num, by rw [← HY.out], rfl, HR2, B3n, B2n, B9n, HBn⟩
/-! Arrays of four numbers. -/
theorem arr_index (a b c d : Int) (f : Int) (h0 : 0 ≤ f) (h1 : f ≤ 3) : ∀ w : World, (Instr.index 108 (.agg #[.int .i64 a, .int .i64 b, .int .i64 c, .int .i64 d]) (.int .i64 f)).run Try.prog w = .ok (.int .i64 (rd [a, b, c, d] f)) w := by
  intro w
  rcases (show f = 0 ∨ f = 1 ∨ f = 2 ∨ f = 3 by omega) with rfl | rfl | rfl | rfl
  · kernel_rfl
  · kernel_rfl
  · kernel_rfl
  · kernel_rfl
theorem arr_cell {w : World} {g : Nat} {T : TypeId} {a b c d : Int} (h : w.heap[g]? = some (.cells #[.int .i64 a, .int .i64 b, .int .i64 c, .int .i64 d] T (0, 0))) (f : Int) (h0 : 0 ≤ f) (h1 : f ≤ 3) : w.cell? ⟨g, f.toNat, none⟩ = some (.int .i64 (rd [a, b, c, d] f)) := by
  rw [blk_cell h]
  rcases (show f = 0 ∨ f = 1 ∨ f = 2 ∨ f = 3 by omega) with rfl | rfl | rfl | rfl <;> rfl
theorem arr_put {w : World} {g : Nat} {T : TypeId} {a b c d : Int} (h : w.heap[g]? = some (.cells #[.int .i64 a, .int .i64 b, .int .i64 c, .int .i64 d] T (0, 0))) (f v : Int) (h0 : 0 ≤ f) (h1 : f ≤ 3) :
    (w.setCell ⟨g, f.toNat, none⟩ (.int .i64 v)).heap[g]? = some (.cells #[.int .i64 (rd ([a, b, c, d].set f.toNat v) 0), .int .i64 (rd ([a, b, c, d].set f.toNat v) 1), .int .i64 (rd ([a, b, c, d].set f.toNat v) 2), .int .i64 (rd ([a, b, c, d].set f.toNat v) 3)] T (0, 0)) := by
  rcases (show f = 0 ∨ f = 1 ∨ f = 2 ∨ f = 3 by omega) with rfl | rfl | rfl | rfl
  · exact blk_put h 0 _ rfl
  · exact blk_put h 1 _ rfl
  · exact blk_put h 2 _ rfl
  · exact blk_put h 3 _ rfl
theorem new_at4 {W : World} {n : Nat} (h : W.heap.size = n) (o : Obj) : (W.alloc o).heap[n]? = some o := h ▸ blk_new W o
/-- A list of four numbers, written out. -/
theorem four_eq {l : List Int} (h : l.length = 4) : l = [rd l 0, rd l 1, rd l 2, rd l 3] := by
  match l, h with
  | [a, b, c, d], _ => rfl
/-! indexOf: the index of a permutation with given images. -/
/-- The element at i, less one for each of the first j that is smaller. -/
def lessAt (l : List Int) (i : Nat) : Nat → Int
  | 0 => rd l i
  | j + 1 => if rd l j < rd l i then lessAt l i j - 1 else lessAt l i j
def idxAt (l : List Int) : Nat → Int
  | 0 => 0
  | i + 1 => idxAt l i + lessAt l i i * permB i
def idxL (l : List Int) : Int := idxAt l 4
def sm (x : Int) : Prop := 0 ≤ x ∧ x ≤ 3
theorem lessAt_bd (l : List Int) (i : Nat) (h : sm (rd l i)) : ∀ j : Nat, -(j : Int) ≤ lessAt l i j ∧ lessAt l i j ≤ 3
  | 0 => by have := h.1; have := h.2; unfold lessAt; omega
  | j + 1 => by
    have := lessAt_bd l i h j
    unfold lessAt
    split <;> omega
set_option maxHeartbeats 8000000 in
set_option maxRecDepth 100000 in
theorem impl_indexOf.calls (a b c d : Int) (w : World) (ha : sm a) (hb : sm b) (hc : sm c) (hd : sm d) :
    Calls Try.prog 157 #[.agg #[.int .i64 a, .int .i64 b, .int .i64 c, .int .i64 d]] w fun e w' => e = .returned (.int .i64 (idxL [a, b, c, d])) ∧ Below w.heap.size w w' := by
  have hl0 : sm (rd [a, b, c, d] (0 : Nat)) := ha
  have hl1 : sm (rd [a, b, c, d] (1 : Nat)) := hb
  have hl2 : sm (rd [a, b, c, d] (2 : Nat)) := hc
  have hl3 : sm (rd [a, b, c, d] (3 : Nat)) := hd
  have HL := Aside0.mk (And.intro (lessAt_bd _ 0 hl0) (And.intro (lessAt_bd _ 1 hl1) (And.intro (lessAt_bd _ 2 hl2) (lessAt_bd _ 3 hl3))))
  have HS := Aside0.mk (And.intro hl0 (And.intro hl1 (And.intro hl2 hl3)))
  clear ha hb hc hd hl0 hl1 hl2 hl3
  generalize hl : [a, b, c, d] = l at HL HS ⊢
  have HLL := Aside0.mk hl
  clear hl
  go_enter Try.func157, Try.ntmps157
  go_wp2_with fail
  go_loopg [3, 11] 4 (fun gg v3 v11 w' => ∃ i : Nat, i ≤ 4 ∧ 4 - i ≤ gg ∧ v11 = .int .i64 i ∧ v3 = .int .i64 (idxAt l i) ∧ Aside0 (-24 * (i : Int) ≤ idxAt l i ∧ idxAt l i ≤ 24 * i) ∧
    Aside0 (w'.heap[w.heap.size]? = some (.cells #[.int .i64 a, .int .i64 b, .int .i64 c, .int .i64 d] 108 (0, 0))) ∧
    Aside0 (w'.heap[w.heap.size + 1]? = some (.cells #[.int .i64 6, .int .i64 2, .int .i64 1, .int .i64 1] 2 (0, 0))) ∧ Aside0 (Below w.heap.size w w'))
  case atStart =>
    refine ⟨0, by omega, by omega, rfl, rfl, ⟨by simp [idxAt]⟩, ⟨?_⟩, ⟨?_⟩, ⟨?_⟩⟩
    · exact blk_alloc (new_at4 rfl _) _
    · exact new_at4 (by simp) _
    · exact below_alloc (below_alloc (ypy _ _) _) _
  case round =>
    obtain ⟨i, hi, hg, rfl, rfl, HI, B1, B9, HB⟩ := hrel
    rcases (show i = 4 ∨ i = 3 ∨ i = 2 ∨ i = 1 ∨ i = 0 by omega) with rfl | rfl | rfl | rfl | rfl
    · go_wp2
      go_ret
      exact ⟨rfl, HB.out⟩
    · have b9 : wr.cell? ⟨w.heap.size + 1, 3, none⟩ = some (.int .i64 1) := (blk_cell B9.out 3).trans rfl
      have b1 : wr.cell? ⟨w.heap.size, 3, none⟩ = some (.int .i64 (rd l (3 : Nat))) := (blk_cell B1.out 3).trans (by rw [← HLL.out]; rfl)
      have hx : sm (rd l (3 : Nat)) := by have := HS.out; exact this.2.2.2
      have HD := Aside0.mk (show ∀ j : Nat, lessAt l 3 (j + 1) = if rd l (j : Nat) < rd l (3 : Nat) then lessAt l 3 j - 1 else lessAt l 3 j from fun _ => rfl)
      have HD0 := Aside0.mk (show rd l (3 : Nat) = lessAt l 3 0 from rfl)
      generalize rd l (3 : Nat) = xi at b1 HD HD0 hx
      go_wp2_with fail
      go_loopg [6, 22] 3 (fun gg v6 v22 w' => ∃ j : Nat, j ≤ 3 ∧ 3 - j ≤ gg ∧ v22 = .int .i64 j ∧ v6 = .int .i64 (lessAt l 3 j) ∧ w' = wr)
      case atStart => exact ⟨0, by omega, by omega, rfl, by rw [HD0.out], rfl⟩
      case round =>
        obtain ⟨j, hj, hg2, rfl, rfl, rfl⟩ := hrel
        by_cases hlt : j < 3
        · have hltz : (j : Int) < 3 := by omega
          have bj : wr.cell? ⟨w.heap.size, j, none⟩ = some (.int .i64 (rd l (j : Nat))) := by
            have := arr_cell B1.out (j : Int) (by omega) (by omega)
            rw [HLL.out, Int.toNat_natCast] at this
            exact this
          have hbd := (HL.out.2.2.2 j)
          obtain ⟨hbd1, hbd2⟩ := hbd
          have HN := Aside0.mk (HD.out j)
          generalize lessAt l 3 j = lv at HN hbd1 hbd2 ⊢
          generalize rd l (j : Nat) = xj at bj HN
          by_cases hless : xj < xi
          · have hd1 : decide (xj < xi) = true := ygy hless
            go_wp2
            go_roundg (3 - (j + 1))
            case measure => omega
            case rel => exact ⟨j + 1, by omega, by omega, by go_num, by rw [HN.out, if_pos hless], rfl⟩
          · have hd1 : decide (xj < xi) = false := yhy hless
            go_wp2
            go_roundg (3 - (j + 1))
            case measure => omega
            case rel => exact ⟨j + 1, by omega, by omega, by go_num, by rw [HN.out, if_neg (by omega)], rfl⟩
        · have hltz : ¬ (j : Int) < 3 := by omega
          obtain rfl : j = 3 := by omega
          have hbd := (HL.out.2.2.2 3)
          obtain ⟨hbd1, hbd2⟩ := hbd
          obtain ⟨hi1, hi2⟩ := HI.out
          have HN := Aside0.mk (show idxAt l 4 = idxAt l 3 + lessAt l 3 3 * 1 from rfl)
          generalize lessAt l 3 3 = lv at HN hbd1 hbd2 ⊢
          generalize idxAt l 3 = iv at HN hi1 hi2 ⊢
          go_wp2
          go_roundg (4 - 4)
          case measure => omega
          case rel => exact ⟨4, by omega, by omega, by first | rfl | go_num, by rw [HN.out]; rw [Int.mul_one], ⟨by rw [HN.out]; omega⟩, B1, B9, HB⟩
    · have b9 : wr.cell? ⟨w.heap.size + 1, 2, none⟩ = some (.int .i64 1) := (blk_cell B9.out 2).trans rfl
      have b1 : wr.cell? ⟨w.heap.size, 2, none⟩ = some (.int .i64 (rd l (2 : Nat))) := (blk_cell B1.out 2).trans (by rw [← HLL.out]; rfl)
      have hx : sm (rd l (2 : Nat)) := by have := HS.out; exact this.2.2.1
      have HD := Aside0.mk (show ∀ j : Nat, lessAt l 2 (j + 1) = if rd l (j : Nat) < rd l (2 : Nat) then lessAt l 2 j - 1 else lessAt l 2 j from fun _ => rfl)
      have HD0 := Aside0.mk (show rd l (2 : Nat) = lessAt l 2 0 from rfl)
      generalize rd l (2 : Nat) = xi at b1 HD HD0 hx
      go_wp2_with fail
      go_loopg [6, 22] 2 (fun gg v6 v22 w' => ∃ j : Nat, j ≤ 2 ∧ 2 - j ≤ gg ∧ v22 = .int .i64 j ∧ v6 = .int .i64 (lessAt l 2 j) ∧ w' = wr)
      case atStart => exact ⟨0, by omega, by omega, rfl, by rw [HD0.out], rfl⟩
      case round =>
        obtain ⟨j, hj, hg2, rfl, rfl, rfl⟩ := hrel
        by_cases hlt : j < 2
        · have hltz : (j : Int) < 2 := by omega
          have bj : wr.cell? ⟨w.heap.size, j, none⟩ = some (.int .i64 (rd l (j : Nat))) := by
            have := arr_cell B1.out (j : Int) (by omega) (by omega)
            rw [HLL.out, Int.toNat_natCast] at this
            exact this
          have hbd := (HL.out.2.2.1 j)
          obtain ⟨hbd1, hbd2⟩ := hbd
          have HN := Aside0.mk (HD.out j)
          generalize lessAt l 2 j = lv at HN hbd1 hbd2 ⊢
          generalize rd l (j : Nat) = xj at bj HN
          by_cases hless : xj < xi
          · have hd1 : decide (xj < xi) = true := ygy hless
            go_wp2
            go_roundg (2 - (j + 1))
            case measure => omega
            case rel => exact ⟨j + 1, by omega, by omega, by go_num, by rw [HN.out, if_pos hless], rfl⟩
          · have hd1 : decide (xj < xi) = false := yhy hless
            go_wp2
            go_roundg (2 - (j + 1))
            case measure => omega
            case rel => exact ⟨j + 1, by omega, by omega, by go_num, by rw [HN.out, if_neg (by omega)], rfl⟩
        · have hltz : ¬ (j : Int) < 2 := by omega
          obtain rfl : j = 2 := by omega
          have hbd := (HL.out.2.2.1 2)
          obtain ⟨hbd1, hbd2⟩ := hbd
          obtain ⟨hi1, hi2⟩ := HI.out
          have HN := Aside0.mk (show idxAt l 3 = idxAt l 2 + lessAt l 2 2 * 1 from rfl)
          generalize lessAt l 2 2 = lv at HN hbd1 hbd2 ⊢
          generalize idxAt l 2 = iv at HN hi1 hi2 ⊢
          go_wp2
          go_roundg (4 - 3)
          case measure => omega
          case rel => exact ⟨3, by omega, by omega, by first | rfl | go_num, by rw [HN.out]; rw [Int.mul_one], ⟨by rw [HN.out]; omega⟩, B1, B9, HB⟩
    · have b9 : wr.cell? ⟨w.heap.size + 1, 1, none⟩ = some (.int .i64 2) := (blk_cell B9.out 1).trans rfl
      have b1 : wr.cell? ⟨w.heap.size, 1, none⟩ = some (.int .i64 (rd l (1 : Nat))) := (blk_cell B1.out 1).trans (by rw [← HLL.out]; rfl)
      have hx : sm (rd l (1 : Nat)) := by have := HS.out; exact this.2.1
      have HD := Aside0.mk (show ∀ j : Nat, lessAt l 1 (j + 1) = if rd l (j : Nat) < rd l (1 : Nat) then lessAt l 1 j - 1 else lessAt l 1 j from fun _ => rfl)
      have HD0 := Aside0.mk (show rd l (1 : Nat) = lessAt l 1 0 from rfl)
      generalize rd l (1 : Nat) = xi at b1 HD HD0 hx
      go_wp2_with fail
      go_loopg [6, 22] 1 (fun gg v6 v22 w' => ∃ j : Nat, j ≤ 1 ∧ 1 - j ≤ gg ∧ v22 = .int .i64 j ∧ v6 = .int .i64 (lessAt l 1 j) ∧ w' = wr)
      case atStart => exact ⟨0, by omega, by omega, rfl, by rw [HD0.out], rfl⟩
      case round =>
        obtain ⟨j, hj, hg2, rfl, rfl, rfl⟩ := hrel
        by_cases hlt : j < 1
        · have hltz : (j : Int) < 1 := by omega
          have bj : wr.cell? ⟨w.heap.size, j, none⟩ = some (.int .i64 (rd l (j : Nat))) := by
            have := arr_cell B1.out (j : Int) (by omega) (by omega)
            rw [HLL.out, Int.toNat_natCast] at this
            exact this
          have hbd := (HL.out.2.1 j)
          obtain ⟨hbd1, hbd2⟩ := hbd
          have HN := Aside0.mk (HD.out j)
          generalize lessAt l 1 j = lv at HN hbd1 hbd2 ⊢
          generalize rd l (j : Nat) = xj at bj HN
          by_cases hless : xj < xi
          · have hd1 : decide (xj < xi) = true := ygy hless
            go_wp2
            go_roundg (1 - (j + 1))
            case measure => omega
            case rel => exact ⟨j + 1, by omega, by omega, by go_num, by rw [HN.out, if_pos hless], rfl⟩
          · have hd1 : decide (xj < xi) = false := yhy hless
            go_wp2
            go_roundg (1 - (j + 1))
            case measure => omega
            case rel => exact ⟨j + 1, by omega, by omega, by go_num, by rw [HN.out, if_neg (by omega)], rfl⟩
        · have hltz : ¬ (j : Int) < 1 := by omega
          obtain rfl : j = 1 := by omega
          have hbd := (HL.out.2.1 1)
          obtain ⟨hbd1, hbd2⟩ := hbd
          obtain ⟨hi1, hi2⟩ := HI.out
          have HN := Aside0.mk (show idxAt l 2 = idxAt l 1 + lessAt l 1 1 * 2 from rfl)
          generalize lessAt l 1 1 = lv at HN hbd1 hbd2 ⊢
          generalize idxAt l 1 = iv at HN hi1 hi2 ⊢
          go_wp2
          go_roundg (4 - 2)
          case measure => omega
          case rel => exact ⟨2, by omega, by omega, by first | rfl | go_num, by rw [HN.out], ⟨by rw [HN.out]; omega⟩, B1, B9, HB⟩
    · have b9 : wr.cell? ⟨w.heap.size + 1, 0, none⟩ = some (.int .i64 6) := (blk_cell B9.out 0).trans rfl
      have b1 : wr.cell? ⟨w.heap.size, 0, none⟩ = some (.int .i64 (rd l (0 : Nat))) := (blk_cell B1.out 0).trans (by rw [← HLL.out]; rfl)
      have hx : sm (rd l (0 : Nat)) := by have := HS.out; exact this.1
      have HD := Aside0.mk (show ∀ j : Nat, lessAt l 0 (j + 1) = if rd l (j : Nat) < rd l (0 : Nat) then lessAt l 0 j - 1 else lessAt l 0 j from fun _ => rfl)
      have HD0 := Aside0.mk (show rd l (0 : Nat) = lessAt l 0 0 from rfl)
      generalize rd l (0 : Nat) = xi at b1 HD HD0 hx
      go_wp2_with fail
      go_loopg [6, 22] 0 (fun gg v6 v22 w' => ∃ j : Nat, j ≤ 0 ∧ 0 - j ≤ gg ∧ v22 = .int .i64 j ∧ v6 = .int .i64 (lessAt l 0 j) ∧ w' = wr)
      case atStart => exact ⟨0, by omega, by omega, rfl, by rw [HD0.out], rfl⟩
      case round =>
        obtain ⟨j, hj, hg2, rfl, rfl, rfl⟩ := hrel
        by_cases hlt : j < 0
        · have hltz : (j : Int) < 0 := by omega
          have bj : wr.cell? ⟨w.heap.size, j, none⟩ = some (.int .i64 (rd l (j : Nat))) := by
            have := arr_cell B1.out (j : Int) (by omega) (by omega)
            rw [HLL.out, Int.toNat_natCast] at this
            exact this
          have hbd := (HL.out.1 j)
          obtain ⟨hbd1, hbd2⟩ := hbd
          have HN := Aside0.mk (HD.out j)
          generalize lessAt l 0 j = lv at HN hbd1 hbd2 ⊢
          generalize rd l (j : Nat) = xj at bj HN
          by_cases hless : xj < xi
          · have hd1 : decide (xj < xi) = true := ygy hless
            go_wp2
            go_roundg (0 - (j + 1))
            case measure => omega
            case rel => exact ⟨j + 1, by omega, by omega, by go_num, by rw [HN.out, if_pos hless], rfl⟩
          · have hd1 : decide (xj < xi) = false := yhy hless
            go_wp2
            go_roundg (0 - (j + 1))
            case measure => omega
            case rel => exact ⟨j + 1, by omega, by omega, by go_num, by rw [HN.out, if_neg (by omega)], rfl⟩
        · have hltz : ¬ (j : Int) < 0 := by omega
          obtain rfl : j = 0 := by omega
          have hbd := (HL.out.1 0)
          obtain ⟨hbd1, hbd2⟩ := hbd
          obtain ⟨hi1, hi2⟩ := HI.out
          have HN := Aside0.mk (show idxAt l 1 = idxAt l 0 + lessAt l 0 0 * 6 from rfl)
          generalize lessAt l 0 0 = lv at HN hbd1 hbd2 ⊢
          generalize idxAt l 0 = iv at HN hi1 hi2 ⊢
          go_wp2
          go_roundg (4 - 1)
          case measure => omega
          case rel => exact ⟨1, by omega, by omega, by first | rfl | go_num, by rw [HN.out], ⟨by rw [HN.out]; omega⟩, B1, B9, HB⟩
/-! The images of a permutation are 0 to 3; indexes are 0 to 23. -/
theorem permAt_sm (p : Int) (h0 : 0 ≤ p) (h1 : p ≤ 23) : sm (permAt p 0) ∧ sm (permAt p 1) ∧ sm (permAt p 2) ∧ sm (permAt p 3) := by
  obtain ⟨n, rfl⟩ := Int.eq_ofNat_of_zero_le h0
  have hn : n < 24 := by omega
  have key : ∀ m : Fin 24, (0 ≤ permAt (m.val : Int) 0 ∧ permAt (m.val : Int) 0 ≤ 3) ∧ (0 ≤ permAt (m.val : Int) 1 ∧ permAt (m.val : Int) 1 ≤ 3) ∧ (0 ≤ permAt (m.val : Int) 2 ∧ permAt (m.val : Int) 2 ≤ 3) ∧ (0 ≤ permAt (m.val : Int) 3 ∧ permAt (m.val : Int) 3 ≤ 3) := by decide
  exact key ⟨n, hn⟩
/-- The inverse's images after i rounds. -/
def invList (l : List Int) : Nat → List Int
  | 0 => [0, 0, 0, 0]
  | i + 1 => (invList l i).set (rd l i).toNat i
theorem invList_sm (l : List Int) : ∀ i, i ≤ 4 → ∀ x ∈ invList l i, sm x
  | 0, _, x, hx => by
    have : x = 0 := by simp [invList] at hx; exact hx
    subst this; exact ⟨by omega, by omega⟩
  | i + 1, hi, x, hx => by
    rw [invList] at hx
    rcases List.mem_or_eq_of_mem_set hx with h | rfl
    · exact invList_sm l i (by omega) x h
    · exact ⟨by omega, by omega⟩
def invP (p : Int) : Int := idxL (invList (permL p) 4)
def compL (a b : List Int) : List Int := [rd b (rd a 0), rd b (rd a 1), rd b (rd a 2), rd b (rd a 3)]
def compSet (l m : List Int) : Nat → List Int
  | 0 => [0, 0, 0, 0]
  | i + 1 => (compSet l m i).set i (rd m (rd l i))
def compP (p q : Int) : Int := idxL (compL (permL p) (permL q))
theorem rd_four_sm {a b c d : Int} (ha : sm a) (hb : sm b) (hc : sm c) (hd : sm d) (f : Int) (h0 : 0 ≤ f) (h1 : f ≤ 3) : sm (rd [a, b, c, d] f) := by
  rcases (show f = 0 ∨ f = 1 ∨ f = 2 ∨ f = 3 by omega) with rfl | rfl | rfl | rfl <;> assumption
/-! compose: the index of the permutation that is p first and then q. -/
def impl_compose.f (a0 : Int) (a1 : Int) : Option Int := if 0 ≤ a0 ∧ a0 ≤ 23 ∧ 0 ≤ a1 ∧ a1 ≤ 23 then some (compP a0 a1) else none
set_option maxHeartbeats 8000000 in
set_option maxRecDepth 100000 in
theorem impl_compose.calls (a0 : Int) (a1 : Int) (r : Int) (w : World) (h : impl_compose.f a0 a1 = some r) :
    Calls Try.prog 136 #[.int .i64 a0, .int .i64 a1] w fun e w' => e = .returned (.int .i64 r) ∧ Below w.heap.size w w' := by
  unfold impl_compose.f at h
  by_cases hc : 0 ≤ a0 ∧ a0 ≤ 23 ∧ 0 ≤ a1 ∧ a1 ≤ 23
  case neg => rw [if_neg hc] at h; exact absurd h (by simp)
  rw [if_pos hc] at h
  have hr : compP a0 a1 = r := yey h
  clear h
  subst hr
  obtain ⟨h0, h1, h2, h3⟩ := hc
  have HS := Aside0.mk (permAt_sm a0 h0 h1)
  have HT := Aside0.mk (permAt_sm a1 h2 h3)
  have H0 := Aside0.mk h0
  have H1 := Aside0.mk h1
  have H2 := Aside0.mk h2
  have H3 := Aside0.mk h3
  clear h0 h1 h2 h3
  have HCP := Aside0.mk (show compP a0 a1 = idxL (compL [permAt a0 0, permAt a0 1, permAt a0 2, permAt a0 3] [permAt a1 0, permAt a1 1, permAt a1 2, permAt a1 3]) from rfl)
  go_enter Try.func136, Try.ntmps136
  go_wp2_with fail
  refine (impl_perm.calls _ _ H0.out H1.out).mono ?_
  rintro e w1 ⟨rfl, hb⟩
  have HB1 := Aside0.mk hb
  clear hb
  go_wp2_with fail
  refine (impl_perm.calls _ _ H2.out H3.out).mono ?_
  rintro e w2 ⟨rfl, hb⟩
  have HB2 := Aside0.mk (below_step HB1.out hb)
  clear hb HB1
  generalize permAt a0 0 = x0 at HS HCP ⊢
  generalize permAt a0 1 = x1 at HS HCP ⊢
  generalize permAt a0 2 = x2 at HS HCP ⊢
  generalize permAt a0 3 = x3 at HS HCP ⊢
  generalize permAt a1 0 = z0 at HT HCP ⊢
  generalize permAt a1 1 = z1 at HT HCP ⊢
  generalize permAt a1 2 = z2 at HT HCP ⊢
  generalize permAt a1 3 = z3 at HT HCP ⊢
  have ht := Try.underlying108
  go_wp2_with fail
  have hsz := HB2.out.size
  have B5 := Aside0.mk (blk_alloc (blk_alloc (new_at4 (W := w2) rfl (.cells #[.int .i64 x0, .int .i64 x1, .int .i64 x2, .int .i64 x3] 108)) (.cells #[.int .i64 z0, .int .i64 z1, .int .i64 z2, .int .i64 z3] 108)) (.cells #[.int .i64 0, .int .i64 0, .int .i64 0, .int .i64 0] 108))
  have B6 := Aside0.mk (blk_alloc (new_at4 (W := w2.alloc (.cells #[.int .i64 x0, .int .i64 x1, .int .i64 x2, .int .i64 x3] 108)) (n := w2.heap.size + 1) (by simp) (.cells #[.int .i64 z0, .int .i64 z1, .int .i64 z2, .int .i64 z3] 108)) (.cells #[.int .i64 0, .int .i64 0, .int .i64 0, .int .i64 0] 108))
  have B7 := Aside0.mk (new_at4 (W := (w2.alloc (.cells #[.int .i64 x0, .int .i64 x1, .int .i64 x2, .int .i64 x3] 108)).alloc (.cells #[.int .i64 z0, .int .i64 z1, .int .i64 z2, .int .i64 z3] 108)) (n := w2.heap.size + 1 + 1) (by simp) (.cells #[.int .i64 0, .int .i64 0, .int .i64 0, .int .i64 0] 108))
  have HB := Aside0.mk (below_alloc (below_alloc (below_alloc HB2.out (.cells #[.int .i64 x0, .int .i64 x1, .int .i64 x2, .int .i64 x3] 108)) (.cells #[.int .i64 z0, .int .i64 z1, .int .i64 z2, .int .i64 z3] 108)) (.cells #[.int .i64 0, .int .i64 0, .int .i64 0, .int .i64 0] 108))
  clear HB2 B5
  go_loopg [15] 4 (fun gg v15 w' => ∃ (i : Nat) (b0 b1 b2 b3 : Int), i ≤ 4 ∧ 4 - i ≤ gg ∧ v15 = .int .i64 i ∧ Aside0 ([b0, b1, b2, b3] = compSet [x0, x1, x2, x3] [z0, z1, z2, z3] i) ∧
    Aside0 (w'.heap[w2.heap.size + 1]? = some (.cells #[.int .i64 z0, .int .i64 z1, .int .i64 z2, .int .i64 z3] 108 (0, 0))) ∧
    Aside0 (w'.heap[w2.heap.size + 1 + 1]? = some (.cells #[.int .i64 b0, .int .i64 b1, .int .i64 b2, .int .i64 b3] 108 (0, 0))) ∧ Aside0 (Below w.heap.size w w'))
  case atStart => exact ⟨0, 0, 0, 0, 0, by omega, by omega, rfl, ⟨rfl⟩, B6, B7, HB⟩
  case round =>
    clear HB B6 B7
    obtain ⟨i, b0, b1, b2, b3, hi, hg, rfl, HI, B6, B7, HB⟩ := hrel
    rcases (show i = 4 ∨ i = 3 ∨ i = 2 ∨ i = 1 ∨ i = 0 by omega) with rfl | rfl | rfl | rfl | rfl
    · have c0 : wr.cell? ⟨w2.heap.size + 1 + 1, 0, none⟩ = some (.int .i64 b0) := (blk_cell B7.out 0).trans rfl
      have c1 : wr.cell? ⟨w2.heap.size + 1 + 1, 1, none⟩ = some (.int .i64 b1) := (blk_cell B7.out 1).trans rfl
      have c2 : wr.cell? ⟨w2.heap.size + 1 + 1, 2, none⟩ = some (.int .i64 b2) := (blk_cell B7.out 2).trans rfl
      have c3 : wr.cell? ⟨w2.heap.size + 1 + 1, 3, none⟩ = some (.int .i64 b3) := (blk_cell B7.out 3).trans rfl
      go_wp2_with fail
      have hI : [b0, b1, b2, b3] = compL [x0, x1, x2, x3] [z0, z1, z2, z3] := HI.out
      have hs0 := rd_four_sm HT.out.1 HT.out.2.1 HT.out.2.2.1 HT.out.2.2.2 x0 HS.out.1.1 HS.out.1.2
      have hs1 := rd_four_sm HT.out.1 HT.out.2.1 HT.out.2.2.1 HT.out.2.2.2 x1 HS.out.2.1.1 HS.out.2.1.2
      have hs2 := rd_four_sm HT.out.1 HT.out.2.1 HT.out.2.2.1 HT.out.2.2.2 x2 HS.out.2.2.1.1 HS.out.2.2.1.2
      have hs3 := rd_four_sm HT.out.1 HT.out.2.1 HT.out.2.2.1 HT.out.2.2.2 x3 HS.out.2.2.2.1 HS.out.2.2.2.2
      have hI2 : [b0, b1, b2, b3] = [rd [z0, z1, z2, z3] x0, rd [z0, z1, z2, z3] x1, rd [z0, z1, z2, z3] x2, rd [z0, z1, z2, z3] x3] := hI
      simp only [List.cons.injEq, and_true] at hI2
      rw [← hI2.1] at hs0
      rw [← hI2.2.1] at hs1
      rw [← hI2.2.2.1] at hs2
      rw [← hI2.2.2.2] at hs3
      refine (impl_indexOf.calls b0 b1 b2 b3 _ hs0 hs1 hs2 hs3).mono ?_
      rintro e w3 ⟨rfl, hb⟩
      have HB2 := Aside0.mk (below_step HB.out hb)
      have HF := Aside0.mk (show idxL [b0, b1, b2, b3] = compP a0 a1 by rw [HCP.out, ← hI])
      clear hb hI hI2 hs0 hs1 hs2 hs3
      go_wp2
      go_ret
      exact ⟨by rw [← HF.out]; rfl, HB2.out⟩
    · have ix := arr_index x0 x1 x2 x3 3 (by omega) (by omega)
      have hx : rd [x0, x1, x2, x3] 3 = x3 := rfl
      rw [hx] at ix
      have hs : sm x3 := HS.out.2.2.2
      obtain ⟨hs0, hs1⟩ := hs
      have c6 := arr_cell B6.out x3 hs0 hs1
      have b7 : wr.cell? ⟨w2.heap.size + 1 + 1, 3, none⟩ = some (.int .i64 b3) := (blk_cell B7.out 3).trans rfl
      have f7 := blk_frozen B7.out 3
      have HN : [b0, b1, b2, b3].set 3 (rd [z0, z1, z2, z3] x3) = compSet [x0, x1, x2, x3] [z0, z1, z2, z3] (3 + 1) := by rw [HI.out]; rfl
      generalize rd [z0, z1, z2, z3] x3 = yy at c6 HN
      have B7n := Aside0.mk (arr_put B7.out 3 yy (by omega) (by omega))
      have B6n := Aside0.mk (blk_far (p := ⟨w2.heap.size + 1 + 1, 3, none⟩) B6.out (by show w2.heap.size + 1 ≠ w2.heap.size + 1 + 1; omega) (.int .i64 yy))
      have HF := Aside0.mk HN
      clear hx HN
      go_wp2
      go_roundg (4 - (3 + 1))
      case measure => omega
      case rel => exact ⟨3 + 1, _, _, _, _, by omega, by omega, by first | rfl | go_num, HF, B6n, B7n, ⟨below_set HB.out (by omega)⟩⟩
    · have ix := arr_index x0 x1 x2 x3 2 (by omega) (by omega)
      have hx : rd [x0, x1, x2, x3] 2 = x2 := rfl
      rw [hx] at ix
      have hs : sm x2 := HS.out.2.2.1
      obtain ⟨hs0, hs1⟩ := hs
      have c6 := arr_cell B6.out x2 hs0 hs1
      have b7 : wr.cell? ⟨w2.heap.size + 1 + 1, 2, none⟩ = some (.int .i64 b2) := (blk_cell B7.out 2).trans rfl
      have f7 := blk_frozen B7.out 2
      have HN : [b0, b1, b2, b3].set 2 (rd [z0, z1, z2, z3] x2) = compSet [x0, x1, x2, x3] [z0, z1, z2, z3] (2 + 1) := by rw [HI.out]; rfl
      generalize rd [z0, z1, z2, z3] x2 = yy at c6 HN
      have B7n := Aside0.mk (arr_put B7.out 2 yy (by omega) (by omega))
      have B6n := Aside0.mk (blk_far (p := ⟨w2.heap.size + 1 + 1, 2, none⟩) B6.out (by show w2.heap.size + 1 ≠ w2.heap.size + 1 + 1; omega) (.int .i64 yy))
      have HF := Aside0.mk HN
      clear hx HN
      go_wp2
      go_roundg (4 - (2 + 1))
      case measure => omega
      case rel => exact ⟨2 + 1, _, _, _, _, by omega, by omega, by first | rfl | go_num, HF, B6n, B7n, ⟨below_set HB.out (by omega)⟩⟩
    · have ix := arr_index x0 x1 x2 x3 1 (by omega) (by omega)
      have hx : rd [x0, x1, x2, x3] 1 = x1 := rfl
      rw [hx] at ix
      have hs : sm x1 := HS.out.2.1
      obtain ⟨hs0, hs1⟩ := hs
      have c6 := arr_cell B6.out x1 hs0 hs1
      have b7 : wr.cell? ⟨w2.heap.size + 1 + 1, 1, none⟩ = some (.int .i64 b1) := (blk_cell B7.out 1).trans rfl
      have f7 := blk_frozen B7.out 1
      have HN : [b0, b1, b2, b3].set 1 (rd [z0, z1, z2, z3] x1) = compSet [x0, x1, x2, x3] [z0, z1, z2, z3] (1 + 1) := by rw [HI.out]; rfl
      generalize rd [z0, z1, z2, z3] x1 = yy at c6 HN
      have B7n := Aside0.mk (arr_put B7.out 1 yy (by omega) (by omega))
      have B6n := Aside0.mk (blk_far (p := ⟨w2.heap.size + 1 + 1, 1, none⟩) B6.out (by show w2.heap.size + 1 ≠ w2.heap.size + 1 + 1; omega) (.int .i64 yy))
      have HF := Aside0.mk HN
      clear hx HN
      go_wp2
      go_roundg (4 - (1 + 1))
      case measure => omega
      case rel => exact ⟨1 + 1, _, _, _, _, by omega, by omega, by first | rfl | go_num, HF, B6n, B7n, ⟨below_set HB.out (by omega)⟩⟩
    · have ix := arr_index x0 x1 x2 x3 0 (by omega) (by omega)
      have hx : rd [x0, x1, x2, x3] 0 = x0 := rfl
      rw [hx] at ix
      have hs : sm x0 := HS.out.1
      obtain ⟨hs0, hs1⟩ := hs
      have c6 := arr_cell B6.out x0 hs0 hs1
      have b7 : wr.cell? ⟨w2.heap.size + 1 + 1, 0, none⟩ = some (.int .i64 b0) := (blk_cell B7.out 0).trans rfl
      have f7 := blk_frozen B7.out 0
      have HN : [b0, b1, b2, b3].set 0 (rd [z0, z1, z2, z3] x0) = compSet [x0, x1, x2, x3] [z0, z1, z2, z3] (0 + 1) := by rw [HI.out]; rfl
      generalize rd [z0, z1, z2, z3] x0 = yy at c6 HN
      have B7n := Aside0.mk (arr_put B7.out 0 yy (by omega) (by omega))
      have B6n := Aside0.mk (blk_far (p := ⟨w2.heap.size + 1 + 1, 0, none⟩) B6.out (by show w2.heap.size + 1 ≠ w2.heap.size + 1 + 1; omega) (.int .i64 yy))
      have HF := Aside0.mk HN
      clear hx HN
      go_wp2
      go_roundg (4 - (0 + 1))
      case measure => omega
      case rel => exact ⟨0 + 1, _, _, _, _, by omega, by omega, by first | rfl | go_num, HF, B6n, B7n, ⟨below_set HB.out (by omega)⟩⟩
/-! invert: the index of the inverse permutation. -/
def impl_invert.f (a0 : Int) : Option Int := if 0 ≤ a0 ∧ a0 ≤ 23 then some (invP a0) else none
set_option maxHeartbeats 8000000 in
set_option maxRecDepth 100000 in
theorem impl_invert.calls (a0 : Int) (r : Int) (w : World) (h : impl_invert.f a0 = some r) :
    Calls Try.prog 137 #[.int .i64 a0] w fun e w' => e = .returned (.int .i64 r) ∧ Below w.heap.size w w' := by
  unfold impl_invert.f at h
  by_cases hc : 0 ≤ a0 ∧ a0 ≤ 23
  case neg => rw [if_neg hc] at h; exact absurd h (by simp)
  rw [if_pos hc] at h
  have hr : invP a0 = r := yey h
  clear h
  subst hr
  obtain ⟨h0, h1⟩ := hc
  have HS := Aside0.mk (permAt_sm a0 h0 h1)
  have H0 := Aside0.mk h0
  have H1 := Aside0.mk h1
  clear h0 h1
  go_enter Try.func137, Try.ntmps137
  go_wp2_with fail
  refine (impl_perm.calls _ _ H0.out H1.out).mono ?_
  rintro e w1 ⟨rfl, hb⟩
  have B3 := Aside0.mk (blk_below (new_at4 (W := w) rfl (.cells #[.int .i64 0, .int .i64 0, .int .i64 0, .int .i64 0] 108)) hb)
  have HB := Aside0.mk (below_step (below_alloc (ypy _ _) _) hb)
  clear hb
  have HPL := Aside0.mk (show permL a0 = [permAt a0 0, permAt a0 1, permAt a0 2, permAt a0 3] from rfl)
  have HIP := Aside0.mk (show invP a0 = idxL (invList (permL a0) 4) from rfl)
  generalize permL a0 = pl at HPL HIP
  generalize permAt a0 0 = x0 at HS HPL ⊢
  generalize permAt a0 1 = x1 at HS HPL ⊢
  generalize permAt a0 2 = x2 at HS HPL ⊢
  generalize permAt a0 3 = x3 at HS HPL ⊢
  go_wp2_with fail
  go_loopg [8] 4 (fun gg v8 w' => ∃ (i : Nat) (b0 b1 b2 b3 : Int), i ≤ 4 ∧ 4 - i ≤ gg ∧ v8 = .int .i64 i ∧ Aside0 ([b0, b1, b2, b3] = invList pl i) ∧
    Aside0 (w'.heap[w.heap.size]? = some (.cells #[.int .i64 b0, .int .i64 b1, .int .i64 b2, .int .i64 b3] 108 (0, 0))) ∧ Aside0 (Below w.heap.size w w'))
  case atStart => exact ⟨0, 0, 0, 0, 0, by omega, by omega, rfl, ⟨rfl⟩, B3, HB⟩
  case round =>
    clear HB B3
    obtain ⟨i, b0, b1, b2, b3, hi, hg, rfl, HI, B3, HB⟩ := hrel
    rcases (show i = 4 ∨ i = 3 ∨ i = 2 ∨ i = 1 ∨ i = 0 by omega) with rfl | rfl | rfl | rfl | rfl
    · have c0 : wr.cell? ⟨w.heap.size, 0, none⟩ = some (.int .i64 b0) := (blk_cell B3.out 0).trans rfl
      have c1 : wr.cell? ⟨w.heap.size, 1, none⟩ = some (.int .i64 b1) := (blk_cell B3.out 1).trans rfl
      have c2 : wr.cell? ⟨w.heap.size, 2, none⟩ = some (.int .i64 b2) := (blk_cell B3.out 2).trans rfl
      have c3 : wr.cell? ⟨w.heap.size, 3, none⟩ = some (.int .i64 b3) := (blk_cell B3.out 3).trans rfl
      have ht := Try.underlying108
      go_wp2_with fail
      have hsm := invList_sm pl 4 (by omega)
      rw [← HI.out] at hsm
      refine (impl_indexOf.calls b0 b1 b2 b3 _ (hsm _ (by simp)) (hsm _ (by simp)) (hsm _ (by simp)) (hsm _ (by simp))).mono ?_
      rintro e w2 ⟨rfl, hb⟩
      have HB2 := Aside0.mk (below_step HB.out hb)
      clear hb hsm
      go_wp2
      go_ret
      exact ⟨by rw [HIP.out, ← HI.out]; rfl, HB2.out⟩
    · have ix := arr_index x0 x1 x2 x3 3 (by omega) (by omega)
      have hx : rd [x0, x1, x2, x3] 3 = x3 := rfl
      rw [hx] at ix
      have hs : sm x3 := HS.out.2.2.2
      obtain ⟨hs0, hs1⟩ := hs
      have c3 := arr_cell B3.out x3 hs0 hs1
      have f3 := blk_frozen B3.out x3.toNat
      have B3n := Aside0.mk (arr_put B3.out x3 3 hs0 hs1)
      have HN : [b0, b1, b2, b3].set x3.toNat 3 = invList pl (3 + 1) := by rw [HI.out, HPL.out]; rfl
      have hlen : ([b0, b1, b2, b3].set x3.toNat (3 : Int)).length = 4 := by simp
      have HF := Aside0.mk ((four_eq hlen).symm.trans HN)
      clear hx HN hlen
      go_wp2
      go_roundg (4 - (3 + 1))
      case measure => omega
      case rel => exact ⟨3 + 1, _, _, _, _, by omega, by omega, by first | rfl | go_num, HF, B3n, ⟨below_set HB.out (yoy _)⟩⟩
    · have ix := arr_index x0 x1 x2 x3 2 (by omega) (by omega)
      have hx : rd [x0, x1, x2, x3] 2 = x2 := rfl
      rw [hx] at ix
      have hs : sm x2 := HS.out.2.2.1
      obtain ⟨hs0, hs1⟩ := hs
      have c3 := arr_cell B3.out x2 hs0 hs1
      have f3 := blk_frozen B3.out x2.toNat
      have B3n := Aside0.mk (arr_put B3.out x2 2 hs0 hs1)
      have HN : [b0, b1, b2, b3].set x2.toNat 2 = invList pl (2 + 1) := by rw [HI.out, HPL.out]; rfl
      have hlen : ([b0, b1, b2, b3].set x2.toNat (2 : Int)).length = 4 := by simp
      have HF := Aside0.mk ((four_eq hlen).symm.trans HN)
      clear hx HN hlen
      go_wp2
      go_roundg (4 - (2 + 1))
      case measure => omega
      case rel => exact ⟨2 + 1, _, _, _, _, by omega, by omega, by first | rfl | go_num, HF, B3n, ⟨below_set HB.out (yoy _)⟩⟩
    · have ix := arr_index x0 x1 x2 x3 1 (by omega) (by omega)
      have hx : rd [x0, x1, x2, x3] 1 = x1 := rfl
      rw [hx] at ix
      have hs : sm x1 := HS.out.2.1
      obtain ⟨hs0, hs1⟩ := hs
      have c3 := arr_cell B3.out x1 hs0 hs1
      have f3 := blk_frozen B3.out x1.toNat
      have B3n := Aside0.mk (arr_put B3.out x1 1 hs0 hs1)
      have HN : [b0, b1, b2, b3].set x1.toNat 1 = invList pl (1 + 1) := by rw [HI.out, HPL.out]; rfl
      have hlen : ([b0, b1, b2, b3].set x1.toNat (1 : Int)).length = 4 := by simp
      have HF := Aside0.mk ((four_eq hlen).symm.trans HN)
      clear hx HN hlen
      go_wp2
      go_roundg (4 - (1 + 1))
      case measure => omega
      case rel => exact ⟨1 + 1, _, _, _, _, by omega, by omega, by first | rfl | go_num, HF, B3n, ⟨below_set HB.out (yoy _)⟩⟩
    · have ix := arr_index x0 x1 x2 x3 0 (by omega) (by omega)
      have hx : rd [x0, x1, x2, x3] 0 = x0 := rfl
      rw [hx] at ix
      have hs : sm x0 := HS.out.1
      obtain ⟨hs0, hs1⟩ := hs
      have c3 := arr_cell B3.out x0 hs0 hs1
      have f3 := blk_frozen B3.out x0.toNat
      have B3n := Aside0.mk (arr_put B3.out x0 0 hs0 hs1)
      have HN : [b0, b1, b2, b3].set x0.toNat 0 = invList pl (0 + 1) := by rw [HI.out, HPL.out]; rfl
      have hlen : ([b0, b1, b2, b3].set x0.toNat (0 : Int)).length = 4 := by simp
      have HF := Aside0.mk ((four_eq hlen).symm.trans HN)
      clear hx HN hlen
      go_wp2
      go_roundg (4 - (0 + 1))
      case measure => omega
      case rel => exact ⟨0 + 1, _, _, _, _, by omega, by omega, by first | rfl | go_num, HF, B3n, ⟨below_set HB.out (yoy _)⟩⟩
/-! Rows of a relabelled triangulation. -/
/-- A row after one more face. -/
def relF (t : List (List SFace)) (ts ps : List Int) (a f : Int) (row : List SFace) : List SFace :=
  if (rd_Face (rd_LFace t a) f).f0 < 0 then row else row.set (rd (permL (rd ps a)) f).toNat ⟨rd ts (rd_Face (rd_LFace t a) f).f0, compP (compP (invP (rd ps a)) (rd_Face (rd_LFace t a) f).f1) (rd ps (rd_Face (rd_LFace t a) f).f0)⟩
def relK (t : List (List SFace)) (ts ps : List Int) (a : Int) : Nat → List SFace
  | 0 => List.replicate 4 ⟨-1, 0⟩
  | f + 1 => relF t ts ps a (f : Int) (relK t ts ps a f)
def relN (t : List (List SFace)) (ts ps : List Int) : Nat → List (List SFace) → List (List SFace)
  | 0, u => u
  | n + 1, u => (relN t ts ps n u).set (rd ts (n : Int)).toNat (relK t ts ps (n : Int) 4)
theorem relF_length (t : List (List SFace)) (ts ps : List Int) (a f : Int) (row : List SFace) : (relF t ts ps a f row).length = row.length := by
  unfold relF; split
  · rfl
  · rw [List.length_set]
theorem relK_length (t : List (List SFace)) (ts ps : List Int) (a : Int) : ∀ n, (relK t ts ps a n).length = 4
  | 0 => rfl
  | n + 1 => by rw [relK, relF_length, relK_length t ts ps a n]
theorem relN_length (t : List (List SFace)) (ts ps : List Int) (u : List (List SFace)) : ∀ n, (relN t ts ps n u).length = u.length
  | 0 => rfl
  | n + 1 => by rw [relN, List.length_set, relN_length t ts ps u n]
def okF (n : Nat) (x : SFace) : Bool := decide (x.f0 < 0) || (decide (x.f0 < (n : Int)) && decide (0 ≤ x.f1) && decide (x.f1 ≤ 23))
def okRel (t : List (List SFace)) (ts ps : List Int) : Bool :=
  decide (t.length ≤ 1000000) && t.all (fun r => decide (r.length = 4) && r.all (okF t.length)) && decide (ts.length = t.length) && ts.all (fun i => decide (0 ≤ i) && decide (i < (t.length : Int))) && decide (ps.length = t.length) && ps.all (fun p => decide (0 ≤ p) && decide (p ≤ 23))
theorem okRel_h {t : List (List SFace)} {ts ps : List Int} (h : okRel t ts ps = true) : t.length ≤ 1000000 ∧ (∀ r ∈ t, r.length = 4) ∧ (∀ r ∈ t, ∀ x ∈ r, ¬ x.f0 < 0 → 0 ≤ x.f0 ∧ x.f0 < (t.length : Int) ∧ 0 ≤ x.f1 ∧ x.f1 ≤ 23) ∧ ts.length = t.length ∧ (∀ i ∈ ts, 0 ≤ i ∧ i < (t.length : Int)) ∧ ps.length = t.length ∧ ∀ p ∈ ps, 0 ≤ p ∧ p ≤ 23 := by
  unfold okRel at h
  simp only [Bool.and_eq_true, decide_eq_true_eq, List.all_eq_true] at h
  obtain ⟨⟨⟨⟨⟨h1, h2⟩, h3⟩, h4⟩, h5⟩, h6⟩ := h
  refine ⟨h1, fun r hr => (h2 r hr).1, fun r hr x hx hb => ?_, h3, h4, h5, h6⟩
  have := (h2 r hr).2 x hx
  unfold okF at this
  rw [yhy hb, Bool.false_or, Bool.and_eq_true, Bool.and_eq_true, decide_eq_true_eq, decide_eq_true_eq, decide_eq_true_eq] at this
  exact ⟨by omega, this.1.1, this.1.2, this.2⟩
theorem compP_bd {p q : Int} (h0 : 0 ≤ p) (h1 : p ≤ 23) (h2 : 0 ≤ q) (h3 : q ≤ 23) : 0 ≤ compP p q ∧ compP p q ≤ 23 := by
  obtain ⟨m, rfl⟩ : ∃ m : Fin 24, p = (m.val : Int) := ⟨⟨p.toNat, by omega⟩, by simp; omega⟩
  obtain ⟨n, rfl⟩ : ∃ m : Fin 24, q = (m.val : Int) := ⟨⟨q.toNat, by omega⟩, by simp; omega⟩
  have key : ∀ m n : Fin 24, 0 ≤ compP (m.val : Int) (n.val : Int) ∧ compP (m.val : Int) (n.val : Int) ≤ 23 := by decide +kernel
  exact key m n
theorem invP_bd' {p : Int} (h0 : 0 ≤ p) (h1 : p ≤ 23) : 0 ≤ invP p ∧ invP p ≤ 23 := by
  obtain ⟨m, rfl⟩ : ∃ m : Fin 24, p = (m.val : Int) := ⟨⟨p.toNat, by omega⟩, by simp; omega⟩
  have key : ∀ m : Fin 24, 0 ≤ invP (m.val : Int) ∧ invP (m.val : Int) ≤ 23 := by decide +kernel
  exact key m
theorem rd_memR {l : List Int} {P : Int → Prop} (h : ∀ x ∈ l, P x) {i : Int} (h0 : 0 ≤ i) (h1 : i < (l.length : Int)) : P (rd l i) := by
  obtain ⟨m, rfl⟩ := Int.eq_ofNat_of_zero_le h0
  have hm : m < l.length := by omega
  have e : rd l (m : Int) = l[m] := by simp [rd, hm]
  rw [e]; exact h _ (List.getElem_mem hm)
/-! A row is stored into a row of rows of the call's own; a face into a row of its own. -/
theorem row_put {W : World} {b go n cap : Nat} {t : List (List SFace)} {v : Value} {row : List SFace} (h : Kd.S (Kd.slice 74 kFace) 75 W b (fun k => some k ≠ v.ownBlock) (.slice (some ⟨go, 0, none⟩) n cap) t) (hr : Kd.R kFace 74 W b (fun _ => True) v row) (i : Int) (h0 : 0 ≤ i) (h1 : i < n) :
    (∃ old, W.cell? ⟨go, i.toNat, none⟩ = some old) ∧ W.frozen? ⟨go, i.toNat, none⟩ = false ∧ Kd.S (Kd.slice 74 kFace) 75 (W.setCell ⟨go, i.toNat, none⟩ v) b (fun _ => True) (.slice (some ⟨go, 0, none⟩) n cap) (t.set i.toNat row) ∧ W.grownBy (W.setCell ⟨go, i.toNat, none⟩ v) (some go) := by
  have hS : Kd.S (Kd.slice 74 kFace) 75 W b (fun k_ => (fun _ => True) k_ ∧ ¬ (fun k_ => some k_ = v.ownBlock) k_) (.slice (some ⟨go, 0, none⟩) n cap) t := Kd.S_mono h (fun k hk => ⟨trivial, hk⟩)
  have hR : Kd.R kFace 74 W b (fun k => (fun _ => True) k ∧ k ≠ go) v row := Kd.R_mono (Kd.R_apart' hr (Kd.S_typed h) (by decide)) (fun k_ hk => ⟨trivial, fun e_ => hk.2 (by rw [e_]; rfl)⟩)
  obtain ⟨oki, ce, hcl, hM, hcc, hfr, hoki, hH⟩ := Kd.S_elem hS [] i h0 h1
  obtain ⟨ve, rfl, ge⟩ := hM
  have HP := Kd.S_seg hH h0 h1 (seg := [v]) (j := 0) (show 1 ≤ 1 from by decide) (x' := row) (Kd.M_row (Kd.R_mono (Kd.R_tight rfl hR) (fun _ h_ => Or.inr h_))) (fun _ hk => hk) (fun k_ hk_ => hR.1 k_ hk_.symm)
  have hx := hcc 0 _ rfl
  have hf := hfr 0
  simp only [show ((Kd.slice 74 kFace)).sz = 1 from rfl, Nat.mul_one, Nat.add_zero] at hx hf HP
  exact ⟨⟨_, hx⟩, hf, HP.1, HP.2⟩
theorem face_put {W : World} {b g n cap : Nat} {ok : Nat → Prop} {row : List SFace} (h : Kd.R kFace 74 W b ok (.slice (some ⟨g, 0, none⟩) n cap) row) (f : Int) (h0 : 0 ≤ f) (h1 : f < n) (x : SFace) :
    (∃ u, W.cell? ⟨g, f.toNat * 2, none⟩ = some (.int .i64 u)) ∧ (∃ u, W.cell? ⟨g, f.toNat * 2 + 1, none⟩ = some (.int .i64 u)) ∧ W.frozen? ⟨g, f.toNat * 2, none⟩ = false ∧ W.frozen? ⟨g, f.toNat * 2 + 1, none⟩ = false ∧
      Kd.R kFace 74 ((W.setCell ⟨g, f.toNat * 2, none⟩ (.int .i64 x.f0)).setCell ⟨g, f.toNat * 2 + 1, none⟩ (.int .i64 x.f1)) b ok (.slice (some ⟨g, 0, none⟩) n cap) (row.set f.toNat x) ∧
      W.grownBy ((W.setCell ⟨g, f.toNat * 2, none⟩ (.int .i64 x.f0)).setCell ⟨g, f.toNat * 2 + 1, none⟩ (.int .i64 x.f1)) (some g) := by
  obtain ⟨cf, hcl2, hN, hcc2, hfr⟩ := Kd.R_elem h zFace f h0 h1
  obtain rfl := kFace_openM hN
  have hP := Kd.R_seg h f h0 h1 (seg := [.int .i64 x.f0, .int .i64 x.f1]) (j := 0) hcl2 hcc2 (show 2 ≤ 2 from by decide) (x' := x) (kFace_mkM _ _ _ x) (fun _ hk => hk)
  exact ⟨⟨_, hcc2 0 _ rfl⟩, ⟨_, hcc2 1 _ rfl⟩, hfr 0, hfr 1, hP.1, hP.2⟩
/-! math/bits.Mul: the shelf's contract, laid here. -/
def lMul_ren : Go.Shelf.Ren := ⟨fun | 212 => 169 | 263 => 180 | 264 => 181 | n => n, fun | 46 => 138 | 51 => 146 | 53 => 149 | 146 => 147 | 148 => 150 | n => n, fun | n => n⟩
theorem lMul : Go.Proofs.Lays.n212 Try.prog lMul_ren := {
  mixed := by kernel_rfl
  f212 := Try.func169.trans (congrArg some (by kernel_rfl))
  f263 := Try.func180.trans (congrArg some (by kernel_rfl))
  f264 := Try.func181.trans (congrArg some (by kernel_rfl))
  t46 := Try.underlying138
  a46 := Try.isAgg138
  z46 := Try.sizeOf138
  v46 := Try.zeroValue138
  t51 := Try.underlying146
  a51 := Try.isAgg146
  z51 := Try.sizeOf146
  v51 := Try.zeroValue146
  t53 := Try.underlying149
  a53 := Try.isAgg149
  z53 := Try.sizeOf149
  v53 := Try.zeroValue149
  t146 := Try.underlying147
  a146 := Try.isAgg147
  z146 := Try.sizeOf147
  v146 := Try.zeroValue147
  t148 := Try.underlying150
  a148 := Try.isAgg150
  z148 := Try.sizeOf150
  v148 := Try.zeroValue150 }
theorem bits_Mul_one (m : Nat) (hm : m ≤ 1000000) (w : World) : Calls Try.prog 169 #[.int .u64 1, .int .u64 (m : Int)] w fun e w' => e = .returned (.tuple #[.int .u64 0, .int .u64 (m : Int)]) ∧ w' = w := by
  have h : Calls Try.prog 169 #[.int .u64 ((1 : Nat) : Int), .int .u64 (m : Int)] w fun e w' => e = .returned (.tuple #[.int .u64 ((1 * m / 18446744073709551616 : Nat) : Int), .int .u64 ((1 * m % 18446744073709551616 : Nat) : Int)]) ∧ w' = w := Go.Proofs.Any.bits_Mul lMul 1 m (by omega) (by omega) w
  rw [Nat.one_mul, Nat.div_eq_of_lt (by omega), Nat.mod_eq_of_lt (by omega)] at h
  exact h
/-! The builtin copy, at elements of any number of cells. -/
theorem run_copy_sz {P : Program} (w : World) (dT sT ty elem : TypeId) (g o dLen dCap : Nat) (a : Addr) (sLen sCap sz : Nat) (cur : Array Value) (t : TypeId) (cs : List Value)
    (hu : P.underlying dT = some (.slice elem)) (hs : (P.info? elem).map (·.size) = some sz)
    (hg : w.heap[g]? = some (.cells cur t (0, 0))) (hn : cs.length = Nat.min sLen dLen * sz)
    (hsrc : ∀ j v, cs[j]? = some v → w.cell? (a.add j) = some v) (hfit : o + cs.length ≤ cur.size) (h1 : ∀ v ∈ cs, v.oneCell' = true) :
    (Builtin.copy_ #[dT, sT] ty #[.slice (some ⟨g, o, none⟩) dLen dCap, .slice (some a) sLen sCap]).run P w =
      .ok (goInt (Nat.min sLen dLen)) (w.setRow g (cur.toList.take o ++ cs ++ cur.toList.drop (o + cs.length)).toArray) := by
  have hl := run_loadCells_list (P := P) w a cs hsrc
  have hst := run_storeCells_at P g o t cs 0 cur w hg (by simpa using hfit) h1
  cases hq : P.info? elem with
  | none => simp [hq] at hs
  | some i =>
    have hi : i.size = sz := by simpa [hq] using hs
    simp [Builtin.copy_, run_underlying hu, Builtin.lenOf, Builtin.firstCells, sizeOf, typeInfo, hq, hi, ← hn, hl, hst]
section
variable {P : Program} {ops : Array Oper} {rest : List Oper} {o : Oper} {a : Act} {Q : Exit → Act → World → Prop} {K : Act → World → Prop} {w w1 : World}
theorem run_copy_op (d s : Operand) (dT sT : TypeId) (ho : o.op = .call { callee := .builtin .copy, args := #[d, s], argTypes := #[dT, sT] }) (vd vs : Value) (hd : a.eval d = vd) (hs : a.eval s = vs) (n : Nat)
    (hrun : ∀ ty, (Builtin.copy_ #[dT, sT] ty #[vd, vs]).run P w = .ok (goInt n) w1) : (execOp a.eval o).run P w = .ok (.value (goInt n)) w1 := by
  simp [execOp, ho, resolve, invoke, builtin, hd, hs, hrun, Result.andThen]
theorem copy_event (hgd : o.guard = none) (d s : Operand) (dT sT : TypeId) (ho : o.op = .call { callee := .builtin .copy, args := #[d, s], argTypes := #[dT, sT] }) (vd vs : Value) (hd : a.eval d = vd) (hs : a.eval s = vs) (n : Nat)
    (hrun : ∀ ty, (Builtin.copy_ #[dT, sT] ty #[vd, vs]).run P w = .ok (goInt n) w1) (h : wpList P ops Q rest (a.put o.dst (goInt n)) w1) : wpList P ops Q (o :: rest) a w :=
  Kd.event_run hgd (run_copy_op d s dT sT ho vd vs hd hs n hrun) h
theorem copy_step (hw : Region.wanted o (yielded ops a.tmps) = true) (d s : Operand) (dT sT : TypeId) (ho : o.op = .call { callee := .builtin .copy, args := #[d, s], argTypes := #[dT, sT] }) (vd vs : Value) (hd : a.eval d = vd) (hs : a.eval s = vs) (n : Nat)
    (hrun : ∀ ty, (Builtin.copy_ #[dT, sT] ty #[vd, vs]).run P w = .ok (goInt n) w1) (h : K (a.put o.dst (goInt n)) w1) : if Region.wanted o (yielded ops a.tmps) = true then Oper.wp P o a w K Q else K (a.put o.dst undef) w :=
  event_step hw (run_copy_op d s dT sT ho vd vs hd hs n hrun) h
end
/-! slices.Repeat at []loop.example/g00870/impl.Face, handed a list of one element. -/
def slices_Repeat_Simpl_Face.f (l0 : List SFace) (a1 : Int) : Option (List SFace) := match l0 with
  | [e] => if 0 ≤ a1 ∧ a1 ≤ 1000000 then some (List.replicate a1.toNat e) else none
  | _ => none
/-- The cells of an element, and of n of them. -/
def cellsOf_impl_Face (e : SFace) : List Value := [.int .i64 e.f0, .int .i64 e.f1]
def cellsN_impl_Face (e : SFace) (n : Nat) : List Value := (List.replicate n (cellsOf_impl_Face e)).flatten
theorem cellsN_impl_Face_len (e : SFace) : ∀ n, (cellsN_impl_Face e n).length = n * 2
  | 0 => by simp [cellsN_impl_Face]
  | n + 1 => by
    have := cellsN_impl_Face_len e n
    unfold cellsN_impl_Face at this ⊢
    rw [List.replicate_succ, List.flatten_cons, List.length_append, this]
    simp [cellsOf_impl_Face]; omega
theorem cellsN_impl_Face_add (e : SFace) (a b : Nat) : cellsN_impl_Face e (a + b) = cellsN_impl_Face e a ++ cellsN_impl_Face e b := by
  unfold cellsN_impl_Face
  rw [← List.replicate_append_replicate, List.flatten_append]
theorem cellsN_impl_Face_one (e : SFace) (n : Nat) : ∀ v ∈ cellsN_impl_Face e n, v.oneCell' = true := by
  intro v hv
  unfold cellsN_impl_Face at hv
  obtain ⟨l, hl, hv⟩ := List.mem_flatten.1 hv
  obtain ⟨_, rfl⟩ := List.mem_replicate.1 hl
  simp only [cellsOf_impl_Face, List.mem_cons, List.not_mem_nil, or_false] at hv
  rcases hv with rfl | rfl <;> rfl
theorem cellsN_impl_Face_reps (w : World) (b : Nat) (ok : Nat → Prop) (e : SFace) : ∀ n, Reps (kFace.M w b ok) 2 (List.replicate n e) (cellsN_impl_Face e n)
  | 0 => Reps.none _ _
  | n + 1 => by
    have h := (cellsN_impl_Face_reps w b ok e n).snoc (p := e) (c := cellsOf_impl_Face e) (kFace_mkM _ _ _ e) rfl
    rw [cellsN_impl_Face_add, List.replicate_succ']
    have e1 : cellsN_impl_Face e 1 = cellsOf_impl_Face e := by simp [cellsN_impl_Face]
    rw [e1]; exact h
theorem cells_splice_impl_Face {cur : List Value} {e : SFace} {n k m : Nat} (hc : cur.take (n * 2) = cellsN_impl_Face e n) (hm : m * 2 ≤ cur.length) (hk : n + k ≤ m) :
    (cur.take (n * 2) ++ cellsN_impl_Face e k ++ cur.drop (n * 2 + (cellsN_impl_Face e k).length)).take ((n + k) * 2) = cellsN_impl_Face e (n + k) ∧
    (cur.take (n * 2) ++ cellsN_impl_Face e k ++ cur.drop (n * 2 + (cellsN_impl_Face e k).length)).length = cur.length := by
  have l1 := cellsN_impl_Face_len e n
  have l2 := cellsN_impl_Face_len e k
  rw [hc, ← cellsN_impl_Face_add]
  have l3 := cellsN_impl_Face_len e (n + k)
  refine ⟨?_, ?_⟩
  · rw [List.take_append_of_le_length (by omega), List.take_of_length_le (by omega)]
  · rw [List.length_append, yly, l3, l2]; omega
theorem cells_src_impl_Face {w : World} {g : Nat} {cur : List Value} {T : TypeId} {e : SFace} {n k : Nat} (hg : w.heap[g]? = some (.cells cur.toArray T (0, 0))) (hc : cur.take (n * 2) = cellsN_impl_Face e n) (hk : k ≤ n) :
    ∀ j v, (cellsN_impl_Face e k)[j]? = some v → w.cell? ((⟨g, 0, none⟩ : Addr).add j) = some v := by
  intro j v hj
  have hl : j < (cellsN_impl_Face e k).length := (List.getElem?_eq_some_iff.1 hj).1
  rw [cellsN_impl_Face_len] at hl
  rw [add_plain, blk_cell hg j]
  have h2 : (cellsN_impl_Face e n)[j]? = some v := by
    rw [show n = k + (n - k) by omega, cellsN_impl_Face_add, List.getElem?_append_left (by rw [cellsN_impl_Face_len]; exact hl)]
    exact hj
  rw [← hc, List.getElem?_take] at h2
  split at h2
  · simpa using h2
  · cases h2
set_option maxHeartbeats 8000000 in
set_option maxRecDepth 100000 in
theorem slices_Repeat_Simpl_Face.calls (A0 : Option Addr) (c0 : Nat) (l0 : List SFace) (a1 : Int) (r : List SFace) (w : World) (hr0 : Kd.C kFace w A0 l0.length l0) (hc0 : l0.length ≤ c0) (h : slices_Repeat_Simpl_Face.f l0 a1 = some r) :
    Calls Try.prog 129 #[.slice A0 l0.length c0, .int .i64 a1] w fun e w' => ∃ v0_ : Value, e = .returned (v0_) ∧ Kd.R kFace 74 w' w.heap.size (fun _ => True) v0_ r ∧ Below w.heap.size w w' := by
  match l0, h, hr0, hc0 with
  | [e], h, hr0, hc0 =>
  unfold slices_Repeat_Simpl_Face.f at h
  dsimp only at h
  show Calls Try.prog 129 #[.slice A0 1 c0, .int .i64 a1] w _
  by_cases hc : 0 ≤ a1 ∧ a1 ≤ 1000000
  case neg => rw [if_neg hc] at h; cases h
  rw [if_pos hc] at h
  obtain ⟨m, rfl⟩ := Int.eq_ofNat_of_zero_le hc.1
  rw [Int.toNat_natCast] at h
  have hr := yey h
  have hm9 : m ≤ 1000000 := by omega
  obtain ⟨ad, eA, hcl⟩ : ∃ ad, A0 = some ad ∧ ∀ j v, (cellsOf_impl_Face e)[j]? = some v → w.cell? (ad.add j) = some v := by
    have hx := at_Face hr0 0 (by decide) (by simp)
    obtain ⟨ad, e1, h1, h2⟩ := hx
    refine ⟨ad, e1, fun j v hj => ?_⟩
    have e0 : rd_Face [e] 0 = e := rfl
    rw [e0] at h1 h2
    match j, hj with
    | 0, hj => rw [← show _ = v from by simpa [cellsOf_impl_Face] using hj]; simpa using h1
    | 1, hj => rw [← show _ = v from by simpa [cellsOf_impl_Face] using hj]; simpa [Addr.add] using h2
    | j + 2, hj => simp [cellsOf_impl_Face] at hj
  subst eA
  clear h hc hr0 hc0
  have HR := Aside0.mk hr
  have HCL := Aside0.mk hcl
  have HMUL := Aside0.mk (bits_Mul_one m hm9)
  clear hr hcl
  have u1 : IntKind.u64.wrap 1 = 1 := by rw [IntKind.wrap_u64]; rfl
  have u2 : IntKind.u64.wrap (m : Int) = (m : Int) := by rw [IntKind.wrap_u64]; omega
  go_enter Try.func129, Try.ntmps129
  go_wp2_with (first
    | (go_at_call 169; refine (HMUL.out _).mono ?_; rintro e w' ⟨rfl, hw⟩; rw [hw]; clear HMUL hw)
    | ((with_reducible refine gate_dst (N := 30) rfl ?_); refine Kd.R_make kFace (w0 := w) w.heap.size 74 rfl (N := 30) rfl 75 _ _ rfl (m : Int) rfl rfl Try.underlying75 (.agg #[(.int .i64 0), (.int .i64 0)]) 16 info74 rfl (by decide) (by omega) zFace (ok := fun _ => True) (okp := fun _ => True) (kFace_mkM _ _ _ zFace) (fun _ hk => hk) trivial (by omega) (by omega) (ypy _ _) (yoy _) ?_; intro v1 w1 ho hb _ hnew; rw [Int.toNat_natCast] at ho; obtain ⟨gB, hbs, hge⟩ := hnew; obtain ⟨inner, hown⟩ := Kd.R_own ho; rw [List.length_replicate] at hown; rcases hown.2 with ⟨hv, _⟩ | ⟨g, cap, cur, rfl, hbase, hh, hle, hmax, hcs, _⟩; (case inl => (rw [hv] at hbs; simp [Value.ownBlock] at hbs)); have hszz : (kFace).sz = 2 := rfl; rw [hszz] at hcs; have HH := Aside0.mk (show w1.heap[g]? = some (.cells cur.toList.toArray 74 (0, 0)) by rw [Array.toArray_toList]; exact hh); have HCS := Aside0.mk (show m ≤ cap ∧ cur.toList.length = cap * 2 ∧ cap ≤ 9223372036854775807 from ⟨hle, by rw [Array.length_toList]; exact hcs, hmax⟩); have HB := Aside0.mk hb; have HG := Aside0.mk hbase; clear ho hb hbs hge hown hh hle hmax hcs hbase hszz; generalize cur.toList = cur at HH HCS; have HN0 := Aside0.mk (show Nat.min 1 m ≤ m ∧ Nat.min 1 m ≤ 1 ∧ (0 < m → Nat.min 1 m = 1) from ⟨Nat.min_le_right _ _, Nat.min_le_left _ _, fun h => Nat.min_eq_left h⟩); generalize hn0 : Nat.min 1 m = n0 at HN0; have HN1 := Aside0.mk hn0; clear hn0)
    | ((with_reducible refine gate_dst (N := 33) rfl ?_); refine copy_event rfl (.tmp 31) (.tmp 32) 75 75 rfl (.slice (some ⟨g, 0, none⟩) m cap) (.slice (some ad) 1 c0) rfl rfl n0 (w1 := w1.setRow g (cur.take 0 ++ cellsN_impl_Face e n0 ++ cur.drop (0 + (cellsN_impl_Face e n0).length)).toArray) ?hrun ?_; (case hrun => intro ty; have q := run_copy_sz (P := Try.prog) w1 75 75 ty 74 g 0 m cap ad 1 c0 2 cur.toArray 74 (cellsN_impl_Face e n0) Try.underlying75 (by kernel_rfl) HH.out (by rw [HN1.out, cellsN_impl_Face_len]) (by intro j v hj; have h1 := HN0.out.2.1; rcases (show n0 = 0 ∨ n0 = 1 by omega) with e0 | e0; (· rw [e0] at hj; simp [cellsN_impl_Face] at hj); (· rw [e0] at hj; exact pw_cell_below HB.out (HCL.out j v (by simpa [cellsN_impl_Face] using hj)))) (by rw [cellsN_impl_Face_len]; have := HN0.out.1; have := HCS.out; simp; omega) (cellsN_impl_Face_one e n0); rw [HN1.out] at q; exact q); have q1 := cells_splice_impl_Face (cur := cur) (e := e) (n := 0) (k := n0) (m := m) (by simp [cellsN_impl_Face]) (by have := HCS.out; omega) (by have := HN0.out.1; omega); rw [Nat.zero_mul, Nat.zero_add] at q1; have HH2 := Aside0.mk (setRow_heap w1 g cur.toArray (cur.take 0 ++ cellsN_impl_Face e n0 ++ cur.drop (0 + (cellsN_impl_Face e n0).length)).toArray 74 (0, 0) HH.out); have HB2 := Aside0.mk (below_setRow HB.out HG.out (cur.take 0 ++ cellsN_impl_Face e n0 ++ cur.drop (0 + (cellsN_impl_Face e n0).length)).toArray); have HT := Aside0.mk q1; clear q1 HH HB; generalize World.setRow w1 g _ = w2 at *; generalize (cur.take 0 ++ cellsN_impl_Face e n0 ++ cur.drop (0 + (cellsN_impl_Face e n0).length)) = cur2 at *))
  clear HCL HN1
  have hn1 := HN0.out.1
  have HT1 := Aside0.mk HT.out.1
  have HT2 := Aside0.mk (show cur2.length = cap * 2 by rw [HT.out.2]; exact HCS.out.2.1)
  have HPOS := Aside0.mk HN0.out.2.2
  clear HT HN0
  have hcap : m ≤ cap := HCS.out.1
  have hcap9 : cap ≤ 9223372036854775807 := HCS.out.2.2
  clear HCS
  go_loopg [8] m (fun gg v8 w' => ∃ (n : Nat) (cur : List Value), n ≤ m ∧ m - n ≤ gg ∧ Aside0 (0 < m → 0 < n) ∧ v8 = .int .i64 n ∧ Aside0 (w'.heap[g]? = some (.cells cur.toArray 74 (0, 0))) ∧ Aside0 (cur.take (n * 2) = cellsN_impl_Face e n) ∧ Aside0 (cur.length = cap * 2) ∧ Aside0 (Below w.heap.size w w'))
  case atStart => exact ⟨n0, cur2, hn1, by omega, ⟨fun h => by rw [HPOS.out h]; omega⟩, rfl, HH2, HT1, HT2, HB2⟩
  case round =>
    clear HH2 HT1 HT2 HB2 hn1 HPOS
    obtain ⟨n, cur, hnm, hgg, HP, rfl, HH, HT, HL, HB⟩ := hrel
    by_cases hlt : n < m
    · have hltz : (n : Int) < (m : Int) := by omega
      have hn0 : 0 < n := HP.out (by omega)
      have hne : cap ≠ n := by omega
      have hnc : n ≤ cap := by omega
      go_wp2
      refine start_ (n := 10) (S := fun _ => True) (ds := []) #[false, false, false, false, false, false, false, false, false, false] (by kernel_rfl) rfl rfl trivial (fun hHeld => ?_)
      refine pure_ (i := 0) (N := some 38) (v := ?_) (a' := ?_) #[true, false, false, false, false, false, false, false, false, false] rfl rfl (by kernel_rfl) (fun _ _ _ h => h) (Or.inl ⟨by rfl, ?_⟩) ?_ ?_
      rotate_left
      · intro w'
        go_simp
        with_reducible rfl
      rotate_left
      · simp only [Act.put, yay, yby, ycy, i64_w, i32_w]
        rfl
      refine pure_ (i := 1) (N := some 39) (v := ?_) (a' := ?_) #[true, true, false, false, false, false, false, false, false, false] rfl rfl (by kernel_rfl) (fun _ _ _ h => h) (Or.inl ⟨by rfl, ?_⟩) ?_ ?_
      rotate_left
      · intro w'
        go_simp
        with_reducible rfl
      rotate_left
      · simp only [Act.put, yay, yby, ycy, i64_w, i32_w]
        rfl
      refine pure_ (i := 2) (N := some 40) (v := ?_) (a' := ?_) #[true, true, true, false, false, false, false, false, false, false] rfl rfl (by kernel_rfl) (fun _ _ _ h => h) (Or.inl ⟨by rfl, ?_⟩) ?_ ?_
      rotate_left
      · intro w'
        go_simp
        with_reducible rfl
      rotate_left
      · simp only [Act.put, yay, yby, ycy, i64_w, i32_w]
        rfl
      refine pure_ (i := 3) (N := some 41) (v := ?_) (a' := ?_) #[true, true, true, true, false, false, false, false, false, false] rfl rfl (by kernel_rfl) (fun _ _ _ h => h) (Or.inl ⟨by rfl, ?_⟩) ?_ ?_
      rotate_left
      · intro w'
        go_simp
        with_reducible rfl
      rotate_left
      · simp only [Act.put, yay, yby, ycy, i64_w, i32_w]
        rfl
      refine pure_ (i := 4) (N := some 42) (v := ?_) (a' := ?_) #[true, true, true, true, true, false, false, false, false, false] rfl rfl (by kernel_rfl) (fun _ _ _ h => h) (Or.inl ⟨by rfl, ?_⟩) ?_ ?_
      rotate_left
      · intro w'
        go_simp
        with_reducible rfl
      rotate_left
      · simp only [Act.put, yay, yby, ycy, i64_w, i32_w]
        rfl
      refine pure_ (i := 5) (N := some 43) (v := ?_) (a' := ?_) #[true, true, true, true, true, true, false, false, false, false] rfl rfl (by kernel_rfl) (fun _ _ _ h => h) (Or.inl ⟨by rfl, ?_⟩) ?_ ?_
      rotate_left
      · intro w'
        go_simp
        with_reducible rfl
      rotate_left
      · simp only [Act.put, yay, yby, ycy, i64_w, i32_w]
        rfl
      refine pure_ (i := 6) (N := some 44) (v := ?_) (a' := ?_) #[true, true, true, true, true, true, true, false, false, false] rfl rfl (by kernel_rfl) (fun _ _ _ h => h) (Or.inl ⟨by rfl, ?_⟩) ?_ ?_
      rotate_left
      · intro w'
        go_simp
        with_reducible rfl
      rotate_left
      · simp only [Act.put, yay, yby, ycy, i64_w, i32_w]
        rfl
      obtain ⟨k, hk, hk1, hk2, hk3⟩ : ∃ k, Nat.min n (m - n) = k ∧ k ≤ n ∧ k ≤ m - n ∧ 0 < k := ⟨_, rfl, Nat.min_le_left _ _, Nat.min_le_right _ _, Nat.lt_min.2 ⟨hn0, by omega⟩⟩
      refine one_ (i := 7) (N := some 45) #[true, true, true, true, true, true, true, true, false, false] rfl rfl (by kernel_rfl) (by decide) (fun K hK => ?_)
      refine copy_step (by rfl) (.tmp 41) (.tmp 44) 75 75 rfl (.slice (some ⟨g, n * 2, none⟩) (m - n) (cap - n)) (.slice (some ⟨g, 0, none⟩) n cap) (by rfl) (by rfl) k (w1 := wr.drew.setRow g (cur.take (n * 2) ++ cellsN_impl_Face e k ++ cur.drop (n * 2 + (cellsN_impl_Face e k).length)).toArray) ?hrun ?_
      case hrun =>
        intro ty
        have q := run_copy_sz (P := Try.prog) wr.drew 75 75 ty 74 g (n * 2) (m - n) (cap - n) ⟨g, 0, none⟩ n cap 2 cur.toArray 74 (cellsN_impl_Face e k) Try.underlying75 (by kernel_rfl) HH.out (by rw [hk]; exact cellsN_impl_Face_len _ _) (cells_src_impl_Face (w := wr.drew) HH.out HT.out hk1) (by rw [cellsN_impl_Face_len, List.size_toArray, HL.out]; omega) (cellsN_impl_Face_one e _)
        rw [hk] at q; exact q
      refine hK.out _ _ trivial (fun hHeld => ?_)
      clear hK K
      refine norm_ (a' := ?_) ?_ ?_
      rotate_left
      · show Act.put _ (some 45) _ = _
        simp only [Act.put, yay, yby, ycy, i64_w, i32_w]
        rfl
      have q1 := cells_splice_impl_Face (cur := cur) (e := e) (n := n) (k := k) (m := m) HT.out (by rw [HL.out]; omega) (by omega)
      have HH3 := Aside0.mk (setRow_heap wr.drew g cur.toArray (cur.take (n * 2) ++ cellsN_impl_Face e k ++ cur.drop (n * 2 + (cellsN_impl_Face e k).length)).toArray 74 (0, 0) HH.out)
      have HB3 := Aside0.mk (below_setRow HB.out.drew HG.out (cur.take (n * 2) ++ cellsN_impl_Face e k ++ cur.drop (n * 2 + (cellsN_impl_Face e k).length)).toArray)
      have HT3 := Aside0.mk q1.1
      have HL3 := Aside0.mk (q1.2.trans HL.out)
      clear q1 HH HB HT HL hk
      generalize World.setRow wr.drew g _ = w3 at *
      generalize (cur.take (n * 2) ++ cellsN_impl_Face e k ++ cur.drop (n * 2 + (cellsN_impl_Face e k).length)) = cur3 at *
      refine pure_ (i := 8) (N := some 46) (v := ?_) (a' := ?_) #[true, true, true, true, true, true, true, true, true, false] rfl rfl (by kernel_rfl) (fun _ _ _ h => h) (Or.inl ⟨by rfl, ?_⟩) ?_ ?_
      rotate_left
      · intro w'
        go_simp
        with_reducible rfl
      rotate_left
      · simp only [Act.put, yay, yby, ycy, i64_w, i32_w]
        rfl
      refine pure_ (i := 9) (N := some 8) (v := ?_) (a' := ?_) #[true, true, true, true, true, true, true, true, true, true] rfl rfl (by kernel_rfl) (fun _ _ _ h => h) (Or.inl ⟨by rfl, ?_⟩) ?_ ?_
      rotate_left
      · intro w'
        go_simp
        with_reducible rfl
      rotate_left
      · simp only [Act.put, yay, yby, ycy, i64_w, i32_w]
        rfl
      refine done_ (by kernel_rfl) ?_
      go_wp2
      go_roundg (m - (n + k))
      case measure => omega
      case rel => exact ⟨n + k, cur3, by omega, by omega, ⟨fun _ => by omega⟩, by (have hw : wrap64 ((n : Int) + (k : Int)) = ((n + k : Nat) : Int) := by unfold wrap64; omega); rw [hw], HH3, HT3, HL3, HB3⟩
    · obtain rfl : n = m := by omega
      have hltz : ¬ (n : Int) < (n : Int) := by omega
      have hR : Kd.R kFace 74 wr w.heap.size (fun _ => True) (.slice (some ⟨g, 0, none⟩) n cap) r := by
        rw [← HR.out]
        have hown : wr.ownsRow w.heap.size 74 (kFace).sz (.slice (some ⟨g, 0, none⟩) n cap) (List.replicate n e).length (cellsN_impl_Face e n) := by
          rw [List.length_replicate]
          exact ⟨by rw [cellsN_impl_Face_len]; rfl, .inr ⟨g, cap, cur.toArray, rfl, HG.out, HH.out, hcap, hcap9, by rw [List.size_toArray]; exact HL.out, by show cur.toArray.toList.take (n * 2) = _; exact HT.out⟩⟩
        exact ⟨fun _ _ => trivial, _, hown, cellsN_impl_Face_reps _ _ _ e n⟩
      have HRR := Aside0.mk hR
      clear hR
      go_wp2
      go_ret
      exact ⟨_, rfl, HRR.out, HB.out⟩
  | [], h, _, _ => simp [slices_Repeat_Simpl_Face.f] at h
  | _ :: _ :: _, h, _, _ => simp [slices_Repeat_Simpl_Face.f] at h
/-! relabeled: a triangulation with other numbers. -/
def impl_Triangulation_relabeled.f (t : List (List SFace)) (ts ps : List Int) : Option (List (List SFace)) := if okRel t ts ps = true then some (relN t ts ps t.length (List.replicate t.length [])) else none
set_option maxHeartbeats 8000000 in
set_option maxRecDepth 100000 in
theorem impl_Triangulation_relabeled.calls (A0_0 : Option Addr) (c0_0 : Nat) (l0_0 : List (List SFace)) (A1 : Option Addr) (c1 : Nat) (l1 : List Int) (A2 : Option Addr) (c2 : Nat) (l2 : List Int) (r : List (List SFace)) (w : World) (hr0_0 : Kd.C (Kd.slice 74 kFace) w A0_0 l0_0.length l0_0) (hc0_0 : l0_0.length ≤ c0_0) (hr1 : Kd.C (Kd.int .i64) w A1 l1.length l1) (hc1 : l1.length ≤ c1) (hr2 : Kd.C (Kd.int .i64) w A2 l2.length l2) (hc2 : l2.length ≤ c2) (h : impl_Triangulation_relabeled.f l0_0 l1 l2 = some r) :
 Calls Try.prog 87 #[.agg #[.slice A0_0 l0_0.length c0_0], .slice A1 l1.length c1, .slice A2 l2.length c2] w fun e w' => ∃ v0_ : Value, e = .returned (.agg #[v0_]) ∧ Kd.S (Kd.slice 74 kFace) 75 w' w.heap.size (fun _ => True) v0_ r ∧ Below w.heap.size w w' := by
 unfold impl_Triangulation_relabeled.f at h
 by_cases hok : okRel l0_0 l1 l2 = true
 case neg => rw [if_neg hok] at h; cases h
 rw [if_pos hok] at h
 have hr := yey h
 clear h
 obtain ⟨hbig, h4, hf, ht, hts, hp, hps⟩ := okRel_h hok
 clear hok
 have HR := Aside0.mk hr0_0
 have HT := Aside0.mk hr1
 have HP := Aside0.mk hr2
 have H4 := Aside0.mk h4
 have HF := Aside0.mk hf
 have HTS := Aside0.mk hts
 have HPS := Aside0.mk hps
 have HRR := Aside0.mk hr
 have L1 := Aside0.mk ht
 have L2 := Aside0.mk hp
 clear hr0_0 hr1 hr2 h4 hf hts hps hr hc0_0 hc1 hc2 ht hp
 have B3 := Aside0.mk (blk_alloc (new_at4 (W := w) rfl (.cells #[.slice A0_0 l0_0.length c0_0] 28)) (.cells #[.slice none 0 0] 28))
 have B6 := Aside0.mk (new_at4 (W := w.alloc (.cells #[.slice A0_0 l0_0.length c0_0] 28)) (n := w.heap.size + 1) (by simp) (.cells #[.slice none 0 0] 28))
 have HB := Aside0.mk (below_alloc (below_alloc (ypy w.heap.size w) (.cells #[.slice A0_0 l0_0.length c0_0] 28)) (.cells #[.slice none 0 0] 28))
 go_enter Try.func87, Try.ntmps87
 go_wp2_with (first | ((with_reducible refine gate_dst (N := 18) rfl ?_); refine Kd.S_make (Kd.slice 74 kFace) (w0 := w) w.heap.size 75 rfl (N := 18) rfl 26 _ _ rfl (l0_0.length : Int) rfl rfl Try.underlying26 (.slice none 0 0) 24 info75 rfl (by decide) (by omega) [] (ok := fun _ => True) (okp := fun _ => True) ⟨_, rfl, Kd.R_nil _ _ _ _ _⟩ (fun _ hk => hk) trivial (by omega) (by omega) HB.out (below_size HB.out) ?_; intro v1 w3 ho hb hg hnew; have HO := Aside0.mk ho; have B32 := Aside0.mk (blk_grown B3.out hg (by simp)); have B62 := Aside0.mk (blk_grown B6.out hg (by simp)); have HB2 := Aside0.mk hb; clear ho hb hg hnew B3 B6 HB; have B3 := B32; have B6 := B62; have HB := HB2; clear B32 B62 HB2; obtain ⟨A7, c7, ev⟩ := Kd.S_slice HO.out; rw [List.length_replicate, Int.toNat_natCast] at ev; subst ev; rw [Int.toNat_natCast] at HO; have B7 := Aside0.mk (new_at4 (W := w3) rfl (.cells #[.slice A7 l0_0.length c7] 28)); have HO2 := Aside0.mk (Kd.S_alloc HO.out (.cells #[.slice A7 l0_0.length c7] 28)); have B32 := Aside0.mk (blk_alloc B3.out (.cells #[.slice A7 l0_0.length c7] 28)); have B62 := Aside0.mk (blk_alloc B6.out (.cells #[.slice A7 l0_0.length c7] 28)); have HB2 := Aside0.mk (below_alloc HB.out (.cells #[.slice A7 l0_0.length c7] 28)); have G7 := Aside0.mk (show w.heap.size + 1 < w3.heap.size from blk_lt B6.out); clear HO B3 B6 HB; have HO := HO2; have B3 := B32; have B6 := B62; have HB := HB2; clear HO2 B32 B62 HB2; have hx3 : (w3.alloc (.cells #[.slice A7 l0_0.length c7] 28)).cell? ⟨w.heap.size, 0, none⟩ = some (.slice A0_0 l0_0.length c0_0) := (blk_cell B3.out 0).trans rfl))
 clear hx3
 have HU := Aside0.mk (List.length_replicate (n := l0_0.length) (a := ([] : List SFace)))
 generalize List.replicate l0_0.length ([] : List SFace) = u0 at HO HRR HU
 generalize hg7 : w3.heap.size = g7 at *
 have GG := G7.out
 go_loopg [23] l0_0.length (fun gg v23 w' => ∃ i : Nat, i ≤ l0_0.length ∧ l0_0.length - i ≤ gg ∧ v23 = .int .i64 i ∧ Aside0 (Kd.S (Kd.slice 74 kFace) 75 w' w.heap.size (fun _ => True) (.slice A7 l0_0.length c7) (relN l0_0 l1 l2 i u0)) ∧ Aside0 (w'.heap[w.heap.size]? = some (.cells #[.slice A0_0 l0_0.length c0_0] 28 (0, 0))) ∧ Aside0 (w'.heap[w.heap.size + 1]? = some (.cells #[.slice none 0 0] 28 (0, 0))) ∧ Aside0 (w'.heap[g7]? = some (.cells #[.slice A7 l0_0.length c7] 28 (0, 0))) ∧ Aside0 (Below w.heap.size w w'))
 case atStart => exact ⟨0, Nat.zero_le _, by omega, rfl, HO, B3, B6, B7, HB⟩
 case round =>
  clear HO B3 B6 B7 HB hg7
  obtain ⟨i, hi, hg, rfl, HO, B3, B6, B7, HB⟩ := hrel
  by_cases hlt : i < l0_0.length
  rotate_left
  next =>
   obtain rfl : i = l0_0.length := by omega
   have hcz7 : wr.cell? ⟨g7, 0, none⟩ = some (.slice A7 l0_0.length c7) := (blk_cell B7.out 0).trans rfl
   have hcz6 : wr.cell? ⟨w.heap.size + 1, 0, none⟩ = some (.slice none 0 0) := (blk_cell B6.out 0).trans rfl
   have hfz6 := blk_frozen B6.out 0
   go_wp2
   refine bodyPost_ret (results_cell_row rfl _ _ (w.heap.size + 1) 28 #[.slice A7 l0_0.length c7] (0, 0) _ rfl (blk_put (cs := #[.slice none 0 0]) B6.out 0 _ rfl) Try.underlying28 rfl (by kernel_rfl)) rfl ?_
   refine ⟨_, rfl, ?_, below_set HB.out (by omega)⟩
   rw [← HRR.out]
   exact Kd.S_set HO.out B6.out (by decide) 0 _
  have hltz : (i : Int) < (l0_0.length : Int) := by omega
  have hl1z : (i : Int) < (l1.length : Int) := by have := L1.out; omega
  have hl2z : (i : Int) < (l2.length : Int) := by have := L2.out; omega
  obtain ⟨ay, A3, c3, e4, hy, hl3, hi3⟩ := at_LFace HR.out (i : Int) (by omega) hltz
  subst e4
  replace hy := (HB.out.cell (yny w _ hy)).trans hy
  rw [Int.toNat_natCast] at hy
  have ex : rd_LFace l0_0 (i : Int) = l0_0[i] := by simp [rd_LFace, hlt]
  have h4 := H4.out l0_0[i] (List.getElem_mem hlt)
  have HFR := Aside0.mk (HF.out l0_0[i] (List.getElem_mem hlt))
  have HPB := Aside0.mk (rd_memR HPS.out (i := (i : Int)) (by omega) hl2z)
  have HTB := Aside0.mk (rd_memR HTS.out (i := (i : Int)) (by omega) hl1z)
  rw [← ex] at h4 HFR
  obtain ⟨aps, eps, hps0⟩ := Kd.at_int HP.out (i : Int) (by omega) hl2z
  obtain ⟨ats, ets, hts0⟩ := Kd.at_int HT.out (i : Int) (by omega) hl1z
  subst eps
  subst ets
  rw [Int.toNat_natCast] at hps0 hts0
  have HY := Aside0.mk hi3
  have hp0 := (HB.out.cell (yny w _ hps0)).trans hps0
  have ht0 := (HB.out.cell (yny w _ hts0)).trans hts0
  rw [h4] at hy
  clear hl3 hi3 ex
  have HPS0 := Aside0.mk hps0
  have HTS0 := Aside0.mk hts0
  have H4R := Aside0.mk h4
  clear hps0 hts0 h4
  have HRK := Aside0.mk (show relN l0_0 l1 l2 (i + 1) u0 = (relN l0_0 l1 l2 i u0).set (rd l1 (i : Int)).toNat (relK l0_0 l1 l2 (i : Int) 4) from rfl)
  generalize rd l1 (i : Int) = tsi at *
  generalize hpsi : rd l2 (i : Int) = ps at *
  have HPSI := Aside0.mk hpsi
  clear hpsi
  go_wp2_with fail
  refine (impl_boundary.calls (-1) 0 _ rfl).mono ?_
  rintro e w4 ⟨rfl, hb⟩
  replace hp0 := (hb.cell (yny _ _ hp0)).trans hp0
  replace ht0 := (hb.cell (yny _ _ ht0)).trans ht0
  have HO2 := Aside0.mk (Kd.S_below HO.out hb)
  have B32 := Aside0.mk (blk_below B3.out hb)
  have B62 := Aside0.mk (blk_below B6.out hb)
  have B72 := Aside0.mk (blk_below B7.out hb)
  have HB2 := Aside0.mk (below_step HB.out hb)
  clear HO B3 B6 B7 HB
  have HO := HO2
  have B3 := B32
  have B6 := B62
  have B7 := B72
  have HB := HB2
  clear HO2 B32 B62 B72 HB2
  clear hb
  go_wp2_with (first | ((with_reducible refine gate_dst (N := 29) rfl ?_); refine Kd.R_lit kFace _ 74 ?hg (N := 29) ?hd (xs := [(⟨-1, 0⟩ : SFace)]) (inner := [.int .i64 (-1), .int .i64 0]) (ok := fun _ => True) (okp := fun _ => True) ?hr ?hp (fun _ hk => hk) trivial (ypy _ _) (yoy _) (by simp) ?_; (case hd => rfl); (case hg => rfl); (case hr => first | (go_simp; done) | (go_simp; rfl)); (case hp => exact (Reps.c2 (show Kd.M kFace _ _ _ (⟨-1, 0⟩ : SFace) [.int .i64 (-1), .int .i64 0] from (kFace_mkM _ _ _ (⟨-1, 0⟩ : SFace) )) (Reps.none _ _))); intro v29 w5 ho29 hb hg_ hnew_; obtain ⟨Aq, cq, ev⟩ := Kd.R_slice ho29; subst ev; have HO29 := Aside0.mk ho29; clear ho29 hg_ hnew_; replace hp0 := (hb.cell (yny _ _ hp0)).trans hp0; replace ht0 := (hb.cell (yny _ _ ht0)).trans ht0; have HO2 := Aside0.mk (Kd.S_below HO.out hb); have B32 := Aside0.mk (blk_below B3.out hb); have B62 := Aside0.mk (blk_below B6.out hb); have B72 := Aside0.mk (blk_below B7.out hb); have HB2 := Aside0.mk (below_step HB.out hb); clear HO B3 B6 B7 HB; have HO := HO2; have B3 := B32; have B6 := B62; have B7 := B72; have HB := HB2; clear HO2 B32 B62 B72 HB2; clear hb) | (go_at_call 129; (refine (slices_Repeat_Simpl_Face.calls Aq cq [(⟨-1, 0⟩ : SFace)] 4 (List.replicate 4 (⟨-1, 0⟩ : SFace)) _ (Kd.R_reads' HO29.out).2.2 (Kd.R_reads' HO29.out).2.1 rfl).mono ?_); rintro e w6 ⟨v10, rfl, ho10, hb⟩; have HM := Aside0.mk (Kd.R_lower ho10 (below_size HB.out)); have HM9 := Aside0.mk (show ∀ k, v10.ownBlock = some k → w5.heap.size ≤ k from Kd.R_base ho10); replace hp0 := (hb.cell (yny _ _ hp0)).trans hp0; replace ht0 := (hb.cell (yny _ _ ht0)).trans ht0; have HO2 := Aside0.mk (Kd.S_mono (ok' := fun k => some k ≠ v10.ownBlock) (Kd.S_elder' HO.out (Kd.R_base ho10) hb) (fun k hk => hk.2)); have B32 := Aside0.mk (blk_below B3.out hb); have B62 := Aside0.mk (blk_below B6.out hb); have B72 := Aside0.mk (blk_below B7.out hb); have HB2 := Aside0.mk (below_step HB.out hb); clear HO B3 B6 B7 HB; have HO := HO2; have B3 := B32; have B6 := B62; have B7 := B72; have HB := HB2; clear HO2 B32 B62 B72 HB2; clear hb ho10 HO29) | (go_at_call 127; (refine (impl_perm.calls ps _ HPB.out.1 HPB.out.2).mono ?_); rintro e w7 ⟨rfl, hb⟩; replace hp0 := (hb.cell (yny _ _ hp0)).trans hp0; replace ht0 := (hb.cell (yny _ _ ht0)).trans ht0; have HO2 := Aside0.mk (Kd.S_below HO.out hb); have HM2 := Aside0.mk (Kd.R_below HM.out hb); have B32 := Aside0.mk (blk_below B3.out hb); have B62 := Aside0.mk (blk_below B6.out hb); have B72 := Aside0.mk (blk_below B7.out hb); have HB2 := Aside0.mk (below_step HB.out hb); clear HO HM B3 B6 B7 HB; have HO := HO2; have HM := HM2; have B3 := B32; have B6 := B62; have B7 := B72; have HB := HB2; clear HO2 HM2 B32 B62 B72 HB2; clear hb))
  obtain ⟨gm, cm, ev, hgm, hgl, cells, hcl⟩ := Kd.R_form HM.out (by decide)
  replace ev : v10 = .slice (some ⟨gm, 0, none⟩) 4 cm := ev
  subst ev
  have GM := Aside0.mk hgm
  clear hgm hgl hcl cells HM9
  have BA := Aside0.mk (new_at4 (W := w7) rfl (.cells #[.int .i64 (permAt ps 0), .int .i64 (permAt ps 1), .int .i64 (permAt ps 2), .int .i64 (permAt ps 3)] 108))
  have HO2 := Aside0.mk (Kd.S_alloc HO.out (.cells #[.int .i64 (permAt ps 0), .int .i64 (permAt ps 1), .int .i64 (permAt ps 2), .int .i64 (permAt ps 3)] 108))
  have HM2 := Aside0.mk (Kd.R_alloc HM.out (.cells #[.int .i64 (permAt ps 0), .int .i64 (permAt ps 1), .int .i64 (permAt ps 2), .int .i64 (permAt ps 3)] 108))
  have B32 := Aside0.mk (blk_alloc B3.out (.cells #[.int .i64 (permAt ps 0), .int .i64 (permAt ps 1), .int .i64 (permAt ps 2), .int .i64 (permAt ps 3)] 108))
  have B62 := Aside0.mk (blk_alloc B6.out (.cells #[.int .i64 (permAt ps 0), .int .i64 (permAt ps 1), .int .i64 (permAt ps 2), .int .i64 (permAt ps 3)] 108))
  have B72 := Aside0.mk (blk_alloc B7.out (.cells #[.int .i64 (permAt ps 0), .int .i64 (permAt ps 1), .int .i64 (permAt ps 2), .int .i64 (permAt ps 3)] 108))
  have HB2 := Aside0.mk (below_alloc HB.out (.cells #[.int .i64 (permAt ps 0), .int .i64 (permAt ps 1), .int .i64 (permAt ps 2), .int .i64 (permAt ps 3)] 108))
  clear HO HM B3 B6 B7 HB
  have HO := HO2
  have HM := HM2
  have B3 := B32
  have B6 := B62
  have B7 := B72
  have HB := HB2
  clear HO2 HM2 B32 B62 B72 HB2
  generalize hw8 : w7.alloc (.cells #[.int .i64 (permAt ps 0), .int .i64 (permAt ps 1), .int .i64 (permAt ps 2), .int .i64 (permAt ps 3)] 108) = w8 at HO HM B3 B6 B7 BA HB ⊢
  generalize w7.heap.size = ga at BA ⊢
  clear hw8 hp0 ht0 hy
  go_loopg [38] 4 (fun gg v38 w' => ∃ f : Nat, f ≤ 4 ∧ 4 - f ≤ gg ∧ v38 = .int .i64 f ∧ Aside0 (Kd.R kFace 74 w' w.heap.size (fun _ => True) (.slice (some ⟨gm, 0, none⟩) 4 cm) (relK l0_0 l1 l2 (i : Int) f)) ∧ Aside0 (Kd.S (Kd.slice 74 kFace) 75 w' w.heap.size (fun k => some k ≠ (Value.slice (some ⟨gm, 0, none⟩) 4 cm).ownBlock) (.slice A7 l0_0.length c7) (relN l0_0 l1 l2 i u0)) ∧ Aside0 (w'.heap[w.heap.size]? = some (.cells #[.slice (some ay) l0_0.length c0_0] 28 (0, 0))) ∧ Aside0 (w'.heap[w.heap.size + 1]? = some (.cells #[.slice none 0 0] 28 (0, 0))) ∧ Aside0 (w'.heap[g7]? = some (.cells #[.slice A7 l0_0.length c7] 28 (0, 0))) ∧ Aside0 (w'.heap[ga]? = some (.cells #[.int .i64 (permAt ps 0), .int .i64 (permAt ps 1), .int .i64 (permAt ps 2), .int .i64 (permAt ps 3)] 108 (0, 0))) ∧ Aside0 (Below w.heap.size w w'))
  case atStart => exact ⟨0, by omega, by omega, rfl, HM, HO, B3, B6, B7, BA, HB⟩
  case round =>
   clear HM HO B3 B6 B7 BA HB
   obtain ⟨f, hf4, hgf, rfl, HM, HO, B3, B6, B7, BA, HB⟩ := hrel
   by_cases hlf : f < 4
   rotate_left
   next =>
    obtain rfl : f = 4 := by omega
    obtain ⟨go, co, ev, hgo, hgl, cells, hcl⟩ := Kd.S_form HO.out (by rw [relN_length, HU.out]; omega)
    injection ev with e1 e2 e3
    subst e1
    subst e3
    clear e2 hgl hcl cells
    have GO := Aside0.mk hgo
    clear hgo
    have ht0 := (HB.out.cell (yny w _ HTS0.out)).trans HTS0.out
    have t0 := eq_true HTB.out.1
    have t1 := eq_true HTB.out.2
    have t2 := eq_true (show 0 ≤ (i : Int) by omega)
    have t3 := eq_true hl1z
    go_wp2
    refine start_ (n := 9) (S := fun w' => w'.cell? ⟨g7, 0, none⟩ = some (.slice (some ⟨go, 0, none⟩) l0_0.length c7) ∧ w'.cell? (ats.add i) = some (.int .i64 tsi)) (ds := [8]) #[false, false, false, false, false, false, false, false, false] (by kernel_rfl) rfl rfl ⟨(blk_cell B7.out 0).trans rfl, ht0⟩ (fun hHeld => ?_)
    have HO2 := Aside0.mk (Kd.S_drew HO.out)
    have HM2 := Aside0.mk (Kd.R_drew HM.out)
    have B32 := Aside0.mk (blk_drew B3.out)
    have B62 := Aside0.mk (blk_drew B6.out)
    have B72 := Aside0.mk (blk_drew B7.out)
    have HB2 := Aside0.mk (below_drew1 HB.out)
    clear HO HM B3 B6 B7 HB
    have HO := HO2
    have HM := HM2
    have B3 := B32
    have B6 := B62
    have B7 := B72
    have HB := HB2
    clear HO2 HM2 B32 B62 B72 HB2
    generalize wr.drew = w16 at HO HM B3 B6 B7 HB hHeld ⊢
    refine pure_ (i := 0) (N := some 73) (v := ?_) (a' := ?_) #[true, false, false, false, false, false, false, false, false] rfl rfl (by kernel_rfl) (fun _ _ _ h => h) (Or.inl ⟨by rfl, ?_⟩) ?_ ?_
    rotate_left
    next =>
     intro w'
     go_simp
     with_reducible rfl
    rotate_left
    next =>
     simp only [Act.put, yay, yby, ycy, i64_w, i32_w]
     rfl
    refine take_ (i := 1) (N := some 74) (v := ?_) (a' := ?_) #[true, true, false, false, false, false, false, false, false] rfl rfl (by kernel_rfl) (fun _ _ _ h => h) (Or.inl ⟨by rfl, ?_⟩) hHeld ?_ ?_
    rotate_left
    next =>
     rintro w' ⟨s0, s1⟩
     go_simp
     with_reducible rfl
    rotate_left
    next =>
     simp only [Act.put, yay, yby, ycy, i64_w, i32_w]
     rfl
    refine pure_ (i := 2) (N := some 75) (v := ?_) (a' := ?_) #[true, true, true, false, false, false, false, false, false] rfl rfl (by kernel_rfl) (fun _ _ _ h => h) (Or.inl ⟨by rfl, ?_⟩) ?_ ?_
    rotate_left
    next =>
     intro w'
     go_simp
     with_reducible rfl
    rotate_left
    next =>
     simp only [Act.put, yay, yby, ycy, i64_w, i32_w]
     rfl
    refine pure_ (i := 3) (N := some 76) (v := ?_) (a' := ?_) #[true, true, true, true, false, false, false, false, false] rfl rfl (by kernel_rfl) (fun _ _ _ h => h) (Or.inl ⟨by rfl, ?_⟩) ?_ ?_
    rotate_left
    next =>
     intro w'
     go_simp
     with_reducible rfl
    rotate_left
    next =>
     simp only [Act.put, yay, yby, ycy, i64_w, i32_w]
     rfl
    refine pure_ (i := 4) (N := some 77) (v := ?_) (a' := ?_) #[true, true, true, true, true, false, false, false, false] rfl rfl (by kernel_rfl) (fun _ _ _ h => h) (Or.inl ⟨by rfl, ?_⟩) ?_ ?_
    rotate_left
    next =>
     intro w'
     go_simp
     with_reducible rfl
    rotate_left
    next =>
     simp only [Act.put, yay, yby, ycy, i64_w, i32_w]
     rfl
    refine take_ (i := 5) (N := some 78) (v := ?_) (a' := ?_) #[true, true, true, true, true, true, false, false, false] rfl rfl (by kernel_rfl) (fun _ _ _ h => h) (Or.inl ⟨by rfl, ?_⟩) hHeld ?_ ?_
    rotate_left
    next =>
     rintro w' ⟨s0, s1⟩
     go_simp
     with_reducible rfl
    rotate_left
    next =>
     simp only [Act.put, yay, yby, ycy, i64_w, i32_w]
     rfl
    refine pure_ (i := 6) (N := some 79) (v := ?_) (a' := ?_) #[true, true, true, true, true, true, true, false, false] rfl rfl (by kernel_rfl) (fun _ _ _ h => h) (Or.inl ⟨by rfl, ?_⟩) ?_ ?_
    rotate_left
    next =>
     intro w'
     go_simp
     with_reducible rfl
    rotate_left
    next =>
     simp only [Act.put, yay, yby, ycy, i64_w, i32_w]
     rfl
    refine pure_ (i := 7) (N := some 80) (v := ?_) (a' := ?_) #[true, true, true, true, true, true, true, true, false] rfl rfl (by kernel_rfl) (fun _ _ _ h => h) (Or.inl ⟨by rfl, ?_⟩) ?_ ?_
    rotate_left
    next =>
     intro w'
     go_simp
     with_reducible rfl
    rotate_left
    next =>
     simp only [Act.put, yay, yby, ycy, i64_w, i32_w]
     rfl
    obtain ⟨⟨old, hx0⟩, hz0, hSS, hgr⟩ := row_put HO.out HM.out tsi HTB.out.1 HTB.out.2
    refine last_ (i := 8) (N := none) #[true, true, true, true, true, true, true, true, true] rfl rfl (by kernel_rfl) (by decide) (fun K hK => ?_)
    refine skip_ (w1 := ?_) (by rfl) rfl ?_ ?_
    rotate_left
    next =>
     go_simp
     rfl
    refine hK.out _ _ ?_
    clear hK K
    refine done_ (by kernel_rfl) ?_
    have HO2 := Aside0.mk hSS
    have B32 := Aside0.mk (blk_grown B3.out hgr (Kd.S_ne HO.out B3.out (by decide)))
    have B62 := Aside0.mk (blk_grown B6.out hgr (Kd.S_ne HO.out B6.out (by decide)))
    have B72 := Aside0.mk (blk_grown B7.out hgr (Kd.S_ne HO.out B7.out (by decide)))
    have HB2 := Aside0.mk (below_set (j := tsi.toNat) (v := .slice (some ⟨gm, 0, none⟩) 4 cm) HB.out GO.out)
    clear hSS hgr hx0 hz0 HM
    clear HO B3 B6 B7 HB
    have HO := HO2
    have B3 := B32
    have B6 := B62
    have B7 := B72
    have HB := HB2
    clear HO2 B32 B62 B72 HB2
    generalize w16.setCell ⟨go, tsi.toNat, none⟩ (.slice (some ⟨gm, 0, none⟩) 4 cm) = w17 at HO B3 B6 B7 HB ⊢
    go_wp2
    go_roundg (l0_0.length - (i + 1))
    case measure => omega
    case rel => exact ⟨i + 1, by omega, yoy _, by go_num, ⟨by rw [HRK.out]; exact HO.out⟩, B3, B6, B7, HB⟩
   have hlfz : (f : Int) < 4 := by omega
   have hlr : (f : Int) < ((rd_LFace l0_0 (i : Int)).length : Int) := by have := H4R.out; omega
   obtain ⟨ad2, e2, hy2, hy3⟩ := at_Face HY.out (f : Int) (by omega) hlr
   subst e2
   replace hy2 := (HB.out.cell (yny w _ hy2)).trans hy2
   replace hy3 := (HB.out.cell (yny w _ hy3)).trans hy3
   rw [Int.toNat_natCast] at hy2 hy3
   have HK := Aside0.mk (show relK l0_0 l1 l2 (i : Int) (f + 1) = if (rd_Face (rd_LFace l0_0 (i : Int)) (f : Int)).f0 < 0 then relK l0_0 l1 l2 (i : Int) f else (relK l0_0 l1 l2 (i : Int) f).set (rd (permL ps) (f : Int)).toNat ⟨rd l1 (rd_Face (rd_LFace l0_0 (i : Int)) (f : Int)).f0, compP (compP (invP ps) (rd_Face (rd_LFace l0_0 (i : Int)) (f : Int)).f1) (rd l2 (rd_Face (rd_LFace l0_0 (i : Int)) (f : Int)).f0)⟩ from by rw [← HPSI.out]; rfl)
   have hlt2 : f < (rd_LFace l0_0 (i : Int)).length := by omega
   have exf : rd_Face (rd_LFace l0_0 (i : Int)) (f : Int) = (rd_LFace l0_0 (i : Int))[f] := by simp [rd_Face, hlt2]
   have HFB := Aside0.mk (HFR.out (rd_Face (rd_LFace l0_0 (i : Int)) (f : Int)) (by rw [exf]; exact List.getElem_mem hlt2))
   clear exf hlt2
   generalize rd_Face (rd_LFace l0_0 (i : Int)) (f : Int) = y at hy2 hy3 HK HFB
   obtain ⟨f0, f1⟩ := y
   clear hlr
   have BF := Aside0.mk (new_at4 (W := wr) rfl (.cells #[.int .i64 f0, .int .i64 f1] 74))
   have G8 := Aside0.mk (show w.heap.size ≤ wr.heap.size from below_size HB.out)
   have HO2 := Aside0.mk (Kd.S_alloc HO.out (.cells #[.int .i64 f0, .int .i64 f1] 74))
   have HM2 := Aside0.mk (Kd.R_alloc HM.out (.cells #[.int .i64 f0, .int .i64 f1] 74))
   have B32 := Aside0.mk (blk_alloc B3.out (.cells #[.int .i64 f0, .int .i64 f1] 74))
   have B62 := Aside0.mk (blk_alloc B6.out (.cells #[.int .i64 f0, .int .i64 f1] 74))
   have B72 := Aside0.mk (blk_alloc B7.out (.cells #[.int .i64 f0, .int .i64 f1] 74))
   have BA2 := Aside0.mk (blk_alloc BA.out (.cells #[.int .i64 f0, .int .i64 f1] 74))
   have HB2 := Aside0.mk (below_alloc HB.out (.cells #[.int .i64 f0, .int .i64 f1] 74))
   clear HO HM B3 B6 B7 BA HB
   have HO := HO2
   have HM := HM2
   have B3 := B32
   have B6 := B62
   have B7 := B72
   have BA := BA2
   have HB := HB2
   clear HO2 HM2 B32 B62 B72 BA2 HB2
   by_cases hb : f0 < 0
   next =>
    have HK2 := Aside0.mk (HK.out.trans (if_pos hb))
    have d0 : decide (f0 < 0) = true := ygy hb
    clear HK HFB
    go_wp2_with (first | (go_at_call 75; (with_reducible refine (impl_Face_isBoundary.calls f0 f1 true _ (by unfold impl_Face_isBoundary.f; rw [d0])).mono ?_); rintro e w9 ⟨rfl, hb5⟩; have HO2 := Aside0.mk (Kd.S_below HO.out hb5); have HM2 := Aside0.mk (Kd.R_below HM.out hb5); have B32 := Aside0.mk (blk_below B3.out hb5); have B62 := Aside0.mk (blk_below B6.out hb5); have B72 := Aside0.mk (blk_below B7.out hb5); have BA2 := Aside0.mk (blk_below BA.out hb5); have HB2 := Aside0.mk (below_step HB.out hb5); clear HO HM B3 B6 B7 BA HB; have HO := HO2; have HM := HM2; have B3 := B32; have B6 := B62; have B7 := B72; have BA := BA2; have HB := HB2; clear HO2 HM2 B32 B62 B72 BA2 HB2; clear hb5 BF))
    go_roundg (4 - (f + 1))
    case measure => omega
    case rel => exact ⟨f + 1, by omega, by omega, by go_num, ⟨by rw [HK2.out]; exact HM.out⟩, HO, B3, B6, B7, BA, HB⟩
   next =>
    have HK2 := Aside0.mk (HK.out.trans (if_neg hb))
    have d0 : decide (f0 < 0) = false := yhy hb
    have HFB9 := Aside0.mk (show 0 ≤ f0 ∧ f0 < (l0_0.length : Int) ∧ 0 ≤ f1 ∧ f1 ≤ 23 from HFB.out (by first | exact hb | (show (0 : Int) ≤ f0; omega)))
    clear HK HFB
    have HFB := HFB9
    clear HFB9
    go_wp2_with (first | (go_at_call 75; (with_reducible refine (impl_Face_isBoundary.calls f0 f1 false _ (by unfold impl_Face_isBoundary.f; rw [d0])).mono ?_); rintro e w9 ⟨rfl, hb5⟩; have HO2 := Aside0.mk (Kd.S_below HO.out hb5); have HM2 := Aside0.mk (Kd.R_below HM.out hb5); have B32 := Aside0.mk (blk_below B3.out hb5); have B62 := Aside0.mk (blk_below B6.out hb5); have B72 := Aside0.mk (blk_below B7.out hb5); have BA2 := Aside0.mk (blk_below BA.out hb5); have BF2 := Aside0.mk (blk_below BF.out hb5); have HB2 := Aside0.mk (below_step HB.out hb5); clear HO HM B3 B6 B7 BA BF HB; have HO := HO2; have HM := HM2; have B3 := B32; have B6 := B62; have B7 := B72; have BA := BA2; have BF := BF2; have HB := HB2; clear HO2 HM2 B32 B62 B72 BA2 BF2 HB2; clear hb5))
    have g0 := HFB.out.1
    have g1 : f0 < (l1.length : Int) := by have := HFB.out.2.1; have := L1.out; omega
    have g2 : f0 < (l2.length : Int) := by have := HFB.out.2.1; have := L2.out; omega
    obtain ⟨apx, epx, hp1⟩ := Kd.at_int HP.out f0 g0 g2
    obtain rfl : aps = apx := by injection epx
    obtain ⟨atx, etx, ht1⟩ := Kd.at_int HT.out f0 g0 g1
    obtain rfl : ats = atx := by injection etx
    have HPB2 := Aside0.mk (invP_bd' HPB.out.1 HPB.out.2)
    have HPB3 := Aside0.mk (compP_bd HPB2.out.1 HPB2.out.2 HFB.out.2.2.1 HFB.out.2.2.2)
    have HPT := Aside0.mk (rd_memR HPS.out g0 g2)
    have HTT := Aside0.mk (rd_memR HTS.out g0 g1)
    clear epx etx
    generalize rd l1 f0 = tt at *
    generalize rd l2 f0 = pt at *
    replace hp1 := (HB.out.cell (yny w _ hp1)).trans hp1
    replace ht1 := (HB.out.cell (yny w _ ht1)).trans ht1
    have hp0 := (HB.out.cell (yny w _ HPS0.out)).trans HPS0.out
    have p0 := eq_true g0
    have p1 := eq_true g1
    have p2 := eq_true g2
    clear hy2 hy3 hb d0
    generalize hgf9 : wr.heap.size = gf at *
    clear hgf9
    refine start_ (n := 15) (S := fun w' => w'.cell? (aps.add i) = some (.int .i64 ps) ∧ w'.cell? ⟨gf, 0, none⟩ = some (.int .i64 f0) ∧ w'.cell? ⟨gf, 1, none⟩ = some (.int .i64 f1) ∧ w'.cell? (aps.add f0.toNat) = some (.int .i64 pt)) (ds := []) #[false, false, false, false, false, false, false, false, false, false, false, false, false, false, false] (by kernel_rfl) rfl rfl ⟨hp0, (blk_cell BF.out 0).trans rfl, (blk_cell BF.out 1).trans rfl, hp1⟩ (fun hHeld => ?_)
    have HO2 := Aside0.mk (Kd.S_drew HO.out)
    have HM2 := Aside0.mk (Kd.R_drew HM.out)
    have B32 := Aside0.mk (blk_drew B3.out)
    have B62 := Aside0.mk (blk_drew B6.out)
    have B72 := Aside0.mk (blk_drew B7.out)
    have BA2 := Aside0.mk (blk_drew BA.out)
    have BF2 := Aside0.mk (blk_drew BF.out)
    have HB2 := Aside0.mk (below_drew1 HB.out)
    clear HO HM B3 B6 B7 BA BF HB
    have HO := HO2
    have HM := HM2
    have B3 := B32
    have B6 := B62
    have B7 := B72
    have BA := BA2
    have BF := BF2
    have HB := HB2
    clear HO2 HM2 B32 B62 B72 BA2 BF2 HB2
    replace hp0 : w9.drew.cell? (aps.add i) = some (.int .i64 ps) := hp0
    replace hp1 : w9.drew.cell? (aps.add f0.toNat) = some (.int .i64 pt) := hp1
    replace ht1 : w9.drew.cell? (ats.add f0.toNat) = some (.int .i64 tt) := ht1
    generalize w9.drew = w10 at HO HM B3 B6 B7 BA BF HB hp0 hp1 ht1 hHeld ⊢
    refine pure_ (i := 0) (N := some 46) (v := ?_) (a' := ?_) #[true, false, false, false, false, false, false, false, false, false, false, false, false, false, false] rfl rfl (by kernel_rfl) (fun _ _ _ h => h) (Or.inl ⟨by rfl, ?_⟩) ?_ ?_
    rotate_left
    next =>
     intro w'
     go_simp
     with_reducible rfl
    rotate_left
    next =>
     simp only [Act.put, yay, yby, ycy, i64_w, i32_w]
     rfl
    refine pure_ (i := 1) (N := some 47) (v := ?_) (a' := ?_) #[true, true, false, false, false, false, false, false, false, false, false, false, false, false, false] rfl rfl (by kernel_rfl) (fun _ _ _ h => h) (Or.inl ⟨by rfl, ?_⟩) ?_ ?_
    rotate_left
    next =>
     intro w'
     go_simp
     with_reducible rfl
    rotate_left
    next =>
     simp only [Act.put, yay, yby, ycy, i64_w, i32_w]
     rfl
    refine pure_ (i := 2) (N := some 48) (v := ?_) (a' := ?_) #[true, true, true, false, false, false, false, false, false, false, false, false, false, false, false] rfl rfl (by kernel_rfl) (fun _ _ _ h => h) (Or.inl ⟨by rfl, ?_⟩) ?_ ?_
    rotate_left
    next =>
     intro w'
     go_simp
     with_reducible rfl
    rotate_left
    next =>
     simp only [Act.put, yay, yby, ycy, i64_w, i32_w]
     rfl
    refine take_ (i := 3) (N := some 49) (v := ?_) (a' := ?_) #[true, true, true, true, false, false, false, false, false, false, false, false, false, false, false] rfl rfl (by kernel_rfl) (fun _ _ _ h => h) (Or.inl ⟨by rfl, ?_⟩) hHeld ?_ ?_
    rotate_left
    next =>
     rintro w' ⟨s0, s1, s2, s3⟩
     go_simp
     with_reducible rfl
    rotate_left
    next =>
     simp only [Act.put, yay, yby, ycy, i64_w, i32_w]
     rfl
    refine pure_ (i := 5) (N := some 51) (v := ?_) (a' := ?_) #[true, true, true, true, false, true, false, false, false, false, false, false, false, false, false] rfl rfl (by kernel_rfl) (fun _ _ _ h => h) (Or.inl ⟨by rfl, ?_⟩) ?_ ?_
    rotate_left
    next =>
     intro w'
     go_simp
     with_reducible rfl
    rotate_left
    next =>
     simp only [Act.put, yay, yby, ycy, i64_w, i32_w]
     rfl
    refine take_ (i := 6) (N := some 52) (v := ?_) (a' := ?_) #[true, true, true, true, false, true, true, false, false, false, false, false, false, false, false] rfl rfl (by kernel_rfl) (fun _ _ _ h => h) (Or.inl ⟨by rfl, ?_⟩) hHeld ?_ ?_
    rotate_left
    next =>
     rintro w' ⟨s0, s1, s2, s3⟩
     go_simp
     with_reducible rfl
    rotate_left
    next =>
     simp only [Act.put, yay, yby, ycy, i64_w, i32_w]
     rfl
    refine pure_ (i := 8) (N := some 54) (v := ?_) (a' := ?_) #[true, true, true, true, false, true, true, false, true, false, false, false, false, false, false] rfl rfl (by kernel_rfl) (fun _ _ _ h => h) (Or.inl ⟨by rfl, ?_⟩) ?_ ?_
    rotate_left
    next =>
     intro w'
     go_simp
     with_reducible rfl
    rotate_left
    next =>
     simp only [Act.put, yay, yby, ycy, i64_w, i32_w]
     rfl
    refine pure_ (i := 9) (N := some 55) (v := ?_) (a' := ?_) #[true, true, true, true, false, true, true, false, true, true, false, false, false, false, false] rfl rfl (by kernel_rfl) (fun _ _ _ h => h) (Or.inl ⟨by rfl, ?_⟩) ?_ ?_
    rotate_left
    next =>
     intro w'
     go_simp
     with_reducible rfl
    rotate_left
    next =>
     simp only [Act.put, yay, yby, ycy, i64_w, i32_w]
     rfl
    refine take_ (i := 10) (N := some 56) (v := ?_) (a' := ?_) #[true, true, true, true, false, true, true, false, true, true, true, false, false, false, false] rfl rfl (by kernel_rfl) (fun _ _ _ h => h) (Or.inl ⟨by rfl, ?_⟩) hHeld ?_ ?_
    rotate_left
    next =>
     rintro w' ⟨s0, s1, s2, s3⟩
     go_simp
     with_reducible rfl
    rotate_left
    next =>
     simp only [Act.put, yay, yby, ycy, i64_w, i32_w]
     rfl
    refine pure_ (i := 11) (N := some 57) (v := ?_) (a' := ?_) #[true, true, true, true, false, true, true, false, true, true, true, true, false, false, false] rfl rfl (by kernel_rfl) (fun _ _ _ h => h) (Or.inl ⟨by rfl, ?_⟩) ?_ ?_
    rotate_left
    next =>
     intro w'
     go_simp
     with_reducible rfl
    rotate_left
    next =>
     simp only [Act.put, yay, yby, ycy, i64_w, i32_w]
     rfl
    refine take_ (i := 12) (N := some 58) (v := ?_) (a' := ?_) #[true, true, true, true, false, true, true, false, true, true, true, true, true, false, false] rfl rfl (by kernel_rfl) (fun _ _ _ h => h) (Or.inl ⟨by rfl, ?_⟩) hHeld ?_ ?_
    rotate_left
    next =>
     rintro w' ⟨s0, s1, s2, s3⟩
     go_simp
     with_reducible rfl
    rotate_left
    next =>
     simp only [Act.put, yay, yby, ycy, i64_w, i32_w]
     rfl
    refine one_ (i := 4) (N := some 50) #[true, true, true, true, true, true, true, false, true, true, true, true, true, false, false] rfl rfl (by kernel_rfl) (by decide) (fun K hK => ?_)
    refine goes_ Try.func137 (by kernel_rfl) rfl #[.int .i64 ps] (by rfl) rfl rfl (by (try simp only [yiy, yjy, yky]); first | done | rfl) ?_
    refine (impl_invert.calls ps (invP ps) _ (if_pos HPB.out)).mono ?_
    rintro e w11 ⟨rfl, hb⟩
    refine ⟨_, rfl, ?_⟩
    replace hp0 := (hb.cell (yny _ _ hp0)).trans hp0
    replace hp1 := (hb.cell (yny _ _ hp1)).trans hp1
    replace ht1 := (hb.cell (yny _ _ ht1)).trans ht1
    have HO2 := Aside0.mk (Kd.S_below HO.out hb)
    have HM2 := Aside0.mk (Kd.R_below HM.out hb)
    have B32 := Aside0.mk (blk_below B3.out hb)
    have B62 := Aside0.mk (blk_below B6.out hb)
    have B72 := Aside0.mk (blk_below B7.out hb)
    have BA2 := Aside0.mk (blk_below BA.out hb)
    have BF2 := Aside0.mk (blk_below BF.out hb)
    have HB2 := Aside0.mk (below_step HB.out hb)
    clear HO HM B3 B6 B7 BA BF HB
    have HO := HO2
    have HM := HM2
    have B3 := B32
    have B6 := B62
    have B7 := B72
    have BA := BA2
    have BF := BF2
    have HB := HB2
    clear HO2 HM2 B32 B62 B72 BA2 BF2 HB2
    clear hb
    refine hK.out _ _ ⟨hp0, (blk_cell BF.out 0).trans rfl, (blk_cell BF.out 1).trans rfl, hp1⟩ (fun hHeld => ?_)
    clear hK K
    refine norm_ (a' := ?_) ?_ ?_
    rotate_left
    next =>
     show Act.put _ (some 50) _ = _
     simp only [Act.put, yay, yby, ycy, i64_w, i32_w]
     rfl
    refine one_ (i := 7) (N := some 53) #[true, true, true, true, true, true, true, true, true, true, true, true, true, false, false] rfl rfl (by kernel_rfl) (by decide) (fun K hK => ?_)
    refine goes_ Try.func136 (by kernel_rfl) rfl #[.int .i64 (invP ps), .int .i64 f1] (by rfl) rfl rfl (by (try simp only [yiy, yjy, yky]); first | done | rfl) ?_
    refine (impl_compose.calls (invP ps) f1 (compP (invP ps) f1) _ (if_pos ⟨HPB2.out.1, HPB2.out.2, HFB.out.2.2⟩)).mono ?_
    rintro e w12 ⟨rfl, hb⟩
    refine ⟨_, rfl, ?_⟩
    replace hp0 := (hb.cell (yny _ _ hp0)).trans hp0
    replace hp1 := (hb.cell (yny _ _ hp1)).trans hp1
    replace ht1 := (hb.cell (yny _ _ ht1)).trans ht1
    have HO2 := Aside0.mk (Kd.S_below HO.out hb)
    have HM2 := Aside0.mk (Kd.R_below HM.out hb)
    have B32 := Aside0.mk (blk_below B3.out hb)
    have B62 := Aside0.mk (blk_below B6.out hb)
    have B72 := Aside0.mk (blk_below B7.out hb)
    have BA2 := Aside0.mk (blk_below BA.out hb)
    have BF2 := Aside0.mk (blk_below BF.out hb)
    have HB2 := Aside0.mk (below_step HB.out hb)
    clear HO HM B3 B6 B7 BA BF HB
    have HO := HO2
    have HM := HM2
    have B3 := B32
    have B6 := B62
    have B7 := B72
    have BA := BA2
    have BF := BF2
    have HB := HB2
    clear HO2 HM2 B32 B62 B72 BA2 BF2 HB2
    clear hb
    refine hK.out _ _ ⟨hp0, (blk_cell BF.out 0).trans rfl, (blk_cell BF.out 1).trans rfl, hp1⟩ (fun hHeld => ?_)
    clear hK K
    refine norm_ (a' := ?_) ?_ ?_
    rotate_left
    next =>
     show Act.put _ (some 53) _ = _
     simp only [Act.put, yay, yby, ycy, i64_w, i32_w]
     rfl
    refine one_ (i := 13) (N := some 59) #[true, true, true, true, true, true, true, true, true, true, true, true, true, true, false] rfl rfl (by kernel_rfl) (by decide) (fun K hK => ?_)
    refine goes_ Try.func136 (by kernel_rfl) rfl #[.int .i64 (compP (invP ps) f1), .int .i64 pt] (by rfl) rfl rfl (by (try simp only [yiy, yjy, yky]); first | done | rfl) ?_
    refine (impl_compose.calls (compP (invP ps) f1) pt (compP (compP (invP ps) f1) pt) _ (if_pos ⟨HPB3.out.1, HPB3.out.2, HPT.out⟩)).mono ?_
    rintro e w13 ⟨rfl, hb⟩
    refine ⟨_, rfl, ?_⟩
    replace hp0 := (hb.cell (yny _ _ hp0)).trans hp0
    replace hp1 := (hb.cell (yny _ _ hp1)).trans hp1
    replace ht1 := (hb.cell (yny _ _ ht1)).trans ht1
    have HO2 := Aside0.mk (Kd.S_below HO.out hb)
    have HM2 := Aside0.mk (Kd.R_below HM.out hb)
    have B32 := Aside0.mk (blk_below B3.out hb)
    have B62 := Aside0.mk (blk_below B6.out hb)
    have B72 := Aside0.mk (blk_below B7.out hb)
    have BA2 := Aside0.mk (blk_below BA.out hb)
    have BF2 := Aside0.mk (blk_below BF.out hb)
    have HB2 := Aside0.mk (below_step HB.out hb)
    clear HO HM B3 B6 B7 BA BF HB
    have HO := HO2
    have HM := HM2
    have B3 := B32
    have B6 := B62
    have B7 := B72
    have BA := BA2
    have BF := BF2
    have HB := HB2
    clear HO2 HM2 B32 B62 B72 BA2 BF2 HB2
    clear hb
    refine hK.out _ _ ⟨hp0, (blk_cell BF.out 0).trans rfl, (blk_cell BF.out 1).trans rfl, hp1⟩ (fun hHeld => ?_)
    clear hK K
    refine norm_ (a' := ?_) ?_ ?_
    rotate_left
    next =>
     show Act.put _ (some 59) _ = _
     simp only [Act.put, yay, yby, ycy, i64_w, i32_w]
     rfl
    refine pure_ (i := 14) (N := some 14) (v := ?_) (a' := ?_) #[true, true, true, true, true, true, true, true, true, true, true, true, true, true, true] rfl rfl (by kernel_rfl) (fun _ _ _ h => h) (Or.inl ⟨by rfl, ?_⟩) ?_ ?_
    rotate_left
    next =>
     intro w'
     go_simp
     with_reducible rfl
    rotate_left
    next =>
     simp only [Act.put, yay, yby, ycy, i64_w, i32_w]
     rfl
    refine done_ (by kernel_rfl) ?_
    generalize hpp : compP (compP (invP ps) f1) pt = pp at *
    clear hpp hHeld hp0 hp1 HPB3 HPT p2
    go_wp2
    have hba := arr_cell BA.out (f : Int) (by omega) (by omega)
    rw [Int.toNat_natCast] at hba
    replace hba : w13.cell? ⟨ga, f, none⟩ = some (.int .i64 (rd (permL ps) (f : Int))) := hba
    have HIM := Aside0.mk (show 0 ≤ rd (permL ps) (f : Int) ∧ rd (permL ps) (f : Int) ≤ 3 from by obtain ⟨a, b, c, d⟩ := permAt_sm ps HPB.out.1 HPB.out.2; exact rd_four_sm a b c d (f : Int) (by omega) (by omega))
    generalize rd (permL ps) (f : Int) = im at hba HIM HK2
    have q0 := eq_true HIM.out.1
    have q1 := eq_true (show im < 4 by have := HIM.out.2; omega)
    have q2 := eq_true (show 0 ≤ (f : Int) by omega)
    have q3 := eq_true hlfz
    refine start_ (n := 13) (S := fun w' => w'.cell? ⟨ga, f, none⟩ = some (.int .i64 im) ∧ w'.cell? ⟨gf, 0, none⟩ = some (.int .i64 f0) ∧ w'.cell? (ats.add f0.toNat) = some (.int .i64 tt)) (ds := [12]) #[false, false, false, false, false, false, false, false, false, false, false, false, false] (by kernel_rfl) rfl rfl ⟨hba, (blk_cell BF.out 0).trans rfl, ht1⟩ (fun hHeld => ?_)
    have HO2 := Aside0.mk (Kd.S_drew HO.out)
    have HM2 := Aside0.mk (Kd.R_drew HM.out)
    have B32 := Aside0.mk (blk_drew B3.out)
    have B62 := Aside0.mk (blk_drew B6.out)
    have B72 := Aside0.mk (blk_drew B7.out)
    have BA2 := Aside0.mk (blk_drew BA.out)
    have HB2 := Aside0.mk (below_drew1 HB.out)
    clear HO HM B3 B6 B7 BA HB
    have HO := HO2
    have HM := HM2
    have B3 := B32
    have B6 := B62
    have B7 := B72
    have BA := BA2
    have HB := HB2
    clear HO2 HM2 B32 B62 B72 BA2 HB2
    generalize w13.drew = w14 at HO HM B3 B6 B7 BA HB hHeld ⊢
    refine pure_ (i := 0) (N := some 60) (v := ?_) (a' := ?_) #[true, false, false, false, false, false, false, false, false, false, false, false, false] rfl rfl (by kernel_rfl) (fun _ _ _ h => h) (Or.inl ⟨by rfl, ?_⟩) ?_ ?_
    rotate_left
    next =>
     intro w'
     go_simp
     with_reducible rfl
    rotate_left
    next =>
     simp only [Act.put, yay, yby, ycy, i64_w, i32_w]
     rfl
    refine pure_ (i := 1) (N := some 61) (v := ?_) (a' := ?_) #[true, true, false, false, false, false, false, false, false, false, false, false, false] rfl rfl (by kernel_rfl) (fun _ _ _ h => h) (Or.inl ⟨by rfl, ?_⟩) ?_ ?_
    rotate_left
    next =>
     intro w'
     go_simp
     with_reducible rfl
    rotate_left
    next =>
     simp only [Act.put, yay, yby, ycy, i64_w, i32_w]
     rfl
    refine pure_ (i := 2) (N := some 62) (v := ?_) (a' := ?_) #[true, true, true, false, false, false, false, false, false, false, false, false, false] rfl rfl (by kernel_rfl) (fun _ _ _ h => h) (Or.inl ⟨by rfl, ?_⟩) ?_ ?_
    rotate_left
    next =>
     intro w'
     go_simp
     with_reducible rfl
    rotate_left
    next =>
     simp only [Act.put, yay, yby, ycy, i64_w, i32_w]
     rfl
    refine take_ (i := 3) (N := some 63) (v := ?_) (a' := ?_) #[true, true, true, true, false, false, false, false, false, false, false, false, false] rfl rfl (by kernel_rfl) (fun _ _ _ h => h) (Or.inl ⟨by rfl, ?_⟩) hHeld ?_ ?_
    rotate_left
    next =>
     rintro w' ⟨s0, s1, s2⟩
     go_simp
     with_reducible rfl
    rotate_left
    next =>
     simp only [Act.put, yay, yby, ycy, i64_w, i32_w]
     rfl
    refine pure_ (i := 4) (N := some 64) (v := ?_) (a' := ?_) #[true, true, true, true, true, false, false, false, false, false, false, false, false] rfl rfl (by kernel_rfl) (fun _ _ _ h => h) (Or.inl ⟨by rfl, ?_⟩) ?_ ?_
    rotate_left
    next =>
     intro w'
     go_simp
     with_reducible rfl
    rotate_left
    next =>
     simp only [Act.put, yay, yby, ycy, i64_w, i32_w]
     rfl
    refine pure_ (i := 5) (N := some 65) (v := ?_) (a' := ?_) #[true, true, true, true, true, true, false, false, false, false, false, false, false] rfl rfl (by kernel_rfl) (fun _ _ _ h => h) (Or.inl ⟨by rfl, ?_⟩) ?_ ?_
    rotate_left
    next =>
     intro w'
     go_simp
     with_reducible rfl
    rotate_left
    next =>
     simp only [Act.put, yay, yby, ycy, i64_w, i32_w]
     rfl
    refine take_ (i := 6) (N := some 66) (v := ?_) (a' := ?_) #[true, true, true, true, true, true, true, false, false, false, false, false, false] rfl rfl (by kernel_rfl) (fun _ _ _ h => h) (Or.inl ⟨by rfl, ?_⟩) hHeld ?_ ?_
    rotate_left
    next =>
     rintro w' ⟨s0, s1, s2⟩
     go_simp
     with_reducible rfl
    rotate_left
    next =>
     simp only [Act.put, yay, yby, ycy, i64_w, i32_w]
     rfl
    refine pure_ (i := 7) (N := some 67) (v := ?_) (a' := ?_) #[true, true, true, true, true, true, true, true, false, false, false, false, false] rfl rfl (by kernel_rfl) (fun _ _ _ h => h) (Or.inl ⟨by rfl, ?_⟩) ?_ ?_
    rotate_left
    next =>
     intro w'
     go_simp
     with_reducible rfl
    rotate_left
    next =>
     simp only [Act.put, yay, yby, ycy, i64_w, i32_w]
     rfl
    refine take_ (i := 8) (N := some 68) (v := ?_) (a' := ?_) #[true, true, true, true, true, true, true, true, true, false, false, false, false] rfl rfl (by kernel_rfl) (fun _ _ _ h => h) (Or.inl ⟨by rfl, ?_⟩) hHeld ?_ ?_
    rotate_left
    next =>
     rintro w' ⟨s0, s1, s2⟩
     go_simp
     with_reducible rfl
    rotate_left
    next =>
     simp only [Act.put, yay, yby, ycy, i64_w, i32_w]
     rfl
    refine pure_ (i := 9) (N := some 69) (v := ?_) (a' := ?_) #[true, true, true, true, true, true, true, true, true, true, false, false, false] rfl rfl (by kernel_rfl) (fun _ _ _ h => h) (Or.inl ⟨by rfl, ?_⟩) ?_ ?_
    rotate_left
    next =>
     intro w'
     go_simp
     with_reducible rfl
    rotate_left
    next =>
     simp only [Act.put, yay, yby, ycy, i64_w, i32_w]
     rfl
    refine pure_ (i := 10) (N := some 70) (v := ?_) (a' := ?_) #[true, true, true, true, true, true, true, true, true, true, true, false, false] rfl rfl (by kernel_rfl) (fun _ _ _ h => h) (Or.inl ⟨by rfl, ?_⟩) ?_ ?_
    rotate_left
    next =>
     intro w'
     go_simp
     with_reducible rfl
    rotate_left
    next =>
     simp only [Act.put, yay, yby, ycy, i64_w, i32_w]
     rfl
    refine pure_ (i := 11) (N := some 71) (v := ?_) (a' := ?_) #[true, true, true, true, true, true, true, true, true, true, true, true, false] rfl rfl (by kernel_rfl) (fun _ _ _ h => h) (Or.inl ⟨by rfl, ?_⟩) ?_ ?_
    rotate_left
    next =>
     intro w'
     go_simp
     with_reducible rfl
    rotate_left
    next =>
     simp only [Act.put, yay, yby, ycy, i64_w, i32_w]
     rfl
    obtain ⟨⟨u1_, hx0⟩, ⟨u2_, hx1⟩, hz0, hz1, hMS, hgr⟩ := face_put HM.out im HIM.out.1 (by have := HIM.out.2; omega) ⟨tt, pp⟩
    refine last_ (i := 12) (N := none) #[true, true, true, true, true, true, true, true, true, true, true, true, true] rfl rfl (by kernel_rfl) (by decide) (fun K hK => ?_)
    refine skip_ (w1 := ?_) (by rfl) rfl ?_ ?_
    rotate_left
    next =>
     go_simp
     rfl
    refine hK.out _ _ ?_
    clear hK K
    refine done_ (by kernel_rfl) ?_
    have HM2 := Aside0.mk hMS
    have HO2 := Aside0.mk (Kd.S_grown HO.out hgr (fun k hk => hk))
    have B32 := Aside0.mk (blk_grown B3.out hgr (Kd.R_ne HM.out B3.out (by decide)))
    have B62 := Aside0.mk (blk_grown B6.out hgr (Kd.R_ne HM.out B6.out (by decide)))
    have B72 := Aside0.mk (blk_grown B7.out hgr (Kd.R_ne HM.out B7.out (by decide)))
    have BA2 := Aside0.mk (blk_grown BA.out hgr (Kd.R_ne HM.out BA.out (by decide)))
    have HB2 := Aside0.mk (below_set (j := im.toNat * 2 + 1) (v := .int .i64 pp) (below_set (j := im.toNat * 2) (v := .int .i64 tt) HB.out GM.out) GM.out)
    clear hMS hgr hx0 hx1 hz0 hz1
    clear HM HO B3 B6 B7 BA HB
    have HM := HM2
    have HO := HO2
    have B3 := B32
    have B6 := B62
    have B7 := B72
    have BA := BA2
    have HB := HB2
    clear HM2 HO2 B32 B62 B72 BA2 HB2
    generalize (w14.setCell ⟨gm, im.toNat * 2, none⟩ (.int .i64 tt)).setCell ⟨gm, im.toNat * 2 + 1, none⟩ (.int .i64 pp) = w15 at HO HM B3 B6 B7 BA HB ⊢
    go_wp2
    go_roundg (4 - (f + 1))
    case measure => omega
    case rel => exact ⟨f + 1, by omega, by omega, by go_num, ⟨by rw [HK2.out]; exact HM.out⟩, HO, B3, B6, B7, BA, HB⟩
/-! ### impl_inRange: function 58 -/
def impl_inRange.f (a0 : Int) (a1 : Int) (a2 : Int) : Option (Bool) := if a1 ≤ a0 then (some (decide (a0 ≤ a2))) else (some false)
set_option maxHeartbeats 8000000 in
set_option maxRecDepth 100000 in
theorem impl_inRange.calls (a0 : Int) (a1 : Int) (a2 : Int) (r : Bool) (w : World) (h : impl_inRange.f a0 a1 a2 = some r) :
    Calls Try.prog 58 #[.int .i64 a0, .int .i64 a1, .int .i64 a2] w fun e w' => e = .returned (.bool r) ∧ Drawn0 w w' := by
  have H : (if a1 ≤ a0 then (some (decide (a0 ≤ a2))) else (some false)) = some r := h
  clear h
  by_cases c4 : a1 ≤ a0
  · rw [if_pos c4] at H
    have c4b0 : decide (a1 ≤ a0) = true := ygy c4
    clear c4
    obtain rfl := yey H
    go_enter Try.func58, Try.ntmps58
    go_wp2
    go_ret
    exact ⟨by first | rfl | (simp; done) | (simp [*]; done), by repeat (first | exact Drawn0.refl _ | apply Drawn0.step)⟩
  · rw [if_neg c4] at H
    have c4b0 : decide (a1 ≤ a0) = false := yhy c4
    clear c4
    obtain rfl := yey H
    go_enter Try.func58, Try.ntmps58
    go_wp2
    go_ret
    exact ⟨by first | rfl | (simp; done) | (simp [*]; done), by repeat (first | exact Drawn0.refl _ | apply Drawn0.step)⟩
/-! ### impl_size_int64: function 147 -/
def impl_size_int64.f (l0 : List Int) : Option (Int) := some (l0.length : Int)
set_option maxHeartbeats 8000000 in
set_option maxRecDepth 100000 in
theorem impl_size_int64.calls (A0 : Option Addr) (c0 : Nat) (l0 : List Int) (r : Int) (w : World) (hr0 : Kd.C (Kd.int .i64) w A0 l0.length l0) (hc0 : l0.length ≤ c0) (h : impl_size_int64.f l0 = some r) :
    Calls Try.prog 147 #[.slice A0 l0.length c0] w fun e w' => e = .returned (.int .i64 r) ∧ Drawn0 w w' := by
  have HR0 := Aside0.mk hr0
  have HC0 := Aside0.mk hc0
  clear hr0 hc0
  have H : (some (l0.length : Int)) = some r := h
  clear h
  obtain rfl := yey H
  go_enter Try.func147, Try.ntmps147
  go_wp2
  go_ret
  exact ⟨by first | rfl | (simp; done) | (simp [*]; done), by repeat (first | exact Drawn0.refl _ | apply Drawn0.step)⟩
/-! ### impl_isPermutation: function 133 -/
def impl_isPermutation.l0 : Nat → List Int → Int → List Bool → List Int → Int → Int → Option (Bool)
  | 0, _, _, _, _, _, _ => none
  | k + 1, x0, x1, x5, x10, x11, x12 => if x12 < x11 then (if 0 ≤ x12 then (if x12 < (x10.length : Int) then ((impl_inRange.f (rd x10 x12) 0 (wrap64 (x1 - 1))).bind fun t105 => (if t105 = true then (if 0 ≤ (rd x10 x12) then (if (rd x10 x12) < (x5.length : Int) then (if rdOf false x5 (rd x10 x12) = true then (some false) else (impl_isPermutation.l0 k x0 x1 (x5.set ((rd x10 x12) : Int).toNat true) x10 x11 (wrap64 (x12 + 1)))) else (none)) else (none)) else (some false))) else (none)) else (none)) else ((impl_size_int64.f x0).bind fun t108 => (some (t108 == x1)))
def impl_isPermutation.f (k : Nat) (l0 : List Int) (a1 : Int) : Option (Bool) := if 0 ≤ a1 then (if (a1 : Int).toNat ≤ 281474976710656 then (impl_isPermutation.l0 k l0 a1 (List.replicate (a1 : Int).toNat false) l0 (l0.length : Int) 0) else (none)) else (none)
set_option maxHeartbeats 8000000 in
set_option maxRecDepth 100000 in
theorem impl_isPermutation.calls (k : Nat) (A0 : Option Addr) (c0 : Nat) (l0 : List Int) (a1 : Int) (r : Bool) (w : World) (hr0 : Kd.C (Kd.int .i64) w A0 l0.length l0) (hc0 : l0.length ≤ c0) (h : impl_isPermutation.f k l0 a1 = some r) :
    Calls Try.prog 133 #[.slice A0 l0.length c0, .int .i64 a1] w fun e w' => e = .returned (.bool r) ∧ Below w.heap.size w w' := by
  have HR0 := Aside0.mk hr0
  have HC0 := Aside0.mk hc0
  clear hr0 hc0
  have HB := Aside0.mk (ypy w.heap.size w)
  have H : (if 0 ≤ a1 then (if (a1 : Int).toNat ≤ 281474976710656 then (impl_isPermutation.l0 k l0 a1 (List.replicate (a1 : Int).toNat false) l0 (l0.length : Int) 0) else (none)) else (none)) = some r := h
  clear h
  by_cases c3 : 0 ≤ a1
  · rw [if_pos c3] at H
    have c3b0 := eq_true c3
    have c3b1 : decide (0 ≤ a1) = true := ygy c3
    clear c3
    by_cases c4 : (a1 : Int).toNat ≤ 281474976710656
    · rw [if_pos c4] at H
      have c4b0 := eq_true c4
      have c4b1 : decide ((a1 : Int).toNat ≤ 281474976710656) = true := ygy c4
      clear c4
      obtain ⟨y101, hy101⟩ : ∃ y_ : List Bool, y_ = (List.replicate (a1 : Int).toNat false) := ⟨_, rfl⟩
      replace H : (impl_isPermutation.l0 k l0 a1 y101 l0 (l0.length : Int) 0) = some r := by first | (rw [hy101]; with_reducible exact H) | (have H2_ := (yfy _ _).symm.trans H; rw [hy101]; with_reducible exact H2_) | (have H2_ := (yfy _ _).symm.trans H; with_reducible exact H2_) | with_reducible exact H | (rw [hy101]; exact H) | exact H
      have Ny101 := Aside0.mk hy101
      clear hy101
      have H' := Aside0.mk H
      clear H
      go_enter Try.func133, Try.ntmps133
      go_wp2_with (first | ((with_reducible refine gate_dst (N := 9) rfl ?_); refine Kd.R_make Kd.bool _ 4 rfl (N := 9) rfl 141 _ _ rfl a1 rfl rfl Try.underlying141 (.bool false) 1 info4 rfl (by decide) (by omega) false (ok := fun _ => True) (okp := fun _ => True) rfl (fun _ hk => hk) trivial (of_decide_eq_true (by first | (with_reducible assumption) | assumption)) (Nat.le_trans (Nat.mul_le_mul_right _ (of_decide_eq_true (by first | (with_reducible assumption) | assumption) : a1.toNat ≤ 281474976710656)) (by omega)) (ypy _ _) (yoy _) ?_; intro v102 w5 ho6 hb hg_ hnew_; clear hg_ hnew_; (first | rw [← Ny101.out] at ho6 | (simp only [Int.reduceToNat] at ho6; rw [← Ny101.out] at ho6)); have n0_ := Aside0.mk (Kd.R_lower ho6 (below_size (by repeat (first | (with_reducible first | exact HB.out | apply below_alloc | apply pw_below_drewN | apply below_drew1) | exact HB.out)))); have n1_ := Aside0.mk (below_step (by repeat (first | (with_reducible first | exact HB.out | apply below_alloc | apply pw_below_drewN | apply below_drew1) | exact HB.out)) hb); clear HB; have HO103 := n0_; have HB := n1_; clear n0_ n1_; clear hb ho6))
      go_loopg [12] k (fun kq v12 w' => ∃ (x5_1 : List Bool) (x12_1 : Int), v12 = .int .i64 x12_1 ∧ Aside0 (impl_isPermutation.l0 kq l0 a1 x5_1 l0 (l0.length : Int) x12_1 = some r) ∧ Aside0 (kq ≤ k) ∧ Aside0 (Kd.R Kd.bool 4 w' w.heap.size (fun _ => True) v102 x5_1) ∧ Aside0 (Below w.heap.size w w'))
      case atStart => exact ⟨(y101), (0), (by first | rfl | (simp; done) | (simp [*]; done)), H', ⟨yoy _⟩, ⟨by (with_reducible repeat (first | apply Kd.R_alloc | apply Kd.R_drewN | apply Kd.R_drew)); exact HO103.out⟩, ⟨by repeat (first | (with_reducible first | exact HB.out | apply below_alloc | apply pw_below_drewN | apply below_drew1) | exact HB.out)⟩⟩
      case round =>
        clear H'
        try clear c1
        try clear p2
        try clear c3
        try clear c3b0
        try clear c3b1
        try clear c4
        try clear c4b0
        try clear c4b1
        obtain ⟨x5_1, x12_1, rfl, HA, HK1, HO_5, HB⟩ := hrel
        cases gk with
        | zero => exact absurd HA.out (by simp [impl_isPermutation.l0])
        | succ k1 =>
          have H := HA.out
          clear HA
          simp only [impl_isPermutation.l0] at H
          by_cases c7 : x12_1 < (l0.length : Int)
          · rw [if_pos c7] at H
            have c7b0 : decide (x12_1 < (l0.length : Int)) = true := ygy c7
            clear c7
            by_cases c8 : 0 ≤ x12_1
            · rw [if_pos c8] at H
              have c8b0 : decide (0 ≤ x12_1) = true := ygy c8
              clear c8
              by_cases c9 : x12_1 < (l0.length : Int)
              · rw [if_pos c9] at H
                have c9b0 : decide (x12_1 < (l0.length : Int)) = true := ygy c9
                clear c9
                replace H := ydy.mp H
                obtain ⟨t105, A100, H⟩ := H
                replace H : (if t105 = true then (if 0 ≤ (rd l0 x12_1) then (if (rd l0 x12_1) < (x5_1.length : Int) then (if rdOf false x5_1 (rd l0 x12_1) = true then (some false) else (impl_isPermutation.l0 k1 l0 a1 (x5_1.set ((rd l0 x12_1) : Int).toNat true) l0 (l0.length : Int) (wrap64 (x12_1 + 1)))) else (none)) else (none)) else (some false)) = some r := H
                have A10 := Aside0.mk A100
                clear A100
                by_cases c11 : t105 = true
                · subst c11
                  have H1 : (if 0 ≤ (rd l0 x12_1) then (if (rd l0 x12_1) < (x5_1.length : Int) then (if rdOf false x5_1 (rd l0 x12_1) = true then (some false) else (impl_isPermutation.l0 k1 l0 a1 (x5_1.set ((rd l0 x12_1) : Int).toNat true) l0 (l0.length : Int) (wrap64 (x12_1 + 1)))) else (none)) else (none)) = some r := by rw [if_pos rfl] at H; exact H
                  clear H
                  have H := H1
                  clear H1
                  by_cases c12 : 0 ≤ (rd l0 x12_1)
                  · rw [if_pos c12] at H
                    have c12b0 : decide (0 ≤ (rd l0 x12_1)) = true := ygy c12
                    clear c12
                    by_cases c13 : (rd l0 x12_1) < (x5_1.length : Int)
                    · rw [if_pos c13] at H
                      have c13b0 : decide ((rd l0 x12_1) < (x5_1.length : Int)) = true := ygy c13
                      clear c13
                      obtain ⟨bq14, hbq14⟩ : ∃ b_ : Bool, b_ = (rdOf false x5_1 (rd l0 x12_1)) := ⟨_, rfl⟩
                      replace H : (if bq14 = true then (some false) else (impl_isPermutation.l0 k1 l0 a1 (x5_1.set ((rd l0 x12_1) : Int).toNat true) l0 (l0.length : Int) (wrap64 (x12_1 + 1)))) = some r := by rw [← hbq14] at H; exact H
                      have Nbq14 := Aside0.mk hbq14
                      clear hbq14
                      by_cases c15 : bq14 = true
                      · subst c15
                        have H1 : (some false) = some r := by rw [if_pos rfl] at H; exact H
                        clear H
                        have H := H1
                        clear H1
                        obtain rfl := yey H
                        have p104 : 0 ≤ (x12_1 : Int) := of_decide_eq_true (by first | (with_reducible assumption) | assumption)
                        have q104 : x12_1 < (l0.length : Int) := of_decide_eq_true (by first | (with_reducible assumption) | assumption)
                        obtain ⟨ad104, e104, hx104_0⟩ := Kd.at_int HR0.out x12_1 p104 q104
                        cases e104
                        replace hx104_0 := (HB.out.cell (yny w _ hx104_0)).trans hx104_0
                        replace p104 := eq_true p104
                        replace q104 := eq_true q104
                        go_wp2_with (first | ((with_reducible refine gate_callee (f := 58) rfl ?_); refine goesL_ (some 19) rfl rfl Try.func58 (by kernel_rfl) rfl #[.int .i64 (rd l0 x12_1), .int .i64 0, .int .i64 (wrap64 (a1 - 1))] rfl (by (try simp only [yiy, yjy, yky]); first | done | rfl | (simp only [yly, ymy]; rfl)) ?_; (with_reducible refine (impl_inRange.calls (rd l0 x12_1) 0 (wrap64 (a1 - 1)) true _ A10.out).mono ?_); rintro e w' ⟨rfl, ⟨nd, rfl⟩⟩; refine ⟨_, rfl, ?_⟩; obtain ⟨Ao16, co16, eo16⟩ := Kd.R_slice HO_5.out; subst eo16; have p106 : 0 ≤ ((rd l0 x12_1) : Int) := of_decide_eq_true (by first | (with_reducible assumption) | assumption); have q106 : (rd l0 x12_1) < (x5_1.length : Int) := of_decide_eq_true (by first | (with_reducible assumption) | assumption); obtain ⟨ad106, e106, hx106_0⟩ := Kd.at_bool (Kd.R_reads' HO_5.out).2.2 (rd l0 x12_1) p106 q106; (try rw [← Nbq14.out] at hx106_0); cases e106; replace p106 := eq_true p106; replace q106 := eq_true q106))
                        go_ret
                        exact ⟨by first | rfl | (simp [errW_none, errW_some] <;> rfl) | (simp [*, errW_none, errW_some] <;> rfl), by repeat (first | (with_reducible first | exact HB.out | apply below_alloc | apply pw_below_drewN | apply below_drew1) | exact HB.out)⟩
                      · replace c15 := Bool.eq_false_iff.mpr c15
                        subst c15
                        have H1 : (impl_isPermutation.l0 k1 l0 a1 (x5_1.set ((rd l0 x12_1) : Int).toNat true) l0 (l0.length : Int) (wrap64 (x12_1 + 1))) = some r := by rw [if_neg (show ¬ (false = true) by decide)] at H; exact H
                        clear H
                        have H := H1
                        clear H1
                        obtain ⟨y107, hy107⟩ : ∃ y_ : List Bool, y_ = (x5_1.set ((rd l0 x12_1) : Int).toNat true) := ⟨_, rfl⟩
                        replace H : (impl_isPermutation.l0 k1 l0 a1 y107 l0 (l0.length : Int) (wrap64 (x12_1 + 1))) = some r := by first | (rw [hy107]; with_reducible exact H) | (have H2_ := (yfy _ _).symm.trans H; rw [hy107]; with_reducible exact H2_) | (have H2_ := (yfy _ _).symm.trans H; with_reducible exact H2_) | with_reducible exact H | (rw [hy107]; exact H) | exact H
                        have Ny107 := Aside0.mk hy107
                        clear hy107
                        have H' := Aside0.mk H
                        clear H
                        have p104 : 0 ≤ (x12_1 : Int) := of_decide_eq_true (by first | (with_reducible assumption) | assumption)
                        have q104 : x12_1 < (l0.length : Int) := of_decide_eq_true (by first | (with_reducible assumption) | assumption)
                        obtain ⟨ad104, e104, hx104_0⟩ := Kd.at_int HR0.out x12_1 p104 q104
                        cases e104
                        replace hx104_0 := (HB.out.cell (yny w _ hx104_0)).trans hx104_0
                        replace p104 := eq_true p104
                        replace q104 := eq_true q104
                        go_wp2_with (first | ((with_reducible refine gate_callee (f := 58) rfl ?_); refine goesL_ (some 19) rfl rfl Try.func58 (by kernel_rfl) rfl #[.int .i64 (rd l0 x12_1), .int .i64 0, .int .i64 (wrap64 (a1 - 1))] rfl (by (try simp only [yiy, yjy, yky]); first | done | rfl | (simp only [yly, ymy]; rfl)) ?_; (with_reducible refine (impl_inRange.calls (rd l0 x12_1) 0 (wrap64 (a1 - 1)) true _ A10.out).mono ?_); rintro e w' ⟨rfl, ⟨nd, rfl⟩⟩; refine ⟨_, rfl, ?_⟩; (try (rw [drewN_self wr]; generalize hq_ : World.drewN wr _ = wr; have n0_ : Aside0 (Kd.R Kd.bool 4 wr w.heap.size (fun _ => True) v102 x5_1) := ⟨by rw [← hq_]; exact (by (with_reducible repeat (first | apply Kd.R_alloc | apply Kd.R_drewN | apply Kd.R_drew)); exact HO_5.out)⟩; have n1_ : Aside0 (Below w.heap.size w wr) := ⟨by rw [← hq_]; exact (by repeat (first | (with_reducible first | exact HB.out | apply below_alloc | apply pw_below_drewN | apply below_drew1) | exact HB.out))⟩; clear HO_5 HB hq_; have HO_5 := n0_; have HB := n1_; clear n0_ n1_)); obtain ⟨Ao18, co18, eo18⟩ := Kd.R_slice HO_5.out; subst eo18; have p106 : 0 ≤ ((rd l0 x12_1) : Int) := of_decide_eq_true (by first | (with_reducible assumption) | assumption); have q106 : (rd l0 x12_1) < (x5_1.length : Int) := of_decide_eq_true (by first | (with_reducible assumption) | assumption); obtain ⟨ad106, e106, hx106_0⟩ := Kd.at_bool (Kd.R_reads' HO_5.out).2.2 (rd l0 x12_1) p106 q106; (try rw [← Nbq14.out] at hx106_0); cases e106; replace p106 := eq_true p106; replace q106 := eq_true q106; have p17 : 0 ≤ ((rd l0 x12_1) : Int) := of_decide_eq_true (by first | (with_reducible assumption) | assumption); have q17 : ((rd l0 x12_1) : Int) < ((x5_1.length : Int) : Int) := of_decide_eq_true (by first | (with_reducible assumption) | assumption); obtain ⟨go17, co17, eo17, gb17, gl17, cl17, HG17⟩ := Kd.R_form HO_5.out (by omega); (first | cases eo17 | (injection eo17 with ea_ en_ ec_; (first | subst ea_ | (injection ea_ with ea_; subst ea_)); subst ec_; clear en_)); have GB17 := Aside0.mk gb17; have GG17 := Aside0.mk HG17; clear gb17 gl17 HG17; (first | simp only [add_plain] at hx106_0 | skip); obtain ⟨hx17_0, hf17_0⟩ := Kd.R_celln false HO_5.out ((rd l0 x12_1) : Int) p17 q17; replace p17 := eq_true p17; replace q17 := eq_true q17; obtain ⟨hy19_, hz19_⟩ := Kd.R_celln false HO_5.out ((rd l0 x12_1) : Int) (of_decide_eq_true (by first | (with_reducible assumption) | assumption)) (of_decide_eq_true (by first | (with_reducible assumption) | assumption)); have HP19 := Kd.R_putg HO_5.out ((rd l0 x12_1) : Int) true) | ((with_reducible refine gate_store (t := 4) (p := 29) rfl ?_); refine store_event (t := 4) (p := 29) (v := ?vo_w20) (w1 := (wr.setCell ⟨go17, ((rd l0 x12_1) : Int).toNat, none⟩ (.bool true))) ?hg ?ho ?hn ?hr ?_; (case ho => rfl); (case hg => rfl); (case hn => rfl); (case hr => first | (go_simp; done) | (go_simp; rfl)); intro w20 hw; have hg : wr.grownBy w20 (some go17) := (by rw [hw]; exact HP19.2); have hp_ : Kd.R Kd.bool 4 w20 w.heap.size (fun _ => True) (.slice (some ⟨go17, 0, none⟩) x5_1.length co18) y107 := (by rw [hw, Ny107.out]; exact HP19.1); clear HP19; have n0_ := Aside0.mk (hp_); have n1_ := Aside0.mk ((by rw [hw]; exact below_set (HB.out) GB17.out : Below w.heap.size w w20)); clear HO_5; clear HB; have HO_5 := n0_; have HB := n1_; clear n0_ n1_; clear hg hw hp_))
                        go_roundg k1
                        case measure => have := HK1.out; omega
                        case rel => exact ⟨(y107), (wrap64 (x12_1 + 1)), (by first | rfl | (simp; done) | (simp [*]; done)), H', ⟨by have := HK1.out; omega⟩, ⟨by (with_reducible repeat (first | apply Kd.R_alloc | apply Kd.R_drewN | apply Kd.R_drew)); exact HO_5.out⟩, ⟨by repeat (first | (with_reducible first | exact HB.out | apply below_alloc | apply pw_below_drewN | apply below_drew1) | exact HB.out)⟩⟩
                    · rw [if_neg c13] at H
                      exact absurd H (by simp)
                  · rw [if_neg c12] at H
                    exact absurd H (by simp)
                · replace c11 := Bool.eq_false_iff.mpr c11
                  subst c11
                  have H1 : (some false) = some r := by rw [if_neg (show ¬ (false = true) by decide)] at H; exact H
                  clear H
                  have H := H1
                  clear H1
                  obtain rfl := yey H
                  have p104 : 0 ≤ (x12_1 : Int) := of_decide_eq_true (by first | (with_reducible assumption) | assumption)
                  have q104 : x12_1 < (l0.length : Int) := of_decide_eq_true (by first | (with_reducible assumption) | assumption)
                  obtain ⟨ad104, e104, hx104_0⟩ := Kd.at_int HR0.out x12_1 p104 q104
                  cases e104
                  replace hx104_0 := (HB.out.cell (yny w _ hx104_0)).trans hx104_0
                  replace p104 := eq_true p104
                  replace q104 := eq_true q104
                  go_wp2_with (first | ((with_reducible refine gate_callee (f := 58) rfl ?_); refine goesL_ (some 19) rfl rfl Try.func58 (by kernel_rfl) rfl #[.int .i64 (rd l0 x12_1), .int .i64 0, .int .i64 (wrap64 (a1 - 1))] rfl (by (try simp only [yiy, yjy, yky]); first | done | rfl | (simp only [yly, ymy]; rfl)) ?_; (with_reducible refine (impl_inRange.calls (rd l0 x12_1) 0 (wrap64 (a1 - 1)) false _ A10.out).mono ?_); rintro e w' ⟨rfl, ⟨nd, rfl⟩⟩; refine ⟨_, rfl, ?_⟩))
                  go_ret
                  exact ⟨by first | rfl | (simp [errW_none, errW_some] <;> rfl) | (simp [*, errW_none, errW_some] <;> rfl), by repeat (first | (with_reducible first | exact HB.out | apply below_alloc | apply pw_below_drewN | apply below_drew1) | exact HB.out)⟩
              · rw [if_neg c9] at H
                exact absurd H (by simp)
            · rw [if_neg c8] at H
              exact absurd H (by simp)
          · rw [if_neg c7] at H
            have c7b0 : decide (x12_1 < (l0.length : Int)) = false := yhy c7
            clear c7
            replace H := ydy.mp H
            obtain ⟨t108, A210, H⟩ := H
            replace H : (some (t108 == a1)) = some r := H
            have A21 := Aside0.mk A210
            clear A210
            obtain rfl := yey H
            go_wp2_with (first | ((with_reducible refine gate_callee (f := 147) rfl ?_); refine goesL_ (some 32) rfl rfl Try.func147 (by kernel_rfl) rfl #[.slice A0 l0.length c0] rfl (by (try simp only [yiy, yjy, yky]); first | done | rfl | (simp only [yly, ymy]; rfl)) ?_; (with_reducible refine (impl_size_int64.calls _ _ l0 t108 _ ?side1 ?side2 A21.out).mono ?_); (case side1 => repeat (first | exact (Kd.C_below HR0.out HB.out) | (with_reducible refine Kd.C_alloc ?_ _) | (with_reducible refine Kd.C_drewN ?_ _) | (with_reducible refine Kd.C_drew ?_))); (case side2 => exact HC0.out); rintro e w' ⟨rfl, ⟨nd, rfl⟩⟩; refine ⟨_, rfl, ?_⟩))
            go_ret
            exact ⟨by first | rfl | (simp [errW_none, errW_some] <;> rfl) | (simp [*, errW_none, errW_some] <;> rfl), by repeat (first | (with_reducible first | exact HB.out | apply below_alloc | apply pw_below_drewN | apply below_drew1) | exact HB.out)⟩
    · rw [if_neg c4] at H
      exact absurd H (by simp)
  · rw [if_neg c3] at H
    exact absurd H (by simp)
/-! ### impl_size_Simpl_Face: function 79 -/
def impl_size_Simpl_Face.f (l0 : List (List (SFace))) : Option (Int) := some (l0.length : Int)
set_option maxHeartbeats 8000000 in
set_option maxRecDepth 100000 in
theorem impl_size_Simpl_Face.calls (A0 : Option Addr) (c0 : Nat) (l0 : List (List (SFace))) (r : Int) (w : World) (hr0 : Kd.C (Kd.slice 74 kFace) w A0 l0.length l0) (hc0 : l0.length ≤ c0) (h : impl_size_Simpl_Face.f l0 = some r) :
    Calls Try.prog 79 #[.slice A0 l0.length c0] w fun e w' => e = .returned (.int .i64 r) ∧ Drawn0 w w' := by
  have HR0 := Aside0.mk hr0
  have HC0 := Aside0.mk hc0
  clear hr0 hc0
  have H : (some (l0.length : Int)) = some r := h
  clear h
  obtain rfl := yey H
  go_enter Try.func79, Try.ntmps79
  go_wp2
  go_ret
  exact ⟨by first | rfl | (simp; done) | (simp [*]; done), by repeat (first | exact Drawn0.refl _ | apply Drawn0.step)⟩
/-! ### impl_isPerm: function 73 -/
def impl_isPerm.f (a0 : Int) : Option (Bool) := (impl_inRange.f a0 0 23).bind fun t101 => (some t101)
set_option maxHeartbeats 8000000 in
set_option maxRecDepth 100000 in
theorem impl_isPerm.calls (a0 : Int) (r : Bool) (w : World) (h : impl_isPerm.f a0 = some r) :
    Calls Try.prog 73 #[.int .i64 a0] w fun e w' => e = .returned (.bool r) ∧ Drawn0 w w' := by
  have H : ((impl_inRange.f a0 0 23).bind fun t101 => (some t101)) = some r := h
  clear h
  replace H := ydy.mp H
  obtain ⟨t101, A20, H⟩ := H
  replace H : (some t101) = some r := H
  have A2 := Aside0.mk A20
  clear A20
  obtain rfl := yey H
  go_enter Try.func73, Try.ntmps73
  go_wp2_with (first | ((with_reducible refine gate_callee (f := 58) rfl ?_); refine goesL_ (some 4) rfl rfl Try.func58 (by kernel_rfl) rfl #[.int .i64 a0, .int .i64 0, .int .i64 23] rfl (by (try simp only [yiy, yjy, yky]); first | done | rfl | (simp only [yly, ymy]; rfl)) ?_; (with_reducible refine (impl_inRange.calls a0 0 23 t101 _ A2.out).mono ?_); rintro e w' ⟨rfl, ⟨nd, rfl⟩⟩; refine ⟨_, rfl, ?_⟩))
  go_ret
  exact ⟨by first | rfl | (simp; done) | (simp [*]; done), by repeat (first | exact Drawn0.refl _ | apply Drawn0.step)⟩
/-! ### impl_isRelabeling_1: function 135 -/
def impl_isRelabeling_1.f (a0 : Int) : Option (Bool) := (impl_isPerm.f a0).bind fun t101 => (some (!t101))
set_option maxHeartbeats 8000000 in
set_option maxRecDepth 100000 in
theorem impl_isRelabeling_1.calls (a0 : Int) (r : Bool) (w : World) (h : impl_isRelabeling_1.f a0 = some r) :
    Calls Try.prog 135 #[.int .i64 a0] w fun e w' => e = .returned (.bool r) ∧ Drawn0 w w' := by
  have H : ((impl_isPerm.f a0).bind fun t101 => (some (!t101))) = some r := h
  clear h
  replace H := ydy.mp H
  obtain ⟨t101, A20, H⟩ := H
  replace H : (some (!t101)) = some r := H
  have A2 := Aside0.mk A20
  clear A20
  obtain rfl := yey H
  go_enter Try.func135, Try.ntmps135
  go_wp2_with (first | ((with_reducible refine gate_callee (f := 73) rfl ?_); refine goesL_ (some 4) rfl rfl Try.func73 (by kernel_rfl) rfl #[.int .i64 a0] rfl (by (try simp only [yiy, yjy, yky]); first | done | rfl | (simp only [yly, ymy]; rfl)) ?_; (with_reducible refine (impl_isPerm.calls a0 t101 _ A2.out).mono ?_); rintro e w' ⟨rfl, ⟨nd, rfl⟩⟩; refine ⟨_, rfl, ?_⟩))
  go_ret
  exact ⟨by first | rfl | (simp; done) | (simp [*]; done), by repeat (first | exact Drawn0.refl _ | apply Drawn0.step)⟩
end Go.Proofs.Ytdgdnnjigigkcaa.P
namespace Go.Proofs.Ytdgdnnjigigkcaa.Lib
open Go.RowKit Go.Proofs.YtdgdnnjigigkcaaW.PrintWords
/-- The place of the first element that f tells true, or -1. -/
def idxO {α : Type} (f : α → Option Bool) : Nat → List α → Option Int
  | _, [] => some (-1)
  | i, x :: xs => (f x).bind fun b => if b = true then some (i : Int) else idxO f (i + 1) xs
theorem idxO_cons {α : Type} (f : α → Option Bool) (i : Nat) (x : α) (xs : List α) : idxO f i (x :: xs) = (f x).bind fun b => if b = true then some (i : Int) else idxO f (i + 1) xs := rfl
end Go.Proofs.Ytdgdnnjigigkcaa.Lib
namespace Go.Proofs.Ytdgdnnjigigkcaa.P
open Go.RowKit Go.Proofs.YtdgdnnjigigkcaaW.PrintWords Go.Proofs.YtdgdnnjigigkcaaW.PrintLast Go.Proofs.YtdgdnnjigigkcaaW.PrintMore
attribute [local go_sem] max2_int min2_int max_two min_two max_three min_three max_four min_four   -- for this text's walks alone
set_option linter.unusedVariables false
set_option linter.unusedSimpArgs false
open Go.Proofs.Ytdgdnnjigigkcaa.Lib
/-! ### slices_IndexFunc_Sint64_at_impl_isRelabeling_1: function 163 at the literal 135 -/
def slices_IndexFunc_Sint64_at_impl_isRelabeling_1.f (l0 : List Int) : Option Int := idxO (fun x => impl_isRelabeling_1.f x) 0 l0
set_option maxHeartbeats 8000000 in
set_option maxRecDepth 100000 in
theorem slices_IndexFunc_Sint64_at_impl_isRelabeling_1.calls (A0 : Option Addr) (c0 : Nat) (l0 : List Int) (r : Int) (w : World) (hr0 : Kd.C (Kd.int .i64) w A0 l0.length l0) (hc0 : l0.length ≤ c0) (h : slices_IndexFunc_Sint64_at_impl_isRelabeling_1.f l0 = some r) :
    Calls Try.prog 163 #[.slice A0 l0.length c0, .func (.func 135) #[] #[]] w fun e w' => e = .returned (.int .i64 r) ∧ Below w.heap.size w w' := by
  have HR0 := Aside0.mk hr0
  clear hr0 hc0
  have hbig : l0.length ≤ 9223372036854775807 := HR0.out.2.1
  have HB := Aside0.mk (ypy w.heap.size w)
  have H' := Aside0.mk (show idxO (fun x => impl_isRelabeling_1.f x) 0 l0 = some r from h)
  clear h
  go_enter Try.func163, Try.ntmps163
  go_wp2
  go_loopg [5, 8] l0.length (fun gg v5 v8 w' => ∃ kk : Nat, kk ≤ l0.length ∧ l0.length - kk ≤ gg ∧ v8 = .int .i64 kk ∧ Aside0 (idxO (fun x => impl_isRelabeling_1.f x) kk (l0.drop kk) = some r) ∧ Aside0 (Below w.heap.size w w'))
  case atStart => exact ⟨0, Nat.zero_le _, by omega, rfl, H', HB⟩
  case round =>
    clear H' HB
    obtain ⟨kk, hkk, hg, rfl, HA, HB⟩ := hrel
    by_cases hlt : kk < l0.length
    · have hltz : (kk : Int) < (l0.length : Int) := by omega
      have H := HA.out
      clear HA
      rw [List.drop_eq_getElem_cons hlt, idxO_cons] at H
      replace H := ydy.mp H
      obtain ⟨b, hb, H⟩ := H
      obtain ⟨ad, e104, hx⟩ := Kd.at_int HR0.out (kk : Int) (by omega) (by omega)
      have ex : rd l0 (kk : Int) = l0[kk] := by simp [rd, hlt]
      rw [ex, Int.toNat_natCast] at hx
      replace hx := (HB.out.cell (yny w _ hx)).trans hx
      generalize l0[kk] = y at hx hb
      clear ex
      cases e104
      have HC := Aside0.mk hb
      clear hb
      cases b with
      | true =>
        have H2 := Aside0.mk H
        clear H
        go_wp2_with fail
        refine (impl_isRelabeling_1.calls _ _ _ HC.out).mono ?_
        rintro e w' ⟨rfl, hd⟩
        have HB2 := Aside0.mk (below_step HB.out hd.below)
        clear hd HB
        go_wp2
        go_ret
        exact ⟨by rw [yey H2.out]; rfl, HB2.out⟩
      | false =>
        have H2 := Aside0.mk H
        clear H
        go_wp2_with fail
        refine (impl_isRelabeling_1.calls _ _ _ HC.out).mono ?_
        rintro e w' ⟨rfl, hd⟩
        have HB2 := Aside0.mk (below_step HB.out hd.below)
        clear hd HB
        go_wp2
        go_roundg (l0.length - (kk + 1))
        case measure => omega
        case rel => exact ⟨kk + 1, by omega, by omega, by go_num, H2, HB2⟩
    · have hltz : ¬ (kk : Int) < (l0.length : Int) := by omega
      have e : kk = l0.length := by omega
      subst e
      have H2 := Aside0.mk (yey (by simpa [idxO] using HA.out))
      clear HA
      go_wp2
      go_ret
      exact ⟨by rw [← H2.out]; rfl, HB.out⟩
/-! ### slices_ContainsFunc_Sint64_at_impl_isRelabeling_1: function 134 at the literal 135 -/
def slices_ContainsFunc_Sint64_at_impl_isRelabeling_1.f (l0 : List Int) : Option Bool := (slices_IndexFunc_Sint64_at_impl_isRelabeling_1.f l0).bind fun i => some (decide (0 ≤ i))
set_option maxHeartbeats 8000000 in
set_option maxRecDepth 100000 in
theorem slices_ContainsFunc_Sint64_at_impl_isRelabeling_1.calls (A0 : Option Addr) (c0 : Nat) (l0 : List Int) (r : Bool) (w : World) (hr0 : Kd.C (Kd.int .i64) w A0 l0.length l0) (hc0 : l0.length ≤ c0) (h : slices_ContainsFunc_Sint64_at_impl_isRelabeling_1.f l0 = some r) :
    Calls Try.prog 134 #[.slice A0 l0.length c0, .func (.func 135) #[] #[]] w fun e w' => e = .returned (.bool r) ∧ Below w.heap.size w w' := by
  obtain ⟨i, hi, h⟩ := ydy.mp h
  have H := Aside0.mk (yey h)
  clear h
  have HI := Aside0.mk hi
  clear hi
  have HR0 := Aside0.mk hr0
  have HC0 := Aside0.mk hc0
  clear hr0 hc0
  go_enter Try.func134, Try.ntmps134
  go_wp2_with fail
  refine (slices_IndexFunc_Sint64_at_impl_isRelabeling_1.calls _ _ _ _ _ HR0.out HC0.out HI.out).mono ?_
  rintro e w' ⟨rfl, hd⟩
  have HB := Aside0.mk hd
  clear hd
  go_wp2
  go_ret
  exact ⟨by rw [← H.out]; rfl, HB.out⟩
end Go.Proofs.Ytdgdnnjigigkcaa.P
namespace Go.Proofs.Ytdgdnnjigigkcaa.P
open Go.RowKit Go.Proofs.YtdgdnnjigigkcaaW.PrintWords Go.Proofs.YtdgdnnjigigkcaaW.PrintLast Go.Proofs.YtdgdnnjigigkcaaW.PrintMore
attribute [local go_sem] max2_int min2_int max_two min_two max_three min_three max_four min_four   -- for this text's walks alone
set_option linter.unusedVariables false
set_option linter.unusedSimpArgs false
/-! ### impl_isRelabeling: function 86 -/
def impl_isRelabeling.f (k : Nat) (l0_0 : List (List (SFace))) (l1 : List Int) (l2 : List Int) : Option (Bool) := (impl_size_Simpl_Face.f l0_0).bind fun t102 => ((impl_isPermutation.f k l1 t102).bind fun t103 => (if t103 = true then (if (l2.length : Int) = (l0_0.length : Int) then ((slices_ContainsFunc_Sint64_at_impl_isRelabeling_1.f l2).bind fun t104 => (some (!t104))) else (some false)) else (some false)))
set_option maxHeartbeats 8000000 in
set_option maxRecDepth 100000 in
theorem impl_isRelabeling.calls (k : Nat) (A0_0 : Option Addr) (c0_0 : Nat) (l0_0 : List (List (SFace))) (A1 : Option Addr) (c1 : Nat) (l1 : List Int) (A2 : Option Addr) (c2 : Nat) (l2 : List Int) (r : Bool) (w : World) (hr0_0 : Kd.C (Kd.slice 74 kFace) w A0_0 l0_0.length l0_0) (hc0_0 : l0_0.length ≤ c0_0) (hr1 : Kd.C (Kd.int .i64) w A1 l1.length l1) (hc1 : l1.length ≤ c1) (hr2 : Kd.C (Kd.int .i64) w A2 l2.length l2) (hc2 : l2.length ≤ c2) (h : impl_isRelabeling.f k l0_0 l1 l2 = some r) :
    Calls Try.prog 86 #[.agg #[.slice A0_0 l0_0.length c0_0], .slice A1 l1.length c1, .slice A2 l2.length c2] w fun e w' => e = .returned (.bool r) ∧ Below w.heap.size w w' := by
  have hu28 := Try.underlying28
  have HR0_0 := Aside0.mk hr0_0
  have HC0_0 := Aside0.mk hc0_0
  clear hr0_0 hc0_0
  have HR1 := Aside0.mk hr1
  have HC1 := Aside0.mk hc1
  clear hr1 hc1
  have HR2 := Aside0.mk hr2
  have HC2 := Aside0.mk hc2
  clear hr2 hc2
  have HB := Aside0.mk (ypy w.heap.size w)
  have H : ((impl_size_Simpl_Face.f l0_0).bind fun t102 => ((impl_isPermutation.f k l1 t102).bind fun t103 => (if t103 = true then (if (l2.length : Int) = (l0_0.length : Int) then ((slices_ContainsFunc_Sint64_at_impl_isRelabeling_1.f l2).bind fun t104 => (some (!t104))) else (some false)) else (some false)))) = some r := h
  clear h
  replace H := ydy.mp H
  obtain ⟨t102, A40, H⟩ := H
  replace H : ((impl_isPermutation.f k l1 t102).bind fun t103 => (if t103 = true then (if (l2.length : Int) = (l0_0.length : Int) then ((slices_ContainsFunc_Sint64_at_impl_isRelabeling_1.f l2).bind fun t104 => (some (!t104))) else (some false)) else (some false))) = some r := H
  have A4 := Aside0.mk A40
  clear A40
  replace H := ydy.mp H
  obtain ⟨t103, A50, H⟩ := H
  replace H : (if t103 = true then (if (l2.length : Int) = (l0_0.length : Int) then ((slices_ContainsFunc_Sint64_at_impl_isRelabeling_1.f l2).bind fun t104 => (some (!t104))) else (some false)) else (some false)) = some r := H
  have A5 := Aside0.mk A50
  clear A50
  by_cases c6 : t103 = true
  · subst c6
    have H1 : (if (l2.length : Int) = (l0_0.length : Int) then ((slices_ContainsFunc_Sint64_at_impl_isRelabeling_1.f l2).bind fun t104 => (some (!t104))) else (some false)) = some r := by rw [if_pos rfl] at H; exact H
    clear H
    have H := H1
    clear H1
    by_cases c7 : (l2.length : Int) = (l0_0.length : Int)
    · rw [if_pos c7] at H
      have c7b0 : ((l2.length : Int) == (l0_0.length : Int)) = true := beq_iff_eq.mpr c7
      have c7b1 : ((l2.length : Int) != (l0_0.length : Int)) = false := bne_eq_false_iff_eq.mpr c7
      have c7b2 : (l2.length == l0_0.length) = true := by first | simpa using c7 | (simp at c7 ⊢; omega)
      clear c7
      replace H := ydy.mp H
      obtain ⟨t104, A80, H⟩ := H
      replace H : (some (!t104)) = some r := H
      have A8 := Aside0.mk A80
      clear A80
      obtain rfl := yey H
      go_enter Try.func86, Try.ntmps86
      go_wp2_with (first | ((with_reducible refine gate_dst (N := 3) rfl ?_); (try (refine gate_guard (by rfl) ?_; dsimp only)); refine box_event ?hg (N := 3) ?hd (cs := #[.slice A0_0 l0_0.length c0_0]) (t := 28) ?hr ?_; (case hd => rfl); (case hg => rfl); (case hr => first | (go_simp; done) | (go_simp; rfl)); intro gb101 hg w9 hbox hb; have n0_ := Aside0.mk (below_step (by repeat (first | (with_reducible first | exact HB.out | apply below_alloc | apply pw_below_drewN | apply below_drew1) | exact HB.out)) hb); have n1_ := Aside0.mk (hbox); have n2_ := Aside0.mk ((by rw [hg]; exact (below_size (by repeat (first | (with_reducible first | exact HB.out | apply below_alloc | apply pw_below_drewN | apply below_drew1) | exact HB.out))) : w.heap.size ≤ gb101)); have n3_ := Aside0.mk ((by rw [hg]; exact (below_size (by repeat (first | (with_reducible first | exact HB.out | apply below_alloc | apply pw_below_drewN | apply below_drew1) | exact HB.out))) : w.heap.size ≤ gb101)); clear HB; have HB := n0_; have BK101 := n1_; have GW101 := n2_; have GE101 := n3_; clear n0_ n1_ n2_ n3_; clear hb hbox hg; have hcz10_0 : w9.cell? ⟨gb101, 0, none⟩ = some (.slice A0_0 l0_0.length c0_0) := (blk_cell BK101.out 0).trans rfl; have hfz10_0 := blk_frozen BK101.out 0) | ((with_reducible refine gate_callee (f := 79) rfl ?_); refine goesL_ (some 10) rfl rfl Try.func79 (by kernel_rfl) rfl #[.slice A0_0 l0_0.length c0_0] rfl (by (try simp only [yiy, yjy, yky]); first | done | rfl | (simp only [yly, ymy]; rfl)) ?_; (with_reducible refine (impl_size_Simpl_Face.calls _ _ l0_0 t102 _ ?side1 ?side2 A4.out).mono ?_); (case side1 => repeat (first | exact (Kd.C_below HR0_0.out HB.out) | (with_reducible refine Kd.C_alloc ?_ _) | (with_reducible refine Kd.C_drewN ?_ _) | (with_reducible refine Kd.C_drew ?_))); (case side2 => exact HC0_0.out); rintro e w' ⟨rfl, ⟨nd, rfl⟩⟩; refine ⟨_, rfl, ?_⟩) | ((with_reducible refine gate_callee (f := 133) rfl ?_); refine goesL_ (some 11) rfl rfl Try.func133 (by kernel_rfl) rfl #[.slice A1 l1.length c1, .int .i64 t102] rfl (by (try simp only [yiy, yjy, yky]); first | done | rfl | (simp only [yly, ymy]; rfl)) ?_; (with_reducible refine (impl_isPermutation.calls k _ _ l1 t102 true _ ?side1 ?side2 A5.out).mono ?_); (case side1 => repeat (first | exact (Kd.C_below HR1.out (by repeat (first | (with_reducible first | exact HB.out | apply below_alloc | apply pw_below_drewN | apply below_drew1 | refine below_set ?_ GE101.out) | exact HB.out))) | (with_reducible refine Kd.C_alloc ?_ _) | (with_reducible refine Kd.C_drewN ?_ _) | (with_reducible refine Kd.C_drew ?_))); (case side2 => exact HC1.out); rintro e w11 ⟨rfl, hb⟩; refine ⟨_, rfl, ?_⟩; have n0_ := Aside0.mk (blk_below (g := gb101) (o := .cells #[.slice A0_0 l0_0.length c0_0] 28 (0, 0)) (by (with_reducible repeat (first | refine blk_drewN ?_ _ | refine blk_drew ?_ | refine blk_alloc ?_ _)); exact BK101.out) hb); have n1_ := Aside0.mk (below_step (by repeat (first | (with_reducible first | exact HB.out | apply below_alloc | apply pw_below_drewN | apply below_drew1 | refine below_set ?_ GE101.out) | exact HB.out)) hb); clear BK101; clear HB; have BK101 := n0_; have HB := n1_; clear n0_ n1_; (try clear hb); (try clear hb2); (try clear hk); (try clear hi); have hcz12_0 : w11.cell? ⟨gb101, 0, none⟩ = some (.slice A0_0 l0_0.length c0_0) := (blk_cell BK101.out 0).trans rfl; have hfz12_0 := blk_frozen BK101.out 0) | (go_at_call 134; (with_reducible refine (slices_ContainsFunc_Sint64_at_impl_isRelabeling_1.calls _ _ l2 t104 _ ?side1 ?side2 A8.out).mono ?_); (case side1 => repeat (first | exact (Kd.C_below HR2.out HB.out) | (with_reducible refine Kd.C_alloc ?_ _) | (with_reducible refine Kd.C_drewN ?_ _) | (with_reducible refine Kd.C_drew ?_))); (case side2 => exact HC2.out); rintro e w13 ⟨rfl, hb⟩; have n0_ := Aside0.mk (blk_below (g := gb101) (o := .cells #[.slice A0_0 l0_0.length c0_0] 28 (0, 0)) (by (with_reducible repeat (first | refine blk_drewN ?_ _ | refine blk_drew ?_ | refine blk_alloc ?_ _)); exact BK101.out) hb); have n1_ := Aside0.mk (below_step (by repeat (first | (with_reducible first | exact HB.out | apply below_alloc | apply pw_below_drewN | apply below_drew1 | refine below_set ?_ GE101.out) | exact HB.out)) hb); clear BK101; clear HB; have BK101 := n0_; have HB := n1_; clear n0_ n1_; (try clear hb); (try clear hb2); (try clear hk); (try clear hi)))
      go_ret
      exact ⟨by first | rfl | (simp [errW_none, errW_some] <;> rfl) | (simp [*, errW_none, errW_some] <;> rfl), by repeat (first | (with_reducible first | exact HB.out | apply below_alloc | apply pw_below_drewN | apply below_drew1 | refine below_set ?_ GE101.out) | exact HB.out)⟩
    · rw [if_neg c7] at H
      have c7b0 : ((l2.length : Int) == (l0_0.length : Int)) = false := beq_eq_false_iff_ne.mpr c7
      have c7b1 : ((l2.length : Int) != (l0_0.length : Int)) = true := bne_iff_ne.mpr c7
      have c7b2 : (l2.length == l0_0.length) = false := by first | simpa using c7 | (simp at c7 ⊢; omega)
      obtain rfl := yey H
      go_enter Try.func86, Try.ntmps86
      go_wp2_with (first | ((with_reducible refine gate_dst (N := 3) rfl ?_); (try (refine gate_guard (by rfl) ?_; dsimp only)); refine box_event ?hg (N := 3) ?hd (cs := #[.slice A0_0 l0_0.length c0_0]) (t := 28) ?hr ?_; (case hd => rfl); (case hg => rfl); (case hr => first | (go_simp; done) | (go_simp; rfl)); intro gb101 hg w14 hbox hb; have n0_ := Aside0.mk (below_step (by repeat (first | (with_reducible first | exact HB.out | apply below_alloc | apply pw_below_drewN | apply below_drew1) | exact HB.out)) hb); have n1_ := Aside0.mk (hbox); have n2_ := Aside0.mk ((by rw [hg]; exact (below_size (by repeat (first | (with_reducible first | exact HB.out | apply below_alloc | apply pw_below_drewN | apply below_drew1) | exact HB.out))) : w.heap.size ≤ gb101)); have n3_ := Aside0.mk ((by rw [hg]; exact (below_size (by repeat (first | (with_reducible first | exact HB.out | apply below_alloc | apply pw_below_drewN | apply below_drew1) | exact HB.out))) : w.heap.size ≤ gb101)); clear HB; have HB := n0_; have BK101 := n1_; have GW101 := n2_; have GE101 := n3_; clear n0_ n1_ n2_ n3_; clear hb hbox hg; have hcz15_0 : w14.cell? ⟨gb101, 0, none⟩ = some (.slice A0_0 l0_0.length c0_0) := (blk_cell BK101.out 0).trans rfl; have hfz15_0 := blk_frozen BK101.out 0) | ((with_reducible refine gate_callee (f := 79) rfl ?_); refine goesL_ (some 10) rfl rfl Try.func79 (by kernel_rfl) rfl #[.slice A0_0 l0_0.length c0_0] rfl (by (try simp only [yiy, yjy, yky]); first | done | rfl | (simp only [yly, ymy]; rfl)) ?_; (with_reducible refine (impl_size_Simpl_Face.calls _ _ l0_0 t102 _ ?side1 ?side2 A4.out).mono ?_); (case side1 => repeat (first | exact (Kd.C_below HR0_0.out HB.out) | (with_reducible refine Kd.C_alloc ?_ _) | (with_reducible refine Kd.C_drewN ?_ _) | (with_reducible refine Kd.C_drew ?_))); (case side2 => exact HC0_0.out); rintro e w' ⟨rfl, ⟨nd, rfl⟩⟩; refine ⟨_, rfl, ?_⟩) | ((with_reducible refine gate_callee (f := 133) rfl ?_); refine goesL_ (some 11) rfl rfl Try.func133 (by kernel_rfl) rfl #[.slice A1 l1.length c1, .int .i64 t102] rfl (by (try simp only [yiy, yjy, yky]); first | done | rfl | (simp only [yly, ymy]; rfl)) ?_; (with_reducible refine (impl_isPermutation.calls k _ _ l1 t102 true _ ?side1 ?side2 A5.out).mono ?_); (case side1 => repeat (first | exact (Kd.C_below HR1.out (by repeat (first | (with_reducible first | exact HB.out | apply below_alloc | apply pw_below_drewN | apply below_drew1 | refine below_set ?_ GE101.out) | exact HB.out))) | (with_reducible refine Kd.C_alloc ?_ _) | (with_reducible refine Kd.C_drewN ?_ _) | (with_reducible refine Kd.C_drew ?_))); (case side2 => exact HC1.out); rintro e w16 ⟨rfl, hb⟩; refine ⟨_, rfl, ?_⟩; have n0_ := Aside0.mk (blk_below (g := gb101) (o := .cells #[.slice A0_0 l0_0.length c0_0] 28 (0, 0)) (by (with_reducible repeat (first | refine blk_drewN ?_ _ | refine blk_drew ?_ | refine blk_alloc ?_ _)); exact BK101.out) hb); have n1_ := Aside0.mk (below_step (by repeat (first | (with_reducible first | exact HB.out | apply below_alloc | apply pw_below_drewN | apply below_drew1 | refine below_set ?_ GE101.out) | exact HB.out)) hb); clear BK101; clear HB; have BK101 := n0_; have HB := n1_; clear n0_ n1_; (try clear hb); (try clear hb2); (try clear hk); (try clear hi); have hcz17_0 : w16.cell? ⟨gb101, 0, none⟩ = some (.slice A0_0 l0_0.length c0_0) := (blk_cell BK101.out 0).trans rfl; have hfz17_0 := blk_frozen BK101.out 0))
      go_ret
      exact ⟨by first | rfl | (simp [errW_none, errW_some] <;> rfl) | (simp [*, errW_none, errW_some] <;> rfl), by repeat (first | (with_reducible first | exact HB.out | apply below_alloc | apply pw_below_drewN | apply below_drew1 | refine below_set ?_ GE101.out) | exact HB.out)⟩
  · replace c6 := Bool.eq_false_iff.mpr c6
    subst c6
    have H1 : (some false) = some r := by rw [if_neg (show ¬ (false = true) by decide)] at H; exact H
    clear H
    have H := H1
    clear H1
    obtain rfl := yey H
    go_enter Try.func86, Try.ntmps86
    go_wp2_with (first | ((with_reducible refine gate_dst (N := 3) rfl ?_); (try (refine gate_guard (by rfl) ?_; dsimp only)); refine box_event ?hg (N := 3) ?hd (cs := #[.slice A0_0 l0_0.length c0_0]) (t := 28) ?hr ?_; (case hd => rfl); (case hg => rfl); (case hr => first | (go_simp; done) | (go_simp; rfl)); intro gb101 hg w18 hbox hb; have n0_ := Aside0.mk (below_step (by repeat (first | (with_reducible first | exact HB.out | apply below_alloc | apply pw_below_drewN | apply below_drew1) | exact HB.out)) hb); have n1_ := Aside0.mk (hbox); have n2_ := Aside0.mk ((by rw [hg]; exact (below_size (by repeat (first | (with_reducible first | exact HB.out | apply below_alloc | apply pw_below_drewN | apply below_drew1) | exact HB.out))) : w.heap.size ≤ gb101)); have n3_ := Aside0.mk ((by rw [hg]; exact (below_size (by repeat (first | (with_reducible first | exact HB.out | apply below_alloc | apply pw_below_drewN | apply below_drew1) | exact HB.out))) : w.heap.size ≤ gb101)); clear HB; have HB := n0_; have BK101 := n1_; have GW101 := n2_; have GE101 := n3_; clear n0_ n1_ n2_ n3_; clear hb hbox hg; have hcz19_0 : w18.cell? ⟨gb101, 0, none⟩ = some (.slice A0_0 l0_0.length c0_0) := (blk_cell BK101.out 0).trans rfl; have hfz19_0 := blk_frozen BK101.out 0) | ((with_reducible refine gate_callee (f := 79) rfl ?_); refine goesL_ (some 10) rfl rfl Try.func79 (by kernel_rfl) rfl #[.slice A0_0 l0_0.length c0_0] rfl (by (try simp only [yiy, yjy, yky]); first | done | rfl | (simp only [yly, ymy]; rfl)) ?_; (with_reducible refine (impl_size_Simpl_Face.calls _ _ l0_0 t102 _ ?side1 ?side2 A4.out).mono ?_); (case side1 => repeat (first | exact (Kd.C_below HR0_0.out HB.out) | (with_reducible refine Kd.C_alloc ?_ _) | (with_reducible refine Kd.C_drewN ?_ _) | (with_reducible refine Kd.C_drew ?_))); (case side2 => exact HC0_0.out); rintro e w' ⟨rfl, ⟨nd, rfl⟩⟩; refine ⟨_, rfl, ?_⟩) | ((with_reducible refine gate_callee (f := 133) rfl ?_); refine goesL_ (some 11) rfl rfl Try.func133 (by kernel_rfl) rfl #[.slice A1 l1.length c1, .int .i64 t102] rfl (by (try simp only [yiy, yjy, yky]); first | done | rfl | (simp only [yly, ymy]; rfl)) ?_; (with_reducible refine (impl_isPermutation.calls k _ _ l1 t102 false _ ?side1 ?side2 A5.out).mono ?_); (case side1 => repeat (first | exact (Kd.C_below HR1.out (by repeat (first | (with_reducible first | exact HB.out | apply below_alloc | apply pw_below_drewN | apply below_drew1 | refine below_set ?_ GE101.out) | exact HB.out))) | (with_reducible refine Kd.C_alloc ?_ _) | (with_reducible refine Kd.C_drewN ?_ _) | (with_reducible refine Kd.C_drew ?_))); (case side2 => exact HC1.out); rintro e w20 ⟨rfl, hb⟩; refine ⟨_, rfl, ?_⟩; have n0_ := Aside0.mk (blk_below (g := gb101) (o := .cells #[.slice A0_0 l0_0.length c0_0] 28 (0, 0)) (by (with_reducible repeat (first | refine blk_drewN ?_ _ | refine blk_drew ?_ | refine blk_alloc ?_ _)); exact BK101.out) hb); have n1_ := Aside0.mk (below_step (by repeat (first | (with_reducible first | exact HB.out | apply below_alloc | apply pw_below_drewN | apply below_drew1 | refine below_set ?_ GE101.out) | exact HB.out)) hb); clear BK101; clear HB; have BK101 := n0_; have HB := n1_; clear n0_ n1_; (try clear hb); (try clear hb2); (try clear hk); (try clear hi)))
    go_ret
    exact ⟨by first | rfl | (simp [errW_none, errW_some] <;> rfl) | (simp [*, errW_none, errW_some] <;> rfl), by repeat (first | (with_reducible first | exact HB.out | apply below_alloc | apply pw_below_drewN | apply below_drew1 | refine below_set ?_ GE101.out) | exact HB.out)⟩
theorem eqA74 (d : Nat) (w : World) (x0 y0 : Int) (x1 y1 : Int) :
    (Op.equalIn (d + 2) 74 (.agg #[.int .i64 x0, .int .i64 x1]) (.agg #[.int .i64 y0, .int .i64 y1])).run Try.prog w = .ok (x0 == y0 && (x1 == y1)) w := by
  refine eqA_of Try.underlying74 (by kernel_rfl) ?_
  refine eqf_cons (by rfl) (by go_simp; rfl) (by go_simp; rfl) (by go_simp) ?_
  exact eqf_last (by rfl) (by go_simp; rfl) (by go_simp; rfl) (by go_simp)
/-! ### impl_Face_partner: function 128 -/
def impl_Face_partner.f (a0_0 : Int) (a0_1 : Int) (a1 : Int) : Option (Int × Int) := (impl_invert.f a0_1).bind fun t103 => (some (a1, t103))
set_option maxHeartbeats 8000000 in
set_option maxRecDepth 100000 in
theorem impl_Face_partner.calls (a0_0 : Int) (a0_1 : Int) (a1 : Int) (r1 : Int) (r2 : Int) (w : World) (h : impl_Face_partner.f a0_0 a0_1 a1 = some (r1, r2)) :
    Calls Try.prog 128 #[.agg #[.int .i64 a0_0, .int .i64 a0_1], .int .i64 a1] w fun e w' => e = .returned (.agg #[.int .i64 r1, .int .i64 r2]) ∧ Below w.heap.size w w' := by
  have hu74 := Try.underlying74
  have HB := Aside0.mk (ypy w.heap.size w)
  have H : ((impl_invert.f a0_1).bind fun t103 => (some (a1, t103))) = some (r1, r2) := h
  clear h
  replace H := ydy.mp H
  obtain ⟨t103, A30, H⟩ := H
  replace H : (some (a1, t103)) = some (r1, r2) := H
  have A3 := Aside0.mk A30
  clear A30
  simp only [Option.some.injEq, Prod.mk.injEq] at H
  obtain ⟨rfl, rfl⟩ := H
  go_enter Try.func128, Try.ntmps128
  go_wp2_with (first | ((with_reducible refine gate_dst (N := 2) rfl ?_); refine box_event ?hg (N := 2) ?hd (cs := #[.int .i64 a0_0, .int .i64 a0_1]) (t := 74) ?hr ?_; (case hd => rfl); (case hg => rfl); (case hr => first | (go_simp; done) | (go_simp; rfl)); intro gb101 hg w4 hbox hb; have n0_ := Aside0.mk (below_step (by repeat (first | (with_reducible first | exact HB.out | apply below_alloc | apply pw_below_drewN | apply below_drew1) | exact HB.out)) hb); have n1_ := Aside0.mk (hbox); have n2_ := Aside0.mk ((by rw [hg]; exact (below_size (by repeat (first | (with_reducible first | exact HB.out | apply below_alloc | apply pw_below_drewN | apply below_drew1) | exact HB.out))) : w.heap.size ≤ gb101)); have n3_ := Aside0.mk ((by rw [hg]; exact (below_size (by repeat (first | (with_reducible first | exact HB.out | apply below_alloc | apply pw_below_drewN | apply below_drew1) | exact HB.out))) : w.heap.size ≤ gb101)); clear HB; have HB := n0_; have BK101 := n1_; have GW101 := n2_; have GE101 := n3_; clear n0_ n1_ n2_ n3_; clear hb hbox hg) | ((with_reducible refine gate_dst (N := 4) rfl ?_); refine box_event ?hg (N := 4) ?hd (cs := #[.int .i64 0, .int .i64 0]) (t := 74) ?hr ?_; (case hd => rfl); (case hg => rfl); (case hr => first | (go_simp; done) | (go_simp; rfl)); intro gb102 hg w5 hbox hb; have n0_ := Aside0.mk (blk_below (g := gb101) (o := .cells #[.int .i64 a0_0, .int .i64 a0_1] 74 (0, 0)) (by (with_reducible repeat (first | refine blk_drewN ?_ _ | refine blk_drew ?_ | refine blk_alloc ?_ _)); exact BK101.out) hb); have n1_ := Aside0.mk (below_step (by repeat (first | (with_reducible first | exact HB.out | apply below_alloc | apply pw_below_drewN | apply below_drew1 | refine below_set ?_ GE101.out) | exact HB.out)) hb); have n2_ := Aside0.mk (hbox); have n3_ := Aside0.mk ((by rw [hg]; exact (below_size (by repeat (first | (with_reducible first | exact HB.out | apply below_alloc | apply pw_below_drewN | apply below_drew1 | refine below_set ?_ GE101.out) | exact HB.out))) : w.heap.size ≤ gb102)); have n4_ := Aside0.mk ((by rw [hg]; exact (below_size (by repeat (first | (with_reducible first | exact HB.out | apply below_alloc | apply pw_below_drewN | apply below_drew1 | refine below_set ?_ GE101.out) | exact HB.out))) : w.heap.size ≤ gb102)); have n5_ := Aside0.mk ((by rw [hg]; exact Nat.ne_of_lt (blk_lt (g := gb101) (o := .cells #[.int .i64 a0_0, .int .i64 a0_1] 74 (0, 0)) (by (with_reducible repeat (first | refine blk_drewN ?_ _ | refine blk_drew ?_ | refine blk_alloc ?_ _)); exact BK101.out)) : gb101 ≠ gb102)); have n6_ := Aside0.mk ((by rw [hg]; exact Nat.ne_of_gt (blk_lt (g := gb101) (o := .cells #[.int .i64 a0_0, .int .i64 a0_1] 74 (0, 0)) (by (with_reducible repeat (first | refine blk_drewN ?_ _ | refine blk_drew ?_ | refine blk_alloc ?_ _)); exact BK101.out)) : gb102 ≠ gb101)); clear BK101; clear HB; have BK101 := n0_; have HB := n1_; have BK102 := n2_; have GW102 := n3_; have GE102 := n4_; have NB101_102 := n5_; have NB102_101 := n6_; clear n0_ n1_ n2_ n3_ n4_ n5_ n6_; clear hb hbox hg; have hnb6 := NB101_102.out; have hnc6 := NB102_101.out; have hcz7_0 : w5.cell? ⟨gb101, 0, none⟩ = some (.int .i64 a0_0) := (blk_cell BK101.out 0).trans rfl; have hcz7_1 : w5.cell? ⟨gb101, 1, none⟩ = some (.int .i64 a0_1) := (blk_cell BK101.out 1).trans rfl; have hfz7_0 := blk_frozen BK101.out 0; have hfz7_1 := blk_frozen BK101.out 1) | ((with_reducible refine gate_callee (f := 137) rfl ?_); refine goesL_ (some 8) rfl rfl Try.func137 (by kernel_rfl) rfl #[.int .i64 a0_1] rfl (by (try simp only [yiy, yjy, yky]); first | done | rfl | (simp only [yly, ymy]; rfl)) ?_; (with_reducible refine (impl_invert.calls a0_1 t103 _ A3.out).mono ?_); rintro e w8 ⟨rfl, hb⟩; refine ⟨_, rfl, ?_⟩; have n0_ := Aside0.mk (blk_below (g := gb101) (o := .cells #[.int .i64 a0_0, .int .i64 a0_1] 74 (0, 0)) (by (with_reducible repeat (first | refine blk_drewN ?_ _ | refine blk_drew ?_ | refine blk_alloc ?_ _)); exact BK101.out) hb); have n1_ := Aside0.mk (blk_below (g := gb102) (o := .cells #[.int .i64 0, .int .i64 0] 74 (0, 0)) (by (with_reducible repeat (first | refine blk_drewN ?_ _ | refine blk_drew ?_ | refine blk_alloc ?_ _)); exact BK102.out) hb); have n2_ := Aside0.mk (below_step (by repeat (first | (with_reducible first | exact HB.out | apply below_alloc | apply pw_below_drewN | apply below_drew1 | refine below_set ?_ GE101.out | refine below_set ?_ GE102.out) | exact HB.out)) hb); clear BK101; clear BK102; clear HB; have BK101 := n0_; have BK102 := n1_; have HB := n2_; clear n0_ n1_ n2_; (try clear hb); (try clear hb2); (try clear hk); (try clear hi); have hcz9_0 : w8.cell? ⟨gb102, 0, none⟩ = some (.int .i64 0) := (blk_cell BK102.out 0).trans rfl; have hcz9_1 : w8.cell? ⟨gb102, 1, none⟩ = some (.int .i64 0) := (blk_cell BK102.out 1).trans rfl; have hfz9_0 := blk_frozen BK102.out 0; have hfz9_1 := blk_frozen BK102.out 1))
  refine bodyPost_ret (results_cell_row rfl _ _ gb102 74 #[.int .i64 a1, .int .i64 t103] (0, 0) _ rfl (by (with_reducible repeat (first | refine blk_drewN ?_ _ | refine blk_drew ?_ | refine blk_alloc ?_ _)); refine blk_put (cs := #[.int .i64 a1, .int .i64 0]) ?_ 1 _ rfl; (with_reducible repeat (first | refine blk_drewN ?_ _ | refine blk_drew ?_ | refine blk_alloc ?_ _)); refine blk_put (cs := #[.int .i64 0, .int .i64 0]) ?_ 0 _ rfl; (with_reducible repeat (first | refine blk_drewN ?_ _ | refine blk_drew ?_ | refine blk_alloc ?_ _)); exact BK102.out) Try.underlying74 rfl (by kernel_rfl)) rfl ?_
  exact ⟨by first | rfl | (simp [errW_none, errW_some] <;> rfl) | (simp [*, errW_none, errW_some] <;> rfl), by repeat (first | (with_reducible first | exact HB.out | apply below_alloc | apply pw_below_drewN | apply below_drew1 | refine below_set ?_ GE101.out | refine below_set ?_ GE102.out) | exact HB.out)⟩
/-! Face.target: the image of a face's number. -/
def impl_Face_target.f (a0_0 : Int) (a0_1 : Int) (a1 : Int) : Option Int := if 0 ≤ a0_1 ∧ a0_1 ≤ 23 ∧ 0 ≤ a1 ∧ a1 ≤ 3 then some (rd (permL a0_1) a1) else none
set_option maxHeartbeats 800000 in
set_option maxRecDepth 100000 in
theorem impl_Face_target.calls (a0_0 : Int) (a0_1 : Int) (a1 : Int) (r : Int) (w : World) (h : impl_Face_target.f a0_0 a0_1 a1 = some r) :
    Calls Try.prog 74 #[.agg #[.int .i64 a0_0, .int .i64 a0_1], .int .i64 a1] w fun e w' => e = .returned (.int .i64 r) ∧ Below w.heap.size w w' := by
  unfold impl_Face_target.f at h
  by_cases hc : 0 ≤ a0_1 ∧ a0_1 ≤ 23 ∧ 0 ≤ a1 ∧ a1 ≤ 3
  · rw [if_pos hc] at h
    obtain ⟨h0, h1, hf0, hf1⟩ := hc
    have ix := arr_index (permAt a0_1 0) (permAt a0_1 1) (permAt a0_1 2) (permAt a0_1 3) a1 hf0 hf1
    have H0 := Aside0.mk h0
    have H1 := Aside0.mk h1
    clear h0 h1
    have hr : rd [permAt a0_1 0, permAt a0_1 1, permAt a0_1 2, permAt a0_1 3] a1 = r := yey h
    rw [hr] at ix
    clear hr h
    go_enter Try.func74, Try.ntmps74
    go_wp2_with fail
    refine (impl_perm.calls _ _ H0.out H1.out).mono ?_
    rintro e w' ⟨rfl, hb⟩
    have HB := Aside0.mk (below_step (below_alloc (ypy _ _) _) hb)
    clear hb
    go_wp2
    go_ret
    exact ⟨rfl, HB.out⟩
  · rw [if_neg hc] at h
    exact absurd h (by simp)
/-! ### impl_hasIndex_Simpl_Face: function 71 -/
def impl_hasIndex_Simpl_Face.f (l0 : List (List (SFace))) (a1 : Int) : Option (Bool) := (impl_size_Simpl_Face.f l0).bind fun t101 => ((impl_inRange.f a1 0 (wrap64 (t101 - 1))).bind fun t102 => (some t102))
set_option maxHeartbeats 8000000 in
set_option maxRecDepth 100000 in
theorem impl_hasIndex_Simpl_Face.calls (A0 : Option Addr) (c0 : Nat) (l0 : List (List (SFace))) (a1 : Int) (r : Bool) (w : World) (hr0 : Kd.C (Kd.slice 74 kFace) w A0 l0.length l0) (hc0 : l0.length ≤ c0) (h : impl_hasIndex_Simpl_Face.f l0 a1 = some r) :
    Calls Try.prog 71 #[.slice A0 l0.length c0, .int .i64 a1] w fun e w' => e = .returned (.bool r) ∧ Drawn0 w w' := by
  have HR0 := Aside0.mk hr0
  have HC0 := Aside0.mk hc0
  clear hr0 hc0
  have H : ((impl_size_Simpl_Face.f l0).bind fun t101 => ((impl_inRange.f a1 0 (wrap64 (t101 - 1))).bind fun t102 => (some t102))) = some r := h
  clear h
  replace H := ydy.mp H
  obtain ⟨t101, A30, H⟩ := H
  replace H : ((impl_inRange.f a1 0 (wrap64 (t101 - 1))).bind fun t102 => (some t102)) = some r := H
  have A3 := Aside0.mk A30
  clear A30
  replace H := ydy.mp H
  obtain ⟨t102, A40, H⟩ := H
  replace H : (some t102) = some r := H
  have A4 := Aside0.mk A40
  clear A40
  obtain rfl := yey H
  go_enter Try.func71, Try.ntmps71
  go_wp2_with (first | ((with_reducible refine gate_callee (f := 79) rfl ?_); refine goesL_ (some 7) rfl rfl Try.func79 (by kernel_rfl) rfl #[.slice A0 l0.length c0] rfl (by (try simp only [yiy, yjy, yky]); first | done | rfl | (simp only [yly, ymy]; rfl)) ?_; (with_reducible refine (impl_size_Simpl_Face.calls _ _ l0 t101 _ ?side1 ?side2 A3.out).mono ?_); (case side1 => repeat (first | exact HR0.out | (with_reducible refine Kd.C_alloc ?_ _) | (with_reducible refine Kd.C_drewN ?_ _) | (with_reducible refine Kd.C_drew ?_))); (case side2 => exact HC0.out); rintro e w' ⟨rfl, ⟨nd, rfl⟩⟩; refine ⟨_, rfl, ?_⟩) | ((with_reducible refine gate_callee (f := 58) rfl ?_); refine goesL_ (some 9) rfl rfl Try.func58 (by kernel_rfl) rfl #[.int .i64 a1, .int .i64 0, .int .i64 (wrap64 (t101 - 1))] rfl (by (try simp only [yiy, yjy, yky]); first | done | rfl | (simp only [yly, ymy]; rfl)) ?_; (with_reducible refine (impl_inRange.calls a1 0 (wrap64 (t101 - 1)) t102 _ A4.out).mono ?_); rintro e w' ⟨rfl, ⟨nd, rfl⟩⟩; refine ⟨_, rfl, ?_⟩))
  go_ret
  exact ⟨by first | rfl | (simp; done) | (simp [*]; done), by repeat (first | exact Drawn0.refl _ | apply Drawn0.step)⟩
end Go.Proofs.Ytdgdnnjigigkcaa.P
