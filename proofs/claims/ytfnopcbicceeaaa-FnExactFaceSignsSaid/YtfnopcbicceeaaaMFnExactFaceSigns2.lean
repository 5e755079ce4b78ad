/- The statement FnExactFaceSignsSaid, proved: part 2 of 7 (texts of this session and of the kit's print, put together and cut to what is used by a program of it). -/
import Derived.Test.YtfnopcbicceeaaaMFnExactFaceSigns1
import Derived.Test.YtfnopcbicceeaaaProg
import Derived.Below
import Derived.Deep.Draws
import Derived.Deep.AppendLies
import Derived.Maps.AppendAt
import Derived.OwnWalk
import Derived.Laws.BytesArg
import Derived.Laws.MakeOwn
import Derived.Laws.OwnMore
import Derived.Deep.OwnRows
import Derived.Tactics
import Derived.Lib.ConvBytes
import Derived.Laws.Slices
import Derived.WalkKit
import Derived.KernelRfl
import Derived.RowKit3
import Derived.Deep.LoopGhost
import Derived.Deep.QuietTactic
import Derived.BigQuiet
import Derived.WideLaws
import Derived.Deep.DeepCutAuto
import Derived.Deep.CutBlock
import Derived.Deep.RegionHeld3
import Derived.Laws.Rows
import Derived.Lib.AppendStr
import Derived.ArgAppend
import Derived.Laws.IdiomCopy
import Derived.OrdersHeld
import Derived.Laws.BitsLemmas
import Derived.RowKit
import Derived.Shelf.SlicesG.Delete
import Derived.Ground.SlgnProg
import Derived.Sort.Row
import Derived.Lib.SliceRun
import Derived.Shelf.Bits.Mul64
import Derived.Laws.CopyOwn
import Derived.RangeFuncNested
import Derived.RangeFuncBound
import Derived.RangeFuncCalls
import Derived.RangeFuncLeaves
import Derived.RangeFuncBox
import Derived.Shelf.Abstract
import Derived.Shelf.RegionOpen
import Derived.OwnWalkIn
import Derived.TacticsInMore
import Derived.LoopNIn
import Derived.LoopIn
import Derived.RegionIn
import Derived.BigRegionIn
import Derived.WalkSpells
namespace Go.Proofs.Ytfnopcbicceeaaa
abbrev yay := @List.setIfInBounds_toArray
abbrev yby := @List.set_cons_zero
abbrev ycy := @List.set_cons_succ
abbrev ydy := @Option.bind_eq_some_iff
abbrev yey := @Option.some.inj
abbrev yfy := @Option.bind_some
abbrev ygy := @decide_eq_true
abbrev yhy := @decide_eq_false
abbrev yiy := @List.map_toArray
abbrev yjy := @List.map_cons
abbrev yky := @List.map_nil
abbrev yly := @List.length_drop
abbrev ymy := @List.length_take
abbrev yny := @Go.World.block_lt_of_cell?
abbrev yoy := @Nat.le_refl
abbrev ypy := @Go.RowKit.Below.refl
end Go.Proofs.Ytfnopcbicceeaaa
namespace Go.Proofs.Ytfnopcbicceeaaa.P
open Go.RowKit Go.Proofs.YtfnopcbicceeaaaW.PrintWords Go.Proofs.YtfnopcbicceeaaaW.PrintLast Go.Proofs.YtfnopcbicceeaaaW.PrintMore
attribute [local go_sem] max2_int min2_int max_two min_two max_three min_three max_four min_four   -- for this text's walks alone
set_option linter.unusedVariables false
set_option linter.unusedSimpArgs false
def errW : Option Int → Value
  | none => .nilIface
  | some c => .iface 0 (.int .i64 c)
theorem errW_none : errW none = .nilIface := rfl
theorem errW_some (c : Int) : errW (some c) = .iface 0 (.int .i64 c) := rfl
theorem info2 : (Try.prog.info? 2).map (fun i => (i.zero, i.size, i.bytes)) = some (some (.int .i64 0), 1, 8) := by kernel_rfl
theorem info44 : (Try.prog.info? 44).map (fun i => (i.zero, i.size, i.bytes)) = some (some (.slice none 0 0), 1, 24) := by kernel_rfl
theorem info59 : (Try.prog.info? 59).map (fun i => (i.zero, i.size, i.bytes)) = some (some (.agg #[(.int .i64 0), (.int .i64 0)]), 2, 16) := by kernel_rfl
theorem info60 : (Try.prog.info? 60).map (fun i => (i.zero, i.size, i.bytes)) = some (some (.slice none 0 0), 1, 24) := by kernel_rfl
-- the values' own types
/-! #### struct type 123 -/
structure SLawFace where
  f0 : Int
  f1 : Int
def zLawFace : SLawFace := ⟨(0 : Int), (0 : Int)⟩
def kLawFace : Kd SLawFace := Kd.iso (Kd.pair (Kd.int .i64) (Kd.int .i64)) (fun x : SLawFace => (x.f0, x.f1))
theorem kLawFace_open {w : World} {x : SLawFace} {cs : List Value} (h : kLawFace.K w x cs) : cs = [.int .i64 x.f0, .int .i64 x.f1] := by
  obtain ⟨_, _, rfl, rfl, rfl⟩ := h
  exact rfl
theorem kLawFace_mk (w : World) (x : SLawFace)  : kLawFace.K w x [.int .i64 x.f0, .int .i64 x.f1] := ⟨[.int .i64 x.f0], [.int .i64 x.f1], rfl, rfl, rfl⟩
def rd_LawFace (xs : List SLawFace) (i : Int) : SLawFace := xs.getD i.toNat zLawFace
theorem at_LawFace {w : World} {A : Option Addr} {n : Nat} {xs : List SLawFace} (h : Kd.C kLawFace w A n xs) (i : Int) (h0 : 0 ≤ i) (h1 : i < n) : ∃ ad , A = some ad ∧ w.cell? (ad.add (i.toNat * 2)) = some (.int .i64 (rd_LawFace xs i).f0) ∧ w.cell? ⟨(ad.add (i.toNat * 2)).block, (ad.add (i.toNat * 2)).off + 1, none⟩ = some (.int .i64 (rd_LawFace xs i).f1) := by
  obtain ⟨ad, c, e, _, hK, hc0⟩ := Kd.C_get h zLawFace i h0 h1
  have hc : ∀ j u, c[j]? = some u → w.cell? (ad.add (i.toNat * 2 + j)) = some u := hc0
  obtain rfl := kLawFace_open hK
  exact ⟨ad, e, hc 0 _ rfl, by rw [← add_field _ _ 1 (by omega)]; exact hc 1 _ rfl⟩
def rd_LLawFace (xs : List (List SLawFace)) (i : Int) : (List SLawFace) := xs.getD i.toNat ([] : List SLawFace)
theorem at_LLawFace {w : World} {A : Option Addr} {n : Nat} {xs : List (List SLawFace)} (h : Kd.C (Kd.slice 123 kLawFace) w A n xs) (i : Int) (h0 : 0 ≤ i) (h1 : i < n) : ∃ ad A0 c0, A = some ad ∧ w.cell? (ad.add i.toNat) = some (.slice A0 (rd_LLawFace xs i).length c0) ∧ (rd_LLawFace xs i).length ≤ c0 ∧ kLawFace.C w A0 (rd_LLawFace xs i).length (rd_LLawFace xs i) := by
  obtain ⟨ad, c, e, _, hK, hc0⟩ := Kd.C_get h ([] : List SLawFace) i h0 h1
  have hc : ∀ j u, c[j]? = some u → w.cell? (ad.add (i.toNat * 1 + j)) = some u := hc0
  obtain ⟨A0, c0, rfl, l0, g0⟩ := hK
  exact ⟨ad, A0, c0, e, by have hq := hc 0 _ rfl; rwa [Nat.mul_one, Nat.add_zero] at hq, l0, g0⟩
/-! #### struct type 59 -/
structure SFace where
  f0 : Int
  f1 : Int
def zFace : SFace := ⟨(0 : Int), (0 : Int)⟩
def kFace : Kd SFace := Kd.iso (Kd.pair (Kd.int .i64) (Kd.int .i64)) (fun x : SFace => (x.f0, x.f1))
theorem kFace_open {w : World} {x : SFace} {cs : List Value} (h : kFace.K w x cs) : cs = [.int .i64 x.f0, .int .i64 x.f1] := by
  obtain ⟨_, _, rfl, rfl, rfl⟩ := h
  exact rfl
theorem kFace_openM {w : World} {base : Nat} {ok : Nat → Prop} {x : SFace} {cs : List Value} (h : kFace.M w base ok x cs) : cs = [.int .i64 x.f0, .int .i64 x.f1] := by
  obtain ⟨_, _, rfl, rfl, rfl⟩ := h
  exact rfl
theorem kFace_mkM (w : World) (base : Nat) (ok : Nat → Prop) (x : SFace)  : kFace.M w base ok x [.int .i64 x.f0, .int .i64 x.f1] := ⟨[.int .i64 x.f0], [.int .i64 x.f1], rfl, rfl, rfl⟩
def rd_Face (xs : List SFace) (i : Int) : SFace := xs.getD i.toNat zFace
theorem at_Face {w : World} {A : Option Addr} {n : Nat} {xs : List SFace} (h : Kd.C kFace w A n xs) (i : Int) (h0 : 0 ≤ i) (h1 : i < n) : ∃ ad , A = some ad ∧ w.cell? (ad.add (i.toNat * 2)) = some (.int .i64 (rd_Face xs i).f0) ∧ w.cell? ⟨(ad.add (i.toNat * 2)).block, (ad.add (i.toNat * 2)).off + 1, none⟩ = some (.int .i64 (rd_Face xs i).f1) := by
  obtain ⟨ad, c, e, _, hK, hc0⟩ := Kd.C_get h zFace i h0 h1
  have hc : ∀ j u, c[j]? = some u → w.cell? (ad.add (i.toNat * 2 + j)) = some u := hc0
  obtain rfl := kFace_open hK
  exact ⟨ad, e, hc 0 _ rfl, by rw [← add_field _ _ 1 (by omega)]; exact hc 1 _ rfl⟩
def rd_LFace (xs : List (List SFace)) (i : Int) : (List SFace) := xs.getD i.toNat ([] : List SFace)
theorem at_LFace {w : World} {A : Option Addr} {n : Nat} {xs : List (List SFace)} (h : Kd.C (Kd.slice 59 kFace) w A n xs) (i : Int) (h0 : 0 ≤ i) (h1 : i < n) : ∃ ad A0 c0, A = some ad ∧ w.cell? (ad.add i.toNat) = some (.slice A0 (rd_LFace xs i).length c0) ∧ (rd_LFace xs i).length ≤ c0 ∧ kFace.C w A0 (rd_LFace xs i).length (rd_LFace xs i) := by
  obtain ⟨ad, c, e, _, hK, hc0⟩ := Kd.C_get h ([] : List SFace) i h0 h1
  have hc : ∀ j u, c[j]? = some u → w.cell? (ad.add (i.toNat * 1 + j)) = some u := hc0
  obtain ⟨A0, c0, rfl, l0, g0⟩ := hK
  exact ⟨ad, A0, c0, e, by have hq := hc 0 _ rfl; rwa [Nat.mul_one, Nat.add_zero] at hq, l0, g0⟩
def rd_LInt (xs : List (List Int)) (i : Int) : (List Int) := xs.getD i.toNat ([] : List Int)
theorem at_LInt {w : World} {A : Option Addr} {n : Nat} {xs : List (List Int)} (h : Kd.C (Kd.slice 2 (Kd.int .i64)) w A n xs) (i : Int) (h0 : 0 ≤ i) (h1 : i < n) : ∃ ad A0 c0, A = some ad ∧ w.cell? (ad.add i.toNat) = some (.slice A0 (rd_LInt xs i).length c0) ∧ (rd_LInt xs i).length ≤ c0 ∧ (Kd.int .i64).C w A0 (rd_LInt xs i).length (rd_LInt xs i) := by
  obtain ⟨ad, c, e, _, hK, hc0⟩ := Kd.C_get h ([] : List Int) i h0 h1
  have hc : ∀ j u, c[j]? = some u → w.cell? (ad.add (i.toNat * 1 + j)) = some u := hc0
  obtain ⟨A0, c0, rfl, l0, g0⟩ := hK
  exact ⟨ad, A0, c0, e, by have hq := hc 0 _ rfl; rwa [Nat.mul_one, Nat.add_zero] at hq, l0, g0⟩
/-! #### struct type 30 -/
/-! #### struct type 89 -/
/-! #### struct type 151 -/
/-! slices.Delete at []int64, for one element of a row of the call's own: the shelf's contract, laid here, in the words of this seat. -/
def lDelete_ren : Go.Shelf.Ren := ⟨fun | 45 => 85 | n => n, fun | 22 => 44 | 23 => 2 | 3 => 3 | 4 => 4 | 0 => 0 | n => n, fun | n => n⟩
theorem lDelete : Go.Proofs.SlLaysN.n45 Try.prog lDelete_ren := {
  mixed := by kernel_rfl
  f45 := ⟨Try.f85.name, by decide, Try.func85.trans (congrArg some (by kernel_rfl))⟩
  t0 := Try.underlying0
  a0 := Try.isAgg0
  z0 := Try.sizeOf0
  v0 := Try.zeroValue0
  t3 := Try.underlying3
  a3 := Try.isAgg3
  z3 := Try.sizeOf3
  v3 := Try.zeroValue3
  t4 := Try.underlying4
  a4 := Try.isAgg4
  z4 := Try.sizeOf4
  v4 := Try.zeroValue4
  t22 := Try.underlying44
  a22 := Try.isAgg44
  z22 := Try.sizeOf44
  v22 := Try.zeroValue44
  t23 := Try.underlying2
  a23 := Try.isAgg2
  z23 := Try.sizeOf2
  v23 := Try.zeroValue2
  i23 := by kernel_rfl }
theorem erase_eq (xs : List Int) (i : Nat) : xs.take i ++ xs.drop (i + 1) = xs.eraseIdx i := (List.eraseIdx_eq_take_drop_succ xs i).symm
theorem slices_Delete_int64.calls1 (g cap i : Nat) (xs : List Int) (base : Nat) (ok : Nat → Prop) (w : World) (ho : Kd.R (Kd.int .i64) 2 w base ok (.slice (some ⟨g, 0, none⟩) xs.length cap) xs) (hi : i < xs.length) :
    Calls Try.prog 85 #[.slice (some ⟨g, 0, none⟩) xs.length cap, .int .i64 i, .int .i64 (i + 1)] w fun e w' => e = .returned (.slice (some ⟨g, 0, none⟩) (xs.length - 1) cap) ∧
      Kd.R (Kd.int .i64) 2 w' base ok (.slice (some ⟨g, 0, none⟩) (xs.length - 1) cap) (xs.eraseIdx i) ∧ w.grownBy w' (some g) := by
  have hown := Kd.own_of_R ho
  rcases hown.2 with ⟨hv, _⟩ | ⟨g', cap', cur, hv, hbase, hh, hle, hmax, hcs, htake⟩
  · cases hv
  injection hv with hv1 _ hv3
  injection hv1 with hv1
  injection hv1 with hv1 _ _
  subst hv1 hv3
  rw [Nat.mul_one] at hcs htake
  have hcell : ∀ j, j < xs.length → w.cell? ⟨g, 0 + j, none⟩ = some (.int .i64 xs[j]!) := by
    intro j hj
    rw [Nat.zero_add]
    have h1 : cur.toList[j]? = some (.int .i64 xs[j]!) := by
      have h2 : (cur.toList.take xs.length)[j]? = some (.int .i64 xs[j]!) := by
        rw [htake, encs, List.getElem?_map, List.getElem?_eq_getElem hj]
        simp [getElem!_pos, hj]
      rw [List.getElem?_take, if_pos hj] at h2
      exact h2
    rw [blk_cell hh j, ← Array.getElem?_toList, h1]
  have hH : Go.Sort.Holds (Value.int .i64) w g 0 xs.toArray := by
    intro j hj
    have hj' : j < xs.length := by simpa using hj
    refine ⟨?_, by rw [Nat.zero_add]; exact blk_frozen hh j⟩
    rw [hcell j hj']
    simp [getElem!_pos, hj']
  have hc := AnyG.slices_Delete_int lDelete g 0 cap i (i + 1) xs w hH hle (by unfold maxLen at hmax; omega) (by omega) (by omega)
  have hc2 : Calls Try.prog 85 #[.slice (some ⟨g, 0, none⟩) xs.length cap, .int .i64 (i : Nat), .int .i64 ((i + 1 : Nat) : Int)] w fun e w' => e = .returned (.slice (some ⟨g, 0, none⟩) (xs.length - (i + 1 - i)) cap) ∧ ∃ q, w' = Go.Sort.putRow (Value.int .i64) (Go.Sort.ahead w q) g 0 (xs.take i ++ xs.drop (i + 1) ++ List.replicate (i + 1 - i) 0).toArray := hc
  refine hc2.mono ?_
  rintro e w' ⟨rfl, q, rfl⟩
  have hlen : (xs.eraseIdx i).length = xs.length - 1 := by rw [List.length_eraseIdx]; simp [hi]
  have hd : xs.take i ++ xs.drop (i + 1) ++ List.replicate (i + 1 - i) 0 = xs.eraseIdx i ++ [0] := by
    rw [erase_eq, show i + 1 - i = 1 by omega]; rfl
  rw [hd, show i + 1 - i = 1 by omega]
  have hheap : (Go.Sort.putRow (Value.int .i64) (Go.Sort.ahead w q) g 0 (xs.eraseIdx i ++ [0]).toArray).heap[g]? = some (.cells (Go.Sort.putCells (Value.int .i64) 0 (xs.eraseIdx i ++ [0]).toArray cur) 2 (0, 0)) := by
    show (w.heap.modify g _)[g]? = _
    rw [Array.getElem?_modify, if_pos rfl, hh]
    rfl
  have hfar : ∀ k, k ≠ g → (Go.Sort.putRow (Value.int .i64) (Go.Sort.ahead w q) g 0 (xs.eraseIdx i ++ [0]).toArray).heap[k]? = w.heap[k]? := by
    intro k hk
    show (w.heap.modify g _)[k]? = _
    rw [Array.getElem?_modify, if_neg (Ne.symm hk)]
  refine ⟨rfl, ?_, ⟨rfl, rfl, rfl, ?_, fun k _ hk => hfar k (fun e => hk (by rw [e]))⟩⟩
  · have e1 : xs.length - 1 = (xs.eraseIdx i).length := hlen.symm
    rw [e1]
    refine Kd.R_of_own ⟨by simp [encs], .inr ⟨g, cap, _, rfl, hbase, hheap, by omega, hmax, by simp [Go.Sort.putCells, hcs], ?_⟩⟩ (fun k hk => ho.1 k hk)
    rw [Nat.mul_one]
    apply List.ext_getElem?
    intro j
    rw [List.getElem?_take]
    by_cases hj : j < (xs.eraseIdx i).length
    · rw [if_pos hj, Array.getElem?_toList, Go.Sort.putCells, Array.getElem?_mapIdx, Array.getElem?_eq_getElem (by omega), Option.map_some, if_pos ⟨by omega, by simp; omega⟩, Nat.sub_zero, encs, List.getElem?_map, List.getElem?_eq_getElem hj, Option.map_some]
      congr 2
      rw [List.getElem!_toArray, getElem!_pos _ j (by simp; omega), List.getElem_append_left hj]
    · rw [if_neg hj, List.getElem?_eq_none (by simp [encs]; omega)]
  · show w.heap.size ≤ (w.heap.modify g _).size
    rw [Array.size_modify]
    omega
/-! impl.perm: the images of the permutation with an index. -/
/-- The blocks by which the digits of an index are told. -/
def permB : Nat → Int
 | 0 => 6
 | 1 => 2
 | _ => 1
def permP (p : Int) : Nat → Int
 | 0 => p
 | i + 1 => permP p i % permB i
def permK (p : Int) (i : Nat) : Int := permP p i / permB i
def permLeft (p : Int) : Nat → List Int
 | 0 => [0, 1, 2, 3]
 | i + 1 => (permLeft p i).eraseIdx (permK p i).toNat
def permAt (p : Int) (i : Nat) : Int := (permLeft p i).getD (permK p i).toNat 0
/-- The images. -/
def permL (p : Int) : List Int := [permAt p 0, permAt p 1, permAt p 2, permAt p 3]
theorem permP_bd (p : Int) (h0 : 0 ≤ p) (h1 : p ≤ 23) : (0 ≤ permP p 0 ∧ permP p 0 ≤ 23) ∧ (0 ≤ permP p 1 ∧ permP p 1 ≤ 5) ∧ (0 ≤ permP p 2 ∧ permP p 2 ≤ 1) ∧ (0 ≤ permP p 3 ∧ permP p 3 ≤ 0) := by
 simp only [permP, permB]; omega
theorem permK_bd (p : Int) (h0 : 0 ≤ p) (h1 : p ≤ 23) : (0 ≤ permK p 0 ∧ permK p 0 < 4) ∧ (0 ≤ permK p 1 ∧ permK p 1 < 3) ∧ (0 ≤ permK p 2 ∧ permK p 2 < 2) ∧ (0 ≤ permK p 3 ∧ permK p 3 < 1) := by
 have := permP_bd p h0 h1
 simp only [permK, permB]; omega
theorem permLeft_len (p : Int) (h0 : 0 ≤ p) (h1 : p ≤ 23) : (permLeft p 0).length = 4 ∧ (permLeft p 1).length = 3 ∧ (permLeft p 2).length = 2 ∧ (permLeft p 3).length = 1 ∧ (permLeft p 4).length = 0 := by
 obtain ⟨a, b, c, d⟩ := permK_bd p h0 h1
 have e0 : (permLeft p 0).length = 4 := rfl
 have e1 : (permLeft p 1).length = 3 := by rw [permLeft, List.length_eraseIdx, e0, if_pos (by omega)]
 have e2 : (permLeft p 2).length = 2 := by rw [permLeft, List.length_eraseIdx, e1, if_pos (by omega)]
 have e3 : (permLeft p 3).length = 1 := by rw [permLeft, List.length_eraseIdx, e2, if_pos (by omega)]
 have e4 : (permLeft p 4).length = 0 := by rw [permLeft, List.length_eraseIdx, e3, if_pos (by omega)]
 exact ⟨e0, e1, e2, e3, e4⟩
theorem new_at {W : World} {n : Nat} (h : W.heap.size = n) (o : Obj) : (W.alloc o).heap[n]? = some o := h ▸ blk_new W o
/-- A value of the array after i rounds. -/
def permO (p : Int) (i j : Nat) : Int := if j < i then permAt p j else 0
set_option maxHeartbeats 8000000 in
set_option maxRecDepth 100000 in
theorem impl_perm.calls (p : Int) (w : World) (h0 : 0 ≤ p) (h1 : p ≤ 23) :
 Calls Try.prog 79 #[.int .i64 p] w fun e w' => e = .returned (.agg #[.int .i64 (permAt p 0), .int .i64 (permAt p 1), .int .i64 (permAt p 2), .int .i64 (permAt p 3)]) ∧ Below w.heap.size w w' := by
 have HP := Aside0.mk (permP_bd p h0 h1)
 have HK := Aside0.mk (permK_bd p h0 h1)
 have HL := Aside0.mk (permLeft_len p h0 h1)
 clear h0 h1
 go_enter Try.func79, Try.ntmps79
 go_wp2_with fail
 go_loopg [0, 4, 11] 4 (fun gg v0 v4 v11 w' => ∃ i : Nat, i ≤ 4 ∧ 4 - i ≤ gg ∧ v11 = .int .i64 i ∧ v0 = .int .i64 (permP p i) ∧ v4 = .slice (some ⟨w.heap.size + 1 + 1, 0, none⟩) (permLeft p i).length 4 ∧
  Aside0 (Kd.R (Kd.int .i64) 2 w' w.heap.size (fun k => k = w.heap.size + 1 + 1) (.slice (some ⟨w.heap.size + 1 + 1, 0, none⟩) (permLeft p i).length 4) (permLeft p i)) ∧
  Aside0 (w'.heap[w.heap.size + 1]? = some (.cells #[.int .i64 (permO p i 0), .int .i64 (permO p i 1), .int .i64 (permO p i 2), .int .i64 (permO p i 3)] 94 (0, 0))) ∧
  Aside0 (w'.heap[w.heap.size]? = some (.cells #[.int .i64 0, .int .i64 0, .int .i64 0, .int .i64 0] 94 (0, 0))) ∧
  Aside0 (w'.heap[w.heap.size + 1 + 1 + 1]? = some (.cells #[.int .i64 6, .int .i64 2, .int .i64 1, .int .i64 1] 2 (0, 0))) ∧ Aside0 (Below w.heap.size w w'))
 case atStart =>
  refine ⟨0, by omega, by omega, rfl, rfl, rfl, ⟨?_⟩, ⟨?_⟩, ⟨?_⟩, ⟨?_⟩, ⟨?_⟩⟩
  next =>
   refine Kd.R_of_own ⟨by simp [encs], .inr ⟨w.heap.size + 1 + 1, 4, #[.int .i64 0, .int .i64 1, .int .i64 2, .int .i64 3], rfl, by omega, ?_, yoy 4, by decide, rfl, rfl⟩⟩ (fun k hk => by simpa [Value.ownBlock] using hk.symm)
   exact blk_alloc (new_at (by simp) _) _
  next =>
   exact blk_alloc (blk_alloc (new_at (by simp) _) _) _
  next =>
   exact blk_alloc (blk_alloc (blk_alloc (new_at rfl _) _) _) _
  next =>
   exact new_at (by simp) _
  next =>
   exact below_alloc (below_alloc (below_alloc (below_alloc (ypy _ _) _) _) _) _
 case round =>
  obtain ⟨i, hi, hg, rfl, rfl, rfl, HR, B3, B2, B9, HB⟩ := hrel
  rcases (show i = 4 ∨ i = 3 ∨ i = 2 ∨ i = 1 ∨ i = 0 by omega) with rfl | rfl | rfl | rfl | rfl
  next =>
   have c0 : wr.cell? ⟨w.heap.size + 1, 0, none⟩ = some (.int .i64 (permO p 4 0)) := (blk_cell B3.out 0).trans rfl
   have c1 : wr.cell? ⟨w.heap.size + 1, 1, none⟩ = some (.int .i64 (permO p 4 1)) := (blk_cell B3.out 1).trans rfl
   have c2 : wr.cell? ⟨w.heap.size + 1, 2, none⟩ = some (.int .i64 (permO p 4 2)) := (blk_cell B3.out 2).trans rfl
   have c3 : wr.cell? ⟨w.heap.size + 1, 3, none⟩ = some (.int .i64 (permO p 4 3)) := (blk_cell B3.out 3).trans rfl
   have d0 : wr.cell? ⟨w.heap.size, 0, none⟩ = some (.int .i64 0) := (blk_cell B2.out 0).trans rfl
   have d1 : wr.cell? ⟨w.heap.size, 1, none⟩ = some (.int .i64 0) := (blk_cell B2.out 1).trans rfl
   have d2 : wr.cell? ⟨w.heap.size, 2, none⟩ = some (.int .i64 0) := (blk_cell B2.out 2).trans rfl
   have d3 : wr.cell? ⟨w.heap.size, 3, none⟩ = some (.int .i64 0) := (blk_cell B2.out 3).trans rfl
   have f0 := blk_frozen B2.out 0
   have f1 := blk_frozen B2.out 1
   have f2 := blk_frozen B2.out 2
   have f3 := blk_frozen B2.out 3
   have ht := Try.underlying94
   go_wp2
   refine bodyPost_ret (results_cell_row rfl _ _ w.heap.size 94 #[.int .i64 (permO p 4 0), .int .i64 (permO p 4 1), .int .i64 (permO p 4 2), .int .i64 (permO p 4 3)] (0, 0) _ rfl (blk_put (cs := #[.int .i64 (permO p 4 0), .int .i64 (permO p 4 1), .int .i64 (permO p 4 2), .int .i64 0]) (blk_put (cs := #[.int .i64 (permO p 4 0), .int .i64 (permO p 4 1), .int .i64 0, .int .i64 0]) (blk_put (cs := #[.int .i64 (permO p 4 0), .int .i64 0, .int .i64 0, .int .i64 0]) (blk_put B2.out 0 _ rfl) 1 _ rfl) 2 _ rfl) 3 _ rfl) ht rfl (by kernel_rfl)) rfl ⟨rfl, ?_⟩
   exact below_set (below_set (below_set (below_set HB.out (yoy _)) (yoy _)) (yoy _)) (yoy _)
  next =>
   have hK : 0 ≤ permK p 3 ∧ permK p 3 < (permLeft p 3).length := by have := HK.out; have := HL.out; omega
   have hP : 0 ≤ permP p 3 ∧ permP p 3 ≤ 23 := by have := HP.out; omega
   have HLN := Aside0.mk (show (permLeft p 3).length = 1 by have := HL.out; omega)
   have HLN2 := Aside0.mk (show (permLeft p 4).length = (permLeft p 3).length - 1 by have := HL.out; omega)
   obtain ⟨A1, q1, hA1, hq1, hC⟩ := Kd.R_reads HR.out
   injection hA1 with hA1 hl1 hc1
   subst hA1
   clear hl1 hc1 hq1
   obtain ⟨ad, had, hx⟩ := Kd.at_int hC (permK p 3) hK.1 (by omega)
   injection had with had
   subst had
   rw [add_plain] at hx
   have HAT := Aside0.mk (show rd (permLeft p 3) (permK p 3) = permAt p 3 from rfl)
   rw [HAT.out] at hx
   have HER := Aside0.mk (show (permLeft p 3).eraseIdx (permK p 3).toNat = permLeft p 4 from rfl)
   have hX : permK p 3 = permP p 3 := by have e : permK p 3 = permP p 3 / 1 := rfl; rw [e]; exact Int.ediv_one _
   have HY := Aside0.mk (show 0 = permP p 4 by have e : permP p 4 = permP p 3 % 1 := rfl; rw [e]; omega)
   rw [hX] at hx hK
   have HX := Aside0.mk hX
   clear hX hC
   obtain ⟨hk0, hk1⟩ := hK
   obtain ⟨hp0, hp1⟩ := hP
   have b9 : wr.cell? ⟨w.heap.size + 1 + 1 + 1, 3, none⟩ = some (.int .i64 1) := (blk_cell B9.out 3).trans rfl
   have b3 : wr.cell? ⟨w.heap.size + 1, 3, none⟩ = some (.int .i64 (permO p 3 3)) := (blk_cell B3.out 3).trans rfl
   have f3 := blk_frozen B3.out 3
   have hk2 : permP p 3 < 9223372036854775807 := by omega
   go_wp2_with fail
   have HRw := Aside0.mk (show Kd.R (Kd.int .i64) 2 (wr.setCell ⟨w.heap.size + 1, 3, none⟩ (.int .i64 (permAt p 3))) w.heap.size (fun k => k = w.heap.size + 1 + 1) (.slice (some ⟨w.heap.size + 1 + 1, 0, none⟩) (permLeft p 3).length 4) (permLeft p 3) from Kd.R_far (p := ⟨w.heap.size + 1, 3, none⟩) HR.out (fun k hk => by rw [hk]; show w.heap.size + 1 + 1 ≠ w.heap.size + 1; omega) _)
   refine calls_of_args (args' := #[.slice (some ⟨w.heap.size + 1 + 1, 0, none⟩) (permLeft p 3).length 4, .int .i64 ((permP p 3).toNat : Int), .int .i64 (((permP p 3).toNat : Int) + 1)]) (by rw [Int.toNat_of_nonneg hk0]) ?_
   refine (slices_Delete_int64.calls1 (w.heap.size + 1 + 1) 4 (permP p 3).toNat (permLeft p 3) w.heap.size (fun k => k = w.heap.size + 1 + 1) _ HRw.out (by omega)).mono ?_
   rintro e w1 ⟨rfl, hR1, hg1⟩
   have hl2 := HLN2.out
   have er : (permLeft p 3).eraseIdx (permP p 3).toNat = permLeft p 4 := by rw [← HER.out, HX.out]
   rw [er, ← hl2] at hR1
   rw [← hl2]
   have HR2 := Aside0.mk hR1
   have B3a : (wr.setCell ⟨w.heap.size + 1, 3, none⟩ (.int .i64 (permAt p 3))).heap[w.heap.size + 1]? = some (.cells #[.int .i64 (permO p 4 0), .int .i64 (permO p 4 1), .int .i64 (permO p 4 2), .int .i64 (permO p 4 3)] 94 (0, 0)) := blk_put B3.out 3 _ rfl
   have B3n := Aside0.mk (blk_grown B3a hg1 (by simp))
   have B2n := Aside0.mk (blk_grown (blk_far (p := ⟨w.heap.size + 1, 3, none⟩) B2.out (by show w.heap.size ≠ w.heap.size + 1; omega) (.int .i64 (permAt p 3))) hg1 (by simp; omega))
   have B9n := Aside0.mk (blk_grown (blk_far (p := ⟨w.heap.size + 1, 3, none⟩) B9.out (by show w.heap.size + 1 + 1 + 1 ≠ w.heap.size + 1; omega) (.int .i64 (permAt p 3))) hg1 (by simp))
   have HBn := Aside0.mk (pw_below_grown (below_set (j := 3) (v := .int .i64 (permAt p 3)) HB.out (show w.heap.size ≤ w.heap.size + 1 by omega)) (some (w.heap.size + 1 + 1)) (by have := HB.out.size; simp [World.setCell]; omega) hg1 (fun k hk => by injection hk with hk; omega))
   clear hR1 hg1 B3a HRw B3 B2 B9 HB HR er hl2 hx b9 b3 f3
   go_wp2
   go_roundg (4 - 4)
   case measure => omega
   case rel => exact ⟨4, by omega, by omega, by first | rfl | go_num, by rw [← HY.out], rfl, HR2, B3n, B2n, B9n, HBn⟩
  next =>
   have hK : 0 ≤ permK p 2 ∧ permK p 2 < (permLeft p 2).length := by have := HK.out; have := HL.out; omega
   have hP : 0 ≤ permP p 2 ∧ permP p 2 ≤ 23 := by have := HP.out; omega
   have HLN := Aside0.mk (show (permLeft p 2).length = 2 by have := HL.out; omega)
   have HLN2 := Aside0.mk (show (permLeft p 3).length = (permLeft p 2).length - 1 by have := HL.out; omega)
   obtain ⟨A1, q1, hA1, hq1, hC⟩ := Kd.R_reads HR.out
   injection hA1 with hA1 hl1 hc1
   subst hA1
   clear hl1 hc1 hq1
   obtain ⟨ad, had, hx⟩ := Kd.at_int hC (permK p 2) hK.1 (by omega)
   injection had with had
   subst had
   rw [add_plain] at hx
   have HAT := Aside0.mk (show rd (permLeft p 2) (permK p 2) = permAt p 2 from rfl)
   rw [HAT.out] at hx
   have HER := Aside0.mk (show (permLeft p 2).eraseIdx (permK p 2).toNat = permLeft p 3 from rfl)
   have hX : permK p 2 = permP p 2 := by have e : permK p 2 = permP p 2 / 1 := rfl; rw [e]; exact Int.ediv_one _
   have HY := Aside0.mk (show 0 = permP p 3 by have e : permP p 3 = permP p 2 % 1 := rfl; rw [e]; omega)
   rw [hX] at hx hK
   have HX := Aside0.mk hX
   clear hX hC
   obtain ⟨hk0, hk1⟩ := hK
   obtain ⟨hp0, hp1⟩ := hP
   have b9 : wr.cell? ⟨w.heap.size + 1 + 1 + 1, 2, none⟩ = some (.int .i64 1) := (blk_cell B9.out 2).trans rfl
   have b3 : wr.cell? ⟨w.heap.size + 1, 2, none⟩ = some (.int .i64 (permO p 2 2)) := (blk_cell B3.out 2).trans rfl
   have f3 := blk_frozen B3.out 2
   have hk2 : permP p 2 < 9223372036854775807 := by omega
   go_wp2_with fail
   have HRw := Aside0.mk (show Kd.R (Kd.int .i64) 2 (wr.setCell ⟨w.heap.size + 1, 2, none⟩ (.int .i64 (permAt p 2))) w.heap.size (fun k => k = w.heap.size + 1 + 1) (.slice (some ⟨w.heap.size + 1 + 1, 0, none⟩) (permLeft p 2).length 4) (permLeft p 2) from Kd.R_far (p := ⟨w.heap.size + 1, 2, none⟩) HR.out (fun k hk => by rw [hk]; show w.heap.size + 1 + 1 ≠ w.heap.size + 1; omega) _)
   refine calls_of_args (args' := #[.slice (some ⟨w.heap.size + 1 + 1, 0, none⟩) (permLeft p 2).length 4, .int .i64 ((permP p 2).toNat : Int), .int .i64 (((permP p 2).toNat : Int) + 1)]) (by rw [Int.toNat_of_nonneg hk0]) ?_
   refine (slices_Delete_int64.calls1 (w.heap.size + 1 + 1) 4 (permP p 2).toNat (permLeft p 2) w.heap.size (fun k => k = w.heap.size + 1 + 1) _ HRw.out (by omega)).mono ?_
   rintro e w1 ⟨rfl, hR1, hg1⟩
   have hl2 := HLN2.out
   have er : (permLeft p 2).eraseIdx (permP p 2).toNat = permLeft p 3 := by rw [← HER.out, HX.out]
   rw [er, ← hl2] at hR1
   rw [← hl2]
   have HR2 := Aside0.mk hR1
   have B3a : (wr.setCell ⟨w.heap.size + 1, 2, none⟩ (.int .i64 (permAt p 2))).heap[w.heap.size + 1]? = some (.cells #[.int .i64 (permO p 3 0), .int .i64 (permO p 3 1), .int .i64 (permO p 3 2), .int .i64 (permO p 3 3)] 94 (0, 0)) := blk_put B3.out 2 _ rfl
   have B3n := Aside0.mk (blk_grown B3a hg1 (by simp))
   have B2n := Aside0.mk (blk_grown (blk_far (p := ⟨w.heap.size + 1, 2, none⟩) B2.out (by show w.heap.size ≠ w.heap.size + 1; omega) (.int .i64 (permAt p 2))) hg1 (by simp; omega))
   have B9n := Aside0.mk (blk_grown (blk_far (p := ⟨w.heap.size + 1, 2, none⟩) B9.out (by show w.heap.size + 1 + 1 + 1 ≠ w.heap.size + 1; omega) (.int .i64 (permAt p 2))) hg1 (by simp))
   have HBn := Aside0.mk (pw_below_grown (below_set (j := 2) (v := .int .i64 (permAt p 2)) HB.out (show w.heap.size ≤ w.heap.size + 1 by omega)) (some (w.heap.size + 1 + 1)) (by have := HB.out.size; simp [World.setCell]; omega) hg1 (fun k hk => by injection hk with hk; omega))
   clear hR1 hg1 B3a HRw B3 B2 B9 HB HR er hl2 hx b9 b3 f3
   go_wp2
   go_roundg (4 - 3)
   case measure => omega
   case rel => exact ⟨3, by omega, by omega, by first | rfl | go_num, by rw [← HY.out], rfl, HR2, B3n, B2n, B9n, HBn⟩
  next =>
   have hK : 0 ≤ permK p 1 ∧ permK p 1 < (permLeft p 1).length := by have := HK.out; have := HL.out; omega
   have hP : 0 ≤ permP p 1 ∧ permP p 1 ≤ 23 := by have := HP.out; omega
   have HLN := Aside0.mk (show (permLeft p 1).length = 3 by have := HL.out; omega)
   have HLN2 := Aside0.mk (show (permLeft p 2).length = (permLeft p 1).length - 1 by have := HL.out; omega)
   obtain ⟨A1, q1, hA1, hq1, hC⟩ := Kd.R_reads HR.out
   injection hA1 with hA1 hl1 hc1
   subst hA1
   clear hl1 hc1 hq1
   obtain ⟨ad, had, hx⟩ := Kd.at_int hC (permK p 1) hK.1 (by omega)
   injection had with had
   subst had
   rw [add_plain] at hx
   have HAT := Aside0.mk (show rd (permLeft p 1) (permK p 1) = permAt p 1 from rfl)
   rw [HAT.out] at hx
   have HER := Aside0.mk (show (permLeft p 1).eraseIdx (permK p 1).toNat = permLeft p 2 from rfl)
   have hX : permK p 1 = permP p 1 / 2 := by have e : permK p 1 = permP p 1 / 2 := rfl; rw [e]
   have HY := Aside0.mk (show permP p 1 % 2 = permP p 2 by have e : permP p 2 = permP p 1 % 2 := rfl; rw [e])
   rw [hX] at hx hK
   have HX := Aside0.mk hX
   clear hX hC
   obtain ⟨hk0, hk1⟩ := hK
   obtain ⟨hp0, hp1⟩ := hP
   have b9 : wr.cell? ⟨w.heap.size + 1 + 1 + 1, 1, none⟩ = some (.int .i64 2) := (blk_cell B9.out 1).trans rfl
   have b3 : wr.cell? ⟨w.heap.size + 1, 1, none⟩ = some (.int .i64 (permO p 1 1)) := (blk_cell B3.out 1).trans rfl
   have f3 := blk_frozen B3.out 1
   have hk2 : permP p 1 / 2 < 9223372036854775807 := by omega
   go_wp2_with fail
   have HRw := Aside0.mk (show Kd.R (Kd.int .i64) 2 (wr.setCell ⟨w.heap.size + 1, 1, none⟩ (.int .i64 (permAt p 1))) w.heap.size (fun k => k = w.heap.size + 1 + 1) (.slice (some ⟨w.heap.size + 1 + 1, 0, none⟩) (permLeft p 1).length 4) (permLeft p 1) from Kd.R_far (p := ⟨w.heap.size + 1, 1, none⟩) HR.out (fun k hk => by rw [hk]; show w.heap.size + 1 + 1 ≠ w.heap.size + 1; omega) _)
   refine calls_of_args (args' := #[.slice (some ⟨w.heap.size + 1 + 1, 0, none⟩) (permLeft p 1).length 4, .int .i64 ((permP p 1 / 2).toNat : Int), .int .i64 (((permP p 1 / 2).toNat : Int) + 1)]) (by rw [Int.toNat_of_nonneg hk0]) ?_
   refine (slices_Delete_int64.calls1 (w.heap.size + 1 + 1) 4 (permP p 1 / 2).toNat (permLeft p 1) w.heap.size (fun k => k = w.heap.size + 1 + 1) _ HRw.out (by omega)).mono ?_
   rintro e w1 ⟨rfl, hR1, hg1⟩
   have hl2 := HLN2.out
   have er : (permLeft p 1).eraseIdx (permP p 1 / 2).toNat = permLeft p 2 := by rw [← HER.out, HX.out]
   rw [er, ← hl2] at hR1
   rw [← hl2]
   have HR2 := Aside0.mk hR1
   have B3a : (wr.setCell ⟨w.heap.size + 1, 1, none⟩ (.int .i64 (permAt p 1))).heap[w.heap.size + 1]? = some (.cells #[.int .i64 (permO p 2 0), .int .i64 (permO p 2 1), .int .i64 (permO p 2 2), .int .i64 (permO p 2 3)] 94 (0, 0)) := blk_put B3.out 1 _ rfl
   have B3n := Aside0.mk (blk_grown B3a hg1 (by simp))
   have B2n := Aside0.mk (blk_grown (blk_far (p := ⟨w.heap.size + 1, 1, none⟩) B2.out (by show w.heap.size ≠ w.heap.size + 1; omega) (.int .i64 (permAt p 1))) hg1 (by simp; omega))
   have B9n := Aside0.mk (blk_grown (blk_far (p := ⟨w.heap.size + 1, 1, none⟩) B9.out (by show w.heap.size + 1 + 1 + 1 ≠ w.heap.size + 1; omega) (.int .i64 (permAt p 1))) hg1 (by simp))
   have HBn := Aside0.mk (pw_below_grown (below_set (j := 1) (v := .int .i64 (permAt p 1)) HB.out (show w.heap.size ≤ w.heap.size + 1 by omega)) (some (w.heap.size + 1 + 1)) (by have := HB.out.size; simp [World.setCell]; omega) hg1 (fun k hk => by injection hk with hk; omega))
   clear hR1 hg1 B3a HRw B3 B2 B9 HB HR er hl2 hx b9 b3 f3
   go_wp2
   go_roundg (4 - 2)
   case measure => omega
   case rel => exact ⟨2, by omega, by omega, by first | rfl | go_num, by rw [← HY.out], rfl, HR2, B3n, B2n, B9n, HBn⟩
  next =>
   have hK : 0 ≤ permK p 0 ∧ permK p 0 < (permLeft p 0).length := by have := HK.out; have := HL.out; omega
   have hP : 0 ≤ permP p 0 ∧ permP p 0 ≤ 23 := by have := HP.out; omega
   have HLN := Aside0.mk (show (permLeft p 0).length = 4 by have := HL.out; omega)
   have HLN2 := Aside0.mk (show (permLeft p 1).length = (permLeft p 0).length - 1 by have := HL.out; omega)
   obtain ⟨A1, q1, hA1, hq1, hC⟩ := Kd.R_reads HR.out
   injection hA1 with hA1 hl1 hc1
   subst hA1
   clear hl1 hc1 hq1
   obtain ⟨ad, had, hx⟩ := Kd.at_int hC (permK p 0) hK.1 (by omega)
   injection had with had
   subst had
   rw [add_plain] at hx
   have HAT := Aside0.mk (show rd (permLeft p 0) (permK p 0) = permAt p 0 from rfl)
   rw [HAT.out] at hx
   have HER := Aside0.mk (show (permLeft p 0).eraseIdx (permK p 0).toNat = permLeft p 1 from rfl)
   have hX : permK p 0 = permP p 0 / 6 := by have e : permK p 0 = permP p 0 / 6 := rfl; rw [e]
   have HY := Aside0.mk (show permP p 0 % 6 = permP p 1 by have e : permP p 1 = permP p 0 % 6 := rfl; rw [e])
   rw [hX] at hx hK
   have HX := Aside0.mk hX
   clear hX hC
   obtain ⟨hk0, hk1⟩ := hK
   obtain ⟨hp0, hp1⟩ := hP
   have b9 : wr.cell? ⟨w.heap.size + 1 + 1 + 1, 0, none⟩ = some (.int .i64 6) := (blk_cell B9.out 0).trans rfl
   have b3 : wr.cell? ⟨w.heap.size + 1, 0, none⟩ = some (.int .i64 (permO p 0 0)) := (blk_cell B3.out 0).trans rfl
   have f3 := blk_frozen B3.out 0
   have hk2 : permP p 0 / 6 < 9223372036854775807 := by omega
   go_wp2_with fail
   have HRw := Aside0.mk (show Kd.R (Kd.int .i64) 2 (wr.setCell ⟨w.heap.size + 1, 0, none⟩ (.int .i64 (permAt p 0))) w.heap.size (fun k => k = w.heap.size + 1 + 1) (.slice (some ⟨w.heap.size + 1 + 1, 0, none⟩) (permLeft p 0).length 4) (permLeft p 0) from Kd.R_far (p := ⟨w.heap.size + 1, 0, none⟩) HR.out (fun k hk => by rw [hk]; show w.heap.size + 1 + 1 ≠ w.heap.size + 1; omega) _)
   refine calls_of_args (args' := #[.slice (some ⟨w.heap.size + 1 + 1, 0, none⟩) (permLeft p 0).length 4, .int .i64 ((permP p 0 / 6).toNat : Int), .int .i64 (((permP p 0 / 6).toNat : Int) + 1)]) (by rw [Int.toNat_of_nonneg hk0]) ?_
   refine (slices_Delete_int64.calls1 (w.heap.size + 1 + 1) 4 (permP p 0 / 6).toNat (permLeft p 0) w.heap.size (fun k => k = w.heap.size + 1 + 1) _ HRw.out (by omega)).mono ?_
   rintro e w1 ⟨rfl, hR1, hg1⟩
   have hl2 := HLN2.out
   have er : (permLeft p 0).eraseIdx (permP p 0 / 6).toNat = permLeft p 1 := by rw [← HER.out, HX.out]
   rw [er, ← hl2] at hR1
   rw [← hl2]
   have HR2 := Aside0.mk hR1
   have B3a : (wr.setCell ⟨w.heap.size + 1, 0, none⟩ (.int .i64 (permAt p 0))).heap[w.heap.size + 1]? = some (.cells #[.int .i64 (permO p 1 0), .int .i64 (permO p 1 1), .int .i64 (permO p 1 2), .int .i64 (permO p 1 3)] 94 (0, 0)) := blk_put B3.out 0 _ rfl
   have B3n := Aside0.mk (blk_grown B3a hg1 (by simp))
   have B2n := Aside0.mk (blk_grown (blk_far (p := ⟨w.heap.size + 1, 0, none⟩) B2.out (by show w.heap.size ≠ w.heap.size + 1; omega) (.int .i64 (permAt p 0))) hg1 (by simp; omega))
   have B9n := Aside0.mk (blk_grown (blk_far (p := ⟨w.heap.size + 1, 0, none⟩) B9.out (by show w.heap.size + 1 + 1 + 1 ≠ w.heap.size + 1; omega) (.int .i64 (permAt p 0))) hg1 (by simp))
   have HBn := Aside0.mk (pw_below_grown (below_set (j := 0) (v := .int .i64 (permAt p 0)) HB.out (show w.heap.size ≤ w.heap.size + 1 by omega)) (some (w.heap.size + 1 + 1)) (by have := HB.out.size; simp [World.setCell]; omega) hg1 (fun k hk => by injection hk with hk; omega))
   clear hR1 hg1 B3a HRw B3 B2 B9 HB HR er hl2 hx b9 b3 f3
   go_wp2
   go_roundg (4 - 1)
   case measure => omega
   case rel => exact ⟨1, by omega, by omega, by first | rfl | go_num, by rw [← HY.out], rfl, HR2, B3n, B2n, B9n, HBn⟩
/-! Arrays of four numbers. -/
theorem arr_index (a b c d : Int) (f : Int) (h0 : 0 ≤ f) (h1 : f ≤ 3) : ∀ w : World, (Instr.index 94 (.agg #[.int .i64 a, .int .i64 b, .int .i64 c, .int .i64 d]) (.int .i64 f)).run Try.prog w = .ok (.int .i64 (rd [a, b, c, d] f)) w := by
  intro w
  rcases (show f = 0 ∨ f = 1 ∨ f = 2 ∨ f = 3 by omega) with rfl | rfl | rfl | rfl
  · kernel_rfl
  · kernel_rfl
  · kernel_rfl
  · kernel_rfl
theorem arr_cell {w : World} {g : Nat} {T : TypeId} {a b c d : Int} (h : w.heap[g]? = some (.cells #[.int .i64 a, .int .i64 b, .int .i64 c, .int .i64 d] T (0, 0))) (f : Int) (h0 : 0 ≤ f) (h1 : f ≤ 3) : w.cell? ⟨g, f.toNat, none⟩ = some (.int .i64 (rd [a, b, c, d] f)) := by
  rw [blk_cell h]
  rcases (show f = 0 ∨ f = 1 ∨ f = 2 ∨ f = 3 by omega) with rfl | rfl | rfl | rfl <;> rfl
theorem arr_put {w : World} {g : Nat} {T : TypeId} {a b c d : Int} (h : w.heap[g]? = some (.cells #[.int .i64 a, .int .i64 b, .int .i64 c, .int .i64 d] T (0, 0))) (f v : Int) (h0 : 0 ≤ f) (h1 : f ≤ 3) :
    (w.setCell ⟨g, f.toNat, none⟩ (.int .i64 v)).heap[g]? = some (.cells #[.int .i64 (rd ([a, b, c, d].set f.toNat v) 0), .int .i64 (rd ([a, b, c, d].set f.toNat v) 1), .int .i64 (rd ([a, b, c, d].set f.toNat v) 2), .int .i64 (rd ([a, b, c, d].set f.toNat v) 3)] T (0, 0)) := by
  rcases (show f = 0 ∨ f = 1 ∨ f = 2 ∨ f = 3 by omega) with rfl | rfl | rfl | rfl
  · exact blk_put h 0 _ rfl
  · exact blk_put h 1 _ rfl
  · exact blk_put h 2 _ rfl
  · exact blk_put h 3 _ rfl
theorem new_at4 {W : World} {n : Nat} (h : W.heap.size = n) (o : Obj) : (W.alloc o).heap[n]? = some o := h ▸ blk_new W o
/-- A list of four numbers, written out. -/
theorem four_eq {l : List Int} (h : l.length = 4) : l = [rd l 0, rd l 1, rd l 2, rd l 3] := by
  match l, h with
  | [a, b, c, d], _ => rfl
/-! indexOf: the index of a permutation with given images. -/
/-- The element at i, less one for each of the first j that is smaller. -/
def lessAt (l : List Int) (i : Nat) : Nat → Int
  | 0 => rd l i
  | j + 1 => if rd l j < rd l i then lessAt l i j - 1 else lessAt l i j
def idxAt (l : List Int) : Nat → Int
  | 0 => 0
  | i + 1 => idxAt l i + lessAt l i i * permB i
def idxL (l : List Int) : Int := idxAt l 4
def sm (x : Int) : Prop := 0 ≤ x ∧ x ≤ 3
theorem lessAt_bd (l : List Int) (i : Nat) (h : sm (rd l i)) : ∀ j : Nat, -(j : Int) ≤ lessAt l i j ∧ lessAt l i j ≤ 3
  | 0 => by have := h.1; have := h.2; unfold lessAt; omega
  | j + 1 => by
    have := lessAt_bd l i h j
    unfold lessAt
    split <;> omega
set_option maxHeartbeats 8000000 in
set_option maxRecDepth 100000 in
theorem impl_indexOf.calls (a b c d : Int) (w : World) (ha : sm a) (hb : sm b) (hc : sm c) (hd : sm d) :
    Calls Try.prog 108 #[.agg #[.int .i64 a, .int .i64 b, .int .i64 c, .int .i64 d]] w fun e w' => e = .returned (.int .i64 (idxL [a, b, c, d])) ∧ Below w.heap.size w w' := by
  have hl0 : sm (rd [a, b, c, d] (0 : Nat)) := ha
  have hl1 : sm (rd [a, b, c, d] (1 : Nat)) := hb
  have hl2 : sm (rd [a, b, c, d] (2 : Nat)) := hc
  have hl3 : sm (rd [a, b, c, d] (3 : Nat)) := hd
  have HL := Aside0.mk (And.intro (lessAt_bd _ 0 hl0) (And.intro (lessAt_bd _ 1 hl1) (And.intro (lessAt_bd _ 2 hl2) (lessAt_bd _ 3 hl3))))
  have HS := Aside0.mk (And.intro hl0 (And.intro hl1 (And.intro hl2 hl3)))
  clear ha hb hc hd hl0 hl1 hl2 hl3
  generalize hl : [a, b, c, d] = l at HL HS ⊢
  have HLL := Aside0.mk hl
  clear hl
  go_enter Try.func108, Try.ntmps108
  go_wp2_with fail
  go_loopg [3, 11] 4 (fun gg v3 v11 w' => ∃ i : Nat, i ≤ 4 ∧ 4 - i ≤ gg ∧ v11 = .int .i64 i ∧ v3 = .int .i64 (idxAt l i) ∧ Aside0 (-24 * (i : Int) ≤ idxAt l i ∧ idxAt l i ≤ 24 * i) ∧
    Aside0 (w'.heap[w.heap.size]? = some (.cells #[.int .i64 a, .int .i64 b, .int .i64 c, .int .i64 d] 94 (0, 0))) ∧
    Aside0 (w'.heap[w.heap.size + 1]? = some (.cells #[.int .i64 6, .int .i64 2, .int .i64 1, .int .i64 1] 2 (0, 0))) ∧ Aside0 (Below w.heap.size w w'))
  case atStart =>
    refine ⟨0, by omega, by omega, rfl, rfl, ⟨by simp [idxAt]⟩, ⟨?_⟩, ⟨?_⟩, ⟨?_⟩⟩
    · exact blk_alloc (new_at4 rfl _) _
    · exact new_at4 (by simp) _
    · exact below_alloc (below_alloc (ypy _ _) _) _
  case round =>
    obtain ⟨i, hi, hg, rfl, rfl, HI, B1, B9, HB⟩ := hrel
    rcases (show i = 4 ∨ i = 3 ∨ i = 2 ∨ i = 1 ∨ i = 0 by omega) with rfl | rfl | rfl | rfl | rfl
    · go_wp2
      go_ret
      exact ⟨rfl, HB.out⟩
    · have b9 : wr.cell? ⟨w.heap.size + 1, 3, none⟩ = some (.int .i64 1) := (blk_cell B9.out 3).trans rfl
      have b1 : wr.cell? ⟨w.heap.size, 3, none⟩ = some (.int .i64 (rd l (3 : Nat))) := (blk_cell B1.out 3).trans (by rw [← HLL.out]; rfl)
      have hx : sm (rd l (3 : Nat)) := by have := HS.out; exact this.2.2.2
      have HD := Aside0.mk (show ∀ j : Nat, lessAt l 3 (j + 1) = if rd l (j : Nat) < rd l (3 : Nat) then lessAt l 3 j - 1 else lessAt l 3 j from fun _ => rfl)
      have HD0 := Aside0.mk (show rd l (3 : Nat) = lessAt l 3 0 from rfl)
      generalize rd l (3 : Nat) = xi at b1 HD HD0 hx
      go_wp2_with fail
      go_loopg [6, 22] 3 (fun gg v6 v22 w' => ∃ j : Nat, j ≤ 3 ∧ 3 - j ≤ gg ∧ v22 = .int .i64 j ∧ v6 = .int .i64 (lessAt l 3 j) ∧ w' = wr)
      case atStart => exact ⟨0, by omega, by omega, rfl, by rw [HD0.out], rfl⟩
      case round =>
        obtain ⟨j, hj, hg2, rfl, rfl, rfl⟩ := hrel
        by_cases hlt : j < 3
        · have hltz : (j : Int) < 3 := by omega
          have bj : wr.cell? ⟨w.heap.size, j, none⟩ = some (.int .i64 (rd l (j : Nat))) := by
            have := arr_cell B1.out (j : Int) (by omega) (by omega)
            rw [HLL.out, Int.toNat_natCast] at this
            exact this
          have hbd := (HL.out.2.2.2 j)
          obtain ⟨hbd1, hbd2⟩ := hbd
          have HN := Aside0.mk (HD.out j)
          generalize lessAt l 3 j = lv at HN hbd1 hbd2 ⊢
          generalize rd l (j : Nat) = xj at bj HN
          by_cases hless : xj < xi
          · have hd1 : decide (xj < xi) = true := ygy hless
            go_wp2
            go_roundg (3 - (j + 1))
            case measure => omega
            case rel => exact ⟨j + 1, by omega, by omega, by go_num, by rw [HN.out, if_pos hless], rfl⟩
          · have hd1 : decide (xj < xi) = false := yhy hless
            go_wp2
            go_roundg (3 - (j + 1))
            case measure => omega
            case rel => exact ⟨j + 1, by omega, by omega, by go_num, by rw [HN.out, if_neg (by omega)], rfl⟩
        · have hltz : ¬ (j : Int) < 3 := by omega
          obtain rfl : j = 3 := by omega
          have hbd := (HL.out.2.2.2 3)
          obtain ⟨hbd1, hbd2⟩ := hbd
          obtain ⟨hi1, hi2⟩ := HI.out
          have HN := Aside0.mk (show idxAt l 4 = idxAt l 3 + lessAt l 3 3 * 1 from rfl)
          generalize lessAt l 3 3 = lv at HN hbd1 hbd2 ⊢
          generalize idxAt l 3 = iv at HN hi1 hi2 ⊢
          go_wp2
          go_roundg (4 - 4)
          case measure => omega
          case rel => exact ⟨4, by omega, by omega, by first | rfl | go_num, by rw [HN.out]; rw [Int.mul_one], ⟨by rw [HN.out]; omega⟩, B1, B9, HB⟩
    · have b9 : wr.cell? ⟨w.heap.size + 1, 2, none⟩ = some (.int .i64 1) := (blk_cell B9.out 2).trans rfl
      have b1 : wr.cell? ⟨w.heap.size, 2, none⟩ = some (.int .i64 (rd l (2 : Nat))) := (blk_cell B1.out 2).trans (by rw [← HLL.out]; rfl)
      have hx : sm (rd l (2 : Nat)) := by have := HS.out; exact this.2.2.1
      have HD := Aside0.mk (show ∀ j : Nat, lessAt l 2 (j + 1) = if rd l (j : Nat) < rd l (2 : Nat) then lessAt l 2 j - 1 else lessAt l 2 j from fun _ => rfl)
      have HD0 := Aside0.mk (show rd l (2 : Nat) = lessAt l 2 0 from rfl)
      generalize rd l (2 : Nat) = xi at b1 HD HD0 hx
      go_wp2_with fail
      go_loopg [6, 22] 2 (fun gg v6 v22 w' => ∃ j : Nat, j ≤ 2 ∧ 2 - j ≤ gg ∧ v22 = .int .i64 j ∧ v6 = .int .i64 (lessAt l 2 j) ∧ w' = wr)
      case atStart => exact ⟨0, by omega, by omega, rfl, by rw [HD0.out], rfl⟩
      case round =>
        obtain ⟨j, hj, hg2, rfl, rfl, rfl⟩ := hrel
        by_cases hlt : j < 2
        · have hltz : (j : Int) < 2 := by omega
          have bj : wr.cell? ⟨w.heap.size, j, none⟩ = some (.int .i64 (rd l (j : Nat))) := by
            have := arr_cell B1.out (j : Int) (by omega) (by omega)
            rw [HLL.out, Int.toNat_natCast] at this
            exact this
          have hbd := (HL.out.2.2.1 j)
          obtain ⟨hbd1, hbd2⟩ := hbd
          have HN := Aside0.mk (HD.out j)
          generalize lessAt l 2 j = lv at HN hbd1 hbd2 ⊢
          generalize rd l (j : Nat) = xj at bj HN
          by_cases hless : xj < xi
          · have hd1 : decide (xj < xi) = true := ygy hless
            go_wp2
            go_roundg (2 - (j + 1))
            case measure => omega
            case rel => exact ⟨j + 1, by omega, by omega, by go_num, by rw [HN.out, if_pos hless], rfl⟩
          · have hd1 : decide (xj < xi) = false := yhy hless
            go_wp2
            go_roundg (2 - (j + 1))
            case measure => omega
            case rel => exact ⟨j + 1, by omega, by omega, by go_num, by rw [HN.out, if_neg (by omega)], rfl⟩
        · have hltz : ¬ (j : Int) < 2 := by omega
          obtain rfl : j = 2 := by omega
          have hbd := (HL.out.2.2.1 2)
          obtain ⟨hbd1, hbd2⟩ := hbd
          obtain ⟨hi1, hi2⟩ := HI.out
          have HN := Aside0.mk (show idxAt l 3 = idxAt l 2 + lessAt l 2 2 * 1 from rfl)
          generalize lessAt l 2 2 = lv at HN hbd1 hbd2 ⊢
          generalize idxAt l 2 = iv at HN hi1 hi2 ⊢
          go_wp2
          go_roundg (4 - 3)
          case measure => omega
          case rel => exact ⟨3, by omega, by omega, by first | rfl | go_num, by rw [HN.out]; rw [Int.mul_one], ⟨by rw [HN.out]; omega⟩, B1, B9, HB⟩
    · have b9 : wr.cell? ⟨w.heap.size + 1, 1, none⟩ = some (.int .i64 2) := (blk_cell B9.out 1).trans rfl
      have b1 : wr.cell? ⟨w.heap.size, 1, none⟩ = some (.int .i64 (rd l (1 : Nat))) := (blk_cell B1.out 1).trans (by rw [← HLL.out]; rfl)
      have hx : sm (rd l (1 : Nat)) := by have := HS.out; exact this.2.1
      have HD := Aside0.mk (show ∀ j : Nat, lessAt l 1 (j + 1) = if rd l (j : Nat) < rd l (1 : Nat) then lessAt l 1 j - 1 else lessAt l 1 j from fun _ => rfl)
      have HD0 := Aside0.mk (show rd l (1 : Nat) = lessAt l 1 0 from rfl)
      generalize rd l (1 : Nat) = xi at b1 HD HD0 hx
      go_wp2_with fail
      go_loopg [6, 22] 1 (fun gg v6 v22 w' => ∃ j : Nat, j ≤ 1 ∧ 1 - j ≤ gg ∧ v22 = .int .i64 j ∧ v6 = .int .i64 (lessAt l 1 j) ∧ w' = wr)
      case atStart => exact ⟨0, by omega, by omega, rfl, by rw [HD0.out], rfl⟩
      case round =>
        obtain ⟨j, hj, hg2, rfl, rfl, rfl⟩ := hrel
        by_cases hlt : j < 1
        · have hltz : (j : Int) < 1 := by omega
          have bj : wr.cell? ⟨w.heap.size, j, none⟩ = some (.int .i64 (rd l (j : Nat))) := by
            have := arr_cell B1.out (j : Int) (by omega) (by omega)
            rw [HLL.out, Int.toNat_natCast] at this
            exact this
          have hbd := (HL.out.2.1 j)
          obtain ⟨hbd1, hbd2⟩ := hbd
          have HN := Aside0.mk (HD.out j)
          generalize lessAt l 1 j = lv at HN hbd1 hbd2 ⊢
          generalize rd l (j : Nat) = xj at bj HN
          by_cases hless : xj < xi
          · have hd1 : decide (xj < xi) = true := ygy hless
            go_wp2
            go_roundg (1 - (j + 1))
            case measure => omega
            case rel => exact ⟨j + 1, by omega, by omega, by go_num, by rw [HN.out, if_pos hless], rfl⟩
          · have hd1 : decide (xj < xi) = false := yhy hless
            go_wp2
            go_roundg (1 - (j + 1))
            case measure => omega
            case rel => exact ⟨j + 1, by omega, by omega, by go_num, by rw [HN.out, if_neg (by omega)], rfl⟩
        · have hltz : ¬ (j : Int) < 1 := by omega
          obtain rfl : j = 1 := by omega
          have hbd := (HL.out.2.1 1)
          obtain ⟨hbd1, hbd2⟩ := hbd
          obtain ⟨hi1, hi2⟩ := HI.out
          have HN := Aside0.mk (show idxAt l 2 = idxAt l 1 + lessAt l 1 1 * 2 from rfl)
          generalize lessAt l 1 1 = lv at HN hbd1 hbd2 ⊢
          generalize idxAt l 1 = iv at HN hi1 hi2 ⊢
          go_wp2
          go_roundg (4 - 2)
          case measure => omega
          case rel => exact ⟨2, by omega, by omega, by first | rfl | go_num, by rw [HN.out], ⟨by rw [HN.out]; omega⟩, B1, B9, HB⟩
    · have b9 : wr.cell? ⟨w.heap.size + 1, 0, none⟩ = some (.int .i64 6) := (blk_cell B9.out 0).trans rfl
      have b1 : wr.cell? ⟨w.heap.size, 0, none⟩ = some (.int .i64 (rd l (0 : Nat))) := (blk_cell B1.out 0).trans (by rw [← HLL.out]; rfl)
      have hx : sm (rd l (0 : Nat)) := by have := HS.out; exact this.1
      have HD := Aside0.mk (show ∀ j : Nat, lessAt l 0 (j + 1) = if rd l (j : Nat) < rd l (0 : Nat) then lessAt l 0 j - 1 else lessAt l 0 j from fun _ => rfl)
      have HD0 := Aside0.mk (show rd l (0 : Nat) = lessAt l 0 0 from rfl)
      generalize rd l (0 : Nat) = xi at b1 HD HD0 hx
      go_wp2_with fail
      go_loopg [6, 22] 0 (fun gg v6 v22 w' => ∃ j : Nat, j ≤ 0 ∧ 0 - j ≤ gg ∧ v22 = .int .i64 j ∧ v6 = .int .i64 (lessAt l 0 j) ∧ w' = wr)
      case atStart => exact ⟨0, by omega, by omega, rfl, by rw [HD0.out], rfl⟩
      case round =>
        obtain ⟨j, hj, hg2, rfl, rfl, rfl⟩ := hrel
        by_cases hlt : j < 0
        · have hltz : (j : Int) < 0 := by omega
          have bj : wr.cell? ⟨w.heap.size, j, none⟩ = some (.int .i64 (rd l (j : Nat))) := by
            have := arr_cell B1.out (j : Int) (by omega) (by omega)
            rw [HLL.out, Int.toNat_natCast] at this
            exact this
          have hbd := (HL.out.1 j)
          obtain ⟨hbd1, hbd2⟩ := hbd
          have HN := Aside0.mk (HD.out j)
          generalize lessAt l 0 j = lv at HN hbd1 hbd2 ⊢
          generalize rd l (j : Nat) = xj at bj HN
          by_cases hless : xj < xi
          · have hd1 : decide (xj < xi) = true := ygy hless
            go_wp2
            go_roundg (0 - (j + 1))
            case measure => omega
            case rel => exact ⟨j + 1, by omega, by omega, by go_num, by rw [HN.out, if_pos hless], rfl⟩
          · have hd1 : decide (xj < xi) = false := yhy hless
            go_wp2
            go_roundg (0 - (j + 1))
            case measure => omega
            case rel => exact ⟨j + 1, by omega, by omega, by go_num, by rw [HN.out, if_neg (by omega)], rfl⟩
        · have hltz : ¬ (j : Int) < 0 := by omega
          obtain rfl : j = 0 := by omega
          have hbd := (HL.out.1 0)
          obtain ⟨hbd1, hbd2⟩ := hbd
          obtain ⟨hi1, hi2⟩ := HI.out
          have HN := Aside0.mk (show idxAt l 1 = idxAt l 0 + lessAt l 0 0 * 6 from rfl)
          generalize lessAt l 0 0 = lv at HN hbd1 hbd2 ⊢
          generalize idxAt l 0 = iv at HN hi1 hi2 ⊢
          go_wp2
          go_roundg (4 - 1)
          case measure => omega
          case rel => exact ⟨1, by omega, by omega, by first | rfl | go_num, by rw [HN.out], ⟨by rw [HN.out]; omega⟩, B1, B9, HB⟩
/-! ### impl_counting: function 81 -/
def impl_counting.l0 : Nat → List Int → Int → Int → Option (List Int)
  | 0, _, _, _ => none
  | k + 1, x3, x5, x6 => if x6 < x5 then (if x3.length < 17592186044416 then (impl_counting.l0 k (x3 ++ [x6]) x5 (wrap64 (x6 + 1))) else (none)) else (some x3)
def impl_counting.f (k : Nat) (a0 : Int) : Option (List Int) := impl_counting.l0 k ([] : List Int) a0 0
set_option maxHeartbeats 8000000 in
set_option maxRecDepth 100000 in
theorem impl_counting.calls (k : Nat) (a0 : Int) (r : List Int) (w : World) (h : impl_counting.f k a0 = some r) :
    Calls Try.prog 81 #[.int .i64 a0] w fun e w' => ∃ v0_ : Value, e = .returned (v0_) ∧ Kd.R (Kd.int .i64) 2 w' w.heap.size (fun _ => True) v0_ r ∧ Below w.heap.size w w' := by
  have HB := Aside0.mk (ypy w.heap.size w)
  have H : (impl_counting.l0 k ([] : List Int) a0 0) = some r := h
  clear h
  have H' := Aside0.mk H
  clear H
  go_enter Try.func81, Try.ntmps81
  go_wp2
  go_loopg [3, 6] k (fun kq v3 v6 w' => ∃ (x3_1 : List Int) (x6_1 : Int), v6 = .int .i64 x6_1 ∧ Aside0 (impl_counting.l0 kq x3_1 a0 x6_1 = some r) ∧ Aside0 (kq ≤ k) ∧ Aside0 (Kd.R (Kd.int .i64) 2 w' w.heap.size (fun _ => True) v3 x3_1) ∧ Aside0 (Below w.heap.size w w'))
  case atStart => exact ⟨(([] : List Int)), (0), (by first | rfl | (simp; done) | (simp [*]; done)), H', ⟨yoy _⟩, ⟨by first | exact Kd.R_nil _ _ _ _ _ | exact Kd.N_nil _ _ _ _ _ | exact Kd.V_nil _ _ _ _ _ | exact Kd.Q_nil _ _ _ _ _ | exact Kd.S_nil _ _ _ _ _⟩, ⟨by repeat (first | (with_reducible first | exact HB.out | apply below_alloc | apply pw_below_drewN | apply below_drew1) | exact HB.out)⟩⟩
  case round =>
    clear H'
    obtain ⟨x3_1, x6_1, rfl, HA, HK1, HO_3, HB⟩ := hrel
    cases gk with
    | zero => exact absurd HA.out (by simp [impl_counting.l0])
    | succ k1 =>
      have H := HA.out
      clear HA
      simp only [impl_counting.l0] at H
      by_cases c2 : x6_1 < a0
      · rw [if_pos c2] at H
        have c2b0 : decide (x6_1 < a0) = true := ygy c2
        clear c2
        by_cases c3 : x3_1.length < 17592186044416
        · rw [if_pos c3] at H
          have LMc3 := Aside0.mk c3
          clear c3
          obtain ⟨y101, hy101⟩ : ∃ y_ : List Int, y_ = (x3_1 ++ [x6_1]) := ⟨_, rfl⟩
          replace H : (impl_counting.l0 k1 y101 a0 (wrap64 (x6_1 + 1))) = some r := by first | (rw [hy101]; with_reducible exact H) | (have H2_ := (yfy _ _).symm.trans H; rw [hy101]; with_reducible exact H2_) | (have H2_ := (yfy _ _).symm.trans H; with_reducible exact H2_) | with_reducible exact H | (rw [hy101]; exact H) | exact H
          have Ny101 := Aside0.mk hy101
          clear hy101
          have H' := Aside0.mk H
          clear H
          go_wp2_with (first | ((with_reducible refine gate_builtin (b := .append) (xs := #[.tmp 9, .tmp 11]) rfl ?_); at_builtin; refine Kd.R_append (Kd.int .i64) (w0 := w) w.heap.size rfl (.tmp 9) (.tmp 11) 44 2 (.int .i64 0) 8 rfl Try.underlying44 info2 rfl (by decide) (by omega) u3 x3_1 x6_1 [.int .i64 x6_1] (fun _ => True) (fun _ => False) rfl rfl ?aP (fun _ hk => hk.elim) ?aF ?aO ?aB ?aS ?aL ?_; (case aP => exact rfl); (case aB => exact (by repeat (first | (with_reducible first | exact HB.out | apply below_alloc | apply pw_below_drewN | apply below_drew1) | exact HB.out))); (case aF => exact (fun _ _ => trivial)); (case aO => exact (by (with_reducible repeat (first | apply Kd.R_alloc | apply Kd.R_drewN | apply Kd.R_drew)); exact HO_3.out)); (case aS => exact (below_size (by repeat (first | (with_reducible first | exact HB.out | apply below_alloc | apply pw_below_drewN | apply below_drew1) | exact HB.out)))); (case aL => have := LMc3.out; omega); intro v102 w4 ho hb hg hat; rw [← Ny101.out] at ho; have n0_ := Aside0.mk (hb); have n1_ := Aside0.mk (ho); clear HB; clear HO_3; have HB := n0_; have HO103 := n1_; clear n0_ n1_; clear ho hb hg hat))
          go_roundg k1
          case measure => have := HK1.out; omega
          case rel => exact ⟨(y101), (wrap64 (x6_1 + 1)), (by first | rfl | (simp; done) | (simp [*]; done)), H', ⟨by have := HK1.out; omega⟩, ⟨by (with_reducible repeat (first | apply Kd.R_alloc | apply Kd.R_drewN | apply Kd.R_drew)); exact HO103.out⟩, ⟨by repeat (first | (with_reducible first | exact HB.out | apply below_alloc | apply pw_below_drewN | apply below_drew1) | exact HB.out)⟩⟩
        · rw [if_neg c3] at H
          exact absurd H (by simp)
      · rw [if_neg c2] at H
        have c2b0 : decide (x6_1 < a0) = false := yhy c2
        clear c2
        obtain rfl := yey H
        go_wp2
        go_ret
        exact ⟨_, by first | rfl | (simp [errW_none, errW_some] <;> rfl) | (simp [*, errW_none, errW_some] <;> rfl), by (with_reducible repeat (first | apply Kd.R_alloc | apply Kd.R_drewN | apply Kd.R_drew)); exact HO_3.out, by repeat (first | (with_reducible first | exact HB.out | apply below_alloc | apply pw_below_drewN | apply below_drew1) | exact HB.out)⟩
/-! The place of the first element that a test tells true; a row of the call's own is emptied behind a place. -/
/-- The place of the first element that p tells true, or -1. -/
def idxP (p : Int → Bool) : Nat → List Int → Int
  | _, [] => -1
  | i, x :: xs => if p x = true then (i : Int) else idxP p (i + 1) xs
theorem idxP_cases (p : Int → Bool) : ∀ (l : List Int) (i : Nat), (idxP p i l = -1 ∧ ∀ x ∈ l, p x = false) ∨ ∃ k, k < l.length ∧ idxP p i l = ((i + k : Nat) : Int) ∧ (∀ h : k < l.length, p l[k] = true) ∧ ∀ x ∈ l.take k, p x = false
  | [], _ => .inl ⟨rfl, fun x hx => by cases hx⟩
  | x :: xs, i => by
    cases hp : p x with
    | true => exact .inr ⟨0, by simp, by rw [idxP, hp, if_pos rfl]; rfl, fun _ => hp, fun y hy => by simp at hy⟩
    | false =>
      rcases idxP_cases p xs (i + 1) with ⟨h1, h2⟩ | ⟨k, h1, h2, h3, h4⟩
      · refine .inl ⟨by rw [idxP, hp, if_neg (by simp)]; exact h1, fun y hy => ?_⟩
        rcases List.mem_cons.1 hy with rfl | hy
        · exact hp
        · exact h2 y hy
      · refine .inr ⟨k + 1, by simp; omega, by rw [idxP, hp, if_neg (by simp), h2]; congr 1; omega, fun h => h3 (by simpa using h), fun y hy => ?_⟩
        rw [List.take_succ_cons] at hy
        rcases List.mem_cons.1 hy with rfl | hy
        · exact hp
        · exact h4 y hy
/-- A row is emptied from i on. -/
theorem R_cleared {e B g n cap : Nat} {ok : Nat → Prop} {w0 : World} : ∀ (m i : Nat) (w : World) (dk : List Int), Kd.R (Kd.int .i64) e w B ok (.slice (some ⟨g, 0, none⟩) n cap) dk → B ≤ g → Below B w0 w →
    ∃ dk', Kd.R (Kd.int .i64) e (w.setCells g i (List.replicate m (.int .i64 0))) B ok (.slice (some ⟨g, 0, none⟩) n cap) dk' ∧ dk'.take i = dk.take i ∧ dk'.length = dk.length ∧ Below B w0 (w.setCells g i (List.replicate m (.int .i64 0)))
  | 0, i, w, dk, h, _, hb => ⟨dk, h, rfl, rfl, hb⟩
  | m + 1, i, w, dk, h, hg, hb => by
    have hn : n = dk.length := (Kd.R_reads' h).1
    subst hn
    have h1 := (Kd.R_putg h (i : Int) 0).1
    rw [Int.toNat_natCast] at h1
    have e1 : (.slice (some ⟨g, 0, none⟩) dk.length cap : Value) = .slice (some ⟨g, 0, none⟩) (dk.set i 0).length cap := by rw [List.length_set]
    rw [e1] at h1
    obtain ⟨dk', h2, h3, h4, h5⟩ := R_cleared m (i + 1) _ _ h1 hg (hb.setCell (p := ⟨g, i, none⟩) hg (.int .i64 0))
    rw [← e1] at h2
    refine ⟨dk', h2, ?_, by rw [h4, List.length_set], h5⟩
    have := congrArg (List.take i) h3
    rw [List.take_take, List.take_take, Nat.min_eq_left (by omega)] at this
    rw [this, List.take_set_of_le (yoy i)]
/-- What is kept of the first j elements, the row being rewritten. -/
structure KeptTo (p : Int → Bool) (xs dk : List Int) (i j : Nat) : Prop where
  lt : i < j
  le : j ≤ xs.length
  len : dk.length = xs.length
  done : dk.take i = (xs.take j).filter fun x => !p x
  left : dk.drop j = xs.drop j
theorem KeptTo.start {p : Int → Bool} {xs : List Int} {k : Nat} (h1 : k < xs.length) (h3 : p xs[k] = true) (h4 : ∀ x ∈ xs.take k, p x = false) : KeptTo p xs xs k (k + 1) := by
  refine ⟨by omega, by omega, rfl, ?_, rfl⟩
  rw [List.take_succ_eq_append_getElem h1, List.filter_append]
  have e1 : (xs.take k).filter (fun x => !p x) = xs.take k := List.filter_eq_self.2 (fun x hx => by rw [h4 x hx]; rfl)
  rw [e1]; simp [h3]
theorem KeptTo.get {p : Int → Bool} {xs dk : List Int} {i j : Nat} (h : KeptTo p xs dk i j) (hj : j < xs.length) : rd dk (j : Int) = xs[j] := by
  have h1 : dk[j]? = xs[j]? := by
    have := congrArg (fun l => l[0]?) h.left
    simpa [List.getElem?_drop] using this
  have h2 : j < dk.length := by rw [h.len]; exact hj
  simp [rd, List.getD_eq_getElem?_getD, h1, hj]
theorem KeptTo.keep {p : Int → Bool} {xs dk : List Int} {i j : Nat} (h : KeptTo p xs dk i j) (hj : j < xs.length) (hp : p xs[j] = false) : KeptTo p xs (dk.set i xs[j]) (i + 1) (j + 1) := by
  have hi : i < dk.length := by have := h.lt; have := h.len; omega
  refine ⟨by have := h.lt; omega, by omega, by rw [List.length_set]; exact h.len, ?_, ?_⟩
  · rw [List.take_succ_eq_append_getElem (by rw [List.length_set]; exact hi), List.take_set_of_le (yoy i), h.done, List.take_succ_eq_append_getElem hj, List.filter_append]
    simp [hp]
  · rw [List.drop_set_of_lt (by have := h.lt; omega), ← List.drop_drop, h.left, List.drop_drop]
theorem KeptTo.skip {p : Int → Bool} {xs dk : List Int} {i j : Nat} (h : KeptTo p xs dk i j) (hj : j < xs.length) (hp : p xs[j] = true) : KeptTo p xs dk i (j + 1) := by
  refine ⟨by have := h.lt; omega, by omega, h.len, ?_, ?_⟩
  · rw [h.done, List.take_succ_eq_append_getElem hj, List.filter_append]
    simp [hp]
  · rw [← List.drop_drop, h.left, List.drop_drop]
/-! slices.IndexFunc and slices.DeleteFunc at []int64, handed others' literal. -/
set_option maxHeartbeats 8000000 in
set_option maxRecDepth 100000 in
theorem slices_IndexFunc_others.calls (p : Int → Bool) (k1_ : Value) (A0 : Option Addr) (c0 : Nat) (l0 : List Int) (w : World) (hr0 : Kd.C (Kd.int .i64) w A0 l0.length l0)
    (hp : ∀ (W : World) (x : Int), x ∈ l0 → Below w.heap.size w W → Calls Try.prog 136 #[.int .i64 x, k1_] W fun e W' => e = .returned (.bool (p x)) ∧ Below W.heap.size W W') :
    Calls Try.prog 124 #[.slice A0 l0.length c0, .func (.func 136) #[] #[k1_]] w fun e w' => e = .returned (.int .i64 (idxP p 0 l0)) ∧ Below w.heap.size w w' := by
  have HR0 := Aside0.mk hr0
  have HP := Aside0.mk hp
  clear hr0 hp
  have hbig : l0.length ≤ 9223372036854775807 := HR0.out.2.1
  have HB := Aside0.mk (ypy w.heap.size w)
  have H' : Aside0 (idxP p 0 (l0.drop 0) = idxP p 0 l0) := ⟨by rw [List.drop_zero]⟩
  generalize idxP p 0 l0 = r at H' ⊢
  go_enter Try.func124, Try.ntmps124
  go_wp2
  go_loopg [5, 8] l0.length (fun gg v5 v8 w' => ∃ kk : Nat, kk ≤ l0.length ∧ l0.length - kk ≤ gg ∧ v8 = .int .i64 kk ∧ Aside0 (idxP p kk (l0.drop kk) = r) ∧ Aside0 (Below w.heap.size w w'))
  case atStart => exact ⟨0, Nat.zero_le _, by omega, rfl, H', HB⟩
  case round =>
    clear H' HB
    obtain ⟨kk, hkk, hg, rfl, HA, HB⟩ := hrel
    by_cases hlt : kk < l0.length
    · have hltz : (kk : Int) < (l0.length : Int) := by omega
      have H := HA.out
      clear HA
      rw [List.drop_eq_getElem_cons hlt, idxP] at H
      obtain ⟨ad, e104, hx⟩ := Kd.at_int HR0.out (kk : Int) (by omega) (by omega)
      have ex : rd l0 (kk : Int) = l0[kk] := by simp [rd, hlt]
      rw [ex, Int.toNat_natCast] at hx
      replace hx := (HB.out.cell (yny w _ hx)).trans hx
      have HC := Aside0.mk (HP.out wr l0[kk] (List.getElem_mem hlt) HB.out)
      generalize l0[kk] = y at hx H HC
      clear ex
      cases e104
      cases hq : p y with
      | true =>
        rw [hq] at HC H
        rw [if_pos rfl] at H
        have H2 := Aside0.mk H
        clear H
        go_wp2_with fail
        refine HC.out.mono ?_
        rintro e w' ⟨rfl, hd⟩
        have HB2 := Aside0.mk (below_step HB.out hd)
        clear hd HB HC
        go_wp2
        go_ret
        exact ⟨by rw [← H2.out]; rfl, HB2.out⟩
      | false =>
        rw [hq] at HC H
        rw [if_neg (by simp)] at H
        have H2 := Aside0.mk H
        clear H
        go_wp2_with fail
        refine HC.out.mono ?_
        rintro e w' ⟨rfl, hd⟩
        have HB2 := Aside0.mk (below_step HB.out hd)
        clear hd HB HC
        go_wp2
        go_roundg (l0.length - (kk + 1))
        case measure => omega
        case rel => exact ⟨kk + 1, by omega, by omega, by go_num, H2, HB2⟩
    · have hltz : ¬ (kk : Int) < (l0.length : Int) := by omega
      have e : kk = l0.length := by omega
      subst e
      have H2 := Aside0.mk (show (-1 : Int) = r by have := HA.out; rwa [List.drop_length, idxP] at this)
      clear HA
      go_wp2
      go_ret
      exact ⟨by rw [← H2.out]; rfl, HB.out⟩
set_option maxHeartbeats 8000000 in
set_option maxRecDepth 100000 in
theorem slices_DeleteFunc_others.calls (p : Int → Bool) (k1_ : Value) (g cap B : Nat) (ok : Nat → Prop) (xs : List Int) (w : World) (hR : Kd.R (Kd.int .i64) 2 w B ok (.slice (some ⟨g, 0, none⟩) xs.length cap) xs)
    (hp : ∀ (W : World) (x : Int), x ∈ xs → Below B w W → Calls Try.prog 136 #[.int .i64 x, k1_] W fun e W' => e = .returned (.bool (p x)) ∧ Below W.heap.size W W') :
    Calls Try.prog 80 #[.slice (some ⟨g, 0, none⟩) xs.length cap, .func (.func 136) #[] #[k1_]] w fun e w' => ∃ v', e = .returned v' ∧ Kd.R (Kd.int .i64) 2 w' B ok v' (xs.filter fun x => !p x) ∧ Below B w w' := by
  have hgB : B ≤ g := Kd.R_base hR g (by simp [Value.ownBlock])
  have hgW : g < w.heap.size := Kd.R_lt hR g (by simp [Value.ownBlock])
  have hcap : xs.length ≤ cap := (Kd.R_reads' hR).2.1
  have hbig : xs.length ≤ 9223372036854775807 := Kd.C_max (Kd.R_reads' hR).2.2
  have HIX := Aside0.mk (slices_IndexFunc_others.calls p k1_ (some ⟨g, 0, none⟩) cap xs w (Kd.R_reads' hR).2.2 (fun W x hx hb => hp W x hx (hb.mono (by omega))))
  have HR := Aside0.mk hR
  have HP := Aside0.mk hp
  have HG := Aside0.mk (And.intro hgB hgW)
  clear hR hp hgB hgW
  rcases idxP_cases p xs 0 with ⟨h1, h2⟩ | ⟨k, h1, h2, h3, h4⟩
  · rw [h1] at HIX
    have e1 : xs.filter (fun x => !p x) = xs := List.filter_eq_self.2 (fun x hx => by rw [h2 x hx]; rfl)
    rw [e1]
    clear h1 h2 e1 HP
    go_enter Try.func80, Try.ntmps80
    go_wp2_with fail
    refine HIX.out.mono ?_
    rintro e w' ⟨rfl, hd⟩
    have HB := Aside0.mk (hd.mono (show B ≤ w.heap.size by have := HG.out; omega))
    have HR2 := Aside0.mk (Kd.R_below HR.out hd)
    clear hd HIX HR
    go_wp2
    go_ret
    exact ⟨_, rfl, HR2.out, HB.out⟩
  · rw [h2, Nat.zero_add] at HIX
    have HK0 := Aside0.mk (KeptTo.start h1 (h3 h1) h4)
    have hk9 : k < xs.length := h1
    have hne : ((k : Int) == -1) = false := beq_eq_false_iff_ne.2 (by omega)
    clear h2 h3 h4 h1
    go_enter Try.func80, Try.ntmps80
    go_wp2_with fail
    refine HIX.out.mono ?_
    rintro e w1 ⟨rfl, hd⟩
    have HB := Aside0.mk (hd.mono (show B ≤ w.heap.size by have := HG.out; omega))
    have HR2 := Aside0.mk (Kd.R_below HR.out hd)
    clear hd HIX HR
    go_wp2
    clear hne
    go_loopg [5, 6, 7] xs.length (fun gg s5 s6 _ wr => ∃ (i j : Nat) (dk : List Int), s5 = .int .i64 i ∧ s6 = .int .i64 j ∧ xs.length - j ≤ gg ∧ Aside0 (KeptTo p xs dk i j) ∧ Aside0 (Kd.R (Kd.int .i64) 2 wr B ok (.slice (some ⟨g, 0, none⟩) xs.length cap) dk) ∧ Aside0 (Below B w wr))
    case atStart => exact ⟨k, k + 1, xs, rfl, by go_num, by omega, HK0, HR2, HB⟩
    case round =>
      clear HK0 HR2 HB hk9
      obtain ⟨i, j, dk, rfl, rfl, hgg, HK, HR, HB⟩ := hrel
      have hij := HK.out.lt
      have hjl := HK.out.le
      have hdl := HK.out.len
      by_cases hlt : j < xs.length
      · have hltz : (j : Int) < (xs.length : Int) := by omega
        have hr2 := HR.out
        rw [← hdl] at hr2
        obtain ⟨cj, _⟩ := Kd.R_celln 0 hr2 (j : Int) (by omega) (by omega)
        obtain ⟨ci, fi⟩ := Kd.R_celln 0 hr2 (i : Int) (by omega) (by omega)
        replace cj : wr.cell? ⟨g, j, none⟩ = some (.int .i64 (rd dk (j : Int))) := cj
        replace ci : wr.cell? ⟨g, i, none⟩ = some (.int .i64 (rd dk (i : Int))) := ci
        replace fi : wr.frozen? ⟨g, i, none⟩ = false := fi
        rw [HK.out.get hlt] at cj
        have HC := Aside0.mk (HP.out wr xs[j] (List.getElem_mem hlt) HB.out)
        generalize hu : xs[j] = u at cj HC
        have HU := Aside0.mk hu
        generalize rd dk (i : Int) = old at ci
        clear hu hr2
        cases hq : p u with
        | false =>
          rw [hq] at HC
          go_wp2_with fail
          refine HC.out.mono ?_
          rintro e w2 ⟨rfl, hd⟩
          have HB2 := Aside0.mk (HB.out.trans (hd.mono (show B ≤ wr.heap.size by have := HB.out.size; have := HG.out; omega)))
          have hr3 := Kd.R_below HR.out hd
          rw [← hdl] at hr3
          have HR3 := Aside0.mk (Kd.R_putg hr3 (i : Int) u).1
          rw [Int.toNat_natCast] at HR3
          have ci2 := (hd.cell (yny wr _ ci)).trans ci
          have fi2 := (hd.frozen (yny wr _ ci)).trans fi
          clear hd HB HC cj ci fi hr3 HR
          go_wp2
          go_roundg (xs.length - (j + 1))
          case measure => omega
          case rel => exact ⟨i + 1, j + 1, dk.set i u, by go_num, by go_num, by omega, ⟨by have := HK.out.keep hlt (by rw [HU.out]; exact hq); rwa [HU.out] at this⟩, ⟨by rw [← hdl]; exact HR3.out⟩, ⟨HB2.out.setCell (p := ⟨g, i, none⟩) HG.out.1 _⟩⟩
        | true =>
          rw [hq] at HC
          go_wp2_with fail
          refine HC.out.mono ?_
          rintro e w2 ⟨rfl, hd⟩
          have HB2 := Aside0.mk (HB.out.trans (hd.mono (show B ≤ wr.heap.size by have := HB.out.size; have := HG.out; omega)))
          have HR3 := Aside0.mk (Kd.R_below HR.out hd)
          clear hd HB HC cj ci fi HR
          go_wp2
          go_roundg (xs.length - (j + 1))
          case measure => omega
          case rel => exact ⟨i, j + 1, dk, rfl, by go_num, by omega, ⟨HK.out.skip hlt (by rw [HU.out]; exact hq)⟩, HR3, HB2⟩
      · obtain rfl : j = xs.length := by omega
        have hltz : ¬ (xs.length : Int) < (xs.length : Int) := by omega
        have hr2 := HR.out
        rw [← hdl] at hr2
        have hcl : ∀ ty, (Builtin.clear_ #[44] ty #[.slice (some ⟨g, i, none⟩) (xs.length - i) (cap - i)]).run Try.prog wr = .ok (.tuple #[]) (wr.setCells g i (List.replicate (xs.length - i) (.int .i64 0))) :=
          fun ty => Lib.run_clear_slice wr _ _ ty _ Try.underlying44 (fun w => Try.zeroValue2 w) rfl rfl g i _ _ (by omega) (fun t ht => by have q : wr.cell? ⟨g, i + t, none⟩ = some (.int .i64 (rd dk ((i + t : Nat) : Int))) := (Kd.R_celln 0 hr2 ((i + t : Nat) : Int) (by omega) (by omega)).1; rw [q]; rfl) (fun t ht => (Kd.R_celln 0 hr2 ((i + t : Nat) : Int) (by omega) (by omega)).2)
        obtain ⟨dk', q1, q2, q3, q4⟩ := R_cleared (xs.length - i) i wr dk HR.out HG.out.1 HB.out
        have q5 := Kd.R_take (m := i) q1 (by omega)
        have q6 : dk'.take i = xs.filter fun x => !p x := by rw [q2, HK.out.done, List.take_length]
        rw [q6] at q5
        have Q5 := Aside0.mk q5
        have Q4 := Aside0.mk q4
        clear q1 q2 q3 q4 q5 q6 hr2 HR HB HP HK hdl
        go_wp2
        go_ret
        exact ⟨_, rfl, Q5.out, Q4.out⟩
/-! ### slices_Index_Sint64: function 42 -/
def slices_Index_Sint64.l0 : Nat → List Int → Int → Int → Int → Option (Int)
  | 0, _, _, _, _ => none
  | k + 1, x0, x1, x7, x8 => if x8 < x7 then (if 0 ≤ x8 then (if x8 < (x0.length : Int) then (if x1 = (rd x0 x8) then (some x8) else (slices_Index_Sint64.l0 k x0 x1 x7 (wrap64 (x8 + 1)))) else (none)) else (none)) else (some (-1))
def slices_Index_Sint64.f (k : Nat) (l0 : List Int) (a1 : Int) : Option (Int) := slices_Index_Sint64.l0 k l0 a1 (l0.length : Int) 0
set_option maxHeartbeats 8000000 in
set_option maxRecDepth 100000 in
theorem slices_Index_Sint64.calls (k : Nat) (A0 : Option Addr) (c0 : Nat) (l0 : List Int) (a1 : Int) (r : Int) (w : World) (hr0 : Kd.C (Kd.int .i64) w A0 l0.length l0) (hc0 : l0.length ≤ c0) (h : slices_Index_Sint64.f k l0 a1 = some r) :
    Calls Try.prog 42 #[.slice A0 l0.length c0, .int .i64 a1] w fun e w' => e = .returned (.int .i64 r) ∧ Drawn0 w w' := by
  have HR0 := Aside0.mk hr0
  have HC0 := Aside0.mk hc0
  clear hr0 hc0
  have H : (slices_Index_Sint64.l0 k l0 a1 (l0.length : Int) 0) = some r := h
  clear h
  have H' := Aside0.mk H
  clear H
  go_enter Try.func42, Try.ntmps42
  go_wp2
  go_loopg [8] k (fun kq v8 w' => ∃ (x8_1 : Int), v8 = .int .i64 x8_1 ∧ Aside0 (slices_Index_Sint64.l0 kq l0 a1 (l0.length : Int) x8_1 = some r) ∧ Aside0 (kq ≤ k) ∧ Drawn0 w w')
  case atStart => exact ⟨(0), (by first | rfl | (simp; done) | (simp [*]; done)), H', ⟨yoy _⟩, by repeat (first | exact Drawn0.refl _ | apply Drawn0.step)⟩
  case round =>
    clear H'
    try clear p2
    obtain ⟨x8_1, rfl, HA, HK1, ⟨m1, rfl⟩⟩ := hrel
    cases gk with
    | zero => exact absurd HA.out (by simp [slices_Index_Sint64.l0])
    | succ k1 =>
      have H := HA.out
      clear HA
      simp only [slices_Index_Sint64.l0] at H
      by_cases c3 : x8_1 < (l0.length : Int)
      · rw [if_pos c3] at H
        have c3b0 : decide (x8_1 < (l0.length : Int)) = true := ygy c3
        clear c3
        by_cases c4 : 0 ≤ x8_1
        · rw [if_pos c4] at H
          have c4b0 : decide (0 ≤ x8_1) = true := ygy c4
          clear c4
          by_cases c5 : x8_1 < (l0.length : Int)
          · rw [if_pos c5] at H
            have c5b0 : decide (x8_1 < (l0.length : Int)) = true := ygy c5
            clear c5
            by_cases c6 : a1 = (rd l0 x8_1)
            · rw [if_pos c6] at H
              have c6b0 : (a1 == (rd l0 x8_1)) = true := beq_iff_eq.mpr c6
              have c6b1 : (a1 != (rd l0 x8_1)) = false := bne_eq_false_iff_eq.mpr c6
              clear c6
              obtain rfl := yey H
              have p101 : 0 ≤ (x8_1 : Int) := of_decide_eq_true (by first | (with_reducible assumption) | assumption)
              have q101 : x8_1 < (l0.length : Int) := of_decide_eq_true (by first | (with_reducible assumption) | assumption)
              obtain ⟨ad101, e101, hx101_0⟩ := Kd.at_int HR0.out x8_1 p101 q101
              cases e101
              replace p101 := eq_true p101
              replace q101 := eq_true q101
              go_wp2
              go_ret
              exact ⟨by first | rfl | (simp; done) | (simp [*]; done), by repeat (first | exact Drawn0.refl _ | apply Drawn0.step)⟩
            · rw [if_neg c6] at H
              have c6b0 : (a1 == (rd l0 x8_1)) = false := beq_eq_false_iff_ne.mpr c6
              have c6b1 : (a1 != (rd l0 x8_1)) = true := bne_iff_ne.mpr c6
              have H' := Aside0.mk H
              clear H
              have p101 : 0 ≤ (x8_1 : Int) := of_decide_eq_true (by first | (with_reducible assumption) | assumption)
              have q101 : x8_1 < (l0.length : Int) := of_decide_eq_true (by first | (with_reducible assumption) | assumption)
              obtain ⟨ad101, e101, hx101_0⟩ := Kd.at_int HR0.out x8_1 p101 q101
              cases e101
              replace p101 := eq_true p101
              replace q101 := eq_true q101
              go_wp2
              go_roundg k1
              case measure => have := HK1.out; omega
              case rel => exact ⟨(wrap64 (x8_1 + 1)), (by first | rfl | (simp; done) | (simp [*]; done)), H', ⟨by have := HK1.out; omega⟩, by repeat (first | exact Drawn0.refl _ | apply Drawn0.step)⟩
          · rw [if_neg c5] at H
            exact absurd H (by simp)
        · rw [if_neg c4] at H
          exact absurd H (by simp)
      · rw [if_neg c3] at H
        have c3b0 : decide (x8_1 < (l0.length : Int)) = false := yhy c3
        clear c3
        obtain rfl := yey H
        go_wp2
        go_ret
        exact ⟨by first | rfl | (simp; done) | (simp [*]; done), by repeat (first | exact Drawn0.refl _ | apply Drawn0.step)⟩
/-! ### slices_Contains_Sint64: function 137 -/
def slices_Contains_Sint64.f (k : Nat) (l0 : List Int) (a1 : Int) : Option (Bool) := (slices_Index_Sint64.f k l0 a1).bind fun t101 => (some (decide (t101 ≥ 0)))
set_option maxHeartbeats 8000000 in
set_option maxRecDepth 100000 in
theorem slices_Contains_Sint64.calls (k : Nat) (A0 : Option Addr) (c0 : Nat) (l0 : List Int) (a1 : Int) (r : Bool) (w : World) (hr0 : Kd.C (Kd.int .i64) w A0 l0.length l0) (hc0 : l0.length ≤ c0) (h : slices_Contains_Sint64.f k l0 a1 = some r) :
    Calls Try.prog 137 #[.slice A0 l0.length c0, .int .i64 a1] w fun e w' => e = .returned (.bool r) ∧ Drawn0 w w' := by
  have HR0 := Aside0.mk hr0
  have HC0 := Aside0.mk hc0
  clear hr0 hc0
  have H : ((slices_Index_Sint64.f k l0 a1).bind fun t101 => (some (decide (t101 ≥ 0)))) = some r := h
  clear h
  replace H := ydy.mp H
  obtain ⟨t101, A30, H⟩ := H
  replace H : (some (decide (t101 ≥ 0))) = some r := H
  have A3 := Aside0.mk A30
  clear A30
  obtain rfl := yey H
  go_enter Try.func137, Try.ntmps137
  go_wp2_with (first | ((with_reducible refine gate_callee (f := 42) rfl ?_); refine goesL_ (some 7) rfl rfl Try.func42 (by kernel_rfl) rfl #[.slice A0 l0.length c0, .int .i64 a1] rfl (by (try simp only [yiy, yjy, yky]); first | done | rfl | (simp only [yly, ymy]; rfl)) ?_; (with_reducible refine (slices_Index_Sint64.calls k _ _ l0 a1 t101 _ ?side1 ?side2 A3.out).mono ?_); (case side1 => repeat (first | exact HR0.out | (with_reducible refine Kd.C_alloc ?_ _) | (with_reducible refine Kd.C_drewN ?_ _) | (with_reducible refine Kd.C_drew ?_))); (case side2 => exact HC0.out); rintro e w' ⟨rfl, ⟨nd, rfl⟩⟩; refine ⟨_, rfl, ?_⟩))
  go_ret
  exact ⟨by first | rfl | (simp; done) | (simp [*]; done), by repeat (first | exact Drawn0.refl _ | apply Drawn0.step)⟩
/-! others: the vertices of a tetrahedron but some. -/
def othL (l0 : List Int) : List Int := [0, 1, 2, 3].filter fun x => !l0.contains x
def impl_others.f (l0 : List Int) : Option (List Int) := some (othL l0)
theorem index_l0 (l : List Int) (x : Int) (hl : l.length ≤ 9223372036854775807) : ∀ (d n : Nat), n + d = l.length → ∃ r, slices_Index_Sint64.l0 (d + 1) l x (l.length : Int) (n : Int) = some r ∧ decide (r ≥ 0) = (l.drop n).contains x
  | 0, n, h => ⟨-1, by rw [slices_Index_Sint64.l0, if_neg (by omega)], by rw [List.drop_eq_nil_of_le (by omega)]; rfl⟩
  | d + 1, n, h => by
    have hlt : n < l.length := by omega
    obtain ⟨r, h1, h2⟩ := index_l0 l x hl d (n + 1) (by omega)
    have ex : rd l (n : Int) = l[n] := by simp [rd, hlt]
    rw [slices_Index_Sint64.l0, if_pos (by omega), if_pos (by omega), if_pos (by omega), ex, List.drop_eq_getElem_cons hlt, List.contains_cons]
    by_cases c : x = l[n]
    · exact ⟨n, by rw [if_pos c], by rw [← c]; simp⟩
    · refine ⟨r, ?_, ?_⟩
      · rw [if_neg c, ← h1]; congr 1; unfold wrap64; omega
      · rw [h2]
        have : (x == l[n]) = false := by simpa using c
        rw [this, Bool.false_or]
theorem contains_eq (l : List Int) (x : Int) (hl : l.length ≤ 9223372036854775807) : slices_Contains_Sint64.f (l.length + 1) l x = some (l.contains x) := by
  obtain ⟨r, h1, h2⟩ := index_l0 l x hl l.length 0 (by omega)
  have h3 : slices_Index_Sint64.f (l.length + 1) l x = some r := h1
  unfold slices_Contains_Sint64.f
  rw [h3, yfy, h2, List.drop_zero]
set_option maxHeartbeats 8000000 in
set_option maxRecDepth 100000 in
theorem impl_others_1.calls (A0 : Option Addr) (c0 gb : Nat) (l0 : List Int) (x : Int) (w : World) (hb : w.heap[gb]? = some (.cells #[.slice A0 l0.length c0] 44 (0, 0))) (hC : Kd.C (Kd.int .i64) w A0 l0.length l0) (hc : l0.length ≤ c0) :
    Calls Try.prog 136 #[.int .i64 x, .pointer (some ⟨gb, 0, none⟩)] w fun e w' => e = .returned (.bool (l0.contains x)) ∧ Below w.heap.size w w' := by
  have hx : w.cell? ⟨gb, 0, none⟩ = some (.slice A0 l0.length c0) := (blk_cell hb 0).trans rfl
  have HCC := Aside0.mk (contains_eq l0 x hC.2.1)
  have HC := Aside0.mk hC
  have HL := Aside0.mk hc
  clear hb hC hc
  generalize l0.contains x = b at HCC ⊢
  go_enter Try.func136, Try.ntmps136
  go_wp2_with fail
  refine (slices_Contains_Sint64.calls _ A0 c0 l0 x b _ HC.out HL.out HCC.out).mono ?_
  rintro e w' ⟨rfl, hd⟩
  have HB := Aside0.mk (Drawn0.below hd)
  clear hd
  go_wp2
  go_ret
  exact ⟨rfl, HB.out⟩
theorem counting_four : impl_counting.f 10 4 = some [0, 1, 2, 3] := by decide +kernel
set_option maxHeartbeats 8000000 in
set_option maxRecDepth 100000 in
theorem impl_others.calls (A0 : Option Addr) (c0 : Nat) (l0 : List Int) (r : List Int) (w : World) (hr0 : Kd.C (Kd.int .i64) w A0 l0.length l0) (hc0 : l0.length ≤ c0) (h : impl_others.f l0 = some r) :
    Calls Try.prog 106 #[.slice A0 l0.length c0] w fun e w' => ∃ v0_ : Value, e = .returned (v0_) ∧ Kd.R (Kd.int .i64) 2 w' w.heap.size (fun _ => True) v0_ r ∧ Below w.heap.size w w' := by
  have hr : othL l0 = r := yey h
  subst hr
  clear h
  have HR := Aside0.mk hr0
  have HC := Aside0.mk hc0
  clear hr0 hc0
  go_enter Try.func106, Try.ntmps106
  have BB := Aside0.mk (new_at4 (W := w) rfl (.cells #[.slice A0 l0.length c0] 44))
  have HB := Aside0.mk (below_alloc (ypy w.heap.size w) (.cells #[.slice A0 l0.length c0] 44))
  have HS := Aside0.mk (show (w.alloc (.cells #[.slice A0 l0.length c0] 44)).heap.size = w.heap.size + 1 by simp)
  go_wp2_with fail
  refine (impl_counting.calls 10 4 [0, 1, 2, 3] _ counting_four).mono ?_
  rintro e w1 ⟨v1, rfl, ho, hb⟩
  obtain ⟨g, cap, rfl, hg1, hg2, _⟩ := Kd.R_form ho (by decide)
  have BB1 := Aside0.mk (blk_below BB.out hb)
  have HB1 := Aside0.mk (below_step HB.out hb)
  rw [HS.out] at ho hg1
  have HO := Aside0.mk ho
  have HG := Aside0.mk hg1
  clear ho hb hg1 hg2 BB HB HS
  go_wp2_with fail
  refine (slices_DeleteFunc_others.calls (fun x => l0.contains x) (.pointer (some ⟨w.heap.size, 0, none⟩)) g cap (w.heap.size + 1) (fun _ => True) [0, 1, 2, 3] _ HO.out (fun W x _ hb => impl_others_1.calls A0 c0 w.heap.size l0 x W ((hb.block w.heap.size (by omega)).trans BB1.out) (Kd.C_below HR.out (HB1.out.trans (hb.mono (by omega)))) HC.out)).mono ?_
  rintro e w2 ⟨v2, rfl, ho, hb⟩
  have HO2 := Aside0.mk (Kd.R_lower ho (show w.heap.size ≤ w.heap.size + 1 by omega))
  have HB2 := Aside0.mk (HB1.out.trans (hb.mono (show w.heap.size ≤ w.heap.size + 1 by omega)))
  clear ho hb HO HB1 BB1
  go_wp2
  go_ret
  exact ⟨_, rfl, HO2.out, HB2.out⟩
/-! ### impl_ranksIn: function 109 -/
mutual
def impl_ranksIn.l0 : Nat → List Int → List Int → List Int → Int → Int → Option (List Int)
  | 0, _, _, _, _, _ => none
  | k + 1, x0, x3, x9, x10, x11 => if x11 < x10 then (if 0 ≤ x11 then (if x11 < (x9.length : Int) then (impl_ranksIn.l1 k x0 x3 (rd x9 x11) 0 x9 x10 x11 x0 (x0.length : Int) 0) else (none)) else (none)) else (some x3)
def impl_ranksIn.l1 : Nat → List Int → List Int → Int → Int → List Int → Int → Int → List Int → Int → Int → Option (List Int)
  | 0, _, _, _, _, _, _, _, _, _, _ => none
  | k + 1, x0, x3, x5, x6, x9, x10, x11, x15, x16, x17 => if x17 < x16 then (if 0 ≤ x17 then (if x17 < (x15.length : Int) then (if (rd x15 x17) < x5 then (impl_ranksIn.l1 k x0 x3 x5 (wrap64 (x6 + 1)) x9 x10 x11 x15 x16 (wrap64 (x17 + 1))) else (impl_ranksIn.l1 k x0 x3 x5 x6 x9 x10 x11 x15 x16 (wrap64 (x17 + 1)))) else (none)) else (none)) else (if x3.length < 17592186044416 then (impl_ranksIn.l0 k x0 (x3 ++ [x6]) x9 x10 (wrap64 (x11 + 1))) else (none))
end
def impl_ranksIn.f (k : Nat) (l0 : List Int) : Option (List Int) := impl_ranksIn.l0 k l0 ([] : List Int) l0 (l0.length : Int) 0
set_option maxHeartbeats 8000000 in
set_option maxRecDepth 100000 in
theorem impl_ranksIn.calls (k : Nat) (A0 : Option Addr) (c0 : Nat) (l0 : List Int) (r : List Int) (w : World) (hr0 : Kd.C (Kd.int .i64) w A0 l0.length l0) (hc0 : l0.length ≤ c0) (h : impl_ranksIn.f k l0 = some r) :
    Calls Try.prog 109 #[.slice A0 l0.length c0] w fun e w' => ∃ v0_ : Value, e = .returned (v0_) ∧ Kd.R (Kd.int .i64) 2 w' w.heap.size (fun _ => True) v0_ r ∧ Below w.heap.size w w' := by
  have HR0 := Aside0.mk hr0
  have HC0 := Aside0.mk hc0
  clear hr0 hc0
  have HB := Aside0.mk (ypy w.heap.size w)
  have H : (impl_ranksIn.l0 k l0 ([] : List Int) l0 (l0.length : Int) 0) = some r := h
  clear h
  have H' := Aside0.mk H
  clear H
  go_enter Try.func109, Try.ntmps109
  go_wp2
  go_loopg [3, 11] k (fun kq v3 v11 w' => ∃ (x3_1 : List Int) (x11_1 : Int), v11 = .int .i64 x11_1 ∧ Aside0 (impl_ranksIn.l0 kq l0 x3_1 l0 (l0.length : Int) x11_1 = some r) ∧ Aside0 (kq ≤ k) ∧ Aside0 (Kd.R (Kd.int .i64) 2 w' w.heap.size (fun _ => True) v3 x3_1) ∧ Aside0 (Below w.heap.size w w'))
  case atStart => exact ⟨(([] : List Int)), (0), (by first | rfl | (simp; done) | (simp [*]; done)), H', ⟨yoy _⟩, ⟨by first | exact Kd.R_nil _ _ _ _ _ | exact Kd.N_nil _ _ _ _ _ | exact Kd.V_nil _ _ _ _ _ | exact Kd.Q_nil _ _ _ _ _ | exact Kd.S_nil _ _ _ _ _⟩, ⟨by repeat (first | (with_reducible first | exact HB.out | apply below_alloc | apply pw_below_drewN | apply below_drew1) | exact HB.out)⟩⟩
  case round =>
    clear H'
    try clear c1
    obtain ⟨x3_1, x11_1, rfl, HA, HK1, HO_3, HB⟩ := hrel
    cases gk with
    | zero => exact absurd HA.out (by simp [impl_ranksIn.l0])
    | succ k1 =>
      have H := HA.out
      clear HA
      simp only [impl_ranksIn.l0] at H
      by_cases c2 : x11_1 < (l0.length : Int)
      · rw [if_pos c2] at H
        have c2b0 : decide (x11_1 < (l0.length : Int)) = true := ygy c2
        clear c2
        by_cases c3 : 0 ≤ x11_1
        · rw [if_pos c3] at H
          have c3b0 : decide (0 ≤ x11_1) = true := ygy c3
          clear c3
          by_cases c4 : x11_1 < (l0.length : Int)
          · rw [if_pos c4] at H
            have c4b0 : decide (x11_1 < (l0.length : Int)) = true := ygy c4
            clear c4
            have H' := Aside0.mk H
            clear H
            have p101 : 0 ≤ (x11_1 : Int) := of_decide_eq_true (by first | (with_reducible assumption) | assumption)
            have q101 : x11_1 < (l0.length : Int) := of_decide_eq_true (by first | (with_reducible assumption) | assumption)
            obtain ⟨ad101, e101, hx101_0⟩ := Kd.at_int HR0.out x11_1 p101 q101
            cases e101
            replace hx101_0 := (HB.out.cell (yny w _ hx101_0)).trans hx101_0
            replace p101 := eq_true p101
            replace q101 := eq_true q101
            go_wp2
            go_loopg [6, 17] k1 (fun kq v6 v17 w' => ∃ (x6_2 : Int) (x17_2 : Int), v6 = .int .i64 x6_2 ∧ v17 = .int .i64 x17_2 ∧ Aside0 (impl_ranksIn.l1 kq l0 x3_1 (rd l0 x11_1) x6_2 l0 (l0.length : Int) x11_1 l0 (l0.length : Int) x17_2 = some r) ∧ Aside0 (kq ≤ k1) ∧ Aside0 (Kd.R (Kd.int .i64) 2 w' w.heap.size (fun _ => True) u3 x3_1) ∧ Aside0 (Below w.heap.size w w'))
            case atStart => exact ⟨(0), (0), (by first | rfl | (simp; done) | (simp [*]; done)), (by first | rfl | (simp; done) | (simp [*]; done)), H', ⟨yoy _⟩, ⟨by (with_reducible repeat (first | apply Kd.R_alloc | apply Kd.R_drewN | apply Kd.R_drew)); exact HO_3.out⟩, ⟨by repeat (first | (with_reducible first | exact HB.out | apply below_alloc | apply pw_below_drewN | apply below_drew1) | exact HB.out)⟩⟩
            case round =>
              clear H'
              try clear c1
              try clear p1
              try clear q1
              try clear hx1
              try clear c2
              try clear c2b0
              try clear p2
              try clear c3
              try clear c3b0
              try clear c4
              try clear c4b0
              try clear hx101_0
              try clear p101
              try clear q101
              obtain ⟨x6_2, x17_2, rfl, rfl, HA, HK2, HO_3, HB⟩ := hrel
              cases gk with
              | zero => exact absurd HA.out (by simp [impl_ranksIn.l1])
              | succ k2 =>
                have H := HA.out
                clear HA
                simp only [impl_ranksIn.l1] at H
                by_cases c5 : x17_2 < (l0.length : Int)
                · rw [if_pos c5] at H
                  have c5b0 : decide (x17_2 < (l0.length : Int)) = true := ygy c5
                  clear c5
                  by_cases c6 : 0 ≤ x17_2
                  · rw [if_pos c6] at H
                    have c6b0 : decide (0 ≤ x17_2) = true := ygy c6
                    clear c6
                    by_cases c7 : x17_2 < (l0.length : Int)
                    · rw [if_pos c7] at H
                      have c7b0 : decide (x17_2 < (l0.length : Int)) = true := ygy c7
                      clear c7
                      by_cases c8 : (rd l0 x17_2) < (rd l0 x11_1)
                      · rw [if_pos c8] at H
                        have c8b0 : decide ((rd l0 x17_2) < (rd l0 x11_1)) = true := ygy c8
                        clear c8
                        have H' := Aside0.mk H
                        clear H
                        have p102 : 0 ≤ (x17_2 : Int) := of_decide_eq_true (by first | (with_reducible assumption) | assumption)
                        have q102 : x17_2 < (l0.length : Int) := of_decide_eq_true (by first | (with_reducible assumption) | assumption)
                        obtain ⟨ad102, e102, hx102_0⟩ := Kd.at_int HR0.out x17_2 p102 q102
                        obtain rfl : ad101 = ad102 := (by injection e102)
                        replace hx102_0 := (HB.out.cell (yny w _ hx102_0)).trans hx102_0
                        replace p102 := eq_true p102
                        replace q102 := eq_true q102
                        go_wp2
                        go_roundg k2
                        case measure => have := HK1.out; have := HK2.out; omega
                        case rel => exact ⟨(wrap64 (x6_2 + 1)), (wrap64 (x17_2 + 1)), (by first | rfl | (simp; done) | (simp [*]; done)), (by first | rfl | (simp; done) | (simp [*]; done)), H', ⟨by have := HK1.out; have := HK2.out; omega⟩, ⟨by (with_reducible repeat (first | apply Kd.R_alloc | apply Kd.R_drewN | apply Kd.R_drew)); exact HO_3.out⟩, ⟨by repeat (first | (with_reducible first | exact HB.out | apply below_alloc | apply pw_below_drewN | apply below_drew1) | exact HB.out)⟩⟩
                      · rw [if_neg c8] at H
                        have c8b0 : decide ((rd l0 x17_2) < (rd l0 x11_1)) = false := yhy c8
                        clear c8
                        have H' := Aside0.mk H
                        clear H
                        have p102 : 0 ≤ (x17_2 : Int) := of_decide_eq_true (by first | (with_reducible assumption) | assumption)
                        have q102 : x17_2 < (l0.length : Int) := of_decide_eq_true (by first | (with_reducible assumption) | assumption)
                        obtain ⟨ad102, e102, hx102_0⟩ := Kd.at_int HR0.out x17_2 p102 q102
                        obtain rfl : ad101 = ad102 := (by injection e102)
                        replace hx102_0 := (HB.out.cell (yny w _ hx102_0)).trans hx102_0
                        replace p102 := eq_true p102
                        replace q102 := eq_true q102
                        go_wp2
                        go_roundg k2
                        case measure => have := HK1.out; have := HK2.out; omega
                        case rel => exact ⟨(x6_2), (wrap64 (x17_2 + 1)), (by first | rfl | (simp; done) | (simp [*]; done)), (by first | rfl | (simp; done) | (simp [*]; done)), H', ⟨by have := HK1.out; have := HK2.out; omega⟩, ⟨by (with_reducible repeat (first | apply Kd.R_alloc | apply Kd.R_drewN | apply Kd.R_drew)); exact HO_3.out⟩, ⟨by repeat (first | (with_reducible first | exact HB.out | apply below_alloc | apply pw_below_drewN | apply below_drew1) | exact HB.out)⟩⟩
                    · rw [if_neg c7] at H
                      exact absurd H (by simp)
                  · rw [if_neg c6] at H
                    exact absurd H (by simp)
                · rw [if_neg c5] at H
                  have c5b0 : decide (x17_2 < (l0.length : Int)) = false := yhy c5
                  clear c5
                  by_cases c9 : x3_1.length < 17592186044416
                  · rw [if_pos c9] at H
                    have LMc9 := Aside0.mk c9
                    clear c9
                    obtain ⟨y103, hy103⟩ : ∃ y_ : List Int, y_ = (x3_1 ++ [x6_2]) := ⟨_, rfl⟩
                    replace H : (impl_ranksIn.l0 k2 l0 y103 l0 (l0.length : Int) (wrap64 (x11_1 + 1))) = some r := by first | (rw [hy103]; with_reducible exact H) | (have H2_ := (yfy _ _).symm.trans H; rw [hy103]; with_reducible exact H2_) | (have H2_ := (yfy _ _).symm.trans H; with_reducible exact H2_) | with_reducible exact H | (rw [hy103]; exact H) | exact H
                    have Ny103 := Aside0.mk hy103
                    clear hy103
                    have H' := Aside0.mk H
                    clear H
                    go_wp2_with (first | ((with_reducible refine gate_builtin (b := .append) (xs := #[.tmp 27, .tmp 29]) rfl ?_); at_builtin; refine Kd.R_append (Kd.int .i64) (w0 := w) w.heap.size rfl (.tmp 27) (.tmp 29) 44 2 (.int .i64 0) 8 rfl Try.underlying44 info2 rfl (by decide) (by omega) u3 x3_1 x6_2 [.int .i64 x6_2] (fun _ => True) (fun _ => False) rfl rfl ?aP (fun _ hk => hk.elim) ?aF ?aO ?aB ?aS ?aL ?_; (case aP => exact rfl); (case aB => exact (by repeat (first | (with_reducible first | exact HB.out | apply below_alloc | apply pw_below_drewN | apply below_drew1) | exact HB.out))); (case aF => exact (fun _ _ => trivial)); (case aO => exact (by (with_reducible repeat (first | apply Kd.R_alloc | apply Kd.R_drewN | apply Kd.R_drew)); exact HO_3.out)); (case aS => exact (below_size (by repeat (first | (with_reducible first | exact HB.out | apply below_alloc | apply pw_below_drewN | apply below_drew1) | exact HB.out)))); (case aL => have := LMc9.out; omega); intro v104 w10 ho hb hg hat; rw [← Ny103.out] at ho; have n0_ := Aside0.mk (hb); have n1_ := Aside0.mk (ho); clear HB; clear HO_3; have HB := n0_; have HO105 := n1_; clear n0_ n1_; clear ho hb hg hat))
                    go_roundg k2
                    case measure => have := HK1.out; have := HK2.out; omega
                    case rel => exact ⟨(y103), (wrap64 (x11_1 + 1)), (by first | rfl | (simp; done) | (simp [*]; done)), H', ⟨by have := HK1.out; have := HK2.out; omega⟩, ⟨by (with_reducible repeat (first | apply Kd.R_alloc | apply Kd.R_drewN | apply Kd.R_drew)); exact HO105.out⟩, ⟨by repeat (first | (with_reducible first | exact HB.out | apply below_alloc | apply pw_below_drewN | apply below_drew1) | exact HB.out)⟩⟩
                  · rw [if_neg c9] at H
                    exact absurd H (by simp)
          · rw [if_neg c4] at H
            exact absurd H (by simp)
        · rw [if_neg c3] at H
          exact absurd H (by simp)
      · rw [if_neg c2] at H
        have c2b0 : decide (x11_1 < (l0.length : Int)) = false := yhy c2
        clear c2
        obtain rfl := yey H
        go_wp2
        go_ret
        exact ⟨_, by first | rfl | (simp [errW_none, errW_some] <;> rfl) | (simp [*, errW_none, errW_some] <;> rfl), by (with_reducible repeat (first | apply Kd.R_alloc | apply Kd.R_drewN | apply Kd.R_drew)); exact HO_3.out, by repeat (first | (with_reducible first | exact HB.out | apply below_alloc | apply pw_below_drewN | apply below_drew1) | exact HB.out)⟩
/-! signOf: 1 for an even and -1 for an odd permutation. -/
/-- The sign after j elements ahead of element i. -/
def sgJ (l : List Int) (i : Nat) (s : Int) : Nat → Int
  | 0 => s
  | j + 1 => if rd l j > rd l i then -(sgJ l i s j) else sgJ l i s j
/-- The sign after i elements. -/
def sgI (l : List Int) : Nat → Int
  | 0 => 1
  | i + 1 => sgJ l i (sgI l i) i
def sgnP (p : Int) : Int := sgI (permL p) 4
theorem sgJ_bd (l : List Int) (i : Nat) (s : Int) (h : -1 ≤ s ∧ s ≤ 1) : ∀ j, -1 ≤ sgJ l i s j ∧ sgJ l i s j ≤ 1
  | 0 => h
  | j + 1 => by have := sgJ_bd l i s h j; unfold sgJ; split <;> omega
theorem sgI_bd (l : List Int) : ∀ i, -1 ≤ sgI l i ∧ sgI l i ≤ 1
  | 0 => by unfold sgI; omega
  | i + 1 => sgJ_bd l i _ (sgI_bd l i) i
def impl_signOf.f (a0 : Int) : Option Int := if 0 ≤ a0 ∧ a0 ≤ 23 then some (sgnP a0) else none
set_option maxHeartbeats 8000000 in
set_option maxRecDepth 100000 in
theorem impl_signOf.calls (a0 : Int) (r : Int) (w : World) (h : impl_signOf.f a0 = some r) :
    Calls Try.prog 107 #[.int .i64 a0] w fun e w' => e = .returned (.int .i64 r) ∧ Below w.heap.size w w' := by
  unfold impl_signOf.f at h
  by_cases hc : 0 ≤ a0 ∧ a0 ≤ 23
  case neg => rw [if_neg hc] at h; exact absurd h (by simp)
  rw [if_pos hc] at h
  have hr : sgnP a0 = r := yey h
  clear h
  subst hr
  obtain ⟨h0, h1⟩ := hc
  have H0 := Aside0.mk h0
  have H1 := Aside0.mk h1
  clear h0 h1
  go_enter Try.func107, Try.ntmps107
  go_wp2_with fail
  refine (impl_perm.calls _ _ H0.out H1.out).mono ?_
  rintro e w1 ⟨rfl, hb⟩
  have HB := Aside0.mk hb
  clear hb
  have HPL := Aside0.mk (show permL a0 = [permAt a0 0, permAt a0 1, permAt a0 2, permAt a0 3] from rfl)
  have HIP := Aside0.mk (show sgnP a0 = sgI (permL a0) 4 from rfl)
  generalize permL a0 = l at HPL HIP
  generalize permAt a0 0 = x0 at HPL ⊢
  generalize permAt a0 1 = x1 at HPL ⊢
  generalize permAt a0 2 = x2 at HPL ⊢
  generalize permAt a0 3 = x3 at HPL ⊢
  have HL := Aside0.mk (sgI_bd l)
  go_wp2_with fail
  go_loopg [4, 12] 4 (fun gg v4 v12 w' => ∃ i : Nat, i ≤ 4 ∧ 4 - i ≤ gg ∧ v12 = .int .i64 i ∧ v4 = .int .i64 (sgI l i) ∧
    Aside0 (w'.heap[w1.heap.size]? = some (.cells #[.int .i64 x0, .int .i64 x1, .int .i64 x2, .int .i64 x3] 94 (0, 0))) ∧ Aside0 (Below w.heap.size w w'))
  case atStart => exact ⟨0, by omega, by omega, rfl, rfl, ⟨new_at4 rfl _⟩, ⟨below_alloc HB.out _⟩⟩
  case round =>
    clear HB
    obtain ⟨i, hi, hg, rfl, rfl, B, HB⟩ := hrel
    rcases (show i = 4 ∨ i = 3 ∨ i = 2 ∨ i = 1 ∨ i = 0 by omega) with rfl | rfl | rfl | rfl | rfl
    · go_wp2
      go_ret
      exact ⟨by rw [HIP.out]; rfl, HB.out⟩
    · have HD := Aside0.mk (show ∀ j : Nat, sgJ l 3 (sgI l 3) (j + 1) = if rd l j > rd l (3 : Nat) then -(sgJ l 3 (sgI l 3) j) else sgJ l 3 (sgI l 3) j from fun _ => rfl)
      have HE := Aside0.mk (show sgI l (3 + 1) = sgJ l 3 (sgI l 3) 3 from rfl)
      have HJ := Aside0.mk (sgJ_bd l 3 _ (HL.out 3))
      have HX := Aside0.mk (show rd l (3 : Nat) = x3 by rw [HPL.out]; rfl)
      have HZ := Aside0.mk (show sgI l 3 = sgJ l 3 (sgI l 3) 0 from rfl)
      have hidx : ∀ w_ : World, (Instr.index 94 (.agg #[.int .i64 x0, .int .i64 x1, .int .i64 x2, .int .i64 x3]) (.int .i64 3)).run Try.prog w_ = .ok (.int .i64 x3) w_ := arr_index x0 x1 x2 x3 3 (by omega) (by omega)
      go_wp2_with fail
      go_loopg [4, 19] 3 (fun gg v4 v19 w' => ∃ j : Nat, j ≤ 3 ∧ 3 - j ≤ gg ∧ v19 = .int .i64 j ∧ v4 = .int .i64 (sgJ l 3 (sgI l 3) j) ∧ w' = wr)
      case atStart => exact ⟨0, by omega, by omega, rfl, by rw [← HZ.out], rfl⟩
      case round =>
        obtain ⟨j, hj, hg2, rfl, rfl, rfl⟩ := hrel
        by_cases hlt : j < 3
        · have hltz : (j : Int) < 3 := by omega
          have bj : wr.cell? ⟨w1.heap.size, j, none⟩ = some (.int .i64 (rd l (j : Nat))) := by
            have := arr_cell B.out (j : Int) (by omega) (by omega)
            rw [← HPL.out, Int.toNat_natCast] at this
            exact this
          have hbd := HJ.out j
          obtain ⟨hbd1, hbd2⟩ := hbd
          have HN := Aside0.mk (HD.out j)
          rw [HX.out] at HN
          generalize sgJ l 3 (sgI l 3) j = sv at HN hbd1 hbd2 ⊢
          generalize rd l (j : Nat) = xj at bj HN
          by_cases hless : xj > x3
          · have hd1 : decide (x3 < xj) = true := ygy hless
            go_wp2
            go_roundg (3 - (j + 1))
            case measure => omega
            case rel => exact ⟨j + 1, by omega, by omega, by go_num, by rw [HN.out, if_pos hless], rfl⟩
          · have hd1 : decide (x3 < xj) = false := yhy hless
            go_wp2
            go_roundg (3 - (j + 1))
            case measure => omega
            case rel => exact ⟨j + 1, by omega, by omega, by go_num, by rw [HN.out, if_neg (by omega)], rfl⟩
        · obtain rfl : j = 3 := by omega
          have HK := Aside0.mk HE.out.symm
          generalize sgJ l 3 (sgI l 3) 3 = sv at HK ⊢
          go_wp2
          go_roundg (4 - (3 + 1))
          case measure => omega
          case rel => exact ⟨3 + 1, by omega, by omega, by first | rfl | go_num, by rw [HK.out], B, HB⟩
    · have HD := Aside0.mk (show ∀ j : Nat, sgJ l 2 (sgI l 2) (j + 1) = if rd l j > rd l (2 : Nat) then -(sgJ l 2 (sgI l 2) j) else sgJ l 2 (sgI l 2) j from fun _ => rfl)
      have HE := Aside0.mk (show sgI l (2 + 1) = sgJ l 2 (sgI l 2) 2 from rfl)
      have HJ := Aside0.mk (sgJ_bd l 2 _ (HL.out 2))
      have HX := Aside0.mk (show rd l (2 : Nat) = x2 by rw [HPL.out]; rfl)
      have HZ := Aside0.mk (show sgI l 2 = sgJ l 2 (sgI l 2) 0 from rfl)
      have hidx : ∀ w_ : World, (Instr.index 94 (.agg #[.int .i64 x0, .int .i64 x1, .int .i64 x2, .int .i64 x3]) (.int .i64 2)).run Try.prog w_ = .ok (.int .i64 x2) w_ := arr_index x0 x1 x2 x3 2 (by omega) (by omega)
      go_wp2_with fail
      go_loopg [4, 19] 2 (fun gg v4 v19 w' => ∃ j : Nat, j ≤ 2 ∧ 2 - j ≤ gg ∧ v19 = .int .i64 j ∧ v4 = .int .i64 (sgJ l 2 (sgI l 2) j) ∧ w' = wr)
      case atStart => exact ⟨0, by omega, by omega, rfl, by rw [← HZ.out], rfl⟩
      case round =>
        obtain ⟨j, hj, hg2, rfl, rfl, rfl⟩ := hrel
        by_cases hlt : j < 2
        · have hltz : (j : Int) < 2 := by omega
          have bj : wr.cell? ⟨w1.heap.size, j, none⟩ = some (.int .i64 (rd l (j : Nat))) := by
            have := arr_cell B.out (j : Int) (by omega) (by omega)
            rw [← HPL.out, Int.toNat_natCast] at this
            exact this
          have hbd := HJ.out j
          obtain ⟨hbd1, hbd2⟩ := hbd
          have HN := Aside0.mk (HD.out j)
          rw [HX.out] at HN
          generalize sgJ l 2 (sgI l 2) j = sv at HN hbd1 hbd2 ⊢
          generalize rd l (j : Nat) = xj at bj HN
          by_cases hless : xj > x2
          · have hd1 : decide (x2 < xj) = true := ygy hless
            go_wp2
            go_roundg (2 - (j + 1))
            case measure => omega
            case rel => exact ⟨j + 1, by omega, by omega, by go_num, by rw [HN.out, if_pos hless], rfl⟩
          · have hd1 : decide (x2 < xj) = false := yhy hless
            go_wp2
            go_roundg (2 - (j + 1))
            case measure => omega
            case rel => exact ⟨j + 1, by omega, by omega, by go_num, by rw [HN.out, if_neg (by omega)], rfl⟩
        · obtain rfl : j = 2 := by omega
          have HK := Aside0.mk HE.out.symm
          generalize sgJ l 2 (sgI l 2) 2 = sv at HK ⊢
          go_wp2
          go_roundg (4 - (2 + 1))
          case measure => omega
          case rel => exact ⟨2 + 1, by omega, by omega, by first | rfl | go_num, by rw [HK.out], B, HB⟩
    · have HD := Aside0.mk (show ∀ j : Nat, sgJ l 1 (sgI l 1) (j + 1) = if rd l j > rd l (1 : Nat) then -(sgJ l 1 (sgI l 1) j) else sgJ l 1 (sgI l 1) j from fun _ => rfl)
      have HE := Aside0.mk (show sgI l (1 + 1) = sgJ l 1 (sgI l 1) 1 from rfl)
      have HJ := Aside0.mk (sgJ_bd l 1 _ (HL.out 1))
      have HX := Aside0.mk (show rd l (1 : Nat) = x1 by rw [HPL.out]; rfl)
      have HZ := Aside0.mk (show sgI l 1 = sgJ l 1 (sgI l 1) 0 from rfl)
      have hidx : ∀ w_ : World, (Instr.index 94 (.agg #[.int .i64 x0, .int .i64 x1, .int .i64 x2, .int .i64 x3]) (.int .i64 1)).run Try.prog w_ = .ok (.int .i64 x1) w_ := arr_index x0 x1 x2 x3 1 (by omega) (by omega)
      go_wp2_with fail
      go_loopg [4, 19] 1 (fun gg v4 v19 w' => ∃ j : Nat, j ≤ 1 ∧ 1 - j ≤ gg ∧ v19 = .int .i64 j ∧ v4 = .int .i64 (sgJ l 1 (sgI l 1) j) ∧ w' = wr)
      case atStart => exact ⟨0, by omega, by omega, rfl, by rw [← HZ.out], rfl⟩
      case round =>
        obtain ⟨j, hj, hg2, rfl, rfl, rfl⟩ := hrel
        by_cases hlt : j < 1
        · have hltz : (j : Int) < 1 := by omega
          have bj : wr.cell? ⟨w1.heap.size, j, none⟩ = some (.int .i64 (rd l (j : Nat))) := by
            have := arr_cell B.out (j : Int) (by omega) (by omega)
            rw [← HPL.out, Int.toNat_natCast] at this
            exact this
          have hbd := HJ.out j
          obtain ⟨hbd1, hbd2⟩ := hbd
          have HN := Aside0.mk (HD.out j)
          rw [HX.out] at HN
          generalize sgJ l 1 (sgI l 1) j = sv at HN hbd1 hbd2 ⊢
          generalize rd l (j : Nat) = xj at bj HN
          by_cases hless : xj > x1
          · have hd1 : decide (x1 < xj) = true := ygy hless
            go_wp2
            go_roundg (1 - (j + 1))
            case measure => omega
            case rel => exact ⟨j + 1, by omega, by omega, by go_num, by rw [HN.out, if_pos hless], rfl⟩
          · have hd1 : decide (x1 < xj) = false := yhy hless
            go_wp2
            go_roundg (1 - (j + 1))
            case measure => omega
            case rel => exact ⟨j + 1, by omega, by omega, by go_num, by rw [HN.out, if_neg (by omega)], rfl⟩
        · obtain rfl : j = 1 := by omega
          have HK := Aside0.mk HE.out.symm
          generalize sgJ l 1 (sgI l 1) 1 = sv at HK ⊢
          go_wp2
          go_roundg (4 - (1 + 1))
          case measure => omega
          case rel => exact ⟨1 + 1, by omega, by omega, by first | rfl | go_num, by rw [HK.out], B, HB⟩
    · have HD := Aside0.mk (show ∀ j : Nat, sgJ l 0 (sgI l 0) (j + 1) = if rd l j > rd l (0 : Nat) then -(sgJ l 0 (sgI l 0) j) else sgJ l 0 (sgI l 0) j from fun _ => rfl)
      have HE := Aside0.mk (show sgI l (0 + 1) = sgJ l 0 (sgI l 0) 0 from rfl)
      have HJ := Aside0.mk (sgJ_bd l 0 _ (HL.out 0))
      have HX := Aside0.mk (show rd l (0 : Nat) = x0 by rw [HPL.out]; rfl)
      have HZ := Aside0.mk (show sgI l 0 = sgJ l 0 (sgI l 0) 0 from rfl)
      have hidx : ∀ w_ : World, (Instr.index 94 (.agg #[.int .i64 x0, .int .i64 x1, .int .i64 x2, .int .i64 x3]) (.int .i64 0)).run Try.prog w_ = .ok (.int .i64 x0) w_ := arr_index x0 x1 x2 x3 0 (by omega) (by omega)
      go_wp2_with fail
      go_loopg [4, 19] 0 (fun gg v4 v19 w' => ∃ j : Nat, j ≤ 0 ∧ 0 - j ≤ gg ∧ v19 = .int .i64 j ∧ v4 = .int .i64 (sgJ l 0 (sgI l 0) j) ∧ w' = wr)
      case atStart => exact ⟨0, by omega, by omega, rfl, by rw [← HZ.out], rfl⟩
      case round =>
        obtain ⟨j, hj, hg2, rfl, rfl, rfl⟩ := hrel
        by_cases hlt : j < 0
        · have hltz : (j : Int) < 0 := by omega
          have bj : wr.cell? ⟨w1.heap.size, j, none⟩ = some (.int .i64 (rd l (j : Nat))) := by
            have := arr_cell B.out (j : Int) (by omega) (by omega)
            rw [← HPL.out, Int.toNat_natCast] at this
            exact this
          have hbd := HJ.out j
          obtain ⟨hbd1, hbd2⟩ := hbd
          have HN := Aside0.mk (HD.out j)
          rw [HX.out] at HN
          generalize sgJ l 0 (sgI l 0) j = sv at HN hbd1 hbd2 ⊢
          generalize rd l (j : Nat) = xj at bj HN
          by_cases hless : xj > x0
          · have hd1 : decide (x0 < xj) = true := ygy hless
            go_wp2
            go_roundg (0 - (j + 1))
            case measure => omega
            case rel => exact ⟨j + 1, by omega, by omega, by go_num, by rw [HN.out, if_pos hless], rfl⟩
          · have hd1 : decide (x0 < xj) = false := yhy hless
            go_wp2
            go_roundg (0 - (j + 1))
            case measure => omega
            case rel => exact ⟨j + 1, by omega, by omega, by go_num, by rw [HN.out, if_neg (by omega)], rfl⟩
        · obtain rfl : j = 0 := by omega
          have HK := Aside0.mk HE.out.symm
          generalize sgJ l 0 (sgI l 0) 0 = sv at HK ⊢
          go_wp2
          go_roundg (4 - (0 + 1))
          case measure => omega
          case rel => exact ⟨0 + 1, by omega, by omega, by first | rfl | go_num, by rw [HK.out], B, HB⟩
/-! ### impl_Face_isBoundary: function 114 -/
def impl_Face_isBoundary.f (a0_0 : Int) (a0_1 : Int) : Option (Bool) := some (decide (a0_0 < 0))
set_option maxHeartbeats 8000000 in
set_option maxRecDepth 100000 in
theorem impl_Face_isBoundary.calls (a0_0 : Int) (a0_1 : Int) (r : Bool) (w : World) (h : impl_Face_isBoundary.f a0_0 a0_1 = some r) :
    Calls Try.prog 114 #[.agg #[.int .i64 a0_0, .int .i64 a0_1]] w fun e w' => e = .returned (.bool r) ∧ Below w.heap.size w w' := by
  have hu59 := Try.underlying59
  have HB := Aside0.mk (ypy w.heap.size w)
  have H : (some (decide (a0_0 < 0))) = some r := h
  clear h
  obtain rfl := yey H
  go_enter Try.func114, Try.ntmps114
  go_wp2_with (first | ((with_reducible refine gate_dst (N := 1) rfl ?_); refine box_event ?hg (N := 1) ?hd (cs := #[.int .i64 a0_0, .int .i64 a0_1]) (t := 59) ?hr ?_; (case hd => rfl); (case hg => rfl); (case hr => first | (go_simp; done) | (go_simp; rfl)); intro gb101 hg w2 hbox hb; have n0_ := Aside0.mk (below_step (by repeat (first | (with_reducible first | exact HB.out | apply below_alloc | apply pw_below_drewN | apply below_drew1) | exact HB.out)) hb); have n1_ := Aside0.mk (hbox); have n2_ := Aside0.mk ((by rw [hg]; exact (below_size (by repeat (first | (with_reducible first | exact HB.out | apply below_alloc | apply pw_below_drewN | apply below_drew1) | exact HB.out))) : w.heap.size ≤ gb101)); have n3_ := Aside0.mk ((by rw [hg]; exact (below_size (by repeat (first | (with_reducible first | exact HB.out | apply below_alloc | apply pw_below_drewN | apply below_drew1) | exact HB.out))) : w.heap.size ≤ gb101)); clear HB; have HB := n0_; have BK101 := n1_; have GW101 := n2_; have GE101 := n3_; clear n0_ n1_ n2_ n3_; clear hb hbox hg; have hcz3_0 : w2.cell? ⟨gb101, 0, none⟩ = some (.int .i64 a0_0) := (blk_cell BK101.out 0).trans rfl; have hcz3_1 : w2.cell? ⟨gb101, 1, none⟩ = some (.int .i64 a0_1) := (blk_cell BK101.out 1).trans rfl; have hfz3_0 := blk_frozen BK101.out 0; have hfz3_1 := blk_frozen BK101.out 1))
  go_ret
  exact ⟨by first | rfl | (simp [errW_none, errW_some] <;> rfl) | (simp [*, errW_none, errW_some] <;> rfl), by repeat (first | (with_reducible first | exact HB.out | apply below_alloc | apply pw_below_drewN | apply below_drew1 | refine below_set ?_ GE101.out) | exact HB.out)⟩
/-! Calls through function values. -/
/-- A call through a function value, in a drawn region. -/
theorem goesF_ {P : Program} {ops : Array Oper} {Q : Exit → Act → World → Prop} {oi : Oper} {N : Option Tmp} {a : Act} {w : World} {K : Act → World → Prop} {f : FuncId} {fn : Func} {t : Tmp} {as_ : Array Operand} {ts : Array TypeId} {caps : Array Value} (hf : P.funcs[f]? = some fn) (hname : (fn.name == "runtime.NumGoroutine") = false) (hb : fn.body.isSome = true) (args all : Array Value)
    (hw : Region.wanted oi (yielded ops a.tmps) = true) (hN : oi.dst = N) (hop : oi.op = .call { callee := .value (.tmp t), args := as_, argTypes := ts }) (ht : a.eval (.tmp t) = .func (.func f) #[] caps) (hargs : as_.map a.eval = args) (hall : args ++ caps = all)
    (h : Calls P f all w fun e w' => ∃ v, e = .returned v ∧ K (a.put N v) w') : if Region.wanted oi (yielded ops a.tmps) = true then Oper.wp P oi a w K Q else K (a.put N undef) w := by
  subst hall
  refine call_ f (args ++ caps) hw hN ?_ h
  have he := enters_ hf hname hb (args ++ caps) w
  unfold execOp
  simp [hop, resolve, Deferred.ofValue, invoke, ht, hargs, he]
/-! glued: a function value is called for each face that is glued. -/
/-- What comes of a step for each glued face of a row, and of all rows. -/
def gluR {σ : Type} (step : σ → Nat → Nat → SFace → σ) (tet : Nat) : List SFace → Nat → σ → σ
  | [], _, s => s
  | x :: xs, f, s => gluR step tet xs (f + 1) (if x.f0 < 0 then s else step s tet f x)
def gluT {σ : Type} (step : σ → Nat → Nat → SFace → σ) : List (List SFace) → Nat → σ → σ
  | [], _, s => s
  | r :: rs, tet, s => gluT step rs (tet + 1) (gluR step tet r 0 s)
/-- x is the face f of the tetrahedron j. -/
def IsFace (l : List (List SFace)) (j f : Nat) (x : SFace) : Prop := ∃ h1 : j < l.length, ∃ h2 : f < l[j].length, l[j][f] = x
set_option maxHeartbeats 8000000 in
set_option maxRecDepth 100000 in
theorem impl_glued.calls {σ : Type} (F : FuncId) (fn : Func) (hf : Try.prog.funcs[F]? = some fn) (hname : (fn.name == "runtime.NumGoroutine") = false) (hbody : fn.body.isSome = true) (caps : Array Value)
    (l : List (List SFace)) (A0 : Option Addr) (c0 : Nat) (w0 w : World) (Inv : σ → World → Prop) (step : σ → Nat → Nat → SFace → σ) (st0 : σ)
    (cnt : σ → Nat) (N : Nat) (hcnt : ∀ s j f x, cnt (step s j f x) ≤ cnt s + 4) (hN : cnt st0 + 4 * (l.map List.length).sum ≤ N)
    (hB : ∀ s W W', Inv s W → Below W.heap.size W W' → Inv s W')
    (hK : ∀ s W, Inv s W → Below w0.heap.size w0 W)
    (hT : Kd.C (Kd.slice 59 kFace) w0 A0 l.length l)
    (hperm : ∀ r ∈ l, ∀ x ∈ r, ¬ x.f0 < 0 → 0 ≤ x.f1 ∧ x.f1 ≤ 23)
    (hstep : ∀ s W (j f : Nat) (x : SFace), Inv s W → IsFace l j f x → ¬ x.f0 < 0 → cnt s + 4 ≤ N →
      Calls Try.prog F (#[.int .i64 (j : Int), .int .i64 (f : Int), .agg #[.int .i64 x.f0, .int .i64 x.f1], .agg #[.int .i64 (permAt x.f1 0), .int .i64 (permAt x.f1 1), .int .i64 (permAt x.f1 2), .int .i64 (permAt x.f1 3)]] ++ caps) W fun e W' => e = .returned (.tuple #[]) ∧ Inv (step s j f x) W')
    (h0 : Inv st0 w) :
    Calls Try.prog 104 #[.agg #[.slice A0 l.length c0], .func (.func F) #[] caps] w fun e w' => e = .returned (.tuple #[]) ∧ Inv (gluT step l 0 st0) w' := by
  have HB := Aside0.mk hB
  have HK := Aside0.mk hK
  have HT := Aside0.mk hT
  have HPM := Aside0.mk hperm
  have HST := Aside0.mk hstep
  have HCN := Aside0.mk hcnt
  have HN : Aside0 (cnt st0 + 4 * ((l.drop 0).map List.length).sum ≤ N) := ⟨by rw [List.drop_zero]; exact hN⟩
  clear hcnt hN
  have HS := Aside0.mk (hB _ _ _ h0 (below_alloc (ypy w.heap.size w) (.cells #[.slice A0 l.length c0] 30)))
  have hbig : l.length ≤ 9223372036854775807 := hT.2.1
  clear hB hT hperm hstep h0 hK
  have HA : Aside0 (gluT step (l.drop 0) 0 st0 = gluT step l 0 st0) := ⟨by rw [List.drop_zero]⟩
  generalize gluT step l 0 st0 = R at HA ⊢
  go_enter Try.func104, Try.ntmps104
  go_wp2
  go_loopg [11] l.length (fun gg v11 w' => ∃ (j : Nat) (s : σ), j ≤ l.length ∧ l.length - j ≤ gg ∧ v11 = .int .i64 j ∧ Aside0 (gluT step (l.drop j) j s = R) ∧ Aside0 (Inv s w') ∧ Aside0 (cnt s + 4 * ((l.drop j).map List.length).sum ≤ N))
  case atStart => exact ⟨0, st0, Nat.zero_le _, by omega, rfl, HA, HS, HN⟩
  case round =>
    clear HS HA HN
    obtain ⟨j, st, hj, hg, rfl, HA, HS, HN⟩ := hrel
    by_cases hlt : j < l.length
    · have hltz : (j : Int) < (l.length : Int) := by omega
      obtain ⟨ad1, A1, c1, e1, hy1, hl1, hC1⟩ := at_LFace HT.out (j : Int) (by omega) hltz
      subst e1
      have ex : rd_LFace l (j : Int) = l[j] := by simp [rd_LFace, hlt]
      rw [ex] at hy1 hl1 hC1
      rw [Int.toNat_natCast] at hy1
      replace hy1 := ((HK.out _ _ HS.out).cell (yny w0 _ hy1)).trans hy1
      have HA2 := HA.out
      rw [List.drop_eq_getElem_cons hlt, gluT] at HA2
      have HI : Aside0 (gluT step (l.drop (j + 1)) (j + 1) (gluR step j (l[j].drop 0) 0 st) = R) := ⟨by rw [List.drop_zero]; exact HA2⟩
      have HN1 : Aside0 (cnt st + 4 * (l[j].length - 0 + ((l.drop (j + 1)).map List.length).sum) ≤ N) := ⟨by have h := HN.out; rw [List.drop_eq_getElem_cons hlt, yjy, List.sum_cons] at h; omega⟩
      clear HN
      have HP1 := Aside0.mk (HPM.out l[j] (List.getElem_mem hlt))
      have HX := Aside0.mk (show ∀ (f : Nat) (x : SFace) (h2 : f < l[j].length), l[j][f] = x → IsFace l j f x from fun f x h2 h => ⟨hlt, h2, h⟩)
      have hbig1 : l[j].length ≤ 9223372036854775807 := hC1.2.1
      have HC1 := Aside0.mk hC1
      clear HA HA2 hl1 hC1 ex
      generalize l[j] = row at *
      go_wp2
      go_loopg [18] row.length (fun gg v18 w' => ∃ (f : Nat) (s : σ), f ≤ row.length ∧ row.length - f ≤ gg ∧ v18 = .int .i64 f ∧ Aside0 (gluT step (l.drop (j + 1)) (j + 1) (gluR step j (row.drop f) f s) = R) ∧ Aside0 (Inv s w') ∧ Aside0 (cnt s + 4 * (row.length - f + ((l.drop (j + 1)).map List.length).sum) ≤ N))
      case atStart => exact ⟨0, st, Nat.zero_le _, by omega, rfl, HI, HS, HN1⟩
      case round =>
        clear HI HS hy1 HN1
        obtain ⟨f, st, hf9, hgf, rfl, HI, HS, HN1⟩ := hrel
        by_cases hlf : f < row.length
        · have hlfz : (f : Int) < (row.length : Int) := by omega
          obtain ⟨ad2, e2, hy2, hy3⟩ := at_Face HC1.out (f : Int) (by omega) hlfz
          subst e2
          replace hy2 := ((HK.out _ _ HS.out).cell (yny w0 _ hy2)).trans hy2
          replace hy3 := ((HK.out _ _ HS.out).cell (yny w0 _ hy3)).trans hy3
          have HF := Aside0.mk (HX.out f row[f] hlf rfl)
          have HY := Aside0.mk (HP1.out row[f] (List.getElem_mem hlf))
          have HI2 := HI.out
          rw [List.drop_eq_getElem_cons hlf, gluR] at HI2
          have HI3 := Aside0.mk HI2
          clear HI HI2
          have ex : rd_Face row (f : Int) = row[f] := by simp [rd_Face, hlf]
          rw [ex, Int.toNat_natCast] at hy2 hy3
          generalize row[f] = y at hy2 hy3 HY HI3 HF
          obtain ⟨f0, f1⟩ := y
          clear ex
          have BF := Aside0.mk (new_at4 (W := wr) rfl (.cells #[.int .i64 f0, .int .i64 f1] 59))
          have HS1 := Aside0.mk (HB.out _ _ _ HS.out (below_alloc (ypy _ _) (.cells #[.int .i64 f0, .int .i64 f1] 59)))
          clear HS
          by_cases hb : f0 < 0
          · rw [if_pos hb] at HI3
            have d0 : decide (f0 < 0) = true := ygy hb
            go_wp2_with (first | (go_at_call 114; (with_reducible refine (impl_Face_isBoundary.calls f0 f1 true _ (by unfold impl_Face_isBoundary.f; rw [d0])).mono ?_); rintro e w2 ⟨rfl, hnd⟩; have HS2 := Aside0.mk (HB.out _ _ _ HS1.out hnd); clear HS1 BF hnd))
            go_roundg (row.length - (f + 1))
            case measure => omega
            case rel => exact ⟨f + 1, st, by omega, by omega, by go_num, HI3, HS2, ⟨by have := HN1.out; omega⟩⟩
          · rw [if_neg hb] at HI3
            have d0 : decide (f0 < 0) = false := yhy hb
            have HP := Aside0.mk (show 0 ≤ f1 ∧ f1 ≤ 23 from HY.out (by first | exact hb | (show (0 : Int) ≤ f0; omega)))
            have hb9 := Aside0.mk hb
            clear HY
            go_wp2_with (first | (go_at_call 114; (with_reducible refine (impl_Face_isBoundary.calls f0 f1 false _ (by unfold impl_Face_isBoundary.f; rw [d0])).mono ?_); rintro e w2 ⟨rfl, hnd⟩; have HS2 := Aside0.mk (HB.out _ _ _ HS1.out hnd); have BF2 := Aside0.mk (blk_below BF.out hnd); clear HS1 BF hnd; have BF := BF2; clear BF2))
            refine start_ (n := 8) (S := fun w' => w'.cell? ⟨wr.heap.size, 0, none⟩ = some (.int .i64 f0) ∧ w'.cell? ⟨wr.heap.size, 1, none⟩ = some (.int .i64 f1)) (ds := [7]) #[false, false, false, false, false, false, false, false] (by kernel_rfl) rfl rfl ⟨(blk_cell BF.out 0).trans rfl, (blk_cell BF.out 1).trans rfl⟩ (fun hHeld => ?_)
            have HS3 := Aside0.mk (HB.out _ _ _ HS2.out (below_drew1 (ypy _ _)))
            have BF3 := Aside0.mk (blk_drew BF.out)
            clear HS2 BF
            have HS2 := HS3
            have BF := BF3
            clear HS3 BF3
            generalize w2.drew = w22 at HS2 BF hHeld ⊢
            refine pure_ (i := 0) (N := some 26) (v := ?_) (a' := ?_) #[true, false, false, false, false, false, false, false] rfl rfl (by kernel_rfl) (fun _ _ _ h => h) (Or.inl ⟨by rfl, ?_⟩) ?_ ?_
            rotate_left
            · intro w'
              go_simp
              with_reducible rfl
            rotate_left
            · simp only [Act.put, yay, yby, ycy, i64_w, i32_w]
              rfl
            refine pure_ (i := 1) (N := some 27) (v := ?_) (a' := ?_) #[true, true, false, false, false, false, false, false] rfl rfl (by kernel_rfl) (fun _ _ _ h => h) (Or.inl ⟨by rfl, ?_⟩) ?_ ?_
            rotate_left
            · intro w'
              go_simp
              with_reducible rfl
            rotate_left
            · simp only [Act.put, yay, yby, ycy, i64_w, i32_w]
              rfl
            refine pure_ (i := 2) (N := some 28) (v := ?_) (a' := ?_) #[true, true, true, false, false, false, false, false] rfl rfl (by kernel_rfl) (fun _ _ _ h => h) (Or.inl ⟨by rfl, ?_⟩) ?_ ?_
            rotate_left
            · intro w'
              go_simp
              with_reducible rfl
            rotate_left
            · simp only [Act.put, yay, yby, ycy, i64_w, i32_w]
              rfl
            refine take_ (i := 3) (N := some 29) (v := ?_) (a' := ?_) #[true, true, true, true, false, false, false, false] rfl rfl (by kernel_rfl) (fun _ _ _ h => h) (Or.inl ⟨by rfl, ?_⟩) hHeld ?_ ?_
            rotate_left
            · rintro w' ⟨s0, s1⟩
              go_simp
              with_reducible rfl
            rotate_left
            · simp only [Act.put, yay, yby, ycy, i64_w, i32_w]
              rfl
            refine pure_ (i := 4) (N := some 30) (v := ?_) (a' := ?_) #[true, true, true, true, true, false, false, false] rfl rfl (by kernel_rfl) (fun _ _ _ h => h) (Or.inl ⟨by rfl, ?_⟩) ?_ ?_
            rotate_left
            · intro w'
              go_simp
              with_reducible rfl
            rotate_left
            · simp only [Act.put, yay, yby, ycy, i64_w, i32_w]
              rfl
            refine take_ (i := 5) (N := some 31) (v := ?_) (a' := ?_) #[true, true, true, true, true, true, false, false] rfl rfl (by kernel_rfl) (fun _ _ _ h => h) (Or.inl ⟨by rfl, ?_⟩) hHeld ?_ ?_
            rotate_left
            · rintro w' ⟨s0, s1⟩
              go_simp
              with_reducible rfl
            rotate_left
            · simp only [Act.put, yay, yby, ycy, i64_w, i32_w]
              rfl
            refine one_ (i := 6) (N := some 32) #[true, true, true, true, true, true, true, false] rfl rfl (by kernel_rfl) (by decide) (fun K hK => ?_)
            refine goes_ Try.func79 (by kernel_rfl) rfl #[.int .i64 f1] (by rfl) rfl rfl (by (try simp only [yiy, yjy, yky]); first | done | rfl) ?_
            refine (impl_perm.calls f1 _ HP.out.1 HP.out.2).mono ?_
            rintro e w3 ⟨rfl, hb3⟩
            refine ⟨_, rfl, ?_⟩
            have HS3 := Aside0.mk (HB.out _ _ _ HS2.out hb3)
            have BF3 := Aside0.mk (blk_below BF.out hb3)
            clear HS2 BF hb3
            have BF := BF3
            have HS2 := HS3
            clear BF3 HS3
            refine hK.out _ _ ⟨(blk_cell BF.out 0).trans rfl, (blk_cell BF.out 1).trans rfl⟩ (fun hHeld => ?_)
            clear hK K
            refine norm_ (a' := ?_) ?_ ?_
            rotate_left
            · show Act.put _ (some 32) _ = _
              simp only [Act.put, yay, yby, ycy, i64_w, i32_w]
              rfl
            refine last_ (i := 7) (N := some 33) #[true, true, true, true, true, true, true, true] rfl rfl (by kernel_rfl) (by decide) (fun K hK => ?_)
            refine goesF_ (f := F) (fn := fn) hf hname hbody #[.int .i64 (j : Int), .int .i64 (f : Int), .agg #[.int .i64 f0, .int .i64 f1], .agg #[.int .i64 (permAt f1 0), .int .i64 (permAt f1 1), .int .i64 (permAt f1 2), .int .i64 (permAt f1 3)]] (#[.int .i64 (j : Int), .int .i64 (f : Int), .agg #[.int .i64 f0, .int .i64 f1], .agg #[.int .i64 (permAt f1 0), .int .i64 (permAt f1 1), .int .i64 (permAt f1 2), .int .i64 (permAt f1 3)]] ++ caps) (by rfl) rfl rfl rfl (by (try simp only [yiy, yjy, yky]); first | done | rfl) rfl ?_
            refine (HST.out st _ j f ⟨f0, f1⟩ HS2.out HF.out hb9.out (by have := HN1.out; omega)).mono ?_
            rintro e w4 ⟨rfl, hS4⟩
            refine ⟨_, rfl, ?_⟩
            have HS4 := Aside0.mk hS4
            clear hS4 HS2
            refine hK.out _ _ ?_
            clear hK K
            refine norm_ (a' := ?_) ?_ ?_
            rotate_left
            · show Act.put _ (some 33) _ = _
              simp only [Act.put, yay, yby, ycy, i64_w, i32_w]
              rfl
            refine done_ (by kernel_rfl) ?_
            go_wp2
            go_roundg (row.length - (f + 1))
            case measure => omega
            case rel => exact ⟨f + 1, _, by omega, by omega, by go_num, HI3, HS4, ⟨by have := HN1.out; have := HCN.out st j f ⟨f0, f1⟩; omega⟩⟩
        · obtain rfl : f = row.length := by omega
          have HI2 := HI.out
          rw [List.drop_length, gluR] at HI2
          have HA := Aside0.mk HI2
          clear HI HI2
          go_wp2
          go_roundg (l.length - (j + 1))
          case measure => omega
          case rel => exact ⟨j + 1, st, by omega, by omega, by go_num, HA, HS, ⟨by have := HN1.out; omega⟩⟩
    · obtain rfl : j = l.length := by omega
      have HA2 := HA.out
      rw [List.drop_length, gluT] at HA2
      subst HA2
      go_wp2
      first | go_end0 | ((try simp only [Exit.inBlock, Exit.then]); refine bodyPost_ret (results_none rfl _ _ _) rfl ?_)
      refine ⟨?_, HS.out⟩
      first | rfl | (simp <;> rfl)
end Go.Proofs.Ytfnopcbicceeaaa.P
namespace Go.Proofs.Ytfnopcbicceeaaa.Lib
open Go.RowKit Go.Proofs.YtfnopcbicceeaaaW.PrintWords
/-- The place of the first element that f tells true, or -1. -/
def idxO {α : Type} (f : α → Option Bool) : Nat → List α → Option Int
  | _, [] => some (-1)
  | i, x :: xs => (f x).bind fun b => if b = true then some (i : Int) else idxO f (i + 1) xs
theorem idxO_cons {α : Type} (f : α → Option Bool) (i : Nat) (x : α) (xs : List α) : idxO f i (x :: xs) = (f x).bind fun b => if b = true then some (i : Int) else idxO f (i + 1) xs := rfl
end Go.Proofs.Ytfnopcbicceeaaa.Lib
namespace Go.Proofs.Ytfnopcbicceeaaa.Lib
set_option linter.unusedVariables false
open Go.RowKit Go.Proofs.YtfnopcbicceeaaaW.PrintWords
/-- A loop comes to g of its first state: at each state it ends with g, or goes on at a smaller state of the same g. -/
theorem ev_loop {σ ρ : Type} (L : Nat → σ → Option ρ) (I : σ → Prop) (m : σ → Nat) (g : σ → ρ)
    (h : ∀ s, I s → (∃ K, ∀ k, K ≤ k → L (k + 1) s = some (g s)) ∨ (∃ s' K, I s' ∧ m s' < m s ∧ g s' = g s ∧ ∀ k, K ≤ k → L (k + 1) s = L k s')) :
    ∀ s, I s → Ev (fun k => L k s) (g s) := by
  have key : ∀ (n : Nat) (s : σ), m s < n → I s → Ev (fun k => L k s) (g s) := by
    intro n
    induction n with
    | zero => intro s hs; omega
    | succ n ih =>
      intro s hs hi
      rcases h s hi with ⟨K, hK⟩ | ⟨s', K, hi', hm, hg, hK⟩
      · refine ⟨K + 1, fun k hk => ?_⟩
        obtain ⟨j, rfl⟩ : ∃ j, k = j + 1 := ⟨k - 1, by omega⟩
        exact hK j (by omega)
      · obtain ⟨K', hK'⟩ := ih s' (by omega) hi'
        refine ⟨max K K' + 1, fun k hk => ?_⟩
        obtain ⟨j, rfl⟩ : ∃ j, k = j + 1 := ⟨k - 1, by omega⟩
        show L (j + 1) s = some (g s)
        rw [hK j (by omega), ← hg]
        exact hK' j (by omega)
  intro s hi
  exact key (m s + 1) s (by omega) hi
/-- The same, where a round asks for no number of rounds. -/
theorem ev_loop0 {σ ρ : Type} (L : Nat → σ → Option ρ) (I : σ → Prop) (m : σ → Nat) (g : σ → ρ)
    (h : ∀ s, I s → (∀ k, L (k + 1) s = some (g s)) ∨ (∃ s', I s' ∧ m s' < m s ∧ g s' = g s ∧ ∀ k, L (k + 1) s = L k s')) :
    ∀ s, I s → Ev (fun k => L k s) (g s) :=
  ev_loop L I m g fun s hi => by
    rcases h s hi with h1 | ⟨s', h1, h2, h3, h4⟩
    · exact .inl ⟨0, fun k _ => h1 k⟩
    · exact .inr ⟨s', 0, h1, h2, h3, fun k _ => h4 k⟩
theorem wrap_id {x : Int} (h0 : -9223372036854775808 ≤ x) (h1 : x ≤ 9223372036854775807) : wrap64 x = x := by
  unfold wrap64; omega
theorem wrap_succ {n : Nat} (h : n ≤ 4611686018427387904) : wrap64 ((n : Int) + 1) = ((n + 1 : Nat) : Int) := by
  rw [wrap_id (by omega) (by omega)]; rfl
theorem rd_nat (xs : List Int) (n : Nat) : rd xs (n : Int) = xs.getD n 0 := by simp [rd]
theorem rd_lt (xs : List Int) (n : Nat) (h : n < xs.length) : rd xs (n : Int) = xs[n] := by simp [rd, h]
theorem ev_neg {α : Type} {c : Prop} [Decidable c] {f g : Nat → Option α} {r : α} (h : ¬ c) (k : Ev g r) : Ev (fun n => if c then f n else g n) r := Ev.congr (fun _ => if_neg h) k
theorem ev_pos {α : Type} {c : Prop} [Decidable c] {f g : Nat → Option α} {r : α} (h : c) (k : Ev f r) : Ev (fun n => if c then f n else g n) r := Ev.congr (fun _ => if_pos h) k
theorem ev_some {α : Type} {r r' : α} (h : r = r') : Ev (fun _ => some r) r' := h ▸ Ev.now r
theorem ev_const {α : Type} {o : Option α} {r : α} (h : o = some r) : Ev (fun _ => o) r := ⟨0, fun _ _ => h⟩
theorem ev_const' {α : Type} {g : Nat → Option α} {r : α} (h : ∀ k, g k = some r) : Ev g r := ⟨0, fun k _ => h k⟩
/-- A function whose first step takes one round. -/
theorem ev_step {α : Type} {g f : Nat → Option α} {r : α} (h : ∀ k, g (k + 1) = f k) (k : Ev f r) : Ev g r := Ev.step h k
theorem idxO_any {α : Type} {f : α → Option Bool} {p : α → Bool} : ∀ (i : Nat) (l : List α), (∀ x ∈ l, f x = some (p x)) → ∃ r, idxO f i l = some r ∧ decide (0 ≤ r) = l.any p
  | i, [], _ => ⟨-1, rfl, rfl⟩
  | i, x :: xs, h => by
    rw [idxO_cons, h x (List.mem_cons_self ..), yfy]
    cases hp : p x with
    | true => exact ⟨i, by rw [if_pos rfl], by simp [hp]⟩
    | false =>
      obtain ⟨r, h1, h2⟩ := idxO_any (i + 1) xs (fun y hy => h y (List.mem_cons_of_mem _ hy))
      exact ⟨r, by rw [if_neg (by simp)]; exact h1, by rw [h2]; simp [hp]⟩
theorem contO {α : Type} {f : α → Option Bool} {p : α → Bool} (l : List α) (h : ∀ x ∈ l, f x = some (p x)) : (idxO f 0 l).bind (fun i => some (decide (0 ≤ i))) = some (l.any p) := by
  obtain ⟨r, h1, h2⟩ := idxO_any 0 l h
  rw [h1, yfy, h2]
/-- n numbers from a on. -/
def upFrom (a : Int) : Nat → List Int
  | 0 => []
  | n + 1 => a :: upFrom (a + 1) n
theorem upFrom_length (a : Int) (n : Nat) : (upFrom a n).length = n := by
  induction n generalizing a with
  | zero => rfl
  | succ n ih => simp [upFrom, ih]
theorem upFrom_get (a : Int) (n i : Nat) (h : i < n) : (upFrom a n).getD i 0 = a + i := by
  induction n generalizing a i with
  | zero => omega
  | succ n ih =>
    cases i with
    | zero => simp [upFrom]
    | succ i => simp only [upFrom, List.getD_cons_succ]; rw [ih (a + 1) i (by omega)]; omega
theorem upFrom_snoc (a : Int) (n : Nat) : upFrom a (n + 1) = upFrom a n ++ [a + n] := by
  induction n generalizing a with
  | zero => simp [upFrom]
  | succ n ih => rw [upFrom, ih (a + 1)]; simp [upFrom]; omega
end Go.Proofs.Ytfnopcbicceeaaa.Lib
namespace Go.Proofs.Ytfnopcbicceeaaa.P
open Go.RowKit Go.Proofs.YtfnopcbicceeaaaW.PrintWords Go.Proofs.YtfnopcbicceeaaaW.PrintLast Go.Proofs.YtfnopcbicceeaaaW.PrintMore
attribute [local go_sem] max2_int min2_int max_two min_two max_three min_three max_four min_four   -- for this text's walks alone
set_option linter.unusedVariables false
set_option linter.unusedSimpArgs false
/-! Small lemmas on what others and counting give, on sums, on cells of four. -/
theorem oth_mem {f c : Int} (h : c ∈ othL [f]) : sm c ∧ c ≠ f := by
  unfold othL at h
  obtain ⟨h1, h2⟩ := List.mem_filter.1 h
  refine ⟨?_, fun e => by simp [e] at h2⟩
  simp only [List.mem_cons, List.not_mem_nil, or_false] at h1
  unfold sm; omega
theorem oth_three {f : Int} (h : sm f) : (othL [f]).length = 3 := by
  obtain ⟨h0, h1⟩ := h
  rcases (show f = 0 ∨ f = 1 ∨ f = 2 ∨ f = 3 by omega) with rfl | rfl | rfl | rfl <;> decide
theorem arr_four {w : World} {g : Nat} {T : TypeId} {a b c d e f : Int} (h : w.heap[g]? = some (.cells #[.int .i64 a, .int .i64 b, .int .i64 c, .int .i64 d] T (0, 0))) (h0 : 0 ≤ f) (h1 : f ≤ 3) (he : rd [a, b, c, d] f = e) : w.cell? ⟨g, f.toNat, none⟩ = some (.int .i64 e) := by
  rw [arr_cell h f h0 h1, he]
/-- May what works on glued faces be handed this? -/
def gluOk (l : List (List SFace)) : Prop := l.length ≤ 8 ∧ (∀ r ∈ l, r.length ≤ 4) ∧ ∀ r ∈ l, ∀ x ∈ r, ¬ x.f0 < 0 → x.f0 < (l.length : Int) ∧ 0 ≤ x.f1 ∧ x.f1 ≤ 23
instance (l : List (List SFace)) : Decidable (gluOk l) := by unfold gluOk; infer_instance
/-! The images of a permutation are 0 to 3; indexes are 0 to 23. -/
theorem permAt_sm (p : Int) (h0 : 0 ≤ p) (h1 : p ≤ 23) : sm (permAt p 0) ∧ sm (permAt p 1) ∧ sm (permAt p 2) ∧ sm (permAt p 3) := by
  obtain ⟨n, rfl⟩ := Int.eq_ofNat_of_zero_le h0
  have hn : n < 24 := by omega
  have key : ∀ m : Fin 24, (0 ≤ permAt (m.val : Int) 0 ∧ permAt (m.val : Int) 0 ≤ 3) ∧ (0 ≤ permAt (m.val : Int) 1 ∧ permAt (m.val : Int) 1 ≤ 3) ∧ (0 ≤ permAt (m.val : Int) 2 ∧ permAt (m.val : Int) 2 ≤ 3) ∧ (0 ≤ permAt (m.val : Int) 3 ∧ permAt (m.val : Int) 3 ≤ 3) := by decide
  exact key ⟨n, hn⟩
/-- The inverse's images after i rounds. -/
def invList (l : List Int) : Nat → List Int
  | 0 => [0, 0, 0, 0]
  | i + 1 => (invList l i).set (rd l i).toNat i
theorem invList_sm (l : List Int) : ∀ i, i ≤ 4 → ∀ x ∈ invList l i, sm x
  | 0, _, x, hx => by
    have : x = 0 := by simp [invList] at hx; exact hx
    subst this; exact ⟨by omega, by omega⟩
  | i + 1, hi, x, hx => by
    rw [invList] at hx
    rcases List.mem_or_eq_of_mem_set hx with h | rfl
    · exact invList_sm l i (by omega) x h
    · exact ⟨by omega, by omega⟩
def invP (p : Int) : Int := idxL (invList (permL p) 4)
theorem rd_four_sm {a b c d : Int} (ha : sm a) (hb : sm b) (hc : sm c) (hd : sm d) (f : Int) (h0 : 0 ≤ f) (h1 : f ≤ 3) : sm (rd [a, b, c, d] f) := by
  rcases (show f = 0 ∨ f = 1 ∨ f = 2 ∨ f = 3 by omega) with rfl | rfl | rfl | rfl <;> assumption
/-! math/bits.Mul: the shelf's contract, laid here. -/
def lMul_ren : Go.Shelf.Ren := ⟨fun | 212 => 135 | 263 => 145 | 264 => 146 | n => n, fun | 46 => 132 | 51 => 139 | 53 => 142 | 146 => 140 | 148 => 143 | n => n, fun | n => n⟩
theorem lMul : Go.Proofs.Lays.n212 Try.prog lMul_ren := {
  mixed := by kernel_rfl
  f212 := Try.func135.trans (congrArg some (by kernel_rfl))
  f263 := Try.func145.trans (congrArg some (by kernel_rfl))
  f264 := Try.func146.trans (congrArg some (by kernel_rfl))
  t46 := Try.underlying132
  a46 := Try.isAgg132
  z46 := Try.sizeOf132
  v46 := Try.zeroValue132
  t51 := Try.underlying139
  a51 := Try.isAgg139
  z51 := Try.sizeOf139
  v51 := Try.zeroValue139
  t53 := Try.underlying142
  a53 := Try.isAgg142
  z53 := Try.sizeOf142
  v53 := Try.zeroValue142
  t146 := Try.underlying140
  a146 := Try.isAgg140
  z146 := Try.sizeOf140
  v146 := Try.zeroValue140
  t148 := Try.underlying143
  a148 := Try.isAgg143
  z148 := Try.sizeOf143
  v148 := Try.zeroValue143 }
theorem bits_Mul_one (m : Nat) (hm : m ≤ 1000000) (w : World) : Calls Try.prog 135 #[.int .u64 1, .int .u64 (m : Int)] w fun e w' => e = .returned (.tuple #[.int .u64 0, .int .u64 (m : Int)]) ∧ w' = w := by
  have h : Calls Try.prog 135 #[.int .u64 ((1 : Nat) : Int), .int .u64 (m : Int)] w fun e w' => e = .returned (.tuple #[.int .u64 ((1 * m / 18446744073709551616 : Nat) : Int), .int .u64 ((1 * m % 18446744073709551616 : Nat) : Int)]) ∧ w' = w := Go.Proofs.Any.bits_Mul lMul 1 m (by omega) (by omega) w
  rw [Nat.one_mul, Nat.div_eq_of_lt (by omega), Nat.mod_eq_of_lt (by omega)] at h
  exact h
/-! The builtin copy, at elements of any number of cells. -/
theorem run_copy_sz {P : Program} (w : World) (dT sT ty elem : TypeId) (g o dLen dCap : Nat) (a : Addr) (sLen sCap sz : Nat) (cur : Array Value) (t : TypeId) (cs : List Value)
    (hu : P.underlying dT = some (.slice elem)) (hs : (P.info? elem).map (·.size) = some sz)
    (hg : w.heap[g]? = some (.cells cur t (0, 0))) (hn : cs.length = Nat.min sLen dLen * sz)
    (hsrc : ∀ j v, cs[j]? = some v → w.cell? (a.add j) = some v) (hfit : o + cs.length ≤ cur.size) (h1 : ∀ v ∈ cs, v.oneCell' = true) :
    (Builtin.copy_ #[dT, sT] ty #[.slice (some ⟨g, o, none⟩) dLen dCap, .slice (some a) sLen sCap]).run P w =
      .ok (goInt (Nat.min sLen dLen)) (w.setRow g (cur.toList.take o ++ cs ++ cur.toList.drop (o + cs.length)).toArray) := by
  have hl := run_loadCells_list (P := P) w a cs hsrc
  have hst := run_storeCells_at P g o t cs 0 cur w hg (by simpa using hfit) h1
  cases hq : P.info? elem with
  | none => simp [hq] at hs
  | some i =>
    have hi : i.size = sz := by simpa [hq] using hs
    simp [Builtin.copy_, run_underlying hu, Builtin.lenOf, Builtin.firstCells, sizeOf, typeInfo, hq, hi, ← hn, hl, hst]
section
variable {P : Program} {ops : Array Oper} {rest : List Oper} {o : Oper} {a : Act} {Q : Exit → Act → World → Prop} {K : Act → World → Prop} {w w1 : World}
theorem run_copy_op (d s : Operand) (dT sT : TypeId) (ho : o.op = .call { callee := .builtin .copy, args := #[d, s], argTypes := #[dT, sT] }) (vd vs : Value) (hd : a.eval d = vd) (hs : a.eval s = vs) (n : Nat)
    (hrun : ∀ ty, (Builtin.copy_ #[dT, sT] ty #[vd, vs]).run P w = .ok (goInt n) w1) : (execOp a.eval o).run P w = .ok (.value (goInt n)) w1 := by
  simp [execOp, ho, resolve, invoke, builtin, hd, hs, hrun, Result.andThen]
theorem copy_event (hgd : o.guard = none) (d s : Operand) (dT sT : TypeId) (ho : o.op = .call { callee := .builtin .copy, args := #[d, s], argTypes := #[dT, sT] }) (vd vs : Value) (hd : a.eval d = vd) (hs : a.eval s = vs) (n : Nat)
    (hrun : ∀ ty, (Builtin.copy_ #[dT, sT] ty #[vd, vs]).run P w = .ok (goInt n) w1) (h : wpList P ops Q rest (a.put o.dst (goInt n)) w1) : wpList P ops Q (o :: rest) a w :=
  Kd.event_run hgd (run_copy_op d s dT sT ho vd vs hd hs n hrun) h
theorem copy_step (hw : Region.wanted o (yielded ops a.tmps) = true) (d s : Operand) (dT sT : TypeId) (ho : o.op = .call { callee := .builtin .copy, args := #[d, s], argTypes := #[dT, sT] }) (vd vs : Value) (hd : a.eval d = vd) (hs : a.eval s = vs) (n : Nat)
    (hrun : ∀ ty, (Builtin.copy_ #[dT, sT] ty #[vd, vs]).run P w = .ok (goInt n) w1) (h : K (a.put o.dst (goInt n)) w1) : if Region.wanted o (yielded ops a.tmps) = true then Oper.wp P o a w K Q else K (a.put o.dst undef) w :=
  event_step hw (run_copy_op d s dT sT ho vd vs hd hs n hrun) h
end
/-! slices.Repeat at []int64, handed a list of one element. -/
def slices_Repeat_Sint64.f (l0 : List Int) (a1 : Int) : Option (List Int) := match l0 with
  | [e] => if 0 ≤ a1 ∧ a1 ≤ 1000000 then some (List.replicate a1.toNat e) else none
  | _ => none
/-- The cells of an element, and of n of them. -/
def cellsOf_int64 (e : Int) : List Value := [.int .i64 e]
def cellsN_int64 (e : Int) (n : Nat) : List Value := (List.replicate n (cellsOf_int64 e)).flatten
theorem cellsN_int64_len (e : Int) : ∀ n, (cellsN_int64 e n).length = n * 1
  | 0 => by simp [cellsN_int64]
  | n + 1 => by
    have := cellsN_int64_len e n
    unfold cellsN_int64 at this ⊢
    rw [List.replicate_succ, List.flatten_cons, List.length_append, this]
    simp [cellsOf_int64]; omega
theorem cellsN_int64_add (e : Int) (a b : Nat) : cellsN_int64 e (a + b) = cellsN_int64 e a ++ cellsN_int64 e b := by
  unfold cellsN_int64
  rw [← List.replicate_append_replicate, List.flatten_append]
theorem cellsN_int64_one (e : Int) (n : Nat) : ∀ v ∈ cellsN_int64 e n, v.oneCell' = true := by
  intro v hv
  unfold cellsN_int64 at hv
  obtain ⟨l, hl, hv⟩ := List.mem_flatten.1 hv
  obtain ⟨_, rfl⟩ := List.mem_replicate.1 hl
  simp only [cellsOf_int64, List.mem_cons, List.not_mem_nil, or_false] at hv
  subst hv; rfl
theorem cellsN_int64_reps (w : World) (b : Nat) (ok : Nat → Prop) (e : Int) : ∀ n, Reps ((Kd.int .i64).M w b ok) 1 (List.replicate n e) (cellsN_int64 e n)
  | 0 => Reps.none _ _
  | n + 1 => by
    have h := (cellsN_int64_reps w b ok e n).snoc (p := e) (c := cellsOf_int64 e) rfl rfl
    rw [cellsN_int64_add, List.replicate_succ']
    have e1 : cellsN_int64 e 1 = cellsOf_int64 e := by simp [cellsN_int64]
    rw [e1]; exact h
theorem cells_splice_int64 {cur : List Value} {e : Int} {n k m : Nat} (hc : cur.take (n * 1) = cellsN_int64 e n) (hm : m * 1 ≤ cur.length) (hk : n + k ≤ m) :
    (cur.take (n * 1) ++ cellsN_int64 e k ++ cur.drop (n * 1 + (cellsN_int64 e k).length)).take ((n + k) * 1) = cellsN_int64 e (n + k) ∧
    (cur.take (n * 1) ++ cellsN_int64 e k ++ cur.drop (n * 1 + (cellsN_int64 e k).length)).length = cur.length := by
  have l1 := cellsN_int64_len e n
  have l2 := cellsN_int64_len e k
  rw [hc, ← cellsN_int64_add]
  have l3 := cellsN_int64_len e (n + k)
  refine ⟨?_, ?_⟩
  · rw [List.take_append_of_le_length (by omega), List.take_of_length_le (by omega)]
  · rw [List.length_append, yly, l3, l2]; omega
theorem cells_src_int64 {w : World} {g : Nat} {cur : List Value} {T : TypeId} {e : Int} {n k : Nat} (hg : w.heap[g]? = some (.cells cur.toArray T (0, 0))) (hc : cur.take (n * 1) = cellsN_int64 e n) (hk : k ≤ n) :
    ∀ j v, (cellsN_int64 e k)[j]? = some v → w.cell? ((⟨g, 0, none⟩ : Addr).add j) = some v := by
  intro j v hj
  have hl : j < (cellsN_int64 e k).length := (List.getElem?_eq_some_iff.1 hj).1
  rw [cellsN_int64_len] at hl
  rw [add_plain, blk_cell hg j]
  have h2 : (cellsN_int64 e n)[j]? = some v := by
    rw [show n = k + (n - k) by omega, cellsN_int64_add, List.getElem?_append_left (by rw [cellsN_int64_len]; exact hl)]
    exact hj
  rw [← hc, List.getElem?_take] at h2
  split at h2
  · simpa using h2
  · cases h2
set_option maxHeartbeats 8000000 in
set_option maxRecDepth 100000 in
theorem slices_Repeat_Sint64.calls (A0 : Option Addr) (c0 : Nat) (l0 : List Int) (a1 : Int) (r : List Int) (w : World) (hr0 : Kd.C (Kd.int .i64) w A0 l0.length l0) (hc0 : l0.length ≤ c0) (h : slices_Repeat_Sint64.f l0 a1 = some r) :
    Calls Try.prog 103 #[.slice A0 l0.length c0, .int .i64 a1] w fun e w' => ∃ v0_ : Value, e = .returned (v0_) ∧ Kd.R (Kd.int .i64) 2 w' w.heap.size (fun _ => True) v0_ r ∧ Below w.heap.size w w' := by
  match l0, h, hr0, hc0 with
  | [e], h, hr0, hc0 =>
  unfold slices_Repeat_Sint64.f at h
  dsimp only at h
  show Calls Try.prog 103 #[.slice A0 1 c0, .int .i64 a1] w _
  by_cases hc : 0 ≤ a1 ∧ a1 ≤ 1000000
  case neg => rw [if_neg hc] at h; cases h
  rw [if_pos hc] at h
  obtain ⟨m, rfl⟩ := Int.eq_ofNat_of_zero_le hc.1
  rw [Int.toNat_natCast] at h
  have hr := yey h
  have hm9 : m ≤ 1000000 := by omega
  obtain ⟨ad, eA, hcl⟩ : ∃ ad, A0 = some ad ∧ ∀ j v, (cellsOf_int64 e)[j]? = some v → w.cell? (ad.add j) = some v := by
    obtain ⟨ad, e1, h1⟩ := Kd.at_int hr0 0 (by decide) (by simp)
    refine ⟨ad, e1, fun j v hj => ?_⟩
    match j, hj with
    | 0, hj => rw [← show _ = v from by simpa [cellsOf_int64] using hj]; simpa [rd] using h1
    | j + 1, hj => simp [cellsOf_int64] at hj
  subst eA
  clear h hc hr0 hc0
  have HR := Aside0.mk hr
  have HCL := Aside0.mk hcl
  have HMUL := Aside0.mk (bits_Mul_one m hm9)
  clear hr hcl
  have u1 : IntKind.u64.wrap 1 = 1 := by rw [IntKind.wrap_u64]; rfl
  have u2 : IntKind.u64.wrap (m : Int) = (m : Int) := by rw [IntKind.wrap_u64]; omega
  go_enter Try.func103, Try.ntmps103
  go_wp2_with (first
    | (go_at_call 135; refine (HMUL.out _).mono ?_; rintro e w' ⟨rfl, hw⟩; rw [hw]; clear HMUL hw)
    | ((with_reducible refine gate_dst (N := 30) rfl ?_); refine Kd.R_make (Kd.int .i64) (w0 := w) w.heap.size 2 rfl (N := 30) rfl 44 _ _ rfl (m : Int) rfl rfl Try.underlying44 (.int .i64 0) 8 info2 rfl (by decide) (by omega) 0 (ok := fun _ => True) (okp := fun _ => True) rfl (fun _ hk => hk) trivial (by omega) (by omega) (ypy _ _) (yoy _) ?_; intro v1 w1 ho hb _ hnew; rw [Int.toNat_natCast] at ho; obtain ⟨gB, hbs, hge⟩ := hnew; obtain ⟨inner, hown⟩ := Kd.R_own ho; rw [List.length_replicate] at hown; rcases hown.2 with ⟨hv, _⟩ | ⟨g, cap, cur, rfl, hbase, hh, hle, hmax, hcs, _⟩; (case inl => (rw [hv] at hbs; simp [Value.ownBlock] at hbs)); have hszz : ((Kd.int .i64)).sz = 1 := rfl; rw [hszz] at hcs; have HH := Aside0.mk (show w1.heap[g]? = some (.cells cur.toList.toArray 2 (0, 0)) by rw [Array.toArray_toList]; exact hh); have HCS := Aside0.mk (show m ≤ cap ∧ cur.toList.length = cap * 1 ∧ cap ≤ 9223372036854775807 from ⟨hle, by rw [Array.length_toList]; exact hcs, hmax⟩); have HB := Aside0.mk hb; have HG := Aside0.mk hbase; clear ho hb hbs hge hown hh hle hmax hcs hbase hszz; generalize cur.toList = cur at HH HCS; have HN0 := Aside0.mk (show Nat.min 1 m ≤ m ∧ Nat.min 1 m ≤ 1 ∧ (0 < m → Nat.min 1 m = 1) from ⟨Nat.min_le_right _ _, Nat.min_le_left _ _, fun h => Nat.min_eq_left h⟩); generalize hn0 : Nat.min 1 m = n0 at HN0; have HN1 := Aside0.mk hn0; clear hn0)
    | ((with_reducible refine gate_dst (N := 33) rfl ?_); refine copy_event rfl (.tmp 31) (.tmp 32) 44 44 rfl (.slice (some ⟨g, 0, none⟩) m cap) (.slice (some ad) 1 c0) rfl rfl n0 (w1 := w1.setRow g (cur.take 0 ++ cellsN_int64 e n0 ++ cur.drop (0 + (cellsN_int64 e n0).length)).toArray) ?hrun ?_; (case hrun => intro ty; have q := run_copy_sz (P := Try.prog) w1 44 44 ty 2 g 0 m cap ad 1 c0 1 cur.toArray 2 (cellsN_int64 e n0) Try.underlying44 (by kernel_rfl) HH.out (by rw [HN1.out, cellsN_int64_len]) (by intro j v hj; have h1 := HN0.out.2.1; rcases (show n0 = 0 ∨ n0 = 1 by omega) with e0 | e0; (· rw [e0] at hj; simp [cellsN_int64] at hj); (· rw [e0] at hj; exact pw_cell_below HB.out (HCL.out j v (by simpa [cellsN_int64] using hj)))) (by rw [cellsN_int64_len]; have := HN0.out.1; have := HCS.out; simp; omega) (cellsN_int64_one e n0); rw [HN1.out] at q; exact q); have q1 := cells_splice_int64 (cur := cur) (e := e) (n := 0) (k := n0) (m := m) (by simp [cellsN_int64]) (by have := HCS.out; omega) (by have := HN0.out.1; omega); rw [Nat.zero_mul, Nat.zero_add] at q1; have HH2 := Aside0.mk (setRow_heap w1 g cur.toArray (cur.take 0 ++ cellsN_int64 e n0 ++ cur.drop (0 + (cellsN_int64 e n0).length)).toArray 2 (0, 0) HH.out); have HB2 := Aside0.mk (below_setRow HB.out HG.out (cur.take 0 ++ cellsN_int64 e n0 ++ cur.drop (0 + (cellsN_int64 e n0).length)).toArray); have HT := Aside0.mk q1; clear q1 HH HB; generalize World.setRow w1 g _ = w2 at *; generalize (cur.take 0 ++ cellsN_int64 e n0 ++ cur.drop (0 + (cellsN_int64 e n0).length)) = cur2 at *))
  clear HCL HN1
  have hn1 := HN0.out.1
  have HT1 := Aside0.mk HT.out.1
  have HT2 := Aside0.mk (show cur2.length = cap * 1 by rw [HT.out.2]; exact HCS.out.2.1)
  have HPOS := Aside0.mk HN0.out.2.2
  clear HT HN0
  have hcap : m ≤ cap := HCS.out.1
  have hcap9 : cap ≤ 9223372036854775807 := HCS.out.2.2
  clear HCS
  go_loopg [8] m (fun gg v8 w' => ∃ (n : Nat) (cur : List Value), n ≤ m ∧ m - n ≤ gg ∧ Aside0 (0 < m → 0 < n) ∧ v8 = .int .i64 n ∧ Aside0 (w'.heap[g]? = some (.cells cur.toArray 2 (0, 0))) ∧ Aside0 (cur.take (n * 1) = cellsN_int64 e n) ∧ Aside0 (cur.length = cap * 1) ∧ Aside0 (Below w.heap.size w w'))
  case atStart => exact ⟨n0, cur2, hn1, by omega, ⟨fun h => by rw [HPOS.out h]; omega⟩, rfl, HH2, HT1, HT2, HB2⟩
  case round =>
    clear HH2 HT1 HT2 HB2 hn1 HPOS
    obtain ⟨n, cur, hnm, hgg, HP, rfl, HH, HT, HL, HB⟩ := hrel
    by_cases hlt : n < m
    · have hltz : (n : Int) < (m : Int) := by omega
      have hn0 : 0 < n := HP.out (by omega)
      have hne : cap ≠ n := by omega
      have hnc : n ≤ cap := by omega
      go_wp2
      refine start_ (n := 10) (S := fun _ => True) (ds := []) #[false, false, false, false, false, false, false, false, false, false] (by kernel_rfl) rfl rfl trivial (fun hHeld => ?_)
      refine pure_ (i := 0) (N := some 38) (v := ?_) (a' := ?_) #[true, false, false, false, false, false, false, false, false, false] rfl rfl (by kernel_rfl) (fun _ _ _ h => h) (Or.inl ⟨by rfl, ?_⟩) ?_ ?_
      rotate_left
      · intro w'
        go_simp
        with_reducible rfl
      rotate_left
      · simp only [Act.put, yay, yby, ycy, i64_w, i32_w]
        rfl
      refine pure_ (i := 1) (N := some 39) (v := ?_) (a' := ?_) #[true, true, false, false, false, false, false, false, false, false] rfl rfl (by kernel_rfl) (fun _ _ _ h => h) (Or.inl ⟨by rfl, ?_⟩) ?_ ?_
      rotate_left
      · intro w'
        go_simp
        with_reducible rfl
      rotate_left
      · simp only [Act.put, yay, yby, ycy, i64_w, i32_w]
        rfl
      refine pure_ (i := 2) (N := some 40) (v := ?_) (a' := ?_) #[true, true, true, false, false, false, false, false, false, false] rfl rfl (by kernel_rfl) (fun _ _ _ h => h) (Or.inl ⟨by rfl, ?_⟩) ?_ ?_
      rotate_left
      · intro w'
        go_simp
        with_reducible rfl
      rotate_left
      · simp only [Act.put, yay, yby, ycy, i64_w, i32_w]
        rfl
      refine pure_ (i := 3) (N := some 41) (v := ?_) (a' := ?_) #[true, true, true, true, false, false, false, false, false, false] rfl rfl (by kernel_rfl) (fun _ _ _ h => h) (Or.inl ⟨by rfl, ?_⟩) ?_ ?_
      rotate_left
      · intro w'
        go_simp
        with_reducible rfl
      rotate_left
      · simp only [Act.put, yay, yby, ycy, i64_w, i32_w]
        rfl
      refine pure_ (i := 4) (N := some 42) (v := ?_) (a' := ?_) #[true, true, true, true, true, false, false, false, false, false] rfl rfl (by kernel_rfl) (fun _ _ _ h => h) (Or.inl ⟨by rfl, ?_⟩) ?_ ?_
      rotate_left
      · intro w'
        go_simp
        with_reducible rfl
      rotate_left
      · simp only [Act.put, yay, yby, ycy, i64_w, i32_w]
        rfl
      refine pure_ (i := 5) (N := some 43) (v := ?_) (a' := ?_) #[true, true, true, true, true, true, false, false, false, false] rfl rfl (by kernel_rfl) (fun _ _ _ h => h) (Or.inl ⟨by rfl, ?_⟩) ?_ ?_
      rotate_left
      · intro w'
        go_simp
        with_reducible rfl
      rotate_left
      · simp only [Act.put, yay, yby, ycy, i64_w, i32_w]
        rfl
      refine pure_ (i := 6) (N := some 44) (v := ?_) (a' := ?_) #[true, true, true, true, true, true, true, false, false, false] rfl rfl (by kernel_rfl) (fun _ _ _ h => h) (Or.inl ⟨by rfl, ?_⟩) ?_ ?_
      rotate_left
      · intro w'
        go_simp
        with_reducible rfl
      rotate_left
      · simp only [Act.put, yay, yby, ycy, i64_w, i32_w]
        rfl
      obtain ⟨k, hk, hk1, hk2, hk3⟩ : ∃ k, Nat.min n (m - n) = k ∧ k ≤ n ∧ k ≤ m - n ∧ 0 < k := ⟨_, rfl, Nat.min_le_left _ _, Nat.min_le_right _ _, Nat.lt_min.2 ⟨hn0, by omega⟩⟩
      refine one_ (i := 7) (N := some 45) #[true, true, true, true, true, true, true, true, false, false] rfl rfl (by kernel_rfl) (by decide) (fun K hK => ?_)
      refine copy_step (by rfl) (.tmp 41) (.tmp 44) 44 44 rfl (.slice (some ⟨g, n * 1, none⟩) (m - n) (cap - n)) (.slice (some ⟨g, 0, none⟩) n cap) (by first | rfl | (rw [Nat.mul_one]; rfl)) (by rfl) k (w1 := wr.drew.setRow g (cur.take (n * 1) ++ cellsN_int64 e k ++ cur.drop (n * 1 + (cellsN_int64 e k).length)).toArray) ?hrun ?_
      case hrun =>
        intro ty
        have q := run_copy_sz (P := Try.prog) wr.drew 44 44 ty 2 g (n * 1) (m - n) (cap - n) ⟨g, 0, none⟩ n cap 1 cur.toArray 2 (cellsN_int64 e k) Try.underlying44 (by kernel_rfl) HH.out (by rw [hk]; exact cellsN_int64_len _ _) (cells_src_int64 (w := wr.drew) HH.out HT.out hk1) (by rw [cellsN_int64_len, List.size_toArray, HL.out]; omega) (cellsN_int64_one e _)
        rw [hk] at q; exact q
      refine hK.out _ _ trivial (fun hHeld => ?_)
      clear hK K
      refine norm_ (a' := ?_) ?_ ?_
      rotate_left
      · show Act.put _ (some 45) _ = _
        simp only [Act.put, yay, yby, ycy, i64_w, i32_w]
        rfl
      have q1 := cells_splice_int64 (cur := cur) (e := e) (n := n) (k := k) (m := m) HT.out (by rw [HL.out]; omega) (by omega)
      have HH3 := Aside0.mk (setRow_heap wr.drew g cur.toArray (cur.take (n * 1) ++ cellsN_int64 e k ++ cur.drop (n * 1 + (cellsN_int64 e k).length)).toArray 2 (0, 0) HH.out)
      have HB3 := Aside0.mk (below_setRow HB.out.drew HG.out (cur.take (n * 1) ++ cellsN_int64 e k ++ cur.drop (n * 1 + (cellsN_int64 e k).length)).toArray)
      have HT3 := Aside0.mk q1.1
      have HL3 := Aside0.mk (q1.2.trans HL.out)
      clear q1 HH HB HT HL hk
      generalize World.setRow wr.drew g _ = w3 at *
      generalize (cur.take (n * 1) ++ cellsN_int64 e k ++ cur.drop (n * 1 + (cellsN_int64 e k).length)) = cur3 at *
      refine pure_ (i := 8) (N := some 46) (v := ?_) (a' := ?_) #[true, true, true, true, true, true, true, true, true, false] rfl rfl (by kernel_rfl) (fun _ _ _ h => h) (Or.inl ⟨by rfl, ?_⟩) ?_ ?_
      rotate_left
      · intro w'
        go_simp
        with_reducible rfl
      rotate_left
      · simp only [Act.put, yay, yby, ycy, i64_w, i32_w]
        rfl
      refine pure_ (i := 9) (N := some 8) (v := ?_) (a' := ?_) #[true, true, true, true, true, true, true, true, true, true] rfl rfl (by kernel_rfl) (fun _ _ _ h => h) (Or.inl ⟨by rfl, ?_⟩) ?_ ?_
      rotate_left
      · intro w'
        go_simp
        with_reducible rfl
      rotate_left
      · simp only [Act.put, yay, yby, ycy, i64_w, i32_w]
        rfl
      refine done_ (by kernel_rfl) ?_
      go_wp2
      go_roundg (m - (n + k))
      case measure => omega
      case rel => exact ⟨n + k, cur3, by omega, by omega, ⟨fun _ => by omega⟩, by (have hw : wrap64 ((n : Int) + (k : Int)) = ((n + k : Nat) : Int) := by unfold wrap64; omega); rw [hw], HH3, HT3, HL3, HB3⟩
    · obtain rfl : n = m := by omega
      have hltz : ¬ (n : Int) < (n : Int) := by omega
      have hR : Kd.R (Kd.int .i64) 2 wr w.heap.size (fun _ => True) (.slice (some ⟨g, 0, none⟩) n cap) r := by
        rw [← HR.out]
        have hown : wr.ownsRow w.heap.size 2 ((Kd.int .i64)).sz (.slice (some ⟨g, 0, none⟩) n cap) (List.replicate n e).length (cellsN_int64 e n) := by
          rw [List.length_replicate]
          exact ⟨by rw [cellsN_int64_len]; rfl, .inr ⟨g, cap, cur.toArray, rfl, HG.out, HH.out, hcap, hcap9, by rw [List.size_toArray]; exact HL.out, by show cur.toArray.toList.take (n * 1) = _; exact HT.out⟩⟩
        exact ⟨fun _ _ => trivial, _, hown, cellsN_int64_reps _ _ _ e n⟩
      have HRR := Aside0.mk hR
      clear hR
      go_wp2
      go_ret
      exact ⟨_, rfl, HRR.out, HB.out⟩
  | [], h, _, _ => simp [slices_Repeat_Sint64.f] at h
  | _ :: _ :: _, h, _, _ => simp [slices_Repeat_Sint64.f] at h
/-! faceSigns: the sign of each face's order. -/
/-- The ranks of some numbers. -/
def rkL (l : List Int) : List Int := l.map fun x => ((l.filter fun y => decide (y < x)).length : Int)
/-- The sign of the order of three numbers. -/
def sgR (l : List Int) : Int := sgnP (idxL (rkL l ++ [3]))
def fstgt (p f : Int) : List Int := (othL [f]).map (rd (permL p))
/-- What is done at a glued face. -/
def fSt (out : List Int) (j f : Nat) (x : SFace) : List Int :=
 if 4 * x.f0 + rd (permL x.f1) (f : Int) > 4 * (j : Int) + (f : Int) then out.set (4 * x.f0 + rd (permL x.f1) (f : Int)).toNat (sgR (fstgt x.f1 (f : Int))) else out
def fSAll (l : List (List SFace)) : List Int := gluT fSt l 0 (List.replicate (4 * l.length) 1)
/-- What the calls at a glued face answer. -/
theorem fs_calls : ∀ (m : Fin 24) (n : Fin 4), impl_ranksIn.f 20 (fstgt (m.val : Int) (n.val : Int)) = some (rkL (fstgt (m.val : Int) (n.val : Int))) ∧ (rkL (fstgt (m.val : Int) (n.val : Int))).length = 3 ∧
 ((0 ≤ rd (rkL (fstgt (m.val : Int) (n.val : Int))) 0 ∧ rd (rkL (fstgt (m.val : Int) (n.val : Int))) 0 ≤ 3) ∧ (0 ≤ rd (rkL (fstgt (m.val : Int) (n.val : Int))) 1 ∧ rd (rkL (fstgt (m.val : Int) (n.val : Int))) 1 ≤ 3) ∧ (0 ≤ rd (rkL (fstgt (m.val : Int) (n.val : Int))) 2 ∧ rd (rkL (fstgt (m.val : Int) (n.val : Int))) 2 ≤ 3)) ∧
 (0 ≤ idxL (rkL (fstgt (m.val : Int) (n.val : Int)) ++ [3]) ∧ idxL (rkL (fstgt (m.val : Int) (n.val : Int)) ++ [3]) ≤ 23) := by decide +kernel
structure FcInv (w0 : World) (gs n : Nat) (s : List Int) (W : World) : Prop where
 below : Below w0.heap.size w0 W
 ex : ∃ v, W.heap[gs]? = some (.cells #[v] 44 (0, 0)) ∧ Kd.R (Kd.int .i64) 2 W w0.heap.size (fun _ => True) v s
 own : w0.heap.size ≤ gs
 len : s.length = n
theorem FcInv.stays {w0 W W1 : World} {gs n : Nat} {s : List Int} (h : FcInv w0 gs n s W) (hb : Below W.heap.size W W1) : FcInv w0 gs n s W1 := by
 obtain ⟨v, h1, h2⟩ := h.ex
 exact ⟨below_step h.below hb, ⟨v, blk_below h1 hb, Kd.R_below h2 hb⟩, h.own, h.len⟩
set_option maxHeartbeats 8000000 in
set_option maxRecDepth 100000 in
theorem impl_Triangulation_faceSigns.callsOf (A0_0 : Option Addr) (c0_0 : Nat) (l0_0 : List (List SFace)) (w : World) (hr0_0 : Kd.C (Kd.slice 59 kFace) w A0_0 l0_0.length l0_0) (hc0_0 : l0_0.length ≤ c0_0) (hl8 : l0_0.length ≤ 8)
 (hperm : ∀ r ∈ l0_0, ∀ x ∈ r, ¬ x.f0 < 0 → 0 ≤ x.f1 ∧ x.f1 ≤ 23)
 (hlit : ∀ (w0 : World) (gs : Nat) (s : List Int) (W : World) (j f : Nat) (x : SFace), FcInv w0 gs (4 * l0_0.length) s W → IsFace l0_0 j f x → ¬ x.f0 < 0 →
  Calls Try.prog 105 (#[.int .i64 (j : Int), .int .i64 (f : Int), .agg #[.int .i64 x.f0, .int .i64 x.f1], .agg #[.int .i64 (permAt x.f1 0), .int .i64 (permAt x.f1 1), .int .i64 (permAt x.f1 2), .int .i64 (permAt x.f1 3)]] ++ #[.pointer (some ⟨gs, 0, none⟩)]) W fun e W' => e = .returned (.tuple #[]) ∧ FcInv w0 gs (4 * l0_0.length) (fSt s j f x) W') :
 Calls Try.prog 60 #[.agg #[.slice A0_0 l0_0.length c0_0]] w fun e w' => ∃ v0_ : Value, e = .returned (v0_) ∧ Kd.R (Kd.int .i64) 2 w' w.heap.size (fun _ => True) v0_ (fSAll l0_0) ∧ Below w.heap.size w w' := by
 have HPM := Aside0.mk hperm
 have HLT := Aside0.mk hlit
 have HR := Aside0.mk hr0_0
 have HC := Aside0.mk hc0_0
 have HRP := Aside0.mk (show slices_Repeat_Sint64.f [1] (4 * (l0_0.length : Int)) = some (List.replicate (4 * l0_0.length) 1) by
  show (if 0 ≤ 4 * (l0_0.length : Int) ∧ 4 * (l0_0.length : Int) ≤ 1000000 then some (List.replicate (4 * (l0_0.length : Int)).toNat (1 : Int)) else none) = _
  rw [if_pos ⟨by omega, by omega⟩]
  congr 2)
 have HCF : Aside0 (∀ (W : World) (g : Nat), W.heap.size = g → Kd.C (Kd.int .i64) (W.alloc (.cells #[.int .i64 1] 2)) (some ⟨g, 0, none⟩) 1 [(1 : Int)]) := ⟨fun W g hg => by subst hg; exact (Kd.R_reads' (show Kd.R (Kd.int .i64) 2 (W.alloc (.cells #[.int .i64 1] 2)) W.heap.size (fun _ => True) (.slice (some ⟨W.heap.size, 0, none⟩) 1 1) [(1 : Int)] from
  Kd.R_of_own ⟨by simp [encs], .inr ⟨W.heap.size, 1, #[.int .i64 1], rfl, yoy _, new_at4 rfl _, yoy 1, by decide, rfl, rfl⟩⟩ (fun _ _ => trivial))).2.2⟩
 clear hr0_0 hc0_0 hperm hlit
 go_enter Try.func60, Try.ntmps60
 have BT := Aside0.mk (blk_alloc (new_at4 (W := w) rfl (.cells #[.slice A0_0 l0_0.length c0_0] 30)) (.cells #[.int .i64 1] 2))
 have HB := Aside0.mk (below_alloc (below_alloc (ypy w.heap.size w) (.cells #[.slice A0_0 l0_0.length c0_0] 30)) (.cells #[.int .i64 1] 2))
 have HWZ : Aside0 ((w.alloc (.cells #[.slice A0_0 l0_0.length c0_0] 30)).heap.size = w.heap.size + 1) := ⟨by simp⟩
 go_wp2_with (first
  | (go_at_call 103; refine (slices_Repeat_Sint64.calls (some ⟨w.heap.size + 1, 0, none⟩) 1 [1] (4 * (l0_0.length : Int)) _ _ (HCF.out _ _ HWZ.out) (yoy 1) HRP.out).mono ?_; rintro e w3 ⟨v3, rfl, ho, hb⟩; obtain ⟨A3, c3, rfl⟩ := Kd.R_slice ho; have hv3 := Kd.R_mono (Kd.R_lower ho HB.out.size) (ok' := fun _ => True) (fun _ _ => trivial); rw [List.length_replicate] at hv3; have HV3 := Aside0.mk hv3; clear hv3; have BT3 := Aside0.mk (blk_below BT.out hb); have HB3 := Aside0.mk (below_step HB.out hb); clear BT HB ho hb; have hT3 : w3.cell? ⟨w.heap.size, 0, none⟩ = some (.slice A0_0 l0_0.length c0_0) := (blk_cell BT3.out 0).trans rfl; have hz3 : w.heap.size < w3.heap.size := blk_lt BT3.out; have hzn : w.heap.size ≠ w3.heap.size := by omega)
  | (go_at_call 104; refine (impl_glued.calls 105 _ Try.func105 (by kernel_rfl) rfl #[.pointer (some ⟨w3.heap.size, 0, none⟩)] l0_0 A0_0 c0_0 w _ (FcInv w w3.heap.size (4 * l0_0.length)) fSt (List.replicate (4 * l0_0.length) 1) (fun _ => 0) (4 * (l0_0.map List.length).sum) (fun _ _ _ _ => Nat.zero_le _) (Nat.le_of_eq (Nat.zero_add _)) (fun _ _ _ h hb => h.stays hb) (fun _ _ h => h.below) HR.out (fun r hr x hx hb => HPM.out r hr x hx (by omega)) ?aS ?a0).mono ?_; (case aS => exact fun s W j f x hI hF hb _ => HLT.out w _ s W j f x hI hF (by omega)); (case a0 => exact ⟨below_alloc HB3.out _, ⟨_, new_at4 rfl _, Kd.R_mono (Kd.R_alloc HV3.out _) (fun _ _ => trivial)⟩, HB3.out.size, List.length_replicate⟩); rintro e w4 ⟨rfl, hI⟩; have HI := Aside0.mk (show FcInv w w3.heap.size (4 * l0_0.length) (fSAll l0_0) w4 from hI); clear hI hT3 hz3 hzn HV3; obtain ⟨v4, hM, hE⟩ := HI.out.ex; obtain ⟨A4, c4, rfl⟩ := Kd.R_slice hE; have hm4 : w4.cell? ⟨w3.heap.size, 0, none⟩ = some (.slice A4 (fSAll l0_0).length c4) := (blk_cell hM 0).trans rfl; have HV5 := Aside0.mk hE; clear hM hE))
 go_ret
 exact ⟨_, rfl, HV5.out, HI.out.below⟩
theorem fs_arr_at (g c : Nat) (w : World) : (Instr.arrayAt 94 (.slice (some ⟨g, 0, none⟩) 4 c)).run Try.prog w = .ok (.pointer (some ⟨g, 0, none⟩)) w := by
 simp [Instr.arrayAt, run_underlying Try.underlying94]
theorem fs_app_run {w : World} {base g : Nat} {v : Value} {ok : Nat → Prop} {xs : List Int} {y : Int} (HO : Kd.R (Kd.int .i64) 2 w base ok v xs) (hC : w.heap[g]? = some (.cells #[.int .i64 y] 2 (0, 0))) (hb : base ≤ w.heap.size) (hl : xs.length + 1 ≤ 10000000000) (ty : TypeId) :
 ∃ v1 w1, (Builtin.append_ #[44, 44] ty #[v, .slice (some ⟨g, 0, none⟩) 1 1]).run Try.prog w = .ok v1 w1 ∧ Kd.R (Kd.int .i64) 2 w1 base (fun _ => True) v1 (xs ++ [y]) ∧ w.grownBy w1 v.ownBlock := by
 obtain ⟨i0, hi, hzz⟩ := Option.map_eq_some_iff.1 info2
 simp only [Prod.mk.injEq] at hzz
 obtain ⟨hz0, hz1, hz2⟩ := hzz
 obtain ⟨v1, w1, hr, h2, h3, _, h5⟩ := run_append_own_at (P := Try.prog) w base 44 ty 2 i0 (.int .i64 0) 1 8 Try.underlying44 hi hz0 hz1 hz2 rfl (by omega) v xs.length (encs (Value.int .i64) xs) (Kd.own_of_R HO) ⟨g, 0, none⟩ 1 1 (encs (Value.int .i64) [y]) (by simp [encs])
  (by
   intro j u hu
   have hj : j = 0 := by
    rcases Nat.eq_zero_or_pos j with h | h
    next =>
     exact h
    next =>
     simp [encs, show ¬ j = 0 by omega] at hu
   subst hj
   exact (blk_cell hC 0).trans hu)
  (by intro u hu; simp only [encs, List.mem_map] at hu; obtain ⟨q, _, rfl⟩ := hu; rfl) (by simp only [maxLen]; omega) (by omega) hb
 exact ⟨v1, w1, hr, Kd.R_of_own (by simpa [encs] using h2) (fun _ _ => trivial), h3⟩
theorem fs_app_step {ops : Array Oper} {P : Program} {o : Oper} {a : Act} {Q : Exit → Act → World → Prop} {K : Act → World → Prop} {w w1 : World} {v1 v u : Value} (s x : Operand) (t : TypeId) (hw : Region.wanted o (yielded ops a.tmps) = true) (ho : o.op = .call { callee := .builtin .append, args := #[s, x], argTypes := #[t, t] }) (hs : a.eval s = v) (hx : a.eval x = u)
 (hrun : (Builtin.append_ #[t, t] o.type #[v, u]).run P w = .ok v1 w1) (h : K (a.put o.dst v1) w1) : if Region.wanted o (yielded ops a.tmps) = true then Oper.wp P o a w K Q else K (a.put o.dst undef) w := by
 rw [if_pos hw]
 have he : (execOp a.eval o).run P w = .ok (.value v1) w1 := by simp [execOp, ho, resolve, invoke, builtin, hs, hx, hrun, Result.andThen]
 unfold Oper.wp
 rw [he]
 exact h
set_option maxHeartbeats 8000000 in
set_option maxRecDepth 100000 in
theorem impl_faceSigns_1.calls (w0 w : World) (gs n : Nat) (s : List Int) (j f : Nat) (f0 f1 : Int) (hI : FcInv w0 gs n s w) (hj : 4 * (j : Int) + 4 ≤ (n : Int)) (hf : (f : Int) ≤ 3) (hf0 : 0 ≤ f0) (hf1 : 4 * f0 + 4 ≤ (n : Int)) (hp0 : 0 ≤ f1) (hp1 : f1 ≤ 23) (hn : n ≤ 64) :
 Calls Try.prog 105 #[.int .i64 (j : Int), .int .i64 (f : Int), .agg #[.int .i64 f0, .int .i64 f1], .agg #[.int .i64 (permAt f1 0), .int .i64 (permAt f1 1), .int .i64 (permAt f1 2), .int .i64 (permAt f1 3)], .pointer (some ⟨gs, 0, none⟩)] w fun e w' => e = .returned (.tuple #[]) ∧ FcInv w0 gs n (fSt s j f ⟨f0, f1⟩) w' := by
 obtain ⟨y0, y1, y2, y3⟩ := permAt_sm f1 hp0 hp1
 have hpl : permL f1 = [permAt f1 0, permAt f1 1, permAt f1 2, permAt f1 3] := rfl
 generalize permAt f1 0 = x0 at *
 generalize permAt f1 1 = x1 at *
 generalize permAt f1 2 = x2 at *
 generalize permAt f1 3 = x3 at *
 have HPL := Aside0.mk hpl
 have HP : Aside0 (∀ c, sm c → sm (rd [x0, x1, x2, x3] c)) := ⟨fun c hc => rd_four_sm y0 y1 y2 y3 c hc.1 hc.2⟩
 have HI := Aside0.mk hI
 have k4 := HP.out (f : Int) ⟨by omega, hf⟩
 clear hI y0 y1 y2 y3 hpl
 have ht := Try.underlying94
 have HCF : Aside0 (∀ (W : World) (g : Nat), W.heap.size = g → Kd.C (Kd.int .i64) (W.alloc (.cells #[.int .i64 (f : Int)] 2)) (some ⟨g, 0, none⟩) 1 [(f : Int)]) := ⟨fun W g hg => by subst hg; exact (Kd.R_reads' (show Kd.R (Kd.int .i64) 2 (W.alloc (.cells #[.int .i64 (f : Int)] 2)) W.heap.size (fun _ => True) (.slice (some ⟨W.heap.size, 0, none⟩) 1 1) [(f : Int)] from
  Kd.R_of_own ⟨by simp [encs], .inr ⟨W.heap.size, 1, #[.int .i64 (f : Int)], rfl, yoy _, new_at4 rfl _, yoy 1, by decide, rfl, rfl⟩⟩ (fun _ _ => trivial))).2.2⟩
 have BF := Aside0.mk (blk_alloc (new_at4 (W := w) rfl (.cells #[.int .i64 f0, .int .i64 f1] 59)) (.cells #[.int .i64 x0, .int .i64 x1, .int .i64 x2, .int .i64 x3] 94))
 have BI := Aside0.mk (new_at4 (W := w.alloc (.cells #[.int .i64 f0, .int .i64 f1] 59)) (n := w.heap.size + 1) (by simp) (.cells #[.int .i64 x0, .int .i64 x1, .int .i64 x2, .int .i64 x3] 94))
 have HB := Aside0.mk (below_alloc (below_alloc (ypy w.heap.size w) (.cells #[.int .i64 f0, .int .i64 f1] 59)) (.cells #[.int .i64 x0, .int .i64 x1, .int .i64 x2, .int .i64 x3] 94))
 go_enter Try.func105, Try.ntmps105
 go_wp2_with fail
 generalize hwB : World.alloc (World.alloc w _) _ = wB at *
 generalize hgI : w.heap.size + 1 = gI at *
 generalize hde : rd [x0, x1, x2, x3] (f : Int) = d at *
 have hc0 : wB.cell? ⟨w.heap.size, 0, none⟩ = some (.int .i64 f0) := (blk_cell BF.out 0).trans rfl
 have hc1 : wB.cell? ⟨gI, f, none⟩ = some (.int .i64 d) := arr_four BI.out (f := (f : Int)) (by omega) hf hde
 have hflt : (f : Int) < 4 := by omega
 obtain ⟨hd0, hd1⟩ := k4
 go_quiet (fail)
 go_wp2_with fail
 rotate_left
 next =>
  go_end0
  refine ⟨rfl, ?_⟩
  have e : fSt s j f ⟨f0, f1⟩ = s := if_neg (by
   show ¬ (4 * f0 + rd (permL f1) (f : Int) > 4 * (j : Int) + (f : Int))
   rw [HPL.out, hde]
   omega)
  rw [e]
  exact HI.out.stays (pw_below_drewN HB.out nq)
 have HL3 := Aside0.mk (oth_three (show sm (f : Int) from ⟨by omega, hf⟩))
 have HLM := Aside0.mk (show ∀ c ∈ othL [(f : Int)], sm c ∧ c ≠ (f : Int) from fun c hc => oth_mem hc)
 refine (impl_others.calls _ 1 [(f : Int)] (othL [(f : Int)]) _ (HCF.out _ _ rfl) (yoy 1) rfl).mono ?_
 rintro e w2 ⟨v0, rfl, ho, hb⟩
 obtain ⟨gO, cO, rfl, hg1, hg2, _⟩ := Kd.R_form ho (by rw [HL3.out]; decide)
 have HO := Aside0.mk ho
 have HBO := Aside0.mk hb
 have HG := Aside0.mk (And.intro hg1 hg2)
 clear ho hb hg1 hg2 HCF
 have BF2 := Aside0.mk (blk_below (blk_alloc (blk_drewN BF.out nq) (.cells #[.int .i64 (f : Int)] 2)) HBO.out)
 have BI2 := Aside0.mk (blk_below (blk_alloc (blk_drewN BI.out nq) (.cells #[.int .i64 (f : Int)] 2)) HBO.out)
 have HB2 := Aside0.mk (below_step (below_alloc (pw_below_drewN HB.out nq) (.cells #[.int .i64 (f : Int)] 2)) HBO.out)
 have HLX := Aside0.mk (Kd.C_max (Kd.R_reads' HO.out).2.2)
 generalize hLe : othL [(f : Int)] = L at *
 have hlb : L.length ≤ 3 := by have := HL3.out; omega
 go_wp2
 clear BF BI HB HBO hc0 hc1 hwB
 go_loopg [10, 30] L.length (fun gg v10 v30 w' => ∃ i : Nat, i ≤ L.length ∧ L.length - i ≤ gg ∧ v30 = .int .i64 i ∧ Aside0 (Kd.R (Kd.int .i64) 2 w' w2.heap.size (fun _ => True) v10 ((L.take i).map (rd [x0, x1, x2, x3]))) ∧ Aside0 (Below w2.heap.size w2 w'))
 case atStart => exact ⟨0, Nat.zero_le _, by omega, rfl, ⟨Kd.R_nil _ _ _ _ _⟩, ⟨ypy _ _⟩⟩
 case round =>
  obtain ⟨i, hi9, hgg, rfl, HW2, HB3⟩ := hrel
  by_cases hlt : i < L.length
  next =>
   have hltz : (i : Int) < (L.length : Int) := by omega
   obtain ⟨hc, _⟩ := Kd.R_celln 0 (Kd.R_below HO.out HB3.out) (i : Int) (by omega) hltz
   replace hc : wr.cell? ⟨gO, i, none⟩ = some (.int .i64 (rd L (i : Int))) := hc
   have ex : rd L (i : Int) = L[i] := by simp [rd, hlt]
   rw [ex] at hc
   have HC := Aside0.mk (HLM.out L[i] (List.getElem_mem hlt))
   generalize hce : L[i] = c at hc HC
   obtain ⟨q0, q1⟩ := HC.out.1
   have q4 : c < 4 := by omega
   generalize hee : rd [x0, x1, x2, x3] c = e at *
   have hIc := arr_four (blk_below BI2.out HB3.out) q0 q1 hee
   have hll : ((L.take i).map (rd [x0, x1, x2, x3])).length ≤ 3 := by rw [List.length_map, ymy]; omega
   go_wp2_with (first | ((with_reducible refine gate_builtin (b := .append) (xs := #[.tmp 34, .tmp 38]) rfl ?_); at_builtin; refine Kd.R_append (Kd.int .i64) (w0 := w2) w2.heap.size rfl (.tmp 34) (.tmp 38) 44 2 (.int .i64 0) 8 rfl Try.underlying44 info2 rfl (by decide) (by omega) u10 ((L.take i).map (rd [x0, x1, x2, x3])) e [.int .i64 e] (fun _ => True) (fun _ => False) rfl rfl ?aP (fun _ hk => hk.elim) ?aF ?aO ?aB ?aS ?aL ?_; (case aP => exact rfl); (case aB => exact HB3.out); (case aF => exact (fun _ _ => trivial)); (case aO => first | exact HW2.out | exact Kd.R_alloc HW2.out _); (case aS => first | exact below_size HB3.out | exact below_size (below_alloc HB3.out _)); (case aL => omega); intro v104 w10 ho hb hg hat; have HO4 := Aside0.mk ho; have HB4 := Aside0.mk hb; clear ho hb hg hat))
   go_roundg (L.length - (i + 1))
   case measure => omega
   case rel => exact ⟨i + 1, by omega, by omega, by (try simp only [i64_w]); rfl, ⟨by
    have e2 : (L.take (i + 1)).map (rd [x0, x1, x2, x3]) = (L.take i).map (rd [x0, x1, x2, x3]) ++ [e] := by
     rw [List.take_add_one, List.getElem?_eq_getElem hlt, hce]; simp [hee]
    rw [e2]; exact HO4.out⟩, ⟨HB4.out⟩⟩
  next =>
   obtain rfl : i = L.length := by omega
   obtain ⟨A10, c10, hv10⟩ := Kd.R_slice HW2.out
   rw [List.take_length] at HW2 hv10
   rw [List.length_map] at hv10
   subst hv10
   have HFS : Aside0 (impl_ranksIn.f 20 (L.map (rd [x0, x1, x2, x3])) = some (rkL (L.map (rd [x0, x1, x2, x3]))) ∧ (rkL (L.map (rd [x0, x1, x2, x3]))).length = 3 ∧
    (sm (rd (rkL (L.map (rd [x0, x1, x2, x3]))) 0) ∧ sm (rd (rkL (L.map (rd [x0, x1, x2, x3]))) 1) ∧ sm (rd (rkL (L.map (rd [x0, x1, x2, x3]))) 2)) ∧
    (0 ≤ idxL (rkL (L.map (rd [x0, x1, x2, x3])) ++ [3]) ∧ idxL (rkL (L.map (rd [x0, x1, x2, x3])) ++ [3]) ≤ 23)) := by
    have h := fs_calls ⟨f1.toNat, by omega⟩ ⟨f, by omega⟩
    have e1 : ((f1.toNat : Nat) : Int) = f1 := by omega
    have e2 : fstgt f1 (f : Int) = L.map (rd [x0, x1, x2, x3]) := by unfold fstgt; rw [HPL.out, hLe]
    dsimp only at h
    rw [e1, e2] at h
    exact ⟨h⟩
   have hTl : (L.map (rd [x0, x1, x2, x3])).length = L.length := List.length_map ..
   have hT : fstgt f1 (f : Int) = L.map (rd [x0, x1, x2, x3]) := by unfold fstgt; rw [HPL.out, hLe]
   generalize L.map (rd [x0, x1, x2, x3]) = T at *
   have HTL := Aside0.mk hTl
   have HT := Aside0.mk hT
   clear hTl hT
   go_wp2
   obtain ⟨v, hM, hE⟩ := HI.out.ex
   obtain ⟨gv, cv, rfl, hgv1, hgv2, cvs, hgv3⟩ := Kd.R_form hE (by have := HI.out.len; omega)
   have HBr := Aside0.mk (below_step HB2.out HB3.out)
   have HM0 := Aside0.mk hM
   have HM := Aside0.mk (blk_below hM HBr.out)
   clear hM
   refine start_ (n := 12) (S := fun w' => w'.cell? ⟨gs, 0, none⟩ = some (.slice (some ⟨gv, 0, none⟩) s.length cv)) (ds := [11]) #[false, false, false, false, false, false, false, false, false, false, false, false] (by kernel_rfl) rfl rfl ((blk_cell HM.out 0).trans rfl) (fun hHeld => ?_)
   refine take_ (i := 0) (N := some 41) (v := ?_) (a' := ?_) #[true, false, false, false, false, false, false, false, false, false, false, false] rfl rfl (by kernel_rfl) (fun _ _ _ h => h) (Or.inl ⟨by rfl, ?_⟩) hHeld ?_ ?_
   rotate_left
   next =>
    rintro w' s0
    go_simp
    with_reducible rfl
   rotate_left
   next =>
    simp only [Act.put, yay, yby, ycy, i64_w, i32_w]
    rfl
   refine pure_ (i := 1) (N := some 42) (v := ?_) (a' := ?_) #[true, true, false, false, false, false, false, false, false, false, false, false] rfl rfl (by kernel_rfl) (fun _ _ _ h => h) (Or.inl ⟨by rfl, ?_⟩) ?_ ?_
   rotate_left
   next =>
    intro w'
    go_simp
    with_reducible rfl
   rotate_left
   next =>
    simp only [Act.put, yay, yby, ycy, i64_w, i32_w]
    rfl
   refine pure_ (i := 2) (N := some 43) (v := ?_) (a' := ?_) #[true, true, true, false, false, false, false, false, false, false, false, false] rfl rfl (by kernel_rfl) (fun _ _ _ h => h) (Or.inl ⟨by rfl, ?_⟩) ?_ ?_
   rotate_left
   next =>
    intro w'
    go_simp
    with_reducible rfl
   rotate_left
   next =>
    simp only [Act.put, yay, yby, ycy, i64_w, i32_w]
    rfl
   refine join_ (σ := Value × Nat) 7 #[true, true, true, true, true, false, false, false, false, false, false, false] (fun s_ => [(44, s_.1), (45, .slice (some ⟨s_.2, 0, none⟩) 1 1)]) (fun s_ w' => Kd.R (Kd.int .i64) 2 w' w2.heap.size (fun k => k ≠ s_.2) s_.1 (rkL T) ∧ w'.heap[s_.2]? = some (.cells #[.int .i64 3] 2 (0, 0)) ∧ w2.heap.size ≤ s_.2 ∧ Below w2.heap.size w2 w' ∧ w'.cell? ⟨gs, 0, none⟩ = some (.slice (some ⟨gv, 0, none⟩) s.length cv)) ?cont (fun hcont => ?walk)
   case walk =>
    refine two_ (i := 3) (j := 4) (Ni := some 44) (Nj := some 45) #[true, true, true, true, false, false, false, false, false, false, false, false] #[true, true, true, false, true, false, false, false, false, false, false, false] rfl rfl rfl rfl (by kernel_rfl) (by decide) (by decide) (fun K hK => ?_) (fun K hK => ?_)
    next =>
     refine goes_ Try.func109 (by kernel_rfl) rfl #[.slice A10 L.length c10] (by rfl) rfl rfl (by (try simp only [yiy, yjy, yky]); first | done | rfl) ?_
     have hcl := impl_ranksIn.calls 20 A10 c10 T (rkL T) wr.drew (Kd.R_reads' (Kd.R_drew HW2.out)).2.2 (by rw [HTL.out]; exact (Kd.R_reads' HW2.out).2.1) HFS.out.1
     rw [HTL.out] at hcl
     refine hcl.mono ?_
     rintro e w4 ⟨v4, rfl, ho4, hb4⟩
     have hz : w2.heap.size ≤ wr.drew.heap.size := HB3.out.size
     have HO4 := Aside0.mk (Kd.R_lower ho4 hz)
     have HB4 := Aside0.mk (below_step (below_drew HB3.out) hb4)
     have hc4 : w4.cell? ⟨gs, 0, none⟩ = some (.slice (some ⟨gv, 0, none⟩) s.length cv) := (blk_cell (blk_below (blk_drew HM.out) hb4) 0).trans rfl
     have hM4 := Aside0.mk (blk_below (blk_drew HM.out) hb4)
     clear ho4 hb4 hz hHeld
     refine ⟨_, rfl, ?_⟩
     refine hK.out _ _ hc4 (fun hHeld => ?_)
     clear hK K hc4
     refine norm_ (a' := ?_) ?_ ?_
     rotate_left
     next =>
      show Act.put _ (some 44) _ = _
      simp only [Act.put, yay, yby, ycy, i64_w, i32_w]
      rfl
     refine one_ (i := 4) (N := some 45) #[true, true, true, true, true, false, false, false, false, false, false, false] rfl rfl (by kernel_rfl) (by decide) (fun K hK => ?_)
     refine value_ (w1 := ?_) (v := ?_) (by rfl) rfl ?_ ?_
     rotate_left 2
     next =>
      go_simp
      constructor
      next =>
       rfl
      next =>
       rfl
     refine hK.out _ _ ((blk_cell (blk_alloc hM4.out _) 0).trans rfl) (fun hHeld => ?_)
     clear hK K
     refine norm_ (a' := ?_) ?_ ?_
     rotate_left
     next =>
      show Act.put _ (some 45) _ = _
      simp only [Act.put, yay, yby, ycy, i64_w, i32_w]
      rfl
     have hc_ := hcont (v4, w4.heap.size) _ ⟨Kd.R_mono (Kd.R_alloc (Kd.R_bound HO4.out) _) (fun k hk => Nat.ne_of_lt hk.2.2.1), new_at4 rfl _, HB4.out.size, below_alloc HB4.out _, (blk_cell (blk_alloc hM4.out _) 0).trans rfl⟩
     exact norm_ (by simp only [putAll, Act.put, yay, yby, ycy, i64_w, i32_w] <;> rfl) hc_
    next =>
     refine value_ (w1 := ?_) (v := ?_) (by rfl) rfl ?_ ?_
     rotate_left 2
     next =>
      go_simp
      constructor
      next =>
       rfl
      next =>
       rfl
     refine hK.out _ _ ((blk_cell (blk_alloc (blk_drew HM.out) _) 0).trans rfl) (fun hHeld => ?_)
     clear hK K
     refine norm_ (a' := ?_) ?_ ?_
     rotate_left
     next =>
      show Act.put _ (some 45) _ = _
      simp only [Act.put, yay, yby, ycy, i64_w, i32_w]
      rfl
     refine one_ (i := 3) (N := some 44) #[true, true, true, true, true, false, false, false, false, false, false, false] rfl rfl (by kernel_rfl) (by decide) (fun K hK => ?_)
     refine goes_ Try.func109 (by kernel_rfl) rfl #[.slice A10 L.length c10] (by rfl) rfl rfl (by (try simp only [yiy, yjy, yky]); first | done | rfl) ?_
     have hz : w2.heap.size ≤ wr.heap.size := HB3.out.size
     have hn4 : ((wr.alloc (.cells #[.int .i64 3] 2)).drew).heap[wr.heap.size]? = some (.cells #[.int .i64 3] 2 (0, 0)) := blk_drew (new_at4 (W := wr) rfl (.cells #[.int .i64 3] 2))
     have hsz : ((wr.alloc (.cells #[.int .i64 3] 2)).drew).heap.size = wr.heap.size + 1 := by simp
     have hbA : Below w2.heap.size w2 ((wr.alloc (.cells #[.int .i64 3] 2)).drew) := below_drew (below_alloc HB3.out (.cells #[.int .i64 3] 2))
     have hMA : ((wr.alloc (.cells #[.int .i64 3] 2)).drew).heap[gs]? = _ := blk_drew (blk_alloc HM.out (.cells #[.int .i64 3] 2))
     have hRA := Kd.R_drew (Kd.R_alloc HW2.out (.cells #[.int .i64 3] 2))
     generalize (wr.alloc (.cells #[.int .i64 3] 2)).drew = wA at *
     generalize wr.heap.size = gA at *
     have hcl := impl_ranksIn.calls 20 A10 c10 T (rkL T) wA (Kd.R_reads' hRA).2.2 (by rw [HTL.out]; exact (Kd.R_reads' HW2.out).2.1) HFS.out.1
     rw [HTL.out] at hcl
     refine hcl.mono ?_
     rintro e w4 ⟨v4, rfl, ho4, hb4⟩
     have hc4 : w4.cell? ⟨gs, 0, none⟩ = some (.slice (some ⟨gv, 0, none⟩) s.length cv) := (blk_cell (blk_below hMA hb4) 0).trans rfl
     refine ⟨_, rfl, ?_⟩
     refine hK.out _ _ hc4 (fun hHeld => ?_)
     clear hK K
     refine norm_ (a' := ?_) ?_ ?_
     rotate_left
     next =>
      show Act.put _ (some 44) _ = _
      simp only [Act.put, yay, yby, ycy, i64_w, i32_w]
      rfl
     have hc_ := hcont (v4, gA) _ ⟨Kd.R_mono (Kd.R_lower (Kd.R_bound ho4) (by rw [hsz]; exact Nat.le_succ_of_le hz)) (fun k hk => Nat.ne_of_gt (by have := hk.2.1; show gA < k; omega)), blk_below hn4 hb4, hz, below_step hbA hb4, hc4⟩
     exact norm_ (by simp only [putAll, Act.put, yay, yby, ycy, i64_w, i32_w] <;> rfl) hc_
   case cont =>
    rintro ⟨v4, gb⟩ w5 ⟨ho5, hn5, hg5, hb5, hHeld⟩
    dsimp only at ho5 hn5 hg5 hHeld ⊢
    refine norm_ (a' := ?_) ?_ ?_
    rotate_left
    next =>
     simp only [putAll, Act.put, yay, yby, ycy, i64_w, i32_w]
     rfl
    refine one_ (i := 5) (N := some 46) #[true, true, true, true, true, true, false, false, false, false, false, false] rfl rfl (by kernel_rfl) (by decide) (fun K hK => ?_)
    obtain ⟨v6, w6, hrun6, ho6, hg6⟩ := fs_app_run ho5 hn5 (hb5.size) (by rw [HFS.out.2.1]; omega) 44
    have hb6 : Below w2.heap.size w2 w6 := hb5.grown hg6 hb5.size (fun k e => Kd.R_base ho5 k e)
    refine fs_app_step (.tmp 44) (.tmp 45) 44 (by rfl) rfl (by rfl) (by rfl) hrun6 ?_
    obtain ⟨r0, r1, r2, hrk⟩ : ∃ a b c, rkL T = [a, b, c] := by
     have h3 := HFS.out.2.1
     match rkL T, h3 with
     | [a, b, c], _ => exact ⟨a, b, c, rfl⟩
    rw [hrk] at ho6
    obtain ⟨g6, c6, rfl, hg61, _, _⟩ := Kd.R_form ho6 (by simp)
    have HM2 := Aside0.mk (blk_below HM0.out HB2.out)
    have HI2 := Aside0.mk (HI.out.stays HB2.out)
    have hc6 : w6.cell? ⟨gs, 0, none⟩ = _ := (blk_cell (blk_below HM2.out hb6) 0).trans rfl
    have k0 : w6.cell? ⟨g6, 0, none⟩ = some (.int .i64 r0) := (Kd.R_cell 0 ho6 0 (by omega) (by simp)).1
    have k1 : w6.cell? ⟨g6, 1, none⟩ = some (.int .i64 r1) := (Kd.R_cell 0 ho6 1 (by omega) (by simp)).1
    have k2 : w6.cell? ⟨g6, 2, none⟩ = some (.int .i64 r2) := (Kd.R_cell 0 ho6 2 (by omega) (by simp)).1
    have k3 : w6.cell? ⟨g6, 3, none⟩ = some (.int .i64 3) := (Kd.R_cell 0 ho6 3 (by omega) (by simp)).1
    refine hK.out _ _ hc6 (fun hHeld => ?_)
    clear hK K
    refine norm_ (a' := ?_) ?_ ?_
    rotate_left
    next =>
     show Act.put _ (some 46) _ = _
     simp only [Act.put, yay, yby, ycy, i64_w, i32_w]
     rfl
    refine pure_ (i := 6) (N := some 47) (v := ?_) (a' := ?_) #[true, true, true, true, true, true, true, false, false, false, false, false] rfl rfl (by kernel_rfl) (fun _ _ _ h => h) (Or.inl ⟨by rfl, ?_⟩) ?_ ?_
    rotate_left
    next =>
     intro w'
     go_simp
     rw [fs_arr_at]
     rfl
    rotate_left
    next =>
     simp only [Act.put, yay, yby, ycy, i64_w, i32_w]
     rfl
    refine one_ (i := 7) (N := some 48) #[true, true, true, true, true, true, true, true, false, false, false, false] rfl rfl (by kernel_rfl) (by decide) (fun K hK => ?_)
    refine value_ (w1 := ?_) (v := ?_) (by rfl) rfl ?_ ?_
    rotate_left 2
    next =>
     go_simp
     constructor
     next =>
      rfl
     next =>
      rfl
    refine hK.out _ _ hc6 (fun hHeld => ?_)
    clear hK K
    refine norm_ (a' := ?_) ?_ ?_
    rotate_left
    next =>
     show Act.put _ (some 48) _ = _
     simp only [Act.put, yay, yby, ycy, i64_w, i32_w]
     rfl
    have hsm : sm r0 ∧ sm r1 ∧ sm r2 := by have h := HFS.out.2.2.1; rw [hrk] at h; exact h
    have hix : 0 ≤ idxL [r0, r1, r2, 3] ∧ idxL [r0, r1, r2, 3] ≤ 23 := by have h := HFS.out.2.2.2; rw [hrk] at h; exact h
    refine one_ (i := 8) (N := some 49) #[true, true, true, true, true, true, true, true, true, false, false, false] rfl rfl (by kernel_rfl) (by decide) (fun K hK => ?_)
    refine goes_ Try.func108 (by kernel_rfl) rfl #[.agg #[.int .i64 r0, .int .i64 r1, .int .i64 r2, .int .i64 3]] (by rfl) rfl rfl (by (try simp only [yiy, yjy, yky]); first | done | rfl) ?_
    refine (impl_indexOf.calls r0 r1 r2 3 _ hsm.1 hsm.2.1 hsm.2.2 ⟨by omega, by omega⟩).mono ?_
    rintro e w7 ⟨rfl, hb7⟩
    have hb27 := below_step hb6 hb7
    have hc7 : w7.cell? ⟨gs, 0, none⟩ = _ := (blk_cell (blk_below HM2.out hb27) 0).trans rfl
    refine ⟨_, rfl, ?_⟩
    refine hK.out _ _ hc7 (fun hHeld => ?_)
    clear hK K
    refine norm_ (a' := ?_) ?_ ?_
    rotate_left
    next =>
     show Act.put _ (some 49) _ = _
     simp only [Act.put, yay, yby, ycy, i64_w, i32_w]
     rfl
    generalize hvx : idxL [r0, r1, r2, 3] = vx at *
    refine one_ (i := 9) (N := some 50) #[true, true, true, true, true, true, true, true, true, true, false, false] rfl rfl (by kernel_rfl) (by decide) (fun K hK => ?_)
    refine goes_ Try.func107 (by kernel_rfl) rfl #[.int .i64 vx] (by rfl) rfl rfl (by (try simp only [yiy, yjy, yky]); first | done | rfl) ?_
    refine (impl_signOf.calls vx (sgnP vx) _ (if_pos hix)).mono ?_
    rintro e w8 ⟨rfl, hb8⟩
    have hb28 := below_step hb27 hb8
    have hc8 : w8.cell? ⟨gs, 0, none⟩ = _ := (blk_cell (blk_below HM2.out hb28) 0).trans rfl
    refine ⟨_, rfl, ?_⟩
    refine hK.out _ _ hc8 (fun hHeld => ?_)
    clear hK K
    refine norm_ (a' := ?_) ?_ ?_
    rotate_left
    next =>
     show Act.put _ (some 50) _ = _
     simp only [Act.put, yay, yby, ycy, i64_w, i32_w]
     rfl
    have hsn : s.length = n := HI.out.len
    have hx0 : 0 ≤ 4 * f0 + d := by omega
    have hx1 : 4 * f0 + d < (s.length : Int) := by omega
    have hxn : 4 * f0 + d < (n : Int) := by omega
    refine pure_ (i := 10) (N := some 51) (v := ?_) (a' := ?_) #[true, true, true, true, true, true, true, true, true, true, true, false] rfl rfl (by kernel_rfl) (fun _ _ _ h => h) (Or.inl ⟨by rfl, ?_⟩) ?_ ?_
    rotate_left
    next =>
     intro w'
     go_simp
     with_reducible rfl
    rotate_left
    next =>
     simp only [Act.put, yay, yby, ycy, i64_w, i32_w]
     rfl
    have hI8 := HI2.out.stays hb28
    have hRv := Kd.R_below (Kd.R_below hE HB2.out) hb28
    have hcv := (Kd.R_celln 0 hRv (4 * f0 + d) hx0 hx1).1
    have hfv := (Kd.R_celln 0 hRv (4 * f0 + d) hx0 hx1).2
    refine last_ (i := 11) (N := none) #[true, true, true, true, true, true, true, true, true, true, true, true] rfl rfl (by kernel_rfl) (by decide) (fun K hK => ?_)
    refine skip_ (w1 := ?_) (by rfl) rfl ?_ ?_
    rotate_left
    next =>
     go_simp
     rfl
    refine hK.out _ _ ?_
    clear hK K
    refine done_ (by kernel_rfl) ?_
    go_end0
    refine ⟨rfl, ?_⟩
    have hne : gs ≠ gv := fun e => by
     have h := HM0.out
     rw [e, hgv3] at h
     exact absurd h (by simp)
    have e : fSt s j f ⟨f0, f1⟩ = s.set (4 * f0 + d).toNat (sgnP vx) := by
     have h1 : 4 * f0 + rd (permL f1) (f : Int) > 4 * (j : Int) + (f : Int) := by
      rw [HPL.out, hde]
      omega
     have h2 : sgR (fstgt f1 (f : Int)) = sgnP vx := by
      show sgnP (idxL (rkL (fstgt f1 (f : Int)) ++ [3])) = _
      rw [HT.out, hrk]
      exact congrArg sgnP hvx
     refine (if_pos h1).trans ?_
     show s.set (4 * f0 + rd (permL f1) (f : Int)).toNat (sgR (fstgt f1 (f : Int))) = _
     rw [h2, HPL.out, hde]
    rw [e]
    refine ⟨hI8.below.setCell (p := ⟨gv, (4 * f0 + d).toNat, none⟩) hgv1 _, ⟨_, (Below.heap_setCell w8 ⟨gv, (4 * f0 + d).toNat, none⟩ _ gs hne).trans (blk_below HM2.out hb28), ?_⟩, HI.out.own, ?_⟩
    next =>
     exact Kd.R_putn hRv (4 * f0 + d) (sgnP vx)
    next =>
     rw [List.length_set]; exact hsn
/-- The triangulations at which every call of the walk answers. -/
def fsOk (l : List (List SFace)) : Prop := l.length ≤ 8 ∧ ∀ r ∈ l, r.length ≤ 4 ∧ ∀ x ∈ r, ¬ x.f0 < 0 → x.f0 < (l.length : Int) ∧ 0 ≤ x.f1 ∧ x.f1 ≤ 23
instance (l : List (List SFace)) : Decidable (fsOk l) := by
 unfold fsOk
 exact inferInstance
def impl_Triangulation_faceSigns.f (l : List (List SFace)) : Option (List Int) := if fsOk l then some (fSAll l) else none
theorem impl_Triangulation_faceSigns.calls (A0_0 : Option Addr) (c0_0 : Nat) (l0_0 : List (List SFace)) (r : List Int) (w : World) (hr0_0 : Kd.C (Kd.slice 59 kFace) w A0_0 l0_0.length l0_0) (hc0_0 : l0_0.length ≤ c0_0) (h : impl_Triangulation_faceSigns.f l0_0 = some r) :
 Calls Try.prog 60 #[.agg #[.slice A0_0 l0_0.length c0_0]] w fun e w' => ∃ v0_ : Value, e = .returned (v0_) ∧ Kd.R (Kd.int .i64) 2 w' w.heap.size (fun _ => True) v0_ r ∧ Below w.heap.size w w' := by
 unfold impl_Triangulation_faceSigns.f at h
 by_cases hok : fsOk l0_0
 case neg => rw [if_neg hok] at h; cases h
 rw [if_pos hok] at h
 have hr := yey h
 subst hr
 refine impl_Triangulation_faceSigns.callsOf A0_0 c0_0 l0_0 w hr0_0 hc0_0 hok.1 (fun r hr x hx hb => (hok.2 r hr).2 x hx hb |>.2) ?_
 intro w0 gs s W j f x hI hF hb
 obtain ⟨h1, h2, rfl⟩ := hF
 have q := (hok.2 _ (List.getElem_mem h1)).1
 have q3 := (hok.2 _ (List.getElem_mem h1)).2 _ (List.getElem_mem h2) hb
 have q8 := hok.1
 have e : (#[.int .i64 (j : Int), .int .i64 (f : Int), .agg #[.int .i64 l0_0[j][f].f0, .int .i64 l0_0[j][f].f1], .agg #[.int .i64 (permAt l0_0[j][f].f1 0), .int .i64 (permAt l0_0[j][f].f1 1), .int .i64 (permAt l0_0[j][f].f1 2), .int .i64 (permAt l0_0[j][f].f1 3)]] ++ #[.pointer (some ⟨gs, 0, none⟩)] : Array Value) = #[.int .i64 (j : Int), .int .i64 (f : Int), .agg #[.int .i64 l0_0[j][f].f0, .int .i64 l0_0[j][f].f1], .agg #[.int .i64 (permAt l0_0[j][f].f1 0), .int .i64 (permAt l0_0[j][f].f1 1), .int .i64 (permAt l0_0[j][f].f1 2), .int .i64 (permAt l0_0[j][f].f1 3)], .pointer (some ⟨gs, 0, none⟩)] := rfl
 rw [e]
 exact impl_faceSigns_1.calls w0 W gs (4 * l0_0.length) s j f l0_0[j][f].f0 l0_0[j][f].f1 hI (by omega) (by omega) (by omega) (by omega) q3.2.1 q3.2.2 (by omega)
/-! slices.Chunk at []int64: a list that is as long as some chunks of a length, taken apart. -/
/-- Part i of a list: m elements behind o of a chunk of c. -/
def chPart (c o m : Nat) (l : List Int) (i : Nat) : List Int := (l.drop (i * c + o)).take m
theorem C_part {α : Type} {d : Kd α} {w : World} {ad : Addr} {xs : List α} (h : d.C w (some ad) xs.length xs) (a m : Nat) (hm : a + m ≤ xs.length) : d.C w (some (ad.add (a * d.sz))) ((xs.drop a).take m).length ((xs.drop a).take m) := by
  obtain ⟨_, h2, h3⟩ := h
  have hl : ((xs.drop a).take m).length = m := by rw [ymy, yly]; omega
  refine ⟨rfl, by omega, fun hn => ⟨_, rfl, fun j p hj => ?_⟩⟩
  obtain ⟨ad', e, h4⟩ := h3 (by omega)
  injection e with e; subst e
  have hjm : j < m := by
    have := (List.getElem?_eq_some_iff.1 hj).1; omega
  have hp : xs[a + j]? = some p := by
    rw [List.getElem?_take_of_lt hjm, List.getElem?_drop] at hj; exact hj
  obtain ⟨c, hc, hK, hcell⟩ := h4 (a + j) p hp
  refine ⟨c, hc, hK, fun i u hu => ?_⟩
  have := hcell i u hu
  rw [Addr.add_add, ← Nat.add_assoc, ← Nat.add_mul]
  exact this
section
attribute [local go_sem] Oper.semAt_some
/-- The numbers of the first k chunks. -/
def chUp (N : Nat) (k : Nat) : List (Fin N) := (List.finRange N).take k
theorem chUp_succ {N k : Nat} (h : k < N) : chUp N (k + 1) = chUp N k ++ [⟨k, h⟩] := by
  unfold chUp
  rw [List.take_succ_eq_append_getElem (by simpa using h)]
  simp
theorem chUp_all (N : Nat) : chUp N N = List.finRange N := by unfold chUp; rw [List.take_of_length_le (by simp)]
theorem chUp_length {N k : Nat} (h : k ≤ N) : (chUp N k).length = k := by unfold chUp; simp; omega
/-- What a chunk is handed as. -/
def chEnc (ad : Addr) (c : Nat) {N : Nat} (x : Fin N) : Array Value := #[.slice (some (ad.add (x.val * c))) c c]
/-- The iterator's two boxes are as they were. -/
def KpBox (Bs Bn : Nat) (A B : World) : Prop := B.cell? ⟨Bs, 0, none⟩ = A.cell? ⟨Bs, 0, none⟩ ∧ B.cell? ⟨Bn, 0, none⟩ = A.cell? ⟨Bn, 0, none⟩
theorem KpBox.refl {Bs Bn : Nat} (A : World) : KpBox Bs Bn A A := ⟨rfl, rfl⟩
theorem KpBox.trans {Bs Bn : Nat} {A B C : World} (h : KpBox Bs Bn A B) (g : KpBox Bs Bn B C) : KpBox Bs Bn A C := ⟨g.1.trans h.1, g.2.trans h.2⟩
theorem KpBox.put {Bs Bn n : Nat} (h1 : Bs < n) (h2 : Bn < n) (W : World) (l : Nat) (o o' : Obj) (hl : n ≤ l) (_ : W.heap[l]? = some o) (_ : o.isCells = false) (_ : o.isWalk = false) : KpBox Bs Bn W (W.putObj l o') := by
  refine ⟨?_, ?_⟩ <;> (simp only [World.cell?, World.putObj]; rw [Array.getElem?_setIfInBounds_ne (by omega)])
set_option maxHeartbeats 8000000 in
set_option maxRecDepth 100000 in
theorem slices_Chunk_1.calls (F : Fence) (n : Nat) (hF : F.fn 134) (hro : F.round = none) (hn : 1 ≤ n) (l Bs Bn c N cap : Nat) (A : Option Addr) (ad : Addr) (hA : 0 < N → A = some ad) (hc0 : 0 < c) (hc1 : c ≤ 1000) (hN : N ≤ 1000000000) (hcap : N * c ≤ cap) (J Jx : List (Fin N) → World → Prop)
    (hD : ∀ pre W1, J pre W1 → J pre W1.drew)
    (hY : ∀ pre x W, J pre W → pre.length < N → YieldAt F (n - 1) Try.prog l (chEnc ad c x) W fun e W' => (e = .returned (.bool true) ∧ J (pre ++ [x]) W' ∧ KpBox Bs Bn W W') ∨ (e = .returned (.bool false) ∧ Jx (pre ++ [x]) W'))
    (W : World) (hBs : W.cell? ⟨Bs, 0, none⟩ = some (.slice A (N * c) cap)) (hBn : W.cell? ⟨Bn, 0, none⟩ = some (.int .i64 (c : Int))) (h0 : J [] W) :
    CallsIn F n Try.prog 134 #[.func (.yield l) #[] #[], .pointer (some ⟨Bs, 0, none⟩), .pointer (some ⟨Bn, 0, none⟩)] W fun e W' => (∃ v, e = .returned v) ∧
      ((∃ ys, ys = List.finRange N ∧ J ys W') ∨ (∃ pre, (∃ k, k ≤ N ∧ pre = chUp N k) ∧ Jx pre W')) := by
  obtain ⟨Ffn, Fdepth, Falive, Fround⟩ := F
  obtain rfl : Fround = none := hro
  refine callsIn_of_wp Try.func134 rfl hF ?_ rfl
  simp only [Try.ntmps134, List.size_toArray, List.length_cons, List.length_nil, Nat.reduceAdd, Nat.reduceSub, Array.replicate_succ, Array.replicate_zero, List.push_toArray, List.append_toArray, List.nil_append, List.cons_append]
  have HY := Aside0.mk hY
  clear hY
  have hNc : N * c ≤ 1000000000 * 1000 := Nat.mul_le_mul hN hc1
  gi_wp2
  gi_loopw [4] (fun i wr => ∃ k : Nat, k ≤ N ∧ i = .int .i64 ((k * c : Nat) : Int) ∧ Aside0 (J (chUp N k) wr) ∧ KpBox Bs Bn W wr) (fun i _ => N * c - (intOf i).toNat)
  case atStart => exact ⟨0, Nat.zero_le _, by simp, ⟨h0⟩, KpBox.refl _⟩
  case round =>
    obtain ⟨k, hk, rfl, hJ, hB⟩ := hrel
    have hs := hB.1.trans hBs
    have hn2 := hB.2.trans hBn
    by_cases hlt : k < N
    · obtain rfl : A = some ad := hA (by omega)
      have h1 : k * c + c ≤ N * c := by have := Nat.mul_le_mul_right c (show k + 1 ≤ N by omega); rw [Nat.succ_mul] at this; exact this
      obtain ⟨fn, tmps, assign, body, hy, hR⟩ := HY.out _ ⟨k, hlt⟩ wr.drew (hD _ _ hJ.out) (by rw [chUp_length hk]; exact hlt)
      unfold chEnc at hy
      dsimp only at hy
      have hnext : k * c + c = (k + 1) * c := (Nat.succ_mul k c).symm
      have HNX := Aside0.mk hnext
      clear hnext
      generalize hkc : k * c = p at *
      have HKC := Aside0.mk hkc
      clear hkc
      generalize hnc : N * c = m at *
      gi_wp2
      gi_region
      gi_wp2
      refine hR.mono ?_
      rintro e W3 (⟨rfl, hJ3, hk3⟩ | ⟨rfl, hJx3⟩)
      · have hn3 : W3.cell? ⟨Bn, 0, none⟩ = _ := hk3.2.trans hn2
        gi_wp2
        go_roundw
        case rel => exact ⟨k + 1, by omega, by rw [← HNX.out]; push_cast; rfl, ⟨by rw [chUp_succ hlt]; exact hJ3⟩, hB.trans ⟨hk3.1, hk3.2⟩⟩
        case measure => simp [intOf]; omega
      · gi_wp2
        refine bodyPost_ret (results_none rfl _ _ _) rfl ?_
        exact ⟨⟨_, rfl⟩, .inr ⟨_, ⟨k + 1, by omega, (chUp_succ hlt).symm⟩, hJx3⟩⟩
    · obtain rfl : k = N := by omega
      gi_wp2
      go_end0
      exact ⟨⟨_, rfl⟩, .inl ⟨_, rfl, by rw [← chUp_all]; exact hJ.out⟩⟩
set_option maxHeartbeats 2000000 in
/-- slices.Chunk: the list and the length are put into boxes, which the iterator captures. -/
theorem slices_Chunk.calls (F : Fence) (n : Nat) (hF : F.fn 101) (hro : F.round = none) (A : Option Addr) (len cap c : Nat) (hc : 1 ≤ c) (w : World) :
    CallsIn F n Try.prog 101 #[.slice A len cap, .int .i64 (c : Int)] w fun e w' => e = .returned (.func (.func 134) #[] #[.pointer (some ⟨w.heap.size, 0, none⟩), .pointer (some ⟨w.heap.size + 1, 0, none⟩)]) ∧ w' = (w.alloc (.cells #[.slice A len cap] 44)).alloc (.cells #[.int .i64 (c : Int)] 3) := by
  refine callsIn_of_wp Try.func101 rfl hF ?_ hro
  simp only [Try.ntmps101, List.size_toArray, List.length_cons, List.length_nil, Nat.reduceAdd, Nat.reduceSub, Array.replicate_succ, Array.replicate_zero, List.push_toArray, List.append_toArray, List.nil_append, List.cons_append]
  have hcz : ¬ (c : Int) < 1 := by omega
  gi_wp2
  go_ret
  exact ⟨rfl, rfl⟩
/-- What slices.Chunk hands back goes over all chunks, or stops behind some of them. -/
theorem slices_Chunk.stops (F : Fence) (n : Nat) (hF : F.fn 134) (hro : F.round = none) (hn : 1 ≤ n) (Bs Bn n₀ c N cap : Nat) (A : Option Addr) (ad : Addr) (hA : 0 < N → A = some ad) (hBs0 : Bs < n₀) (hBn0 : Bn < n₀) (hc0 : 0 < c) (hc1 : c ≤ 1000) (hN : N ≤ 1000000000) (hcap : N * c ≤ cap) (w : World)
    (hn₀ : n₀ ≤ w.heap.size) (hBs : w.cell? ⟨Bs, 0, none⟩ = some (.slice A (N * c) cap)) (hBn : w.cell? ⟨Bn, 0, none⟩ = some (.int .i64 (c : Int))) :
    SeqStopsK F n Try.prog 134 #[.pointer (some ⟨Bs, 0, none⟩), .pointer (some ⟨Bn, 0, none⟩)] (chEnc ad c (N := N)) (KpBox Bs Bn) (fun ys => ys = List.finRange N) (fun pre => ∃ k, k ≤ N ∧ pre = chUp N k) N w := fun l J Jx W hW hJ _ hY h0 => by
  refine slices_Chunk_1.calls F n hF hro hn l Bs Bn c N cap A ad hA hc0 hc1 hN hcap J Jx (fun pre W1 h => hJ pre W1 W1.drew none h ⟨rfl, rfl, rfl, yoy _, fun _ _ _ => rfl⟩ (fun r e => by cases e)) hY W ?_ ?_ h0
  · exact (hW.cell (p := ⟨Bs, 0, none⟩) (by show Bs < _; omega)).trans hBs
  · exact (hW.cell (p := ⟨Bn, 0, none⟩) (by show Bn < _; omega)).trans hBn
end
/-! slices.Clone at []int64: the same elements in memory of the call's own (nil stays nil). -/
def slices_Clone_Sint64.f (l0 : List Int) : Option (List Int) := if l0.length < 17592186044416 then some l0 else none
set_option maxHeartbeats 8000000 in
set_option maxRecDepth 100000 in
theorem slices_Clone_Sint64.calls (A0 : Option Addr) (c0 : Nat) (l0 : List Int) (r : List Int) (w : World) (hr0 : Kd.C (Kd.int .i64) w A0 l0.length l0) (hc0 : l0.length ≤ c0) (h : slices_Clone_Sint64.f l0 = some r) :
    Calls Try.prog 102 #[.slice A0 l0.length c0] w fun e w' => ∃ v0_ : Value, e = .returned (v0_) ∧ Kd.R (Kd.int .i64) 2 w' w.heap.size (fun _ => True) v0_ r ∧ Below w.heap.size w w' := by
  have hlt : l0.length < 17592186044416 := by
    unfold slices_Clone_Sint64.f at h
    by_cases c : l0.length < 17592186044416
    · exact c
    · rw [if_neg c] at h; exact absurd h (by simp)
  have hr : l0 = r := by
    unfold slices_Clone_Sint64.f at h
    rw [if_pos hlt] at h
    exact yey h
  clear h
  have HL := Aside0.mk hlt
  clear hlt
  subst hr
  have HR0 := Aside0.mk hr0
  have HC0 := Aside0.mk hc0
  clear hr0 hc0
  have HB := Aside0.mk (ypy w.heap.size w)
  have heq := fun (W : World) (n : Nat) => Lib.run_eql_slice_nil (P := Try.prog) W 44 2 A0 n c0 0 0 Try.underlying44
  cases A0 with
  | none =>
    have hz : l0.length = 0 := by
      rcases Nat.eq_zero_or_pos l0.length with h | h
      · exact h
      · obtain ⟨ad, h1, _⟩ := HR0.out.2.2 h
        cases h1
    have hl0 := List.eq_nil_of_length_eq_zero hz
    clear hz
    subst hl0
    simp only [Option.isNone_none] at heq
    go_enter Try.func102, Try.ntmps102
    go_wp2
    go_ret
    exact ⟨_, rfl, Kd.R_nil _ _ _ _ _, HB.out⟩
  | some ad =>
    simp only [Option.isNone_some] at heq
    go_enter Try.func102, Try.ntmps102
    go_wp2_with (first | ((with_reducible refine gate_dst (N := 5) rfl ?_); refine Kd.R_lit (Kd.int .i64) _ 2 ?hg (N := 5) ?hd (xs := ([] : List Int)) (inner := []) (ok := fun _ => True) (okp := fun _ => True) ?hr ?hp (fun _ hk => hk) trivial (ypy _ _) (yoy _) (by simp) ?_; (case hd => rfl); (case hg => rfl); (case hr => first | (go_simp; done) | (go_simp; rfl)); (case hp => exact (Reps.none _ _)); intro v102 w2 ho3 hb hg_ hnew_; clear hg_ hnew_; have n0_ := Aside0.mk (Kd.R_lower ho3 (below_size HB.out)); have n1_ := Aside0.mk (below_step HB.out hb); clear HB; have HO103 := n0_; have HB := n1_; clear n0_ n1_; clear hb ho3) | ((with_reducible refine gate_builtin (b := .append) (xs := #[.tmp 5, .tmp 6]) rfl ?_); at_builtin; refine Kd.R_append_rows (Kd.int .i64) (Rr := fun x cs => cs = [.int .i64 x]) (w0 := w) w.heap.size rfl (.tmp 5) (.tmp 6) 44 2 (.int .i64 0) 8 rfl Try.underlying44 info2 rfl (by decide) (by omega) v102 ([] : List Int) l0 (some ad) l0.length c0 (fun _ => True) (fun _ => False) rfl rfl ?aO ?aR (fun _ _ h => h) (fun _ hk => hk.elim) (fun _ _ => trivial) ?aB ?aS ?aL ?_; (case aO => exact HO103.out); (case aR => exact Kd.C_below HR0.out HB.out); (case aB => exact HB.out); (case aS => exact below_size HB.out); (case aL => have := HL.out; simp; omega); intro v106 w8 ho hb hg hat; rw [List.nil_append] at ho; have n0_ := Aside0.mk hb; have n1_ := Aside0.mk ho; clear HB; have HB := n0_; have HO107 := n1_; clear n0_ n1_; clear ho hb hg hat))
    go_ret
    exact ⟨_, rfl, HO107.out, HB.out⟩
/-! chunks at the length 4: the copies of a row's parts. -/
section
theorem app_rows_run {w : World} {base : Nat} {v vc : Value} {xs : List (List Int)} {p : List Int} {ok okp : Nat → Prop} (HO : Kd.S (Kd.slice 2 (Kd.int .i64)) 44 w base (fun k => ok k ∧ ¬ okp k) v xs) (hp : Kd.R (Kd.int .i64) 2 w base okp vc p) (hokp : ∀ k, okp k → ok k ∧ some k ≠ v.ownBlock) (hfresh : ∀ k, w.heap.size ≤ k → ok k) (hb : base ≤ w.heap.size) (hl : xs.length + 1 ≤ 100000000000) (ty : TypeId) :
 ∃ v1 w1, (Builtin.append_ #[38, 38] ty #[v, .slice (some ⟨w.heap.size, 0, none⟩) 1 1]).run Try.prog (w.alloc (.cells #[vc] 44)) = .ok v1 w1 ∧ Kd.S (Kd.slice 2 (Kd.int .i64)) 44 w1 base ok v1 (xs ++ [p]) ∧ w.grownBy w1 v.ownBlock := by
 obtain ⟨f, hf, hR⟩ := Kd.S_tag HO xs.length okp (fun _ hk h2 => h2.2 hk)
 obtain ⟨h0, inner, hown, hr⟩ := Kd.R_mono hR (ok' := ok) (fun _ hk => hk.1)
 have hM : (Kd.slice 2 (Kd.int .i64)).M w base okp p [vc] := Kd.M_row hp
 have hone : ∀ u ∈ [vc], u.oneCell' = true := Kd.K_one _ (Kd.K_of_M _ hM)
 obtain ⟨i0, hi, hzz⟩ := Option.map_eq_some_iff.1 info44
 simp only [Prod.mk.injEq] at hzz
 obtain ⟨hz0, hz1, hz2⟩ := hzz
 have hzl : xs.zipIdx.length = xs.length := by rw [List.length_zipIdx]
 obtain ⟨v1, w1, hrun, h2, h3, _, h5⟩ := run_append_own_at (P := Try.prog) (w.alloc (.cells [vc].toArray 44)) base 38 ty 44 i0 (.slice none 0 0) 1 24 Try.underlying38 hi hz0 hz1 hz2 rfl (by omega) v xs.zipIdx.length inner (hown.alloc _) ⟨w.heap.size, 0, none⟩ 1 1 [vc] (by simp)
  (by simpa using World.news_of_block (cs := [vc].toArray) (t := 44) (fr := (0, 0)) (heap_alloc_new w (.cells [vc].toArray 44))) hone (by simp only [maxLen]; omega) (by omega) (by simp; omega)
 have hg : w.grownBy w1 v.ownBlock := World.grownBy.trans (World.grownBy_alloc w _ _) h3
 refine ⟨v1, w1, hrun, ?_, hg⟩
 have h6 := Kd.R_appended (d := Kd.tag f (Kd.slice 2 (Kd.int .i64))) (p := (p, xs.length)) (cs := [vc]) h0 hr (okp := okp) ((Kd.slice 2 (Kd.int .i64)).M_mono (fun k hk => ⟨hk, hf k hk⟩) hM) hokp hfresh h2 hg (by
  rcases h5 with h | h
  next =>
   exact .inl h
  next =>
   exact .inr ⟨_, h, by simp⟩)
 rw [← Kd.zip_snoc] at h6
 exact ⟨f, h6⟩
/-- A call in a region that draws its order, behind a fence. -/
theorem goesIn_ {F : Fence} {n : Nat} {P : Program} {ops : Array Oper} {oi : Oper} {N : Option Tmp} {a : Act} {w : World} {K : Act → World → Prop} {Q : Exit → Act → World → Prop} {f : FuncId} {fn : Func} {as_ : Array Operand} {ts : Array TypeId} (hf : P.funcs[f]? = some fn) (hname : (fn.name == "runtime.NumGoroutine") = false) (hb : fn.body.isSome = true) (hF : ∀ g, oi.about P w a.eval = some g → F.fn g) (hd : F.depth.isSome = true → 1 ≤ n) (args : Array Value)
 (hw : Region.wanted oi (yielded ops a.tmps) = true) (hN : oi.dst = N) (hop : oi.op = .call { callee := .value (.func f), args := as_, argTypes := ts }) (hargs : as_.map a.eval = args)
 (h : CallsIn F (n - 1) P f args w fun e w' => ∃ v, e = .returned v ∧ K (a.put N v) w') : if Region.wanted oi (yielded ops a.tmps) then Oper.wpIn F n P oi a w K Q else ((∀ f, oi.about P w a.eval = some f → F.fn f) ∧ K (a.put N undef) w) := by
 rw [if_pos hw]
 subst hN
 refine ⟨hF, ?_⟩
 have he := enters_ hf hname hb args w
 have hrun : (execOp a.eval oi).run P w = .ok (.enter f args) w := by
  unfold execOp
  simp [hop, resolve, Deferred.ofValue, invoke, Act.eval, hargs, he]
 rw [Oper.semAt_plain F _ oi (fun c e => by rw [hop] at e; cases e), hrun, Oper.uponIn_enter]
 refine ⟨hd, h.mono fun e w'' hh => ?_⟩
 obtain ⟨v, rfl, hk⟩ := hh
 exact hk
/-- An append in a region that draws its order, behind a fence. -/
theorem app_stepIn {F : Fence} {n : Nat} {P : Program} {ops : Array Oper} {o : Oper} {a : Act} {Q : Exit → Act → World → Prop} {K : Act → World → Prop} {w w1 : World} {v1 v u : Value} (s x : Operand) (t : TypeId) (hw : Region.wanted o (yielded ops a.tmps) = true) (ho : o.op = .call { callee := .builtin .append, args := #[s, x], argTypes := #[t, t] }) (hs : a.eval s = v) (hx : a.eval x = u)
 (hrun : (Builtin.append_ #[t, t] o.type #[v, u]).run P w = .ok v1 w1) (h : K (a.put o.dst v1) w1) : if Region.wanted o (yielded ops a.tmps) then Oper.wpIn F n P o a w K Q else ((∀ f, o.about P w a.eval = some f → F.fn f) ∧ K (a.put o.dst undef) w) := by
 rw [if_pos hw]
 have he : (execOp a.eval o).run P w = .ok (.value v1) w1 := by simp [execOp, ho, resolve, invoke, builtin, hs, hx, hrun, Result.andThen]
 refine ⟨fun f hf => ?_, ?_⟩
 next =>
  exfalso
  simp [Oper.about, ho, resolve, Target.leads] at hf
 next =>
  rw [Oper.semAt_plain F _ o (fun c e => by rw [ho] at e; cases e), he]
  exact h
/-- The copies of some chunks. -/
def chOf {N : Nat} (l : List Int) (pre : List (Fin N)) : List (List Int) := pre.map fun x => chPart 4 0 4 l x.val
theorem chOf_snoc {N : Nat} (l : List Int) (pre : List (Fin N)) (x : Fin N) : chOf l (pre ++ [x]) = chOf l pre ++ [chPart 4 0 4 l x.val] := by simp [chOf]
theorem chOf_len {N : Nat} (l : List Int) (pre : List (Fin N)) : (chOf l pre).length = pre.length := by simp [chOf]
attribute [local go_sem] Oper.semAt_some
set_option maxRecDepth 100000 in
set_option maxHeartbeats 8000000 in
theorem impl_chunks.callsN (N : Nat) (ad : Addr) (A0 : Option Addr) (c0 : Nat) (l0 : List Int) (w : World) (hA : 0 < N → A0 = some ad) (hN : N ≤ 1000000000) (hr0 : Kd.C (Kd.int .i64) w A0 (N * 4) l0) (hc0 : N * 4 ≤ c0) :
 CallsIn Fence.wide 3 Try.prog 59 #[.slice A0 (N * 4) c0, .int .i64 4] w fun e w' => ∃ v0_ : Value, e = .returned v0_ ∧ Kd.S (Kd.slice 2 (Kd.int .i64)) 44 w' w.heap.size (fun _ => True) v0_ (chOf l0 (List.finRange N)) ∧ Below w.heap.size w w' := by
 have HR := Aside0.mk hr0
 have hr00 : N * 4 ≤ 1000000000 * 4 := Nat.mul_le_mul_right 4 hN
 clear hr0
 refine callsIn_of_wp_marks Try.func59 rfl trivial ?_ rfl
 simp only [Try.ntmps59, List.size_toArray, List.length_cons, List.length_nil, Nat.reduceAdd, Nat.reduceSub, Array.replicate_succ, Array.replicate_zero, List.push_toArray, List.append_toArray, List.nil_append, List.cons_append]
 gi_wp2_with (refine ⟨trivial, ?_⟩; gi_at_call 101; refine (slices_Chunk.calls Fence.wide 2 trivial rfl _ _ _ 4 (by omega) _).mono ?_; rintro e w' ⟨rfl, rfl⟩)
 have bR := Boxed.new w 38 (.slice none 0 0)
 have bS := Boxed.new (w.alloc (.cells #[.slice none 0 0] 38)) 44 (.slice A0 (N * 4) c0)
 have bN := Boxed.new ((w.alloc (.cells #[.slice none 0 0] 38)).alloc (.cells #[.slice A0 (N * 4) c0] 44)) 3 (.int .i64 4)
 rw [World.size_alloc] at bS
 rw [World.size_alloc, World.size_alloc] at bN
 have hcR := ((bR.alloc (.cells #[.slice A0 (N * 4) c0] 44)).alloc (.cells #[.int .i64 4] 3)).cell
 have hfR := ((bR.alloc (.cells #[.slice A0 (N * 4) c0] 44)).alloc (.cells #[.int .i64 4] 3)).frozen
 have hcS := (bS.alloc (.cells #[.int .i64 4] 3)).cell
 have hcN := bN.cell
 have hs3 : (((w.alloc (.cells #[.slice none 0 0] 38)).alloc (.cells #[.slice A0 (N * 4) c0] 44)).alloc (.cells #[.int .i64 4] 3)).heap.size = w.heap.size + 3 := by simp [World.size_alloc]
 have hB0 : Below w.heap.size w (((w.alloc (.cells #[.slice none 0 0] 38)).alloc (.cells #[.slice A0 (N * 4) c0] 44)).alloc (.cells #[.int .i64 4] 3)) := below_alloc (below_alloc (below_alloc (ypy _ _) _) _) _
 clear bR bS bN
 generalize ((w.alloc (.cells #[.slice none 0 0] 38)).alloc (.cells #[.slice A0 (N * 4) c0] 44)).alloc (.cells #[.int .i64 4] 3) = w3 at *
 have hown : OwnFrom w3.heap.size (fun (pre : List (Fin N)) W => (∃ v, W.cell? ⟨w.heap.size, 0, none⟩ = some v ∧ W.frozen? ⟨w.heap.size, 0, none⟩ = false ∧ Kd.S (Kd.slice 2 (Kd.int .i64)) 44 W (w.heap.size + 3) (fun _ => True) v (chOf l0 pre)) ∧ Below w.heap.size w3 W) := by
  refine OwnFrom.and ?_ (ownFrom_below (by omega) (by omega))
  rintro s W W' row ⟨v, hc, hf, hv⟩ hg hr
  refine ⟨v, cell_kept hc hg (fun r e => (hr r e).2), (frozen_kept hc hg (fun r e => (hr r e).2)).trans hf, Kd.S_mono (Kd.S_grown (Kd.S_bound hv) hg (fun k hk e => ?_)) (fun _ _ => trivial)⟩
  obtain ⟨_, _, _, q, _, cells, hcl⟩ := hk
  obtain ⟨_, o, ho, hoc⟩ := hr k e.symm
  rw [hcl] at ho
  cases ho
  simp [Obj.isCells] at hoc
 refine wpIn_rangeFunc_ownG (F := Fence.wide) (n := 3) rfl (by omega) (gf := 134) (lb := #[.pointer (some ⟨w.heap.size + 1, 0, none⟩), .pointer (some ⟨w.heap.size + 1 + 1, 0, none⟩)]) rfl trivial (enters_of Try.func134 (by kernel_rfl) rfl)
  (slices_Chunk.stops Fence.wide 2 trivial rfl (by omega) (w.heap.size + 1) (w.heap.size + 1 + 1) (w.heap.size + 3) 4 N c0 A0 ad hA (by omega) (by omega) (by omega) (by omega) hN hc0 w3 (by omega) hcS hcN)
  (fun h k => h.trans k) (KpBox.put (n := w3.heap.size) (by omega) (by omega)) (ypy _ _) (fun _ => rfl)
  (fun pre W => (∃ v, W.cell? ⟨w.heap.size, 0, none⟩ = some v ∧ W.frozen? ⟨w.heap.size, 0, none⟩ = false ∧ Kd.S (Kd.slice 2 (Kd.int .i64)) 44 W (w.heap.size + 3) (fun _ => True) v (chOf l0 pre)) ∧ Below w.heap.size w3 W)
  (fun _ _ _ => False)
  hown (fun _ _ _ _ _ hs _ _ => hs)
  ⟨⟨_, hcR, hfR, Kd.S_nil _ _ _ _ _⟩, ypy _ _⟩
  (fun x => { tmps := #[.slice A0 (N * 4) c0, .int .i64 4, undef, undef, .slice none 0 0, .pointer (some ⟨w.heap.size, 0, none⟩), .slice (some (ad.add (x.val * 4))) 4 4, .slice A0 (N * 4) c0, .int .i64 4, .func (.func 134) #[] #[.pointer (some ⟨w.heap.size + 1, 0, none⟩), .pointer (some ⟨w.heap.size + 1 + 1, 0, none⟩)], .slice (some (ad.add (x.val * 4))) 4 4, undef, undef, undef, undef, undef, undef], defers := [] }) ?assign ?body ?done ?stop
 case assign =>
  intro l x W K hK
  unfold chEnc
  gi_wp2
  exact hK
 case body =>
  rintro l pre x W ⟨⟨v, hcr, hfr, hv⟩, hB⟩ hpl
  have hx := x.isLt
  have hx4 : x.val * 4 + 4 ≤ N * 4 := by omega
  obtain rfl : A0 = some ad := hA (by omega)
  have hll := HR.out.1
  have hC : Kd.C (Kd.int .i64) W.drew (some (ad.add (x.val * 4 * 1))) ((l0.drop (x.val * 4)).take 4).length ((l0.drop (x.val * 4)).take 4) := C_part (d := Kd.int .i64) (by rw [hll]; exact Kd.C_below HR.out (hB0.trans hB).drew) _ 4 (by omega)
  have hl4 : (chPart 4 0 4 l0 x.val).length = 4 := by unfold chPart; rw [ymy, yly, hll]; omega
  have hC2 : Kd.C (Kd.int .i64) W.drew (some (ad.add (x.val * 4))) (chPart 4 0 4 l0 x.val).length (chPart 4 0 4 l0 x.val) := by rw [Nat.mul_one] at hC; exact hC
  have HS := slices_Clone_Sint64.calls (some (ad.add (x.val * 4))) 4 (chPart 4 0 4 l0 x.val) (chPart 4 0 4 l0 x.val) W.drew hC2 (by omega) (if_pos (by omega))
  rw [hl4] at HS
  have HS2 := Aside0.mk HS
  have HL4 := Aside0.mk hl4
  clear HS hC hC2 hl4 hll
  have hql := chOf_len l0 pre
  have hsz := hB.size
  have hcw : W.drew.cell? ⟨w.heap.size, 0, none⟩ = some v := hcr
  have HEND : Aside0 (∀ (w4 : World) (vc : Value), Kd.R (Kd.int .i64) 2 w4 W.drew.heap.size (fun _ => True) vc (chPart 4 0 4 l0 x.val) → Below W.drew.heap.size W.drew w4 → ∃ (A1 : Option Addr) (m1 c1 : Nat) (w1 : World), (Builtin.append_ #[38, 38] 38 #[v, .slice (some ⟨w4.heap.size, 0, none⟩) 1 1]).run Try.prog (w4.alloc (.cells #[vc] 44)) = .ok (.slice A1 m1 c1) w1 ∧ w1.cell? ⟨w.heap.size, 0, none⟩ = some v ∧ w1.frozen? ⟨w.heap.size, 0, none⟩ = false ∧
   (KeepsFrom w3.heap.size W (w1.setCell ⟨w.heap.size, 0, none⟩ (.slice A1 m1 c1)) ∧ KpBox (w.heap.size + 1) (w.heap.size + 1 + 1) W (w1.setCell ⟨w.heap.size, 0, none⟩ (.slice A1 m1 c1)) ∧ (∃ v, (w1.setCell ⟨w.heap.size, 0, none⟩ (.slice A1 m1 c1)).cell? ⟨w.heap.size, 0, none⟩ = some v ∧ (w1.setCell ⟨w.heap.size, 0, none⟩ (.slice A1 m1 c1)).frozen? ⟨w.heap.size, 0, none⟩ = false ∧ Kd.S (Kd.slice 2 (Kd.int .i64)) 44 (w1.setCell ⟨w.heap.size, 0, none⟩ (.slice A1 m1 c1)) (w.heap.size + 3) (fun _ => True) v (chOf l0 (pre ++ [x]))) ∧ Below w.heap.size w3 (w1.setCell ⟨w.heap.size, 0, none⟩ (.slice A1 m1 c1)))) := ⟨fun w4 vc hvc hb4 => by
   have hb5 : Below W.heap.size W w4 := (ypy W.heap.size W).drew.trans hb4
   have hW3 : w.heap.size + 3 ≤ W.heap.size := by omega
   have hsz5 : W.heap.size ≤ w4.heap.size := hb5.size
   have hown4 : ∀ k, v.ownBlock = some k → k < W.heap.size := fun k e => by
    obtain ⟨cells, hc⟩ := Kd.R_typed (Kd.S_R hv) k e
    exact blk_lt hc
   have hvc2 : Kd.R (Kd.int .i64) 2 w4 (w.heap.size + 3) (fun k => W.heap.size ≤ k) vc (chPart 4 0 4 l0 x.val) := Kd.R_mono (Kd.R_lower (Kd.R_bound hvc) hW3) (fun k hk => hk.2.1)
   have hv4 : Kd.S (Kd.slice 2 (Kd.int .i64)) 44 w4 (w.heap.size + 3) (fun k => True ∧ ¬ W.heap.size ≤ k) v (chOf l0 pre) := Kd.S_mono (Kd.S_below (Kd.S_drew (Kd.S_bound hv)) hb4) (fun k hk => ⟨trivial, Nat.not_le_of_lt hk.2.2.1⟩)
   obtain ⟨sv, w1, hrun, hv1, hg⟩ := app_rows_run (ok := fun _ => True) (okp := fun k => W.heap.size ≤ k) hv4 hvc2 (fun k hk => ⟨trivial, fun e => absurd (hown4 k e.symm) (Nat.not_lt_of_le hk)⟩) (fun _ _ => trivial) (Nat.le_trans hW3 hsz5) (by rw [hql]; omega) 38
   obtain ⟨A1, c1, hve⟩ := Kd.S_slice hv1
   generalize (chOf l0 pre ++ [chPart 4 0 4 l0 x.val]).length = m1 at hve
   subst hve
   have hne : some w.heap.size ≠ v.ownBlock := fun e => by have := Kd.S_base hv _ e.symm; omega
   have hblk : ∀ k, k < W.heap.size → some k ≠ v.ownBlock → w1.heap[k]? = W.heap[k]? := fun k hk hn => (hg.block k (Nat.lt_of_lt_of_le hk hsz5) hn).trans (hb5.block k hk)
   have hcr1 : w1.cell? ⟨w.heap.size, 0, none⟩ = some v := (World.cell?_of_block (w := W) (a := ⟨w.heap.size, 0, none⟩) (hblk _ (show w.heap.size < W.heap.size by omega) hne)).trans hcr
   have hfr1 : w1.frozen? ⟨w.heap.size, 0, none⟩ = false := (World.frozen?_of_block (w := W) (a := ⟨w.heap.size, 0, none⟩) (hblk _ (show w.heap.size < W.heap.size by omega) hne)).trans hfr
   refine ⟨A1, m1, c1, w1, hrun, hcr1, hfr1, ?_⟩
   generalize hsv : Value.slice A1 m1 c1 = sv at *
   have hk1 : KeepsFrom w3.heap.size W w1 := ⟨Nat.le_trans hsz5 hg.size, fun i o _ hi ho => by
    rw [hblk i (Array.getElem?_eq_some_iff.1 hi).1 (fun e => by
     obtain ⟨cells, hc⟩ := Kd.R_typed (Kd.S_R hv) i e.symm
     rw [hc] at hi
     cases hi
     simp [Obj.isCells] at ho)]
    exact hi⟩
   have hbk : ∀ k, k < w.heap.size + 3 → k ≠ w.heap.size → (w1.setCell ⟨w.heap.size, 0, none⟩ sv).heap[k]? = W.heap[k]? := fun k hk hne => (Below.heap_setCell w1 ⟨w.heap.size, 0, none⟩ sv k hne).trans (hblk k (by omega) (fun e => by have := Kd.S_base hv _ e.symm; omega))
   refine ⟨hk1.trans ((KeepsOthers.setCell _ _ _).from _), ⟨World.cell?_of_block (a := ⟨w.heap.size + 1, 0, none⟩) (hbk (w.heap.size + 1) (by omega) (by omega)), World.cell?_of_block (a := ⟨w.heap.size + 1 + 1, 0, none⟩) (hbk (w.heap.size + 1 + 1) (by omega) (by omega))⟩, ⟨sv, World.cell?_setCell_same' _ _ _ (by rw [hcr1]; rfl), by rw [World.frozen?_setCell]; exact hfr1, ?_⟩, ((hB.trans (hb5.mono (by omega))).grown hg (show w.heap.size ≤ _ by omega) (fun k e => by have := Kd.S_base hv _ e; omega)).setCell (p := ⟨w.heap.size, 0, none⟩) (yoy _) _⟩
   rw [chOf_snoc]
   exact Kd.S_mono (Kd.S_far (p := ⟨w.heap.size, 0, none⟩) (Kd.S_bound hv1) (fun k hk => by have := hk.2.1; show k ≠ w.heap.size; omega) _) (fun _ _ => trivial)⟩
  have hmx : Try.prog.follows .mixedOrders = true := by kernel_rfl
  clear hv hB hsz hql hcr hfr HR
  gi_wp2
  refine wpIn_region_any (by kernel_rfl) ?_
  change wpAnyIn _ _ _ _ _ _ _ _ _ (World.drew _)
  refine wpAnyIn_ready (rs := [0, 1]) (by kernel_rfl) (by simp) ?_
  refine AllReadyIn.cons rfl (fun K hK => ?_) (AllReadyIn.cons rfl (fun K hK => ?_) (AllReadyIn.nil))
  next =>
   go_simp
   refine hK _ _ ?_
   clear hK K
   refine wpAnyIn_ready (rs := [1]) (by kernel_rfl) (by simp) ?_
   refine AllReadyIn.cons rfl (fun K hK => ?_) (AllReadyIn.nil)
   go_simp
   refine hK _ _ ?_
   clear hK K
   refine wpAnyIn_ready (rs := [2]) (by kernel_rfl) (by simp) ?_
   refine AllReadyIn.cons rfl (fun K hK => ?_) (AllReadyIn.nil)
   refine goesIn_ Try.func102 (by kernel_rfl) rfl (fun _ _ => trivial) (by first | (intro h; cases h; done) | (intro _; omega)) #[.slice (some (ad.add (x.val * 4))) 4 4] (by rfl) rfl rfl (by first | rfl | (simp [Act.eval, Go.Addr.add]; done)) ?_
   refine (CallsIn.inRound l (callsIn_wide.2 HS2.out)).mono ?_
   rintro e w4 ⟨vc, rfl, hvc, hb4⟩
   obtain ⟨Ac, cc, hve⟩ := Kd.R_slice hvc
   rw [HL4.out] at hve
   subst hve
   refine ⟨_, rfl, ?_⟩
   refine hK _ _ ?_
   clear hK K
   have hcw4 : w4.cell? ⟨w.heap.size, 0, none⟩ = some v := (hb4.cell (yny W.drew _ hcw)).trans hcw
   have hcw5 : (w4.alloc (.cells #[.slice Ac 4 cc] 44)).cell? ⟨w.heap.size, 0, none⟩ = some v := ((below_alloc (ypy w4.heap.size w4) (.cells #[.slice Ac 4 cc] 44)).cell (yny w4 _ hcw4)).trans hcw4
   obtain ⟨A1, m1, c1, w1, hrun, hcr1, hfr1, hend⟩ := HEND.out w4 _ hvc hb4
   refine wpAnyIn_ready (rs := [3]) (by kernel_rfl) (by simp) ?_
   refine AllReadyIn.cons rfl (fun K hK => ?_) (AllReadyIn.nil)
   go_simp
   refine hK _ _ ?_
   clear hK K
   refine wpAnyIn_ready (rs := [4]) (by kernel_rfl) (by simp) ?_
   refine AllReadyIn.cons rfl (fun K hK => ?_) (AllReadyIn.nil)
   refine app_stepIn (.tmp 11) (.tmp 14) 38 (by rfl) rfl (by rfl) (by rfl) hrun ?_
   refine hK _ _ ?_
   clear hK K
   refine wpAnyIn_ready (rs := [5]) (by kernel_rfl) (by simp) ?_
   refine AllReadyIn.cons rfl (fun K hK => ?_) (AllReadyIn.nil)
   go_simp
   refine hK _ _ ?_
   clear hK K
   refine wpAnyIn_done (by kernel_rfl) ?_ _
   gi_wp2
   exact hend
  next =>
   go_simp
   refine hK _ _ ?_
   clear hK K
   refine wpAnyIn_ready (rs := [0, 2]) (by kernel_rfl) (by simp) ?_
   refine AllReadyIn.cons rfl (fun K hK => ?_) (AllReadyIn.cons rfl (fun K hK => ?_) (AllReadyIn.nil))
   next =>
    go_simp
    refine hK _ _ ?_
    clear hK K
    refine wpAnyIn_ready (rs := [2]) (by kernel_rfl) (by simp) ?_
    refine AllReadyIn.cons rfl (fun K hK => ?_) (AllReadyIn.nil)
    refine goesIn_ Try.func102 (by kernel_rfl) rfl (fun _ _ => trivial) (by first | (intro h; cases h; done) | (intro _; omega)) #[.slice (some (ad.add (x.val * 4))) 4 4] (by rfl) rfl rfl (by first | rfl | (simp [Act.eval, Go.Addr.add]; done)) ?_
    refine (CallsIn.inRound l (callsIn_wide.2 HS2.out)).mono ?_
    rintro e w4 ⟨vc, rfl, hvc, hb4⟩
    obtain ⟨Ac, cc, hve⟩ := Kd.R_slice hvc
    rw [HL4.out] at hve
    subst hve
    refine ⟨_, rfl, ?_⟩
    refine hK _ _ ?_
    clear hK K
    have hcw4 : w4.cell? ⟨w.heap.size, 0, none⟩ = some v := (hb4.cell (yny W.drew _ hcw)).trans hcw
    have hcw5 : (w4.alloc (.cells #[.slice Ac 4 cc] 44)).cell? ⟨w.heap.size, 0, none⟩ = some v := ((below_alloc (ypy w4.heap.size w4) (.cells #[.slice Ac 4 cc] 44)).cell (yny w4 _ hcw4)).trans hcw4
    obtain ⟨A1, m1, c1, w1, hrun, hcr1, hfr1, hend⟩ := HEND.out w4 _ hvc hb4
    refine wpAnyIn_ready (rs := [3]) (by kernel_rfl) (by simp) ?_
    refine AllReadyIn.cons rfl (fun K hK => ?_) (AllReadyIn.nil)
    go_simp
    refine hK _ _ ?_
    clear hK K
    refine wpAnyIn_ready (rs := [4]) (by kernel_rfl) (by simp) ?_
    refine AllReadyIn.cons rfl (fun K hK => ?_) (AllReadyIn.nil)
    refine app_stepIn (.tmp 11) (.tmp 14) 38 (by rfl) rfl (by rfl) (by rfl) hrun ?_
    refine hK _ _ ?_
    clear hK K
    refine wpAnyIn_ready (rs := [5]) (by kernel_rfl) (by simp) ?_
    refine AllReadyIn.cons rfl (fun K hK => ?_) (AllReadyIn.nil)
    go_simp
    refine hK _ _ ?_
    clear hK K
    refine wpAnyIn_done (by kernel_rfl) ?_ _
    gi_wp2
    exact hend
   next =>
    refine goesIn_ Try.func102 (by kernel_rfl) rfl (fun _ _ => trivial) (by first | (intro h; cases h; done) | (intro _; omega)) #[.slice (some (ad.add (x.val * 4))) 4 4] (by rfl) rfl rfl (by first | rfl | (simp [Act.eval, Go.Addr.add]; done)) ?_
    refine (CallsIn.inRound l (callsIn_wide.2 HS2.out)).mono ?_
    rintro e w4 ⟨vc, rfl, hvc, hb4⟩
    obtain ⟨Ac, cc, hve⟩ := Kd.R_slice hvc
    rw [HL4.out] at hve
    subst hve
    refine ⟨_, rfl, ?_⟩
    refine hK _ _ ?_
    clear hK K
    have hcw4 : w4.cell? ⟨w.heap.size, 0, none⟩ = some v := (hb4.cell (yny W.drew _ hcw)).trans hcw
    have hcw5 : (w4.alloc (.cells #[.slice Ac 4 cc] 44)).cell? ⟨w.heap.size, 0, none⟩ = some v := ((below_alloc (ypy w4.heap.size w4) (.cells #[.slice Ac 4 cc] 44)).cell (yny w4 _ hcw4)).trans hcw4
    obtain ⟨A1, m1, c1, w1, hrun, hcr1, hfr1, hend⟩ := HEND.out w4 _ hvc hb4
    refine wpAnyIn_ready (rs := [0, 3]) (by kernel_rfl) (by simp) ?_
    refine AllReadyIn.cons rfl (fun K hK => ?_) (AllReadyIn.cons rfl (fun K hK => ?_) (AllReadyIn.nil))
    next =>
     go_simp
     refine hK _ _ ?_
     clear hK K
     refine wpAnyIn_ready (rs := [3]) (by kernel_rfl) (by simp) ?_
     refine AllReadyIn.cons rfl (fun K hK => ?_) (AllReadyIn.nil)
     go_simp
     refine hK _ _ ?_
     clear hK K
     refine wpAnyIn_ready (rs := [4]) (by kernel_rfl) (by simp) ?_
     refine AllReadyIn.cons rfl (fun K hK => ?_) (AllReadyIn.nil)
     refine app_stepIn (.tmp 11) (.tmp 14) 38 (by rfl) rfl (by rfl) (by rfl) hrun ?_
     refine hK _ _ ?_
     clear hK K
     refine wpAnyIn_ready (rs := [5]) (by kernel_rfl) (by simp) ?_
     refine AllReadyIn.cons rfl (fun K hK => ?_) (AllReadyIn.nil)
     go_simp
     refine hK _ _ ?_
     clear hK K
     refine wpAnyIn_done (by kernel_rfl) ?_ _
     gi_wp2
     exact hend
    next =>
     go_simp
     refine hK _ _ ?_
     clear hK K
     refine wpAnyIn_ready (rs := [0]) (by kernel_rfl) (by simp) ?_
     refine AllReadyIn.cons rfl (fun K hK => ?_) (AllReadyIn.nil)
     go_simp
     refine hK _ _ ?_
     clear hK K
     refine wpAnyIn_ready (rs := [4]) (by kernel_rfl) (by simp) ?_
     refine AllReadyIn.cons rfl (fun K hK => ?_) (AllReadyIn.nil)
     refine app_stepIn (.tmp 11) (.tmp 14) 38 (by rfl) rfl (by rfl) (by rfl) hrun ?_
     refine hK _ _ ?_
     clear hK K
     refine wpAnyIn_ready (rs := [5]) (by kernel_rfl) (by simp) ?_
     refine AllReadyIn.cons rfl (fun K hK => ?_) (AllReadyIn.nil)
     go_simp
     refine hK _ _ ?_
     clear hK K
     refine wpAnyIn_done (by kernel_rfl) ?_ _
     gi_wp2
     exact hend
 case done =>
  rintro D ys W hD rfl hI hK
  obtain ⟨⟨v, hcr, hfr, hv⟩, hB⟩ := id hI
  gi_wp2
  refine ⟨by simp, .inl ⟨_, _, rfl, run_takeDeferred hK, ?_⟩⟩
  refine ⟨_, results_tmp rfl _ _ _, _, rfl, Kd.S_lower (Kd.S_mono (Kd.S_grown (Kd.S_bound hv) (grownBy_putObj' W D (.deferred none)) (fun k hk e => ?_)) (fun _ _ => trivial)) (by omega), (hB0.trans hB).trans (belowK_b (w := w) (yoy _) W D _ _ (by omega) hK rfl rfl)⟩
  obtain ⟨_, _, _, q, _, cells, hcl⟩ := hk
  cases e
  rw [hK] at hcl
  cases hcl
 case stop =>
  rintro D c pre W _ _ h _
  exact h.elim
end
def impl_chunks.f (l0 : List Int) (a1 : Int) : Option (List (List Int)) := if a1 = 4 ∧ l0.length % 4 = 0 ∧ l0.length ≤ 4000000000 then some (chOf l0 (List.finRange (l0.length / 4))) else none
theorem impl_chunks.calls (A0 : Option Addr) (c0 : Nat) (l0 : List Int) (a1 : Int) (r : List (List Int)) (w : World) (hr0 : Kd.C (Kd.int .i64) w A0 l0.length l0) (hc0 : l0.length ≤ c0) (h : impl_chunks.f l0 a1 = some r) :
 Calls Try.prog 59 #[.slice A0 l0.length c0, .int .i64 a1] w fun e w' => ∃ v0_ : Value, e = .returned (v0_) ∧ Kd.S (Kd.slice 2 (Kd.int .i64)) 44 w' w.heap.size (fun _ => True) v0_ r ∧ Below w.heap.size w w' := by
 unfold impl_chunks.f at h
 by_cases hok : a1 = 4 ∧ l0.length % 4 = 0 ∧ l0.length ≤ 4000000000
 case neg => rw [if_neg hok] at h; cases h
 rw [if_pos hok] at h
 obtain ⟨rfl, hok⟩ := hok
 have hr := yey h
 subst hr
 obtain ⟨N, hN⟩ : ∃ N, l0.length = N * 4 := ⟨l0.length / 4, by omega⟩
 have hN2 : l0.length / 4 = N := by omega
 rw [hN2]
 clear h
 rw [hN] at hr0 hc0 ⊢
 obtain ⟨ad, hA⟩ : ∃ ad, 0 < N → A0 = some ad := by
  by_cases h0 : 0 < N
  rotate_left
  next =>
   exact ⟨⟨0, 0, none⟩, fun h => absurd h h0⟩
  obtain ⟨ad, e, _⟩ := hr0.2.2 (by omega)
  exact ⟨ad, fun _ => e⟩
 exact callsIn_wide.1 (impl_chunks.callsN N ad A0 c0 l0 w hA (by omega) hr0 hc0)
theorem eqA59 (d : Nat) (w : World) (x0 y0 : Int) (x1 y1 : Int) :
    (Op.equalIn (d + 2) 59 (.agg #[.int .i64 x0, .int .i64 x1]) (.agg #[.int .i64 y0, .int .i64 y1])).run Try.prog w = .ok (x0 == y0 && (x1 == y1)) w := by
  refine eqA_of Try.underlying59 (by kernel_rfl) ?_
  refine eqf_cons (by rfl) (by go_simp; rfl) (by go_simp; rfl) (by go_simp) ?_
  exact eqf_last (by rfl) (by go_simp; rfl) (by go_simp; rfl) (by go_simp)
/-! invert: the index of the inverse permutation. -/
def impl_invert.f (a0 : Int) : Option Int := if 0 ≤ a0 ∧ a0 ≤ 23 then some (invP a0) else none
set_option maxHeartbeats 8000000 in
set_option maxRecDepth 100000 in
theorem impl_invert.calls (a0 : Int) (r : Int) (w : World) (h : impl_invert.f a0 = some r) :
    Calls Try.prog 139 #[.int .i64 a0] w fun e w' => e = .returned (.int .i64 r) ∧ Below w.heap.size w w' := by
  unfold impl_invert.f at h
  by_cases hc : 0 ≤ a0 ∧ a0 ≤ 23
  case neg => rw [if_neg hc] at h; exact absurd h (by simp)
  rw [if_pos hc] at h
  have hr : invP a0 = r := yey h
  clear h
  subst hr
  obtain ⟨h0, h1⟩ := hc
  have HS := Aside0.mk (permAt_sm a0 h0 h1)
  have H0 := Aside0.mk h0
  have H1 := Aside0.mk h1
  clear h0 h1
  go_enter Try.func139, Try.ntmps139
  go_wp2_with fail
  refine (impl_perm.calls _ _ H0.out H1.out).mono ?_
  rintro e w1 ⟨rfl, hb⟩
  have B3 := Aside0.mk (blk_below (new_at4 (W := w) rfl (.cells #[.int .i64 0, .int .i64 0, .int .i64 0, .int .i64 0] 94)) hb)
  have HB := Aside0.mk (below_step (below_alloc (ypy _ _) _) hb)
  clear hb
  have HPL := Aside0.mk (show permL a0 = [permAt a0 0, permAt a0 1, permAt a0 2, permAt a0 3] from rfl)
  have HIP := Aside0.mk (show invP a0 = idxL (invList (permL a0) 4) from rfl)
  generalize permL a0 = pl at HPL HIP
  generalize permAt a0 0 = x0 at HS HPL ⊢
  generalize permAt a0 1 = x1 at HS HPL ⊢
  generalize permAt a0 2 = x2 at HS HPL ⊢
  generalize permAt a0 3 = x3 at HS HPL ⊢
  go_wp2_with fail
  go_loopg [8] 4 (fun gg v8 w' => ∃ (i : Nat) (b0 b1 b2 b3 : Int), i ≤ 4 ∧ 4 - i ≤ gg ∧ v8 = .int .i64 i ∧ Aside0 ([b0, b1, b2, b3] = invList pl i) ∧
    Aside0 (w'.heap[w.heap.size]? = some (.cells #[.int .i64 b0, .int .i64 b1, .int .i64 b2, .int .i64 b3] 94 (0, 0))) ∧ Aside0 (Below w.heap.size w w'))
  case atStart => exact ⟨0, 0, 0, 0, 0, by omega, by omega, rfl, ⟨rfl⟩, B3, HB⟩
  case round =>
    clear HB B3
    obtain ⟨i, b0, b1, b2, b3, hi, hg, rfl, HI, B3, HB⟩ := hrel
    rcases (show i = 4 ∨ i = 3 ∨ i = 2 ∨ i = 1 ∨ i = 0 by omega) with rfl | rfl | rfl | rfl | rfl
    · have c0 : wr.cell? ⟨w.heap.size, 0, none⟩ = some (.int .i64 b0) := (blk_cell B3.out 0).trans rfl
      have c1 : wr.cell? ⟨w.heap.size, 1, none⟩ = some (.int .i64 b1) := (blk_cell B3.out 1).trans rfl
      have c2 : wr.cell? ⟨w.heap.size, 2, none⟩ = some (.int .i64 b2) := (blk_cell B3.out 2).trans rfl
      have c3 : wr.cell? ⟨w.heap.size, 3, none⟩ = some (.int .i64 b3) := (blk_cell B3.out 3).trans rfl
      have ht := Try.underlying94
      go_wp2_with fail
      have hsm := invList_sm pl 4 (by omega)
      rw [← HI.out] at hsm
      refine (impl_indexOf.calls b0 b1 b2 b3 _ (hsm _ (by simp)) (hsm _ (by simp)) (hsm _ (by simp)) (hsm _ (by simp))).mono ?_
      rintro e w2 ⟨rfl, hb⟩
      have HB2 := Aside0.mk (below_step HB.out hb)
      clear hb hsm
      go_wp2
      go_ret
      exact ⟨by rw [HIP.out, ← HI.out]; rfl, HB2.out⟩
    · have ix := arr_index x0 x1 x2 x3 3 (by omega) (by omega)
      have hx : rd [x0, x1, x2, x3] 3 = x3 := rfl
      rw [hx] at ix
      have hs : sm x3 := HS.out.2.2.2
      obtain ⟨hs0, hs1⟩ := hs
      have c3 := arr_cell B3.out x3 hs0 hs1
      have f3 := blk_frozen B3.out x3.toNat
      have B3n := Aside0.mk (arr_put B3.out x3 3 hs0 hs1)
      have HN : [b0, b1, b2, b3].set x3.toNat 3 = invList pl (3 + 1) := by rw [HI.out, HPL.out]; rfl
      have hlen : ([b0, b1, b2, b3].set x3.toNat (3 : Int)).length = 4 := by simp
      have HF := Aside0.mk ((four_eq hlen).symm.trans HN)
      clear hx HN hlen
      go_wp2
      go_roundg (4 - (3 + 1))
      case measure => omega
      case rel => exact ⟨3 + 1, _, _, _, _, by omega, by omega, by first | rfl | go_num, HF, B3n, ⟨below_set HB.out (yoy _)⟩⟩
    · have ix := arr_index x0 x1 x2 x3 2 (by omega) (by omega)
      have hx : rd [x0, x1, x2, x3] 2 = x2 := rfl
      rw [hx] at ix
      have hs : sm x2 := HS.out.2.2.1
      obtain ⟨hs0, hs1⟩ := hs
      have c3 := arr_cell B3.out x2 hs0 hs1
      have f3 := blk_frozen B3.out x2.toNat
      have B3n := Aside0.mk (arr_put B3.out x2 2 hs0 hs1)
      have HN : [b0, b1, b2, b3].set x2.toNat 2 = invList pl (2 + 1) := by rw [HI.out, HPL.out]; rfl
      have hlen : ([b0, b1, b2, b3].set x2.toNat (2 : Int)).length = 4 := by simp
      have HF := Aside0.mk ((four_eq hlen).symm.trans HN)
      clear hx HN hlen
      go_wp2
      go_roundg (4 - (2 + 1))
      case measure => omega
      case rel => exact ⟨2 + 1, _, _, _, _, by omega, by omega, by first | rfl | go_num, HF, B3n, ⟨below_set HB.out (yoy _)⟩⟩
    · have ix := arr_index x0 x1 x2 x3 1 (by omega) (by omega)
      have hx : rd [x0, x1, x2, x3] 1 = x1 := rfl
      rw [hx] at ix
      have hs : sm x1 := HS.out.2.1
      obtain ⟨hs0, hs1⟩ := hs
      have c3 := arr_cell B3.out x1 hs0 hs1
      have f3 := blk_frozen B3.out x1.toNat
      have B3n := Aside0.mk (arr_put B3.out x1 1 hs0 hs1)
      have HN : [b0, b1, b2, b3].set x1.toNat 1 = invList pl (1 + 1) := by rw [HI.out, HPL.out]; rfl
      have hlen : ([b0, b1, b2, b3].set x1.toNat (1 : Int)).length = 4 := by simp
      have HF := Aside0.mk ((four_eq hlen).symm.trans HN)
      clear hx HN hlen
      go_wp2
      go_roundg (4 - (1 + 1))
      case measure => omega
      case rel => exact ⟨1 + 1, _, _, _, _, by omega, by omega, by first | rfl | go_num, HF, B3n, ⟨below_set HB.out (yoy _)⟩⟩
    · have ix := arr_index x0 x1 x2 x3 0 (by omega) (by omega)
      have hx : rd [x0, x1, x2, x3] 0 = x0 := rfl
      rw [hx] at ix
      have hs : sm x0 := HS.out.1
      obtain ⟨hs0, hs1⟩ := hs
      have c3 := arr_cell B3.out x0 hs0 hs1
      have f3 := blk_frozen B3.out x0.toNat
      have B3n := Aside0.mk (arr_put B3.out x0 0 hs0 hs1)
      have HN : [b0, b1, b2, b3].set x0.toNat 0 = invList pl (0 + 1) := by rw [HI.out, HPL.out]; rfl
      have hlen : ([b0, b1, b2, b3].set x0.toNat (0 : Int)).length = 4 := by simp
      have HF := Aside0.mk ((four_eq hlen).symm.trans HN)
      clear hx HN hlen
      go_wp2
      go_roundg (4 - (0 + 1))
      case measure => omega
      case rel => exact ⟨0 + 1, _, _, _, _, by omega, by omega, by first | rfl | go_num, HF, B3n, ⟨below_set HB.out (yoy _)⟩⟩
/-! ### impl_Face_partner: function 129 -/
def impl_Face_partner.f (a0_0 : Int) (a0_1 : Int) (a1 : Int) : Option (Int × Int) := (impl_invert.f a0_1).bind fun t103 => (some (a1, t103))
set_option maxHeartbeats 8000000 in
set_option maxRecDepth 100000 in
theorem impl_Face_partner.calls (a0_0 : Int) (a0_1 : Int) (a1 : Int) (r1 : Int) (r2 : Int) (w : World) (h : impl_Face_partner.f a0_0 a0_1 a1 = some (r1, r2)) :
    Calls Try.prog 129 #[.agg #[.int .i64 a0_0, .int .i64 a0_1], .int .i64 a1] w fun e w' => e = .returned (.agg #[.int .i64 r1, .int .i64 r2]) ∧ Below w.heap.size w w' := by
  have hu59 := Try.underlying59
  have HB := Aside0.mk (ypy w.heap.size w)
  have H : ((impl_invert.f a0_1).bind fun t103 => (some (a1, t103))) = some (r1, r2) := h
  clear h
  replace H := ydy.mp H
  obtain ⟨t103, A30, H⟩ := H
  replace H : (some (a1, t103)) = some (r1, r2) := H
  have A3 := Aside0.mk A30
  clear A30
  simp only [Option.some.injEq, Prod.mk.injEq] at H
  obtain ⟨rfl, rfl⟩ := H
  go_enter Try.func129, Try.ntmps129
  go_wp2_with (first | ((with_reducible refine gate_dst (N := 2) rfl ?_); refine box_event ?hg (N := 2) ?hd (cs := #[.int .i64 a0_0, .int .i64 a0_1]) (t := 59) ?hr ?_; (case hd => rfl); (case hg => rfl); (case hr => first | (go_simp; done) | (go_simp; rfl)); intro gb101 hg w4 hbox hb; have n0_ := Aside0.mk (below_step (by repeat (first | (with_reducible first | exact HB.out | apply below_alloc | apply pw_below_drewN | apply below_drew1) | exact HB.out)) hb); have n1_ := Aside0.mk (hbox); have n2_ := Aside0.mk ((by rw [hg]; exact (below_size (by repeat (first | (with_reducible first | exact HB.out | apply below_alloc | apply pw_below_drewN | apply below_drew1) | exact HB.out))) : w.heap.size ≤ gb101)); have n3_ := Aside0.mk ((by rw [hg]; exact (below_size (by repeat (first | (with_reducible first | exact HB.out | apply below_alloc | apply pw_below_drewN | apply below_drew1) | exact HB.out))) : w.heap.size ≤ gb101)); clear HB; have HB := n0_; have BK101 := n1_; have GW101 := n2_; have GE101 := n3_; clear n0_ n1_ n2_ n3_; clear hb hbox hg) | ((with_reducible refine gate_dst (N := 4) rfl ?_); refine box_event ?hg (N := 4) ?hd (cs := #[.int .i64 0, .int .i64 0]) (t := 59) ?hr ?_; (case hd => rfl); (case hg => rfl); (case hr => first | (go_simp; done) | (go_simp; rfl)); intro gb102 hg w5 hbox hb; have n0_ := Aside0.mk (blk_below (g := gb101) (o := .cells #[.int .i64 a0_0, .int .i64 a0_1] 59 (0, 0)) (by (with_reducible repeat (first | refine blk_drewN ?_ _ | refine blk_drew ?_ | refine blk_alloc ?_ _)); exact BK101.out) hb); have n1_ := Aside0.mk (below_step (by repeat (first | (with_reducible first | exact HB.out | apply below_alloc | apply pw_below_drewN | apply below_drew1 | refine below_set ?_ GE101.out) | exact HB.out)) hb); have n2_ := Aside0.mk (hbox); have n3_ := Aside0.mk ((by rw [hg]; exact (below_size (by repeat (first | (with_reducible first | exact HB.out | apply below_alloc | apply pw_below_drewN | apply below_drew1 | refine below_set ?_ GE101.out) | exact HB.out))) : w.heap.size ≤ gb102)); have n4_ := Aside0.mk ((by rw [hg]; exact (below_size (by repeat (first | (with_reducible first | exact HB.out | apply below_alloc | apply pw_below_drewN | apply below_drew1 | refine below_set ?_ GE101.out) | exact HB.out))) : w.heap.size ≤ gb102)); have n5_ := Aside0.mk ((by rw [hg]; exact Nat.ne_of_lt (blk_lt (g := gb101) (o := .cells #[.int .i64 a0_0, .int .i64 a0_1] 59 (0, 0)) (by (with_reducible repeat (first | refine blk_drewN ?_ _ | refine blk_drew ?_ | refine blk_alloc ?_ _)); exact BK101.out)) : gb101 ≠ gb102)); have n6_ := Aside0.mk ((by rw [hg]; exact Nat.ne_of_gt (blk_lt (g := gb101) (o := .cells #[.int .i64 a0_0, .int .i64 a0_1] 59 (0, 0)) (by (with_reducible repeat (first | refine blk_drewN ?_ _ | refine blk_drew ?_ | refine blk_alloc ?_ _)); exact BK101.out)) : gb102 ≠ gb101)); clear BK101; clear HB; have BK101 := n0_; have HB := n1_; have BK102 := n2_; have GW102 := n3_; have GE102 := n4_; have NB101_102 := n5_; have NB102_101 := n6_; clear n0_ n1_ n2_ n3_ n4_ n5_ n6_; clear hb hbox hg; have hnb6 := NB101_102.out; have hnc6 := NB102_101.out; have hcz7_0 : w5.cell? ⟨gb101, 0, none⟩ = some (.int .i64 a0_0) := (blk_cell BK101.out 0).trans rfl; have hcz7_1 : w5.cell? ⟨gb101, 1, none⟩ = some (.int .i64 a0_1) := (blk_cell BK101.out 1).trans rfl; have hfz7_0 := blk_frozen BK101.out 0; have hfz7_1 := blk_frozen BK101.out 1) | ((with_reducible refine gate_callee (f := 139) rfl ?_); refine goesL_ (some 8) rfl rfl Try.func139 (by kernel_rfl) rfl #[.int .i64 a0_1] rfl (by (try simp only [yiy, yjy, yky]); first | done | rfl | (simp only [yly, ymy]; rfl)) ?_; (with_reducible refine (impl_invert.calls a0_1 t103 _ A3.out).mono ?_); rintro e w8 ⟨rfl, hb⟩; refine ⟨_, rfl, ?_⟩; have n0_ := Aside0.mk (blk_below (g := gb101) (o := .cells #[.int .i64 a0_0, .int .i64 a0_1] 59 (0, 0)) (by (with_reducible repeat (first | refine blk_drewN ?_ _ | refine blk_drew ?_ | refine blk_alloc ?_ _)); exact BK101.out) hb); have n1_ := Aside0.mk (blk_below (g := gb102) (o := .cells #[.int .i64 0, .int .i64 0] 59 (0, 0)) (by (with_reducible repeat (first | refine blk_drewN ?_ _ | refine blk_drew ?_ | refine blk_alloc ?_ _)); exact BK102.out) hb); have n2_ := Aside0.mk (below_step (by repeat (first | (with_reducible first | exact HB.out | apply below_alloc | apply pw_below_drewN | apply below_drew1 | refine below_set ?_ GE101.out | refine below_set ?_ GE102.out) | exact HB.out)) hb); clear BK101; clear BK102; clear HB; have BK101 := n0_; have BK102 := n1_; have HB := n2_; clear n0_ n1_ n2_; (try clear hb); (try clear hb2); (try clear hk); (try clear hi); have hcz9_0 : w8.cell? ⟨gb102, 0, none⟩ = some (.int .i64 0) := (blk_cell BK102.out 0).trans rfl; have hcz9_1 : w8.cell? ⟨gb102, 1, none⟩ = some (.int .i64 0) := (blk_cell BK102.out 1).trans rfl; have hfz9_0 := blk_frozen BK102.out 0; have hfz9_1 := blk_frozen BK102.out 1))
  refine bodyPost_ret (results_cell_row rfl _ _ gb102 59 #[.int .i64 a1, .int .i64 t103] (0, 0) _ rfl (by (with_reducible repeat (first | refine blk_drewN ?_ _ | refine blk_drew ?_ | refine blk_alloc ?_ _)); refine blk_put (cs := #[.int .i64 a1, .int .i64 0]) ?_ 1 _ rfl; (with_reducible repeat (first | refine blk_drewN ?_ _ | refine blk_drew ?_ | refine blk_alloc ?_ _)); refine blk_put (cs := #[.int .i64 0, .int .i64 0]) ?_ 0 _ rfl; (with_reducible repeat (first | refine blk_drewN ?_ _ | refine blk_drew ?_ | refine blk_alloc ?_ _)); exact BK102.out) Try.underlying59 rfl (by kernel_rfl)) rfl ?_
  exact ⟨by first | rfl | (simp [errW_none, errW_some] <;> rfl) | (simp [*, errW_none, errW_some] <;> rfl), by repeat (first | (with_reducible first | exact HB.out | apply below_alloc | apply pw_below_drewN | apply below_drew1 | refine below_set ?_ GE101.out | refine below_set ?_ GE102.out) | exact HB.out)⟩
/-! Face.target: the image of a face's number. -/
def impl_Face_target.f (a0_0 : Int) (a0_1 : Int) (a1 : Int) : Option Int := if 0 ≤ a0_1 ∧ a0_1 ≤ 23 ∧ 0 ≤ a1 ∧ a1 ≤ 3 then some (rd (permL a0_1) a1) else none
set_option maxHeartbeats 800000 in
set_option maxRecDepth 100000 in
theorem impl_Face_target.calls (a0_0 : Int) (a0_1 : Int) (a1 : Int) (r : Int) (w : World) (h : impl_Face_target.f a0_0 a0_1 a1 = some r) :
    Calls Try.prog 41 #[.agg #[.int .i64 a0_0, .int .i64 a0_1], .int .i64 a1] w fun e w' => e = .returned (.int .i64 r) ∧ Below w.heap.size w w' := by
  unfold impl_Face_target.f at h
  by_cases hc : 0 ≤ a0_1 ∧ a0_1 ≤ 23 ∧ 0 ≤ a1 ∧ a1 ≤ 3
  · rw [if_pos hc] at h
    obtain ⟨h0, h1, hf0, hf1⟩ := hc
    have ix := arr_index (permAt a0_1 0) (permAt a0_1 1) (permAt a0_1 2) (permAt a0_1 3) a1 hf0 hf1
    have H0 := Aside0.mk h0
    have H1 := Aside0.mk h1
    clear h0 h1
    have hr : rd [permAt a0_1 0, permAt a0_1 1, permAt a0_1 2, permAt a0_1 3] a1 = r := yey h
    rw [hr] at ix
    clear hr h
    go_enter Try.func41, Try.ntmps41
    go_wp2_with fail
    refine (impl_perm.calls _ _ H0.out H1.out).mono ?_
    rintro e w' ⟨rfl, hb⟩
    have HB := Aside0.mk (below_step (below_alloc (ypy _ _) _) hb)
    clear hb
    go_wp2
    go_ret
    exact ⟨rfl, HB.out⟩
  · rw [if_neg hc] at h
    exact absurd h (by simp)
/-! ### impl_inRange: function 51 -/
def impl_inRange.f (a0 : Int) (a1 : Int) (a2 : Int) : Option (Bool) := if a1 ≤ a0 then (some (decide (a0 ≤ a2))) else (some false)
set_option maxHeartbeats 8000000 in
set_option maxRecDepth 100000 in
theorem impl_inRange.calls (a0 : Int) (a1 : Int) (a2 : Int) (r : Bool) (w : World) (h : impl_inRange.f a0 a1 a2 = some r) :
    Calls Try.prog 51 #[.int .i64 a0, .int .i64 a1, .int .i64 a2] w fun e w' => e = .returned (.bool r) ∧ Drawn0 w w' := by
  have H : (if a1 ≤ a0 then (some (decide (a0 ≤ a2))) else (some false)) = some r := h
  clear h
  by_cases c4 : a1 ≤ a0
  · rw [if_pos c4] at H
    have c4b0 : decide (a1 ≤ a0) = true := ygy c4
    clear c4
    obtain rfl := yey H
    go_enter Try.func51, Try.ntmps51
    go_wp2
    go_ret
    exact ⟨by first | rfl | (simp; done) | (simp [*]; done), by repeat (first | exact Drawn0.refl _ | apply Drawn0.step)⟩
  · rw [if_neg c4] at H
    have c4b0 : decide (a1 ≤ a0) = false := yhy c4
    clear c4
    obtain rfl := yey H
    go_enter Try.func51, Try.ntmps51
    go_wp2
    go_ret
    exact ⟨by first | rfl | (simp; done) | (simp [*]; done), by repeat (first | exact Drawn0.refl _ | apply Drawn0.step)⟩
/-! ### impl_size_Simpl_Face: function 46 -/
def impl_size_Simpl_Face.f (l0 : List (List (SFace))) : Option (Int) := some (l0.length : Int)
set_option maxHeartbeats 8000000 in
set_option maxRecDepth 100000 in
theorem impl_size_Simpl_Face.calls (A0 : Option Addr) (c0 : Nat) (l0 : List (List (SFace))) (r : Int) (w : World) (hr0 : Kd.C (Kd.slice 59 kFace) w A0 l0.length l0) (hc0 : l0.length ≤ c0) (h : impl_size_Simpl_Face.f l0 = some r) :
    Calls Try.prog 46 #[.slice A0 l0.length c0] w fun e w' => e = .returned (.int .i64 r) ∧ Drawn0 w w' := by
  have HR0 := Aside0.mk hr0
  have HC0 := Aside0.mk hc0
  clear hr0 hc0
  have H : (some (l0.length : Int)) = some r := h
  clear h
  obtain rfl := yey H
  go_enter Try.func46, Try.ntmps46
  go_wp2
  go_ret
  exact ⟨by first | rfl | (simp; done) | (simp [*]; done), by repeat (first | exact Drawn0.refl _ | apply Drawn0.step)⟩
/-! ### impl_hasIndex_Simpl_Face: function 132 -/
def impl_hasIndex_Simpl_Face.f (l0 : List (List (SFace))) (a1 : Int) : Option (Bool) := (impl_size_Simpl_Face.f l0).bind fun t101 => ((impl_inRange.f a1 0 (wrap64 (t101 - 1))).bind fun t102 => (some t102))
set_option maxHeartbeats 8000000 in
set_option maxRecDepth 100000 in
theorem impl_hasIndex_Simpl_Face.calls (A0 : Option Addr) (c0 : Nat) (l0 : List (List (SFace))) (a1 : Int) (r : Bool) (w : World) (hr0 : Kd.C (Kd.slice 59 kFace) w A0 l0.length l0) (hc0 : l0.length ≤ c0) (h : impl_hasIndex_Simpl_Face.f l0 a1 = some r) :
    Calls Try.prog 132 #[.slice A0 l0.length c0, .int .i64 a1] w fun e w' => e = .returned (.bool r) ∧ Drawn0 w w' := by
  have HR0 := Aside0.mk hr0
  have HC0 := Aside0.mk hc0
  clear hr0 hc0
  have H : ((impl_size_Simpl_Face.f l0).bind fun t101 => ((impl_inRange.f a1 0 (wrap64 (t101 - 1))).bind fun t102 => (some t102))) = some r := h
  clear h
  replace H := ydy.mp H
  obtain ⟨t101, A30, H⟩ := H
  replace H : ((impl_inRange.f a1 0 (wrap64 (t101 - 1))).bind fun t102 => (some t102)) = some r := H
  have A3 := Aside0.mk A30
  clear A30
  replace H := ydy.mp H
  obtain ⟨t102, A40, H⟩ := H
  replace H : (some t102) = some r := H
  have A4 := Aside0.mk A40
  clear A40
  obtain rfl := yey H
  go_enter Try.func132, Try.ntmps132
  go_wp2_with (first | ((with_reducible refine gate_callee (f := 46) rfl ?_); refine goesL_ (some 7) rfl rfl Try.func46 (by kernel_rfl) rfl #[.slice A0 l0.length c0] rfl (by (try simp only [yiy, yjy, yky]); first | done | rfl | (simp only [yly, ymy]; rfl)) ?_; (with_reducible refine (impl_size_Simpl_Face.calls _ _ l0 t101 _ ?side1 ?side2 A3.out).mono ?_); (case side1 => repeat (first | exact HR0.out | (with_reducible refine Kd.C_alloc ?_ _) | (with_reducible refine Kd.C_drewN ?_ _) | (with_reducible refine Kd.C_drew ?_))); (case side2 => exact HC0.out); rintro e w' ⟨rfl, ⟨nd, rfl⟩⟩; refine ⟨_, rfl, ?_⟩) | ((with_reducible refine gate_callee (f := 51) rfl ?_); refine goesL_ (some 9) rfl rfl Try.func51 (by kernel_rfl) rfl #[.int .i64 a1, .int .i64 0, .int .i64 (wrap64 (t101 - 1))] rfl (by (try simp only [yiy, yjy, yky]); first | done | rfl | (simp only [yly, ymy]; rfl)) ?_; (with_reducible refine (impl_inRange.calls a1 0 (wrap64 (t101 - 1)) t102 _ A4.out).mono ?_); rintro e w' ⟨rfl, ⟨nd, rfl⟩⟩; refine ⟨_, rfl, ?_⟩))
  go_ret
  exact ⟨by first | rfl | (simp; done) | (simp [*]; done), by repeat (first | exact Drawn0.refl _ | apply Drawn0.step)⟩
/-! ### impl_isPerm: function 133 -/
def impl_isPerm.f (a0 : Int) : Option (Bool) := (impl_inRange.f a0 0 23).bind fun t101 => (some t101)
set_option maxHeartbeats 8000000 in
set_option maxRecDepth 100000 in
theorem impl_isPerm.calls (a0 : Int) (r : Bool) (w : World) (h : impl_isPerm.f a0 = some r) :
    Calls Try.prog 133 #[.int .i64 a0] w fun e w' => e = .returned (.bool r) ∧ Drawn0 w w' := by
  have H : ((impl_inRange.f a0 0 23).bind fun t101 => (some t101)) = some r := h
  clear h
  replace H := ydy.mp H
  obtain ⟨t101, A20, H⟩ := H
  replace H : (some t101) = some r := H
  have A2 := Aside0.mk A20
  clear A20
  obtain rfl := yey H
  go_enter Try.func133, Try.ntmps133
  go_wp2_with (first | ((with_reducible refine gate_callee (f := 51) rfl ?_); refine goesL_ (some 4) rfl rfl Try.func51 (by kernel_rfl) rfl #[.int .i64 a0, .int .i64 0, .int .i64 23] rfl (by (try simp only [yiy, yjy, yky]); first | done | rfl | (simp only [yly, ymy]; rfl)) ?_; (with_reducible refine (impl_inRange.calls a0 0 23 t101 _ A2.out).mono ?_); rintro e w' ⟨rfl, ⟨nd, rfl⟩⟩; refine ⟨_, rfl, ?_⟩))
  go_ret
  exact ⟨by first | rfl | (simp; done) | (simp [*]; done), by repeat (first | exact Drawn0.refl _ | apply Drawn0.step)⟩
end Go.Proofs.Ytfnopcbicceeaaa.P
