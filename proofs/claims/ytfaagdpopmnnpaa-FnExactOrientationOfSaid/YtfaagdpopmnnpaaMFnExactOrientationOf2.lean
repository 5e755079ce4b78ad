/- The statement FnExactOrientationOfSaid, proved: part 2 of 7 (texts of this session and of the kit's print, put together and cut to what is used by a program of it). -/
import Derived.Test.YtfaagdpopmnnpaaMFnExactOrientationOf1
import Derived.Test.YtfaagdpopmnnpaaProg
import Derived.Below
import Derived.Deep.Draws
import Derived.Deep.AppendLies
import Derived.Maps.AppendAt
import Derived.OwnWalk
import Derived.Laws.BytesArg
import Derived.Laws.MakeOwn
import Derived.Laws.OwnMore
import Derived.Deep.OwnRows
import Derived.Tactics
import Derived.Lib.ConvBytes
import Derived.Laws.Slices
import Derived.WalkKit
import Derived.KernelRfl
import Derived.RowKit3
import Derived.Deep.LoopGhost
import Derived.Deep.QuietTactic
import Derived.BigQuiet
import Derived.WideLaws
import Derived.Deep.DeepCutAuto
import Derived.Deep.CutBlock
import Derived.Deep.RegionHeld3
import Derived.Laws.Rows
import Derived.Lib.AppendStr
import Derived.ArgAppend
import Derived.Laws.IdiomCopy
import Derived.OrdersHeld
import Derived.Laws.BitsLemmas
import Derived.RowKit
import Derived.Shelf.SlicesG.Delete
import Derived.Ground.SlgnProg
import Derived.Sort.Row
-- Printed by a program of this session (drv.py), by means of the kit's print.py.
namespace Go.Proofs.Ytfaagdpopmnnpaa.P
open Go.RowKit Go.Proofs.YtfaagdpopmnnpaaW.PrintWords Go.Proofs.YtfaagdpopmnnpaaW.PrintLast Go.Proofs.YtfaagdpopmnnpaaW.PrintMore
attribute [local go_sem] max2_int min2_int max_two min_two max_three min_three max_four min_four   -- for this text's walks alone
set_option linter.unusedVariables false
set_option linter.unusedSimpArgs false
def errW : Option Int → Value
  | none => .nilIface
  | some c => .iface 0 (.int .i64 c)
theorem errW_none : errW none = .nilIface := rfl
theorem errW_some (c : Int) : errW (some c) = .iface 0 (.int .i64 c) := rfl
theorem info2 : (Try.prog.info? 2).map (fun i => (i.zero, i.size, i.bytes)) = some (some (.int .i64 0), 1, 8) := by kernel_rfl
theorem info66 : (Try.prog.info? 66).map (fun i => (i.zero, i.size, i.bytes)) = some (some (.agg #[(.int .i64 0), (.int .i64 0)]), 2, 16) := by kernel_rfl
theorem info67 : (Try.prog.info? 67).map (fun i => (i.zero, i.size, i.bytes)) = some (some (.slice none 0 0), 1, 24) := by kernel_rfl
-- the values' own types
/-! #### struct type 135 -/
structure SLawFace where
  f0 : Int
  f1 : Int
def zLawFace : SLawFace := ⟨(0 : Int), (0 : Int)⟩
def kLawFace : Kd SLawFace := Kd.iso (Kd.pair (Kd.int .i64) (Kd.int .i64)) (fun x : SLawFace => (x.f0, x.f1))
theorem kLawFace_open {w : World} {x : SLawFace} {cs : List Value} (h : kLawFace.K w x cs) : cs = [.int .i64 x.f0, .int .i64 x.f1] := by
  obtain ⟨_, _, rfl, rfl, rfl⟩ := h
  exact rfl
theorem kLawFace_mk (w : World) (x : SLawFace)  : kLawFace.K w x [.int .i64 x.f0, .int .i64 x.f1] := ⟨[.int .i64 x.f0], [.int .i64 x.f1], rfl, rfl, rfl⟩
def rd_LawFace (xs : List SLawFace) (i : Int) : SLawFace := xs.getD i.toNat zLawFace
theorem at_LawFace {w : World} {A : Option Addr} {n : Nat} {xs : List SLawFace} (h : Kd.C kLawFace w A n xs) (i : Int) (h0 : 0 ≤ i) (h1 : i < n) : ∃ ad , A = some ad ∧ w.cell? (ad.add (i.toNat * 2)) = some (.int .i64 (rd_LawFace xs i).f0) ∧ w.cell? ⟨(ad.add (i.toNat * 2)).block, (ad.add (i.toNat * 2)).off + 1, none⟩ = some (.int .i64 (rd_LawFace xs i).f1) := by
  obtain ⟨ad, c, e, _, hK, hc0⟩ := Kd.C_get h zLawFace i h0 h1
  have hc : ∀ j u, c[j]? = some u → w.cell? (ad.add (i.toNat * 2 + j)) = some u := hc0
  obtain rfl := kLawFace_open hK
  exact ⟨ad, e, hc 0 _ rfl, by rw [← add_field _ _ 1 (by omega)]; exact hc 1 _ rfl⟩
def rd_LLawFace (xs : List (List SLawFace)) (i : Int) : (List SLawFace) := xs.getD i.toNat ([] : List SLawFace)
theorem at_LLawFace {w : World} {A : Option Addr} {n : Nat} {xs : List (List SLawFace)} (h : Kd.C (Kd.slice 135 kLawFace) w A n xs) (i : Int) (h0 : 0 ≤ i) (h1 : i < n) : ∃ ad A0 c0, A = some ad ∧ w.cell? (ad.add i.toNat) = some (.slice A0 (rd_LLawFace xs i).length c0) ∧ (rd_LLawFace xs i).length ≤ c0 ∧ kLawFace.C w A0 (rd_LLawFace xs i).length (rd_LLawFace xs i) := by
  obtain ⟨ad, c, e, _, hK, hc0⟩ := Kd.C_get h ([] : List SLawFace) i h0 h1
  have hc : ∀ j u, c[j]? = some u → w.cell? (ad.add (i.toNat * 1 + j)) = some u := hc0
  obtain ⟨A0, c0, rfl, l0, g0⟩ := hK
  exact ⟨ad, A0, c0, e, by have hq := hc 0 _ rfl; rwa [Nat.mul_one, Nat.add_zero] at hq, l0, g0⟩
/-! #### struct type 66 -/
structure SFace where
  f0 : Int
  f1 : Int
def zFace : SFace := ⟨(0 : Int), (0 : Int)⟩
def kFace : Kd SFace := Kd.iso (Kd.pair (Kd.int .i64) (Kd.int .i64)) (fun x : SFace => (x.f0, x.f1))
theorem kFace_open {w : World} {x : SFace} {cs : List Value} (h : kFace.K w x cs) : cs = [.int .i64 x.f0, .int .i64 x.f1] := by
  obtain ⟨_, _, rfl, rfl, rfl⟩ := h
  exact rfl
theorem kFace_openM {w : World} {base : Nat} {ok : Nat → Prop} {x : SFace} {cs : List Value} (h : kFace.M w base ok x cs) : cs = [.int .i64 x.f0, .int .i64 x.f1] := by
  obtain ⟨_, _, rfl, rfl, rfl⟩ := h
  exact rfl
theorem kFace_mkM (w : World) (base : Nat) (ok : Nat → Prop) (x : SFace)  : kFace.M w base ok x [.int .i64 x.f0, .int .i64 x.f1] := ⟨[.int .i64 x.f0], [.int .i64 x.f1], rfl, rfl, rfl⟩
def rd_Face (xs : List SFace) (i : Int) : SFace := xs.getD i.toNat zFace
theorem at_Face {w : World} {A : Option Addr} {n : Nat} {xs : List SFace} (h : Kd.C kFace w A n xs) (i : Int) (h0 : 0 ≤ i) (h1 : i < n) : ∃ ad , A = some ad ∧ w.cell? (ad.add (i.toNat * 2)) = some (.int .i64 (rd_Face xs i).f0) ∧ w.cell? ⟨(ad.add (i.toNat * 2)).block, (ad.add (i.toNat * 2)).off + 1, none⟩ = some (.int .i64 (rd_Face xs i).f1) := by
  obtain ⟨ad, c, e, _, hK, hc0⟩ := Kd.C_get h zFace i h0 h1
  have hc : ∀ j u, c[j]? = some u → w.cell? (ad.add (i.toNat * 2 + j)) = some u := hc0
  obtain rfl := kFace_open hK
  exact ⟨ad, e, hc 0 _ rfl, by rw [← add_field _ _ 1 (by omega)]; exact hc 1 _ rfl⟩
def rd_LFace (xs : List (List SFace)) (i : Int) : (List SFace) := xs.getD i.toNat ([] : List SFace)
theorem at_LFace {w : World} {A : Option Addr} {n : Nat} {xs : List (List SFace)} (h : Kd.C (Kd.slice 66 kFace) w A n xs) (i : Int) (h0 : 0 ≤ i) (h1 : i < n) : ∃ ad A0 c0, A = some ad ∧ w.cell? (ad.add i.toNat) = some (.slice A0 (rd_LFace xs i).length c0) ∧ (rd_LFace xs i).length ≤ c0 ∧ kFace.C w A0 (rd_LFace xs i).length (rd_LFace xs i) := by
  obtain ⟨ad, c, e, _, hK, hc0⟩ := Kd.C_get h ([] : List SFace) i h0 h1
  have hc : ∀ j u, c[j]? = some u → w.cell? (ad.add (i.toNat * 1 + j)) = some u := hc0
  obtain ⟨A0, c0, rfl, l0, g0⟩ := hK
  exact ⟨ad, A0, c0, e, by have hq := hc 0 _ rfl; rwa [Nat.mul_one, Nat.add_zero] at hq, l0, g0⟩
/-! #### struct type 29 -/
end Go.Proofs.Ytfaagdpopmnnpaa.P

-- Printed by a program of this session (drv.py), by means of the kit's print.py.
namespace Go.Proofs.Ytfaagdpopmnnpaa.P
open Go.RowKit Go.Proofs.YtfaagdpopmnnpaaW.PrintWords Go.Proofs.YtfaagdpopmnnpaaW.PrintLast Go.Proofs.YtfaagdpopmnnpaaW.PrintMore
attribute [local go_sem] max2_int min2_int max_two min_two max_three min_three max_four min_four   -- for this text's walks alone
set_option linter.unusedVariables false
set_option linter.unusedSimpArgs false
/-! ### impl_size_Simpl_Face: function 78 -/
def impl_size_Simpl_Face.f (l0 : List (List (SFace))) : Option (Int) := some (l0.length : Int)
set_option maxHeartbeats 8000000 in
set_option maxRecDepth 100000 in
theorem impl_size_Simpl_Face.calls (A0 : Option Addr) (c0 : Nat) (l0 : List (List (SFace))) (r : Int) (w : World) (hr0 : Kd.C (Kd.slice 66 kFace) w A0 l0.length l0) (hc0 : l0.length ≤ c0) (h : impl_size_Simpl_Face.f l0 = some r) :
    Calls Try.prog 78 #[.slice A0 l0.length c0] w fun e w' => e = .returned (.int .i64 r) ∧ Drawn0 w w' := by
  have HR0 := Aside0.mk hr0
  have HC0 := Aside0.mk hc0
  clear hr0 hc0
  have H : (some (l0.length : Int)) = some r := h
  clear h
  obtain rfl := Option.some.inj H
  go_enter Try.func78, Try.ntmps78
  go_wp2
  go_ret
  exact ⟨by first | rfl | (simp; done) | (simp [*]; done), by repeat (first | exact Drawn0.refl _ | apply Drawn0.step)⟩
end Go.Proofs.Ytfaagdpopmnnpaa.P

-- Printed by a program of this session (drv.py), by means of the kit's print.py.
namespace Go.Proofs.Ytfaagdpopmnnpaa.P
open Go.RowKit Go.Proofs.YtfaagdpopmnnpaaW.PrintWords Go.Proofs.YtfaagdpopmnnpaaW.PrintLast Go.Proofs.YtfaagdpopmnnpaaW.PrintMore
attribute [local go_sem] max2_int min2_int max_two min_two max_three min_three max_four min_four   -- for this text's walks alone
set_option linter.unusedVariables false
set_option linter.unusedSimpArgs false
-- HAND LIB arr4 rounds=0 making=0
/-! Arrays of four numbers. -/
theorem arr_index (a b c d : Int) (f : Int) (h0 : 0 ≤ f) (h1 : f ≤ 3) : ∀ w : World, (Instr.index 106 (.agg #[.int .i64 a, .int .i64 b, .int .i64 c, .int .i64 d]) (.int .i64 f)).run Try.prog w = .ok (.int .i64 (rd [a, b, c, d] f)) w := by
  intro w
  rcases (show f = 0 ∨ f = 1 ∨ f = 2 ∨ f = 3 by omega) with rfl | rfl | rfl | rfl
  · kernel_rfl
  · kernel_rfl
  · kernel_rfl
  · kernel_rfl
theorem arr_cell {w : World} {g : Nat} {T : TypeId} {a b c d : Int} (h : w.heap[g]? = some (.cells #[.int .i64 a, .int .i64 b, .int .i64 c, .int .i64 d] T (0, 0))) (f : Int) (h0 : 0 ≤ f) (h1 : f ≤ 3) : w.cell? ⟨g, f.toNat, none⟩ = some (.int .i64 (rd [a, b, c, d] f)) := by
  rw [blk_cell h]
  rcases (show f = 0 ∨ f = 1 ∨ f = 2 ∨ f = 3 by omega) with rfl | rfl | rfl | rfl <;> rfl
theorem arr_put {w : World} {g : Nat} {T : TypeId} {a b c d : Int} (h : w.heap[g]? = some (.cells #[.int .i64 a, .int .i64 b, .int .i64 c, .int .i64 d] T (0, 0))) (f v : Int) (h0 : 0 ≤ f) (h1 : f ≤ 3) :
    (w.setCell ⟨g, f.toNat, none⟩ (.int .i64 v)).heap[g]? = some (.cells #[.int .i64 (rd ([a, b, c, d].set f.toNat v) 0), .int .i64 (rd ([a, b, c, d].set f.toNat v) 1), .int .i64 (rd ([a, b, c, d].set f.toNat v) 2), .int .i64 (rd ([a, b, c, d].set f.toNat v) 3)] T (0, 0)) := by
  rcases (show f = 0 ∨ f = 1 ∨ f = 2 ∨ f = 3 by omega) with rfl | rfl | rfl | rfl
  · exact blk_put h 0 _ rfl
  · exact blk_put h 1 _ rfl
  · exact blk_put h 2 _ rfl
  · exact blk_put h 3 _ rfl
theorem new_at4 {W : World} {n : Nat} (h : W.heap.size = n) (o : Obj) : (W.alloc o).heap[n]? = some o := h ▸ blk_new W o
/-- A list of four numbers, written out. -/
theorem four_eq {l : List Int} (h : l.length = 4) : l = [rd l 0, rd l 1, rd l 2, rd l 3] := by
  match l, h with
  | [a, b, c, d], _ => rfl
end Go.Proofs.Ytfaagdpopmnnpaa.P

-- Printed by a program of this session (drv.py), by means of the kit's print.py.
namespace Go.Proofs.Ytfaagdpopmnnpaa.P
open Go.RowKit Go.Proofs.YtfaagdpopmnnpaaW.PrintWords Go.Proofs.YtfaagdpopmnnpaaW.PrintLast Go.Proofs.YtfaagdpopmnnpaaW.PrintMore
attribute [local go_sem] max2_int min2_int max_two min_two max_three min_three max_four min_four   -- for this text's walks alone
set_option linter.unusedVariables false
set_option linter.unusedSimpArgs false
-- HAND LIB signed1 rounds=0 making=0
/-! signed's literal: an element is given a sign, or its sign is looked at. -/
/-- Signs, a queue, and whether all went well, behind one call. -/
def vis (sg qu : List Int) (ok : Bool) (i k t : Int) : List Int × List Int × Bool :=
  if rd sg k = 0 then (sg.set k.toNat (wrap64 (rd sg (rd qu i) * t)), qu ++ [k], ok) else if rd sg k = wrap64 (-(wrap64 (rd sg (rd qu i) * t))) then (sg, qu, false) else (sg, qu, ok)
/-- The variables of a search with signs: the signs' row lies in the block bs; vq: the queue as its variable has it, vr: as it is. -/
structure Sg0 (w0 w : World) (gs gq gi go bs cs : Nat) (i : Int) (sg qu : List Int) (ok : Bool) (vq vr : Value) : Prop where
  below : Below w0.heap.size w0 w
  bS : w.heap[gs]? = some (.cells #[.slice (some ⟨bs, 0, none⟩) sg.length cs] 33 (0, 0))
  bQ : w.heap[gq]? = some (.cells #[vq] 33 (0, 0))
  bI : w.heap[gi]? = some (.cells #[.int .i64 i] 3 (0, 0))
  bO : w.heap[go]? = some (.cells #[.bool ok] 4 (0, 0))
  rS : Kd.R (Kd.int .i64) 2 w w0.heap.size (fun k => k = bs) (.slice (some ⟨bs, 0, none⟩) sg.length cs) sg
  rQ : Kd.R (Kd.int .i64) 2 w w0.heap.size (fun k => k ≠ bs) vr qu
  nsq : gs ≠ gq
  own : w0.heap.size ≤ gq ∧ w0.heap.size ≤ go ∧ w0.heap.size ≤ gi
abbrev Sg (w0 w : World) (gs gq gi go bs cs : Nat) (i : Int) (sg qu : List Int) (ok : Bool) (vq : Value) : Prop := Sg0 w0 w gs gq gi go bs cs i sg qu ok vq vq
section
variable {w0 w w1 : World} {gs gq gi go bs cs : Nat} {i : Int} {sg qu qu' : List Int} {ok : Bool} {vq vr v1 : Value}
theorem Sg0.row (h : Sg0 w0 w gs gq gi go bs cs i sg qu ok vq vr) : ∃ cells, w.heap[bs]? = some (.cells cells 2 (0, 0)) := Kd.R_typed h.rS bs (by simp [Value.ownBlock])
theorem Sg0.far (h : Sg0 w0 w gs gq gi go bs cs i sg qu ok vq vr) : gs ≠ bs ∧ gq ≠ bs ∧ gi ≠ bs ∧ go ≠ bs := by
  obtain ⟨cells, hc⟩ := h.row
  exact ⟨blk_ne h.bS hc (by decide), blk_ne h.bQ hc (by decide), blk_ne h.bI hc (by decide), blk_ne h.bO hc (by decide)⟩
theorem Sg0.drew (h : Sg0 w0 w gs gq gi go bs cs i sg qu ok vq vr) : Sg0 w0 w.drew gs gq gi go bs cs i sg qu ok vq vr :=
  ⟨below_drew1 h.below, h.bS, h.bQ, h.bI, h.bO, Kd.R_drew h.rS, Kd.R_drew h.rQ, h.nsq, h.own⟩
/-- Another block of memory has been made or written. -/
theorem Sg0.stays (h : Sg0 w0 w gs gq gi go bs cs i sg qu ok vq vr) (hb : Below w.heap.size w w1) : Sg0 w0 w1 gs gq gi go bs cs i sg qu ok vq vr :=
  ⟨below_step h.below hb, blk_below h.bS hb, blk_below h.bQ hb, blk_below h.bI hb, blk_below h.bO hb, Kd.R_below h.rS hb, Kd.R_below h.rQ hb, h.nsq, h.own⟩
/-- A sign is stored. -/
theorem Sg0.sign (h : Sg0 w0 w gs gq gi go bs cs i sg qu ok vq vr) (k v : Int) : Sg0 w0 (w.setCell ⟨bs, k.toNat, none⟩ (.int .i64 v)) gs gq gi go bs cs i (sg.set k.toNat v) qu ok vq vr := by
  obtain ⟨f1, f2, f3, f4⟩ := h.far
  refine ⟨below_set h.below (Kd.R_base h.rS bs (by simp [Value.ownBlock])), ?_, blk_far (p := ⟨bs, k.toNat, none⟩) h.bQ f2 _, blk_far (p := ⟨bs, k.toNat, none⟩) h.bI f3 _, blk_far (p := ⟨bs, k.toNat, none⟩) h.bO f4 _, ?_, Kd.R_far (p := ⟨bs, k.toNat, none⟩) h.rQ (fun _ hk => hk) _, h.nsq, h.own⟩
  · rw [List.length_set]; exact blk_far (p := ⟨bs, k.toNat, none⟩) h.bS f1 _
  · rw [List.length_set]; exact (Kd.R_putg h.rS k v).1
/-- The queue has grown, its variable isn't written yet. -/
theorem Sg0.grown (h : Sg0 w0 w gs gq gi go bs cs i sg qu ok vq vr) (ho : Kd.R (Kd.int .i64) 2 w1 w0.heap.size (fun k => k ≠ bs) v1 qu') (hb : Below w0.heap.size w0 w1) (hg : w.grownBy w1 vr.ownBlock) : Sg0 w0 w1 gs gq gi go bs cs i sg qu' ok vq v1 := by
  have hty := Kd.R_typed h.rQ
  have hne : ∀ (g : Nat) (T : TypeId) (c : Array Value), T ≠ 2 → w.heap[g]? = some (.cells c T (0, 0)) → some g ≠ vr.ownBlock := fun g T c hT hc e => by
    obtain ⟨cells, hc2⟩ := hty g e.symm
    exact blk_ne hc hc2 hT rfl
  exact ⟨hb, blk_grown h.bS hg (hne _ _ _ (by decide) h.bS), blk_grown h.bQ hg (hne _ _ _ (by decide) h.bQ), blk_grown h.bI hg (hne _ _ _ (by decide) h.bI), blk_grown h.bO hg (hne _ _ _ (by decide) h.bO), Kd.R_grown h.rS hg (fun k hk e => h.rQ.1 k e.symm hk), ho, h.nsq, h.own⟩
/-- A variable is written. -/
theorem Sg0.queue (h : Sg0 w0 w gs gq gi go bs cs i sg qu ok vq vr) : Sg0 w0 (w.setCell ⟨gq, 0, none⟩ vr) gs gq gi go bs cs i sg qu ok vr vr := by
  obtain ⟨f1, f2, f3, f4⟩ := h.far
  refine ⟨below_set h.below h.own.1, blk_far (p := ⟨gq, 0, none⟩) h.bS h.nsq _, blk_put h.bQ 0 _ rfl, blk_far (p := ⟨gq, 0, none⟩) h.bI (blk_ne h.bI h.bQ (by decide)) _, blk_far (p := ⟨gq, 0, none⟩) h.bO (blk_ne h.bO h.bQ (by decide)) _, Kd.R_far (p := ⟨gq, 0, none⟩) h.rS (fun k hk => by rw [hk]; exact fun e => f2 e.symm) _, Kd.R_mono (Kd.R_set h.rQ h.bQ (by decide) 0 _) (fun _ hk => hk), h.nsq, h.own⟩
theorem Sg0.fails (h : Sg0 w0 w gs gq gi go bs cs i sg qu ok vq vr) (b : Bool) : Sg0 w0 (w.setCell ⟨go, 0, none⟩ (.bool b)) gs gq gi go bs cs i sg qu b vq vr := by
  obtain ⟨f1, f2, f3, f4⟩ := h.far
  refine ⟨below_set h.below h.own.2.1, blk_far (p := ⟨go, 0, none⟩) h.bS (blk_ne h.bS h.bO (by decide)) _, blk_far (p := ⟨go, 0, none⟩) h.bQ (blk_ne h.bQ h.bO (by decide)) _, blk_far (p := ⟨go, 0, none⟩) h.bI (blk_ne h.bI h.bO (by decide)) _, blk_put h.bO 0 _ rfl, Kd.R_far (p := ⟨go, 0, none⟩) h.rS (fun k hk => by rw [hk]; exact fun e => f4 e.symm) _, Kd.R_mono (Kd.R_set h.rQ h.bO (by decide) 0 _) (fun _ hk => hk), h.nsq, h.own⟩
end
/-- Blocks of other elements stay. -/
def Oth (w w1 : World) : Prop := ∀ (g : Nat) (c : Array Value) (T : TypeId), T ≠ 33 → T ≠ 2 → T ≠ 4 → w.heap[g]? = some (.cells c T (0, 0)) → w1.heap[g]? = some (.cells c T (0, 0))
section
variable {w0 w w1 w2 : World} {gs gq gi go bs cs : Nat} {i : Int} {sg qu qu' : List Int} {ok : Bool} {vq vr v1 : Value}
theorem Oth.refl (w : World) : Oth w w := fun _ _ _ _ _ _ h => h
theorem Oth.trans (h : Oth w w1) (k : Oth w1 w2) : Oth w w2 := fun g c T h1 h2 h3 h4 => k g c T h1 h2 h3 (h g c T h1 h2 h3 h4)
theorem Oth.below (h : Below w.heap.size w w1) : Oth w w1 := fun _ _ _ _ _ _ h4 => blk_below h4 h
theorem Sg0.signO (h : Sg0 w0 w gs gq gi go bs cs i sg qu ok vq vr) (k v : Int) : Oth w (w.setCell ⟨bs, k.toNat, none⟩ (.int .i64 v)) := fun g c T _ h2 _ h4 => by
  obtain ⟨cells, hc⟩ := h.row
  exact blk_far (p := ⟨bs, k.toNat, none⟩) h4 (blk_ne h4 hc h2) _
theorem Sg0.grownO (h : Sg0 w0 w gs gq gi go bs cs i sg qu ok vq vr) (hg : w.grownBy w1 vr.ownBlock) : Oth w w1 := fun g c T _ h2 _ h4 => blk_grown h4 hg fun e => by
  obtain ⟨cells, hc⟩ := Kd.R_typed h.rQ g e.symm
  exact blk_ne h4 hc h2 rfl
theorem Sg0.queueO (h : Sg0 w0 w gs gq gi go bs cs i sg qu ok vq vr) (v : Value) : Oth w (w.setCell ⟨gq, 0, none⟩ v) := fun g c T h1 _ _ h4 => blk_far (p := ⟨gq, 0, none⟩) h4 (blk_ne h4 h.bQ h1) _
theorem Sg0.failsO (h : Sg0 w0 w gs gq gi go bs cs i sg qu ok vq vr) (v : Value) : Oth w (w.setCell ⟨go, 0, none⟩ v) := fun g c T _ _ h3 h4 => blk_far (p := ⟨go, 0, none⟩) h4 (blk_ne h4 h.bO h3) _
end
set_option maxHeartbeats 8000000 in
set_option maxRecDepth 100000 in
theorem impl_signed_1.calls (gs gq gi go bs cs : Nat) (i k t : Int) (sg qu : List Int) (ok : Bool) (vq : Value) (w0 w : World) (hS : Sg w0 w gs gq gi go bs cs i sg qu ok vq)
    (hi0 : 0 ≤ i) (hi1 : i < qu.length) (hq0 : 0 ≤ rd qu i) (hq1 : rd qu i < sg.length) (hk0 : 0 ≤ k) (hk1 : k < sg.length) (hn : qu.length < 1000000) :
    Calls Try.prog 166 #[.int .i64 k, .int .i64 t, .pointer (some ⟨gs, 0, none⟩), .pointer (some ⟨gq, 0, none⟩), .pointer (some ⟨gi, 0, none⟩), .pointer (some ⟨go, 0, none⟩)] w
      fun e w' => e = .returned (.tuple #[]) ∧ ∃ vq', Sg w0 w' gs gq gi go bs cs i (vis sg qu ok i k t).1 (vis sg qu ok i k t).2.1 (vis sg qu ok i k t).2.2 vq' ∧ Oth w w' := by
  obtain ⟨bq, cq, rfl, hbq, hbl, _, HGQ⟩ := Kd.R_form hS.rQ (by omega)
  have hqs : bq ≠ bs := hS.rQ.1 bq (by simp [Value.ownBlock])
  have hxS : w.cell? ⟨gs, 0, none⟩ = some (.slice (some ⟨bs, 0, none⟩) sg.length cs) := (blk_cell hS.bS 0).trans rfl
  have hxQ : w.cell? ⟨gq, 0, none⟩ = some (.slice (some ⟨bq, 0, none⟩) qu.length cq) := (blk_cell hS.bQ 0).trans rfl
  have hxI : w.cell? ⟨gi, 0, none⟩ = some (.int .i64 i) := (blk_cell hS.bI 0).trans rfl
  have hxO : w.cell? ⟨go, 0, none⟩ = some (.bool ok) := (blk_cell hS.bO 0).trans rfl
  have hfQ := blk_frozen hS.bQ 0
  have hfO := blk_frozen hS.bO 0
  obtain ⟨hx1, _⟩ := Kd.R_celln 0 hS.rQ i hi0 hi1
  obtain ⟨hx2, _⟩ := Kd.R_celln 0 hS.rS (rd qu i) hq0 hq1
  obtain ⟨hx3, hf3⟩ := Kd.R_celln 0 hS.rS k hk0 hk1
  replace hx1 : w.cell? ⟨bq, i.toNat, none⟩ = some (.int .i64 (rd qu i)) := hx1
  replace hx2 : w.cell? ⟨bs, (rd qu i).toNat, none⟩ = some (.int .i64 (rd sg (rd qu i))) := hx2
  replace hx3 : w.cell? ⟨bs, k.toNat, none⟩ = some (.int .i64 (rd sg k)) := hx3
  have HV := Aside0.mk (show vis sg qu ok i k t = if rd sg k = 0 then (sg.set k.toNat (wrap64 (rd sg (rd qu i) * t)), qu ++ [k], ok) else if rd sg k = wrap64 (-(wrap64 (rd sg (rd qu i) * t))) then (sg, qu, false) else (sg, qu, ok) from rfl)
  have HS := Aside0.mk hS
  have HN := Aside0.mk hn
  clear hS HGQ hbl hn
  have HQ := Aside0.mk (And.intro hqs hbq)
  clear hqs hbq
  generalize vis sg qu ok i k t = res at HV ⊢
  generalize rd qu i = q at hx1 hx2 hq0 hq1 HV
  generalize rd sg q = s at hx2 HV
  generalize hsk : rd sg k = sk at hx3 HV
  have HSK := Aside0.mk hsk
  clear hsk
  go_enter Try.func166, Try.ntmps166
  try go_wp2
  refine start_ (n := 10) (S := fun w' => w'.cell? ⟨gs, 0, none⟩ = some (.slice (some ⟨bs, 0, none⟩) sg.length cs) ∧ w'.cell? ⟨gq, 0, none⟩ = some (.slice (some ⟨bq, 0, none⟩) qu.length cq) ∧ w'.cell? ⟨gi, 0, none⟩ = some (.int .i64 i) ∧ w'.cell? ⟨bq, i.toNat, none⟩ = some (.int .i64 q) ∧ w'.cell? ⟨bs, q.toNat, none⟩ = some (.int .i64 s)) (ds := []) #[false, false, false, false, false, false, false, false, false, false] (by kernel_rfl) rfl rfl ⟨hxS, hxQ, hxI, hx1, hx2⟩ (fun hHeld => ?_)
  refine take_ (i := 0) (N := some 9) (v := ?_) (a' := ?_) #[true, false, false, false, false, false, false, false, false, false] rfl rfl (by kernel_rfl) (fun _ _ _ h => h) (Or.inl ⟨by rfl, ?_⟩) hHeld ?_ ?_
  rotate_left
  · rintro w' ⟨s0, s1, s2, s3, s4⟩
    go_simp
    with_reducible rfl
  rotate_left
  · simp only [Act.put, List.setIfInBounds_toArray, List.set_cons_zero, List.set_cons_succ, i64_w, i32_w]
    rfl
  refine take_ (i := 1) (N := some 10) (v := ?_) (a' := ?_) #[true, true, false, false, false, false, false, false, false, false] rfl rfl (by kernel_rfl) (fun _ _ _ h => h) (Or.inl ⟨by rfl, ?_⟩) hHeld ?_ ?_
  rotate_left
  · rintro w' ⟨s0, s1, s2, s3, s4⟩
    go_simp
    with_reducible rfl
  rotate_left
  · simp only [Act.put, List.setIfInBounds_toArray, List.set_cons_zero, List.set_cons_succ, i64_w, i32_w]
    rfl
  refine take_ (i := 2) (N := some 11) (v := ?_) (a' := ?_) #[true, true, true, false, false, false, false, false, false, false] rfl rfl (by kernel_rfl) (fun _ _ _ h => h) (Or.inl ⟨by rfl, ?_⟩) hHeld ?_ ?_
  rotate_left
  · rintro w' ⟨s0, s1, s2, s3, s4⟩
    go_simp
    with_reducible rfl
  rotate_left
  · simp only [Act.put, List.setIfInBounds_toArray, List.set_cons_zero, List.set_cons_succ, i64_w, i32_w]
    rfl
  refine pure_ (i := 3) (N := some 12) (v := ?_) (a' := ?_) #[true, true, true, true, false, false, false, false, false, false] rfl rfl (by kernel_rfl) (fun _ _ _ h => h) (Or.inl ⟨by rfl, ?_⟩) ?_ ?_
  rotate_left
  · intro w'
    go_simp
    with_reducible rfl
  rotate_left
  · simp only [Act.put, List.setIfInBounds_toArray, List.set_cons_zero, List.set_cons_succ, i64_w, i32_w]
    rfl
  refine take_ (i := 4) (N := some 13) (v := ?_) (a' := ?_) #[true, true, true, true, true, false, false, false, false, false] rfl rfl (by kernel_rfl) (fun _ _ _ h => h) (Or.inl ⟨by rfl, ?_⟩) hHeld ?_ ?_
  rotate_left
  · rintro w' ⟨s0, s1, s2, s3, s4⟩
    go_simp
    with_reducible rfl
  rotate_left
  · simp only [Act.put, List.setIfInBounds_toArray, List.set_cons_zero, List.set_cons_succ, i64_w, i32_w]
    rfl
  refine pure_ (i := 5) (N := some 14) (v := ?_) (a' := ?_) #[true, true, true, true, true, true, false, false, false, false] rfl rfl (by kernel_rfl) (fun _ _ _ h => h) (Or.inl ⟨by rfl, ?_⟩) ?_ ?_
  rotate_left
  · intro w'
    go_simp
    with_reducible rfl
  rotate_left
  · simp only [Act.put, List.setIfInBounds_toArray, List.set_cons_zero, List.set_cons_succ, i64_w, i32_w]
    rfl
  refine take_ (i := 6) (N := some 15) (v := ?_) (a' := ?_) #[true, true, true, true, true, true, true, false, false, false] rfl rfl (by kernel_rfl) (fun _ _ _ h => h) (Or.inl ⟨by rfl, ?_⟩) hHeld ?_ ?_
  rotate_left
  · rintro w' ⟨s0, s1, s2, s3, s4⟩
    go_simp
    with_reducible rfl
  rotate_left
  · simp only [Act.put, List.setIfInBounds_toArray, List.set_cons_zero, List.set_cons_succ, i64_w, i32_w]
    rfl
  refine pure_ (i := 7) (N := some 16) (v := ?_) (a' := ?_) #[true, true, true, true, true, true, true, true, false, false] rfl rfl (by kernel_rfl) (fun _ _ _ h => h) (Or.inl ⟨by rfl, ?_⟩) ?_ ?_
  rotate_left
  · intro w'
    go_simp
    with_reducible rfl
  rotate_left
  · simp only [Act.put, List.setIfInBounds_toArray, List.set_cons_zero, List.set_cons_succ, i64_w, i32_w]
    rfl
  refine pure_ (i := 8) (N := some 17) (v := ?_) (a' := ?_) #[true, true, true, true, true, true, true, true, true, false] rfl rfl (by kernel_rfl) (fun _ _ _ h => h) (Or.inl ⟨by rfl, ?_⟩) ?_ ?_
  rotate_left
  · intro w'
    go_simp
    with_reducible rfl
  rotate_left
  · simp only [Act.put, List.setIfInBounds_toArray, List.set_cons_zero, List.set_cons_succ, i64_w, i32_w]
    rfl
  refine pure_ (i := 9) (N := some 8) (v := ?_) (a' := ?_) #[true, true, true, true, true, true, true, true, true, true] rfl rfl (by kernel_rfl) (fun _ _ _ h => h) (Or.inl ⟨by rfl, ?_⟩) ?_ ?_
  rotate_left
  · intro w'
    go_simp
    with_reducible rfl
  rotate_left
  · simp only [Act.put, List.setIfInBounds_toArray, List.set_cons_zero, List.set_cons_succ, i64_w, i32_w]
    rfl
  refine done_ (by kernel_rfl) ?_
  have HS2 := Aside0.mk HS.out.drew
  have HO := Aside0.mk (show Oth w w.drew from fun _ _ _ _ _ _ h => h)
  clear HS hHeld
  replace hxS : w.drew.cell? ⟨gs, 0, none⟩ = some (.slice (some ⟨bs, 0, none⟩) sg.length cs) := hxS
  replace hxQ : w.drew.cell? ⟨gq, 0, none⟩ = some (.slice (some ⟨bq, 0, none⟩) qu.length cq) := hxQ
  replace hx3 : w.drew.cell? ⟨bs, k.toNat, none⟩ = some (.int .i64 sk) := hx3
  replace hf3 : w.drew.frozen? ⟨bs, k.toNat, none⟩ = false := hf3
  replace hfQ : w.drew.frozen? ⟨gq, 0, none⟩ = false := hfQ
  replace hfO : w.drew.frozen? ⟨go, 0, none⟩ = false := hfO
  replace hxO : w.drew.cell? ⟨go, 0, none⟩ = some (.bool ok) := hxO
  clear hx1 hx2 hxI
  generalize w.drew = wd at *
  generalize wrap64 (s * t) = want at HV ⊢
  by_cases c0 : sk = 0
  · subst c0
    rw [if_pos rfl] at HV
    clear hxO hfO
    go_wp2_with (first
      | ((with_reducible refine gate_store (t := 2) (p := 27) rfl ?_); refine store_event (t := 2) (p := 27) (v := ?vo) (w1 := (wd.setCell ⟨bs, k.toNat, none⟩ (.int .i64 want))) ?hg ?ho ?hn ?hr ?_; (case ho => rfl); (case hg => rfl); (case hn => rfl); (case hr => first | (go_simp; done) | (go_simp; rfl)); intro w2 hw; have HS3 := Aside0.mk (show Sg0 w0 w2 gs gq gi go bs cs i (sg.set k.toNat want) qu ok _ _ by rw [hw]; exact HS2.out.sign k want); have HO3 := Aside0.mk (show Oth w w2 by rw [hw]; exact HO.out.trans (HS2.out.signO k want)); clear HS2 HO hw hxS hxQ hx3 hf3 hfQ; have hxQ : w2.cell? ⟨gq, 0, none⟩ = some (.slice (some ⟨bq, 0, none⟩) qu.length cq) := (blk_cell HS3.out.bQ 0).trans rfl)
      | ((with_reducible refine gate_builtin (b := .append) (xs := #[.tmp 28, .tmp 30]) rfl ?_); at_builtin; refine Kd.R_append (Kd.int .i64) (w0 := w0) w0.heap.size rfl (.tmp 28) (.tmp 30) 33 2 (.int .i64 0) 8 rfl Try.underlying33 info2 rfl (by decide) (by omega) (.slice (some ⟨bq, 0, none⟩) qu.length cq) qu k [.int .i64 k] (fun k => k ≠ bs) (fun _ => False) rfl rfl ?aP (fun _ hk => hk.elim) ?aF ?aO ?aB ?aS ?aL ?_; (case aP => exact rfl); (case aB => exact HS3.out.below); (case aF => exact (fun k_ hk_ e_ => by obtain ⟨_, hc_⟩ := HS3.out.row; have := blk_lt hc_; omega)); (case aO => exact HS3.out.rQ); (case aS => exact below_size HS3.out.below); (case aL => have := HN.out; omega); intro v1 w3 ho hb hg hat; obtain ⟨A1, c1, rfl⟩ := Kd.R_slice ho; have HS4 := Aside0.mk (HS3.out.grown ho hb hg); have HO4 := Aside0.mk (HO3.out.trans (HS3.out.grownO hg)); clear HO3 HS3 ho hb hg hat hxQ; have hxQ : w3.cell? ⟨gq, 0, none⟩ = some (.slice (some ⟨bq, 0, none⟩) qu.length cq) := (blk_cell HS4.out.bQ 0).trans rfl; have hfQ := blk_frozen HS4.out.bQ 0))
    try go_wp2
    first | go_end0 | ((try simp only [Exit.inBlock, Exit.then]); refine bodyPost_ret (results_none rfl _ _ _) rfl ?_)
    refine ⟨?_, .slice A1 (qu.length + 1) c1, ?_, HO4.out.trans (HS4.out.queueO _)⟩
    · first | rfl | (simp <;> rfl)
    · rw [HV.out]
      have h5 := HS4.out.queue
      rw [List.length_append] at h5
      exact h5
  · have d0 : (sk == 0) = false := by simp [c0]
    have d0' : decide (sk = 0) = false := decide_eq_false c0
    rw [if_neg c0] at HV
    by_cases c1 : sk = wrap64 (-want)
    · rw [if_pos c1] at HV
      have d1 : (sk == wrap64 (-want)) = true := beq_iff_eq.mpr c1
      have d1' : decide (sk = wrap64 (-want)) = true := decide_eq_true c1
      clear c0 c1
      try go_wp2
      first | go_end0 | ((try simp only [Exit.inBlock, Exit.then]); refine bodyPost_ret (results_none rfl _ _ _) rfl ?_)
      refine ⟨?_, _, by rw [HV.out]; exact HS2.out.fails false, HO.out.trans (HS2.out.failsO _)⟩
      first | rfl | (simp <;> rfl)
    · rw [if_neg c1] at HV
      have d1 : (sk == wrap64 (-want)) = false := by simp [c1]
      have d1' : decide (sk = wrap64 (-want)) = false := decide_eq_false c1
      clear c0 c1
      go_wp2
      first | go_end0 | ((try simp only [Exit.inBlock, Exit.then]); refine bodyPost_ret (results_none rfl _ _ _) rfl ?_)
      refine ⟨?_, _, by rw [HV.out]; exact HS2.out, HO.out⟩
      first | rfl | (simp <;> rfl)
end Go.Proofs.Ytfaagdpopmnnpaa.P

-- Printed by a program of this session (drv.py), by means of the kit's print.py.
namespace Go.Proofs.Ytfaagdpopmnnpaa.P
open Go.RowKit Go.Proofs.YtfaagdpopmnnpaaW.PrintWords Go.Proofs.YtfaagdpopmnnpaaW.PrintLast Go.Proofs.YtfaagdpopmnnpaaW.PrintMore
attribute [local go_sem] max2_int min2_int max_two min_two max_three min_three max_four min_four   -- for this text's walks alone
set_option linter.unusedVariables false
set_option linter.unusedSimpArgs false
/-! ### impl_Face_isBoundary: function 80 -/
def impl_Face_isBoundary.f (a0_0 : Int) (a0_1 : Int) : Option (Bool) := some (decide (a0_0 < 0))
set_option maxHeartbeats 8000000 in
set_option maxRecDepth 100000 in
theorem impl_Face_isBoundary.calls (a0_0 : Int) (a0_1 : Int) (r : Bool) (w : World) (h : impl_Face_isBoundary.f a0_0 a0_1 = some r) :
    Calls Try.prog 80 #[.agg #[.int .i64 a0_0, .int .i64 a0_1]] w fun e w' => e = .returned (.bool r) ∧ Below w.heap.size w w' := by
  have hu66 := Try.underlying66
  have HB := Aside0.mk (Below.refl w.heap.size w)
  have H : (some (decide (a0_0 < 0))) = some r := h
  clear h
  obtain rfl := Option.some.inj H
  go_enter Try.func80, Try.ntmps80
  go_wp2_with (first | ((with_reducible refine gate_dst (N := 1) rfl ?_); refine box_event ?hg (N := 1) ?hd (cs := #[.int .i64 a0_0, .int .i64 a0_1]) (t := 66) ?hr ?_; (case hd => rfl); (case hg => rfl); (case hr => first | (go_simp; done) | (go_simp; rfl)); intro gb101 hg w2 hbox hb; have n0_ := Aside0.mk (below_step (by repeat (first | (with_reducible first | exact HB.out | apply below_alloc | apply pw_below_drewN | apply below_drew1) | exact HB.out)) hb); have n1_ := Aside0.mk (hbox); have n2_ := Aside0.mk ((by rw [hg]; exact (below_size (by repeat (first | (with_reducible first | exact HB.out | apply below_alloc | apply pw_below_drewN | apply below_drew1) | exact HB.out))) : w.heap.size ≤ gb101)); have n3_ := Aside0.mk ((by rw [hg]; exact (below_size (by repeat (first | (with_reducible first | exact HB.out | apply below_alloc | apply pw_below_drewN | apply below_drew1) | exact HB.out))) : w.heap.size ≤ gb101)); clear HB; have HB := n0_; have BK101 := n1_; have GW101 := n2_; have GE101 := n3_; clear n0_ n1_ n2_ n3_; clear hb hbox hg; have hcz3_0 : w2.cell? ⟨gb101, 0, none⟩ = some (.int .i64 a0_0) := (blk_cell BK101.out 0).trans rfl; have hcz3_1 : w2.cell? ⟨gb101, 1, none⟩ = some (.int .i64 a0_1) := (blk_cell BK101.out 1).trans rfl; have hfz3_0 := blk_frozen BK101.out 0; have hfz3_1 := blk_frozen BK101.out 1))
  go_ret
  exact ⟨by first | rfl | (simp [errW_none, errW_some] <;> rfl) | (simp [*, errW_none, errW_some] <;> rfl), by repeat (first | (with_reducible first | exact HB.out | apply below_alloc | apply pw_below_drewN | apply below_drew1 | refine below_set ?_ GE101.out) | exact HB.out)⟩
end Go.Proofs.Ytfaagdpopmnnpaa.P

-- Printed by a program of this session (drv.py), by means of the kit's print.py.
namespace Go.Proofs.Ytfaagdpopmnnpaa.P
open Go.RowKit Go.Proofs.YtfaagdpopmnnpaaW.PrintWords Go.Proofs.YtfaagdpopmnnpaaW.PrintLast Go.Proofs.YtfaagdpopmnnpaaW.PrintMore
attribute [local go_sem] max2_int min2_int max_two min_two max_three min_three max_four min_four   -- for this text's walks alone
set_option linter.unusedVariables false
set_option linter.unusedSimpArgs false
-- HAND slices.Delete[[]int64,int64] rounds=0 making=1
/-! slices.Delete at []int64, for one element of a row of the call's own: the shelf's contract, laid here, in the words of this seat. -/
def lDelete_ren : Go.Shelf.Ren := ⟨fun | 45 => 143 | n => n, fun | 22 => 33 | 23 => 2 | 3 => 3 | 4 => 4 | 0 => 0 | n => n, fun | n => n⟩
theorem lDelete : Go.Proofs.SlLaysN.n45 Try.prog lDelete_ren := {
  mixed := by kernel_rfl
  f45 := ⟨Try.f143.name, by decide, Try.func143.trans (congrArg some (by kernel_rfl))⟩
  t0 := Try.underlying0
  a0 := Try.isAgg0
  z0 := Try.sizeOf0
  v0 := Try.zeroValue0
  t3 := Try.underlying3
  a3 := Try.isAgg3
  z3 := Try.sizeOf3
  v3 := Try.zeroValue3
  t4 := Try.underlying4
  a4 := Try.isAgg4
  z4 := Try.sizeOf4
  v4 := Try.zeroValue4
  t22 := Try.underlying33
  a22 := Try.isAgg33
  z22 := Try.sizeOf33
  v22 := Try.zeroValue33
  t23 := Try.underlying2
  a23 := Try.isAgg2
  z23 := Try.sizeOf2
  v23 := Try.zeroValue2
  i23 := by kernel_rfl }
theorem erase_eq (xs : List Int) (i : Nat) : xs.take i ++ xs.drop (i + 1) = xs.eraseIdx i := (List.eraseIdx_eq_take_drop_succ xs i).symm
theorem slices_Delete_int64.calls1 (g cap i : Nat) (xs : List Int) (base : Nat) (ok : Nat → Prop) (w : World) (ho : Kd.R (Kd.int .i64) 2 w base ok (.slice (some ⟨g, 0, none⟩) xs.length cap) xs) (hi : i < xs.length) :
    Calls Try.prog 143 #[.slice (some ⟨g, 0, none⟩) xs.length cap, .int .i64 i, .int .i64 (i + 1)] w fun e w' => e = .returned (.slice (some ⟨g, 0, none⟩) (xs.length - 1) cap) ∧
      Kd.R (Kd.int .i64) 2 w' base ok (.slice (some ⟨g, 0, none⟩) (xs.length - 1) cap) (xs.eraseIdx i) ∧ w.grownBy w' (some g) := by
  have hown := Kd.own_of_R ho
  rcases hown.2 with ⟨hv, _⟩ | ⟨g', cap', cur, hv, hbase, hh, hle, hmax, hcs, htake⟩
  · cases hv
  injection hv with hv1 _ hv3
  injection hv1 with hv1
  injection hv1 with hv1 _ _
  subst hv1 hv3
  rw [Nat.mul_one] at hcs htake
  have hcell : ∀ j, j < xs.length → w.cell? ⟨g, 0 + j, none⟩ = some (.int .i64 xs[j]!) := by
    intro j hj
    rw [Nat.zero_add]
    have h1 : cur.toList[j]? = some (.int .i64 xs[j]!) := by
      have h2 : (cur.toList.take xs.length)[j]? = some (.int .i64 xs[j]!) := by
        rw [htake, encs, List.getElem?_map, List.getElem?_eq_getElem hj]
        simp [getElem!_pos, hj]
      rw [List.getElem?_take, if_pos hj] at h2
      exact h2
    rw [blk_cell hh j, ← Array.getElem?_toList, h1]
  have hH : Go.Sort.Holds (Value.int .i64) w g 0 xs.toArray := by
    intro j hj
    have hj' : j < xs.length := by simpa using hj
    refine ⟨?_, by rw [Nat.zero_add]; exact blk_frozen hh j⟩
    rw [hcell j hj']
    simp [getElem!_pos, hj']
  have hc := AnyG.slices_Delete_int lDelete g 0 cap i (i + 1) xs w hH hle (by unfold maxLen at hmax; omega) (by omega) (by omega)
  have hc2 : Calls Try.prog 143 #[.slice (some ⟨g, 0, none⟩) xs.length cap, .int .i64 (i : Nat), .int .i64 ((i + 1 : Nat) : Int)] w fun e w' => e = .returned (.slice (some ⟨g, 0, none⟩) (xs.length - (i + 1 - i)) cap) ∧ ∃ q, w' = Go.Sort.putRow (Value.int .i64) (Go.Sort.ahead w q) g 0 (xs.take i ++ xs.drop (i + 1) ++ List.replicate (i + 1 - i) 0).toArray := hc
  refine hc2.mono ?_
  rintro e w' ⟨rfl, q, rfl⟩
  have hlen : (xs.eraseIdx i).length = xs.length - 1 := by rw [List.length_eraseIdx]; simp [hi]
  have hd : xs.take i ++ xs.drop (i + 1) ++ List.replicate (i + 1 - i) 0 = xs.eraseIdx i ++ [0] := by
    rw [erase_eq, show i + 1 - i = 1 by omega]; rfl
  rw [hd, show i + 1 - i = 1 by omega]
  have hheap : (Go.Sort.putRow (Value.int .i64) (Go.Sort.ahead w q) g 0 (xs.eraseIdx i ++ [0]).toArray).heap[g]? = some (.cells (Go.Sort.putCells (Value.int .i64) 0 (xs.eraseIdx i ++ [0]).toArray cur) 2 (0, 0)) := by
    show (w.heap.modify g _)[g]? = _
    rw [Array.getElem?_modify, if_pos rfl, hh]
    rfl
  have hfar : ∀ k, k ≠ g → (Go.Sort.putRow (Value.int .i64) (Go.Sort.ahead w q) g 0 (xs.eraseIdx i ++ [0]).toArray).heap[k]? = w.heap[k]? := by
    intro k hk
    show (w.heap.modify g _)[k]? = _
    rw [Array.getElem?_modify, if_neg (Ne.symm hk)]
  refine ⟨rfl, ?_, ⟨rfl, rfl, rfl, ?_, fun k _ hk => hfar k (fun e => hk (by rw [e]))⟩⟩
  · have e1 : xs.length - 1 = (xs.eraseIdx i).length := hlen.symm
    rw [e1]
    refine Kd.R_of_own ⟨by simp [encs], .inr ⟨g, cap, _, rfl, hbase, hheap, by omega, hmax, by simp [Go.Sort.putCells, hcs], ?_⟩⟩ (fun k hk => ho.1 k hk)
    rw [Nat.mul_one]
    apply List.ext_getElem?
    intro j
    rw [List.getElem?_take]
    by_cases hj : j < (xs.eraseIdx i).length
    · rw [if_pos hj, Array.getElem?_toList, Go.Sort.putCells, Array.getElem?_mapIdx, Array.getElem?_eq_getElem (by omega), Option.map_some, if_pos ⟨by omega, by simp; omega⟩, Nat.sub_zero, encs, List.getElem?_map, List.getElem?_eq_getElem hj, Option.map_some]
      congr 2
      rw [List.getElem!_toArray, getElem!_pos _ j (by simp; omega), List.getElem_append_left hj]
    · rw [if_neg hj, List.getElem?_eq_none (by simp [encs]; omega)]
  · show w.heap.size ≤ (w.heap.modify g _).size
    rw [Array.size_modify]
    omega
end Go.Proofs.Ytfaagdpopmnnpaa.P

-- Printed by a program of this session (drv.py), by means of the kit's print.py.
namespace Go.Proofs.Ytfaagdpopmnnpaa.P
open Go.RowKit Go.Proofs.YtfaagdpopmnnpaaW.PrintWords Go.Proofs.YtfaagdpopmnnpaaW.PrintLast Go.Proofs.YtfaagdpopmnnpaaW.PrintMore
attribute [local go_sem] max2_int min2_int max_two min_two max_three min_three max_four min_four   -- for this text's walks alone
set_option linter.unusedVariables false
set_option linter.unusedSimpArgs false
-- HAND loop.example/g00870/impl.perm rounds=0 making=1
/-! impl.perm: the images of the permutation with an index. -/
/-- The blocks by which the digits of an index are told. -/
def permB : Nat → Int
  | 0 => 6
  | 1 => 2
  | _ => 1
def permP (p : Int) : Nat → Int
  | 0 => p
  | i + 1 => permP p i % permB i
def permK (p : Int) (i : Nat) : Int := permP p i / permB i
def permLeft (p : Int) : Nat → List Int
  | 0 => [0, 1, 2, 3]
  | i + 1 => (permLeft p i).eraseIdx (permK p i).toNat
def permAt (p : Int) (i : Nat) : Int := (permLeft p i).getD (permK p i).toNat 0
/-- The images. -/
def permL (p : Int) : List Int := [permAt p 0, permAt p 1, permAt p 2, permAt p 3]
theorem permP_bd (p : Int) (h0 : 0 ≤ p) (h1 : p ≤ 23) : (0 ≤ permP p 0 ∧ permP p 0 ≤ 23) ∧ (0 ≤ permP p 1 ∧ permP p 1 ≤ 5) ∧ (0 ≤ permP p 2 ∧ permP p 2 ≤ 1) ∧ (0 ≤ permP p 3 ∧ permP p 3 ≤ 0) := by
  simp only [permP, permB]; omega
theorem permK_bd (p : Int) (h0 : 0 ≤ p) (h1 : p ≤ 23) : (0 ≤ permK p 0 ∧ permK p 0 < 4) ∧ (0 ≤ permK p 1 ∧ permK p 1 < 3) ∧ (0 ≤ permK p 2 ∧ permK p 2 < 2) ∧ (0 ≤ permK p 3 ∧ permK p 3 < 1) := by
  have := permP_bd p h0 h1
  simp only [permK, permB]; omega
theorem permLeft_len (p : Int) (h0 : 0 ≤ p) (h1 : p ≤ 23) : (permLeft p 0).length = 4 ∧ (permLeft p 1).length = 3 ∧ (permLeft p 2).length = 2 ∧ (permLeft p 3).length = 1 ∧ (permLeft p 4).length = 0 := by
  obtain ⟨a, b, c, d⟩ := permK_bd p h0 h1
  have e0 : (permLeft p 0).length = 4 := rfl
  have e1 : (permLeft p 1).length = 3 := by rw [permLeft, List.length_eraseIdx, e0, if_pos (by omega)]
  have e2 : (permLeft p 2).length = 2 := by rw [permLeft, List.length_eraseIdx, e1, if_pos (by omega)]
  have e3 : (permLeft p 3).length = 1 := by rw [permLeft, List.length_eraseIdx, e2, if_pos (by omega)]
  have e4 : (permLeft p 4).length = 0 := by rw [permLeft, List.length_eraseIdx, e3, if_pos (by omega)]
  exact ⟨e0, e1, e2, e3, e4⟩
theorem new_at {W : World} {n : Nat} (h : W.heap.size = n) (o : Obj) : (W.alloc o).heap[n]? = some o := h ▸ blk_new W o
/-- A value of the array after i rounds. -/
def permO (p : Int) (i j : Nat) : Int := if j < i then permAt p j else 0
set_option maxHeartbeats 8000000 in
set_option maxRecDepth 100000 in
theorem impl_perm.calls (p : Int) (w : World) (h0 : 0 ≤ p) (h1 : p ≤ 23) :
    Calls Try.prog 120 #[.int .i64 p] w fun e w' => e = .returned (.agg #[.int .i64 (permAt p 0), .int .i64 (permAt p 1), .int .i64 (permAt p 2), .int .i64 (permAt p 3)]) ∧ Below w.heap.size w w' := by
  have HP := Aside0.mk (permP_bd p h0 h1)
  have HK := Aside0.mk (permK_bd p h0 h1)
  have HL := Aside0.mk (permLeft_len p h0 h1)
  clear h0 h1
  go_enter Try.func120, Try.ntmps120
  go_wp2_with fail
  go_loopg [0, 4, 11] 4 (fun gg v0 v4 v11 w' => ∃ i : Nat, i ≤ 4 ∧ 4 - i ≤ gg ∧ v11 = .int .i64 i ∧ v0 = .int .i64 (permP p i) ∧ v4 = .slice (some ⟨w.heap.size + 1 + 1, 0, none⟩) (permLeft p i).length 4 ∧
    Aside0 (Kd.R (Kd.int .i64) 2 w' w.heap.size (fun k => k = w.heap.size + 1 + 1) (.slice (some ⟨w.heap.size + 1 + 1, 0, none⟩) (permLeft p i).length 4) (permLeft p i)) ∧
    Aside0 (w'.heap[w.heap.size + 1]? = some (.cells #[.int .i64 (permO p i 0), .int .i64 (permO p i 1), .int .i64 (permO p i 2), .int .i64 (permO p i 3)] 106 (0, 0))) ∧
    Aside0 (w'.heap[w.heap.size]? = some (.cells #[.int .i64 0, .int .i64 0, .int .i64 0, .int .i64 0] 106 (0, 0))) ∧
    Aside0 (w'.heap[w.heap.size + 1 + 1 + 1]? = some (.cells #[.int .i64 6, .int .i64 2, .int .i64 1, .int .i64 1] 2 (0, 0))) ∧ Aside0 (Below w.heap.size w w'))
  case atStart =>
    refine ⟨0, by omega, by omega, rfl, rfl, rfl, ⟨?_⟩, ⟨?_⟩, ⟨?_⟩, ⟨?_⟩, ⟨?_⟩⟩
    · refine Kd.R_of_own ⟨by simp [encs], .inr ⟨w.heap.size + 1 + 1, 4, #[.int .i64 0, .int .i64 1, .int .i64 2, .int .i64 3], rfl, by omega, ?_, Nat.le_refl 4, by decide, rfl, rfl⟩⟩ (fun k hk => by simpa [Value.ownBlock] using hk.symm)
      exact blk_alloc (new_at (by simp) _) _
    · exact blk_alloc (blk_alloc (new_at (by simp) _) _) _
    · exact blk_alloc (blk_alloc (blk_alloc (new_at rfl _) _) _) _
    · exact new_at (by simp) _
    · exact below_alloc (below_alloc (below_alloc (below_alloc (Below.refl _ _) _) _) _) _
  case round =>
    obtain ⟨i, hi, hg, rfl, rfl, rfl, HR, B3, B2, B9, HB⟩ := hrel
    rcases (show i = 4 ∨ i = 3 ∨ i = 2 ∨ i = 1 ∨ i = 0 by omega) with rfl | rfl | rfl | rfl | rfl
    · have c0 : wr.cell? ⟨w.heap.size + 1, 0, none⟩ = some (.int .i64 (permO p 4 0)) := (blk_cell B3.out 0).trans rfl
      have c1 : wr.cell? ⟨w.heap.size + 1, 1, none⟩ = some (.int .i64 (permO p 4 1)) := (blk_cell B3.out 1).trans rfl
      have c2 : wr.cell? ⟨w.heap.size + 1, 2, none⟩ = some (.int .i64 (permO p 4 2)) := (blk_cell B3.out 2).trans rfl
      have c3 : wr.cell? ⟨w.heap.size + 1, 3, none⟩ = some (.int .i64 (permO p 4 3)) := (blk_cell B3.out 3).trans rfl
      have d0 : wr.cell? ⟨w.heap.size, 0, none⟩ = some (.int .i64 0) := (blk_cell B2.out 0).trans rfl
      have d1 : wr.cell? ⟨w.heap.size, 1, none⟩ = some (.int .i64 0) := (blk_cell B2.out 1).trans rfl
      have d2 : wr.cell? ⟨w.heap.size, 2, none⟩ = some (.int .i64 0) := (blk_cell B2.out 2).trans rfl
      have d3 : wr.cell? ⟨w.heap.size, 3, none⟩ = some (.int .i64 0) := (blk_cell B2.out 3).trans rfl
      have f0 := blk_frozen B2.out 0
      have f1 := blk_frozen B2.out 1
      have f2 := blk_frozen B2.out 2
      have f3 := blk_frozen B2.out 3
      have ht := Try.underlying106
      go_wp2
      refine bodyPost_ret (results_cell_row rfl _ _ w.heap.size 106 #[.int .i64 (permO p 4 0), .int .i64 (permO p 4 1), .int .i64 (permO p 4 2), .int .i64 (permO p 4 3)] (0, 0) _ rfl (blk_put (cs := #[.int .i64 (permO p 4 0), .int .i64 (permO p 4 1), .int .i64 (permO p 4 2), .int .i64 0]) (blk_put (cs := #[.int .i64 (permO p 4 0), .int .i64 (permO p 4 1), .int .i64 0, .int .i64 0]) (blk_put (cs := #[.int .i64 (permO p 4 0), .int .i64 0, .int .i64 0, .int .i64 0]) (blk_put B2.out 0 _ rfl) 1 _ rfl) 2 _ rfl) 3 _ rfl) ht rfl (by kernel_rfl)) rfl ⟨rfl, ?_⟩
      exact below_set (below_set (below_set (below_set HB.out (Nat.le_refl _)) (Nat.le_refl _)) (Nat.le_refl _)) (Nat.le_refl _)
    · have hK : 0 ≤ permK p 3 ∧ permK p 3 < (permLeft p 3).length := by have := HK.out; have := HL.out; omega
      have hP : 0 ≤ permP p 3 ∧ permP p 3 ≤ 23 := by have := HP.out; omega
      have HLN := Aside0.mk (show (permLeft p 3).length = 1 by have := HL.out; omega)
      have HLN2 := Aside0.mk (show (permLeft p 4).length = (permLeft p 3).length - 1 by have := HL.out; omega)
      obtain ⟨A1, q1, hA1, hq1, hC⟩ := Kd.R_reads HR.out
      injection hA1 with hA1 hl1 hc1
      subst hA1
      clear hl1 hc1 hq1
      obtain ⟨ad, had, hx⟩ := Kd.at_int hC (permK p 3) hK.1 (by omega)
      injection had with had
      subst had
      rw [add_plain] at hx
      have HAT := Aside0.mk (show rd (permLeft p 3) (permK p 3) = permAt p 3 from rfl)
      rw [HAT.out] at hx
      have HER := Aside0.mk (show (permLeft p 3).eraseIdx (permK p 3).toNat = permLeft p 4 from rfl)
      have hX : permK p 3 = permP p 3 := by have e : permK p 3 = permP p 3 / 1 := rfl; rw [e]; exact Int.ediv_one _
      have HY := Aside0.mk (show 0 = permP p 4 by have e : permP p 4 = permP p 3 % 1 := rfl; rw [e]; omega)
      rw [hX] at hx hK
      have HX := Aside0.mk hX
      clear hX hC
      obtain ⟨hk0, hk1⟩ := hK
      obtain ⟨hp0, hp1⟩ := hP
      have b9 : wr.cell? ⟨w.heap.size + 1 + 1 + 1, 3, none⟩ = some (.int .i64 1) := (blk_cell B9.out 3).trans rfl
      have b3 : wr.cell? ⟨w.heap.size + 1, 3, none⟩ = some (.int .i64 (permO p 3 3)) := (blk_cell B3.out 3).trans rfl
      have f3 := blk_frozen B3.out 3
      have hk2 : permP p 3 < 9223372036854775807 := by omega
      go_wp2_with fail
      have HRw := Aside0.mk (show Kd.R (Kd.int .i64) 2 (wr.setCell ⟨w.heap.size + 1, 3, none⟩ (.int .i64 (permAt p 3))) w.heap.size (fun k => k = w.heap.size + 1 + 1) (.slice (some ⟨w.heap.size + 1 + 1, 0, none⟩) (permLeft p 3).length 4) (permLeft p 3) from Kd.R_far (p := ⟨w.heap.size + 1, 3, none⟩) HR.out (fun k hk => by rw [hk]; show w.heap.size + 1 + 1 ≠ w.heap.size + 1; omega) _)
      refine calls_of_args (args' := #[.slice (some ⟨w.heap.size + 1 + 1, 0, none⟩) (permLeft p 3).length 4, .int .i64 ((permP p 3).toNat : Int), .int .i64 (((permP p 3).toNat : Int) + 1)]) (by rw [Int.toNat_of_nonneg hk0]) ?_
      refine (slices_Delete_int64.calls1 (w.heap.size + 1 + 1) 4 (permP p 3).toNat (permLeft p 3) w.heap.size (fun k => k = w.heap.size + 1 + 1) _ HRw.out (by omega)).mono ?_
      rintro e w1 ⟨rfl, hR1, hg1⟩
      have hl2 := HLN2.out
      have er : (permLeft p 3).eraseIdx (permP p 3).toNat = permLeft p 4 := by rw [← HER.out, HX.out]
      rw [er, ← hl2] at hR1
      rw [← hl2]
      have HR2 := Aside0.mk hR1
      have B3a : (wr.setCell ⟨w.heap.size + 1, 3, none⟩ (.int .i64 (permAt p 3))).heap[w.heap.size + 1]? = some (.cells #[.int .i64 (permO p 4 0), .int .i64 (permO p 4 1), .int .i64 (permO p 4 2), .int .i64 (permO p 4 3)] 106 (0, 0)) := blk_put B3.out 3 _ rfl
      have B3n := Aside0.mk (blk_grown B3a hg1 (by simp))
      have B2n := Aside0.mk (blk_grown (blk_far (p := ⟨w.heap.size + 1, 3, none⟩) B2.out (by show w.heap.size ≠ w.heap.size + 1; omega) (.int .i64 (permAt p 3))) hg1 (by simp; omega))
      have B9n := Aside0.mk (blk_grown (blk_far (p := ⟨w.heap.size + 1, 3, none⟩) B9.out (by show w.heap.size + 1 + 1 + 1 ≠ w.heap.size + 1; omega) (.int .i64 (permAt p 3))) hg1 (by simp))
      have HBn := Aside0.mk (pw_below_grown (below_set (j := 3) (v := .int .i64 (permAt p 3)) HB.out (show w.heap.size ≤ w.heap.size + 1 by omega)) (some (w.heap.size + 1 + 1)) (by have := HB.out.size; simp [World.setCell]; omega) hg1 (fun k hk => by injection hk with hk; omega))
      clear hR1 hg1 B3a HRw B3 B2 B9 HB HR er hl2 hx b9 b3 f3
      go_wp2
      go_roundg (4 - 4)
      case measure => omega
      case rel => exact ⟨4, by omega, by omega, by first | rfl | go_num, by rw [← HY.out], rfl, HR2, B3n, B2n, B9n, HBn⟩
    · have hK : 0 ≤ permK p 2 ∧ permK p 2 < (permLeft p 2).length := by have := HK.out; have := HL.out; omega
      have hP : 0 ≤ permP p 2 ∧ permP p 2 ≤ 23 := by have := HP.out; omega
      have HLN := Aside0.mk (show (permLeft p 2).length = 2 by have := HL.out; omega)
      have HLN2 := Aside0.mk (show (permLeft p 3).length = (permLeft p 2).length - 1 by have := HL.out; omega)
      obtain ⟨A1, q1, hA1, hq1, hC⟩ := Kd.R_reads HR.out
      injection hA1 with hA1 hl1 hc1
      subst hA1
      clear hl1 hc1 hq1
      obtain ⟨ad, had, hx⟩ := Kd.at_int hC (permK p 2) hK.1 (by omega)
      injection had with had
      subst had
      rw [add_plain] at hx
      have HAT := Aside0.mk (show rd (permLeft p 2) (permK p 2) = permAt p 2 from rfl)
      rw [HAT.out] at hx
      have HER := Aside0.mk (show (permLeft p 2).eraseIdx (permK p 2).toNat = permLeft p 3 from rfl)
      have hX : permK p 2 = permP p 2 := by have e : permK p 2 = permP p 2 / 1 := rfl; rw [e]; exact Int.ediv_one _
      have HY := Aside0.mk (show 0 = permP p 3 by have e : permP p 3 = permP p 2 % 1 := rfl; rw [e]; omega)
      rw [hX] at hx hK
      have HX := Aside0.mk hX
      clear hX hC
      obtain ⟨hk0, hk1⟩ := hK
      obtain ⟨hp0, hp1⟩ := hP
      have b9 : wr.cell? ⟨w.heap.size + 1 + 1 + 1, 2, none⟩ = some (.int .i64 1) := (blk_cell B9.out 2).trans rfl
      have b3 : wr.cell? ⟨w.heap.size + 1, 2, none⟩ = some (.int .i64 (permO p 2 2)) := (blk_cell B3.out 2).trans rfl
      have f3 := blk_frozen B3.out 2
      have hk2 : permP p 2 < 9223372036854775807 := by omega
      go_wp2_with fail
      have HRw := Aside0.mk (show Kd.R (Kd.int .i64) 2 (wr.setCell ⟨w.heap.size + 1, 2, none⟩ (.int .i64 (permAt p 2))) w.heap.size (fun k => k = w.heap.size + 1 + 1) (.slice (some ⟨w.heap.size + 1 + 1, 0, none⟩) (permLeft p 2).length 4) (permLeft p 2) from Kd.R_far (p := ⟨w.heap.size + 1, 2, none⟩) HR.out (fun k hk => by rw [hk]; show w.heap.size + 1 + 1 ≠ w.heap.size + 1; omega) _)
      refine calls_of_args (args' := #[.slice (some ⟨w.heap.size + 1 + 1, 0, none⟩) (permLeft p 2).length 4, .int .i64 ((permP p 2).toNat : Int), .int .i64 (((permP p 2).toNat : Int) + 1)]) (by rw [Int.toNat_of_nonneg hk0]) ?_
      refine (slices_Delete_int64.calls1 (w.heap.size + 1 + 1) 4 (permP p 2).toNat (permLeft p 2) w.heap.size (fun k => k = w.heap.size + 1 + 1) _ HRw.out (by omega)).mono ?_
      rintro e w1 ⟨rfl, hR1, hg1⟩
      have hl2 := HLN2.out
      have er : (permLeft p 2).eraseIdx (permP p 2).toNat = permLeft p 3 := by rw [← HER.out, HX.out]
      rw [er, ← hl2] at hR1
      rw [← hl2]
      have HR2 := Aside0.mk hR1
      have B3a : (wr.setCell ⟨w.heap.size + 1, 2, none⟩ (.int .i64 (permAt p 2))).heap[w.heap.size + 1]? = some (.cells #[.int .i64 (permO p 3 0), .int .i64 (permO p 3 1), .int .i64 (permO p 3 2), .int .i64 (permO p 3 3)] 106 (0, 0)) := blk_put B3.out 2 _ rfl
      have B3n := Aside0.mk (blk_grown B3a hg1 (by simp))
      have B2n := Aside0.mk (blk_grown (blk_far (p := ⟨w.heap.size + 1, 2, none⟩) B2.out (by show w.heap.size ≠ w.heap.size + 1; omega) (.int .i64 (permAt p 2))) hg1 (by simp; omega))
      have B9n := Aside0.mk (blk_grown (blk_far (p := ⟨w.heap.size + 1, 2, none⟩) B9.out (by show w.heap.size + 1 + 1 + 1 ≠ w.heap.size + 1; omega) (.int .i64 (permAt p 2))) hg1 (by simp))
      have HBn := Aside0.mk (pw_below_grown (below_set (j := 2) (v := .int .i64 (permAt p 2)) HB.out (show w.heap.size ≤ w.heap.size + 1 by omega)) (some (w.heap.size + 1 + 1)) (by have := HB.out.size; simp [World.setCell]; omega) hg1 (fun k hk => by injection hk with hk; omega))
      clear hR1 hg1 B3a HRw B3 B2 B9 HB HR er hl2 hx b9 b3 f3
      go_wp2
      go_roundg (4 - 3)
      case measure => omega
      case rel => exact ⟨3, by omega, by omega, by first | rfl | go_num, by rw [← HY.out], rfl, HR2, B3n, B2n, B9n, HBn⟩
    · have hK : 0 ≤ permK p 1 ∧ permK p 1 < (permLeft p 1).length := by have := HK.out; have := HL.out; omega
      have hP : 0 ≤ permP p 1 ∧ permP p 1 ≤ 23 := by have := HP.out; omega
      have HLN := Aside0.mk (show (permLeft p 1).length = 3 by have := HL.out; omega)
      have HLN2 := Aside0.mk (show (permLeft p 2).length = (permLeft p 1).length - 1 by have := HL.out; omega)
      obtain ⟨A1, q1, hA1, hq1, hC⟩ := Kd.R_reads HR.out
      injection hA1 with hA1 hl1 hc1
      subst hA1
      clear hl1 hc1 hq1
      obtain ⟨ad, had, hx⟩ := Kd.at_int hC (permK p 1) hK.1 (by omega)
      injection had with had
      subst had
      rw [add_plain] at hx
      have HAT := Aside0.mk (show rd (permLeft p 1) (permK p 1) = permAt p 1 from rfl)
      rw [HAT.out] at hx
      have HER := Aside0.mk (show (permLeft p 1).eraseIdx (permK p 1).toNat = permLeft p 2 from rfl)
      have hX : permK p 1 = permP p 1 / 2 := by have e : permK p 1 = permP p 1 / 2 := rfl; rw [e]
      have HY := Aside0.mk (show permP p 1 % 2 = permP p 2 by have e : permP p 2 = permP p 1 % 2 := rfl; rw [e])
      rw [hX] at hx hK
      have HX := Aside0.mk hX
      clear hX hC
      obtain ⟨hk0, hk1⟩ := hK
      obtain ⟨hp0, hp1⟩ := hP
      have b9 : wr.cell? ⟨w.heap.size + 1 + 1 + 1, 1, none⟩ = some (.int .i64 2) := (blk_cell B9.out 1).trans rfl
      have b3 : wr.cell? ⟨w.heap.size + 1, 1, none⟩ = some (.int .i64 (permO p 1 1)) := (blk_cell B3.out 1).trans rfl
      have f3 := blk_frozen B3.out 1
      have hk2 : permP p 1 / 2 < 9223372036854775807 := by omega
      go_wp2_with fail
      have HRw := Aside0.mk (show Kd.R (Kd.int .i64) 2 (wr.setCell ⟨w.heap.size + 1, 1, none⟩ (.int .i64 (permAt p 1))) w.heap.size (fun k => k = w.heap.size + 1 + 1) (.slice (some ⟨w.heap.size + 1 + 1, 0, none⟩) (permLeft p 1).length 4) (permLeft p 1) from Kd.R_far (p := ⟨w.heap.size + 1, 1, none⟩) HR.out (fun k hk => by rw [hk]; show w.heap.size + 1 + 1 ≠ w.heap.size + 1; omega) _)
      refine calls_of_args (args' := #[.slice (some ⟨w.heap.size + 1 + 1, 0, none⟩) (permLeft p 1).length 4, .int .i64 ((permP p 1 / 2).toNat : Int), .int .i64 (((permP p 1 / 2).toNat : Int) + 1)]) (by rw [Int.toNat_of_nonneg hk0]) ?_
      refine (slices_Delete_int64.calls1 (w.heap.size + 1 + 1) 4 (permP p 1 / 2).toNat (permLeft p 1) w.heap.size (fun k => k = w.heap.size + 1 + 1) _ HRw.out (by omega)).mono ?_
      rintro e w1 ⟨rfl, hR1, hg1⟩
      have hl2 := HLN2.out
      have er : (permLeft p 1).eraseIdx (permP p 1 / 2).toNat = permLeft p 2 := by rw [← HER.out, HX.out]
      rw [er, ← hl2] at hR1
      rw [← hl2]
      have HR2 := Aside0.mk hR1
      have B3a : (wr.setCell ⟨w.heap.size + 1, 1, none⟩ (.int .i64 (permAt p 1))).heap[w.heap.size + 1]? = some (.cells #[.int .i64 (permO p 2 0), .int .i64 (permO p 2 1), .int .i64 (permO p 2 2), .int .i64 (permO p 2 3)] 106 (0, 0)) := blk_put B3.out 1 _ rfl
      have B3n := Aside0.mk (blk_grown B3a hg1 (by simp))
      have B2n := Aside0.mk (blk_grown (blk_far (p := ⟨w.heap.size + 1, 1, none⟩) B2.out (by show w.heap.size ≠ w.heap.size + 1; omega) (.int .i64 (permAt p 1))) hg1 (by simp; omega))
      have B9n := Aside0.mk (blk_grown (blk_far (p := ⟨w.heap.size + 1, 1, none⟩) B9.out (by show w.heap.size + 1 + 1 + 1 ≠ w.heap.size + 1; omega) (.int .i64 (permAt p 1))) hg1 (by simp))
      have HBn := Aside0.mk (pw_below_grown (below_set (j := 1) (v := .int .i64 (permAt p 1)) HB.out (show w.heap.size ≤ w.heap.size + 1 by omega)) (some (w.heap.size + 1 + 1)) (by have := HB.out.size; simp [World.setCell]; omega) hg1 (fun k hk => by injection hk with hk; omega))
      clear hR1 hg1 B3a HRw B3 B2 B9 HB HR er hl2 hx b9 b3 f3
      go_wp2
      go_roundg (4 - 2)
      case measure => omega
      case rel => exact ⟨2, by omega, by omega, by first | rfl | go_num, by rw [← HY.out], rfl, HR2, B3n, B2n, B9n, HBn⟩
    · have hK : 0 ≤ permK p 0 ∧ permK p 0 < (permLeft p 0).length := by have := HK.out; have := HL.out; omega
      have hP : 0 ≤ permP p 0 ∧ permP p 0 ≤ 23 := by have := HP.out; omega
      have HLN := Aside0.mk (show (permLeft p 0).length = 4 by have := HL.out; omega)
      have HLN2 := Aside0.mk (show (permLeft p 1).length = (permLeft p 0).length - 1 by have := HL.out; omega)
      obtain ⟨A1, q1, hA1, hq1, hC⟩ := Kd.R_reads HR.out
      injection hA1 with hA1 hl1 hc1
      subst hA1
      clear hl1 hc1 hq1
      obtain ⟨ad, had, hx⟩ := Kd.at_int hC (permK p 0) hK.1 (by omega)
      injection had with had
      subst had
      rw [add_plain] at hx
      have HAT := Aside0.mk (show rd (permLeft p 0) (permK p 0) = permAt p 0 from rfl)
      rw [HAT.out] at hx
      have HER := Aside0.mk (show (permLeft p 0).eraseIdx (permK p 0).toNat = permLeft p 1 from rfl)
      have hX : permK p 0 = permP p 0 / 6 := by have e : permK p 0 = permP p 0 / 6 := rfl; rw [e]
      have HY := Aside0.mk (show permP p 0 % 6 = permP p 1 by have e : permP p 1 = permP p 0 % 6 := rfl; rw [e])
      rw [hX] at hx hK
      have HX := Aside0.mk hX
      clear hX hC
      obtain ⟨hk0, hk1⟩ := hK
      obtain ⟨hp0, hp1⟩ := hP
      have b9 : wr.cell? ⟨w.heap.size + 1 + 1 + 1, 0, none⟩ = some (.int .i64 6) := (blk_cell B9.out 0).trans rfl
      have b3 : wr.cell? ⟨w.heap.size + 1, 0, none⟩ = some (.int .i64 (permO p 0 0)) := (blk_cell B3.out 0).trans rfl
      have f3 := blk_frozen B3.out 0
      have hk2 : permP p 0 / 6 < 9223372036854775807 := by omega
      go_wp2_with fail
      have HRw := Aside0.mk (show Kd.R (Kd.int .i64) 2 (wr.setCell ⟨w.heap.size + 1, 0, none⟩ (.int .i64 (permAt p 0))) w.heap.size (fun k => k = w.heap.size + 1 + 1) (.slice (some ⟨w.heap.size + 1 + 1, 0, none⟩) (permLeft p 0).length 4) (permLeft p 0) from Kd.R_far (p := ⟨w.heap.size + 1, 0, none⟩) HR.out (fun k hk => by rw [hk]; show w.heap.size + 1 + 1 ≠ w.heap.size + 1; omega) _)
      refine calls_of_args (args' := #[.slice (some ⟨w.heap.size + 1 + 1, 0, none⟩) (permLeft p 0).length 4, .int .i64 ((permP p 0 / 6).toNat : Int), .int .i64 (((permP p 0 / 6).toNat : Int) + 1)]) (by rw [Int.toNat_of_nonneg hk0]) ?_
      refine (slices_Delete_int64.calls1 (w.heap.size + 1 + 1) 4 (permP p 0 / 6).toNat (permLeft p 0) w.heap.size (fun k => k = w.heap.size + 1 + 1) _ HRw.out (by omega)).mono ?_
      rintro e w1 ⟨rfl, hR1, hg1⟩
      have hl2 := HLN2.out
      have er : (permLeft p 0).eraseIdx (permP p 0 / 6).toNat = permLeft p 1 := by rw [← HER.out, HX.out]
      rw [er, ← hl2] at hR1
      rw [← hl2]
      have HR2 := Aside0.mk hR1
      have B3a : (wr.setCell ⟨w.heap.size + 1, 0, none⟩ (.int .i64 (permAt p 0))).heap[w.heap.size + 1]? = some (.cells #[.int .i64 (permO p 1 0), .int .i64 (permO p 1 1), .int .i64 (permO p 1 2), .int .i64 (permO p 1 3)] 106 (0, 0)) := blk_put B3.out 0 _ rfl
      have B3n := Aside0.mk (blk_grown B3a hg1 (by simp))
      have B2n := Aside0.mk (blk_grown (blk_far (p := ⟨w.heap.size + 1, 0, none⟩) B2.out (by show w.heap.size ≠ w.heap.size + 1; omega) (.int .i64 (permAt p 0))) hg1 (by simp; omega))
      have B9n := Aside0.mk (blk_grown (blk_far (p := ⟨w.heap.size + 1, 0, none⟩) B9.out (by show w.heap.size + 1 + 1 + 1 ≠ w.heap.size + 1; omega) (.int .i64 (permAt p 0))) hg1 (by simp))
      have HBn := Aside0.mk (pw_below_grown (below_set (j := 0) (v := .int .i64 (permAt p 0)) HB.out (show w.heap.size ≤ w.heap.size + 1 by omega)) (some (w.heap.size + 1 + 1)) (by have := HB.out.size; simp [World.setCell]; omega) hg1 (fun k hk => by injection hk with hk; omega))
      clear hR1 hg1 B3a HRw B3 B2 B9 HB HR er hl2 hx b9 b3 f3
      go_wp2
      go_roundg (4 - 1)
      case measure => omega
      case rel => exact ⟨1, by omega, by omega, by first | rfl | go_num, by rw [← HY.out], rfl, HR2, B3n, B2n, B9n, HBn⟩
end Go.Proofs.Ytfaagdpopmnnpaa.P

-- Printed by a program of this session (drv.py), by means of the kit's print.py.
namespace Go.Proofs.Ytfaagdpopmnnpaa.P
open Go.RowKit Go.Proofs.YtfaagdpopmnnpaaW.PrintWords Go.Proofs.YtfaagdpopmnnpaaW.PrintLast Go.Proofs.YtfaagdpopmnnpaaW.PrintMore
attribute [local go_sem] max2_int min2_int max_two min_two max_three min_three max_four min_four   -- for this text's walks alone
set_option linter.unusedVariables false
set_option linter.unusedSimpArgs false
-- HAND loop.example/g00870/impl.signOf rounds=0 making=1
/-! signOf: 1 for an even and -1 for an odd permutation. -/
/-- The sign after j elements ahead of element i. -/
def sgJ (l : List Int) (i : Nat) (s : Int) : Nat → Int
  | 0 => s
  | j + 1 => if rd l j > rd l i then -(sgJ l i s j) else sgJ l i s j
/-- The sign after i elements. -/
def sgI (l : List Int) : Nat → Int
  | 0 => 1
  | i + 1 => sgJ l i (sgI l i) i
def sgnP (p : Int) : Int := sgI (permL p) 4
theorem sgJ_bd (l : List Int) (i : Nat) (s : Int) (h : -1 ≤ s ∧ s ≤ 1) : ∀ j, -1 ≤ sgJ l i s j ∧ sgJ l i s j ≤ 1
  | 0 => h
  | j + 1 => by have := sgJ_bd l i s h j; unfold sgJ; split <;> omega
theorem sgI_bd (l : List Int) : ∀ i, -1 ≤ sgI l i ∧ sgI l i ≤ 1
  | 0 => by unfold sgI; omega
  | i + 1 => sgJ_bd l i _ (sgI_bd l i) i
def impl_signOf.f (a0 : Int) : Option Int := if 0 ≤ a0 ∧ a0 ≤ 23 then some (sgnP a0) else none
set_option maxHeartbeats 8000000 in
set_option maxRecDepth 100000 in
theorem impl_signOf.calls (a0 : Int) (r : Int) (w : World) (h : impl_signOf.f a0 = some r) :
    Calls Try.prog 76 #[.int .i64 a0] w fun e w' => e = .returned (.int .i64 r) ∧ Below w.heap.size w w' := by
  unfold impl_signOf.f at h
  by_cases hc : 0 ≤ a0 ∧ a0 ≤ 23
  case neg => rw [if_neg hc] at h; exact absurd h (by simp)
  rw [if_pos hc] at h
  have hr : sgnP a0 = r := Option.some.inj h
  clear h
  subst hr
  obtain ⟨h0, h1⟩ := hc
  have H0 := Aside0.mk h0
  have H1 := Aside0.mk h1
  clear h0 h1
  go_enter Try.func76, Try.ntmps76
  go_wp2_with fail
  refine (impl_perm.calls _ _ H0.out H1.out).mono ?_
  rintro e w1 ⟨rfl, hb⟩
  have HB := Aside0.mk hb
  clear hb
  have HPL := Aside0.mk (show permL a0 = [permAt a0 0, permAt a0 1, permAt a0 2, permAt a0 3] from rfl)
  have HIP := Aside0.mk (show sgnP a0 = sgI (permL a0) 4 from rfl)
  generalize permL a0 = l at HPL HIP
  generalize permAt a0 0 = x0 at HPL ⊢
  generalize permAt a0 1 = x1 at HPL ⊢
  generalize permAt a0 2 = x2 at HPL ⊢
  generalize permAt a0 3 = x3 at HPL ⊢
  have HL := Aside0.mk (sgI_bd l)
  go_wp2_with fail
  go_loopg [4, 12] 4 (fun gg v4 v12 w' => ∃ i : Nat, i ≤ 4 ∧ 4 - i ≤ gg ∧ v12 = .int .i64 i ∧ v4 = .int .i64 (sgI l i) ∧
    Aside0 (w'.heap[w1.heap.size]? = some (.cells #[.int .i64 x0, .int .i64 x1, .int .i64 x2, .int .i64 x3] 106 (0, 0))) ∧ Aside0 (Below w.heap.size w w'))
  case atStart => exact ⟨0, by omega, by omega, rfl, rfl, ⟨new_at4 rfl _⟩, ⟨below_alloc HB.out _⟩⟩
  case round =>
    clear HB
    obtain ⟨i, hi, hg, rfl, rfl, B, HB⟩ := hrel
    rcases (show i = 4 ∨ i = 3 ∨ i = 2 ∨ i = 1 ∨ i = 0 by omega) with rfl | rfl | rfl | rfl | rfl
    · go_wp2
      go_ret
      exact ⟨by rw [HIP.out]; rfl, HB.out⟩
    · have HD := Aside0.mk (show ∀ j : Nat, sgJ l 3 (sgI l 3) (j + 1) = if rd l j > rd l (3 : Nat) then -(sgJ l 3 (sgI l 3) j) else sgJ l 3 (sgI l 3) j from fun _ => rfl)
      have HE := Aside0.mk (show sgI l (3 + 1) = sgJ l 3 (sgI l 3) 3 from rfl)
      have HJ := Aside0.mk (sgJ_bd l 3 _ (HL.out 3))
      have HX := Aside0.mk (show rd l (3 : Nat) = x3 by rw [HPL.out]; rfl)
      have HZ := Aside0.mk (show sgI l 3 = sgJ l 3 (sgI l 3) 0 from rfl)
      have hidx : ∀ w_ : World, (Instr.index 106 (.agg #[.int .i64 x0, .int .i64 x1, .int .i64 x2, .int .i64 x3]) (.int .i64 3)).run Try.prog w_ = .ok (.int .i64 x3) w_ := arr_index x0 x1 x2 x3 3 (by omega) (by omega)
      go_wp2_with fail
      go_loopg [4, 19] 3 (fun gg v4 v19 w' => ∃ j : Nat, j ≤ 3 ∧ 3 - j ≤ gg ∧ v19 = .int .i64 j ∧ v4 = .int .i64 (sgJ l 3 (sgI l 3) j) ∧ w' = wr)
      case atStart => exact ⟨0, by omega, by omega, rfl, by rw [← HZ.out], rfl⟩
      case round =>
        obtain ⟨j, hj, hg2, rfl, rfl, rfl⟩ := hrel
        by_cases hlt : j < 3
        · have hltz : (j : Int) < 3 := by omega
          have bj : wr.cell? ⟨w1.heap.size, j, none⟩ = some (.int .i64 (rd l (j : Nat))) := by
            have := arr_cell B.out (j : Int) (by omega) (by omega)
            rw [← HPL.out, Int.toNat_natCast] at this
            exact this
          have hbd := HJ.out j
          obtain ⟨hbd1, hbd2⟩ := hbd
          have HN := Aside0.mk (HD.out j)
          rw [HX.out] at HN
          generalize sgJ l 3 (sgI l 3) j = sv at HN hbd1 hbd2 ⊢
          generalize rd l (j : Nat) = xj at bj HN
          by_cases hless : xj > x3
          · have hd1 : decide (x3 < xj) = true := decide_eq_true hless
            go_wp2
            go_roundg (3 - (j + 1))
            case measure => omega
            case rel => exact ⟨j + 1, by omega, by omega, by go_num, by rw [HN.out, if_pos hless], rfl⟩
          · have hd1 : decide (x3 < xj) = false := decide_eq_false hless
            go_wp2
            go_roundg (3 - (j + 1))
            case measure => omega
            case rel => exact ⟨j + 1, by omega, by omega, by go_num, by rw [HN.out, if_neg (by omega)], rfl⟩
        · obtain rfl : j = 3 := by omega
          have HK := Aside0.mk HE.out.symm
          generalize sgJ l 3 (sgI l 3) 3 = sv at HK ⊢
          go_wp2
          go_roundg (4 - (3 + 1))
          case measure => omega
          case rel => exact ⟨3 + 1, by omega, by omega, by first | rfl | go_num, by rw [HK.out], B, HB⟩
    · have HD := Aside0.mk (show ∀ j : Nat, sgJ l 2 (sgI l 2) (j + 1) = if rd l j > rd l (2 : Nat) then -(sgJ l 2 (sgI l 2) j) else sgJ l 2 (sgI l 2) j from fun _ => rfl)
      have HE := Aside0.mk (show sgI l (2 + 1) = sgJ l 2 (sgI l 2) 2 from rfl)
      have HJ := Aside0.mk (sgJ_bd l 2 _ (HL.out 2))
      have HX := Aside0.mk (show rd l (2 : Nat) = x2 by rw [HPL.out]; rfl)
      have HZ := Aside0.mk (show sgI l 2 = sgJ l 2 (sgI l 2) 0 from rfl)
      have hidx : ∀ w_ : World, (Instr.index 106 (.agg #[.int .i64 x0, .int .i64 x1, .int .i64 x2, .int .i64 x3]) (.int .i64 2)).run Try.prog w_ = .ok (.int .i64 x2) w_ := arr_index x0 x1 x2 x3 2 (by omega) (by omega)
      go_wp2_with fail
      go_loopg [4, 19] 2 (fun gg v4 v19 w' => ∃ j : Nat, j ≤ 2 ∧ 2 - j ≤ gg ∧ v19 = .int .i64 j ∧ v4 = .int .i64 (sgJ l 2 (sgI l 2) j) ∧ w' = wr)
      case atStart => exact ⟨0, by omega, by omega, rfl, by rw [← HZ.out], rfl⟩
      case round =>
        obtain ⟨j, hj, hg2, rfl, rfl, rfl⟩ := hrel
        by_cases hlt : j < 2
        · have hltz : (j : Int) < 2 := by omega
          have bj : wr.cell? ⟨w1.heap.size, j, none⟩ = some (.int .i64 (rd l (j : Nat))) := by
            have := arr_cell B.out (j : Int) (by omega) (by omega)
            rw [← HPL.out, Int.toNat_natCast] at this
            exact this
          have hbd := HJ.out j
          obtain ⟨hbd1, hbd2⟩ := hbd
          have HN := Aside0.mk (HD.out j)
          rw [HX.out] at HN
          generalize sgJ l 2 (sgI l 2) j = sv at HN hbd1 hbd2 ⊢
          generalize rd l (j : Nat) = xj at bj HN
          by_cases hless : xj > x2
          · have hd1 : decide (x2 < xj) = true := decide_eq_true hless
            go_wp2
            go_roundg (2 - (j + 1))
            case measure => omega
            case rel => exact ⟨j + 1, by omega, by omega, by go_num, by rw [HN.out, if_pos hless], rfl⟩
          · have hd1 : decide (x2 < xj) = false := decide_eq_false hless
            go_wp2
            go_roundg (2 - (j + 1))
            case measure => omega
            case rel => exact ⟨j + 1, by omega, by omega, by go_num, by rw [HN.out, if_neg (by omega)], rfl⟩
        · obtain rfl : j = 2 := by omega
          have HK := Aside0.mk HE.out.symm
          generalize sgJ l 2 (sgI l 2) 2 = sv at HK ⊢
          go_wp2
          go_roundg (4 - (2 + 1))
          case measure => omega
          case rel => exact ⟨2 + 1, by omega, by omega, by first | rfl | go_num, by rw [HK.out], B, HB⟩
    · have HD := Aside0.mk (show ∀ j : Nat, sgJ l 1 (sgI l 1) (j + 1) = if rd l j > rd l (1 : Nat) then -(sgJ l 1 (sgI l 1) j) else sgJ l 1 (sgI l 1) j from fun _ => rfl)
      have HE := Aside0.mk (show sgI l (1 + 1) = sgJ l 1 (sgI l 1) 1 from rfl)
      have HJ := Aside0.mk (sgJ_bd l 1 _ (HL.out 1))
      have HX := Aside0.mk (show rd l (1 : Nat) = x1 by rw [HPL.out]; rfl)
      have HZ := Aside0.mk (show sgI l 1 = sgJ l 1 (sgI l 1) 0 from rfl)
      have hidx : ∀ w_ : World, (Instr.index 106 (.agg #[.int .i64 x0, .int .i64 x1, .int .i64 x2, .int .i64 x3]) (.int .i64 1)).run Try.prog w_ = .ok (.int .i64 x1) w_ := arr_index x0 x1 x2 x3 1 (by omega) (by omega)
      go_wp2_with fail
      go_loopg [4, 19] 1 (fun gg v4 v19 w' => ∃ j : Nat, j ≤ 1 ∧ 1 - j ≤ gg ∧ v19 = .int .i64 j ∧ v4 = .int .i64 (sgJ l 1 (sgI l 1) j) ∧ w' = wr)
      case atStart => exact ⟨0, by omega, by omega, rfl, by rw [← HZ.out], rfl⟩
      case round =>
        obtain ⟨j, hj, hg2, rfl, rfl, rfl⟩ := hrel
        by_cases hlt : j < 1
        · have hltz : (j : Int) < 1 := by omega
          have bj : wr.cell? ⟨w1.heap.size, j, none⟩ = some (.int .i64 (rd l (j : Nat))) := by
            have := arr_cell B.out (j : Int) (by omega) (by omega)
            rw [← HPL.out, Int.toNat_natCast] at this
            exact this
          have hbd := HJ.out j
          obtain ⟨hbd1, hbd2⟩ := hbd
          have HN := Aside0.mk (HD.out j)
          rw [HX.out] at HN
          generalize sgJ l 1 (sgI l 1) j = sv at HN hbd1 hbd2 ⊢
          generalize rd l (j : Nat) = xj at bj HN
          by_cases hless : xj > x1
          · have hd1 : decide (x1 < xj) = true := decide_eq_true hless
            go_wp2
            go_roundg (1 - (j + 1))
            case measure => omega
            case rel => exact ⟨j + 1, by omega, by omega, by go_num, by rw [HN.out, if_pos hless], rfl⟩
          · have hd1 : decide (x1 < xj) = false := decide_eq_false hless
            go_wp2
            go_roundg (1 - (j + 1))
            case measure => omega
            case rel => exact ⟨j + 1, by omega, by omega, by go_num, by rw [HN.out, if_neg (by omega)], rfl⟩
        · obtain rfl : j = 1 := by omega
          have HK := Aside0.mk HE.out.symm
          generalize sgJ l 1 (sgI l 1) 1 = sv at HK ⊢
          go_wp2
          go_roundg (4 - (1 + 1))
          case measure => omega
          case rel => exact ⟨1 + 1, by omega, by omega, by first | rfl | go_num, by rw [HK.out], B, HB⟩
    · have HD := Aside0.mk (show ∀ j : Nat, sgJ l 0 (sgI l 0) (j + 1) = if rd l j > rd l (0 : Nat) then -(sgJ l 0 (sgI l 0) j) else sgJ l 0 (sgI l 0) j from fun _ => rfl)
      have HE := Aside0.mk (show sgI l (0 + 1) = sgJ l 0 (sgI l 0) 0 from rfl)
      have HJ := Aside0.mk (sgJ_bd l 0 _ (HL.out 0))
      have HX := Aside0.mk (show rd l (0 : Nat) = x0 by rw [HPL.out]; rfl)
      have HZ := Aside0.mk (show sgI l 0 = sgJ l 0 (sgI l 0) 0 from rfl)
      have hidx : ∀ w_ : World, (Instr.index 106 (.agg #[.int .i64 x0, .int .i64 x1, .int .i64 x2, .int .i64 x3]) (.int .i64 0)).run Try.prog w_ = .ok (.int .i64 x0) w_ := arr_index x0 x1 x2 x3 0 (by omega) (by omega)
      go_wp2_with fail
      go_loopg [4, 19] 0 (fun gg v4 v19 w' => ∃ j : Nat, j ≤ 0 ∧ 0 - j ≤ gg ∧ v19 = .int .i64 j ∧ v4 = .int .i64 (sgJ l 0 (sgI l 0) j) ∧ w' = wr)
      case atStart => exact ⟨0, by omega, by omega, rfl, by rw [← HZ.out], rfl⟩
      case round =>
        obtain ⟨j, hj, hg2, rfl, rfl, rfl⟩ := hrel
        by_cases hlt : j < 0
        · have hltz : (j : Int) < 0 := by omega
          have bj : wr.cell? ⟨w1.heap.size, j, none⟩ = some (.int .i64 (rd l (j : Nat))) := by
            have := arr_cell B.out (j : Int) (by omega) (by omega)
            rw [← HPL.out, Int.toNat_natCast] at this
            exact this
          have hbd := HJ.out j
          obtain ⟨hbd1, hbd2⟩ := hbd
          have HN := Aside0.mk (HD.out j)
          rw [HX.out] at HN
          generalize sgJ l 0 (sgI l 0) j = sv at HN hbd1 hbd2 ⊢
          generalize rd l (j : Nat) = xj at bj HN
          by_cases hless : xj > x0
          · have hd1 : decide (x0 < xj) = true := decide_eq_true hless
            go_wp2
            go_roundg (0 - (j + 1))
            case measure => omega
            case rel => exact ⟨j + 1, by omega, by omega, by go_num, by rw [HN.out, if_pos hless], rfl⟩
          · have hd1 : decide (x0 < xj) = false := decide_eq_false hless
            go_wp2
            go_roundg (0 - (j + 1))
            case measure => omega
            case rel => exact ⟨j + 1, by omega, by omega, by go_num, by rw [HN.out, if_neg (by omega)], rfl⟩
        · obtain rfl : j = 0 := by omega
          have HK := Aside0.mk HE.out.symm
          generalize sgJ l 0 (sgI l 0) 0 = sv at HK ⊢
          go_wp2
          go_roundg (4 - (0 + 1))
          case measure => omega
          case rel => exact ⟨0 + 1, by omega, by omega, by first | rfl | go_num, by rw [HK.out], B, HB⟩
end Go.Proofs.Ytfaagdpopmnnpaa.P

-- Printed by a program of this session (drv.py), by means of the kit's print.py.
namespace Go.Proofs.Ytfaagdpopmnnpaa.P
open Go.RowKit Go.Proofs.YtfaagdpopmnnpaaW.PrintWords Go.Proofs.YtfaagdpopmnnpaaW.PrintLast Go.Proofs.YtfaagdpopmnnpaaW.PrintMore
attribute [local go_sem] max2_int min2_int max_two min_two max_three min_three max_four min_four   -- for this text's walks alone
set_option linter.unusedVariables false
set_option linter.unusedSimpArgs false
-- HAND LIB signed2 rounds=0 making=0
/-! orientation's literal: the faces of a tetrahedron, one after the other. -/
/-- What the faces of a tetrahedron come to. -/
def visAll (i : Int) : List SFace → List Int × List Int × Bool → List Int × List Int × Bool
  | [], s => s
  | x :: xs, s => visAll i xs (if x.f0 < 0 then s else vis s.1 s.2.1 s.2.2 i x.f0 (wrap64 (-(sgnP x.f1))))
theorem vis_sg (sg qu : List Int) (ok : Bool) (i k t : Int) : (vis sg qu ok i k t).1.length = sg.length := by
  unfold vis
  split
  · simp
  · split <;> rfl
theorem vis_qu (sg qu : List Int) (ok : Bool) (i k t : Int) : (vis sg qu ok i k t).2.1 = qu ∨ (vis sg qu ok i k t).2.1 = qu ++ [k] := by
  unfold vis; split
  · exact .inr rfl
  · split <;> exact .inl rfl
theorem rd_app (qu : List Int) (k i : Int) (h0 : 0 ≤ i) (h1 : i < qu.length) : rd (qu ++ [k]) i = rd qu i := by
  have h2 : i.toNat < qu.length := by omega
  simp [rd, List.getD_eq_getElem?_getD, List.getElem?_append_left h2]
theorem sgnP_bd (p : Int) : -1 ≤ sgnP p ∧ sgnP p ≤ 1 := sgI_bd _ _
/-- A call through a function value, in a drawn region. -/
theorem goesF_ {P : Program} {ops : Array Oper} {Q : Exit → Act → World → Prop} {oi : Oper} {N : Option Tmp} {a : Act} {w : World} {K : Act → World → Prop} {f : FuncId} {fn : Func} {t : Tmp} {as_ : Array Operand} {ts : Array TypeId} {caps : Array Value} (hf : P.funcs[f]? = some fn) (hname : (fn.name == "runtime.NumGoroutine") = false) (hb : fn.body.isSome = true) (args all : Array Value)
    (hw : Region.wanted oi (yielded ops a.tmps) = true) (hN : oi.dst = N) (hop : oi.op = .call { callee := .value (.tmp t), args := as_, argTypes := ts }) (ht : a.eval (.tmp t) = .func (.func f) #[] caps) (hargs : as_.map a.eval = args) (hall : args ++ caps = all)
    (h : Calls P f all w fun e w' => ∃ v, e = .returned v ∧ K (a.put N v) w') : if Region.wanted oi (yielded ops a.tmps) = true then Oper.wp P oi a w K Q else K (a.put N undef) w := by
  subst hall
  refine call_ f (args ++ caps) hw hN ?_ h
  have he := enters_ hf hname hb (args ++ caps) w
  unfold execOp
  simp [hop, resolve, Deferred.ofValue, invoke, ht, hargs, he]
set_option maxHeartbeats 8000000 in
set_option maxRecDepth 100000 in
theorem impl_orientation_1.calls (l : List (List SFace)) (A0 : Option Addr) (c0 gt : Nat) (x : Int) (gs gq gi go bs cs : Nat) (i : Int) (sg0 qu0 : List Int) (ok0 : Bool) (vq0 : Value) (w0 w : World)
    (hS : Sg w0 w gs gq gi go bs cs i sg0 qu0 ok0 vq0) (bT : w0.heap[gt]? = some (.cells #[.slice A0 l.length c0] 29 (0, 0))) (hT : Kd.C (Kd.slice 66 kFace) w0 A0 l.length l)
    (hx0 : 0 ≤ x) (hx1 : x < l.length) (hsg : sg0.length = l.length) (hi0 : 0 ≤ i) (hi1 : i < qu0.length) (hq0 : 0 ≤ rd qu0 i) (hq1 : rd qu0 i < l.length)
    (hr : (rd_LFace l x).length ≤ 4) (hF : ∀ y ∈ rd_LFace l x, ¬ y.f0 < 0 → 0 ≤ y.f0 ∧ y.f0 < l.length ∧ 0 ≤ y.f1 ∧ y.f1 ≤ 23) (hn : qu0.length < 999000) :
    Calls Try.prog 131 #[.int .i64 x, .func (.func 166) #[] #[.pointer (some ⟨gs, 0, none⟩), .pointer (some ⟨gq, 0, none⟩), .pointer (some ⟨gi, 0, none⟩), .pointer (some ⟨go, 0, none⟩)], .pointer (some ⟨gt, 0, none⟩)] w
      fun e w' => e = .returned (.tuple #[]) ∧ ∃ vq', Sg w0 w' gs gq gi go bs cs i (visAll i (rd_LFace l x) (sg0, qu0, ok0)).1 (visAll i (rd_LFace l x) (sg0, qu0, ok0)).2.1 (visAll i (rd_LFace l x) (sg0, qu0, ok0)).2.2 vq' := by
  obtain ⟨ad1, A1, c1, e1, hy1, hl1, hC1⟩ := at_LFace hT x hx0 hx1
  subst e1
  generalize hrow : rd_LFace l x = row at *
  have hbT : w.heap[gt]? = some (.cells #[.slice (some ad1) l.length c0] 29 (0, 0)) := (hS.below.block _ (blk_lt bT)).trans bT
  have hyT : w.cell? ⟨gt, 0, none⟩ = some (.slice (some ad1) l.length c0) := (blk_cell hbT 0).trans rfl
  replace hy1 := (hS.below.cell (World.block_lt_of_cell? w0 _ hy1)).trans hy1
  have HC1 := Aside0.mk hC1
  have HS := Aside0.mk hS
  have HF := Aside0.mk hF
  have HR := Aside0.mk (And.intro hr (And.intro hsg hn))
  have HQ := Aside0.mk (And.intro hi0 (And.intro hi1 (And.intro hq0 hq1)))
  clear hC1 hS hF hr hsg hn hi0 hi1 hq0 hq1 hT bT hbT hrow
  go_enter Try.func131, Try.ntmps131
  go_wp2
  go_loopg [13] row.length (fun gg v13 w' => ∃ (j : Nat) (sg qu : List Int) (ok : Bool) (vq : Value), j ≤ row.length ∧ row.length - j ≤ gg ∧ v13 = .int .i64 j ∧ Aside0 (visAll i (row.drop j) (sg, qu, ok) = visAll i row (sg0, qu0, ok0)) ∧ Aside0 (Sg w0 w' gs gq gi go bs cs i sg qu ok vq) ∧ Aside0 (sg.length = l.length ∧ i < qu.length ∧ rd qu i = rd qu0 i ∧ qu.length ≤ qu0.length + j))
  case atStart => exact ⟨0, sg0, qu0, ok0, vq0, Nat.zero_le _, by omega, rfl, ⟨by rw [List.drop_zero]⟩, HS, ⟨HR.out.2.1, HQ.out.2.1, rfl, by omega⟩⟩
  case round =>
    clear HS hyT hy1
    obtain ⟨j, sg, qu, ok, vq, hj, hg, rfl, HA, HS, HX⟩ := hrel
    by_cases hlt : j < row.length
    · have hltz : (j : Int) < (row.length : Int) := by omega
      have h4 : row.length ≤ 4 := HR.out.1
      obtain ⟨ad2, e2, hy2, hy3⟩ := at_Face HC1.out (j : Int) (by omega) hltz
      subst e2
      replace hy2 := (HS.out.below.cell (World.block_lt_of_cell? w0 _ hy2)).trans hy2
      replace hy3 := (HS.out.below.cell (World.block_lt_of_cell? w0 _ hy3)).trans hy3
      have HY := Aside0.mk (HF.out row[j] (List.getElem_mem hlt))
      have HA2 := HA.out
      rw [List.drop_eq_getElem_cons hlt, visAll] at HA2
      have HA3 := Aside0.mk HA2
      clear HA HA2
      have ex : rd_Face row (j : Int) = row[j] := by simp [rd_Face, hlt]
      rw [ex, Int.toNat_natCast] at hy2 hy3
      generalize row[j] = y at hy2 hy3 HY HA3
      obtain ⟨f0, f1⟩ := y
      clear ex
      have BF := Aside0.mk (new_at4 (W := wr) rfl (.cells #[.int .i64 f0, .int .i64 f1] 66))
      have HS1 := Aside0.mk (HS.out.stays (below_alloc (Below.refl _ _) (.cells #[.int .i64 f0, .int .i64 f1] 66)))
      clear HS
      by_cases hb : f0 < 0
      · rw [if_pos hb] at HA3
        have d0 : decide (f0 < 0) = true := decide_eq_true hb
        go_wp2_with (first | (go_at_call 80; (with_reducible refine (impl_Face_isBoundary.calls f0 f1 true _ (by unfold impl_Face_isBoundary.f; rw [d0])).mono ?_); rintro e w2 ⟨rfl, hnd⟩; have HS2 := Aside0.mk (HS1.out.stays hnd); clear HS1 BF hnd))
        go_roundg (row.length - (j + 1))
        case measure => omega
        case rel => exact ⟨j + 1, sg, qu, ok, vq, by omega, by omega, by go_num, HA3, HS2, ⟨HX.out.1, HX.out.2.1, HX.out.2.2.1, by have := HX.out.2.2.2; omega⟩⟩
      · rw [if_neg hb] at HA3
        have d0 : decide (f0 < 0) = false := decide_eq_false hb
        have HP := Aside0.mk (show 0 ≤ f1 ∧ f1 ≤ 23 from by have h_ := HY.out (by first | exact hb | (show (0 : Int) ≤ f0; omega)); exact ⟨h_.2.2.1, h_.2.2.2⟩)
        have HG := Aside0.mk (show 0 ≤ f0 ∧ f0 < l.length from by have h_ := HY.out (by first | exact hb | (show (0 : Int) ≤ f0; omega)); exact ⟨h_.1, h_.2.1⟩)
        have HSG := Aside0.mk (show impl_signOf.f f1 = some (sgnP f1) from if_pos ⟨HP.out.1, HP.out.2⟩)
        have hbd := sgnP_bd f1
        dsimp only at HA3
        generalize sgnP f1 = sv at hbd HSG HA3
        obtain ⟨hbd1, hbd2⟩ := hbd
        clear HY
        go_wp2_with (first | (go_at_call 80; (with_reducible refine (impl_Face_isBoundary.calls f0 f1 false _ (by unfold impl_Face_isBoundary.f; rw [d0])).mono ?_); rintro e w2 ⟨rfl, hnd⟩; have HS2 := Aside0.mk (HS1.out.stays hnd); have BF2 := Aside0.mk (blk_below BF.out hnd); clear HS1 BF hnd; have BF := BF2; clear BF2))
        obtain ⟨bq, cq, rfl, _, _, _⟩ := Kd.R_form HS2.out.rQ (by have := HX.out.2.1; have := HQ.out.1; omega)
        refine start_ (n := 8) (S := fun w' => w'.cell? ⟨wr.heap.size, 0, none⟩ = some (.int .i64 f0) ∧ w'.cell? ⟨wr.heap.size, 1, none⟩ = some (.int .i64 f1)) (ds := []) #[false, false, false, false, false, false, false, false] (by kernel_rfl) rfl rfl ⟨(blk_cell BF.out 0).trans rfl, (blk_cell BF.out 1).trans rfl⟩ (fun hHeld => ?_)
        have HS3 := Aside0.mk HS2.out.drew
        have BF3 := Aside0.mk (blk_drew BF.out)
        clear HS2 BF
        have HS2 := HS3
        have BF := BF3
        clear HS3 BF3
        generalize w2.drew = w22 at HS2 BF hHeld ⊢
        refine pure_ (i := 0) (N := some 20) (v := ?_) (a' := ?_) #[true, false, false, false, false, false, false, false] rfl rfl (by kernel_rfl) (fun _ _ _ h => h) (Or.inl ⟨by rfl, ?_⟩) ?_ ?_
        rotate_left
        · intro w'
          go_simp
          with_reducible rfl
        rotate_left
        · simp only [Act.put, List.setIfInBounds_toArray, List.set_cons_zero, List.set_cons_succ, i64_w, i32_w]
          rfl
        refine pure_ (i := 1) (N := some 21) (v := ?_) (a' := ?_) #[true, true, false, false, false, false, false, false] rfl rfl (by kernel_rfl) (fun _ _ _ h => h) (Or.inl ⟨by rfl, ?_⟩) ?_ ?_
        rotate_left
        · intro w'
          go_simp
          with_reducible rfl
        rotate_left
        · simp only [Act.put, List.setIfInBounds_toArray, List.set_cons_zero, List.set_cons_succ, i64_w, i32_w]
          rfl
        refine take_ (i := 2) (N := some 22) (v := ?_) (a' := ?_) #[true, true, true, false, false, false, false, false] rfl rfl (by kernel_rfl) (fun _ _ _ h => h) (Or.inl ⟨by rfl, ?_⟩) hHeld ?_ ?_
        rotate_left
        · rintro w' ⟨s0, s1⟩
          go_simp
          with_reducible rfl
        rotate_left
        · simp only [Act.put, List.setIfInBounds_toArray, List.set_cons_zero, List.set_cons_succ, i64_w, i32_w]
          rfl
        refine pure_ (i := 3) (N := some 23) (v := ?_) (a' := ?_) #[true, true, true, true, false, false, false, false] rfl rfl (by kernel_rfl) (fun _ _ _ h => h) (Or.inl ⟨by rfl, ?_⟩) ?_ ?_
        rotate_left
        · intro w'
          go_simp
          with_reducible rfl
        rotate_left
        · simp only [Act.put, List.setIfInBounds_toArray, List.set_cons_zero, List.set_cons_succ, i64_w, i32_w]
          rfl
        refine take_ (i := 4) (N := some 24) (v := ?_) (a' := ?_) #[true, true, true, true, true, false, false, false] rfl rfl (by kernel_rfl) (fun _ _ _ h => h) (Or.inl ⟨by rfl, ?_⟩) hHeld ?_ ?_
        rotate_left
        · rintro w' ⟨s0, s1⟩
          go_simp
          with_reducible rfl
        rotate_left
        · simp only [Act.put, List.setIfInBounds_toArray, List.set_cons_zero, List.set_cons_succ, i64_w, i32_w]
          rfl
        refine one_ (i := 5) (N := some 25) #[true, true, true, true, true, true, false, false] rfl rfl (by kernel_rfl) (by decide) (fun K hK => ?_)
        refine goes_ Try.func76 (by kernel_rfl) rfl #[.int .i64 f1] (by rfl) rfl rfl (by (try simp only [List.map_toArray, List.map_cons, List.map_nil]); first | done | rfl) ?_
        refine (impl_signOf.calls f1 sv _ HSG.out).mono ?_
        rintro e w3 ⟨rfl, hb3⟩
        refine ⟨_, rfl, ?_⟩
        have HS3 := Aside0.mk (HS2.out.stays hb3)
        have BF3 := Aside0.mk (blk_below BF.out hb3)
        clear HS2 BF hb3
        have BF := BF3
        have HS2 := HS3
        clear BF3 HS3
        refine hK.out _ _ ⟨(blk_cell BF.out 0).trans rfl, (blk_cell BF.out 1).trans rfl⟩ (fun hHeld => ?_)
        clear hK K
        refine norm_ (a' := ?_) ?_ ?_
        rotate_left
        · show Act.put _ (some 25) _ = _
          simp only [Act.put, List.setIfInBounds_toArray, List.set_cons_zero, List.set_cons_succ, i64_w, i32_w]
          rfl
        refine pure_ (i := 6) (N := some 26) (v := ?_) (a' := ?_) #[true, true, true, true, true, true, true, false] rfl rfl (by kernel_rfl) (fun _ _ _ h => h) (Or.inl ⟨by rfl, ?_⟩) ?_ ?_
        rotate_left
        · intro w'
          go_simp
          with_reducible rfl
        rotate_left
        · simp only [Act.put, List.setIfInBounds_toArray, List.set_cons_zero, List.set_cons_succ, i64_w, i32_w]
          rfl
        refine one_ (i := 7) (N := some 27) #[true, true, true, true, true, true, true, true] rfl rfl (by kernel_rfl) (by decide) (fun K hK => ?_)
        refine goesF_ (f := 166) Try.func166 (by kernel_rfl) rfl #[.int .i64 f0, .int .i64 (wrap64 (-sv))] #[.int .i64 f0, .int .i64 (wrap64 (-sv)), .pointer (some ⟨gs, 0, none⟩), .pointer (some ⟨gq, 0, none⟩), .pointer (some ⟨gi, 0, none⟩), .pointer (some ⟨go, 0, none⟩)] (by rfl) rfl rfl rfl (by (try simp only [List.map_toArray, List.map_cons, List.map_nil]); first | done | rfl) (by rfl) ?_
        refine (impl_signed_1.calls gs gq gi go bs cs i f0 (wrap64 (-sv)) sg qu ok _ w0 _ HS2.out HQ.out.1 HX.out.2.1 (by rw [HX.out.2.2.1]; exact HQ.out.2.2.1) (by rw [HX.out.2.2.1, HX.out.1]; exact HQ.out.2.2.2) HG.out.1 (by rw [HX.out.1]; exact HG.out.2) (by have := HX.out.2.2.2; have := HR.out.2.2; omega)).mono ?_
        rintro e w4 ⟨rfl, vq', hS4, hO4⟩
        refine ⟨_, rfl, ?_⟩
        have HS4 := Aside0.mk hS4
        clear hS4 HS2
        have BF4 := Aside0.mk (hO4 _ _ _ (by decide) (by decide) (by decide) BF.out)
        refine hK.out _ _ ⟨(blk_cell BF4.out 0).trans rfl, (blk_cell BF4.out 1).trans rfl⟩ (fun hHeld => ?_)
        clear hK K
        refine norm_ (a' := ?_) ?_ ?_
        rotate_left
        · show Act.put _ (some 27) _ = _
          simp only [Act.put, List.setIfInBounds_toArray, List.set_cons_zero, List.set_cons_succ, i64_w, i32_w]
          rfl
        refine done_ (by kernel_rfl) ?_
        clear hHeld BF BF4 hO4
        have HX2 := Aside0.mk (show (vis sg qu ok i f0 (wrap64 (-sv))).1.length = l.length ∧ i < (vis sg qu ok i f0 (wrap64 (-sv))).2.1.length ∧ rd (vis sg qu ok i f0 (wrap64 (-sv))).2.1 i = rd qu0 i ∧ (vis sg qu ok i f0 (wrap64 (-sv))).2.1.length ≤ qu0.length + (j + 1) from by
          obtain ⟨x1, x2, x3, x4⟩ := HX.out
          refine ⟨by rw [vis_sg]; exact x1, ?_, ?_, ?_⟩ <;> rcases vis_qu sg qu ok i f0 (wrap64 (-sv)) with e_ | e_ <;> rw [e_]
          · exact x2
          · simp; omega
          · exact x3
          · rw [rd_app qu f0 i HQ.out.1 x2]; exact x3
          · omega
          · simp; omega)
        generalize vis sg qu ok i f0 (wrap64 (-sv)) = st at HS4 HA3 HX2
        obtain ⟨sg2, qu2, ok2⟩ := st
        dsimp only at HS4 HA3 HX2
        go_wp2
        go_roundg (row.length - (j + 1))
        case measure => omega
        case rel => exact ⟨j + 1, sg2, qu2, ok2, vq', by omega, by omega, by go_num, HA3, HS4, HX2⟩
    · obtain rfl : j = row.length := by omega
      go_wp2
      first | go_end0 | ((try simp only [Exit.inBlock, Exit.then]); refine bodyPost_ret (results_none rfl _ _ _) rfl ?_)
      have HA2 := HA.out
      rw [List.drop_length, visAll] at HA2
      refine ⟨?_, vq, ?_⟩
      · first | rfl | (simp <;> rfl)
      · rw [← HA2]; exact HS.out
end Go.Proofs.Ytfaagdpopmnnpaa.P

-- Printed by a program of this session (drv.py), by means of the kit's print.py.
namespace Go.Proofs.Ytfaagdpopmnnpaa.P
open Go.RowKit Go.Proofs.YtfaagdpopmnnpaaW.PrintWords Go.Proofs.YtfaagdpopmnnpaaW.PrintLast Go.Proofs.YtfaagdpopmnnpaaW.PrintMore
attribute [local go_sem] max2_int min2_int max_two min_two max_three min_three max_four min_four   -- for this text's walks alone
set_option linter.unusedVariables false
set_option linter.unusedSimpArgs false
-- HAND LIB signed3 rounds=0 making=0
/-! signed, handed orientation's literal. -/
abbrev okRow (l : List (List SFace)) (x : Int) (m : Nat) : Prop := (0 ≤ x ∧ x < l.length) ∧ (rd_LFace l x).length ≤ 4 ∧ (∀ y ∈ rd_LFace l x, ¬ y.f0 < 0 → 0 ≤ y.f0 ∧ y.f0 < l.length ∧ 0 ≤ y.f1 ∧ y.f1 ≤ 23) ∧ m < 999000
def inQ (l : List (List SFace)) : Nat → Int → List Int × List Int × Bool → Option (List Int × Bool)
  | 0, _, _ => none
  | k + 1, i, s => if i < s.2.1.length then (if okRow l (rd s.2.1 i) s.2.1.length then inQ l k (i + 1) (visAll i (rd_LFace l (rd s.2.1 i)) s) else none) else some (s.1, s.2.2)
def outQ (l : List (List SFace)) (k : Nat) : Nat → Int → List Int → Bool → Option (List Int × Bool)
  | 0, _, sg, ok => some (sg, ok)
  | d + 1, a, sg, ok => if rd sg a = 0 then (inQ l k 0 (sg.set a.toNat 1, [a], ok)).bind fun s => outQ l k d (a + 1) s.1 s.2 else outQ l k d (a + 1) sg ok
def signO (k : Nat) (l : List (List SFace)) : Option (List Int × Bool) := if l.length ≤ 100000 then outQ l k l.length 0 (List.replicate l.length 0) true else none
theorem visAll_sg (i : Int) : ∀ (r : List SFace) (s : List Int × List Int × Bool), (visAll i r s).1.length = s.1.length
  | [], _ => rfl
  | x :: xs, s => by
    rw [visAll, visAll_sg i xs]
    split
    · rfl
    · exact vis_sg _ _ _ _ _ _
theorem inQ_sg (l : List (List SFace)) : ∀ k i s r, inQ l k i s = some r → r.1.length = s.1.length
  | 0, _, _, _, h => by simp [inQ] at h
  | k + 1, i, s, r, h => by
    rw [inQ] at h
    split at h
    · split at h
      · rw [inQ_sg l k _ _ _ h, visAll_sg]
      · cases h
    · rw [← Option.some.inj h]
/-- Between two searches. -/
structure SgO (w0 w : World) (gs go bs cs : Nat) (sg : List Int) (ok : Bool) : Prop where
  below : Below w0.heap.size w0 w
  bS : w.heap[gs]? = some (.cells #[.slice (some ⟨bs, 0, none⟩) sg.length cs] 33 (0, 0))
  bO : w.heap[go]? = some (.cells #[.bool ok] 4 (0, 0))
  rS : Kd.R (Kd.int .i64) 2 w w0.heap.size (fun k => k = bs) (.slice (some ⟨bs, 0, none⟩) sg.length cs) sg
  own : w0.heap.size ≤ go
section
variable {w0 w w1 : World} {gs gq gi go bs cs : Nat} {i : Int} {sg qu : List Int} {ok : Bool} {vq vr : Value}
theorem Sg0.close (h : Sg0 w0 w gs gq gi go bs cs i sg qu ok vq vr) : SgO w0 w gs go bs cs sg ok := ⟨h.below, h.bS, h.bO, h.rS, h.own.2.1⟩
theorem SgO.drew (h : SgO w0 w gs go bs cs sg ok) : SgO w0 w.drew gs go bs cs sg ok := ⟨below_drew1 h.below, h.bS, h.bO, Kd.R_drew h.rS, h.own⟩
theorem SgO.row (h : SgO w0 w gs go bs cs sg ok) : ∃ cells, w.heap[bs]? = some (.cells cells 2 (0, 0)) := Kd.R_typed h.rS bs (by simp [Value.ownBlock])
theorem SgO.sign (h : SgO w0 w gs go bs cs sg ok) (k v : Int) : SgO w0 (w.setCell ⟨bs, k.toNat, none⟩ (.int .i64 v)) gs go bs cs (sg.set k.toNat v) ok := by
  obtain ⟨cells, hc⟩ := h.row
  refine ⟨below_set h.below (Kd.R_base h.rS bs (by simp [Value.ownBlock])), ?_, blk_far (p := ⟨bs, k.toNat, none⟩) h.bO (blk_ne h.bO hc (by decide)) _, ?_, h.own⟩
  · rw [List.length_set]; exact blk_far (p := ⟨bs, k.toNat, none⟩) h.bS (blk_ne h.bS hc (by decide)) _
  · rw [List.length_set]; exact (Kd.R_putg h.rS k v).1
theorem SgO.start (h : SgO w0 w gs go bs cs sg ok) (a : Int) :
    Sg w0 (((w.alloc (.cells #[.int .i64 a] 2)).alloc (.cells #[.slice (some ⟨w.heap.size, 0, none⟩) 1 1] 33)).alloc (.cells #[.int .i64 0] 3)) gs (w.heap.size + 1) (w.heap.size + 1 + 1) go bs cs 0 sg [a] ok (.slice (some ⟨w.heap.size, 0, none⟩) 1 1) := by
  have hbs := blk_lt h.row.choose_spec
  have hsz := below_size h.below
  refine ⟨below_alloc (below_alloc (below_alloc h.below _) _) _, blk_alloc (blk_alloc (blk_alloc h.bS _) _) _, blk_alloc (new_at4 (by simp) _) _, new_at4 (by simp) _, blk_alloc (blk_alloc (blk_alloc h.bO _) _) _, Kd.R_alloc (Kd.R_alloc (Kd.R_alloc h.rS _) _) _, ?_, by have := blk_lt h.bS; omega, by omega, h.own, by omega⟩
  refine Kd.R_of_own ⟨by simp [encs], .inr ⟨w.heap.size, 1, #[.int .i64 a], rfl, hsz, ?_, Nat.le_refl 1, by decide, rfl, rfl⟩⟩ (fun k hk => ?_)
  rotate_left
  · have e : w.heap.size = k := by simpa [Value.ownBlock] using hk
    show k ≠ bs
    omega
  exact blk_alloc (blk_alloc (new_at4 rfl _) _) _
theorem Sg0.next (h : Sg0 w0 w gs gq gi go bs cs i sg qu ok vq vr) (j : Int) :
    Sg0 w0 (w.alloc (.cells #[.int .i64 j] 3)) gs gq w.heap.size go bs cs j sg qu ok vq vr := by
  have h1 := h.stays (below_alloc (Below.refl _ _) (.cells #[.int .i64 j] 3))
  exact ⟨h1.below, h1.bS, h1.bQ, new_at4 rfl _, h1.bO, h1.rS, h1.rQ, h.nsq, h.own.1, h.own.2.1, below_size h.below⟩
theorem own_form {α : Type} {d : Kd α} {e base b : Nat} {ok : Nat → Prop} {v : Value} {xs : List α} (h : d.R e w base ok v xs) (hb : v.ownBlock = some b) : ∃ cap, v = .slice (some ⟨b, 0, none⟩) xs.length cap := by
  obtain ⟨inner, ho⟩ := Kd.R_own h
  rcases ho.2 with ⟨rfl, _⟩ | ⟨g, cap, cur, rfl, _⟩
  · simp [Value.ownBlock] at hb
  · have : g = b := by simpa [Value.ownBlock] using hb
    subst this
    exact ⟨cap, rfl⟩
end
set_option maxHeartbeats 8000000 in
set_option maxRecDepth 100000 in
theorem impl_signed_o.calls (k : Nat) (l : List (List SFace)) (A0 : Option Addr) (c0 gt : Nat) (r1 : List Int) (r2 : Bool) (w : World) (bT : w.heap[gt]? = some (.cells #[.slice A0 l.length c0] 29 (0, 0))) (hT : Kd.C (Kd.slice 66 kFace) w A0 l.length l) (h : signO k l = some (r1, r2)) :
    Calls Try.prog 130 #[.int .i64 (l.length : Int), .func (.func 131) #[] #[.pointer (some ⟨gt, 0, none⟩)]] w fun e w' => ∃ v0_ : Value, e = .returned (.tuple #[v0_, .bool r2]) ∧ Kd.R (Kd.int .i64) 2 w' w.heap.size (fun _ => True) v0_ r1 ∧ Below w.heap.size w w' := by
  unfold signO at h
  by_cases hl : l.length ≤ 100000
  case neg => rw [if_neg hl] at h; cases h
  rw [if_pos hl] at h
  have H := Aside0.mk h
  have BT := Aside0.mk bT
  have HTC := Aside0.mk hT
  have HL := Aside0.mk hl
  clear h bT hT
  go_enter Try.func130, Try.ntmps130
  go_wp2_with (first
    | ((with_reducible refine gate_dst (N := 12) rfl ?_); refine Kd.R_make (Kd.int .i64) (w0 := w) w.heap.size 2 rfl (N := 12) rfl 33 _ _ rfl (l.length : Int) rfl rfl Try.underlying33 (.int .i64 0) 8 info2 rfl (by decide) (by omega) 0 (ok := fun _ => True) (okp := fun _ => True) rfl (fun _ hk => hk) trivial (by omega) (by omega) (Below.refl _ _) (Nat.le_refl _) ?_; intro v1 w1 ho hb _ hnew; obtain ⟨bs, hbs, _⟩ := hnew; obtain ⟨cs, rfl⟩ := own_form ho hbs; rw [Int.toNat_natCast] at ho; have HR := Aside0.mk ho; have HB := Aside0.mk hb; have HBS := Aside0.mk hbs; clear ho hb hbs))
  have HO := Aside0.mk (show SgO w ((w1.alloc (.cells #[.slice (some ⟨bs, 0, none⟩) l.length cs] 33)).alloc (.cells #[.bool true] 4)) w1.heap.size (w1.heap.size + 1) bs cs (List.replicate l.length 0) true from
    ⟨below_alloc (below_alloc HB.out _) _, by rw [List.length_replicate]; exact blk_alloc (new_at4 rfl _) _, new_at4 (by simp) _, Kd.R_alloc (Kd.R_alloc (Kd.R_mono (Kd.R_tight rfl HR.out) (fun k_ hk_ => by simpa [Value.ownBlock] using hk_)) _) _, by have := below_size HB.out; omega⟩)
  clear HR HB HBS
  generalize w1.heap.size + 1 = go at HO ⊢
  generalize w1.heap.size = gs at HO ⊢
  generalize World.alloc _ _ = wA at HO ⊢
  go_loopg [14] l.length (fun gg v14 w' => ∃ (d a : Nat) (sg : List Int) (ok : Bool), a + d = l.length ∧ d ≤ gg ∧ v14 = .int .i64 a ∧ Aside0 (outQ l k d a sg ok = some (r1, r2)) ∧ Aside0 (sg.length = l.length) ∧ Aside0 (SgO w w' gs go bs cs sg ok))
  case atStart => exact ⟨l.length, 0, List.replicate l.length 0, true, by omega, Nat.le_refl _, rfl, H, ⟨List.length_replicate⟩, HO⟩
  case round =>
    clear H HO
    obtain ⟨d, a, sg, ok, had, hg, rfl, HA, HG, HO⟩ := hrel
    have hxS : wr.cell? ⟨gs, 0, none⟩ = some (.slice (some ⟨bs, 0, none⟩) sg.length cs) := (blk_cell HO.out.bS 0).trans rfl
    have hxO : wr.cell? ⟨go, 0, none⟩ = some (.bool ok) := (blk_cell HO.out.bO 0).trans rfl
    cases d with
    | zero =>
      obtain rfl : a = l.length := by omega
      have H2 := HA.out
      rw [outQ] at H2
      obtain ⟨e1, e2⟩ := Prod.mk.inj (Option.some.inj H2)
      subst e1 e2
      clear H2 HA
      try go_wp2
      refine start_ (n := 4) (S := fun w' => w'.cell? ⟨gs, 0, none⟩ = some (.slice (some ⟨bs, 0, none⟩) sg.length cs) ∧ w'.cell? ⟨go, 0, none⟩ = some (.bool ok)) (ds := []) #[false, false, false, false] (by kernel_rfl) rfl rfl ⟨hxS, hxO⟩ (fun hHeld => ?_)
      refine take_ (i := 0) (N := some 42) (v := ?_) (a' := ?_) #[true, false, false, false] rfl rfl (by kernel_rfl) (fun _ _ _ h => h) (Or.inl ⟨by rfl, ?_⟩) hHeld ?_ ?_
      rotate_left
      · rintro w' ⟨s0, s1⟩
        go_simp
        with_reducible rfl
      rotate_left
      · simp only [Act.put, List.setIfInBounds_toArray, List.set_cons_zero, List.set_cons_succ, i64_w, i32_w]
        rfl
      refine take_ (i := 1) (N := some 43) (v := ?_) (a' := ?_) #[true, true, false, false] rfl rfl (by kernel_rfl) (fun _ _ _ h => h) (Or.inl ⟨by rfl, ?_⟩) hHeld ?_ ?_
      rotate_left
      · rintro w' ⟨s0, s1⟩
        go_simp
        with_reducible rfl
      rotate_left
      · simp only [Act.put, List.setIfInBounds_toArray, List.set_cons_zero, List.set_cons_succ, i64_w, i32_w]
        rfl
      refine pure_ (i := 2) (N := some 4) (v := ?_) (a' := ?_) #[true, true, true, false] rfl rfl (by kernel_rfl) (fun _ _ _ h => h) (Or.inl ⟨by rfl, ?_⟩) ?_ ?_
      rotate_left
      · intro w'
        go_simp
        with_reducible rfl
      rotate_left
      · simp only [Act.put, List.setIfInBounds_toArray, List.set_cons_zero, List.set_cons_succ, i64_w, i32_w]
        rfl
      refine pure_ (i := 3) (N := some 5) (v := ?_) (a' := ?_) #[true, true, true, true] rfl rfl (by kernel_rfl) (fun _ _ _ h => h) (Or.inl ⟨by rfl, ?_⟩) ?_ ?_
      rotate_left
      · intro w'
        go_simp
        with_reducible rfl
      rotate_left
      · simp only [Act.put, List.setIfInBounds_toArray, List.set_cons_zero, List.set_cons_succ, i64_w, i32_w]
        rfl
      refine done_ (by kernel_rfl) ?_
      try go_wp2
      go_ret2
      refine ⟨_, rfl, ?_, ?_⟩
      · exact Kd.R_mono (HO.out.drew).rS (fun _ _ => trivial)
      · exact HO.out.drew.below
    | succ d =>
      have hltz : (a : Int) < (l.length : Int) := by omega
      have h1 : (a : Int) < (sg.length : Int) := by rw [HG.out]; exact hltz
      obtain ⟨hx3, hf3⟩ := Kd.R_celln 0 HO.out.rS (a : Int) (by omega) h1
      rw [Int.toNat_natCast] at hx3 hf3
      replace hx3 : wr.cell? ⟨bs, a, none⟩ = some (.int .i64 (rd sg (a : Int))) := hx3
      have HA2 := HA.out
      rw [outQ] at HA2
      clear HA
      by_cases hz : rd sg (a : Int) = 0
      · rw [if_pos hz] at HA2
        rw [hz] at hx3
        obtain ⟨st, hst, HA2⟩ := Option.bind_eq_some_iff.mp HA2
        have HA := Aside0.mk HA2
        have HI := Aside0.mk hst
        have HGS := Aside0.mk (inQ_sg l k _ _ _ hst)
        clear HA2 hst hz
        rw [Int.toNat_natCast] at HI HGS
        go_wp2_with (first
          | ((with_reducible refine gate_store (t := 2) (p := 24) rfl ?_); refine store_event (t := 2) (p := 24) (v := ?vo) (w1 := (wr.setCell ⟨bs, a, none⟩ (.int .i64 1))) ?hg ?ho ?hn ?hr ?_; (case ho => rfl); (case hg => rfl); (case hn => rfl); (case hr => first | (go_simp; done) | (go_simp; rfl)); intro w2 hw; have HO2 := Aside0.mk (show SgO w w2 gs go bs cs (sg.set a 1) ok by rw [hw]; have := HO.out.sign (a : Int) 1; rwa [Int.toNat_natCast] at this); clear HO hw hxS hxO hx3 hf3))
        have HS := Aside0.mk (HO2.out.start (a : Int))
        clear HO2
        have HG1 := Aside0.mk (show (sg.set a 1).length = l.length by rw [List.length_set]; exact HG.out)
        clear HG
        generalize sg.set a 1 = sg1 at HS HI HG1 HGS
        generalize hgq : w2.heap.size + 1 = gq at HS ⊢
        generalize hgi : gq + 1 = gi at HS ⊢
        generalize (Value.slice (some ⟨w2.heap.size, 0, none⟩) 1 1) = vq at HS
        generalize World.alloc _ _ = wB at HS ⊢
        go_loopg [10] k (fun kq v10 w' => ∃ (i : Int) (gi : Nat) (sg qu : List Int) (ok : Bool) (vq : Value), v10 = .pointer (some ⟨gi, 0, none⟩) ∧ Aside0 (kq ≤ k) ∧ Aside0 (inQ l kq i (sg, qu, ok) = some st) ∧ Aside0 (Sg w w' gs gq gi go bs cs i sg qu ok vq) ∧ Aside0 (sg.length = l.length ∧ 0 ≤ i))
        case atStart => exact ⟨0, gi, sg1, [(a : Int)], ok, vq, rfl, ⟨Nat.le_refl _⟩, HI, HS, ⟨HG1.out, by omega⟩⟩
        case round =>
          clear HS HI
          obtain ⟨i, gi2, sg2, qu, ok2, vq2, rfl, HK, HI, HS, HG2⟩ := hrel
          have hxI : wr.cell? ⟨gi2, 0, none⟩ = some (.int .i64 i) := (blk_cell HS.out.bI 0).trans rfl
          obtain ⟨Aq, cq, eq_⟩ := Kd.R_slice HS.out.rQ
          subst eq_
          have hxQ : wr.cell? ⟨gq, 0, none⟩ = some (.slice Aq qu.length cq) := (blk_cell HS.out.bQ 0).trans rfl
          cases gk with
          | zero => exact absurd HI.out (by simp [inQ])
          | succ gk =>
            have HI2 := HI.out
            rw [inQ] at HI2
            clear HI
            dsimp only at HI2
            by_cases hlt : i < (qu.length : Int)
            · rw [if_pos hlt] at HI2
              by_cases hok : okRow l (rd qu i) qu.length
              case neg => rw [if_neg hok] at HI2; cases HI2
              rw [if_pos hok] at HI2
              have HI := Aside0.mk HI2
              have HOK := Aside0.mk hok
              clear HI2 hok
              have hi0 := HG2.out.2
              obtain ⟨bq, cq2, eA, _, _, _⟩ := Kd.R_form HS.out.rQ (by omega)
              injection eA with eA _ eC
              subst eA eC
              obtain ⟨hx4, _⟩ := Kd.R_celln 0 HS.out.rQ i hi0 hlt
              replace hx4 : wr.cell? ⟨bq, i.toNat, none⟩ = some (.int .i64 (rd qu i)) := hx4
              have HQ := Aside0.mk (show rd qu i = rd qu i from rfl)
              have hi9 : i < 1000000 := by have := HOK.out.2.2.2; omega
              generalize hq_ : rd qu i = q at hx4 HOK HI HQ
              have HQ2 := Aside0.mk hq_
              clear hq_ HQ
              go_wp2_with (first | (go_at_call 131; refine (impl_orientation_1.calls l A0 c0 gt q gs gq gi2 go bs cs i sg2 qu ok2 _ w _ HS.out BT.out HTC.out HOK.out.1.1 HOK.out.1.2 HG2.out.1 HG2.out.2 hlt (by rw [HQ2.out]; exact HOK.out.1.1) (by rw [HQ2.out]; exact HOK.out.1.2) HOK.out.2.1 HOK.out.2.2.1 HOK.out.2.2.2).mono ?_; rintro e w4 ⟨rfl, vq', hS4⟩; have HS4 := Aside0.mk hS4; clear hS4 HS hxI hxQ hx4; have hxI : w4.cell? ⟨gi2, 0, none⟩ = some (.int .i64 i) := (blk_cell HS4.out.bI 0).trans rfl))
              go_roundg gk
              case measure => omega
              case rel => exact ⟨i + 1, w4.heap.size, _, _, _, vq', rfl, ⟨by have := HK.out; omega⟩, HI, ⟨HS4.out.next (i + 1)⟩, ⟨by rw [visAll_sg]; exact HG2.out.1, by omega⟩⟩
            · rw [if_neg hlt] at HI2
              have e_ := Option.some.inj HI2
              subst e_
              clear HI2
              have hge : ¬ i < (qu.length : Int) := hlt
              have d0 : decide (i < (qu.length : Int)) = false := decide_eq_false hlt
              go_wp2
              go_roundg d
              case measure => omega
              case rel => exact ⟨d, a + 1, sg2, ok2, by omega, by omega, by go_num, by simpa using HA, ⟨HG2.out.1⟩, ⟨HS.out.close⟩⟩
      · rw [if_neg hz] at HA2
        have HA := Aside0.mk HA2
        clear HA2
        generalize rd sg (a : Int) = sa at hx3 hz
        have d0 : (sa == 0) = false := by simp [hz]
        have d1 : (sa != 0) = true := by simp [bne, d0]
        go_wp2
        go_roundg d
        case measure => omega
        case rel => exact ⟨d, a + 1, sg, ok, by omega, by omega, by go_num, by simpa using HA, HG, HO⟩
end Go.Proofs.Ytfaagdpopmnnpaa.P

-- Printed by a program of this session (drv.py), by means of the kit's print.py.
namespace Go.Proofs.Ytfaagdpopmnnpaa.P
open Go.RowKit Go.Proofs.YtfaagdpopmnnpaaW.PrintWords Go.Proofs.YtfaagdpopmnnpaaW.PrintLast Go.Proofs.YtfaagdpopmnnpaaW.PrintMore
attribute [local go_sem] max2_int min2_int max_two min_two max_three min_three max_four min_four   -- for this text's walks alone
set_option linter.unusedVariables false
set_option linter.unusedSimpArgs false
-- HAND (loop.example/g00870/impl.Triangulation).orientation rounds=1 making=1
/-! orientation: signs for all tetrahedra, and whether they fit. -/
def impl_Triangulation_orientation.f (k : Nat) (l0_0 : List (List SFace)) : Option (List Int × Bool) := signO k l0_0
set_option maxHeartbeats 8000000 in
set_option maxRecDepth 100000 in
theorem impl_Triangulation_orientation.calls (k : Nat) (A0_0 : Option Addr) (c0_0 : Nat) (l0_0 : List (List SFace)) (r1 : List Int) (r2 : Bool) (w : World) (hr0_0 : Kd.C (Kd.slice 66 kFace) w A0_0 l0_0.length l0_0) (hc0_0 : l0_0.length ≤ c0_0) (h : impl_Triangulation_orientation.f k l0_0 = some (r1, r2)) :
    Calls Try.prog 66 #[.agg #[.slice A0_0 l0_0.length c0_0]] w fun e w' => ∃ v0_ : Value, e = .returned (.tuple #[v0_, .bool r2]) ∧ Kd.R (Kd.int .i64) 2 w' w.heap.size (fun _ => True) v0_ r1 ∧ Below w.heap.size w w' := by
  have H := Aside0.mk h
  have HR := Aside0.mk hr0_0
  have HC := Aside0.mk hc0_0
  clear h hr0_0 hc0_0
  go_enter Try.func66, Try.ntmps66
  have BT := Aside0.mk (new_at4 (W := w) rfl (.cells #[.slice A0_0 l0_0.length c0_0] 29))
  have HB := Aside0.mk (below_alloc (Below.refl w.heap.size w) (.cells #[.slice A0_0 l0_0.length c0_0] 29))
  go_wp2_with (first
    | (go_at_call 78; refine (impl_size_Simpl_Face.calls A0_0 c0_0 l0_0 (l0_0.length : Int) _ (Kd.C_alloc HR.out _) HC.out rfl).mono ?_; rintro e w2 ⟨rfl, hd⟩; have hb := Drawn0.below hd; clear hd; have BT2 := Aside0.mk (blk_below BT.out hb); have HB2 := Aside0.mk (below_step HB.out hb); clear BT HB hb)
    | (go_at_call 130; refine (impl_signed_o.calls k l0_0 A0_0 c0_0 w.heap.size r1 r2 _ BT2.out (Kd.C_below HR.out HB2.out) H.out).mono ?_; rintro e w3 ⟨v0_, rfl, ho, hb⟩; have HO := Aside0.mk (Kd.R_lower ho (below_size HB2.out)); have HB3 := Aside0.mk (below_step HB2.out hb); clear BT2 HB2 ho hb))
  go_ret2
  exact ⟨_, rfl, HO.out, HB3.out⟩
end Go.Proofs.Ytfaagdpopmnnpaa.P

-- Printed by a program of this session (drv.py), by means of the kit's print.py.
namespace Go.Proofs.Ytfaagdpopmnnpaa.P
open Go.RowKit Go.Proofs.YtfaagdpopmnnpaaW.PrintWords Go.Proofs.YtfaagdpopmnnpaaW.PrintLast Go.Proofs.YtfaagdpopmnnpaaW.PrintMore
attribute [local go_sem] max2_int min2_int max_two min_two max_three min_three max_four min_four   -- for this text's walks alone
set_option linter.unusedVariables false
set_option linter.unusedSimpArgs false
theorem eqA66 (d : Nat) (w : World) (x0 y0 : Int) (x1 y1 : Int) :
    (Op.equalIn (d + 2) 66 (.agg #[.int .i64 x0, .int .i64 x1]) (.agg #[.int .i64 y0, .int .i64 y1])).run Try.prog w = .ok (x0 == y0 && (x1 == y1)) w := by
  refine eqA_of Try.underlying66 (by kernel_rfl) ?_
  refine eqf_cons (by rfl) (by go_simp; rfl) (by go_simp; rfl) (by go_simp) ?_
  exact eqf_last (by rfl) (by go_simp; rfl) (by go_simp; rfl) (by go_simp)
end Go.Proofs.Ytfaagdpopmnnpaa.P

-- Printed by a program of this session (drv.py), by means of the kit's print.py.
namespace Go.Proofs.Ytfaagdpopmnnpaa.P
open Go.RowKit Go.Proofs.YtfaagdpopmnnpaaW.PrintWords Go.Proofs.YtfaagdpopmnnpaaW.PrintLast Go.Proofs.YtfaagdpopmnnpaaW.PrintMore
attribute [local go_sem] max2_int min2_int max_two min_two max_three min_three max_four min_four   -- for this text's walks alone
set_option linter.unusedVariables false
set_option linter.unusedSimpArgs false
-- HAND loop.example/g00870/impl.indexOf rounds=0 making=1
/-! indexOf: the index of a permutation with given images. -/
/-- The element at i, less one for each of the first j that is smaller. -/
def lessAt (l : List Int) (i : Nat) : Nat → Int
  | 0 => rd l i
  | j + 1 => if rd l j < rd l i then lessAt l i j - 1 else lessAt l i j
def idxAt (l : List Int) : Nat → Int
  | 0 => 0
  | i + 1 => idxAt l i + lessAt l i i * permB i
def idxL (l : List Int) : Int := idxAt l 4
def sm (x : Int) : Prop := 0 ≤ x ∧ x ≤ 3
theorem lessAt_bd (l : List Int) (i : Nat) (h : sm (rd l i)) : ∀ j : Nat, -(j : Int) ≤ lessAt l i j ∧ lessAt l i j ≤ 3
  | 0 => by have := h.1; have := h.2; unfold lessAt; omega
  | j + 1 => by
    have := lessAt_bd l i h j
    unfold lessAt
    split <;> omega
set_option maxHeartbeats 8000000 in
set_option maxRecDepth 100000 in
theorem impl_indexOf.calls (a b c d : Int) (w : World) (ha : sm a) (hb : sm b) (hc : sm c) (hd : sm d) :
    Calls Try.prog 161 #[.agg #[.int .i64 a, .int .i64 b, .int .i64 c, .int .i64 d]] w fun e w' => e = .returned (.int .i64 (idxL [a, b, c, d])) ∧ Below w.heap.size w w' := by
  have hl0 : sm (rd [a, b, c, d] (0 : Nat)) := ha
  have hl1 : sm (rd [a, b, c, d] (1 : Nat)) := hb
  have hl2 : sm (rd [a, b, c, d] (2 : Nat)) := hc
  have hl3 : sm (rd [a, b, c, d] (3 : Nat)) := hd
  have HL := Aside0.mk (And.intro (lessAt_bd _ 0 hl0) (And.intro (lessAt_bd _ 1 hl1) (And.intro (lessAt_bd _ 2 hl2) (lessAt_bd _ 3 hl3))))
  have HS := Aside0.mk (And.intro hl0 (And.intro hl1 (And.intro hl2 hl3)))
  clear ha hb hc hd hl0 hl1 hl2 hl3
  generalize hl : [a, b, c, d] = l at HL HS ⊢
  have HLL := Aside0.mk hl
  clear hl
  go_enter Try.func161, Try.ntmps161
  go_wp2_with fail
  go_loopg [3, 11] 4 (fun gg v3 v11 w' => ∃ i : Nat, i ≤ 4 ∧ 4 - i ≤ gg ∧ v11 = .int .i64 i ∧ v3 = .int .i64 (idxAt l i) ∧ Aside0 (-24 * (i : Int) ≤ idxAt l i ∧ idxAt l i ≤ 24 * i) ∧
    Aside0 (w'.heap[w.heap.size]? = some (.cells #[.int .i64 a, .int .i64 b, .int .i64 c, .int .i64 d] 106 (0, 0))) ∧
    Aside0 (w'.heap[w.heap.size + 1]? = some (.cells #[.int .i64 6, .int .i64 2, .int .i64 1, .int .i64 1] 2 (0, 0))) ∧ Aside0 (Below w.heap.size w w'))
  case atStart =>
    refine ⟨0, by omega, by omega, rfl, rfl, ⟨by simp [idxAt]⟩, ⟨?_⟩, ⟨?_⟩, ⟨?_⟩⟩
    · exact blk_alloc (new_at4 rfl _) _
    · exact new_at4 (by simp) _
    · exact below_alloc (below_alloc (Below.refl _ _) _) _
  case round =>
    obtain ⟨i, hi, hg, rfl, rfl, HI, B1, B9, HB⟩ := hrel
    rcases (show i = 4 ∨ i = 3 ∨ i = 2 ∨ i = 1 ∨ i = 0 by omega) with rfl | rfl | rfl | rfl | rfl
    · go_wp2
      go_ret
      exact ⟨rfl, HB.out⟩
    · have b9 : wr.cell? ⟨w.heap.size + 1, 3, none⟩ = some (.int .i64 1) := (blk_cell B9.out 3).trans rfl
      have b1 : wr.cell? ⟨w.heap.size, 3, none⟩ = some (.int .i64 (rd l (3 : Nat))) := (blk_cell B1.out 3).trans (by rw [← HLL.out]; rfl)
      have hx : sm (rd l (3 : Nat)) := by have := HS.out; exact this.2.2.2
      have HD := Aside0.mk (show ∀ j : Nat, lessAt l 3 (j + 1) = if rd l (j : Nat) < rd l (3 : Nat) then lessAt l 3 j - 1 else lessAt l 3 j from fun _ => rfl)
      have HD0 := Aside0.mk (show rd l (3 : Nat) = lessAt l 3 0 from rfl)
      generalize rd l (3 : Nat) = xi at b1 HD HD0 hx
      go_wp2_with fail
      go_loopg [6, 22] 3 (fun gg v6 v22 w' => ∃ j : Nat, j ≤ 3 ∧ 3 - j ≤ gg ∧ v22 = .int .i64 j ∧ v6 = .int .i64 (lessAt l 3 j) ∧ w' = wr)
      case atStart => exact ⟨0, by omega, by omega, rfl, by rw [HD0.out], rfl⟩
      case round =>
        obtain ⟨j, hj, hg2, rfl, rfl, rfl⟩ := hrel
        by_cases hlt : j < 3
        · have hltz : (j : Int) < 3 := by omega
          have bj : wr.cell? ⟨w.heap.size, j, none⟩ = some (.int .i64 (rd l (j : Nat))) := by
            have := arr_cell B1.out (j : Int) (by omega) (by omega)
            rw [HLL.out, Int.toNat_natCast] at this
            exact this
          have hbd := (HL.out.2.2.2 j)
          obtain ⟨hbd1, hbd2⟩ := hbd
          have HN := Aside0.mk (HD.out j)
          generalize lessAt l 3 j = lv at HN hbd1 hbd2 ⊢
          generalize rd l (j : Nat) = xj at bj HN
          by_cases hless : xj < xi
          · have hd1 : decide (xj < xi) = true := decide_eq_true hless
            go_wp2
            go_roundg (3 - (j + 1))
            case measure => omega
            case rel => exact ⟨j + 1, by omega, by omega, by go_num, by rw [HN.out, if_pos hless], rfl⟩
          · have hd1 : decide (xj < xi) = false := decide_eq_false hless
            go_wp2
            go_roundg (3 - (j + 1))
            case measure => omega
            case rel => exact ⟨j + 1, by omega, by omega, by go_num, by rw [HN.out, if_neg (by omega)], rfl⟩
        · have hltz : ¬ (j : Int) < 3 := by omega
          obtain rfl : j = 3 := by omega
          have hbd := (HL.out.2.2.2 3)
          obtain ⟨hbd1, hbd2⟩ := hbd
          obtain ⟨hi1, hi2⟩ := HI.out
          have HN := Aside0.mk (show idxAt l 4 = idxAt l 3 + lessAt l 3 3 * 1 from rfl)
          generalize lessAt l 3 3 = lv at HN hbd1 hbd2 ⊢
          generalize idxAt l 3 = iv at HN hi1 hi2 ⊢
          go_wp2
          go_roundg (4 - 4)
          case measure => omega
          case rel => exact ⟨4, by omega, by omega, by first | rfl | go_num, by rw [HN.out]; rw [Int.mul_one], ⟨by rw [HN.out]; omega⟩, B1, B9, HB⟩
    · have b9 : wr.cell? ⟨w.heap.size + 1, 2, none⟩ = some (.int .i64 1) := (blk_cell B9.out 2).trans rfl
      have b1 : wr.cell? ⟨w.heap.size, 2, none⟩ = some (.int .i64 (rd l (2 : Nat))) := (blk_cell B1.out 2).trans (by rw [← HLL.out]; rfl)
      have hx : sm (rd l (2 : Nat)) := by have := HS.out; exact this.2.2.1
      have HD := Aside0.mk (show ∀ j : Nat, lessAt l 2 (j + 1) = if rd l (j : Nat) < rd l (2 : Nat) then lessAt l 2 j - 1 else lessAt l 2 j from fun _ => rfl)
      have HD0 := Aside0.mk (show rd l (2 : Nat) = lessAt l 2 0 from rfl)
      generalize rd l (2 : Nat) = xi at b1 HD HD0 hx
      go_wp2_with fail
      go_loopg [6, 22] 2 (fun gg v6 v22 w' => ∃ j : Nat, j ≤ 2 ∧ 2 - j ≤ gg ∧ v22 = .int .i64 j ∧ v6 = .int .i64 (lessAt l 2 j) ∧ w' = wr)
      case atStart => exact ⟨0, by omega, by omega, rfl, by rw [HD0.out], rfl⟩
      case round =>
        obtain ⟨j, hj, hg2, rfl, rfl, rfl⟩ := hrel
        by_cases hlt : j < 2
        · have hltz : (j : Int) < 2 := by omega
          have bj : wr.cell? ⟨w.heap.size, j, none⟩ = some (.int .i64 (rd l (j : Nat))) := by
            have := arr_cell B1.out (j : Int) (by omega) (by omega)
            rw [HLL.out, Int.toNat_natCast] at this
            exact this
          have hbd := (HL.out.2.2.1 j)
          obtain ⟨hbd1, hbd2⟩ := hbd
          have HN := Aside0.mk (HD.out j)
          generalize lessAt l 2 j = lv at HN hbd1 hbd2 ⊢
          generalize rd l (j : Nat) = xj at bj HN
          by_cases hless : xj < xi
          · have hd1 : decide (xj < xi) = true := decide_eq_true hless
            go_wp2
            go_roundg (2 - (j + 1))
            case measure => omega
            case rel => exact ⟨j + 1, by omega, by omega, by go_num, by rw [HN.out, if_pos hless], rfl⟩
          · have hd1 : decide (xj < xi) = false := decide_eq_false hless
            go_wp2
            go_roundg (2 - (j + 1))
            case measure => omega
            case rel => exact ⟨j + 1, by omega, by omega, by go_num, by rw [HN.out, if_neg (by omega)], rfl⟩
        · have hltz : ¬ (j : Int) < 2 := by omega
          obtain rfl : j = 2 := by omega
          have hbd := (HL.out.2.2.1 2)
          obtain ⟨hbd1, hbd2⟩ := hbd
          obtain ⟨hi1, hi2⟩ := HI.out
          have HN := Aside0.mk (show idxAt l 3 = idxAt l 2 + lessAt l 2 2 * 1 from rfl)
          generalize lessAt l 2 2 = lv at HN hbd1 hbd2 ⊢
          generalize idxAt l 2 = iv at HN hi1 hi2 ⊢
          go_wp2
          go_roundg (4 - 3)
          case measure => omega
          case rel => exact ⟨3, by omega, by omega, by first | rfl | go_num, by rw [HN.out]; rw [Int.mul_one], ⟨by rw [HN.out]; omega⟩, B1, B9, HB⟩
    · have b9 : wr.cell? ⟨w.heap.size + 1, 1, none⟩ = some (.int .i64 2) := (blk_cell B9.out 1).trans rfl
      have b1 : wr.cell? ⟨w.heap.size, 1, none⟩ = some (.int .i64 (rd l (1 : Nat))) := (blk_cell B1.out 1).trans (by rw [← HLL.out]; rfl)
      have hx : sm (rd l (1 : Nat)) := by have := HS.out; exact this.2.1
      have HD := Aside0.mk (show ∀ j : Nat, lessAt l 1 (j + 1) = if rd l (j : Nat) < rd l (1 : Nat) then lessAt l 1 j - 1 else lessAt l 1 j from fun _ => rfl)
      have HD0 := Aside0.mk (show rd l (1 : Nat) = lessAt l 1 0 from rfl)
      generalize rd l (1 : Nat) = xi at b1 HD HD0 hx
      go_wp2_with fail
      go_loopg [6, 22] 1 (fun gg v6 v22 w' => ∃ j : Nat, j ≤ 1 ∧ 1 - j ≤ gg ∧ v22 = .int .i64 j ∧ v6 = .int .i64 (lessAt l 1 j) ∧ w' = wr)
      case atStart => exact ⟨0, by omega, by omega, rfl, by rw [HD0.out], rfl⟩
      case round =>
        obtain ⟨j, hj, hg2, rfl, rfl, rfl⟩ := hrel
        by_cases hlt : j < 1
        · have hltz : (j : Int) < 1 := by omega
          have bj : wr.cell? ⟨w.heap.size, j, none⟩ = some (.int .i64 (rd l (j : Nat))) := by
            have := arr_cell B1.out (j : Int) (by omega) (by omega)
            rw [HLL.out, Int.toNat_natCast] at this
            exact this
          have hbd := (HL.out.2.1 j)
          obtain ⟨hbd1, hbd2⟩ := hbd
          have HN := Aside0.mk (HD.out j)
          generalize lessAt l 1 j = lv at HN hbd1 hbd2 ⊢
          generalize rd l (j : Nat) = xj at bj HN
          by_cases hless : xj < xi
          · have hd1 : decide (xj < xi) = true := decide_eq_true hless
            go_wp2
            go_roundg (1 - (j + 1))
            case measure => omega
            case rel => exact ⟨j + 1, by omega, by omega, by go_num, by rw [HN.out, if_pos hless], rfl⟩
          · have hd1 : decide (xj < xi) = false := decide_eq_false hless
            go_wp2
            go_roundg (1 - (j + 1))
            case measure => omega
            case rel => exact ⟨j + 1, by omega, by omega, by go_num, by rw [HN.out, if_neg (by omega)], rfl⟩
        · have hltz : ¬ (j : Int) < 1 := by omega
          obtain rfl : j = 1 := by omega
          have hbd := (HL.out.2.1 1)
          obtain ⟨hbd1, hbd2⟩ := hbd
          obtain ⟨hi1, hi2⟩ := HI.out
          have HN := Aside0.mk (show idxAt l 2 = idxAt l 1 + lessAt l 1 1 * 2 from rfl)
          generalize lessAt l 1 1 = lv at HN hbd1 hbd2 ⊢
          generalize idxAt l 1 = iv at HN hi1 hi2 ⊢
          go_wp2
          go_roundg (4 - 2)
          case measure => omega
          case rel => exact ⟨2, by omega, by omega, by first | rfl | go_num, by rw [HN.out], ⟨by rw [HN.out]; omega⟩, B1, B9, HB⟩
    · have b9 : wr.cell? ⟨w.heap.size + 1, 0, none⟩ = some (.int .i64 6) := (blk_cell B9.out 0).trans rfl
      have b1 : wr.cell? ⟨w.heap.size, 0, none⟩ = some (.int .i64 (rd l (0 : Nat))) := (blk_cell B1.out 0).trans (by rw [← HLL.out]; rfl)
      have hx : sm (rd l (0 : Nat)) := by have := HS.out; exact this.1
      have HD := Aside0.mk (show ∀ j : Nat, lessAt l 0 (j + 1) = if rd l (j : Nat) < rd l (0 : Nat) then lessAt l 0 j - 1 else lessAt l 0 j from fun _ => rfl)
      have HD0 := Aside0.mk (show rd l (0 : Nat) = lessAt l 0 0 from rfl)
      generalize rd l (0 : Nat) = xi at b1 HD HD0 hx
      go_wp2_with fail
      go_loopg [6, 22] 0 (fun gg v6 v22 w' => ∃ j : Nat, j ≤ 0 ∧ 0 - j ≤ gg ∧ v22 = .int .i64 j ∧ v6 = .int .i64 (lessAt l 0 j) ∧ w' = wr)
      case atStart => exact ⟨0, by omega, by omega, rfl, by rw [HD0.out], rfl⟩
      case round =>
        obtain ⟨j, hj, hg2, rfl, rfl, rfl⟩ := hrel
        by_cases hlt : j < 0
        · have hltz : (j : Int) < 0 := by omega
          have bj : wr.cell? ⟨w.heap.size, j, none⟩ = some (.int .i64 (rd l (j : Nat))) := by
            have := arr_cell B1.out (j : Int) (by omega) (by omega)
            rw [HLL.out, Int.toNat_natCast] at this
            exact this
          have hbd := (HL.out.1 j)
          obtain ⟨hbd1, hbd2⟩ := hbd
          have HN := Aside0.mk (HD.out j)
          generalize lessAt l 0 j = lv at HN hbd1 hbd2 ⊢
          generalize rd l (j : Nat) = xj at bj HN
          by_cases hless : xj < xi
          · have hd1 : decide (xj < xi) = true := decide_eq_true hless
            go_wp2
            go_roundg (0 - (j + 1))
            case measure => omega
            case rel => exact ⟨j + 1, by omega, by omega, by go_num, by rw [HN.out, if_pos hless], rfl⟩
          · have hd1 : decide (xj < xi) = false := decide_eq_false hless
            go_wp2
            go_roundg (0 - (j + 1))
            case measure => omega
            case rel => exact ⟨j + 1, by omega, by omega, by go_num, by rw [HN.out, if_neg (by omega)], rfl⟩
        · have hltz : ¬ (j : Int) < 0 := by omega
          obtain rfl : j = 0 := by omega
          have hbd := (HL.out.1 0)
          obtain ⟨hbd1, hbd2⟩ := hbd
          obtain ⟨hi1, hi2⟩ := HI.out
          have HN := Aside0.mk (show idxAt l 1 = idxAt l 0 + lessAt l 0 0 * 6 from rfl)
          generalize lessAt l 0 0 = lv at HN hbd1 hbd2 ⊢
          generalize idxAt l 0 = iv at HN hi1 hi2 ⊢
          go_wp2
          go_roundg (4 - 1)
          case measure => omega
          case rel => exact ⟨1, by omega, by omega, by first | rfl | go_num, by rw [HN.out], ⟨by rw [HN.out]; omega⟩, B1, B9, HB⟩
end Go.Proofs.Ytfaagdpopmnnpaa.P

-- Printed by a program of this session (drv.py), by means of the kit's print.py.
namespace Go.Proofs.Ytfaagdpopmnnpaa.P
open Go.RowKit Go.Proofs.YtfaagdpopmnnpaaW.PrintWords Go.Proofs.YtfaagdpopmnnpaaW.PrintLast Go.Proofs.YtfaagdpopmnnpaaW.PrintMore
attribute [local go_sem] max2_int min2_int max_two min_two max_three min_three max_four min_four   -- for this text's walks alone
set_option linter.unusedVariables false
set_option linter.unusedSimpArgs false
-- HAND LIB permsm rounds=0 making=0
/-! The images of a permutation are 0 to 3; indexes are 0 to 23. -/
theorem permAt_sm (p : Int) (h0 : 0 ≤ p) (h1 : p ≤ 23) : sm (permAt p 0) ∧ sm (permAt p 1) ∧ sm (permAt p 2) ∧ sm (permAt p 3) := by
  obtain ⟨n, rfl⟩ := Int.eq_ofNat_of_zero_le h0
  have hn : n < 24 := by omega
  have key : ∀ m : Fin 24, (0 ≤ permAt (m.val : Int) 0 ∧ permAt (m.val : Int) 0 ≤ 3) ∧ (0 ≤ permAt (m.val : Int) 1 ∧ permAt (m.val : Int) 1 ≤ 3) ∧ (0 ≤ permAt (m.val : Int) 2 ∧ permAt (m.val : Int) 2 ≤ 3) ∧ (0 ≤ permAt (m.val : Int) 3 ∧ permAt (m.val : Int) 3 ≤ 3) := by decide
  exact key ⟨n, hn⟩
/-- The inverse's images after i rounds. -/
def invList (l : List Int) : Nat → List Int
  | 0 => [0, 0, 0, 0]
  | i + 1 => (invList l i).set (rd l i).toNat i
theorem invList_sm (l : List Int) : ∀ i, i ≤ 4 → ∀ x ∈ invList l i, sm x
  | 0, _, x, hx => by
    have : x = 0 := by simp [invList] at hx; exact hx
    subst this; exact ⟨by omega, by omega⟩
  | i + 1, hi, x, hx => by
    rw [invList] at hx
    rcases List.mem_or_eq_of_mem_set hx with h | rfl
    · exact invList_sm l i (by omega) x h
    · exact ⟨by omega, by omega⟩
def invP (p : Int) : Int := idxL (invList (permL p) 4)
theorem rd_four_sm {a b c d : Int} (ha : sm a) (hb : sm b) (hc : sm c) (hd : sm d) (f : Int) (h0 : 0 ≤ f) (h1 : f ≤ 3) : sm (rd [a, b, c, d] f) := by
  rcases (show f = 0 ∨ f = 1 ∨ f = 2 ∨ f = 3 by omega) with rfl | rfl | rfl | rfl <;> assumption
end Go.Proofs.Ytfaagdpopmnnpaa.P

-- Printed by a program of this session (drv.py), by means of the kit's print.py.
namespace Go.Proofs.Ytfaagdpopmnnpaa.P
open Go.RowKit Go.Proofs.YtfaagdpopmnnpaaW.PrintWords Go.Proofs.YtfaagdpopmnnpaaW.PrintLast Go.Proofs.YtfaagdpopmnnpaaW.PrintMore
attribute [local go_sem] max2_int min2_int max_two min_two max_three min_three max_four min_four   -- for this text's walks alone
set_option linter.unusedVariables false
set_option linter.unusedSimpArgs false
-- HAND loop.example/g00870/impl.invert rounds=0 making=1
/-! invert: the index of the inverse permutation. -/
def impl_invert.f (a0 : Int) : Option Int := if 0 ≤ a0 ∧ a0 ≤ 23 then some (invP a0) else none
set_option maxHeartbeats 8000000 in
set_option maxRecDepth 100000 in
theorem impl_invert.calls (a0 : Int) (r : Int) (w : World) (h : impl_invert.f a0 = some r) :
    Calls Try.prog 121 #[.int .i64 a0] w fun e w' => e = .returned (.int .i64 r) ∧ Below w.heap.size w w' := by
  unfold impl_invert.f at h
  by_cases hc : 0 ≤ a0 ∧ a0 ≤ 23
  case neg => rw [if_neg hc] at h; exact absurd h (by simp)
  rw [if_pos hc] at h
  have hr : invP a0 = r := Option.some.inj h
  clear h
  subst hr
  obtain ⟨h0, h1⟩ := hc
  have HS := Aside0.mk (permAt_sm a0 h0 h1)
  have H0 := Aside0.mk h0
  have H1 := Aside0.mk h1
  clear h0 h1
  go_enter Try.func121, Try.ntmps121
  go_wp2_with fail
  refine (impl_perm.calls _ _ H0.out H1.out).mono ?_
  rintro e w1 ⟨rfl, hb⟩
  have B3 := Aside0.mk (blk_below (new_at4 (W := w) rfl (.cells #[.int .i64 0, .int .i64 0, .int .i64 0, .int .i64 0] 106)) hb)
  have HB := Aside0.mk (below_step (below_alloc (Below.refl _ _) _) hb)
  clear hb
  have HPL := Aside0.mk (show permL a0 = [permAt a0 0, permAt a0 1, permAt a0 2, permAt a0 3] from rfl)
  have HIP := Aside0.mk (show invP a0 = idxL (invList (permL a0) 4) from rfl)
  generalize permL a0 = pl at HPL HIP
  generalize permAt a0 0 = x0 at HS HPL ⊢
  generalize permAt a0 1 = x1 at HS HPL ⊢
  generalize permAt a0 2 = x2 at HS HPL ⊢
  generalize permAt a0 3 = x3 at HS HPL ⊢
  go_wp2_with fail
  go_loopg [8] 4 (fun gg v8 w' => ∃ (i : Nat) (b0 b1 b2 b3 : Int), i ≤ 4 ∧ 4 - i ≤ gg ∧ v8 = .int .i64 i ∧ Aside0 ([b0, b1, b2, b3] = invList pl i) ∧
    Aside0 (w'.heap[w.heap.size]? = some (.cells #[.int .i64 b0, .int .i64 b1, .int .i64 b2, .int .i64 b3] 106 (0, 0))) ∧ Aside0 (Below w.heap.size w w'))
  case atStart => exact ⟨0, 0, 0, 0, 0, by omega, by omega, rfl, ⟨rfl⟩, B3, HB⟩
  case round =>
    clear HB B3
    obtain ⟨i, b0, b1, b2, b3, hi, hg, rfl, HI, B3, HB⟩ := hrel
    rcases (show i = 4 ∨ i = 3 ∨ i = 2 ∨ i = 1 ∨ i = 0 by omega) with rfl | rfl | rfl | rfl | rfl
    · have c0 : wr.cell? ⟨w.heap.size, 0, none⟩ = some (.int .i64 b0) := (blk_cell B3.out 0).trans rfl
      have c1 : wr.cell? ⟨w.heap.size, 1, none⟩ = some (.int .i64 b1) := (blk_cell B3.out 1).trans rfl
      have c2 : wr.cell? ⟨w.heap.size, 2, none⟩ = some (.int .i64 b2) := (blk_cell B3.out 2).trans rfl
      have c3 : wr.cell? ⟨w.heap.size, 3, none⟩ = some (.int .i64 b3) := (blk_cell B3.out 3).trans rfl
      have ht := Try.underlying106
      go_wp2_with fail
      have hsm := invList_sm pl 4 (by omega)
      rw [← HI.out] at hsm
      refine (impl_indexOf.calls b0 b1 b2 b3 _ (hsm _ (by simp)) (hsm _ (by simp)) (hsm _ (by simp)) (hsm _ (by simp))).mono ?_
      rintro e w2 ⟨rfl, hb⟩
      have HB2 := Aside0.mk (below_step HB.out hb)
      clear hb hsm
      go_wp2
      go_ret
      exact ⟨by rw [HIP.out, ← HI.out]; rfl, HB2.out⟩
    · have ix := arr_index x0 x1 x2 x3 3 (by omega) (by omega)
      have hx : rd [x0, x1, x2, x3] 3 = x3 := rfl
      rw [hx] at ix
      have hs : sm x3 := HS.out.2.2.2
      obtain ⟨hs0, hs1⟩ := hs
      have c3 := arr_cell B3.out x3 hs0 hs1
      have f3 := blk_frozen B3.out x3.toNat
      have B3n := Aside0.mk (arr_put B3.out x3 3 hs0 hs1)
      have HN : [b0, b1, b2, b3].set x3.toNat 3 = invList pl (3 + 1) := by rw [HI.out, HPL.out]; rfl
      have hlen : ([b0, b1, b2, b3].set x3.toNat (3 : Int)).length = 4 := by simp
      have HF := Aside0.mk ((four_eq hlen).symm.trans HN)
      clear hx HN hlen
      go_wp2
      go_roundg (4 - (3 + 1))
      case measure => omega
      case rel => exact ⟨3 + 1, _, _, _, _, by omega, by omega, by first | rfl | go_num, HF, B3n, ⟨below_set HB.out (Nat.le_refl _)⟩⟩
    · have ix := arr_index x0 x1 x2 x3 2 (by omega) (by omega)
      have hx : rd [x0, x1, x2, x3] 2 = x2 := rfl
      rw [hx] at ix
      have hs : sm x2 := HS.out.2.2.1
      obtain ⟨hs0, hs1⟩ := hs
      have c3 := arr_cell B3.out x2 hs0 hs1
      have f3 := blk_frozen B3.out x2.toNat
      have B3n := Aside0.mk (arr_put B3.out x2 2 hs0 hs1)
      have HN : [b0, b1, b2, b3].set x2.toNat 2 = invList pl (2 + 1) := by rw [HI.out, HPL.out]; rfl
      have hlen : ([b0, b1, b2, b3].set x2.toNat (2 : Int)).length = 4 := by simp
      have HF := Aside0.mk ((four_eq hlen).symm.trans HN)
      clear hx HN hlen
      go_wp2
      go_roundg (4 - (2 + 1))
      case measure => omega
      case rel => exact ⟨2 + 1, _, _, _, _, by omega, by omega, by first | rfl | go_num, HF, B3n, ⟨below_set HB.out (Nat.le_refl _)⟩⟩
    · have ix := arr_index x0 x1 x2 x3 1 (by omega) (by omega)
      have hx : rd [x0, x1, x2, x3] 1 = x1 := rfl
      rw [hx] at ix
      have hs : sm x1 := HS.out.2.1
      obtain ⟨hs0, hs1⟩ := hs
      have c3 := arr_cell B3.out x1 hs0 hs1
      have f3 := blk_frozen B3.out x1.toNat
      have B3n := Aside0.mk (arr_put B3.out x1 1 hs0 hs1)
      have HN : [b0, b1, b2, b3].set x1.toNat 1 = invList pl (1 + 1) := by rw [HI.out, HPL.out]; rfl
      have hlen : ([b0, b1, b2, b3].set x1.toNat (1 : Int)).length = 4 := by simp
      have HF := Aside0.mk ((four_eq hlen).symm.trans HN)
      clear hx HN hlen
      go_wp2
      go_roundg (4 - (1 + 1))
      case measure => omega
      case rel => exact ⟨1 + 1, _, _, _, _, by omega, by omega, by first | rfl | go_num, HF, B3n, ⟨below_set HB.out (Nat.le_refl _)⟩⟩
    · have ix := arr_index x0 x1 x2 x3 0 (by omega) (by omega)
      have hx : rd [x0, x1, x2, x3] 0 = x0 := rfl
      rw [hx] at ix
      have hs : sm x0 := HS.out.1
      obtain ⟨hs0, hs1⟩ := hs
      have c3 := arr_cell B3.out x0 hs0 hs1
      have f3 := blk_frozen B3.out x0.toNat
      have B3n := Aside0.mk (arr_put B3.out x0 0 hs0 hs1)
      have HN : [b0, b1, b2, b3].set x0.toNat 0 = invList pl (0 + 1) := by rw [HI.out, HPL.out]; rfl
      have hlen : ([b0, b1, b2, b3].set x0.toNat (0 : Int)).length = 4 := by simp
      have HF := Aside0.mk ((four_eq hlen).symm.trans HN)
      clear hx HN hlen
      go_wp2
      go_roundg (4 - (0 + 1))
      case measure => omega
      case rel => exact ⟨0 + 1, _, _, _, _, by omega, by omega, by first | rfl | go_num, HF, B3n, ⟨below_set HB.out (Nat.le_refl _)⟩⟩
end Go.Proofs.Ytfaagdpopmnnpaa.P

-- Printed by a program of this session (drv.py), by means of the kit's print.py.
namespace Go.Proofs.Ytfaagdpopmnnpaa.P
open Go.RowKit Go.Proofs.YtfaagdpopmnnpaaW.PrintWords Go.Proofs.YtfaagdpopmnnpaaW.PrintLast Go.Proofs.YtfaagdpopmnnpaaW.PrintMore
attribute [local go_sem] max2_int min2_int max_two min_two max_three min_three max_four min_four   -- for this text's walks alone
set_option linter.unusedVariables false
set_option linter.unusedSimpArgs false
/-! ### impl_Face_partner: function 160 -/
def impl_Face_partner.f (a0_0 : Int) (a0_1 : Int) (a1 : Int) : Option (Int × Int) := (impl_invert.f a0_1).bind fun t103 => (some (a1, t103))
set_option maxHeartbeats 8000000 in
set_option maxRecDepth 100000 in
theorem impl_Face_partner.calls (a0_0 : Int) (a0_1 : Int) (a1 : Int) (r1 : Int) (r2 : Int) (w : World) (h : impl_Face_partner.f a0_0 a0_1 a1 = some (r1, r2)) :
    Calls Try.prog 160 #[.agg #[.int .i64 a0_0, .int .i64 a0_1], .int .i64 a1] w fun e w' => e = .returned (.agg #[.int .i64 r1, .int .i64 r2]) ∧ Below w.heap.size w w' := by
  have hu66 := Try.underlying66
  have HB := Aside0.mk (Below.refl w.heap.size w)
  have H : ((impl_invert.f a0_1).bind fun t103 => (some (a1, t103))) = some (r1, r2) := h
  clear h
  replace H := Option.bind_eq_some_iff.mp H
  obtain ⟨t103, A30, H⟩ := H
  replace H : (some (a1, t103)) = some (r1, r2) := H
  have A3 := Aside0.mk A30
  clear A30
  simp only [Option.some.injEq, Prod.mk.injEq] at H
  obtain ⟨rfl, rfl⟩ := H
  go_enter Try.func160, Try.ntmps160
  go_wp2_with (first | ((with_reducible refine gate_dst (N := 2) rfl ?_); refine box_event ?hg (N := 2) ?hd (cs := #[.int .i64 a0_0, .int .i64 a0_1]) (t := 66) ?hr ?_; (case hd => rfl); (case hg => rfl); (case hr => first | (go_simp; done) | (go_simp; rfl)); intro gb101 hg w4 hbox hb; have n0_ := Aside0.mk (below_step (by repeat (first | (with_reducible first | exact HB.out | apply below_alloc | apply pw_below_drewN | apply below_drew1) | exact HB.out)) hb); have n1_ := Aside0.mk (hbox); have n2_ := Aside0.mk ((by rw [hg]; exact (below_size (by repeat (first | (with_reducible first | exact HB.out | apply below_alloc | apply pw_below_drewN | apply below_drew1) | exact HB.out))) : w.heap.size ≤ gb101)); have n3_ := Aside0.mk ((by rw [hg]; exact (below_size (by repeat (first | (with_reducible first | exact HB.out | apply below_alloc | apply pw_below_drewN | apply below_drew1) | exact HB.out))) : w.heap.size ≤ gb101)); clear HB; have HB := n0_; have BK101 := n1_; have GW101 := n2_; have GE101 := n3_; clear n0_ n1_ n2_ n3_; clear hb hbox hg) | ((with_reducible refine gate_dst (N := 4) rfl ?_); refine box_event ?hg (N := 4) ?hd (cs := #[.int .i64 0, .int .i64 0]) (t := 66) ?hr ?_; (case hd => rfl); (case hg => rfl); (case hr => first | (go_simp; done) | (go_simp; rfl)); intro gb102 hg w5 hbox hb; have n0_ := Aside0.mk (blk_below (g := gb101) (o := .cells #[.int .i64 a0_0, .int .i64 a0_1] 66 (0, 0)) (by (with_reducible repeat (first | refine blk_drewN ?_ _ | refine blk_drew ?_ | refine blk_alloc ?_ _)); exact BK101.out) hb); have n1_ := Aside0.mk (below_step (by repeat (first | (with_reducible first | exact HB.out | apply below_alloc | apply pw_below_drewN | apply below_drew1 | refine below_set ?_ GE101.out) | exact HB.out)) hb); have n2_ := Aside0.mk (hbox); have n3_ := Aside0.mk ((by rw [hg]; exact (below_size (by repeat (first | (with_reducible first | exact HB.out | apply below_alloc | apply pw_below_drewN | apply below_drew1 | refine below_set ?_ GE101.out) | exact HB.out))) : w.heap.size ≤ gb102)); have n4_ := Aside0.mk ((by rw [hg]; exact (below_size (by repeat (first | (with_reducible first | exact HB.out | apply below_alloc | apply pw_below_drewN | apply below_drew1 | refine below_set ?_ GE101.out) | exact HB.out))) : w.heap.size ≤ gb102)); have n5_ := Aside0.mk ((by rw [hg]; exact Nat.ne_of_lt (blk_lt (g := gb101) (o := .cells #[.int .i64 a0_0, .int .i64 a0_1] 66 (0, 0)) (by (with_reducible repeat (first | refine blk_drewN ?_ _ | refine blk_drew ?_ | refine blk_alloc ?_ _)); exact BK101.out)) : gb101 ≠ gb102)); have n6_ := Aside0.mk ((by rw [hg]; exact Nat.ne_of_gt (blk_lt (g := gb101) (o := .cells #[.int .i64 a0_0, .int .i64 a0_1] 66 (0, 0)) (by (with_reducible repeat (first | refine blk_drewN ?_ _ | refine blk_drew ?_ | refine blk_alloc ?_ _)); exact BK101.out)) : gb102 ≠ gb101)); clear BK101; clear HB; have BK101 := n0_; have HB := n1_; have BK102 := n2_; have GW102 := n3_; have GE102 := n4_; have NB101_102 := n5_; have NB102_101 := n6_; clear n0_ n1_ n2_ n3_ n4_ n5_ n6_; clear hb hbox hg; have hnb6 := NB101_102.out; have hnc6 := NB102_101.out; have hcz7_0 : w5.cell? ⟨gb101, 0, none⟩ = some (.int .i64 a0_0) := (blk_cell BK101.out 0).trans rfl; have hcz7_1 : w5.cell? ⟨gb101, 1, none⟩ = some (.int .i64 a0_1) := (blk_cell BK101.out 1).trans rfl; have hfz7_0 := blk_frozen BK101.out 0; have hfz7_1 := blk_frozen BK101.out 1) | ((with_reducible refine gate_callee (f := 121) rfl ?_); refine goesL_ (some 8) rfl rfl Try.func121 (by kernel_rfl) rfl #[.int .i64 a0_1] rfl (by (try simp only [List.map_toArray, List.map_cons, List.map_nil]); first | done | rfl | (simp only [List.length_drop, List.length_take]; rfl)) ?_; (with_reducible refine (impl_invert.calls a0_1 t103 _ A3.out).mono ?_); rintro e w8 ⟨rfl, hb⟩; refine ⟨_, rfl, ?_⟩; have n0_ := Aside0.mk (blk_below (g := gb101) (o := .cells #[.int .i64 a0_0, .int .i64 a0_1] 66 (0, 0)) (by (with_reducible repeat (first | refine blk_drewN ?_ _ | refine blk_drew ?_ | refine blk_alloc ?_ _)); exact BK101.out) hb); have n1_ := Aside0.mk (blk_below (g := gb102) (o := .cells #[.int .i64 0, .int .i64 0] 66 (0, 0)) (by (with_reducible repeat (first | refine blk_drewN ?_ _ | refine blk_drew ?_ | refine blk_alloc ?_ _)); exact BK102.out) hb); have n2_ := Aside0.mk (below_step (by repeat (first | (with_reducible first | exact HB.out | apply below_alloc | apply pw_below_drewN | apply below_drew1 | refine below_set ?_ GE101.out | refine below_set ?_ GE102.out) | exact HB.out)) hb); clear BK101; clear BK102; clear HB; have BK101 := n0_; have BK102 := n1_; have HB := n2_; clear n0_ n1_ n2_; (try clear hb); (try clear hb2); (try clear hk); (try clear hi); have hcz9_0 : w8.cell? ⟨gb102, 0, none⟩ = some (.int .i64 0) := (blk_cell BK102.out 0).trans rfl; have hcz9_1 : w8.cell? ⟨gb102, 1, none⟩ = some (.int .i64 0) := (blk_cell BK102.out 1).trans rfl; have hfz9_0 := blk_frozen BK102.out 0; have hfz9_1 := blk_frozen BK102.out 1))
  refine bodyPost_ret (results_cell_row rfl _ _ gb102 66 #[.int .i64 a1, .int .i64 t103] (0, 0) _ rfl (by (with_reducible repeat (first | refine blk_drewN ?_ _ | refine blk_drew ?_ | refine blk_alloc ?_ _)); refine blk_put (cs := #[.int .i64 a1, .int .i64 0]) ?_ 1 _ rfl; (with_reducible repeat (first | refine blk_drewN ?_ _ | refine blk_drew ?_ | refine blk_alloc ?_ _)); refine blk_put (cs := #[.int .i64 0, .int .i64 0]) ?_ 0 _ rfl; (with_reducible repeat (first | refine blk_drewN ?_ _ | refine blk_drew ?_ | refine blk_alloc ?_ _)); exact BK102.out) Try.underlying66 rfl (by kernel_rfl)) rfl ?_
  exact ⟨by first | rfl | (simp [errW_none, errW_some] <;> rfl) | (simp [*, errW_none, errW_some] <;> rfl), by repeat (first | (with_reducible first | exact HB.out | apply below_alloc | apply pw_below_drewN | apply below_drew1 | refine below_set ?_ GE101.out | refine below_set ?_ GE102.out) | exact HB.out)⟩
end Go.Proofs.Ytfaagdpopmnnpaa.P

-- Printed by a program of this session (drv.py), by means of the kit's print.py.
namespace Go.Proofs.Ytfaagdpopmnnpaa.P
open Go.RowKit Go.Proofs.YtfaagdpopmnnpaaW.PrintWords Go.Proofs.YtfaagdpopmnnpaaW.PrintLast Go.Proofs.YtfaagdpopmnnpaaW.PrintMore
attribute [local go_sem] max2_int min2_int max_two min_two max_three min_three max_four min_four   -- for this text's walks alone
set_option linter.unusedVariables false
set_option linter.unusedSimpArgs false
-- HAND (loop.example/g00870/impl.Face).target rounds=0 making=1
/-! Face.target: the image of a face's number. -/
def impl_Face_target.f (a0_0 : Int) (a0_1 : Int) (a1 : Int) : Option Int := if 0 ≤ a0_1 ∧ a0_1 ≤ 23 ∧ 0 ≤ a1 ∧ a1 ≤ 3 then some (rd (permL a0_1) a1) else none
set_option maxHeartbeats 800000 in
set_option maxRecDepth 100000 in
theorem impl_Face_target.calls (a0_0 : Int) (a0_1 : Int) (a1 : Int) (r : Int) (w : World) (h : impl_Face_target.f a0_0 a0_1 a1 = some r) :
    Calls Try.prog 92 #[.agg #[.int .i64 a0_0, .int .i64 a0_1], .int .i64 a1] w fun e w' => e = .returned (.int .i64 r) ∧ Below w.heap.size w w' := by
  unfold impl_Face_target.f at h
  by_cases hc : 0 ≤ a0_1 ∧ a0_1 ≤ 23 ∧ 0 ≤ a1 ∧ a1 ≤ 3
  · rw [if_pos hc] at h
    obtain ⟨h0, h1, hf0, hf1⟩ := hc
    have ix := arr_index (permAt a0_1 0) (permAt a0_1 1) (permAt a0_1 2) (permAt a0_1 3) a1 hf0 hf1
    have H0 := Aside0.mk h0
    have H1 := Aside0.mk h1
    clear h0 h1
    have hr : rd [permAt a0_1 0, permAt a0_1 1, permAt a0_1 2, permAt a0_1 3] a1 = r := Option.some.inj h
    rw [hr] at ix
    clear hr h
    go_enter Try.func92, Try.ntmps92
    go_wp2_with fail
    refine (impl_perm.calls _ _ H0.out H1.out).mono ?_
    rintro e w' ⟨rfl, hb⟩
    have HB := Aside0.mk (below_step (below_alloc (Below.refl _ _) _) hb)
    clear hb
    go_wp2
    go_ret
    exact ⟨rfl, HB.out⟩
  · rw [if_neg hc] at h
    exact absurd h (by simp)
end Go.Proofs.Ytfaagdpopmnnpaa.P

-- Printed by a program of this session (drv.py), by means of the kit's print.py.
namespace Go.Proofs.Ytfaagdpopmnnpaa.P
open Go.RowKit Go.Proofs.YtfaagdpopmnnpaaW.PrintWords Go.Proofs.YtfaagdpopmnnpaaW.PrintLast Go.Proofs.YtfaagdpopmnnpaaW.PrintMore
attribute [local go_sem] max2_int min2_int max_two min_two max_three min_three max_four min_four   -- for this text's walks alone
set_option linter.unusedVariables false
set_option linter.unusedSimpArgs false
/-! ### impl_inRange: function 99 -/
def impl_inRange.f (a0 : Int) (a1 : Int) (a2 : Int) : Option (Bool) := if a1 ≤ a0 then (some (decide (a0 ≤ a2))) else (some false)
set_option maxHeartbeats 8000000 in
set_option maxRecDepth 100000 in
theorem impl_inRange.calls (a0 : Int) (a1 : Int) (a2 : Int) (r : Bool) (w : World) (h : impl_inRange.f a0 a1 a2 = some r) :
    Calls Try.prog 99 #[.int .i64 a0, .int .i64 a1, .int .i64 a2] w fun e w' => e = .returned (.bool r) ∧ Drawn0 w w' := by
  have H : (if a1 ≤ a0 then (some (decide (a0 ≤ a2))) else (some false)) = some r := h
  clear h
  by_cases c4 : a1 ≤ a0
  · rw [if_pos c4] at H
    have c4b0 : decide (a1 ≤ a0) = true := decide_eq_true c4
    clear c4
    obtain rfl := Option.some.inj H
    go_enter Try.func99, Try.ntmps99
    go_wp2
    go_ret
    exact ⟨by first | rfl | (simp; done) | (simp [*]; done), by repeat (first | exact Drawn0.refl _ | apply Drawn0.step)⟩
  · rw [if_neg c4] at H
    have c4b0 : decide (a1 ≤ a0) = false := decide_eq_false c4
    clear c4
    obtain rfl := Option.some.inj H
    go_enter Try.func99, Try.ntmps99
    go_wp2
    go_ret
    exact ⟨by first | rfl | (simp; done) | (simp [*]; done), by repeat (first | exact Drawn0.refl _ | apply Drawn0.step)⟩
end Go.Proofs.Ytfaagdpopmnnpaa.P

-- Printed by a program of this session (drv.py), by means of the kit's print.py.
namespace Go.Proofs.Ytfaagdpopmnnpaa.P
open Go.RowKit Go.Proofs.YtfaagdpopmnnpaaW.PrintWords Go.Proofs.YtfaagdpopmnnpaaW.PrintLast Go.Proofs.YtfaagdpopmnnpaaW.PrintMore
attribute [local go_sem] max2_int min2_int max_two min_two max_three min_three max_four min_four   -- for this text's walks alone
set_option linter.unusedVariables false
set_option linter.unusedSimpArgs false
/-! ### impl_hasIndex_Simpl_Face: function 73 -/
def impl_hasIndex_Simpl_Face.f (l0 : List (List (SFace))) (a1 : Int) : Option (Bool) := (impl_size_Simpl_Face.f l0).bind fun t101 => ((impl_inRange.f a1 0 (wrap64 (t101 - 1))).bind fun t102 => (some t102))
set_option maxHeartbeats 8000000 in
set_option maxRecDepth 100000 in
theorem impl_hasIndex_Simpl_Face.calls (A0 : Option Addr) (c0 : Nat) (l0 : List (List (SFace))) (a1 : Int) (r : Bool) (w : World) (hr0 : Kd.C (Kd.slice 66 kFace) w A0 l0.length l0) (hc0 : l0.length ≤ c0) (h : impl_hasIndex_Simpl_Face.f l0 a1 = some r) :
    Calls Try.prog 73 #[.slice A0 l0.length c0, .int .i64 a1] w fun e w' => e = .returned (.bool r) ∧ Drawn0 w w' := by
  have HR0 := Aside0.mk hr0
  have HC0 := Aside0.mk hc0
  clear hr0 hc0
  have H : ((impl_size_Simpl_Face.f l0).bind fun t101 => ((impl_inRange.f a1 0 (wrap64 (t101 - 1))).bind fun t102 => (some t102))) = some r := h
  clear h
  replace H := Option.bind_eq_some_iff.mp H
  obtain ⟨t101, A30, H⟩ := H
  replace H : ((impl_inRange.f a1 0 (wrap64 (t101 - 1))).bind fun t102 => (some t102)) = some r := H
  have A3 := Aside0.mk A30
  clear A30
  replace H := Option.bind_eq_some_iff.mp H
  obtain ⟨t102, A40, H⟩ := H
  replace H : (some t102) = some r := H
  have A4 := Aside0.mk A40
  clear A40
  obtain rfl := Option.some.inj H
  go_enter Try.func73, Try.ntmps73
  go_wp2_with (first | ((with_reducible refine gate_callee (f := 78) rfl ?_); refine goesL_ (some 7) rfl rfl Try.func78 (by kernel_rfl) rfl #[.slice A0 l0.length c0] rfl (by (try simp only [List.map_toArray, List.map_cons, List.map_nil]); first | done | rfl | (simp only [List.length_drop, List.length_take]; rfl)) ?_; (with_reducible refine (impl_size_Simpl_Face.calls _ _ l0 t101 _ ?side1 ?side2 A3.out).mono ?_); (case side1 => repeat (first | exact HR0.out | (with_reducible refine Kd.C_alloc ?_ _) | (with_reducible refine Kd.C_drewN ?_ _) | (with_reducible refine Kd.C_drew ?_))); (case side2 => exact HC0.out); rintro e w' ⟨rfl, ⟨nd, rfl⟩⟩; refine ⟨_, rfl, ?_⟩) | ((with_reducible refine gate_callee (f := 99) rfl ?_); refine goesL_ (some 9) rfl rfl Try.func99 (by kernel_rfl) rfl #[.int .i64 a1, .int .i64 0, .int .i64 (wrap64 (t101 - 1))] rfl (by (try simp only [List.map_toArray, List.map_cons, List.map_nil]); first | done | rfl | (simp only [List.length_drop, List.length_take]; rfl)) ?_; (with_reducible refine (impl_inRange.calls a1 0 (wrap64 (t101 - 1)) t102 _ A4.out).mono ?_); rintro e w' ⟨rfl, ⟨nd, rfl⟩⟩; refine ⟨_, rfl, ?_⟩))
  go_ret
  exact ⟨by first | rfl | (simp; done) | (simp [*]; done), by repeat (first | exact Drawn0.refl _ | apply Drawn0.step)⟩
end Go.Proofs.Ytfaagdpopmnnpaa.P

-- Printed by a program of this session (drv.py), by means of the kit's print.py.
namespace Go.Proofs.Ytfaagdpopmnnpaa.P
open Go.RowKit Go.Proofs.YtfaagdpopmnnpaaW.PrintWords Go.Proofs.YtfaagdpopmnnpaaW.PrintLast Go.Proofs.YtfaagdpopmnnpaaW.PrintMore
attribute [local go_sem] max2_int min2_int max_two min_two max_three min_three max_four min_four   -- for this text's walks alone
set_option linter.unusedVariables false
set_option linter.unusedSimpArgs false
/-! ### impl_isPerm: function 114 -/
def impl_isPerm.f (a0 : Int) : Option (Bool) := (impl_inRange.f a0 0 23).bind fun t101 => (some t101)
set_option maxHeartbeats 8000000 in
set_option maxRecDepth 100000 in
theorem impl_isPerm.calls (a0 : Int) (r : Bool) (w : World) (h : impl_isPerm.f a0 = some r) :
    Calls Try.prog 114 #[.int .i64 a0] w fun e w' => e = .returned (.bool r) ∧ Drawn0 w w' := by
  have H : ((impl_inRange.f a0 0 23).bind fun t101 => (some t101)) = some r := h
  clear h
  replace H := Option.bind_eq_some_iff.mp H
  obtain ⟨t101, A20, H⟩ := H
  replace H : (some t101) = some r := H
  have A2 := Aside0.mk A20
  clear A20
  obtain rfl := Option.some.inj H
  go_enter Try.func114, Try.ntmps114
  go_wp2_with (first | ((with_reducible refine gate_callee (f := 99) rfl ?_); refine goesL_ (some 4) rfl rfl Try.func99 (by kernel_rfl) rfl #[.int .i64 a0, .int .i64 0, .int .i64 23] rfl (by (try simp only [List.map_toArray, List.map_cons, List.map_nil]); first | done | rfl | (simp only [List.length_drop, List.length_take]; rfl)) ?_; (with_reducible refine (impl_inRange.calls a0 0 23 t101 _ A2.out).mono ?_); rintro e w' ⟨rfl, ⟨nd, rfl⟩⟩; refine ⟨_, rfl, ?_⟩))
  go_ret
  exact ⟨by first | rfl | (simp; done) | (simp [*]; done), by repeat (first | exact Drawn0.refl _ | apply Drawn0.step)⟩
end Go.Proofs.Ytfaagdpopmnnpaa.P

-- Printed by a program of this session (drv.py), by means of the kit's print.py.
namespace Go.Proofs.Ytfaagdpopmnnpaa.P
open Go.RowKit Go.Proofs.YtfaagdpopmnnpaaW.PrintWords Go.Proofs.YtfaagdpopmnnpaaW.PrintLast Go.Proofs.YtfaagdpopmnnpaaW.PrintMore
attribute [local go_sem] max2_int min2_int max_two min_two max_three min_three max_four min_four   -- for this text's walks alone
set_option linter.unusedVariables false
set_option linter.unusedSimpArgs false
attribute [local go_sem high] eqA66
/-! ### impl_Triangulation_isGood: function 129 -/
def impl_Triangulation_isGood.j0 : Nat → Int → Int → Bool → List (List (SFace)) → Int → Int → Option (Bool)
 | 0, _, _, _, _, _, _ => none
 | k + 1, x1, x2, x34, x102000, x105000, x105001 => if x34 = true then (some false) else ((impl_Face_target.f x105000 x105001 x2).bind fun t107 => (if 0 ≤ x105000 then (if x105000 < (x102000.length : Int) then (if 0 ≤ t107 then (if t107 < ((rd_LFace x102000 x105000).length : Int) then ((impl_Face_partner.f x105000 x105001 x1).bind fun bt110 => (if (((rd_Face (rd_LFace x102000 x105000) t107).f0) == bt110.1 && (((rd_Face (rd_LFace x102000 x105000) t107).f1) == bt110.2)) = true then (if x105000 = x1 then (some (t107 != x2)) else (some true)) else (some false))) else (none)) else (none)) else (none)) else (none)))
def impl_Triangulation_isGood.f (k : Nat) (l0_0 : List (List (SFace))) (a1 : Int) (a2 : Int) : Option (Bool) := if 0 ≤ a1 then (if a1 < (l0_0.length : Int) then (if 0 ≤ a2 then (if a2 < ((rd_LFace l0_0 a1).length : Int) then (if ((rd_Face (rd_LFace l0_0 a1) a2).f0) = (-1) then (some (((rd_Face (rd_LFace l0_0 a1) a2).f1) == 0)) else ((impl_hasIndex_Simpl_Face.f l0_0 ((rd_Face (rd_LFace l0_0 a1) a2).f0)).bind fun t105 => (if t105 = true then ((impl_isPerm.f ((rd_Face (rd_LFace l0_0 a1) a2).f1)).bind fun t106 => (impl_Triangulation_isGood.j0 k a1 a2 (!t106) l0_0 ((rd_Face (rd_LFace l0_0 a1) a2).f0) ((rd_Face (rd_LFace l0_0 a1) a2).f1))) else (impl_Triangulation_isGood.j0 k a1 a2 true l0_0 ((rd_Face (rd_LFace l0_0 a1) a2).f0) ((rd_Face (rd_LFace l0_0 a1) a2).f1))))) else (none)) else (none)) else (none)) else (none)
theorem impl_Triangulation_isGood.mono_l : ∀ k, (∀ y0 y1 y2 y3 y4 y5, LeO (impl_Triangulation_isGood.j0 k y0 y1 y2 y3 y4 y5) (impl_Triangulation_isGood.j0 (k + 1) y0 y1 y2 y3 y4 y5))
 | 0 => fun _ _ _ _ _ _ r h => by simp [impl_Triangulation_isGood.j0] at h
 | k + 1 => by
  have ih0 := impl_Triangulation_isGood.mono_l k
  next =>
   intro y0 y1 y2 y3 y4 y5
   unfold impl_Triangulation_isGood.j0
   repeat' first
   | (with_reducible exact ih0 _ _ _ _ _ _)
   | (with_reducible exact LeO.refl _)
   | (with_reducible exact LeO.none _)
   | (with_reducible refine LeO.ite ?_ ?_)
   | (with_reducible refine LeO.bind ?_ (fun _ => ?_))
   | exact ih0 _ _ _ _ _ _
   | exact LeO.none _
   | refine LeO.ite ?_ ?_
   | refine LeO.bind ?_ (fun _ => ?_)
theorem impl_Triangulation_isGood.mono : ∀ a0 a1 a2 k, LeO (impl_Triangulation_isGood.f k a0 a1 a2) (impl_Triangulation_isGood.f (k + 1) a0 a1 a2) := by
 intro a0 a1 a2 k
 have ih0 := impl_Triangulation_isGood.mono_l k
 unfold impl_Triangulation_isGood.f
 repeat' first
  | (with_reducible exact ih0 _ _ _ _ _ _)
  | (with_reducible exact LeO.refl _)
  | (with_reducible exact LeO.none _)
  | (with_reducible refine LeO.ite ?_ ?_)
  | (with_reducible refine LeO.bind ?_ (fun _ => ?_))
  | exact ih0 _ _ _ _ _ _
  | exact LeO.none _
  | refine LeO.ite ?_ ?_
  | refine LeO.bind ?_ (fun _ => ?_)
def impl_Triangulation_isGood.T7 : Bool × List (List Nat × List Nat) := (true, [([], []), ([0], [0]), ([], []), ([2], [2]), ([1, 3], [1, 3]), ([4], [4]), ([], []), ([5, 6], [5, 6]), ([7], [7]), ([], []), ([], []), ([9, 10], [9, 10]), ([8, 11], [8, 11]), ([12, 11], [12]), ([13], [13]), ([14, 13], [13, 14]), ([13], [13]), ([15, 16, 13], [13, 15, 16]), ([17, 13, 13], [13, 17]), ([18], [18]), ([18], [18]), ([19, 20, 18], [18, 19, 20]), ([18, 21, 13], [13, 18, 21]), ([13, 22], [13, 22]), ([23, 18, 0, 1, 2, 3, 4, 5, 6, 7, 8, 9, 10, 11, 12, 13, 14, 15, 16, 17, 18, 19, 20, 21, 22, 23], [23])])
def impl_Triangulation_isGood.B7 : List Nat := [0, 1, 0, 4, 15, 31, 0, 127, 255, 0, 0, 1536, 4095, 8191, 16383, 32767, 16383, 131071, 262143, 524287, 524287, 2097151, 4194303, 8388607, 16777215]
theorem impl_Triangulation_isGood.tab7 : rtab .any (opsOf Try.f129 7) = impl_Triangulation_isGood.T7 := by kernel_rfl
theorem impl_Triangulation_isGood.bits7 : waitsOk impl_Triangulation_isGood.T7.2 impl_Triangulation_isGood.B7 = true := by kernel_rfl
set_option maxHeartbeats 8000000 in
set_option maxRecDepth 100000 in
theorem impl_Triangulation_isGood.calls (k : Nat) (A0_0 : Option Addr) (c0_0 : Nat) (l0_0 : List (List (SFace))) (a1 : Int) (a2 : Int) (r : Bool) (w : World) (hr0_0 : Kd.C (Kd.slice 66 kFace) w A0_0 l0_0.length l0_0) (hc0_0 : l0_0.length ≤ c0_0) (h : impl_Triangulation_isGood.f k l0_0 a1 a2 = some r) :
 Calls Try.prog 129 #[.agg #[.slice A0_0 l0_0.length c0_0], .int .i64 a1, .int .i64 a2] w fun e w' => e = .returned (.bool r) ∧ Below w.heap.size w w' := by
 have hu29 := Try.underlying29
 have hu66 := Try.underlying66
 have HR0_0 := Aside0.mk hr0_0
 have HC0_0 := Aside0.mk hc0_0
 clear hr0_0 hc0_0
 have HB := Aside0.mk (Below.refl w.heap.size w)
 have H : (if 0 ≤ a1 then (if a1 < (l0_0.length : Int) then (if 0 ≤ a2 then (if a2 < ((rd_LFace l0_0 a1).length : Int) then (if ((rd_Face (rd_LFace l0_0 a1) a2).f0) = (-1) then (some (((rd_Face (rd_LFace l0_0 a1) a2).f1) == 0)) else ((impl_hasIndex_Simpl_Face.f l0_0 ((rd_Face (rd_LFace l0_0 a1) a2).f0)).bind fun t105 => (if t105 = true then ((impl_isPerm.f ((rd_Face (rd_LFace l0_0 a1) a2).f1)).bind fun t106 => (impl_Triangulation_isGood.j0 k a1 a2 (!t106) l0_0 ((rd_Face (rd_LFace l0_0 a1) a2).f0) ((rd_Face (rd_LFace l0_0 a1) a2).f1))) else (impl_Triangulation_isGood.j0 k a1 a2 true l0_0 ((rd_Face (rd_LFace l0_0 a1) a2).f0) ((rd_Face (rd_LFace l0_0 a1) a2).f1))))) else (none)) else (none)) else (none)) else (none)) = some r := h
 clear h
 by_cases c4 : 0 ≤ a1
 next =>
  rw [if_pos c4] at H
  have c4b0 : decide (0 ≤ a1) = true := decide_eq_true c4
  clear c4
  by_cases c5 : a1 < (l0_0.length : Int)
  next =>
   rw [if_pos c5] at H
   have c5b0 : decide (a1 < (l0_0.length : Int)) = true := decide_eq_true c5
   clear c5
   by_cases c6 : 0 ≤ a2
   next =>
    rw [if_pos c6] at H
    have c6b0 : decide (0 ≤ a2) = true := decide_eq_true c6
    clear c6
    by_cases c7 : a2 < ((rd_LFace l0_0 a1).length : Int)
    next =>
     rw [if_pos c7] at H
     have c7b0 : decide (a2 < ((rd_LFace l0_0 a1).length : Int)) = true := decide_eq_true c7
     clear c7
     by_cases c8 : ((rd_Face (rd_LFace l0_0 a1) a2).f0) = (-1)
     next =>
      rw [if_pos c8] at H
      have c8b0 : (((rd_Face (rd_LFace l0_0 a1) a2).f0) == (-1)) = true := beq_iff_eq.mpr c8
      have c8b1 : (((rd_Face (rd_LFace l0_0 a1) a2).f0) != (-1)) = false := bne_eq_false_iff_eq.mpr c8
      clear c8
      obtain rfl := Option.some.inj H
      go_enter Try.func129, Try.ntmps129
      go_wp2_with (first | ((with_reducible refine gate_dst (N := 3) rfl ?_); refine box_event ?hg (N := 3) ?hd (cs := #[.slice A0_0 l0_0.length c0_0]) (t := 29) ?hr ?_; (case hd => rfl); (case hg => rfl); (case hr => first | (go_simp; done) | (go_simp; rfl)); intro gb101 hg w9 hbox hb; have n0_ := Aside0.mk (below_step (by repeat (first | (with_reducible first | exact HB.out | apply below_alloc | apply pw_below_drewN | apply below_drew1) | exact HB.out)) hb); have n1_ := Aside0.mk (hbox); have n2_ := Aside0.mk ((by rw [hg]; exact (below_size (by repeat (first | (with_reducible first | exact HB.out | apply below_alloc | apply pw_below_drewN | apply below_drew1) | exact HB.out))) : w.heap.size ≤ gb101)); have n3_ := Aside0.mk ((by rw [hg]; exact (below_size (by repeat (first | (with_reducible first | exact HB.out | apply below_alloc | apply pw_below_drewN | apply below_drew1) | exact HB.out))) : w.heap.size ≤ gb101)); clear HB; have HB := n0_; have BK101 := n1_; have GW101 := n2_; have GE101 := n3_; clear n0_ n1_ n2_ n3_; clear hb hbox hg; have hcz10_0 : w9.cell? ⟨gb101, 0, none⟩ = some (.slice A0_0 l0_0.length c0_0) := (blk_cell BK101.out 0).trans rfl; have hfz10_0 := blk_frozen BK101.out 0; have p102 : 0 ≤ (a1 : Int) := of_decide_eq_true (by first | (with_reducible assumption) | assumption); have q102 : a1 < (l0_0.length : Int) := of_decide_eq_true (by first | (with_reducible assumption) | assumption); obtain ⟨ad102, A102_0, c102_0, e102, hx102_0, hl102_0, hi102_0⟩ := at_LFace HR0_0.out a1 p102 q102; cases e102; replace hx102_0 := (HB.out.cell (World.block_lt_of_cell? w _ hx102_0)).trans hx102_0; have HR102_0 := Aside0.mk hi102_0; have HC102_0 := Aside0.mk hl102_0; clear hi102_0 hl102_0; replace p102 := eq_true p102; replace q102 := eq_true q102; have p103 : 0 ≤ (a2 : Int) := of_decide_eq_true (by first | (with_reducible assumption) | assumption); have q103 : a2 < ((rd_LFace l0_0 a1).length : Int) := of_decide_eq_true (by first | (with_reducible assumption) | assumption); obtain ⟨ad103, e103, hx103_0, hx103_1⟩ := at_Face HR102_0.out a2 p103 q103; cases e103; replace hx103_0 := (HB.out.cell (World.block_lt_of_cell? w _ hx103_0)).trans hx103_0; replace hx103_1 := (HB.out.cell (World.block_lt_of_cell? w _ hx103_1)).trans hx103_1; replace p103 := eq_true p103; replace q103 := eq_true q103) | ((with_reducible refine gate_dst (N := 7) rfl ?_); refine box_event ?hg (N := 7) ?hd (cs := #[.int .i64 0, .int .i64 0]) (t := 66) ?hr ?_; (case hd => rfl); (case hg => rfl); (case hr => first | (go_simp; done) | (go_simp; rfl)); intro gb104 hg w11 hbox hb; have n0_ := Aside0.mk (blk_below (g := gb101) (o := .cells #[.slice (some ad102) l0_0.length c0_0] 29 (0, 0)) (by (with_reducible repeat (first | refine blk_drewN ?_ _ | refine blk_drew ?_ | refine blk_alloc ?_ _)); exact BK101.out) hb); have n1_ := Aside0.mk (below_step (by repeat (first | (with_reducible first | exact HB.out | apply below_alloc | apply pw_below_drewN | apply below_drew1 | refine below_set ?_ GE101.out) | exact HB.out)) hb); have n2_ := Aside0.mk (hbox); have n3_ := Aside0.mk ((by rw [hg]; exact (below_size (by repeat (first | (with_reducible first | exact HB.out | apply below_alloc | apply pw_below_drewN | apply below_drew1 | refine below_set ?_ GE101.out) | exact HB.out))) : w.heap.size ≤ gb104)); have n4_ := Aside0.mk ((by rw [hg]; exact (below_size (by repeat (first | (with_reducible first | exact HB.out | apply below_alloc | apply pw_below_drewN | apply below_drew1 | refine below_set ?_ GE101.out) | exact HB.out))) : w.heap.size ≤ gb104)); have n5_ := Aside0.mk ((by rw [hg]; exact Nat.ne_of_lt (blk_lt (g := gb101) (o := .cells #[.slice (some ad102) l0_0.length c0_0] 29 (0, 0)) (by (with_reducible repeat (first | refine blk_drewN ?_ _ | refine blk_drew ?_ | refine blk_alloc ?_ _)); exact BK101.out)) : gb101 ≠ gb104)); have n6_ := Aside0.mk ((by rw [hg]; exact Nat.ne_of_gt (blk_lt (g := gb101) (o := .cells #[.slice (some ad102) l0_0.length c0_0] 29 (0, 0)) (by (with_reducible repeat (first | refine blk_drewN ?_ _ | refine blk_drew ?_ | refine blk_alloc ?_ _)); exact BK101.out)) : gb104 ≠ gb101)); clear BK101; clear HB; have BK101 := n0_; have HB := n1_; have BK104 := n2_; have GW104 := n3_; have GE104 := n4_; have NB101_104 := n5_; have NB104_101 := n6_; clear n0_ n1_ n2_ n3_ n4_ n5_ n6_; clear hb hbox hg; have hnb12 := NB104_101.out; have hnc12 := NB101_104.out; have hcz13_0 : w11.cell? ⟨gb104, 0, none⟩ = some (.int .i64 0) := (blk_cell BK104.out 0).trans rfl; have hcz13_1 : w11.cell? ⟨gb104, 1, none⟩ = some (.int .i64 0) := (blk_cell BK104.out 1).trans rfl; have hfz13_0 := blk_frozen BK104.out 0; have hfz13_1 := blk_frozen BK104.out 1))
      go_ret
      exact ⟨by first | rfl | (simp [errW_none, errW_some] <;> rfl) | (simp [*, errW_none, errW_some] <;> rfl), by repeat (first | (with_reducible first | exact HB.out | apply below_alloc | apply pw_below_drewN | apply below_drew1 | refine below_set ?_ GE101.out | refine below_set ?_ GE104.out) | exact HB.out)⟩
     next =>
      rw [if_neg c8] at H
      have c8b0 : (((rd_Face (rd_LFace l0_0 a1) a2).f0) == (-1)) = false := beq_eq_false_iff_ne.mpr c8
      have c8b1 : (((rd_Face (rd_LFace l0_0 a1) a2).f0) != (-1)) = true := bne_iff_ne.mpr c8
      have HC14 := Aside0.mk H
      clear H
      go_enter Try.func129, Try.ntmps129
      go_upto_region 4 with (first | ((with_reducible refine gate_dst (N := 3) rfl ?_); refine box_event ?hg (N := 3) ?hd (cs := #[.slice A0_0 l0_0.length c0_0]) (t := 29) ?hr ?_; (case hd => rfl); (case hg => rfl); (case hr => first | (go_simp; done) | (go_simp; rfl)); intro gb101 hg w15 hbox hb; have n0_ := Aside0.mk (below_step (by repeat (first | (with_reducible first | exact HB.out | apply below_alloc | apply pw_below_drewN | apply below_drew1) | exact HB.out)) hb); have n1_ := Aside0.mk (hbox); have n2_ := Aside0.mk ((by rw [hg]; exact (below_size (by repeat (first | (with_reducible first | exact HB.out | apply below_alloc | apply pw_below_drewN | apply below_drew1) | exact HB.out))) : w.heap.size ≤ gb101)); have n3_ := Aside0.mk ((by rw [hg]; exact (below_size (by repeat (first | (with_reducible first | exact HB.out | apply below_alloc | apply pw_below_drewN | apply below_drew1) | exact HB.out))) : w.heap.size ≤ gb101)); clear HB; have HB := n0_; have BK101 := n1_; have GW101 := n2_; have GE101 := n3_; clear n0_ n1_ n2_ n3_; clear hb hbox hg; have hcz16_0 : w15.cell? ⟨gb101, 0, none⟩ = some (.slice A0_0 l0_0.length c0_0) := (blk_cell BK101.out 0).trans rfl; have hfz16_0 := blk_frozen BK101.out 0; have p102 : 0 ≤ (a1 : Int) := of_decide_eq_true (by first | (with_reducible assumption) | assumption); have q102 : a1 < (l0_0.length : Int) := of_decide_eq_true (by first | (with_reducible assumption) | assumption); obtain ⟨ad102, A102_0, c102_0, e102, hx102_0, hl102_0, hi102_0⟩ := at_LFace HR0_0.out a1 p102 q102; cases e102; replace hx102_0 := (HB.out.cell (World.block_lt_of_cell? w _ hx102_0)).trans hx102_0; have HR102_0 := Aside0.mk hi102_0; have HC102_0 := Aside0.mk hl102_0; clear hi102_0 hl102_0; replace p102 := eq_true p102; replace q102 := eq_true q102; have p103 : 0 ≤ (a2 : Int) := of_decide_eq_true (by first | (with_reducible assumption) | assumption); have q103 : a2 < ((rd_LFace l0_0 a1).length : Int) := of_decide_eq_true (by first | (with_reducible assumption) | assumption); obtain ⟨ad103, e103, hx103_0, hx103_1⟩ := at_Face HR102_0.out a2 p103 q103; cases e103; replace hx103_0 := (HB.out.cell (World.block_lt_of_cell? w _ hx103_0)).trans hx103_0; replace hx103_1 := (HB.out.cell (World.block_lt_of_cell? w _ hx103_1)).trans hx103_1; replace p103 := eq_true p103; replace q103 := eq_true q103) | ((with_reducible refine gate_dst (N := 7) rfl ?_); refine box_event ?hg (N := 7) ?hd (cs := #[.int .i64 0, .int .i64 0]) (t := 66) ?hr ?_; (case hd => rfl); (case hg => rfl); (case hr => first | (go_simp; done) | (go_simp; rfl)); intro gb104 hg w17 hbox hb; have n0_ := Aside0.mk (blk_below (g := gb101) (o := .cells #[.slice (some ad102) l0_0.length c0_0] 29 (0, 0)) (by (with_reducible repeat (first | refine blk_drewN ?_ _ | refine blk_drew ?_ | refine blk_alloc ?_ _)); exact BK101.out) hb); have n1_ := Aside0.mk (below_step (by repeat (first | (with_reducible first | exact HB.out | apply below_alloc | apply pw_below_drewN | apply below_drew1 | refine below_set ?_ GE101.out) | exact HB.out)) hb); have n2_ := Aside0.mk (hbox); have n3_ := Aside0.mk ((by rw [hg]; exact (below_size (by repeat (first | (with_reducible first | exact HB.out | apply below_alloc | apply pw_below_drewN | apply below_drew1 | refine below_set ?_ GE101.out) | exact HB.out))) : w.heap.size ≤ gb104)); have n4_ := Aside0.mk ((by rw [hg]; exact (below_size (by repeat (first | (with_reducible first | exact HB.out | apply below_alloc | apply pw_below_drewN | apply below_drew1 | refine below_set ?_ GE101.out) | exact HB.out))) : w.heap.size ≤ gb104)); have n5_ := Aside0.mk ((by rw [hg]; exact Nat.ne_of_lt (blk_lt (g := gb101) (o := .cells #[.slice (some ad102) l0_0.length c0_0] 29 (0, 0)) (by (with_reducible repeat (first | refine blk_drewN ?_ _ | refine blk_drew ?_ | refine blk_alloc ?_ _)); exact BK101.out)) : gb101 ≠ gb104)); have n6_ := Aside0.mk ((by rw [hg]; exact Nat.ne_of_gt (blk_lt (g := gb101) (o := .cells #[.slice (some ad102) l0_0.length c0_0] 29 (0, 0)) (by (with_reducible repeat (first | refine blk_drewN ?_ _ | refine blk_drew ?_ | refine blk_alloc ?_ _)); exact BK101.out)) : gb104 ≠ gb101)); clear BK101; clear HB; have BK101 := n0_; have HB := n1_; have BK104 := n2_; have GW104 := n3_; have GE104 := n4_; have NB101_104 := n5_; have NB104_101 := n6_; clear n0_ n1_ n2_ n3_ n4_ n5_ n6_; clear hb hbox hg; have hnb18 := NB104_101.out; have hnc18 := NB101_104.out; have hcz19_0 : w17.cell? ⟨gb104, 0, none⟩ = some (.int .i64 0) := (blk_cell BK104.out 0).trans rfl; have hcz19_1 : w17.cell? ⟨gb104, 1, none⟩ = some (.int .i64 0) := (blk_cell BK104.out 1).trans rfl; have hfz19_0 := blk_frozen BK104.out 0; have hfz19_1 := blk_frozen BK104.out 1))
      (try simp only [Act.put, List.setIfInBounds_toArray, List.set_cons_zero, List.set_cons_succ])
      go_cut [34] (fun v34 wc => ∃ (kq : Nat) (x34_13 : Bool), v34 = .bool x34_13 ∧ Aside0 (impl_Triangulation_isGood.j0 kq a1 a2 x34_13 l0_0 ((rd_Face (rd_LFace l0_0 a1) a2).f0) ((rd_Face (rd_LFace l0_0 a1) a2).f1) = some r) ∧ Aside0 (kq ≤ k) ∧ Aside0 (wc.heap[gb101]? = some (.cells #[(.slice (some ad102) l0_0.length c0_0)] 29 (0, 0))) ∧ Aside0 (wc.heap[gb104]? = some (.cells #[.int .i64 ((rd_Face (rd_LFace l0_0 a1) a2).f0), .int .i64 ((rd_Face (rd_LFace l0_0 a1) a2).f1)] 66 (0, 0))) ∧ Aside0 (Below w.heap.size w wc))
      case first =>
       have H := HC14.out
       clear HC14
       replace H := Option.bind_eq_some_iff.mp H
       obtain ⟨t105, A200, H⟩ := H
       replace H : (if t105 = true then ((impl_isPerm.f ((rd_Face (rd_LFace l0_0 a1) a2).f1)).bind fun t106 => (impl_Triangulation_isGood.j0 k a1 a2 (!t106) l0_0 ((rd_Face (rd_LFace l0_0 a1) a2).f0) ((rd_Face (rd_LFace l0_0 a1) a2).f1))) else (impl_Triangulation_isGood.j0 k a1 a2 true l0_0 ((rd_Face (rd_LFace l0_0 a1) a2).f0) ((rd_Face (rd_LFace l0_0 a1) a2).f1))) = some r := H
       have A20 := Aside0.mk A200
       clear A200
       by_cases c21 : t105 = true
       next =>
        subst c21
        have H1 : ((impl_isPerm.f ((rd_Face (rd_LFace l0_0 a1) a2).f1)).bind fun t106 => (impl_Triangulation_isGood.j0 k a1 a2 (!t106) l0_0 ((rd_Face (rd_LFace l0_0 a1) a2).f0) ((rd_Face (rd_LFace l0_0 a1) a2).f1))) = some r := by rw [if_pos rfl] at H; exact H
        clear H
        have H := H1
        clear H1
        replace H := Option.bind_eq_some_iff.mp H
        obtain ⟨t106, A220, H⟩ := H
        replace H : (impl_Triangulation_isGood.j0 k a1 a2 (!t106) l0_0 ((rd_Face (rd_LFace l0_0 a1) a2).f0) ((rd_Face (rd_LFace l0_0 a1) a2).f1)) = some r := H
        have A22 := Aside0.mk A220
        clear A220
        have H' := Aside0.mk H
        clear H
        have hnb23 := NB101_104.out
        have hnc23 := NB104_101.out
        have hcz24_0 : w17.cell? ⟨gb101, 0, none⟩ = some (.slice (some ad102) l0_0.length c0_0) := (blk_cell BK101.out 0).trans rfl
        have hfz24_0 := blk_frozen BK101.out 0
        have hcz25_0 : w17.cell? ⟨gb104, 0, none⟩ = some (.int .i64 0) := (blk_cell BK104.out 0).trans rfl
        have hcz25_1 : w17.cell? ⟨gb104, 1, none⟩ = some (.int .i64 0) := (blk_cell BK104.out 1).trans rfl
        have hfz25_0 := blk_frozen BK104.out 0
        have hfz25_1 := blk_frozen BK104.out 1
        go_wp2_with (first | ((with_reducible refine gate_callee (f := 73) rfl ?_); refine goesL_ (some 27) rfl rfl Try.func73 (by kernel_rfl) rfl #[.slice (some ad102) l0_0.length c0_0, .int .i64 ((rd_Face (rd_LFace l0_0 a1) a2).f0)] rfl (by (try simp only [List.map_toArray, List.map_cons, List.map_nil]); first | done | rfl | (simp only [List.length_drop, List.length_take]; rfl)) ?_; (with_reducible refine (impl_hasIndex_Simpl_Face.calls _ _ l0_0 ((rd_Face (rd_LFace l0_0 a1) a2).f0) true _ ?side1 ?side2 A20.out).mono ?_); (case side1 => exact Kd.C_below HR0_0.out (by repeat (first | (with_reducible first | exact HB.out | apply below_alloc | apply pw_below_drewN | apply below_drew1 | refine below_set ?_ GE101.out | refine below_set ?_ GE104.out) | exact HB.out))); (case side2 => exact HC0_0.out); rintro e w' ⟨rfl, ⟨nd, rfl⟩⟩; refine ⟨_, rfl, ?_⟩) | (go_at_call 114; (with_reducible refine (impl_isPerm.calls ((rd_Face (rd_LFace l0_0 a1) a2).f1) t106 _ A22.out).mono ?_); rintro e w' ⟨rfl, ⟨nd, rfl⟩⟩))
        go_meet
        case rel => exact ⟨_, (!t106), (by first | rfl | (simp; done) | (simp [*]; done)), H', ⟨by first | omega | exact Nat.le_refl _⟩, ⟨by (with_reducible repeat (first | refine blk_drewN ?_ _ | refine blk_drew ?_ | refine blk_alloc ?_ _)); refine blk_far ?_ NB101_104.out _; (with_reducible repeat (first | refine blk_drewN ?_ _ | refine blk_drew ?_ | refine blk_alloc ?_ _)); refine blk_far ?_ NB101_104.out _; (with_reducible repeat (first | refine blk_drewN ?_ _ | refine blk_drew ?_ | refine blk_alloc ?_ _)); exact BK101.out⟩, ⟨by (with_reducible repeat (first | refine blk_drewN ?_ _ | refine blk_drew ?_ | refine blk_alloc ?_ _)); refine blk_put (cs := #[.int .i64 ((rd_Face (rd_LFace l0_0 a1) a2).f0), .int .i64 0]) ?_ 1 _ rfl; (with_reducible repeat (first | refine blk_drewN ?_ _ | refine blk_drew ?_ | refine blk_alloc ?_ _)); refine blk_put (cs := #[.int .i64 0, .int .i64 0]) ?_ 0 _ rfl; (with_reducible repeat (first | refine blk_drewN ?_ _ | refine blk_drew ?_ | refine blk_alloc ?_ _)); exact BK104.out⟩, ⟨by repeat (first | (with_reducible first | exact HB.out | apply below_alloc | apply pw_below_drewN | apply below_drew1 | refine below_set ?_ GE101.out | refine below_set ?_ GE104.out) | exact HB.out)⟩⟩
       next =>
        replace c21 := Bool.eq_false_iff.mpr c21
        subst c21
        have H1 : (impl_Triangulation_isGood.j0 k a1 a2 true l0_0 ((rd_Face (rd_LFace l0_0 a1) a2).f0) ((rd_Face (rd_LFace l0_0 a1) a2).f1)) = some r := by rw [if_neg (show ¬ (false = true) by decide)] at H; exact H
        clear H
        have H := H1
        clear H1
        have H' := Aside0.mk H
        clear H
        have hnb26 := NB101_104.out
        have hnc26 := NB104_101.out
        have hcz27_0 : w17.cell? ⟨gb101, 0, none⟩ = some (.slice (some ad102) l0_0.length c0_0) := (blk_cell BK101.out 0).trans rfl
        have hfz27_0 := blk_frozen BK101.out 0
        have hcz28_0 : w17.cell? ⟨gb104, 0, none⟩ = some (.int .i64 0) := (blk_cell BK104.out 0).trans rfl
        have hcz28_1 : w17.cell? ⟨gb104, 1, none⟩ = some (.int .i64 0) := (blk_cell BK104.out 1).trans rfl
        have hfz28_0 := blk_frozen BK104.out 0
        have hfz28_1 := blk_frozen BK104.out 1
        go_wp2_with (first | ((with_reducible refine gate_callee (f := 73) rfl ?_); refine goesL_ (some 27) rfl rfl Try.func73 (by kernel_rfl) rfl #[.slice (some ad102) l0_0.length c0_0, .int .i64 ((rd_Face (rd_LFace l0_0 a1) a2).f0)] rfl (by (try simp only [List.map_toArray, List.map_cons, List.map_nil]); first | done | rfl | (simp only [List.length_drop, List.length_take]; rfl)) ?_; (with_reducible refine (impl_hasIndex_Simpl_Face.calls _ _ l0_0 ((rd_Face (rd_LFace l0_0 a1) a2).f0) false _ ?side1 ?side2 A20.out).mono ?_); (case side1 => exact Kd.C_below HR0_0.out (by repeat (first | (with_reducible first | exact HB.out | apply below_alloc | apply pw_below_drewN | apply below_drew1 | refine below_set ?_ GE101.out | refine below_set ?_ GE104.out) | exact HB.out))); (case side2 => exact HC0_0.out); rintro e w' ⟨rfl, ⟨nd, rfl⟩⟩; refine ⟨_, rfl, ?_⟩))
        go_meet
        case rel => exact ⟨_, (true), (by first | rfl | (simp; done) | (simp [*]; done)), H', ⟨by first | omega | exact Nat.le_refl _⟩, ⟨by (with_reducible repeat (first | refine blk_drewN ?_ _ | refine blk_drew ?_ | refine blk_alloc ?_ _)); refine blk_far ?_ NB101_104.out _; (with_reducible repeat (first | refine blk_drewN ?_ _ | refine blk_drew ?_ | refine blk_alloc ?_ _)); refine blk_far ?_ NB101_104.out _; (with_reducible repeat (first | refine blk_drewN ?_ _ | refine blk_drew ?_ | refine blk_alloc ?_ _)); exact BK101.out⟩, ⟨by (with_reducible repeat (first | refine blk_drewN ?_ _ | refine blk_drew ?_ | refine blk_alloc ?_ _)); refine blk_put (cs := #[.int .i64 ((rd_Face (rd_LFace l0_0 a1) a2).f0), .int .i64 0]) ?_ 1 _ rfl; (with_reducible repeat (first | refine blk_drewN ?_ _ | refine blk_drew ?_ | refine blk_alloc ?_ _)); refine blk_put (cs := #[.int .i64 0, .int .i64 0]) ?_ 0 _ rfl; (with_reducible repeat (first | refine blk_drewN ?_ _ | refine blk_drew ?_ | refine blk_alloc ?_ _)); exact BK104.out⟩, ⟨by repeat (first | (with_reducible first | exact HB.out | apply below_alloc | apply pw_below_drewN | apply below_drew1 | refine below_set ?_ GE101.out | refine below_set ?_ GE104.out) | exact HB.out)⟩⟩
      case rest =>
       clear HC14
       try clear c1
       try clear p1
       try clear q1
       try clear hx1
       try clear c2
       try clear p2
       try clear c4
       try clear c4b0
       try clear c5
       try clear c5b0
       try clear c6
       try clear c6b0
       try clear c7
       try clear c7b0
       try clear c8
       try clear c8b0
       try clear c8b1
       try clear c10
       try clear p10
       try clear q10
       try clear hx10
       try clear c12
       try clear c18
       try clear c21
       try clear c23
       try clear c26
       try clear hcz10_0
       try clear hcz13_0
       try clear hcz13_1
       try clear hcz16_0
       try clear hcz19_0
       try clear hcz19_1
       try clear hcz24_0
       try clear hcz25_0
       try clear hcz25_1
       try clear hcz27_0
       try clear hcz28_0
       try clear hcz28_1
       try clear hfz10_0
       try clear hfz13_0
       try clear hfz13_1
       try clear hfz16_0
       try clear hfz19_0
       try clear hfz19_1
       try clear hfz24_0
       try clear hfz25_0
       try clear hfz25_1
       try clear hfz27_0
       try clear hfz28_0
       try clear hfz28_1
       try clear hx102_0
       try clear hx103_0
       try clear hx103_1
       try clear p102
       try clear p103
       try clear q102
       try clear q103
       obtain ⟨kq, x34_13, rfl, HA, HJ13, BK101, BK104, HB⟩ := hcut
       cases kq with
       | zero => exact absurd HA.out (by simp [impl_Triangulation_isGood.j0])
       | succ kj13 =>
        have H := HA.out
        clear HA
        simp only [impl_Triangulation_isGood.j0] at H
        by_cases c29 : x34_13 = true
        next =>
         subst c29
         have H1 : (some false) = some r := by rw [if_pos rfl] at H; exact H
         clear H
         have H := H1
         clear H1
         obtain rfl := Option.some.inj H
         go_wp2
         go_ret
         exact ⟨by first | rfl | (simp [errW_none, errW_some] <;> rfl) | (simp [*, errW_none, errW_some] <;> rfl), by repeat (first | (with_reducible first | exact HB.out | apply below_alloc | apply pw_below_drewN | apply below_drew1 | refine below_set ?_ GE101.out | refine below_set ?_ GE104.out) | exact HB.out)⟩
        next =>
         replace c29 := Bool.eq_false_iff.mpr c29
         subst c29
         have H1 : ((impl_Face_target.f ((rd_Face (rd_LFace l0_0 a1) a2).f0) ((rd_Face (rd_LFace l0_0 a1) a2).f1) a2).bind fun t107 => (if 0 ≤ ((rd_Face (rd_LFace l0_0 a1) a2).f0) then (if ((rd_Face (rd_LFace l0_0 a1) a2).f0) < (l0_0.length : Int) then (if 0 ≤ t107 then (if t107 < ((rd_LFace l0_0 ((rd_Face (rd_LFace l0_0 a1) a2).f0)).length : Int) then ((impl_Face_partner.f ((rd_Face (rd_LFace l0_0 a1) a2).f0) ((rd_Face (rd_LFace l0_0 a1) a2).f1) a1).bind fun bt110 => (if (((rd_Face (rd_LFace l0_0 ((rd_Face (rd_LFace l0_0 a1) a2).f0)) t107).f0) == bt110.1 && (((rd_Face (rd_LFace l0_0 ((rd_Face (rd_LFace l0_0 a1) a2).f0)) t107).f1) == bt110.2)) = true then (if ((rd_Face (rd_LFace l0_0 a1) a2).f0) = a1 then (some (t107 != a2)) else (some true)) else (some false))) else (none)) else (none)) else (none)) else (none))) = some r := by rw [if_neg (show ¬ (false = true) by decide)] at H; exact H
         clear H
         have H := H1
         clear H1
         replace H := Option.bind_eq_some_iff.mp H
         obtain ⟨t107, A300, H⟩ := H
         replace H : (if 0 ≤ ((rd_Face (rd_LFace l0_0 a1) a2).f0) then (if ((rd_Face (rd_LFace l0_0 a1) a2).f0) < (l0_0.length : Int) then (if 0 ≤ t107 then (if t107 < ((rd_LFace l0_0 ((rd_Face (rd_LFace l0_0 a1) a2).f0)).length : Int) then ((impl_Face_partner.f ((rd_Face (rd_LFace l0_0 a1) a2).f0) ((rd_Face (rd_LFace l0_0 a1) a2).f1) a1).bind fun bt110 => (if (((rd_Face (rd_LFace l0_0 ((rd_Face (rd_LFace l0_0 a1) a2).f0)) t107).f0) == bt110.1 && (((rd_Face (rd_LFace l0_0 ((rd_Face (rd_LFace l0_0 a1) a2).f0)) t107).f1) == bt110.2)) = true then (if ((rd_Face (rd_LFace l0_0 a1) a2).f0) = a1 then (some (t107 != a2)) else (some true)) else (some false))) else (none)) else (none)) else (none)) else (none)) = some r := H
         have A30 := Aside0.mk A300
         clear A300
         by_cases c31 : 0 ≤ ((rd_Face (rd_LFace l0_0 a1) a2).f0)
         next =>
          rw [if_pos c31] at H
          have c31b0 : decide (0 ≤ ((rd_Face (rd_LFace l0_0 a1) a2).f0)) = true := decide_eq_true c31
          clear c31
          by_cases c32 : ((rd_Face (rd_LFace l0_0 a1) a2).f0) < (l0_0.length : Int)
          next =>
           rw [if_pos c32] at H
           have c32b0 : decide (((rd_Face (rd_LFace l0_0 a1) a2).f0) < (l0_0.length : Int)) = true := decide_eq_true c32
           clear c32
           by_cases c33 : 0 ≤ t107
           next =>
            rw [if_pos c33] at H
            have c33b0 : decide (0 ≤ t107) = true := decide_eq_true c33
            clear c33
            by_cases c34 : t107 < ((rd_LFace l0_0 ((rd_Face (rd_LFace l0_0 a1) a2).f0)).length : Int)
            next =>
             rw [if_pos c34] at H
             have c34b0 : decide (t107 < ((rd_LFace l0_0 ((rd_Face (rd_LFace l0_0 a1) a2).f0)).length : Int)) = true := decide_eq_true c34
             clear c34
             replace H := Option.bind_eq_some_iff.mp H
             obtain ⟨⟨t110, t111⟩, A350, H⟩ := H
             replace H : (if (((rd_Face (rd_LFace l0_0 ((rd_Face (rd_LFace l0_0 a1) a2).f0)) t107).f0) == t110 && (((rd_Face (rd_LFace l0_0 ((rd_Face (rd_LFace l0_0 a1) a2).f0)) t107).f1) == t111)) = true then (if ((rd_Face (rd_LFace l0_0 a1) a2).f0) = a1 then (some (t107 != a2)) else (some true)) else (some false)) = some r := H
             have A35 := Aside0.mk A350
             clear A350
             by_cases c36 : (((rd_Face (rd_LFace l0_0 ((rd_Face (rd_LFace l0_0 a1) a2).f0)) t107).f0) == t110 && (((rd_Face (rd_LFace l0_0 ((rd_Face (rd_LFace l0_0 a1) a2).f0)) t107).f1) == t111)) = true
             next =>
              rw [if_pos c36] at H
              have c36b0 : (((rd_Face (rd_LFace l0_0 ((rd_Face (rd_LFace l0_0 a1) a2).f0)) t107).f0) == t110 && (((rd_Face (rd_LFace l0_0 ((rd_Face (rd_LFace l0_0 a1) a2).f0)) t107).f1) == t111)) = true := c36
              (try (have c36b1 : decide (((rd_Face (rd_LFace l0_0 ((rd_Face (rd_LFace l0_0 a1) a2).f0)) t107).f0) = t110 && (((rd_Face (rd_LFace l0_0 ((rd_Face (rd_LFace l0_0 a1) a2).f0)) t107).f1) == t111)) = true := by simpa using c36))
              (try (have c36b2 : (((rd_Face (rd_LFace l0_0 ((rd_Face (rd_LFace l0_0 a1) a2).f0)) t107).f0) == t110 && (((rd_Face (rd_LFace l0_0 ((rd_Face (rd_LFace l0_0 a1) a2).f0)) t107).f1) == t111)) = true := by simpa using c36))
              clear c36
              by_cases c37 : ((rd_Face (rd_LFace l0_0 a1) a2).f0) = a1
              next =>
               rw [if_pos c37] at H
               have c37b0 : (((rd_Face (rd_LFace l0_0 a1) a2).f0) == a1) = true := beq_iff_eq.mpr c37
               have c37b1 : (((rd_Face (rd_LFace l0_0 a1) a2).f0) != a1) = false := bne_eq_false_iff_eq.mpr c37
               clear c37
               obtain rfl := Option.some.inj H
               have hnb38 := NB104_101.out
               have hnc38 := NB101_104.out
               have hcz39_0 : wc.cell? ⟨gb104, 0, none⟩ = some (.int .i64 ((rd_Face (rd_LFace l0_0 a1) a2).f0)) := (blk_cell BK104.out 0).trans rfl
               have hcz39_1 : wc.cell? ⟨gb104, 1, none⟩ = some (.int .i64 ((rd_Face (rd_LFace l0_0 a1) a2).f1)) := (blk_cell BK104.out 1).trans rfl
               have hfz39_0 := blk_frozen BK104.out 0
               have hfz39_1 := blk_frozen BK104.out 1
               try go_wp2_with (first | ((with_reducible refine gate_callee (f := 92) rfl ?_); refine goesL_ (some 37) rfl rfl Try.func92 (by kernel_rfl) rfl #[.agg #[.int .i64 ((rd_Face (rd_LFace l0_0 a1) a2).f0), .int .i64 ((rd_Face (rd_LFace l0_0 a1) a2).f1)], .int .i64 a2] rfl (by (try simp only [List.map_toArray, List.map_cons, List.map_nil]); first | done | rfl | (simp only [List.length_drop, List.length_take]; rfl)) ?_; (with_reducible refine (impl_Face_target.calls ((rd_Face (rd_LFace l0_0 a1) a2).f0) ((rd_Face (rd_LFace l0_0 a1) a2).f1) a2 t107 _ A30.out).mono ?_); rintro e w40 ⟨rfl, hb⟩; refine ⟨_, rfl, ?_⟩; have n0_ := Aside0.mk (blk_below (g := gb101) (o := .cells #[.slice (some ad102) l0_0.length c0_0] 29 (0, 0)) (by (with_reducible repeat (first | refine blk_drewN ?_ _ | refine blk_drew ?_ | refine blk_alloc ?_ _)); exact BK101.out) hb); have n1_ := Aside0.mk (blk_below (g := gb104) (o := .cells #[.int .i64 ((rd_Face (rd_LFace l0_0 a1) a2).f0), .int .i64 ((rd_Face (rd_LFace l0_0 a1) a2).f1)] 66 (0, 0)) (by (with_reducible repeat (first | refine blk_drewN ?_ _ | refine blk_drew ?_ | refine blk_alloc ?_ _)); exact BK104.out) hb); have n2_ := Aside0.mk (below_step (by repeat (first | (with_reducible first | exact HB.out | apply below_alloc | apply pw_below_drewN | apply below_drew1 | refine below_set ?_ GE101.out | refine below_set ?_ GE104.out) | exact HB.out)) hb); clear BK101; clear BK104; clear HB; have BK101 := n0_; have BK104 := n1_; have HB := n2_; clear n0_ n1_ n2_; (try clear hb); (try clear hb2); (try clear hk); (try clear hi)))
               have n0_ := Aside0.mk (blk_drew BK101.out)
               have n1_ := Aside0.mk (blk_drew BK104.out)
               have n2_ := Aside0.mk (below_drew1 HB.out)
               clear BK101
               clear BK104
               clear HB
               have BK101 := n0_
               have BK104 := n1_
               have HB := n2_
               clear n0_ n1_ n2_
               have p108 : 0 ≤ (((rd_Face (rd_LFace l0_0 a1) a2).f0) : Int) := of_decide_eq_true (by first | (with_reducible assumption) | assumption)
               have q108 : ((rd_Face (rd_LFace l0_0 a1) a2).f0) < (l0_0.length : Int) := of_decide_eq_true (by first | (with_reducible assumption) | assumption)
               obtain ⟨ad108, A108_0, c108_0, e108, hx108_0, hl108_0, hi108_0⟩ := at_LFace HR0_0.out ((rd_Face (rd_LFace l0_0 a1) a2).f0) p108 q108
               have hw108_0 := hx108_0
               obtain rfl : ad102 = ad108 := (by injection e108)
               replace hx108_0 := (HB.out.cell (World.block_lt_of_cell? w _ hx108_0)).trans hx108_0
               have HR108_0 := Aside0.mk hi108_0
               have HC108_0 := Aside0.mk hl108_0
               clear hi108_0 hl108_0
               replace p108 := eq_true p108
               replace q108 := eq_true q108
               have p109 : 0 ≤ (t107 : Int) := of_decide_eq_true (by first | (with_reducible assumption) | assumption)
               have q109 : t107 < ((rd_LFace l0_0 ((rd_Face (rd_LFace l0_0 a1) a2).f0)).length : Int) := of_decide_eq_true (by first | (with_reducible assumption) | assumption)
               obtain ⟨ad109, e109, hx109_0, hx109_1⟩ := at_Face HR108_0.out t107 p109 q109
               have hw109_1 := hx109_1
               have hw109_0 := hx109_0
               cases e109
               replace hx109_0 := (HB.out.cell (World.block_lt_of_cell? w _ hx109_0)).trans hx109_0
               replace hx109_1 := (HB.out.cell (World.block_lt_of_cell? w _ hx109_1)).trans hx109_1
               replace p109 := eq_true p109
               replace q109 := eq_true q109
               refine start_ (n := 25) (S := fun w' => w'.cell? ⟨gb101, 0, none⟩ = some (.slice (some ad102) l0_0.length c0_0) ∧ w'.cell? ⟨gb104, 0, none⟩ = some (.int .i64 ((rd_Face (rd_LFace l0_0 a1) a2).f0)) ∧ w'.cell? ⟨gb104, 1, none⟩ = some (.int .i64 ((rd_Face (rd_LFace l0_0 a1) a2).f1)) ∧ w'.cell? (ad102.add (((rd_Face (rd_LFace l0_0 a1) a2).f0)).toNat) = some (.slice (some ad109) (rd_LFace l0_0 ((rd_Face (rd_LFace l0_0 a1) a2).f0)).length c108_0) ∧ w'.cell? (ad109.add ((t107).toNat * 2)) = some (.int .i64 ((rd_Face (rd_LFace l0_0 ((rd_Face (rd_LFace l0_0 a1) a2).f0)) t107).f0)) ∧ w'.cell? ⟨(ad109.add ((t107).toNat * 2)).block, (ad109.add ((t107).toNat * 2)).off + 1, none⟩ = some (.int .i64 ((rd_Face (rd_LFace l0_0 ((rd_Face (rd_LFace l0_0 a1) a2).f0)) t107).f1))) (ds := []) #[false, false, false, false, false, false, false, false, false, false, false, false, false, false, false, false, false, false, false, false, false, false, false, false, false] (by kernel_rfl) rfl rfl ⟨(blk_cell BK101.out 0).trans rfl, (blk_cell BK104.out 0).trans rfl, (blk_cell BK104.out 1).trans rfl, ((HB.out.cell (World.block_lt_of_cell? w _ hw108_0)).trans hw108_0), ((HB.out.cell (World.block_lt_of_cell? w _ hw109_0)).trans hw109_0), ((HB.out.cell (World.block_lt_of_cell? w _ hw109_1)).trans hw109_1)⟩ (fun hHeld => ?_); refine with_tabW impl_Triangulation_isGood.tab7 impl_Triangulation_isGood.bits7 (fun HT_ HW_ => ?_)
               generalize w40.drew = w41 at BK101 BK104 HB HR108_0 hx108_0 hx109_0 hx109_1 hHeld ⊢
               refine pure_ (i := 0) (N := some 38) (v := ?_) (a' := ?_) #[true, false, false, false, false, false, false, false, false, false, false, false, false, false, false, false, false, false, false, false, false, false, false, false, false] rfl rfl (any_of HT_.out (by kernel_rfl)) (fun _ _ _ h => h) (Or.inl ⟨by rfl, ?_⟩) ?_ ?_
               rotate_left
               next =>
                intro w'
                go_simp
                with_reducible rfl
               rotate_left
               next =>
                simp only [Act.put, List.setIfInBounds_toArray, List.set_cons_zero, List.set_cons_succ, i64_w, i32_w]
                rfl
               refine pure_ (i := 2) (N := some 40) (v := ?_) (a' := ?_) #[true, false, true, false, false, false, false, false, false, false, false, false, false, false, false, false, false, false, false, false, false, false, false, false, false] rfl rfl (any_of HT_.out (by kernel_rfl)) (fun _ _ _ h => h) (Or.inl ⟨by rfl, ?_⟩) ?_ ?_
               rotate_left
               next =>
                intro w'
                go_simp
                with_reducible rfl
               rotate_left
               next =>
                simp only [Act.put, List.setIfInBounds_toArray, List.set_cons_zero, List.set_cons_succ, i64_w, i32_w]
                rfl
               refine pure_ (i := 6) (N := some 44) (v := ?_) (a' := ?_) #[true, false, true, false, false, false, true, false, false, false, false, false, false, false, false, false, false, false, false, false, false, false, false, false, false] rfl rfl (any_of HT_.out (by kernel_rfl)) (fun _ _ _ h => h) (Or.inl ⟨by rfl, ?_⟩) ?_ ?_
               rotate_left
               next =>
                intro w'
                go_simp
                with_reducible rfl
               rotate_left
               next =>
                simp only [Act.put, List.setIfInBounds_toArray, List.set_cons_zero, List.set_cons_succ, i64_w, i32_w]
                rfl
               refine pure_ (i := 10) (N := some 48) (v := ?_) (a' := ?_) #[true, false, true, false, false, false, true, false, false, false, true, false, false, false, false, false, false, false, false, false, false, false, false, false, false] rfl rfl (any_of HT_.out (by kernel_rfl)) (fun _ _ _ h => h) (Or.inl ⟨by rfl, ?_⟩) ?_ ?_
               rotate_left
               next =>
                intro w'
                go_simp
                with_reducible rfl
               rotate_left
               next =>
                simp only [Act.put, List.setIfInBounds_toArray, List.set_cons_zero, List.set_cons_succ, i64_w, i32_w]
                rfl
               refine take_ (i := 1) (N := some 39) (v := ?_) (a' := ?_) #[true, true, true, false, false, false, true, false, false, false, true, false, false, false, false, false, false, false, false, false, false, false, false, false, false] rfl rfl (take_ofW HT_.out HW_.out (by kernel_rfl)) (fun _ _ _ h => h) (Or.inl ⟨by rfl, ?_⟩) hHeld ?_ ?_
               rotate_left
               next =>
                rintro w' ⟨s0, s1, s2, s3, s4, s5⟩
                go_simp
                with_reducible rfl
               rotate_left
               next =>
                simp only [Act.put, List.setIfInBounds_toArray, List.set_cons_zero, List.set_cons_succ, i64_w, i32_w]
                rfl
               refine take_ (i := 3) (N := some 41) (v := ?_) (a' := ?_) #[true, true, true, true, false, false, true, false, false, false, true, false, false, false, false, false, false, false, false, false, false, false, false, false, false] rfl rfl (take_ofW HT_.out HW_.out (by kernel_rfl)) (fun _ _ _ h => h) (Or.inl ⟨by rfl, ?_⟩) hHeld ?_ ?_
               rotate_left
               next =>
                rintro w' ⟨s0, s1, s2, s3, s4, s5⟩
                go_simp
                with_reducible rfl
               rotate_left
               next =>
                simp only [Act.put, List.setIfInBounds_toArray, List.set_cons_zero, List.set_cons_succ, i64_w, i32_w]
                rfl
               refine pure_ (i := 4) (N := some 42) (v := ?_) (a' := ?_) #[true, true, true, true, true, false, true, false, false, false, true, false, false, false, false, false, false, false, false, false, false, false, false, false, false] rfl rfl (any_of HT_.out (by kernel_rfl)) (fun _ _ _ h => h) (Or.inl ⟨by rfl, ?_⟩) ?_ ?_
               rotate_left
               next =>
                intro w'
                go_simp
                with_reducible rfl
               rotate_left
               next =>
                simp only [Act.put, List.setIfInBounds_toArray, List.set_cons_zero, List.set_cons_succ, i64_w, i32_w]
                rfl
               refine take_ (i := 5) (N := some 43) (v := ?_) (a' := ?_) #[true, true, true, true, true, true, true, false, false, false, true, false, false, false, false, false, false, false, false, false, false, false, false, false, false] rfl rfl (take_ofW HT_.out HW_.out (by kernel_rfl)) (fun _ _ _ h => h) (Or.inl ⟨by rfl, ?_⟩) hHeld ?_ ?_
               rotate_left
               next =>
                rintro w' ⟨s0, s1, s2, s3, s4, s5⟩
                go_simp
                with_reducible rfl
               rotate_left
               next =>
                simp only [Act.put, List.setIfInBounds_toArray, List.set_cons_zero, List.set_cons_succ, i64_w, i32_w]
                rfl
               refine pure_ (i := 7) (N := some 45) (v := ?_) (a' := ?_) #[true, true, true, true, true, true, true, true, false, false, true, false, false, false, false, false, false, false, false, false, false, false, false, false, false] rfl rfl (any_of HT_.out (by kernel_rfl)) (fun _ _ _ h => h) (Or.inl ⟨by rfl, ?_⟩) ?_ ?_
               rotate_left
               next =>
                intro w'
                go_simp
                with_reducible rfl
               rotate_left
               next =>
                simp only [Act.put, List.setIfInBounds_toArray, List.set_cons_zero, List.set_cons_succ, i64_w, i32_w]
                rfl
               refine take_ (i := 8) (N := some 46) (v := ?_) (a' := ?_) #[true, true, true, true, true, true, true, true, true, false, true, false, false, false, false, false, false, false, false, false, false, false, false, false, false] rfl rfl (take_ofW HT_.out HW_.out (by kernel_rfl)) (fun _ _ _ h => h) (Or.inl ⟨by rfl, ?_⟩) hHeld ?_ ?_
               rotate_left
               next =>
                rintro w' ⟨s0, s1, s2, s3, s4, s5⟩
                go_simp
                with_reducible rfl
               rotate_left
               next =>
                simp only [Act.put, List.setIfInBounds_toArray, List.set_cons_zero, List.set_cons_succ, i64_w, i32_w]
                rfl
               refine take_ (i := 9) (N := some 47) (v := ?_) (a' := ?_) #[true, true, true, true, true, true, true, true, true, true, true, false, false, false, false, false, false, false, false, false, false, false, false, false, false] rfl rfl (take_ofW HT_.out HW_.out (by kernel_rfl)) (fun _ _ _ h => h) (Or.inl ⟨by rfl, ?_⟩) hHeld ?_ ?_
               rotate_left
               next =>
                rintro w' ⟨s0, s1, s2, s3, s4, s5⟩
                go_simp
                with_reducible rfl
               rotate_left
               next =>
                simp only [Act.put, List.setIfInBounds_toArray, List.set_cons_zero, List.set_cons_succ, i64_w, i32_w]
                rfl
               refine one_ (i := 11) (N := some 49) #[true, true, true, true, true, true, true, true, true, true, true, true, false, false, false, false, false, false, false, false, false, false, false, false, false] rfl rfl (one_of HT_.out (by kernel_rfl)) (by decide) (fun K hK => ?_)
               refine goes_ Try.func160 (by kernel_rfl) rfl #[.agg #[.int .i64 ((rd_Face (rd_LFace l0_0 a1) a2).f0), .int .i64 ((rd_Face (rd_LFace l0_0 a1) a2).f1)], .int .i64 a1] (by rfl) rfl rfl (by (try simp only [List.map_toArray, List.map_cons, List.map_nil]); first | done | rfl | (simp only [List.length_drop, List.length_take]; rfl)) ?_
               with_reducible refine (impl_Face_partner.calls ((rd_Face (rd_LFace l0_0 a1) a2).f0) ((rd_Face (rd_LFace l0_0 a1) a2).f1) a1 t110 t111 _ A35.out).mono ?_
               rintro e w42 ⟨rfl, hb⟩
               refine ⟨_, rfl, ?_⟩
               have n0_ := Aside0.mk (blk_below (g := gb101) (o := .cells #[.slice (some ad102) l0_0.length c0_0] 29 (0, 0)) (by (with_reducible repeat (first | refine blk_drewN ?_ _ | refine blk_drew ?_ | refine blk_alloc ?_ _)); exact BK101.out) hb)
               have n1_ := Aside0.mk (blk_below (g := gb104) (o := .cells #[.int .i64 ((rd_Face (rd_LFace l0_0 a1) a2).f0), .int .i64 ((rd_Face (rd_LFace l0_0 a1) a2).f1)] 66 (0, 0)) (by (with_reducible repeat (first | refine blk_drewN ?_ _ | refine blk_drew ?_ | refine blk_alloc ?_ _)); exact BK104.out) hb)
               have n2_ := Aside0.mk (below_step (by repeat (first | (with_reducible first | exact HB.out | apply below_alloc | apply pw_below_drewN | apply below_drew1 | refine below_set ?_ GE101.out | refine below_set ?_ GE104.out) | exact HB.out)) hb)
               clear BK101
               clear BK104
               clear HB
               have BK101 := n0_
               have BK104 := n1_
               have HB := n2_
               clear n0_ n1_ n2_
               (try clear hb)
               (try clear hb2)
               (try clear hk)
               (try clear hi)
               refine hK.out _ _ ⟨(blk_cell BK101.out 0).trans rfl, (blk_cell BK104.out 0).trans rfl, (blk_cell BK104.out 1).trans rfl, ((HB.out.cell (World.block_lt_of_cell? w _ hw108_0)).trans hw108_0), ((HB.out.cell (World.block_lt_of_cell? w _ hw109_0)).trans hw109_0), ((HB.out.cell (World.block_lt_of_cell? w _ hw109_1)).trans hw109_1)⟩ (fun hHeld => ?_)
               clear hK K
               refine norm_ (a' := ?_) ?_ ?_
               rotate_left
               next =>
                show Act.put _ (some 49) _ = _
                simp only [Act.put, List.setIfInBounds_toArray, List.set_cons_zero, List.set_cons_succ, i64_w, i32_w]
                rfl
               refine pure_ (i := 12) (N := some 50) (v := ?_) (a' := ?_) #[true, true, true, true, true, true, true, true, true, true, true, true, true, false, false, false, false, false, false, false, false, false, false, false, false] rfl rfl (any_of HT_.out (by kernel_rfl)) (fun _ _ _ h => h) (Or.inl ⟨by rfl, ?_⟩) ?_ ?_
               rotate_left
               next =>
                intro w'
                go_simp
                with_reducible rfl
               rotate_left
               next =>
                simp only [Act.put, List.setIfInBounds_toArray, List.set_cons_zero, List.set_cons_succ, i64_w, i32_w]
                rfl
               refine pure_ (i := 13) (N := some 51) (v := ?_) (a' := ?_) #[true, true, true, true, true, true, true, true, true, true, true, true, true, true, false, false, false, false, false, false, false, false, false, false, false] rfl rfl (any_of HT_.out (by kernel_rfl)) (fun _ _ _ h => h) (Or.inl ⟨by rfl, ?_⟩) ?_ ?_
               rotate_left
               next =>
                intro w'
                go_simp
                with_reducible rfl
               rotate_left
               next =>
                simp only [Act.put, List.setIfInBounds_toArray, List.set_cons_zero, List.set_cons_succ, i64_w, i32_w]
                rfl
               refine pure_ (i := 14) (N := some 52) (v := ?_) (a' := ?_) #[true, true, true, true, true, true, true, true, true, true, true, true, true, true, true, false, false, false, false, false, false, false, false, false, false] rfl rfl (any_of HT_.out (by kernel_rfl)) (fun _ _ _ h => h) (Or.inl ⟨by rfl, ?_⟩) ?_ ?_
               rotate_left
               next =>
                intro w'
                go_simp
                with_reducible rfl
               rotate_left
               next =>
                simp only [Act.put, List.setIfInBounds_toArray, List.set_cons_zero, List.set_cons_succ, i64_w, i32_w]
                rfl
               refine pure_ (i := 16) (N := some 54) (v := ?_) (a' := ?_) #[true, true, true, true, true, true, true, true, true, true, true, true, true, true, true, false, true, false, false, false, false, false, false, false, false] rfl rfl (any_of HT_.out (by kernel_rfl)) (fun _ _ _ h => h) (Or.inl ⟨by rfl, ?_⟩) ?_ ?_
               rotate_left
               next =>
                intro w'
                go_simp
                with_reducible rfl
               rotate_left
               next =>
                simp only [Act.put, List.setIfInBounds_toArray, List.set_cons_zero, List.set_cons_succ, i64_w, i32_w]
                rfl
               refine take_ (i := 15) (N := some 53) (v := ?_) (a' := ?_) #[true, true, true, true, true, true, true, true, true, true, true, true, true, true, true, true, true, false, false, false, false, false, false, false, false] rfl rfl (take_ofW HT_.out HW_.out (by kernel_rfl)) (fun _ _ _ h => h) (Or.inl ⟨by rfl, ?_⟩) hHeld ?_ ?_
               rotate_left
               next =>
                rintro w' ⟨s0, s1, s2, s3, s4, s5⟩
                go_simp
                with_reducible rfl
               rotate_left
               next =>
                simp only [Act.put, List.setIfInBounds_toArray, List.set_cons_zero, List.set_cons_succ, i64_w, i32_w]
                rfl
               refine pure_ (i := 17) (N := some 55) (v := ?_) (a' := ?_) #[true, true, true, true, true, true, true, true, true, true, true, true, true, true, true, true, true, true, false, false, false, false, false, false, false] rfl rfl (any_of HT_.out (by kernel_rfl)) (fun _ _ _ h => h) (Or.inl ⟨by rfl, ?_⟩) ?_ ?_
               rotate_left
               next =>
                intro w'
                go_simp
                with_reducible rfl
               rotate_left
               next =>
                simp only [Act.put, List.setIfInBounds_toArray, List.set_cons_zero, List.set_cons_succ, i64_w, i32_w]
                rfl
               refine pure_ (i := 18) (N := some 56) (v := ?_) (a' := ?_) #[true, true, true, true, true, true, true, true, true, true, true, true, true, true, true, true, true, true, true, false, false, false, false, false, false] rfl rfl (any_of HT_.out (by kernel_rfl)) (fun _ _ _ h => h) (Or.inl ⟨by rfl, ?_⟩) ?_ ?_
               rotate_left
               next =>
                intro w'
                go_simp
                with_reducible rfl
               rotate_left
               next =>
                simp only [Act.put, List.setIfInBounds_toArray, List.set_cons_zero, List.set_cons_succ, i64_w, i32_w]
                rfl
               refine pure_ (i := 19) (N := some 57) (v := ?_) (a' := ?_) #[true, true, true, true, true, true, true, true, true, true, true, true, true, true, true, true, true, true, true, true, false, false, false, false, false] rfl rfl (any_of HT_.out (by kernel_rfl)) (fun _ _ _ h => h) (Or.inl ⟨by rfl, ?_⟩) ?_ ?_
               rotate_left
               next =>
                intro w'
                go_simp
                with_reducible rfl
               rotate_left
               next =>
                simp only [Act.put, List.setIfInBounds_toArray, List.set_cons_zero, List.set_cons_succ, i64_w, i32_w]
                rfl
               refine pure_ (i := 20) (N := some 58) (v := ?_) (a' := ?_) #[true, true, true, true, true, true, true, true, true, true, true, true, true, true, true, true, true, true, true, true, true, false, false, false, false] rfl rfl (any_of HT_.out (by kernel_rfl)) (fun _ _ _ h => h) (Or.inl ⟨by rfl, ?_⟩) ?_ ?_
               rotate_left
               next =>
                intro w'
                go_simp
                with_reducible rfl
               rotate_left
               next =>
                simp only [Act.put, List.setIfInBounds_toArray, List.set_cons_zero, List.set_cons_succ, i64_w, i32_w]
                rfl
               refine pure_ (i := 21) (N := some 59) (v := ?_) (a' := ?_) #[true, true, true, true, true, true, true, true, true, true, true, true, true, true, true, true, true, true, true, true, true, true, false, false, false] rfl rfl (any_of HT_.out (by kernel_rfl)) (fun _ _ _ h => h) (Or.inl ⟨by rfl, ?_⟩) ?_ ?_
               rotate_left
               next =>
                intro w'
                go_simp
                with_reducible rfl
               rotate_left
               next =>
                simp only [Act.put, List.setIfInBounds_toArray, List.set_cons_zero, List.set_cons_succ, i64_w, i32_w]
                rfl
               refine pure_ (i := 22) (N := some 60) (v := ?_) (a' := ?_) #[true, true, true, true, true, true, true, true, true, true, true, true, true, true, true, true, true, true, true, true, true, true, true, false, false] rfl rfl (any_of HT_.out (by kernel_rfl)) (fun _ _ _ h => h) (Or.inl ⟨by rfl, ?_⟩) ?_ ?_
               rotate_left
               next =>
                intro w'
                go_simp
                with_reducible rfl
               rotate_left
               next =>
                simp only [Act.put, List.setIfInBounds_toArray, List.set_cons_zero, List.set_cons_succ, i64_w, i32_w]
                rfl
               refine pure_ (i := 23) (N := some 61) (v := ?_) (a' := ?_) #[true, true, true, true, true, true, true, true, true, true, true, true, true, true, true, true, true, true, true, true, true, true, true, true, false] rfl rfl (any_of HT_.out (by kernel_rfl)) (fun _ _ _ h => h) (Or.inl ⟨by rfl, ?_⟩) ?_ ?_
               rotate_left
               next =>
                intro w'
                go_simp
                with_reducible rfl
               rotate_left
               next =>
                simp only [Act.put, List.setIfInBounds_toArray, List.set_cons_zero, List.set_cons_succ, i64_w, i32_w]
                rfl
               refine pure_ (i := 24) (N := some 6) (v := ?_) (a' := ?_) #[true, true, true, true, true, true, true, true, true, true, true, true, true, true, true, true, true, true, true, true, true, true, true, true, true] rfl rfl (any_of HT_.out (by kernel_rfl)) (fun _ _ _ h => h) (Or.inl ⟨by rfl, ?_⟩) ?_ ?_
               rotate_left
               next =>
                intro w'
                go_simp
                with_reducible rfl
               rotate_left
               next =>
                simp only [Act.put, List.setIfInBounds_toArray, List.set_cons_zero, List.set_cons_succ, i64_w, i32_w]
                rfl
               refine done_ (done_of HT_.out (by kernel_rfl)) ?_
               try go_wp2
               go_ret
               exact ⟨by first | rfl | (simp [errW_none, errW_some] <;> rfl) | (simp [*, errW_none, errW_some] <;> rfl), by repeat (first | (with_reducible first | exact HB.out | apply below_alloc | apply pw_below_drewN | apply below_drew1 | refine below_set ?_ GE101.out | refine below_set ?_ GE104.out) | exact HB.out)⟩
              next =>
               rw [if_neg c37] at H
               have c37b0 : (((rd_Face (rd_LFace l0_0 a1) a2).f0) == a1) = false := beq_eq_false_iff_ne.mpr c37
               have c37b1 : (((rd_Face (rd_LFace l0_0 a1) a2).f0) != a1) = true := bne_iff_ne.mpr c37
               obtain rfl := Option.some.inj H
               have hnb43 := NB104_101.out
               have hnc43 := NB101_104.out
               have hcz44_0 : wc.cell? ⟨gb104, 0, none⟩ = some (.int .i64 ((rd_Face (rd_LFace l0_0 a1) a2).f0)) := (blk_cell BK104.out 0).trans rfl
               have hcz44_1 : wc.cell? ⟨gb104, 1, none⟩ = some (.int .i64 ((rd_Face (rd_LFace l0_0 a1) a2).f1)) := (blk_cell BK104.out 1).trans rfl
               have hfz44_0 := blk_frozen BK104.out 0
               have hfz44_1 := blk_frozen BK104.out 1
               try go_wp2_with (first | ((with_reducible refine gate_callee (f := 92) rfl ?_); refine goesL_ (some 37) rfl rfl Try.func92 (by kernel_rfl) rfl #[.agg #[.int .i64 ((rd_Face (rd_LFace l0_0 a1) a2).f0), .int .i64 ((rd_Face (rd_LFace l0_0 a1) a2).f1)], .int .i64 a2] rfl (by (try simp only [List.map_toArray, List.map_cons, List.map_nil]); first | done | rfl | (simp only [List.length_drop, List.length_take]; rfl)) ?_; (with_reducible refine (impl_Face_target.calls ((rd_Face (rd_LFace l0_0 a1) a2).f0) ((rd_Face (rd_LFace l0_0 a1) a2).f1) a2 t107 _ A30.out).mono ?_); rintro e w45 ⟨rfl, hb⟩; refine ⟨_, rfl, ?_⟩; have n0_ := Aside0.mk (blk_below (g := gb101) (o := .cells #[.slice (some ad102) l0_0.length c0_0] 29 (0, 0)) (by (with_reducible repeat (first | refine blk_drewN ?_ _ | refine blk_drew ?_ | refine blk_alloc ?_ _)); exact BK101.out) hb); have n1_ := Aside0.mk (blk_below (g := gb104) (o := .cells #[.int .i64 ((rd_Face (rd_LFace l0_0 a1) a2).f0), .int .i64 ((rd_Face (rd_LFace l0_0 a1) a2).f1)] 66 (0, 0)) (by (with_reducible repeat (first | refine blk_drewN ?_ _ | refine blk_drew ?_ | refine blk_alloc ?_ _)); exact BK104.out) hb); have n2_ := Aside0.mk (below_step (by repeat (first | (with_reducible first | exact HB.out | apply below_alloc | apply pw_below_drewN | apply below_drew1 | refine below_set ?_ GE101.out | refine below_set ?_ GE104.out) | exact HB.out)) hb); clear BK101; clear BK104; clear HB; have BK101 := n0_; have BK104 := n1_; have HB := n2_; clear n0_ n1_ n2_; (try clear hb); (try clear hb2); (try clear hk); (try clear hi)))
               have n0_ := Aside0.mk (blk_drew BK101.out)
               have n1_ := Aside0.mk (blk_drew BK104.out)
               have n2_ := Aside0.mk (below_drew1 HB.out)
               clear BK101
               clear BK104
               clear HB
               have BK101 := n0_
               have BK104 := n1_
               have HB := n2_
               clear n0_ n1_ n2_
               have p108 : 0 ≤ (((rd_Face (rd_LFace l0_0 a1) a2).f0) : Int) := of_decide_eq_true (by first | (with_reducible assumption) | assumption)
               have q108 : ((rd_Face (rd_LFace l0_0 a1) a2).f0) < (l0_0.length : Int) := of_decide_eq_true (by first | (with_reducible assumption) | assumption)
               obtain ⟨ad108, A108_0, c108_0, e108, hx108_0, hl108_0, hi108_0⟩ := at_LFace HR0_0.out ((rd_Face (rd_LFace l0_0 a1) a2).f0) p108 q108
               have hw108_0 := hx108_0
               obtain rfl : ad102 = ad108 := (by injection e108)
               replace hx108_0 := (HB.out.cell (World.block_lt_of_cell? w _ hx108_0)).trans hx108_0
               have HR108_0 := Aside0.mk hi108_0
               have HC108_0 := Aside0.mk hl108_0
               clear hi108_0 hl108_0
               replace p108 := eq_true p108
               replace q108 := eq_true q108
               have p109 : 0 ≤ (t107 : Int) := of_decide_eq_true (by first | (with_reducible assumption) | assumption)
               have q109 : t107 < ((rd_LFace l0_0 ((rd_Face (rd_LFace l0_0 a1) a2).f0)).length : Int) := of_decide_eq_true (by first | (with_reducible assumption) | assumption)
               obtain ⟨ad109, e109, hx109_0, hx109_1⟩ := at_Face HR108_0.out t107 p109 q109
               have hw109_1 := hx109_1
               have hw109_0 := hx109_0
               cases e109
               replace hx109_0 := (HB.out.cell (World.block_lt_of_cell? w _ hx109_0)).trans hx109_0
               replace hx109_1 := (HB.out.cell (World.block_lt_of_cell? w _ hx109_1)).trans hx109_1
               replace p109 := eq_true p109
               replace q109 := eq_true q109
               refine start_ (n := 25) (S := fun w' => w'.cell? ⟨gb101, 0, none⟩ = some (.slice (some ad102) l0_0.length c0_0) ∧ w'.cell? ⟨gb104, 0, none⟩ = some (.int .i64 ((rd_Face (rd_LFace l0_0 a1) a2).f0)) ∧ w'.cell? ⟨gb104, 1, none⟩ = some (.int .i64 ((rd_Face (rd_LFace l0_0 a1) a2).f1)) ∧ w'.cell? (ad102.add (((rd_Face (rd_LFace l0_0 a1) a2).f0)).toNat) = some (.slice (some ad109) (rd_LFace l0_0 ((rd_Face (rd_LFace l0_0 a1) a2).f0)).length c108_0) ∧ w'.cell? (ad109.add ((t107).toNat * 2)) = some (.int .i64 ((rd_Face (rd_LFace l0_0 ((rd_Face (rd_LFace l0_0 a1) a2).f0)) t107).f0)) ∧ w'.cell? ⟨(ad109.add ((t107).toNat * 2)).block, (ad109.add ((t107).toNat * 2)).off + 1, none⟩ = some (.int .i64 ((rd_Face (rd_LFace l0_0 ((rd_Face (rd_LFace l0_0 a1) a2).f0)) t107).f1))) (ds := []) #[false, false, false, false, false, false, false, false, false, false, false, false, false, false, false, false, false, false, false, false, false, false, false, false, false] (by kernel_rfl) rfl rfl ⟨(blk_cell BK101.out 0).trans rfl, (blk_cell BK104.out 0).trans rfl, (blk_cell BK104.out 1).trans rfl, ((HB.out.cell (World.block_lt_of_cell? w _ hw108_0)).trans hw108_0), ((HB.out.cell (World.block_lt_of_cell? w _ hw109_0)).trans hw109_0), ((HB.out.cell (World.block_lt_of_cell? w _ hw109_1)).trans hw109_1)⟩ (fun hHeld => ?_); refine with_tabW impl_Triangulation_isGood.tab7 impl_Triangulation_isGood.bits7 (fun HT_ HW_ => ?_)
               generalize w45.drew = w46 at BK101 BK104 HB HR108_0 hx108_0 hx109_0 hx109_1 hHeld ⊢
               refine pure_ (i := 0) (N := some 38) (v := ?_) (a' := ?_) #[true, false, false, false, false, false, false, false, false, false, false, false, false, false, false, false, false, false, false, false, false, false, false, false, false] rfl rfl (any_of HT_.out (by kernel_rfl)) (fun _ _ _ h => h) (Or.inl ⟨by rfl, ?_⟩) ?_ ?_
               rotate_left
               next =>
                intro w'
                go_simp
                with_reducible rfl
               rotate_left
               next =>
                simp only [Act.put, List.setIfInBounds_toArray, List.set_cons_zero, List.set_cons_succ, i64_w, i32_w]
                rfl
               refine pure_ (i := 2) (N := some 40) (v := ?_) (a' := ?_) #[true, false, true, false, false, false, false, false, false, false, false, false, false, false, false, false, false, false, false, false, false, false, false, false, false] rfl rfl (any_of HT_.out (by kernel_rfl)) (fun _ _ _ h => h) (Or.inl ⟨by rfl, ?_⟩) ?_ ?_
               rotate_left
               next =>
                intro w'
                go_simp
                with_reducible rfl
               rotate_left
               next =>
                simp only [Act.put, List.setIfInBounds_toArray, List.set_cons_zero, List.set_cons_succ, i64_w, i32_w]
                rfl
               refine pure_ (i := 6) (N := some 44) (v := ?_) (a' := ?_) #[true, false, true, false, false, false, true, false, false, false, false, false, false, false, false, false, false, false, false, false, false, false, false, false, false] rfl rfl (any_of HT_.out (by kernel_rfl)) (fun _ _ _ h => h) (Or.inl ⟨by rfl, ?_⟩) ?_ ?_
               rotate_left
               next =>
                intro w'
                go_simp
                with_reducible rfl
               rotate_left
               next =>
                simp only [Act.put, List.setIfInBounds_toArray, List.set_cons_zero, List.set_cons_succ, i64_w, i32_w]
                rfl
               refine pure_ (i := 10) (N := some 48) (v := ?_) (a' := ?_) #[true, false, true, false, false, false, true, false, false, false, true, false, false, false, false, false, false, false, false, false, false, false, false, false, false] rfl rfl (any_of HT_.out (by kernel_rfl)) (fun _ _ _ h => h) (Or.inl ⟨by rfl, ?_⟩) ?_ ?_
               rotate_left
               next =>
                intro w'
                go_simp
                with_reducible rfl
               rotate_left
               next =>
                simp only [Act.put, List.setIfInBounds_toArray, List.set_cons_zero, List.set_cons_succ, i64_w, i32_w]
                rfl
               refine take_ (i := 1) (N := some 39) (v := ?_) (a' := ?_) #[true, true, true, false, false, false, true, false, false, false, true, false, false, false, false, false, false, false, false, false, false, false, false, false, false] rfl rfl (take_ofW HT_.out HW_.out (by kernel_rfl)) (fun _ _ _ h => h) (Or.inl ⟨by rfl, ?_⟩) hHeld ?_ ?_
               rotate_left
               next =>
                rintro w' ⟨s0, s1, s2, s3, s4, s5⟩
                go_simp
                with_reducible rfl
               rotate_left
               next =>
                simp only [Act.put, List.setIfInBounds_toArray, List.set_cons_zero, List.set_cons_succ, i64_w, i32_w]
                rfl
               refine take_ (i := 3) (N := some 41) (v := ?_) (a' := ?_) #[true, true, true, true, false, false, true, false, false, false, true, false, false, false, false, false, false, false, false, false, false, false, false, false, false] rfl rfl (take_ofW HT_.out HW_.out (by kernel_rfl)) (fun _ _ _ h => h) (Or.inl ⟨by rfl, ?_⟩) hHeld ?_ ?_
               rotate_left
               next =>
                rintro w' ⟨s0, s1, s2, s3, s4, s5⟩
                go_simp
                with_reducible rfl
               rotate_left
               next =>
                simp only [Act.put, List.setIfInBounds_toArray, List.set_cons_zero, List.set_cons_succ, i64_w, i32_w]
                rfl
               refine pure_ (i := 4) (N := some 42) (v := ?_) (a' := ?_) #[true, true, true, true, true, false, true, false, false, false, true, false, false, false, false, false, false, false, false, false, false, false, false, false, false] rfl rfl (any_of HT_.out (by kernel_rfl)) (fun _ _ _ h => h) (Or.inl ⟨by rfl, ?_⟩) ?_ ?_
               rotate_left
               next =>
                intro w'
                go_simp
                with_reducible rfl
               rotate_left
               next =>
                simp only [Act.put, List.setIfInBounds_toArray, List.set_cons_zero, List.set_cons_succ, i64_w, i32_w]
                rfl
               refine take_ (i := 5) (N := some 43) (v := ?_) (a' := ?_) #[true, true, true, true, true, true, true, false, false, false, true, false, false, false, false, false, false, false, false, false, false, false, false, false, false] rfl rfl (take_ofW HT_.out HW_.out (by kernel_rfl)) (fun _ _ _ h => h) (Or.inl ⟨by rfl, ?_⟩) hHeld ?_ ?_
               rotate_left
               next =>
                rintro w' ⟨s0, s1, s2, s3, s4, s5⟩
                go_simp
                with_reducible rfl
               rotate_left
               next =>
                simp only [Act.put, List.setIfInBounds_toArray, List.set_cons_zero, List.set_cons_succ, i64_w, i32_w]
                rfl
               refine pure_ (i := 7) (N := some 45) (v := ?_) (a' := ?_) #[true, true, true, true, true, true, true, true, false, false, true, false, false, false, false, false, false, false, false, false, false, false, false, false, false] rfl rfl (any_of HT_.out (by kernel_rfl)) (fun _ _ _ h => h) (Or.inl ⟨by rfl, ?_⟩) ?_ ?_
               rotate_left
               next =>
                intro w'
                go_simp
                with_reducible rfl
               rotate_left
               next =>
                simp only [Act.put, List.setIfInBounds_toArray, List.set_cons_zero, List.set_cons_succ, i64_w, i32_w]
                rfl
               refine take_ (i := 8) (N := some 46) (v := ?_) (a' := ?_) #[true, true, true, true, true, true, true, true, true, false, true, false, false, false, false, false, false, false, false, false, false, false, false, false, false] rfl rfl (take_ofW HT_.out HW_.out (by kernel_rfl)) (fun _ _ _ h => h) (Or.inl ⟨by rfl, ?_⟩) hHeld ?_ ?_
               rotate_left
               next =>
                rintro w' ⟨s0, s1, s2, s3, s4, s5⟩
                go_simp
                with_reducible rfl
               rotate_left
               next =>
                simp only [Act.put, List.setIfInBounds_toArray, List.set_cons_zero, List.set_cons_succ, i64_w, i32_w]
                rfl
               refine take_ (i := 9) (N := some 47) (v := ?_) (a' := ?_) #[true, true, true, true, true, true, true, true, true, true, true, false, false, false, false, false, false, false, false, false, false, false, false, false, false] rfl rfl (take_ofW HT_.out HW_.out (by kernel_rfl)) (fun _ _ _ h => h) (Or.inl ⟨by rfl, ?_⟩) hHeld ?_ ?_
               rotate_left
               next =>
                rintro w' ⟨s0, s1, s2, s3, s4, s5⟩
                go_simp
                with_reducible rfl
               rotate_left
               next =>
                simp only [Act.put, List.setIfInBounds_toArray, List.set_cons_zero, List.set_cons_succ, i64_w, i32_w]
                rfl
               refine one_ (i := 11) (N := some 49) #[true, true, true, true, true, true, true, true, true, true, true, true, false, false, false, false, false, false, false, false, false, false, false, false, false] rfl rfl (one_of HT_.out (by kernel_rfl)) (by decide) (fun K hK => ?_)
               refine goes_ Try.func160 (by kernel_rfl) rfl #[.agg #[.int .i64 ((rd_Face (rd_LFace l0_0 a1) a2).f0), .int .i64 ((rd_Face (rd_LFace l0_0 a1) a2).f1)], .int .i64 a1] (by rfl) rfl rfl (by (try simp only [List.map_toArray, List.map_cons, List.map_nil]); first | done | rfl | (simp only [List.length_drop, List.length_take]; rfl)) ?_
               with_reducible refine (impl_Face_partner.calls ((rd_Face (rd_LFace l0_0 a1) a2).f0) ((rd_Face (rd_LFace l0_0 a1) a2).f1) a1 t110 t111 _ A35.out).mono ?_
               rintro e w47 ⟨rfl, hb⟩
               refine ⟨_, rfl, ?_⟩
               have n0_ := Aside0.mk (blk_below (g := gb101) (o := .cells #[.slice (some ad102) l0_0.length c0_0] 29 (0, 0)) (by (with_reducible repeat (first | refine blk_drewN ?_ _ | refine blk_drew ?_ | refine blk_alloc ?_ _)); exact BK101.out) hb)
               have n1_ := Aside0.mk (blk_below (g := gb104) (o := .cells #[.int .i64 ((rd_Face (rd_LFace l0_0 a1) a2).f0), .int .i64 ((rd_Face (rd_LFace l0_0 a1) a2).f1)] 66 (0, 0)) (by (with_reducible repeat (first | refine blk_drewN ?_ _ | refine blk_drew ?_ | refine blk_alloc ?_ _)); exact BK104.out) hb)
               have n2_ := Aside0.mk (below_step (by repeat (first | (with_reducible first | exact HB.out | apply below_alloc | apply pw_below_drewN | apply below_drew1 | refine below_set ?_ GE101.out | refine below_set ?_ GE104.out) | exact HB.out)) hb)
               clear BK101
               clear BK104
               clear HB
               have BK101 := n0_
               have BK104 := n1_
               have HB := n2_
               clear n0_ n1_ n2_
               (try clear hb)
               (try clear hb2)
               (try clear hk)
               (try clear hi)
               refine hK.out _ _ ⟨(blk_cell BK101.out 0).trans rfl, (blk_cell BK104.out 0).trans rfl, (blk_cell BK104.out 1).trans rfl, ((HB.out.cell (World.block_lt_of_cell? w _ hw108_0)).trans hw108_0), ((HB.out.cell (World.block_lt_of_cell? w _ hw109_0)).trans hw109_0), ((HB.out.cell (World.block_lt_of_cell? w _ hw109_1)).trans hw109_1)⟩ (fun hHeld => ?_)
               clear hK K
               refine norm_ (a' := ?_) ?_ ?_
               rotate_left
               next =>
                show Act.put _ (some 49) _ = _
                simp only [Act.put, List.setIfInBounds_toArray, List.set_cons_zero, List.set_cons_succ, i64_w, i32_w]
                rfl
               refine pure_ (i := 12) (N := some 50) (v := ?_) (a' := ?_) #[true, true, true, true, true, true, true, true, true, true, true, true, true, false, false, false, false, false, false, false, false, false, false, false, false] rfl rfl (any_of HT_.out (by kernel_rfl)) (fun _ _ _ h => h) (Or.inl ⟨by rfl, ?_⟩) ?_ ?_
               rotate_left
               next =>
                intro w'
                go_simp
                with_reducible rfl
               rotate_left
               next =>
                simp only [Act.put, List.setIfInBounds_toArray, List.set_cons_zero, List.set_cons_succ, i64_w, i32_w]
                rfl
               refine pure_ (i := 13) (N := some 51) (v := ?_) (a' := ?_) #[true, true, true, true, true, true, true, true, true, true, true, true, true, true, false, false, false, false, false, false, false, false, false, false, false] rfl rfl (any_of HT_.out (by kernel_rfl)) (fun _ _ _ h => h) (Or.inl ⟨by rfl, ?_⟩) ?_ ?_
               rotate_left
               next =>
                intro w'
                go_simp
                with_reducible rfl
               rotate_left
               next =>
                simp only [Act.put, List.setIfInBounds_toArray, List.set_cons_zero, List.set_cons_succ, i64_w, i32_w]
                rfl
               refine pure_ (i := 14) (N := some 52) (v := ?_) (a' := ?_) #[true, true, true, true, true, true, true, true, true, true, true, true, true, true, true, false, false, false, false, false, false, false, false, false, false] rfl rfl (any_of HT_.out (by kernel_rfl)) (fun _ _ _ h => h) (Or.inl ⟨by rfl, ?_⟩) ?_ ?_
               rotate_left
               next =>
                intro w'
                go_simp
                with_reducible rfl
               rotate_left
               next =>
                simp only [Act.put, List.setIfInBounds_toArray, List.set_cons_zero, List.set_cons_succ, i64_w, i32_w]
                rfl
               refine pure_ (i := 16) (N := some 54) (v := ?_) (a' := ?_) #[true, true, true, true, true, true, true, true, true, true, true, true, true, true, true, false, true, false, false, false, false, false, false, false, false] rfl rfl (any_of HT_.out (by kernel_rfl)) (fun _ _ _ h => h) (Or.inl ⟨by rfl, ?_⟩) ?_ ?_
               rotate_left
               next =>
                intro w'
                go_simp
                with_reducible rfl
               rotate_left
               next =>
                simp only [Act.put, List.setIfInBounds_toArray, List.set_cons_zero, List.set_cons_succ, i64_w, i32_w]
                rfl
               refine take_ (i := 15) (N := some 53) (v := ?_) (a' := ?_) #[true, true, true, true, true, true, true, true, true, true, true, true, true, true, true, true, true, false, false, false, false, false, false, false, false] rfl rfl (take_ofW HT_.out HW_.out (by kernel_rfl)) (fun _ _ _ h => h) (Or.inl ⟨by rfl, ?_⟩) hHeld ?_ ?_
               rotate_left
               next =>
                rintro w' ⟨s0, s1, s2, s3, s4, s5⟩
                go_simp
                with_reducible rfl
               rotate_left
               next =>
                simp only [Act.put, List.setIfInBounds_toArray, List.set_cons_zero, List.set_cons_succ, i64_w, i32_w]
                rfl
               refine pure_ (i := 17) (N := some 55) (v := ?_) (a' := ?_) #[true, true, true, true, true, true, true, true, true, true, true, true, true, true, true, true, true, true, false, false, false, false, false, false, false] rfl rfl (any_of HT_.out (by kernel_rfl)) (fun _ _ _ h => h) (Or.inl ⟨by rfl, ?_⟩) ?_ ?_
               rotate_left
               next =>
                intro w'
                go_simp
                with_reducible rfl
               rotate_left
               next =>
                simp only [Act.put, List.setIfInBounds_toArray, List.set_cons_zero, List.set_cons_succ, i64_w, i32_w]
                rfl
               refine pure_ (i := 18) (N := some 56) (v := ?_) (a' := ?_) #[true, true, true, true, true, true, true, true, true, true, true, true, true, true, true, true, true, true, true, false, false, false, false, false, false] rfl rfl (any_of HT_.out (by kernel_rfl)) (fun _ _ _ h => h) (Or.inl ⟨by rfl, ?_⟩) ?_ ?_
               rotate_left
               next =>
                intro w'
                go_simp
                with_reducible rfl
               rotate_left
               next =>
                simp only [Act.put, List.setIfInBounds_toArray, List.set_cons_zero, List.set_cons_succ, i64_w, i32_w]
                rfl
               refine pure_ (i := 19) (N := some 57) (v := undef) (a' := ?_) #[true, true, true, true, true, true, true, true, true, true, true, true, true, true, true, true, true, true, true, true, false, false, false, false, false] rfl rfl (any_of HT_.out (by kernel_rfl)) (fun _ _ _ h => h) (Or.inr ⟨by rfl, rfl⟩) ?_ ?_
               rotate_left
               next =>
                simp only [Act.put, List.setIfInBounds_toArray, List.set_cons_zero, List.set_cons_succ, i64_w, i32_w]
                rfl
               refine pure_ (i := 20) (N := some 58) (v := undef) (a' := ?_) #[true, true, true, true, true, true, true, true, true, true, true, true, true, true, true, true, true, true, true, true, true, false, false, false, false] rfl rfl (any_of HT_.out (by kernel_rfl)) (fun _ _ _ h => h) (Or.inr ⟨by rfl, rfl⟩) ?_ ?_
               rotate_left
               next =>
                simp only [Act.put, List.setIfInBounds_toArray, List.set_cons_zero, List.set_cons_succ, i64_w, i32_w]
                rfl
               refine pure_ (i := 21) (N := some 59) (v := undef) (a' := ?_) #[true, true, true, true, true, true, true, true, true, true, true, true, true, true, true, true, true, true, true, true, true, true, false, false, false] rfl rfl (any_of HT_.out (by kernel_rfl)) (fun _ _ _ h => h) (Or.inr ⟨by rfl, rfl⟩) ?_ ?_
               rotate_left
               next =>
                simp only [Act.put, List.setIfInBounds_toArray, List.set_cons_zero, List.set_cons_succ, i64_w, i32_w]
                rfl
               refine pure_ (i := 22) (N := some 60) (v := ?_) (a' := ?_) #[true, true, true, true, true, true, true, true, true, true, true, true, true, true, true, true, true, true, true, true, true, true, true, false, false] rfl rfl (any_of HT_.out (by kernel_rfl)) (fun _ _ _ h => h) (Or.inl ⟨by rfl, ?_⟩) ?_ ?_
               rotate_left
               next =>
                intro w'
                go_simp
                with_reducible rfl
               rotate_left
               next =>
                simp only [Act.put, List.setIfInBounds_toArray, List.set_cons_zero, List.set_cons_succ, i64_w, i32_w]
                rfl
               refine pure_ (i := 23) (N := some 61) (v := ?_) (a' := ?_) #[true, true, true, true, true, true, true, true, true, true, true, true, true, true, true, true, true, true, true, true, true, true, true, true, false] rfl rfl (any_of HT_.out (by kernel_rfl)) (fun _ _ _ h => h) (Or.inl ⟨by rfl, ?_⟩) ?_ ?_
               rotate_left
               next =>
                intro w'
                go_simp
                with_reducible rfl
               rotate_left
               next =>
                simp only [Act.put, List.setIfInBounds_toArray, List.set_cons_zero, List.set_cons_succ, i64_w, i32_w]
                rfl
               refine pure_ (i := 24) (N := some 6) (v := ?_) (a' := ?_) #[true, true, true, true, true, true, true, true, true, true, true, true, true, true, true, true, true, true, true, true, true, true, true, true, true] rfl rfl (any_of HT_.out (by kernel_rfl)) (fun _ _ _ h => h) (Or.inl ⟨by rfl, ?_⟩) ?_ ?_
               rotate_left
               next =>
                intro w'
                go_simp
                with_reducible rfl
               rotate_left
               next =>
                simp only [Act.put, List.setIfInBounds_toArray, List.set_cons_zero, List.set_cons_succ, i64_w, i32_w]
                rfl
               refine done_ (done_of HT_.out (by kernel_rfl)) ?_
               try go_wp2
               go_ret
               exact ⟨by first | rfl | (simp [errW_none, errW_some] <;> rfl) | (simp [*, errW_none, errW_some] <;> rfl), by repeat (first | (with_reducible first | exact HB.out | apply below_alloc | apply pw_below_drewN | apply below_drew1 | refine below_set ?_ GE101.out | refine below_set ?_ GE104.out) | exact HB.out)⟩
             next =>
              rw [if_neg c36] at H
              have c36b0 : (((rd_Face (rd_LFace l0_0 ((rd_Face (rd_LFace l0_0 a1) a2).f0)) t107).f0) == t110 && (((rd_Face (rd_LFace l0_0 ((rd_Face (rd_LFace l0_0 a1) a2).f0)) t107).f1) == t111)) = false := by simpa using c36
              (try (have c36b1 : decide (((rd_Face (rd_LFace l0_0 ((rd_Face (rd_LFace l0_0 a1) a2).f0)) t107).f0) = t110 && (((rd_Face (rd_LFace l0_0 ((rd_Face (rd_LFace l0_0 a1) a2).f0)) t107).f1) == t111)) = false := by simpa using c36))
              (try (have c36b2 : (((rd_Face (rd_LFace l0_0 ((rd_Face (rd_LFace l0_0 a1) a2).f0)) t107).f0) == t110 && (((rd_Face (rd_LFace l0_0 ((rd_Face (rd_LFace l0_0 a1) a2).f0)) t107).f1) == t111)) = false := by simpa using c36))
              (try (have c36b3 : ¬ (((rd_Face (rd_LFace l0_0 ((rd_Face (rd_LFace l0_0 a1) a2).f0)) t107).f0) = t110 && (((rd_Face (rd_LFace l0_0 ((rd_Face (rd_LFace l0_0 a1) a2).f0)) t107).f1) == t111)) := by simpa using c36))
              clear c36
              obtain rfl := Option.some.inj H
              have hnb48 := NB104_101.out
              have hnc48 := NB101_104.out
              have hcz49_0 : wc.cell? ⟨gb104, 0, none⟩ = some (.int .i64 ((rd_Face (rd_LFace l0_0 a1) a2).f0)) := (blk_cell BK104.out 0).trans rfl
              have hcz49_1 : wc.cell? ⟨gb104, 1, none⟩ = some (.int .i64 ((rd_Face (rd_LFace l0_0 a1) a2).f1)) := (blk_cell BK104.out 1).trans rfl
              have hfz49_0 := blk_frozen BK104.out 0
              have hfz49_1 := blk_frozen BK104.out 1
              try go_wp2_with (first | ((with_reducible refine gate_callee (f := 92) rfl ?_); refine goesL_ (some 37) rfl rfl Try.func92 (by kernel_rfl) rfl #[.agg #[.int .i64 ((rd_Face (rd_LFace l0_0 a1) a2).f0), .int .i64 ((rd_Face (rd_LFace l0_0 a1) a2).f1)], .int .i64 a2] rfl (by (try simp only [List.map_toArray, List.map_cons, List.map_nil]); first | done | rfl | (simp only [List.length_drop, List.length_take]; rfl)) ?_; (with_reducible refine (impl_Face_target.calls ((rd_Face (rd_LFace l0_0 a1) a2).f0) ((rd_Face (rd_LFace l0_0 a1) a2).f1) a2 t107 _ A30.out).mono ?_); rintro e w50 ⟨rfl, hb⟩; refine ⟨_, rfl, ?_⟩; have n0_ := Aside0.mk (blk_below (g := gb101) (o := .cells #[.slice (some ad102) l0_0.length c0_0] 29 (0, 0)) (by (with_reducible repeat (first | refine blk_drewN ?_ _ | refine blk_drew ?_ | refine blk_alloc ?_ _)); exact BK101.out) hb); have n1_ := Aside0.mk (blk_below (g := gb104) (o := .cells #[.int .i64 ((rd_Face (rd_LFace l0_0 a1) a2).f0), .int .i64 ((rd_Face (rd_LFace l0_0 a1) a2).f1)] 66 (0, 0)) (by (with_reducible repeat (first | refine blk_drewN ?_ _ | refine blk_drew ?_ | refine blk_alloc ?_ _)); exact BK104.out) hb); have n2_ := Aside0.mk (below_step (by repeat (first | (with_reducible first | exact HB.out | apply below_alloc | apply pw_below_drewN | apply below_drew1 | refine below_set ?_ GE101.out | refine below_set ?_ GE104.out) | exact HB.out)) hb); clear BK101; clear BK104; clear HB; have BK101 := n0_; have BK104 := n1_; have HB := n2_; clear n0_ n1_ n2_; (try clear hb); (try clear hb2); (try clear hk); (try clear hi)))
              have n0_ := Aside0.mk (blk_drew BK101.out)
              have n1_ := Aside0.mk (blk_drew BK104.out)
              have n2_ := Aside0.mk (below_drew1 HB.out)
              clear BK101
              clear BK104
              clear HB
              have BK101 := n0_
              have BK104 := n1_
              have HB := n2_
              clear n0_ n1_ n2_
              have p108 : 0 ≤ (((rd_Face (rd_LFace l0_0 a1) a2).f0) : Int) := of_decide_eq_true (by first | (with_reducible assumption) | assumption)
              have q108 : ((rd_Face (rd_LFace l0_0 a1) a2).f0) < (l0_0.length : Int) := of_decide_eq_true (by first | (with_reducible assumption) | assumption)
              obtain ⟨ad108, A108_0, c108_0, e108, hx108_0, hl108_0, hi108_0⟩ := at_LFace HR0_0.out ((rd_Face (rd_LFace l0_0 a1) a2).f0) p108 q108
              have hw108_0 := hx108_0
              obtain rfl : ad102 = ad108 := (by injection e108)
              replace hx108_0 := (HB.out.cell (World.block_lt_of_cell? w _ hx108_0)).trans hx108_0
              have HR108_0 := Aside0.mk hi108_0
              have HC108_0 := Aside0.mk hl108_0
              clear hi108_0 hl108_0
              replace p108 := eq_true p108
              replace q108 := eq_true q108
              have p109 : 0 ≤ (t107 : Int) := of_decide_eq_true (by first | (with_reducible assumption) | assumption)
              have q109 : t107 < ((rd_LFace l0_0 ((rd_Face (rd_LFace l0_0 a1) a2).f0)).length : Int) := of_decide_eq_true (by first | (with_reducible assumption) | assumption)
              obtain ⟨ad109, e109, hx109_0, hx109_1⟩ := at_Face HR108_0.out t107 p109 q109
              have hw109_1 := hx109_1
              have hw109_0 := hx109_0
              cases e109
              replace hx109_0 := (HB.out.cell (World.block_lt_of_cell? w _ hx109_0)).trans hx109_0
              replace hx109_1 := (HB.out.cell (World.block_lt_of_cell? w _ hx109_1)).trans hx109_1
              replace p109 := eq_true p109
              replace q109 := eq_true q109
              refine start_ (n := 25) (S := fun w' => w'.cell? ⟨gb101, 0, none⟩ = some (.slice (some ad102) l0_0.length c0_0) ∧ w'.cell? ⟨gb104, 0, none⟩ = some (.int .i64 ((rd_Face (rd_LFace l0_0 a1) a2).f0)) ∧ w'.cell? ⟨gb104, 1, none⟩ = some (.int .i64 ((rd_Face (rd_LFace l0_0 a1) a2).f1)) ∧ w'.cell? (ad102.add (((rd_Face (rd_LFace l0_0 a1) a2).f0)).toNat) = some (.slice (some ad109) (rd_LFace l0_0 ((rd_Face (rd_LFace l0_0 a1) a2).f0)).length c108_0) ∧ w'.cell? (ad109.add ((t107).toNat * 2)) = some (.int .i64 ((rd_Face (rd_LFace l0_0 ((rd_Face (rd_LFace l0_0 a1) a2).f0)) t107).f0)) ∧ w'.cell? ⟨(ad109.add ((t107).toNat * 2)).block, (ad109.add ((t107).toNat * 2)).off + 1, none⟩ = some (.int .i64 ((rd_Face (rd_LFace l0_0 ((rd_Face (rd_LFace l0_0 a1) a2).f0)) t107).f1))) (ds := []) #[false, false, false, false, false, false, false, false, false, false, false, false, false, false, false, false, false, false, false, false, false, false, false, false, false] (by kernel_rfl) rfl rfl ⟨(blk_cell BK101.out 0).trans rfl, (blk_cell BK104.out 0).trans rfl, (blk_cell BK104.out 1).trans rfl, ((HB.out.cell (World.block_lt_of_cell? w _ hw108_0)).trans hw108_0), ((HB.out.cell (World.block_lt_of_cell? w _ hw109_0)).trans hw109_0), ((HB.out.cell (World.block_lt_of_cell? w _ hw109_1)).trans hw109_1)⟩ (fun hHeld => ?_); refine with_tabW impl_Triangulation_isGood.tab7 impl_Triangulation_isGood.bits7 (fun HT_ HW_ => ?_)
              generalize w50.drew = w51 at BK101 BK104 HB HR108_0 hx108_0 hx109_0 hx109_1 hHeld ⊢
              refine pure_ (i := 0) (N := some 38) (v := ?_) (a' := ?_) #[true, false, false, false, false, false, false, false, false, false, false, false, false, false, false, false, false, false, false, false, false, false, false, false, false] rfl rfl (any_of HT_.out (by kernel_rfl)) (fun _ _ _ h => h) (Or.inl ⟨by rfl, ?_⟩) ?_ ?_
              rotate_left
              next =>
               intro w'
               go_simp
               with_reducible rfl
              rotate_left
              next =>
               simp only [Act.put, List.setIfInBounds_toArray, List.set_cons_zero, List.set_cons_succ, i64_w, i32_w]
               rfl
              refine pure_ (i := 2) (N := some 40) (v := ?_) (a' := ?_) #[true, false, true, false, false, false, false, false, false, false, false, false, false, false, false, false, false, false, false, false, false, false, false, false, false] rfl rfl (any_of HT_.out (by kernel_rfl)) (fun _ _ _ h => h) (Or.inl ⟨by rfl, ?_⟩) ?_ ?_
              rotate_left
              next =>
               intro w'
               go_simp
               with_reducible rfl
              rotate_left
              next =>
               simp only [Act.put, List.setIfInBounds_toArray, List.set_cons_zero, List.set_cons_succ, i64_w, i32_w]
               rfl
              refine pure_ (i := 6) (N := some 44) (v := ?_) (a' := ?_) #[true, false, true, false, false, false, true, false, false, false, false, false, false, false, false, false, false, false, false, false, false, false, false, false, false] rfl rfl (any_of HT_.out (by kernel_rfl)) (fun _ _ _ h => h) (Or.inl ⟨by rfl, ?_⟩) ?_ ?_
              rotate_left
              next =>
               intro w'
               go_simp
               with_reducible rfl
              rotate_left
              next =>
               simp only [Act.put, List.setIfInBounds_toArray, List.set_cons_zero, List.set_cons_succ, i64_w, i32_w]
               rfl
              refine pure_ (i := 10) (N := some 48) (v := ?_) (a' := ?_) #[true, false, true, false, false, false, true, false, false, false, true, false, false, false, false, false, false, false, false, false, false, false, false, false, false] rfl rfl (any_of HT_.out (by kernel_rfl)) (fun _ _ _ h => h) (Or.inl ⟨by rfl, ?_⟩) ?_ ?_
              rotate_left
              next =>
               intro w'
               go_simp
               with_reducible rfl
              rotate_left
              next =>
               simp only [Act.put, List.setIfInBounds_toArray, List.set_cons_zero, List.set_cons_succ, i64_w, i32_w]
               rfl
              refine take_ (i := 1) (N := some 39) (v := ?_) (a' := ?_) #[true, true, true, false, false, false, true, false, false, false, true, false, false, false, false, false, false, false, false, false, false, false, false, false, false] rfl rfl (take_ofW HT_.out HW_.out (by kernel_rfl)) (fun _ _ _ h => h) (Or.inl ⟨by rfl, ?_⟩) hHeld ?_ ?_
              rotate_left
              next =>
               rintro w' ⟨s0, s1, s2, s3, s4, s5⟩
               go_simp
               with_reducible rfl
              rotate_left
              next =>
               simp only [Act.put, List.setIfInBounds_toArray, List.set_cons_zero, List.set_cons_succ, i64_w, i32_w]
               rfl
              refine take_ (i := 3) (N := some 41) (v := ?_) (a' := ?_) #[true, true, true, true, false, false, true, false, false, false, true, false, false, false, false, false, false, false, false, false, false, false, false, false, false] rfl rfl (take_ofW HT_.out HW_.out (by kernel_rfl)) (fun _ _ _ h => h) (Or.inl ⟨by rfl, ?_⟩) hHeld ?_ ?_
              rotate_left
              next =>
               rintro w' ⟨s0, s1, s2, s3, s4, s5⟩
               go_simp
               with_reducible rfl
              rotate_left
              next =>
               simp only [Act.put, List.setIfInBounds_toArray, List.set_cons_zero, List.set_cons_succ, i64_w, i32_w]
               rfl
              refine pure_ (i := 4) (N := some 42) (v := ?_) (a' := ?_) #[true, true, true, true, true, false, true, false, false, false, true, false, false, false, false, false, false, false, false, false, false, false, false, false, false] rfl rfl (any_of HT_.out (by kernel_rfl)) (fun _ _ _ h => h) (Or.inl ⟨by rfl, ?_⟩) ?_ ?_
              rotate_left
              next =>
               intro w'
               go_simp
               with_reducible rfl
              rotate_left
              next =>
               simp only [Act.put, List.setIfInBounds_toArray, List.set_cons_zero, List.set_cons_succ, i64_w, i32_w]
               rfl
              refine take_ (i := 5) (N := some 43) (v := ?_) (a' := ?_) #[true, true, true, true, true, true, true, false, false, false, true, false, false, false, false, false, false, false, false, false, false, false, false, false, false] rfl rfl (take_ofW HT_.out HW_.out (by kernel_rfl)) (fun _ _ _ h => h) (Or.inl ⟨by rfl, ?_⟩) hHeld ?_ ?_
              rotate_left
              next =>
               rintro w' ⟨s0, s1, s2, s3, s4, s5⟩
               go_simp
               with_reducible rfl
              rotate_left
              next =>
               simp only [Act.put, List.setIfInBounds_toArray, List.set_cons_zero, List.set_cons_succ, i64_w, i32_w]
               rfl
              refine pure_ (i := 7) (N := some 45) (v := ?_) (a' := ?_) #[true, true, true, true, true, true, true, true, false, false, true, false, false, false, false, false, false, false, false, false, false, false, false, false, false] rfl rfl (any_of HT_.out (by kernel_rfl)) (fun _ _ _ h => h) (Or.inl ⟨by rfl, ?_⟩) ?_ ?_
              rotate_left
              next =>
               intro w'
               go_simp
               with_reducible rfl
              rotate_left
              next =>
               simp only [Act.put, List.setIfInBounds_toArray, List.set_cons_zero, List.set_cons_succ, i64_w, i32_w]
               rfl
              refine take_ (i := 8) (N := some 46) (v := ?_) (a' := ?_) #[true, true, true, true, true, true, true, true, true, false, true, false, false, false, false, false, false, false, false, false, false, false, false, false, false] rfl rfl (take_ofW HT_.out HW_.out (by kernel_rfl)) (fun _ _ _ h => h) (Or.inl ⟨by rfl, ?_⟩) hHeld ?_ ?_
              rotate_left
              next =>
               rintro w' ⟨s0, s1, s2, s3, s4, s5⟩
               go_simp
               with_reducible rfl
              rotate_left
              next =>
               simp only [Act.put, List.setIfInBounds_toArray, List.set_cons_zero, List.set_cons_succ, i64_w, i32_w]
               rfl
              refine take_ (i := 9) (N := some 47) (v := ?_) (a' := ?_) #[true, true, true, true, true, true, true, true, true, true, true, false, false, false, false, false, false, false, false, false, false, false, false, false, false] rfl rfl (take_ofW HT_.out HW_.out (by kernel_rfl)) (fun _ _ _ h => h) (Or.inl ⟨by rfl, ?_⟩) hHeld ?_ ?_
              rotate_left
              next =>
               rintro w' ⟨s0, s1, s2, s3, s4, s5⟩
               go_simp
               with_reducible rfl
              rotate_left
              next =>
               simp only [Act.put, List.setIfInBounds_toArray, List.set_cons_zero, List.set_cons_succ, i64_w, i32_w]
               rfl
              refine one_ (i := 11) (N := some 49) #[true, true, true, true, true, true, true, true, true, true, true, true, false, false, false, false, false, false, false, false, false, false, false, false, false] rfl rfl (one_of HT_.out (by kernel_rfl)) (by decide) (fun K hK => ?_)
              refine goes_ Try.func160 (by kernel_rfl) rfl #[.agg #[.int .i64 ((rd_Face (rd_LFace l0_0 a1) a2).f0), .int .i64 ((rd_Face (rd_LFace l0_0 a1) a2).f1)], .int .i64 a1] (by rfl) rfl rfl (by (try simp only [List.map_toArray, List.map_cons, List.map_nil]); first | done | rfl | (simp only [List.length_drop, List.length_take]; rfl)) ?_
              with_reducible refine (impl_Face_partner.calls ((rd_Face (rd_LFace l0_0 a1) a2).f0) ((rd_Face (rd_LFace l0_0 a1) a2).f1) a1 t110 t111 _ A35.out).mono ?_
              rintro e w52 ⟨rfl, hb⟩
              refine ⟨_, rfl, ?_⟩
              have n0_ := Aside0.mk (blk_below (g := gb101) (o := .cells #[.slice (some ad102) l0_0.length c0_0] 29 (0, 0)) (by (with_reducible repeat (first | refine blk_drewN ?_ _ | refine blk_drew ?_ | refine blk_alloc ?_ _)); exact BK101.out) hb)
              have n1_ := Aside0.mk (blk_below (g := gb104) (o := .cells #[.int .i64 ((rd_Face (rd_LFace l0_0 a1) a2).f0), .int .i64 ((rd_Face (rd_LFace l0_0 a1) a2).f1)] 66 (0, 0)) (by (with_reducible repeat (first | refine blk_drewN ?_ _ | refine blk_drew ?_ | refine blk_alloc ?_ _)); exact BK104.out) hb)
              have n2_ := Aside0.mk (below_step (by repeat (first | (with_reducible first | exact HB.out | apply below_alloc | apply pw_below_drewN | apply below_drew1 | refine below_set ?_ GE101.out | refine below_set ?_ GE104.out) | exact HB.out)) hb)
              clear BK101
              clear BK104
              clear HB
              have BK101 := n0_
              have BK104 := n1_
              have HB := n2_
              clear n0_ n1_ n2_
              (try clear hb)
              (try clear hb2)
              (try clear hk)
              (try clear hi)
              refine hK.out _ _ ⟨(blk_cell BK101.out 0).trans rfl, (blk_cell BK104.out 0).trans rfl, (blk_cell BK104.out 1).trans rfl, ((HB.out.cell (World.block_lt_of_cell? w _ hw108_0)).trans hw108_0), ((HB.out.cell (World.block_lt_of_cell? w _ hw109_0)).trans hw109_0), ((HB.out.cell (World.block_lt_of_cell? w _ hw109_1)).trans hw109_1)⟩ (fun hHeld => ?_)
              clear hK K
              refine norm_ (a' := ?_) ?_ ?_
              rotate_left
              next =>
               show Act.put _ (some 49) _ = _
               simp only [Act.put, List.setIfInBounds_toArray, List.set_cons_zero, List.set_cons_succ, i64_w, i32_w]
               rfl
              refine pure_ (i := 12) (N := some 50) (v := ?_) (a' := ?_) #[true, true, true, true, true, true, true, true, true, true, true, true, true, false, false, false, false, false, false, false, false, false, false, false, false] rfl rfl (any_of HT_.out (by kernel_rfl)) (fun _ _ _ h => h) (Or.inl ⟨by rfl, ?_⟩) ?_ ?_
              rotate_left
              next =>
               intro w'
               go_simp
               with_reducible rfl
              rotate_left
              next =>
               simp only [Act.put, List.setIfInBounds_toArray, List.set_cons_zero, List.set_cons_succ, i64_w, i32_w]
               rfl
              refine pure_ (i := 13) (N := some 51) (v := ?_) (a' := ?_) #[true, true, true, true, true, true, true, true, true, true, true, true, true, true, false, false, false, false, false, false, false, false, false, false, false] rfl rfl (any_of HT_.out (by kernel_rfl)) (fun _ _ _ h => h) (Or.inl ⟨by rfl, ?_⟩) ?_ ?_
              rotate_left
              next =>
               intro w'
               go_simp
               with_reducible rfl
              rotate_left
              next =>
               simp only [Act.put, List.setIfInBounds_toArray, List.set_cons_zero, List.set_cons_succ, i64_w, i32_w]
               rfl
              refine pure_ (i := 14) (N := some 52) (v := undef) (a' := ?_) #[true, true, true, true, true, true, true, true, true, true, true, true, true, true, true, false, false, false, false, false, false, false, false, false, false] rfl rfl (any_of HT_.out (by kernel_rfl)) (fun _ _ _ h => h) (Or.inr ⟨by rfl, rfl⟩) ?_ ?_
              rotate_left
              next =>
               simp only [Act.put, List.setIfInBounds_toArray, List.set_cons_zero, List.set_cons_succ, i64_w, i32_w]
               rfl
              refine pure_ (i := 15) (N := some 53) (v := undef) (a' := ?_) #[true, true, true, true, true, true, true, true, true, true, true, true, true, true, true, true, false, false, false, false, false, false, false, false, false] rfl rfl (any_of HT_.out (by kernel_rfl)) (fun _ _ _ h => h) (Or.inr ⟨by rfl, rfl⟩) ?_ ?_
              rotate_left
              next =>
               simp only [Act.put, List.setIfInBounds_toArray, List.set_cons_zero, List.set_cons_succ, i64_w, i32_w]
               rfl
              refine pure_ (i := 16) (N := some 54) (v := undef) (a' := ?_) #[true, true, true, true, true, true, true, true, true, true, true, true, true, true, true, true, true, false, false, false, false, false, false, false, false] rfl rfl (any_of HT_.out (by kernel_rfl)) (fun _ _ _ h => h) (Or.inr ⟨by rfl, rfl⟩) ?_ ?_
              rotate_left
              next =>
               simp only [Act.put, List.setIfInBounds_toArray, List.set_cons_zero, List.set_cons_succ, i64_w, i32_w]
               rfl
              refine pure_ (i := 17) (N := some 55) (v := undef) (a' := ?_) #[true, true, true, true, true, true, true, true, true, true, true, true, true, true, true, true, true, true, false, false, false, false, false, false, false] rfl rfl (any_of HT_.out (by kernel_rfl)) (fun _ _ _ h => h) (Or.inr ⟨by rfl, rfl⟩) ?_ ?_
              rotate_left
              next =>
               simp only [Act.put, List.setIfInBounds_toArray, List.set_cons_zero, List.set_cons_succ, i64_w, i32_w]
               rfl
              refine pure_ (i := 18) (N := some 56) (v := undef) (a' := ?_) #[true, true, true, true, true, true, true, true, true, true, true, true, true, true, true, true, true, true, true, false, false, false, false, false, false] rfl rfl (any_of HT_.out (by kernel_rfl)) (fun _ _ _ h => h) (Or.inr ⟨by rfl, rfl⟩) ?_ ?_
              rotate_left
              next =>
               simp only [Act.put, List.setIfInBounds_toArray, List.set_cons_zero, List.set_cons_succ, i64_w, i32_w]
               rfl
              refine pure_ (i := 19) (N := some 57) (v := undef) (a' := ?_) #[true, true, true, true, true, true, true, true, true, true, true, true, true, true, true, true, true, true, true, true, false, false, false, false, false] rfl rfl (any_of HT_.out (by kernel_rfl)) (fun _ _ _ h => h) (Or.inr ⟨by rfl, rfl⟩) ?_ ?_
              rotate_left
              next =>
               simp only [Act.put, List.setIfInBounds_toArray, List.set_cons_zero, List.set_cons_succ, i64_w, i32_w]
               rfl
              refine pure_ (i := 20) (N := some 58) (v := undef) (a' := ?_) #[true, true, true, true, true, true, true, true, true, true, true, true, true, true, true, true, true, true, true, true, true, false, false, false, false] rfl rfl (any_of HT_.out (by kernel_rfl)) (fun _ _ _ h => h) (Or.inr ⟨by rfl, rfl⟩) ?_ ?_
              rotate_left
              next =>
               simp only [Act.put, List.setIfInBounds_toArray, List.set_cons_zero, List.set_cons_succ, i64_w, i32_w]
               rfl
              refine pure_ (i := 21) (N := some 59) (v := undef) (a' := ?_) #[true, true, true, true, true, true, true, true, true, true, true, true, true, true, true, true, true, true, true, true, true, true, false, false, false] rfl rfl (any_of HT_.out (by kernel_rfl)) (fun _ _ _ h => h) (Or.inr ⟨by rfl, rfl⟩) ?_ ?_
              rotate_left
              next =>
               simp only [Act.put, List.setIfInBounds_toArray, List.set_cons_zero, List.set_cons_succ, i64_w, i32_w]
               rfl
              refine pure_ (i := 22) (N := some 60) (v := undef) (a' := ?_) #[true, true, true, true, true, true, true, true, true, true, true, true, true, true, true, true, true, true, true, true, true, true, true, false, false] rfl rfl (any_of HT_.out (by kernel_rfl)) (fun _ _ _ h => h) (Or.inr ⟨by rfl, rfl⟩) ?_ ?_
              rotate_left
              next =>
               simp only [Act.put, List.setIfInBounds_toArray, List.set_cons_zero, List.set_cons_succ, i64_w, i32_w]
               rfl
              refine pure_ (i := 23) (N := some 61) (v := ?_) (a' := ?_) #[true, true, true, true, true, true, true, true, true, true, true, true, true, true, true, true, true, true, true, true, true, true, true, true, false] rfl rfl (any_of HT_.out (by kernel_rfl)) (fun _ _ _ h => h) (Or.inl ⟨by rfl, ?_⟩) ?_ ?_
              rotate_left
              next =>
               intro w'
               go_simp
               with_reducible rfl
              rotate_left
              next =>
               simp only [Act.put, List.setIfInBounds_toArray, List.set_cons_zero, List.set_cons_succ, i64_w, i32_w]
               rfl
              refine pure_ (i := 24) (N := some 6) (v := ?_) (a' := ?_) #[true, true, true, true, true, true, true, true, true, true, true, true, true, true, true, true, true, true, true, true, true, true, true, true, true] rfl rfl (any_of HT_.out (by kernel_rfl)) (fun _ _ _ h => h) (Or.inl ⟨by rfl, ?_⟩) ?_ ?_
              rotate_left
              next =>
               intro w'
               go_simp
               with_reducible rfl
              rotate_left
              next =>
               simp only [Act.put, List.setIfInBounds_toArray, List.set_cons_zero, List.set_cons_succ, i64_w, i32_w]
               rfl
              refine done_ (done_of HT_.out (by kernel_rfl)) ?_
              try go_wp2
              go_ret
              exact ⟨by first | rfl | (simp [errW_none, errW_some] <;> rfl) | (simp [*, errW_none, errW_some] <;> rfl), by repeat (first | (with_reducible first | exact HB.out | apply below_alloc | apply pw_below_drewN | apply below_drew1 | refine below_set ?_ GE101.out | refine below_set ?_ GE104.out) | exact HB.out)⟩
            next =>
             rw [if_neg c34] at H
             exact absurd H (by simp)
           next =>
            rw [if_neg c33] at H
            exact absurd H (by simp)
          next =>
           rw [if_neg c32] at H
           exact absurd H (by simp)
         next =>
          rw [if_neg c31] at H
          exact absurd H (by simp)
    next =>
     rw [if_neg c7] at H
     exact absurd H (by simp)
   next =>
    rw [if_neg c6] at H
    exact absurd H (by simp)
  next =>
   rw [if_neg c5] at H
   exact absurd H (by simp)
 next =>
  rw [if_neg c4] at H
  exact absurd H (by simp)
end Go.Proofs.Ytfaagdpopmnnpaa.P

-- Printed by a program of this session (drv.py), by means of the kit's print.py.
namespace Go.Proofs.Ytfaagdpopmnnpaa.P
open Go.RowKit Go.Proofs.YtfaagdpopmnnpaaW.PrintWords Go.Proofs.YtfaagdpopmnnpaaW.PrintLast Go.Proofs.YtfaagdpopmnnpaaW.PrintMore
attribute [local go_sem] max2_int min2_int max_two min_two max_three min_three max_four min_four   -- for this text's walks alone
set_option linter.unusedVariables false
set_option linter.unusedSimpArgs false
/-! ### impl_isTriangulation_1: function 128 -/
def impl_isTriangulation_1.f (l0 : List (SFace)) : Option (Bool) := some ((l0.length : Int) != 4)
set_option maxHeartbeats 8000000 in
set_option maxRecDepth 100000 in
theorem impl_isTriangulation_1.calls (A0 : Option Addr) (c0 : Nat) (l0 : List (SFace)) (r : Bool) (w : World) (hr0 : Kd.C kFace w A0 l0.length l0) (hc0 : l0.length ≤ c0) (h : impl_isTriangulation_1.f l0 = some r) :
    Calls Try.prog 128 #[.slice A0 l0.length c0] w fun e w' => e = .returned (.bool r) ∧ Drawn0 w w' := by
  have HR0 := Aside0.mk hr0
  have HC0 := Aside0.mk hc0
  clear hr0 hc0
  have H : (some ((l0.length : Int) != 4)) = some r := h
  clear h
  obtain rfl := Option.some.inj H
  go_enter Try.func128, Try.ntmps128
  go_wp2
  go_ret
  exact ⟨by first | rfl | (simp; done) | (simp [*]; done), by repeat (first | exact Drawn0.refl _ | apply Drawn0.step)⟩
end Go.Proofs.Ytfaagdpopmnnpaa.P

/- The first element of a list that a function tells true. -/
namespace Go.Proofs.Ytfaagdpopmnnpaa.Lib
open Go.RowKit Go.Proofs.YtfaagdpopmnnpaaW.PrintWords
/-- The place of the first element that f tells true, or -1. -/
def idxO {α : Type} (f : α → Option Bool) : Nat → List α → Option Int
  | _, [] => some (-1)
  | i, x :: xs => (f x).bind fun b => if b = true then some (i : Int) else idxO f (i + 1) xs
theorem idxO_cons {α : Type} (f : α → Option Bool) (i : Nat) (x : α) (xs : List α) : idxO f i (x :: xs) = (f x).bind fun b => if b = true then some (i : Int) else idxO f (i + 1) xs := rfl
end Go.Proofs.Ytfaagdpopmnnpaa.Lib

-- Printed by a program of this session (drv.py), by means of the kit's print.py.
namespace Go.Proofs.Ytfaagdpopmnnpaa.P
open Go.RowKit Go.Proofs.YtfaagdpopmnnpaaW.PrintWords Go.Proofs.YtfaagdpopmnnpaaW.PrintLast Go.Proofs.YtfaagdpopmnnpaaW.PrintMore
attribute [local go_sem] max2_int min2_int max_two min_two max_three min_three max_four min_four   -- for this text's walks alone
set_option linter.unusedVariables false
set_option linter.unusedSimpArgs false
open Go.Proofs.Ytfaagdpopmnnpaa.Lib
/-! ### slices_IndexFunc_SSimpl_Face_at_impl_isTriangulation_1: function 165 at the literal 128 -/
def slices_IndexFunc_SSimpl_Face_at_impl_isTriangulation_1.f (l0 : List (List (SFace))) : Option Int := idxO (fun x => impl_isTriangulation_1.f x) 0 l0
set_option maxHeartbeats 8000000 in
set_option maxRecDepth 100000 in
theorem slices_IndexFunc_SSimpl_Face_at_impl_isTriangulation_1.calls (A0 : Option Addr) (c0 : Nat) (l0 : List (List (SFace))) (r : Int) (w : World) (hr0 : Kd.C (Kd.slice 66 kFace) w A0 l0.length l0) (hc0 : l0.length ≤ c0) (h : slices_IndexFunc_SSimpl_Face_at_impl_isTriangulation_1.f l0 = some r) :
    Calls Try.prog 165 #[.slice A0 l0.length c0, .func (.func 128) #[] #[]] w fun e w' => e = .returned (.int .i64 r) ∧ Below w.heap.size w w' := by
  have HR0 := Aside0.mk hr0
  clear hr0 hc0
  have hbig : l0.length ≤ 9223372036854775807 := HR0.out.2.1
  have HB := Aside0.mk (Below.refl w.heap.size w)
  have H' := Aside0.mk (show idxO (fun x => impl_isTriangulation_1.f x) 0 l0 = some r from h)
  clear h
  go_enter Try.func165, Try.ntmps165
  go_wp2
  go_loopg [5, 8] l0.length (fun gg v5 v8 w' => ∃ kk : Nat, kk ≤ l0.length ∧ l0.length - kk ≤ gg ∧ v8 = .int .i64 kk ∧ Aside0 (idxO (fun x => impl_isTriangulation_1.f x) kk (l0.drop kk) = some r) ∧ Aside0 (Below w.heap.size w w'))
  case atStart => exact ⟨0, Nat.zero_le _, by omega, rfl, H', HB⟩
  case round =>
    clear H' HB
    obtain ⟨kk, hkk, hg, rfl, HA, HB⟩ := hrel
    by_cases hlt : kk < l0.length
    · have hltz : (kk : Int) < (l0.length : Int) := by omega
      have H := HA.out
      clear HA
      rw [List.drop_eq_getElem_cons hlt, idxO_cons] at H
      replace H := Option.bind_eq_some_iff.mp H
      obtain ⟨b, hb, H⟩ := H
      obtain ⟨ad, A1, c1, e104, hx, hl1, hi1⟩ := at_LFace HR0.out (kk : Int) (by omega) (by omega)
      have ex : rd_LFace l0 (kk : Int) = l0[kk] := by simp [rd_LFace, hlt]
      rw [ex] at hx hl1 hi1
      rw [Int.toNat_natCast] at hx
      replace hx := (HB.out.cell (World.block_lt_of_cell? w _ hx)).trans hx
      replace hi1 := Kd.C_below hi1 HB.out
      generalize l0[kk] = y at hx hl1 hi1 hb
      have HI1 := Aside0.mk hi1
      have HL1 := Aside0.mk hl1
      clear ex hi1 hl1
      cases e104
      have HC := Aside0.mk hb
      clear hb
      cases b with
      | true =>
        have H2 := Aside0.mk H
        clear H
        go_wp2_with fail
        refine (impl_isTriangulation_1.calls _ _ _ _ _ HI1.out HL1.out HC.out).mono ?_
        rintro e w' ⟨rfl, hd⟩
        have HB2 := Aside0.mk (below_step HB.out hd.below)
        clear hd HB
        go_wp2
        go_ret
        exact ⟨by rw [Option.some.inj H2.out]; rfl, HB2.out⟩
      | false =>
        have H2 := Aside0.mk H
        clear H
        go_wp2_with fail
        refine (impl_isTriangulation_1.calls _ _ _ _ _ HI1.out HL1.out HC.out).mono ?_
        rintro e w' ⟨rfl, hd⟩
        have HB2 := Aside0.mk (below_step HB.out hd.below)
        clear hd HB
        go_wp2
        go_roundg (l0.length - (kk + 1))
        case measure => omega
        case rel => exact ⟨kk + 1, by omega, by omega, by go_num, H2, HB2⟩
    · have hltz : ¬ (kk : Int) < (l0.length : Int) := by omega
      have e : kk = l0.length := by omega
      subst e
      have H2 := Aside0.mk (Option.some.inj (by simpa [idxO] using HA.out))
      clear HA
      go_wp2
      go_ret
      exact ⟨by rw [← H2.out]; rfl, HB.out⟩
end Go.Proofs.Ytfaagdpopmnnpaa.P

-- Printed by a program of this session (drv.py), by means of the kit's print.py.
namespace Go.Proofs.Ytfaagdpopmnnpaa.P
open Go.RowKit Go.Proofs.YtfaagdpopmnnpaaW.PrintWords Go.Proofs.YtfaagdpopmnnpaaW.PrintLast Go.Proofs.YtfaagdpopmnnpaaW.PrintMore
attribute [local go_sem] max2_int min2_int max_two min_two max_three min_three max_four min_four   -- for this text's walks alone
set_option linter.unusedVariables false
set_option linter.unusedSimpArgs false
open Go.Proofs.Ytfaagdpopmnnpaa.Lib
/-! ### slices_ContainsFunc_SSimpl_Face_at_impl_isTriangulation_1: function 127 at the literal 128 -/
def slices_ContainsFunc_SSimpl_Face_at_impl_isTriangulation_1.f (l0 : List (List (SFace))) : Option Bool := (slices_IndexFunc_SSimpl_Face_at_impl_isTriangulation_1.f l0).bind fun i => some (decide (0 ≤ i))
set_option maxHeartbeats 8000000 in
set_option maxRecDepth 100000 in
theorem slices_ContainsFunc_SSimpl_Face_at_impl_isTriangulation_1.calls (A0 : Option Addr) (c0 : Nat) (l0 : List (List (SFace))) (r : Bool) (w : World) (hr0 : Kd.C (Kd.slice 66 kFace) w A0 l0.length l0) (hc0 : l0.length ≤ c0) (h : slices_ContainsFunc_SSimpl_Face_at_impl_isTriangulation_1.f l0 = some r) :
    Calls Try.prog 127 #[.slice A0 l0.length c0, .func (.func 128) #[] #[]] w fun e w' => e = .returned (.bool r) ∧ Below w.heap.size w w' := by
  obtain ⟨i, hi, h⟩ := Option.bind_eq_some_iff.mp h
  have H := Aside0.mk (Option.some.inj h)
  clear h
  have HI := Aside0.mk hi
  clear hi
  have HR0 := Aside0.mk hr0
  have HC0 := Aside0.mk hc0
  clear hr0 hc0
  go_enter Try.func127, Try.ntmps127
  go_wp2_with fail
  refine (slices_IndexFunc_SSimpl_Face_at_impl_isTriangulation_1.calls _ _ _ _ _ HR0.out HC0.out HI.out).mono ?_
  rintro e w' ⟨rfl, hd⟩
  have HB := Aside0.mk hd
  clear hd
  go_wp2
  go_ret
  exact ⟨by rw [← H.out]; rfl, HB.out⟩
end Go.Proofs.Ytfaagdpopmnnpaa.P
