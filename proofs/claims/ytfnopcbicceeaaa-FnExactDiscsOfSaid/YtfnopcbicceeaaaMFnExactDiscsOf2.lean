/- The statement FnExactDiscsOfSaid, proved: part 2 of 8 (texts of this session and of the kit's print, put together and cut to what is used by a program of it). -/
import Derived.Test.YtfnopcbicceeaaaMFnExactDiscsOf1
import Derived.Test.YtfnopcbicceeaaaProg
import Derived.Below
import Derived.Deep.Draws
import Derived.Deep.AppendLies
import Derived.Maps.AppendAt
import Derived.OwnWalk
import Derived.Laws.BytesArg
import Derived.Laws.MakeOwn
import Derived.Laws.OwnMore
import Derived.Deep.OwnRows
import Derived.Tactics
import Derived.Lib.ConvBytes
import Derived.Laws.Slices
import Derived.WalkKit
import Derived.KernelRfl
import Derived.RowKit3
import Derived.Deep.LoopGhost
import Derived.Deep.QuietTactic
import Derived.BigQuiet
import Derived.WideLaws
import Derived.Deep.DeepCutAuto
import Derived.Deep.CutBlock
import Derived.Deep.RegionHeld3
import Derived.Laws.Rows
import Derived.Lib.AppendStr
import Derived.ArgAppend
import Derived.Laws.IdiomCopy
import Derived.OrdersHeld
import Derived.Laws.BitsLemmas
import Derived.RowKit
import Derived.Lib.SliceRun
import Derived.Shelf.SlicesG.Delete
import Derived.Ground.SlgnProg
import Derived.Sort.Row
import Derived.RangeFuncNested
import Derived.RangeFuncBound
import Derived.RangeFuncCalls
import Derived.RangeFuncLeaves
import Derived.RangeFuncBox
import Derived.Shelf.Abstract
import Derived.Shelf.RegionOpen
import Derived.OwnWalkIn
import Derived.TacticsInMore
import Derived.LoopNIn
import Derived.LoopIn
import Derived.RegionIn
import Derived.BigRegionIn
namespace Go.Proofs.Ytfnopcbicceeaaa
abbrev yay := @List.setIfInBounds_toArray
abbrev yby := @List.set_cons_zero
abbrev ycy := @List.set_cons_succ
abbrev ydy := @Option.bind_eq_some_iff
abbrev yey := @Option.some.inj
abbrev yfy := @Option.bind_some
abbrev ygy := @decide_eq_true
abbrev yhy := @decide_eq_false
abbrev yiy := @List.map_toArray
abbrev yjy := @List.map_cons
abbrev yky := @List.map_nil
abbrev yly := @List.length_drop
abbrev ymy := @List.length_take
abbrev yny := @Int.toNat_natCast
abbrev yoy := @List.drop_eq_getElem_cons
abbrev ypy := @Go.World.block_lt_of_cell?
abbrev yqy := @Nat.le_refl
abbrev yry := @Go.RowKit.Below.refl
end Go.Proofs.Ytfnopcbicceeaaa
namespace Go.Proofs.Ytfnopcbicceeaaa.P
open Go.RowKit Go.Proofs.YtfnopcbicceeaaaW.PrintWords Go.Proofs.YtfnopcbicceeaaaW.PrintLast Go.Proofs.YtfnopcbicceeaaaW.PrintMore
attribute [local go_sem] Qd Qe JC JD QH QI Qf Qg
set_option linter.unusedVariables false
set_option linter.unusedSimpArgs false
def errW : Option Int → Value
  | none => .nilIface
  | some c => .iface 0 (.int .i64 c)
theorem zQ : errW none = .nilIface := rfl
theorem zR (c : Int) : errW (some c) = .iface 0 (.int .i64 c) := rfl
theorem Jb : (Try.prog.info? 2).map (fun i => (i.zero, i.size, i.bytes)) = some (some (.int .i64 0), 1, 8) := by kernel_rfl
theorem zEw : (Try.prog.info? 44).map (fun i => (i.zero, i.size, i.bytes)) = some (some (.slice none 0 0), 1, 24) := by kernel_rfl
theorem info59 : (Try.prog.info? 59).map (fun i => (i.zero, i.size, i.bytes)) = some (some (.agg #[(.int .i64 0), (.int .i64 0)]), 2, 16) := by kernel_rfl
theorem info60 : (Try.prog.info? 60).map (fun i => (i.zero, i.size, i.bytes)) = some (some (.slice none 0 0), 1, 24) := by kernel_rfl
theorem zG2 : (Try.prog.info? 89).map (fun i => (i.zero, i.size, i.bytes)) = some (some (.agg #[(.int .i64 0), (.int .i64 0), (.int .i64 0)]), 3, 24) := by kernel_rfl
structure qR where
  f0 : Int
  f1 : Int
def zDj : qR := ⟨(0 : Int), (0 : Int)⟩
def QA : Kd qR := Kd.iso (Kd.pair (Kd.int .i64) (Kd.int .i64)) (fun x : qR => (x.f0, x.f1))
theorem zCH {w : World} {x : qR} {cs : List Value} (h : QA.K w x cs) : cs = [.int .i64 x.f0, .int .i64 x.f1] := by
  obtain ⟨_, _, rfl, rfl, rfl⟩ := h
  exact rfl
theorem zDK (w : World) (x : qR)  : QA.K w x [.int .i64 x.f0, .int .i64 x.f1] := ⟨[.int .i64 x.f0], [.int .i64 x.f1], rfl, rfl, rfl⟩
def Zt (xs : List qR) (i : Int) : qR := xs.getD i.toNat zDj
theorem zED {w : World} {A : Option Addr} {n : Nat} {xs : List qR} (h : Kd.C QA w A n xs) (i : Int) (h0 : 0 ≤ i) (h1 : i < n) : ∃ ad , A = some ad ∧ w.cell? (ad.add (i.toNat * 2)) = some (.int .i64 (Zt xs i).f0) ∧ w.cell? ⟨(ad.add (i.toNat * 2)).block, (ad.add (i.toNat * 2)).off + 1, none⟩ = some (.int .i64 (Zt xs i).f1) := by
  obtain ⟨ad, c, e, _, hK, hc0⟩ := Kd.zE8 h zDj i h0 h1
  have hc : ∀ j u, c[j]? = some u → w.cell? (ad.add (i.toNat * 2 + j)) = some u := hc0
  obtain rfl := zCH hK
  exact ⟨ad, e, hc 0 _ rfl, by rw [← zAC _ _ 1 (by omega)]; exact hc 1 _ rfl⟩
def ZQ (xs : List (List qR)) (i : Int) : (List qR) := xs.getD i.toNat ([] : List qR)
theorem zA8 {w : World} {A : Option Addr} {n : Nat} {xs : List (List qR)} (h : Kd.C (Kd.slice 123 QA) w A n xs) (i : Int) (h0 : 0 ≤ i) (h1 : i < n) : ∃ ad A0 c0, A = some ad ∧ w.cell? (ad.add i.toNat) = some (.slice A0 (ZQ xs i).length c0) ∧ (ZQ xs i).length ≤ c0 ∧ QA.C w A0 (ZQ xs i).length (ZQ xs i) := by
  obtain ⟨ad, c, e, _, hK, hc0⟩ := Kd.zE8 h ([] : List qR) i h0 h1
  have hc : ∀ j u, c[j]? = some u → w.cell? (ad.add (i.toNat * 1 + j)) = some u := hc0
  obtain ⟨A0, c0, rfl, l0, g0⟩ := hK
  exact ⟨ad, A0, c0, e, by have hq := hc 0 _ rfl; rwa [Nat.mul_one, Nat.add_zero] at hq, l0, g0⟩
structure zq where
  f0 : Int
  f1 : Int
def Jc : zq := ⟨(0 : Int), (0 : Int)⟩
def qx : Kd zq := Kd.iso (Kd.pair (Kd.int .i64) (Kd.int .i64)) (fun x : zq => (x.f0, x.f1))
theorem zEE {w : World} {x : zq} {cs : List Value} (h : qx.K w x cs) : cs = [.int .i64 x.f0, .int .i64 x.f1] := by
  obtain ⟨_, _, rfl, rfl, rfl⟩ := h
  exact rfl
theorem QU {w : World} {base : Nat} {ok : Nat → Prop} {x : zq} {cs : List Value} (h : qx.M w base ok x cs) : cs = [.int .i64 x.f0, .int .i64 x.f1] := by
  obtain ⟨_, _, rfl, rfl, rfl⟩ := h
  exact rfl
theorem zAK (w : World) (base : Nat) (ok : Nat → Prop) (x : zq)  : qx.M w base ok x [.int .i64 x.f0, .int .i64 x.f1] := ⟨[.int .i64 x.f0], [.int .i64 x.f1], rfl, rfl, rfl⟩
def zG (xs : List zq) (i : Int) : zq := xs.getD i.toNat Jc
theorem Zn {w : World} {A : Option Addr} {n : Nat} {xs : List zq} (h : Kd.C qx w A n xs) (i : Int) (h0 : 0 ≤ i) (h1 : i < n) : ∃ ad , A = some ad ∧ w.cell? (ad.add (i.toNat * 2)) = some (.int .i64 (zG xs i).f0) ∧ w.cell? ⟨(ad.add (i.toNat * 2)).block, (ad.add (i.toNat * 2)).off + 1, none⟩ = some (.int .i64 (zG xs i).f1) := by
  obtain ⟨ad, c, e, _, hK, hc0⟩ := Kd.zE8 h Jc i h0 h1
  have hc : ∀ j u, c[j]? = some u → w.cell? (ad.add (i.toNat * 2 + j)) = some u := hc0
  obtain rfl := zEE hK
  exact ⟨ad, e, hc 0 _ rfl, by rw [← zAC _ _ 1 (by omega)]; exact hc 1 _ rfl⟩
def zE (xs : List (List zq)) (i : Int) : (List zq) := xs.getD i.toNat ([] : List zq)
theorem ZR {w : World} {A : Option Addr} {n : Nat} {xs : List (List zq)} (h : Kd.C (Kd.slice 59 qx) w A n xs) (i : Int) (h0 : 0 ≤ i) (h1 : i < n) : ∃ ad A0 c0, A = some ad ∧ w.cell? (ad.add i.toNat) = some (.slice A0 (zE xs i).length c0) ∧ (zE xs i).length ≤ c0 ∧ qx.C w A0 (zE xs i).length (zE xs i) := by
  obtain ⟨ad, c, e, _, hK, hc0⟩ := Kd.zE8 h ([] : List zq) i h0 h1
  have hc : ∀ j u, c[j]? = some u → w.cell? (ad.add (i.toNat * 1 + j)) = some u := hc0
  obtain ⟨A0, c0, rfl, l0, g0⟩ := hK
  exact ⟨ad, A0, c0, e, by have hq := hc 0 _ rfl; rwa [Nat.mul_one, Nat.add_zero] at hq, l0, g0⟩
def zY (xs : List (List Int)) (i : Int) : (List Int) := xs.getD i.toNat ([] : List Int)
theorem zCI {w : World} {A : Option Addr} {n : Nat} {xs : List (List Int)} (h : Kd.C (Kd.slice 2 (Kd.int .i64)) w A n xs) (i : Int) (h0 : 0 ≤ i) (h1 : i < n) : ∃ ad A0 c0, A = some ad ∧ w.cell? (ad.add i.toNat) = some (.slice A0 (zY xs i).length c0) ∧ (zY xs i).length ≤ c0 ∧ (Kd.int .i64).C w A0 (zY xs i).length (zY xs i) := by
  obtain ⟨ad, c, e, _, hK, hc0⟩ := Kd.zE8 h ([] : List Int) i h0 h1
  have hc : ∀ j u, c[j]? = some u → w.cell? (ad.add (i.toNat * 1 + j)) = some u := hc0
  obtain ⟨A0, c0, rfl, l0, g0⟩ := hK
  exact ⟨ad, A0, c0, e, by have hq := hc 0 _ rfl; rwa [Nat.mul_one, Nat.add_zero] at hq, l0, g0⟩
structure qk where
  f0 : Int
  f1 : Int
  f2 : Int
def zCp : qk := ⟨(0 : Int), (0 : Int), (0 : Int)⟩
def Zv : Kd qk := Kd.iso (Kd.pair (Kd.int .i64) (Kd.pair (Kd.int .i64) (Kd.int .i64))) (fun x : qk => (x.f0, x.f1, x.f2))
theorem zEF {w : World} {x : qk} {cs : List Value} (h : Zv.K w x cs) : cs = [.int .i64 x.f0, .int .i64 x.f1, .int .i64 x.f2] := by
  obtain ⟨_, _, rfl, rfl, ⟨_, _, rfl, rfl, rfl⟩⟩ := h
  exact rfl
theorem QV {w : World} {base : Nat} {ok : Nat → Prop} {x : qk} {cs : List Value} (h : Zv.M w base ok x cs) : cs = [.int .i64 x.f0, .int .i64 x.f1, .int .i64 x.f2] := by
  obtain ⟨_, _, rfl, rfl, ⟨_, _, rfl, rfl, rfl⟩⟩ := h
  exact rfl
theorem Jk (w : World) (base : Nat) (ok : Nat → Prop) (x : qk)  : Zv.M w base ok x [.int .i64 x.f0, .int .i64 x.f1, .int .i64 x.f2] := ⟨[.int .i64 x.f0], [.int .i64 x.f1, .int .i64 x.f2], rfl, rfl, ⟨[.int .i64 x.f1], [.int .i64 x.f2], rfl, rfl, rfl⟩⟩
def zj (xs : List qk) (i : Int) : qk := xs.getD i.toNat zCp
theorem QW {w : World} {A : Option Addr} {n : Nat} {xs : List qk} (h : Kd.C Zv w A n xs) (i : Int) (h0 : 0 ≤ i) (h1 : i < n) : ∃ ad , A = some ad ∧ w.cell? (ad.add (i.toNat * 3)) = some (.int .i64 (zj xs i).f0) ∧ w.cell? ⟨(ad.add (i.toNat * 3)).block, (ad.add (i.toNat * 3)).off + 1, none⟩ = some (.int .i64 (zj xs i).f1) ∧ w.cell? ⟨(ad.add (i.toNat * 3)).block, (ad.add (i.toNat * 3)).off + 2, none⟩ = some (.int .i64 (zj xs i).f2) := by
  obtain ⟨ad, c, e, _, hK, hc0⟩ := Kd.zE8 h zCp i h0 h1
  have hc : ∀ j u, c[j]? = some u → w.cell? (ad.add (i.toNat * 3 + j)) = some u := hc0
  obtain rfl := zEF hK
  exact ⟨ad, e, hc 0 _ rfl, by rw [← zAC _ _ 1 (by omega)]; exact hc 1 _ rfl, by rw [← zAC _ _ 2 (by omega)]; exact hc 2 _ rfl⟩
def QL.f (l0 : List (qk)) : Option (Int) := some (l0.length : Int)
set_option maxHeartbeats 8000000 in
set_option maxRecDepth 100000 in
theorem QL.calls (A0 : Option Addr) (c0 : Nat) (l0 : List (qk)) (r : Int) (w : World) (hr0 : Kd.C Zv w A0 l0.length l0) (hc0 : l0.length ≤ c0) (h : QL.f l0 = some r) :
    Calls Try.prog 143 #[.slice A0 l0.length c0] w fun e w' => e = .returned (.int .i64 r) ∧ zZ w w' := by
  have HR0 := zA.mk hr0
  have HC0 := zA.mk hc0
  clear hr0 hc0
  have H : (some (l0.length : Int)) = some r := h
  clear h
  obtain rfl := yey H
  go_enter Try.func143, Try.ntmps143
  go_wp2
  go_ret
  exact ⟨by first | rfl | (simp; done) | (simp [*]; done), by repeat (first | exact zZ.refl _ | apply zZ.step)⟩
theorem Jl (a b c d : Int) (f : Int) (h0 : 0 ≤ f) (h1 : f ≤ 3) : ∀ w : World, (Instr.index 94 (.agg #[.int .i64 a, .int .i64 b, .int .i64 c, .int .i64 d]) (.int .i64 f)).run Try.prog w = .ok (.int .i64 (rd [a, b, c, d] f)) w := by
  intro w
  rcases (show f = 0 ∨ f = 1 ∨ f = 2 ∨ f = 3 by omega) with rfl | rfl | rfl | rfl
  · kernel_rfl
  · kernel_rfl
  · kernel_rfl
  · kernel_rfl
theorem Qm {w : World} {g : Nat} {T : TypeId} {a b c d : Int} (h : w.heap[g]? = some (.cells #[.int .i64 a, .int .i64 b, .int .i64 c, .int .i64 d] T (0, 0))) (f : Int) (h0 : 0 ≤ f) (h1 : f ≤ 3) : w.cell? ⟨g, f.toNat, none⟩ = some (.int .i64 (rd [a, b, c, d] f)) := by
  rw [zK h]
  rcases (show f = 0 ∨ f = 1 ∨ f = 2 ∨ f = 3 by omega) with rfl | rfl | rfl | rfl <;> rfl
theorem zCJ {w : World} {g : Nat} {T : TypeId} {a b c d : Int} (h : w.heap[g]? = some (.cells #[.int .i64 a, .int .i64 b, .int .i64 c, .int .i64 d] T (0, 0))) (f v : Int) (h0 : 0 ≤ f) (h1 : f ≤ 3) :
    (w.setCell ⟨g, f.toNat, none⟩ (.int .i64 v)).heap[g]? = some (.cells #[.int .i64 (rd ([a, b, c, d].set f.toNat v) 0), .int .i64 (rd ([a, b, c, d].set f.toNat v) 1), .int .i64 (rd ([a, b, c, d].set f.toNat v) 2), .int .i64 (rd ([a, b, c, d].set f.toNat v) 3)] T (0, 0)) := by
  rcases (show f = 0 ∨ f = 1 ∨ f = 2 ∨ f = 3 by omega) with rfl | rfl | rfl | rfl
  · exact qe h 0 _ rfl
  · exact qe h 1 _ rfl
  · exact qe h 2 _ rfl
  · exact qe h 3 _ rfl
theorem QF {W : World} {n : Nat} (h : W.heap.size = n) (o : Obj) : (W.alloc o).heap[n]? = some o := h ▸ zDF W o
theorem zCK {l : List Int} (h : l.length = 4) : l = [rd l 0, rd l 1, rd l 2, rd l 3] := by
  match l, h with
  | [a, b, c, d], _ => rfl
theorem zDk {α β : Type} {d : Kd α} {d' : Kd β} {e e' base base' : Nat} {ok ok' : Nat → Prop} {W W1 : World} {u v : Value} {xs : List α} {ys : List β} (h : d.R e W base ok u xs) (h' : d'.R e' W base' ok' v ys) (hne : ∀ q, q ∈ e :: d.E → q ≠ e') (hg : W.grownBy W1 v.ownBlock) : d.R e W1 base ok u xs :=
 Kd.qW (Kd.zEh (Kd.QO h) hg (fun k hk e1 => by
  obtain ⟨_, _, _, q, hq, cells, hc⟩ := hk
  obtain ⟨cells2, hc2⟩ := Kd.zA6 h' k e1.symm
  rw [hc] at hc2
  injection hc2 with hc2
  injection hc2 with _ hc3
  exact hne q hq hc3)) (fun _ hk => hk.1)
def nsD (i k : Nat) : qk := ⟨(i : Int) / 7, (i : Int) % 7, (k : Int)⟩
def Jd (i k : Nat) : List qk := (List.range k).map (nsD i)
def Qn : List Int → Nat → List qk
 | [], _ => []
 | c :: v, i => Jd i c.toNat ++ Qn v (i + 1)
def zA0 : List Int → Nat
 | [] => 0
 | c :: v => c.toNat + zA0 v
theorem zBj (i k : Nat) : Jd i (k + 1) = Jd i k ++ [nsD i k] := by simp [Jd, List.range_succ]
theorem Jm (i k : Nat) : (Jd i k).length = k := by simp [Jd]
theorem zAX : ∀ (l : List Int) (c : Int) (i : Nat), Qn (l ++ [c]) i = Qn l i ++ Jd (i + l.length) c.toNat
 | [], c, i => by simp [Qn]
 | x :: l, c, i => by rw [List.cons_append, Qn, Qn, zAX l c (i + 1), List.append_assoc, List.length_cons]; congr 3; omega
theorem Jn : ∀ (l : List Int) (i : Nat), (Qn l i).length = zA0 l
 | [], _ => rfl
 | x :: l, i => by rw [Qn, zA0, List.length_append, Jm, Jn l (i + 1)]
theorem zEG (l : List Int) (i : Nat) : zA0 (l.take i) ≤ zA0 l := by
 induction l generalizing i with
 | nil => simp [zA0]
 | cons x l ih =>
  cases i with
  | zero => simp [zA0]
  | succ i => rw [List.take_succ_cons, zA0, zA0]; have := ih i; omega
structure zBR (w W : World) (g : Nat) (a0 a1 : Value) (ds : List qk) (m : Nat) : Prop where
 below : Below w.heap.size w W
 ge : w.heap.size ≤ g
 ex : ∃ (v2 v3 : Value) (fs : List Int), W.heap[g]? = some (.cells #[a0, a1, v2, v3] 86 (0, 0)) ∧ Kd.R Zv 89 W w.heap.size (fun _ => True) v2 ds ∧ Kd.R (Kd.int .i64) 2 W w.heap.size (fun _ => True) v3 fs ∧ fs.length = m
theorem ns_g {W W1 : World} {g : Nat} {cs : Array Value} {α : Type} {d : Kd α} {e base : Nat} {ok : Nat → Prop} {v : Value} {xs : List α} (h1 : W.heap[g]? = some (.cells cs 86 (0, 0))) (h3 : d.R e W base ok v xs) (hne : 86 ≠ e) (hg : W.grownBy W1 v.ownBlock) : W1.heap[g]? = some (.cells cs 86 (0, 0)) :=
 (hg.block g (qS h1) (fun e1 => by
  obtain ⟨cells2, hc2⟩ := Kd.zA6 h3 g e1.symm
  rw [h1] at hc2
  injection hc2 with hc2
  injection hc2 with _ hc3
  exact hne hc3)).trans h1
theorem zFe {w W W1 : World} {g m : Nat} {a0 a1 v2 v3 v : Value} {ds : List qk} {fs fs2 : List Int} (hge : w.heap.size ≤ g) (h1 : W.heap[g]? = some (.cells #[a0, a1, v2, v3] 86 (0, 0))) (h2 : Kd.R Zv 89 W w.heap.size (fun _ => True) v2 ds) (h3 : Kd.R (Kd.int .i64) 2 W w.heap.size (fun _ => True) v3 fs)
 (hb : Below w.heap.size w W1) (hg : W.grownBy W1 v3.ownBlock) (hv : Kd.R (Kd.int .i64) 2 W1 w.heap.size (fun _ => True) v fs2) (hl : fs2.length = m) : zBR w (W1.setCell ⟨g, 3, none⟩ v) g a0 a1 ds m := by
 have h4 : W1.heap[g]? = some (.cells #[a0, a1, v2, v3] 86 (0, 0)) := (hg.block g (qS h1) (fun e => by
  obtain ⟨cells2, hc2⟩ := Kd.zA6 h3 g e.symm
  rw [h1] at hc2
  injection hc2 with hc2
  injection hc2 with _ hc3
  exact absurd hc3 (by decide))).trans h1
 exact ⟨hb.setCell (p := ⟨g, 3, none⟩) hge _, hge, v2, v, fs2, by simpa using zC6 h4 3 v, Kd.zAz (zDk h2 h3 (by decide) hg) h4 (by decide) 3 v, Kd.zAz hv h4 (by decide) 3 v, hl⟩
theorem zGK {w W W1 : World} {g m : Nat} {a0 a1 v2 v3 v : Value} {ds ds2 : List qk} {fs : List Int} (hge : w.heap.size ≤ g) (h1 : W.heap[g]? = some (.cells #[a0, a1, v2, v3] 86 (0, 0))) (h2 : Kd.R Zv 89 W w.heap.size (fun _ => True) v2 ds) (h3 : Kd.R (Kd.int .i64) 2 W w.heap.size (fun _ => True) v3 fs)
 (hb : Below w.heap.size w W1) (hg : W.grownBy W1 v2.ownBlock) (hv : Kd.R Zv 89 W1 w.heap.size (fun _ => True) v ds2) (hl : fs.length = m) : zBR w (W1.setCell ⟨g, 2, none⟩ v) g a0 a1 ds2 m := by
 have h4 : W1.heap[g]? = some (.cells #[a0, a1, v2, v3] 86 (0, 0)) := (hg.block g (qS h1) (fun e => by
  obtain ⟨cells2, hc2⟩ := Kd.zA6 h2 g e.symm
  rw [h1] at hc2
  injection hc2 with hc2
  injection hc2 with _ hc3
  exact absurd hc3 (by decide))).trans h1
 exact ⟨hb.setCell (p := ⟨g, 2, none⟩) hge _, hge, v, v3, fs, by simpa using zC6 h4 2 v, Kd.zAz hv h4 (by decide) 2 v, Kd.zAz (zDk h3 h2 (by decide) hg) h4 (by decide) 2 v, hl⟩
set_option maxHeartbeats 8000000 in
set_option maxRecDepth 100000 in
theorem zB8.calls (A0 : Option Addr) (n0 c0 : Nat) (A1 : Option Addr) (c1 : Nat) (l1 : List Int) (w : World) (hr1 : Kd.C (Kd.int .i64) w A1 l1.length l1) (hc1 : l1.length ≤ c1) (hlen : l1.length ≤ 1000000) (hpos : ∀ x ∈ l1, 0 ≤ x) (hsum : zA0 l1 ≤ 1000000) :
 Calls Try.prog 122 #[.agg #[.slice A0 n0 c0], .slice A1 l1.length c1] w fun e w' => ∃ g : Nat, e = .returned (.pointer (some ⟨g, 0, none⟩)) ∧ zBR w w' g (.slice A0 n0 c0) (.slice A1 l1.length c1) (Qn l1 0) l1.length := by
 have HR := zA.mk hr1
 have HP := zA.mk hpos
 have HS := zA.mk hsum
 clear hr1 hpos hsum
 have BT := zA.mk (QF (W := w) rfl (.cells #[.slice A0 n0 c0] 30))
 have HB := zA.mk (zC (yry w.heap.size w) (.cells #[.slice A0 n0 c0] 30))
 go_enter Try.func122, Try.ntmps122
 have hcT : (w.alloc (.cells #[.slice A0 n0 c0] 30)).cell? ⟨w.heap.size, 0, none⟩ = some (.slice A0 n0 c0) := (zK BT.out 0).trans rfl
 go_wp2_with fail
 have hN0 : zBR w ((w.alloc (.cells #[.slice A0 n0 c0] 30)).alloc (.cells #[.slice A0 n0 c0, .slice A1 l1.length c1, .slice none 0 0, .slice none 0 0] 86)) (w.heap.size + 1) (.slice A0 n0 c0) (.slice A1 l1.length c1) [] 0 := ⟨zC HB.out _, Nat.le_succ _, .slice none 0 0, .slice none 0 0, [], QF (by simp) _, Kd.zAy _ _ _ _ _, Kd.zAy _ _ _ _ _, rfl⟩
 have HN0 := zA.mk hN0
 clear hN0 hcT
 generalize hgd : w.heap.size + 1 = gs at *
 go_loopg [15] l1.length (fun gg v15 w' => ∃ i : Nat, i ≤ l1.length ∧ l1.length - i ≤ gg ∧ v15 = .int .i64 i ∧ zA (zBR w w' gs (.slice A0 n0 c0) (.slice A1 l1.length c1) (Qn (l1.take i) 0) i))
 case atStart => exact ⟨0, Nat.zero_le _, by omega, rfl, HN0⟩
 case round =>
  obtain ⟨i, hi9, hgg, rfl, HN⟩ := hrel
  by_cases hlt : i < l1.length
  rotate_left
  next =>
   obtain rfl : i = l1.length := by omega
   go_wp2
   go_ret
   rw [List.take_length] at HN
   exact ⟨_, rfl, HN.out⟩
  have hltz : (i : Int) < (l1.length : Int) := by omega
  obtain ⟨ad1, e1, hx⟩ := Kd.ZI HR.out (i : Int) (by omega) hltz
  cases e1
  replace hx := (HN.out.below.cell (ypy w _ hx)).trans hx
  have ex : rd l1 (i : Int) = l1[i] := by simp [rd, hlt]
  rw [ex] at hx
  replace hx : wr.cell? (ad1.add i) = some (.int .i64 l1[i]) := hx
  have HCP := zA.mk (HP.out l1[i] (List.getElem_mem hlt))
  have HTK := zA.mk (show Qn (l1.take (i + 1)) 0 = Qn (l1.take i) 0 ++ Jd i l1[i].toNat by
   rw [List.take_add_one, List.getElem?_eq_getElem hlt, Option.toList_some, zAX, ymy, Nat.min_eq_left (by omega), Nat.zero_add])
  have HLN := zA.mk (show (Qn (l1.take i) 0).length + l1[i].toNat ≤ 1000000 by
   have h1 := Jn (l1.take (i + 1)) 0
   have h2 := zEG l1 (i + 1)
   have h3 := HS.out
   rw [HTK.out, List.length_append, Jm] at h1
   omega)
  generalize l1[i] = c at *
  generalize hds : Qn (l1.take i) 0 = ds at *
  have hc0 := HCP.out
  obtain ⟨v2, v3, fs, h1, h2, h3, h4⟩ := HN.out.ex
  obtain ⟨A2, c2, rfl⟩ := Kd.ZP h2
  obtain ⟨A3, c3, rfl⟩ := Kd.ZP h3
  have H1 := zA.mk h1
  have H2 := zA.mk h2
  have H3 := zA.mk h3
  have hge := HN.out.ge
  have hcz := hgd
  have H4 := zA.mk h4
  clear h1 h2 h3 h4
  go_wp2_with fail
  refine QG (n := 15) (S := fun w' => w'.cell? ⟨gs, 3, none⟩ = some (.slice A3 fs.length c3) ∧ w'.cell? ⟨gs, 2, none⟩ = some (.slice A2 ds.length c2)) (ds := [14]) #[false, false, false, false, false, false, false, false, false, false, false, false, false, false, false] (by kernel_rfl) rfl rfl ⟨(zK H1.out 3).trans rfl, (zK H1.out 2).trans rfl⟩ (fun hHeld => ?_)
  refine zo (i := 0) (N := some 20) (v := ?_) (a' := ?_) #[true, false, false, false, false, false, false, false, false, false, false, false, false, false, false] rfl rfl (by kernel_rfl) (fun _ _ _ h => h) (Or.inl ⟨by rfl, ?_⟩) ?_ ?_
  rotate_left
  next =>
   intro w'
   go_simp
   with_reducible rfl
  rotate_left
  next =>
   simp only [Act.put, yay, yby, ycy, zW, zX]
   rfl
  refine zo (i := 1) (N := some 21) (v := ?_) (a' := ?_) #[true, true, false, false, false, false, false, false, false, false, false, false, false, false, false] rfl rfl (by kernel_rfl) (fun _ _ _ h => h) (Or.inl ⟨by rfl, ?_⟩) ?_ ?_
  rotate_left
  next =>
   intro w'
   go_simp
   with_reducible rfl
  rotate_left
  next =>
   simp only [Act.put, yay, yby, ycy, zW, zX]
   rfl
  refine zo (i := 2) (N := some 22) (v := ?_) (a' := ?_) #[true, true, true, false, false, false, false, false, false, false, false, false, false, false, false] rfl rfl (by kernel_rfl) (fun _ _ _ h => h) (Or.inl ⟨by rfl, ?_⟩) ?_ ?_
  rotate_left
  next =>
   intro w'
   go_simp
   with_reducible rfl
  rotate_left
  next =>
   simp only [Act.put, yay, yby, ycy, zW, zX]
   rfl
  refine zo (i := 3) (N := some 23) (v := ?_) (a' := ?_) #[true, true, true, true, false, false, false, false, false, false, false, false, false, false, false] rfl rfl (by kernel_rfl) (fun _ _ _ h => h) (Or.inl ⟨by rfl, ?_⟩) ?_ ?_
  rotate_left
  next =>
   intro w'
   go_simp
   with_reducible rfl
  rotate_left
  next =>
   simp only [Act.put, yay, yby, ycy, zW, zX]
   rfl
  refine ZV (i := 4) (N := some 24) (v := ?_) (a' := ?_) #[true, true, true, true, true, false, false, false, false, false, false, false, false, false, false] rfl rfl (by kernel_rfl) (fun _ _ _ h => h) (Or.inl ⟨by rfl, ?_⟩) hHeld ?_ ?_
  rotate_left
  next =>
   rintro w' ⟨s0, s1⟩
   go_simp
   with_reducible rfl
  rotate_left
  next =>
   simp only [Act.put, yay, yby, ycy, zW, zX]
   rfl
  refine zo (i := 5) (N := some 25) (v := ?_) (a' := ?_) #[true, true, true, true, true, true, false, false, false, false, false, false, false, false, false] rfl rfl (by kernel_rfl) (fun _ _ _ h => h) (Or.inl ⟨by rfl, ?_⟩) ?_ ?_
  rotate_left
  next =>
   intro w'
   go_simp
   with_reducible rfl
  rotate_left
  next =>
   simp only [Act.put, yay, yby, ycy, zW, zX]
   rfl
  refine zo (i := 6) (N := some 26) (v := ?_) (a' := ?_) #[true, true, true, true, true, true, true, false, false, false, false, false, false, false, false] rfl rfl (by kernel_rfl) (fun _ _ _ h => h) (Or.inl ⟨by rfl, ?_⟩) ?_ ?_
  rotate_left
  next =>
   intro w'
   go_simp
   with_reducible rfl
  rotate_left
  next =>
   simp only [Act.put, yay, yby, ycy, zW, zX]
   rfl
  refine zo (i := 7) (N := some 27) (v := ?_) (a' := ?_) #[true, true, true, true, true, true, true, true, false, false, false, false, false, false, false] rfl rfl (by kernel_rfl) (fun _ _ _ h => h) (Or.inl ⟨by rfl, ?_⟩) ?_ ?_
  rotate_left
  next =>
   intro w'
   go_simp
   with_reducible rfl
  rotate_left
  next =>
   simp only [Act.put, yay, yby, ycy, zW, zX]
   rfl
  refine ZV (i := 8) (N := some 28) (v := ?_) (a' := ?_) #[true, true, true, true, true, true, true, true, true, false, false, false, false, false, false] rfl rfl (by kernel_rfl) (fun _ _ _ h => h) (Or.inl ⟨by rfl, ?_⟩) hHeld ?_ ?_
  rotate_left
  next =>
   rintro w' ⟨s0, s1⟩
   go_simp
   with_reducible rfl
  rotate_left
  next =>
   simp only [Act.put, yay, yby, ycy, zW, zX]
   rfl
  refine zAH (i := 9) (N := some 29) #[true, true, true, true, true, true, true, true, true, true, false, false, false, false, false] rfl rfl (by kernel_rfl) (by decide) (fun K hK => ?_)
  refine Qz Try.func143 (by kernel_rfl) rfl #[.slice A2 ds.length c2] (by rfl) rfl rfl (by (try simp only [yiy, yjy, yky]); first | done | rfl) ?_
  refine (QL.calls A2 c2 ds (ds.length : Int) _ (Kd.zv (Kd.zu H2.out)).2.2 (Kd.zv H2.out).2.1 rfl).mono ?_
  rintro e w4 ⟨rfl, hd4⟩
  have hb4 := zZ.below hd4
  have hB4 : Below w.heap.size w w4 := zN (Jv HN.out.below) hb4
  have h14 := zP (zJ H1.out) hb4
  have h24 := Kd.Zk (Kd.zu H2.out) hb4
  have h34 := Kd.Zk (Kd.zu H3.out) hb4
  have H14 := zA.mk h14
  have H24 := zA.mk h24
  have H34 := zA.mk h34
  have HB4 := zA.mk hB4
  clear h14 h24 h34 hB4 hd4 hb4 hHeld
  refine ⟨_, rfl, ?_⟩
  refine hK.out _ _ ⟨(zK H14.out 3).trans rfl, (zK H14.out 2).trans rfl⟩ (fun hHeld => ?_)
  clear hK K
  refine QN (a' := ?_) ?_ ?_
  rotate_left
  next =>
   show Act.put _ (some 29) _ = _
   simp only [Act.put, yay, yby, ycy, zW, zX]
   rfl
  refine zAH (i := 10) (N := some 30) #[true, true, true, true, true, true, true, true, true, true, true, false, false, false, false] rfl rfl (by kernel_rfl) (by decide) (fun K hK => ?_)
  refine value_ (w1 := ?_) (v := ?_) (by rfl) rfl ?_ ?_
  rotate_left 2
  next =>
   go_simp
   constructor
   next =>
    rfl
   next =>
    rfl
  refine hK.out _ _ ⟨(zK (zH H14.out _) 3).trans rfl, (zK (zH H14.out _) 2).trans rfl⟩ (fun hHeld => ?_)
  clear hK K
  refine QN (a' := ?_) ?_ ?_
  rotate_left
  next =>
   show Act.put _ (some 30) _ = _
   simp only [Act.put, yay, yby, ycy, zW, zX]
   rfl
  refine zAH (i := 11) (N := some 31) #[true, true, true, true, true, true, true, true, true, true, true, true, false, false, false] rfl rfl (by kernel_rfl) (by decide) (fun K hK => ?_)
  refine Kd.zC9 (Kd.int .i64) (w0 := w) w.heap.size (by rfl) (.tmp 24) (.tmp 30) 44 2 (.int .i64 0) 8 rfl Try.underlying44 Jb rfl (by decide) (by omega) (.slice A3 fs.length c3) fs (ds.length : Int) [.int .i64 (ds.length : Int)] (fun _ => True) (fun _ => False) (by rfl) (by rfl) (by exact rfl) (fun _ hk => hk.elim) (fun _ _ => trivial) H34.out HB4.out HB4.out.size (by have := H4.out; omega) ?_
  intro v5 w5 ho5 hb5 hg5 _
  obtain ⟨A5, c5, hv5⟩ := Kd.ZP ho5
  generalize (fs ++ [(ds.length : Int)]).length = m5 at hv5
  subst hv5
  have h15 := ns_g H14.out H34.out (by decide) hg5
  have hHe5 : w5.cell? ⟨gs, 3, none⟩ = some (.slice A3 fs.length c3) ∧ w5.cell? ⟨gs, 2, none⟩ = some (.slice A2 ds.length c2) := ⟨(zK h15 3).trans rfl, (zK h15 2).trans rfl⟩
  refine hK.out _ _ hHe5 (fun hHeld => ?_)
  clear hK K
  refine QN (a' := ?_) ?_ ?_
  rotate_left
  next =>
   show Act.put _ (some 31) _ = _
   simp only [Act.put, yay, yby, ycy, zW, zX]
   rfl
  refine zo (i := 12) (N := some 32) (v := ?_) (a' := ?_) #[true, true, true, true, true, true, true, true, true, true, true, true, true, false, false] rfl rfl (by kernel_rfl) (fun _ _ _ h => h) (Or.inl ⟨by rfl, ?_⟩) ?_ ?_
  rotate_left
  next =>
   intro w'
   go_simp
   with_reducible rfl
  rotate_left
  next =>
   simp only [Act.put, yay, yby, ycy, zW, zX]
   rfl
  refine zo (i := 13) (N := some 33) (v := ?_) (a' := ?_) #[true, true, true, true, true, true, true, true, true, true, true, true, true, true, false] rfl rfl (by kernel_rfl) (fun _ _ _ h => h) (Or.inl ⟨by rfl, ?_⟩) ?_ ?_
  rotate_left
  next =>
   intro w'
   go_simp
   with_reducible rfl
  rotate_left
  next =>
   simp only [Act.put, yay, yby, ycy, zW, zX]
   rfl
  have hs5 := hHeld.1
  have hf5 := zL h15 3
  refine zFU (i := 14) (N := none) #[true, true, true, true, true, true, true, true, true, true, true, true, true, true, true] rfl rfl (by kernel_rfl) (by decide) (fun K hK => ?_)
  refine zGA (w1 := ?_) (by rfl) rfl ?_ ?_
  rotate_left
  next =>
   go_simp
   rfl
  refine hK.out _ _ ?_
  clear hK K
  refine Qy (by kernel_rfl) ?_
  have HN5 := zA.mk (zFe hge H14.out H24.out H34.out hb5 hg5 ho5 (by rw [List.length_append, H4.out] <;> rfl))
  generalize w5.setCell ⟨gs, 3, none⟩ (.slice A5 m5 c5) = w6 at *
  clear hs5 hf5 hHe5 h15 ho5 hb5 hg5 hHeld
  go_wp2
  go_loopg [35] c.toNat (fun gg v35 w' => ∃ k : Nat, (k : Int) ≤ c ∧ c.toNat - k ≤ gg ∧ v35 = .int .i64 k ∧ zA (zBR w w' gs (.slice A0 n0 c0) (.slice (some ad1) l1.length c1) (ds ++ Jd i k) (i + 1)))
  case atStart => exact ⟨0, hc0, by omega, rfl, by simpa [Jd] using HN5⟩
  case round =>
   obtain ⟨k, hk9, hkk, rfl, HK⟩ := hrel
   by_cases hlk : (k : Int) < c
   rotate_left
   next =>
    have hkc : k = c.toNat := by omega
    subst hkc
    go_wp2
    go_roundg (l1.length - (i + 1))
    case measure => omega
    case rel => exact ⟨i + 1, by omega, by omega, by (try simp only [zW]); (first | rfl | rw [show wrap64 ((i : Int) + 1) = ((i + 1 : Nat) : Int) by unfold wrap64; omega]), ⟨by rw [HTK.out]; exact HK.out⟩⟩
   obtain ⟨u2, u3_, fs7, h1, h2, h3, h4⟩ := HK.out.ex
   have HD1 := zA.mk h1
   have HD2 := zA.mk h2
   have HD3 := zA.mk h3
   have HD4 := zA.mk h4
   have HDL := zA.mk (show (ds ++ Jd i k).length ≤ 1000000 by rw [List.length_append, Jm]; have := HLN.out; omega)
   have hcd : wr.cell? ⟨gs, 2, none⟩ = some u2 := (zK h1 2).trans rfl
   obtain ⟨Au, cu, hu2⟩ := Kd.ZP h2
   generalize hml : (ds ++ Jd i k).length = m2 at hu2
   subst hu2
   clear h1 h2 h3 h4
   go_wp2_with (first | ((with_reducible refine Ze (b := .append) (xs := #[.tmp 42, .tmp 49]) rfl ?_); at_builtin; refine Kd.JO Zv (w0 := w) w.heap.size rfl (.tmp 42) (.tmp 49) 45 89 (.agg #[(.int .i64 0), (.int .i64 0), (.int .i64 0)]) 24 rfl Try.underlying45 zG2 rfl (by decide) (by omega) (.slice Au m2 cu) (ds ++ Jd i k) (nsD i k) [.int .i64 ((i : Int) / 7), .int .i64 ((i : Int) % 7), .int .i64 (k : Int)] (fun _ => True) (fun _ => False) rfl rfl ?aP (fun _ hk => hk.elim) ?aF ?aO ?aB ?aS ?aL ?_; (case aP => exact Jk _ _ _ (nsD i k)); (case aB => exact HK.out.below); (case aF => exact (fun _ _ => trivial)); (case aO => exact HD2.out); (case aS => exact HK.out.below.size); (case aL => have := HDL.out; omega); intro v9 w9 ho hb hg hat; obtain ⟨A9, c9, hv9⟩ := Kd.ZP ho; generalize ((ds ++ Jd i k) ++ [nsD i k]).length = m9 at hv9; subst hv9; have hk9' := ns_g HD1.out HD2.out (by decide) hg; have hc9 : w9.cell? ⟨gs, 2, none⟩ = some (.slice Au m2 cu) := (zK hk9' 2).trans rfl; have hf9 := zL hk9' 2; have HN9 := zA.mk (zGK hge HD1.out HD2.out HD3.out hb hg ho HD4.out); clear ho hb hg hat))
   go_roundg (c.toNat - (k + 1))
   case measure => omega
   case rel => exact ⟨k + 1, by omega, by omega, by have := HLN.out; (try simp only [zW]); rw [show wrap64 ((k : Int) + 1) = ((k + 1 : Nat) : Int) by unfold wrap64; omega], ⟨by rw [zBj, ← List.append_assoc]; exact HN9.out⟩⟩
def ZJ.l0 : Nat → List Int → Int → Int → Option (List Int)
  | 0, _, _, _ => none
  | k + 1, x3, x5, x6 => if x6 < x5 then (if x3.length < 17592186044416 then (ZJ.l0 k (x3 ++ [x6]) x5 (wrap64 (x6 + 1))) else (none)) else (some x3)
def ZJ.f (k : Nat) (a0 : Int) : Option (List Int) := ZJ.l0 k ([] : List Int) a0 0
set_option maxHeartbeats 8000000 in
set_option maxRecDepth 100000 in
theorem ZJ.calls (k : Nat) (a0 : Int) (r : List Int) (w : World) (h : ZJ.f k a0 = some r) :
    Calls Try.prog 81 #[.int .i64 a0] w fun e w' => ∃ v0_ : Value, e = .returned (v0_) ∧ Kd.R (Kd.int .i64) 2 w' w.heap.size (fun _ => True) v0_ r ∧ Below w.heap.size w w' := by
  have HB := zA.mk (yry w.heap.size w)
  have H : (ZJ.l0 k ([] : List Int) a0 0) = some r := h
  clear h
  have H' := zA.mk H
  clear H
  go_enter Try.func81, Try.ntmps81
  go_wp2
  go_loopg [3, 6] k (fun kq v3 v6 w' => ∃ (x3_1 : List Int) (x6_1 : Int), v6 = .int .i64 x6_1 ∧ zA (ZJ.l0 kq x3_1 a0 x6_1 = some r) ∧ zA (kq ≤ k) ∧ zA (Kd.R (Kd.int .i64) 2 w' w.heap.size (fun _ => True) v3 x3_1) ∧ zA (Below w.heap.size w w'))
  case atStart => exact ⟨(([] : List Int)), (0), (by first | rfl | (simp; done) | (simp [*]; done)), H', ⟨yqy _⟩, ⟨by first | exact Kd.zAy _ _ _ _ _ | exact Kd.zGI _ _ _ _ _ | exact Kd.zGJ _ _ _ _ _ | exact Kd.zG9 _ _ _ _ _ | exact Kd.zGE _ _ _ _ _⟩, ⟨by repeat (first | (with_reducible first | exact HB.out | apply zC | apply zB | apply zD) | exact HB.out)⟩⟩
  case round =>
    clear H'
    obtain ⟨x3_1, x6_1, rfl, HA, HK1, HO_3, HB⟩ := hrel
    cases gk with
    | zero => exact absurd HA.out (by simp [ZJ.l0])
    | succ k1 =>
      have H := HA.out
      clear HA
      simp only [ZJ.l0] at H
      by_cases c2 : x6_1 < a0
      · rw [if_pos c2] at H
        have c2b0 : decide (x6_1 < a0) = true := ygy c2
        clear c2
        by_cases c3 : x3_1.length < 17592186044416
        · rw [if_pos c3] at H
          have LMc3 := zA.mk c3
          clear c3
          obtain ⟨y101, hy101⟩ : ∃ y_ : List Int, y_ = (x3_1 ++ [x6_1]) := ⟨_, rfl⟩
          replace H : (ZJ.l0 k1 y101 a0 (wrap64 (x6_1 + 1))) = some r := by first | (rw [hy101]; with_reducible exact H) | (have H2_ := (yfy _ _).symm.trans H; rw [hy101]; with_reducible exact H2_) | (have H2_ := (yfy _ _).symm.trans H; with_reducible exact H2_) | with_reducible exact H | (rw [hy101]; exact H) | exact H
          have Ny101 := zA.mk hy101
          clear hy101
          have H' := zA.mk H
          clear H
          go_wp2_with (first | ((with_reducible refine Ze (b := .append) (xs := #[.tmp 9, .tmp 11]) rfl ?_); at_builtin; refine Kd.JO (Kd.int .i64) (w0 := w) w.heap.size rfl (.tmp 9) (.tmp 11) 44 2 (.int .i64 0) 8 rfl Try.underlying44 Jb rfl (by decide) (by omega) u3 x3_1 x6_1 [.int .i64 x6_1] (fun _ => True) (fun _ => False) rfl rfl ?aP (fun _ hk => hk.elim) ?aF ?aO ?aB ?aS ?aL ?_; (case aP => exact rfl); (case aB => exact (by repeat (first | (with_reducible first | exact HB.out | apply zC | apply zB | apply zD) | exact HB.out))); (case aF => exact (fun _ _ => trivial)); (case aO => exact (by (with_reducible repeat (first | apply Kd.zm | apply Kd.zk | apply Kd.zu)); exact HO_3.out)); (case aS => exact (zO (by repeat (first | (with_reducible first | exact HB.out | apply zC | apply zB | apply zD) | exact HB.out)))); (case aL => have := LMc3.out; omega); intro v102 w4 ho hb hg hat; rw [← Ny101.out] at ho; have n0_ := zA.mk (hb); have n1_ := zA.mk (ho); clear HB; clear HO_3; have HB := n0_; have HO103 := n1_; clear n0_ n1_; clear ho hb hg hat))
          go_roundg k1
          case measure => have := HK1.out; omega
          case rel => exact ⟨(y101), (wrap64 (x6_1 + 1)), (by first | rfl | (simp; done) | (simp [*]; done)), H', ⟨by have := HK1.out; omega⟩, ⟨by (with_reducible repeat (first | apply Kd.zm | apply Kd.zk | apply Kd.zu)); exact HO103.out⟩, ⟨by repeat (first | (with_reducible first | exact HB.out | apply zC | apply zB | apply zD) | exact HB.out)⟩⟩
        · rw [if_neg c3] at H
          exact absurd H (by simp)
      · rw [if_neg c2] at H
        have c2b0 : decide (x6_1 < a0) = false := yhy c2
        clear c2
        obtain rfl := yey H
        go_wp2
        go_ret
        exact ⟨_, by first | rfl | (simp [zQ, zR] <;> rfl) | (simp [*, zQ, zR] <;> rfl), by (with_reducible repeat (first | apply Kd.zm | apply Kd.zk | apply Kd.zu)); exact HO_3.out, by repeat (first | (with_reducible first | exact HB.out | apply zC | apply zB | apply zD) | exact HB.out)⟩
def zEH (p : Int → Bool) : Nat → List Int → Int
  | _, [] => -1
  | i, x :: xs => if p x = true then (i : Int) else zEH p (i + 1) xs
theorem zBk (p : Int → Bool) : ∀ (l : List Int) (i : Nat), (zEH p i l = -1 ∧ ∀ x ∈ l, p x = false) ∨ ∃ k, k < l.length ∧ zEH p i l = ((i + k : Nat) : Int) ∧ (∀ h : k < l.length, p l[k] = true) ∧ ∀ x ∈ l.take k, p x = false
  | [], _ => .inl ⟨rfl, fun x hx => by cases hx⟩
  | x :: xs, i => by
    cases hp : p x with
    | true => exact .inr ⟨0, by simp, by rw [zEH, hp, if_pos rfl]; rfl, fun _ => hp, fun y hy => by simp at hy⟩
    | false =>
      rcases zBk p xs (i + 1) with ⟨h1, h2⟩ | ⟨k, h1, h2, h3, h4⟩
      · refine .inl ⟨by rw [zEH, hp, if_neg (by simp)]; exact h1, fun y hy => ?_⟩
        rcases List.mem_cons.1 hy with rfl | hy
        · exact hp
        · exact h2 y hy
      · refine .inr ⟨k + 1, by simp; omega, by rw [zEH, hp, if_neg (by simp), h2]; congr 1; omega, fun h => h3 (by simpa using h), fun y hy => ?_⟩
        rw [List.take_succ_cons] at hy
        rcases List.mem_cons.1 hy with rfl | hy
        · exact hp
        · exact h4 y hy
theorem zCq {e B g n cap : Nat} {ok : Nat → Prop} {w0 : World} : ∀ (m i : Nat) (w : World) (dk : List Int), Kd.R (Kd.int .i64) e w B ok (.slice (some ⟨g, 0, none⟩) n cap) dk → B ≤ g → Below B w0 w →
    ∃ dk', Kd.R (Kd.int .i64) e (w.setCells g i (List.replicate m (.int .i64 0))) B ok (.slice (some ⟨g, 0, none⟩) n cap) dk' ∧ dk'.take i = dk.take i ∧ dk'.length = dk.length ∧ Below B w0 (w.setCells g i (List.replicate m (.int .i64 0)))
  | 0, i, w, dk, h, _, hb => ⟨dk, h, rfl, rfl, hb⟩
  | m + 1, i, w, dk, h, hg, hb => by
    have hn : n = dk.length := (Kd.zv h).1
    subst hn
    have h1 := (Kd.Jh h (i : Int) 0).1
    rw [yny] at h1
    have e1 : (.slice (some ⟨g, 0, none⟩) dk.length cap : Value) = .slice (some ⟨g, 0, none⟩) (dk.set i 0).length cap := by rw [List.length_set]
    rw [e1] at h1
    obtain ⟨dk', h2, h3, h4, h5⟩ := zCq m (i + 1) _ _ h1 hg (hb.setCell (p := ⟨g, i, none⟩) hg (.int .i64 0))
    rw [← e1] at h2
    refine ⟨dk', h2, ?_, by rw [h4, List.length_set], h5⟩
    have := congrArg (List.take i) h3
    rw [List.take_take, List.take_take, Nat.min_eq_left (by omega)] at this
    rw [this, List.take_set_of_le (yqy i)]
structure Ja (p : Int → Bool) (xs dk : List Int) (i j : Nat) : Prop where
  lt : i < j
  le : j ≤ xs.length
  len : dk.length = xs.length
  done : dk.take i = (xs.take j).filter fun x => !p x
  left : dk.drop j = xs.drop j
theorem Ja.start {p : Int → Bool} {xs : List Int} {k : Nat} (h1 : k < xs.length) (h3 : p xs[k] = true) (h4 : ∀ x ∈ xs.take k, p x = false) : Ja p xs xs k (k + 1) := by
  refine ⟨by omega, by omega, rfl, ?_, rfl⟩
  rw [List.take_succ_eq_append_getElem h1, List.filter_append]
  have e1 : (xs.take k).filter (fun x => !p x) = xs.take k := List.filter_eq_self.2 (fun x hx => by rw [h4 x hx]; rfl)
  rw [e1]; simp [h3]
theorem Ja.get {p : Int → Bool} {xs dk : List Int} {i j : Nat} (h : Ja p xs dk i j) (hj : j < xs.length) : rd dk (j : Int) = xs[j] := by
  have h1 : dk[j]? = xs[j]? := by
    have := congrArg (fun l => l[0]?) h.left
    simpa [List.getElem?_drop] using this
  have h2 : j < dk.length := by rw [h.len]; exact hj
  simp [rd, List.getD_eq_getElem?_getD, h1, hj]
theorem Ja.keep {p : Int → Bool} {xs dk : List Int} {i j : Nat} (h : Ja p xs dk i j) (hj : j < xs.length) (hp : p xs[j] = false) : Ja p xs (dk.set i xs[j]) (i + 1) (j + 1) := by
  have hi : i < dk.length := by have := h.lt; have := h.len; omega
  refine ⟨by have := h.lt; omega, by omega, by rw [List.length_set]; exact h.len, ?_, ?_⟩
  · rw [List.take_succ_eq_append_getElem (by rw [List.length_set]; exact hi), List.take_set_of_le (yqy i), h.done, List.take_succ_eq_append_getElem hj, List.filter_append]
    simp [hp]
  · rw [List.drop_set_of_lt (by have := h.lt; omega), ← List.drop_drop, h.left, List.drop_drop]
theorem Ja.skip {p : Int → Bool} {xs dk : List Int} {i j : Nat} (h : Ja p xs dk i j) (hj : j < xs.length) (hp : p xs[j] = true) : Ja p xs dk i (j + 1) := by
  refine ⟨by have := h.lt; omega, by omega, h.len, ?_, ?_⟩
  · rw [h.done, List.take_succ_eq_append_getElem hj, List.filter_append]
    simp [hp]
  · rw [← List.drop_drop, h.left, List.drop_drop]
set_option maxHeartbeats 8000000 in
set_option maxRecDepth 100000 in
theorem JT.calls (p : Int → Bool) (k1_ : Value) (A0 : Option Addr) (c0 : Nat) (l0 : List Int) (w : World) (hr0 : Kd.C (Kd.int .i64) w A0 l0.length l0)
    (hp : ∀ (W : World) (x : Int), x ∈ l0 → Below w.heap.size w W → Calls Try.prog 136 #[.int .i64 x, k1_] W fun e W' => e = .returned (.bool (p x)) ∧ Below W.heap.size W W') :
    Calls Try.prog 124 #[.slice A0 l0.length c0, .func (.func 136) #[] #[k1_]] w fun e w' => e = .returned (.int .i64 (zEH p 0 l0)) ∧ Below w.heap.size w w' := by
  have HR0 := zA.mk hr0
  have HP := zA.mk hp
  clear hr0 hp
  have hbig : l0.length ≤ 9223372036854775807 := HR0.out.2.1
  have HB := zA.mk (yry w.heap.size w)
  have H' : zA (zEH p 0 (l0.drop 0) = zEH p 0 l0) := ⟨by rw [List.drop_zero]⟩
  generalize zEH p 0 l0 = r at H' ⊢
  go_enter Try.func124, Try.ntmps124
  go_wp2
  go_loopg [5, 8] l0.length (fun gg v5 v8 w' => ∃ kk : Nat, kk ≤ l0.length ∧ l0.length - kk ≤ gg ∧ v8 = .int .i64 kk ∧ zA (zEH p kk (l0.drop kk) = r) ∧ zA (Below w.heap.size w w'))
  case atStart => exact ⟨0, Nat.zero_le _, by omega, rfl, H', HB⟩
  case round =>
    clear H' HB
    obtain ⟨kk, hkk, hg, rfl, HA, HB⟩ := hrel
    by_cases hlt : kk < l0.length
    · have hltz : (kk : Int) < (l0.length : Int) := by omega
      have H := HA.out
      clear HA
      rw [yoy hlt, zEH] at H
      obtain ⟨ad, e104, hx⟩ := Kd.ZI HR0.out (kk : Int) (by omega) (by omega)
      have ex : rd l0 (kk : Int) = l0[kk] := by simp [rd, hlt]
      rw [ex, yny] at hx
      replace hx := (HB.out.cell (ypy w _ hx)).trans hx
      have HC := zA.mk (HP.out wr l0[kk] (List.getElem_mem hlt) HB.out)
      generalize l0[kk] = y at hx H HC
      clear ex
      cases e104
      cases hq : p y with
      | true =>
        rw [hq] at HC H
        rw [if_pos rfl] at H
        have H2 := zA.mk H
        clear H
        go_wp2_with fail
        refine HC.out.mono ?_
        rintro e w' ⟨rfl, hd⟩
        have HB2 := zA.mk (zN HB.out hd)
        clear hd HB HC
        go_wp2
        go_ret
        exact ⟨by rw [← H2.out]; rfl, HB2.out⟩
      | false =>
        rw [hq] at HC H
        rw [if_neg (by simp)] at H
        have H2 := zA.mk H
        clear H
        go_wp2_with fail
        refine HC.out.mono ?_
        rintro e w' ⟨rfl, hd⟩
        have HB2 := zA.mk (zN HB.out hd)
        clear hd HB HC
        go_wp2
        go_roundg (l0.length - (kk + 1))
        case measure => omega
        case rel => exact ⟨kk + 1, by omega, by omega, by go_num, H2, HB2⟩
    · have hltz : ¬ (kk : Int) < (l0.length : Int) := by omega
      have e : kk = l0.length := by omega
      subst e
      have H2 := zA.mk (show (-1 : Int) = r by have := HA.out; rwa [List.drop_length, zEH] at this)
      clear HA
      go_wp2
      go_ret
      exact ⟨by rw [← H2.out]; rfl, HB.out⟩
set_option maxHeartbeats 8000000 in
set_option maxRecDepth 100000 in
theorem JJ.calls (p : Int → Bool) (k1_ : Value) (g cap B : Nat) (ok : Nat → Prop) (xs : List Int) (w : World) (hR : Kd.R (Kd.int .i64) 2 w B ok (.slice (some ⟨g, 0, none⟩) xs.length cap) xs)
    (hp : ∀ (W : World) (x : Int), x ∈ xs → Below B w W → Calls Try.prog 136 #[.int .i64 x, k1_] W fun e W' => e = .returned (.bool (p x)) ∧ Below W.heap.size W W') :
    Calls Try.prog 80 #[.slice (some ⟨g, 0, none⟩) xs.length cap, .func (.func 136) #[] #[k1_]] w fun e w' => ∃ v', e = .returned v' ∧ Kd.R (Kd.int .i64) 2 w' B ok v' (xs.filter fun x => !p x) ∧ Below B w w' := by
  have hgB : B ≤ g := Kd.JI hR g (by simp [Value.ownBlock])
  have hgW : g < w.heap.size := Kd.zBM hR g (by simp [Value.ownBlock])
  have hcap : xs.length ≤ cap := (Kd.zv hR).2.1
  have hbig : xs.length ≤ 9223372036854775807 := Kd.C_max (Kd.zv hR).2.2
  have HIX := zA.mk (JT.calls p k1_ (some ⟨g, 0, none⟩) cap xs w (Kd.zv hR).2.2 (fun W x hx hb => hp W x hx (hb.mono (by omega))))
  have HR := zA.mk hR
  have HP := zA.mk hp
  have HG := zA.mk (And.intro hgB hgW)
  clear hR hp hgB hgW
  rcases zBk p xs 0 with ⟨h1, h2⟩ | ⟨k, h1, h2, h3, h4⟩
  · rw [h1] at HIX
    have e1 : xs.filter (fun x => !p x) = xs := List.filter_eq_self.2 (fun x hx => by rw [h2 x hx]; rfl)
    rw [e1]
    clear h1 h2 e1 HP
    go_enter Try.func80, Try.ntmps80
    go_wp2_with fail
    refine HIX.out.mono ?_
    rintro e w' ⟨rfl, hd⟩
    have HB := zA.mk (hd.mono (show B ≤ w.heap.size by have := HG.out; omega))
    have HR2 := zA.mk (Kd.Zk HR.out hd)
    clear hd HIX HR
    go_wp2
    go_ret
    exact ⟨_, rfl, HR2.out, HB.out⟩
  · rw [h2, Nat.zero_add] at HIX
    have HK0 := zA.mk (Ja.start h1 (h3 h1) h4)
    have hk9 : k < xs.length := h1
    have hne : ((k : Int) == -1) = false := beq_eq_false_iff_ne.2 (by omega)
    clear h2 h3 h4 h1
    go_enter Try.func80, Try.ntmps80
    go_wp2_with fail
    refine HIX.out.mono ?_
    rintro e w1 ⟨rfl, hd⟩
    have HB := zA.mk (hd.mono (show B ≤ w.heap.size by have := HG.out; omega))
    have HR2 := zA.mk (Kd.Zk HR.out hd)
    clear hd HIX HR
    go_wp2
    clear hne
    go_loopg [5, 6, 7] xs.length (fun gg s5 s6 _ wr => ∃ (i j : Nat) (dk : List Int), s5 = .int .i64 i ∧ s6 = .int .i64 j ∧ xs.length - j ≤ gg ∧ zA (Ja p xs dk i j) ∧ zA (Kd.R (Kd.int .i64) 2 wr B ok (.slice (some ⟨g, 0, none⟩) xs.length cap) dk) ∧ zA (Below B w wr))
    case atStart => exact ⟨k, k + 1, xs, rfl, by go_num, by omega, HK0, HR2, HB⟩
    case round =>
      clear HK0 HR2 HB hk9
      obtain ⟨i, j, dk, rfl, rfl, hgg, HK, HR, HB⟩ := hrel
      have hij := HK.out.lt
      have hjl := HK.out.le
      have hdl := HK.out.len
      by_cases hlt : j < xs.length
      · have hltz : (j : Int) < (xs.length : Int) := by omega
        have hr2 := HR.out
        rw [← hdl] at hr2
        obtain ⟨cj, _⟩ := Kd.Zw 0 hr2 (j : Int) (by omega) (by omega)
        obtain ⟨ci, fi⟩ := Kd.Zw 0 hr2 (i : Int) (by omega) (by omega)
        replace cj : wr.cell? ⟨g, j, none⟩ = some (.int .i64 (rd dk (j : Int))) := cj
        replace ci : wr.cell? ⟨g, i, none⟩ = some (.int .i64 (rd dk (i : Int))) := ci
        replace fi : wr.frozen? ⟨g, i, none⟩ = false := fi
        rw [HK.out.get hlt] at cj
        have HC := zA.mk (HP.out wr xs[j] (List.getElem_mem hlt) HB.out)
        generalize hu : xs[j] = u at cj HC
        have HU := zA.mk hu
        generalize rd dk (i : Int) = old at ci
        clear hu hr2
        cases hq : p u with
        | false =>
          rw [hq] at HC
          go_wp2_with fail
          refine HC.out.mono ?_
          rintro e w2 ⟨rfl, hd⟩
          have HB2 := zA.mk (HB.out.trans (hd.mono (show B ≤ wr.heap.size by have := HB.out.size; have := HG.out; omega)))
          have hr3 := Kd.Zk HR.out hd
          rw [← hdl] at hr3
          have HR3 := zA.mk (Kd.Jh hr3 (i : Int) u).1
          rw [yny] at HR3
          have ci2 := (hd.cell (ypy wr _ ci)).trans ci
          have fi2 := (hd.frozen (ypy wr _ ci)).trans fi
          clear hd HB HC cj ci fi hr3 HR
          go_wp2
          go_roundg (xs.length - (j + 1))
          case measure => omega
          case rel => exact ⟨i + 1, j + 1, dk.set i u, by go_num, by go_num, by omega, ⟨by have := HK.out.keep hlt (by rw [HU.out]; exact hq); rwa [HU.out] at this⟩, ⟨by rw [← hdl]; exact HR3.out⟩, ⟨HB2.out.setCell (p := ⟨g, i, none⟩) HG.out.1 _⟩⟩
        | true =>
          rw [hq] at HC
          go_wp2_with fail
          refine HC.out.mono ?_
          rintro e w2 ⟨rfl, hd⟩
          have HB2 := zA.mk (HB.out.trans (hd.mono (show B ≤ wr.heap.size by have := HB.out.size; have := HG.out; omega)))
          have HR3 := zA.mk (Kd.Zk HR.out hd)
          clear hd HB HC cj ci fi HR
          go_wp2
          go_roundg (xs.length - (j + 1))
          case measure => omega
          case rel => exact ⟨i, j + 1, dk, rfl, by go_num, by omega, ⟨HK.out.skip hlt (by rw [HU.out]; exact hq)⟩, HR3, HB2⟩
      · obtain rfl : j = xs.length := by omega
        have hltz : ¬ (xs.length : Int) < (xs.length : Int) := by omega
        have hr2 := HR.out
        rw [← hdl] at hr2
        have hcl : ∀ ty, (Builtin.clear_ #[44] ty #[.slice (some ⟨g, i, none⟩) (xs.length - i) (cap - i)]).run Try.prog wr = .ok (.tuple #[]) (wr.setCells g i (List.replicate (xs.length - i) (.int .i64 0))) :=
          fun ty => Lib.run_clear_slice wr _ _ ty _ Try.underlying44 (fun w => Try.zeroValue2 w) rfl rfl g i _ _ (by omega) (fun t ht => by have q : wr.cell? ⟨g, i + t, none⟩ = some (.int .i64 (rd dk ((i + t : Nat) : Int))) := (Kd.Zw 0 hr2 ((i + t : Nat) : Int) (by omega) (by omega)).1; rw [q]; rfl) (fun t ht => (Kd.Zw 0 hr2 ((i + t : Nat) : Int) (by omega) (by omega)).2)
        obtain ⟨dk', q1, q2, q3, q4⟩ := zCq (xs.length - i) i wr dk HR.out HG.out.1 HB.out
        have q5 := Kd.R_take (m := i) q1 (by omega)
        have q6 : dk'.take i = xs.filter fun x => !p x := by rw [q2, HK.out.done, List.take_length]
        rw [q6] at q5
        have Q5 := zA.mk q5
        have Q4 := zA.mk q4
        clear q1 q2 q3 q4 q5 q6 hr2 HR HB HP HK hdl
        go_wp2
        go_ret
        exact ⟨_, rfl, Q5.out, Q4.out⟩
def qI.l0 : Nat → List Int → Int → Int → Int → Option (Int)
  | 0, _, _, _, _ => none
  | k + 1, x0, x1, x7, x8 => if x8 < x7 then (if 0 ≤ x8 then (if x8 < (x0.length : Int) then (if x1 = (rd x0 x8) then (some x8) else (qI.l0 k x0 x1 x7 (wrap64 (x8 + 1)))) else (none)) else (none)) else (some (-1))
def qI.f (k : Nat) (l0 : List Int) (a1 : Int) : Option (Int) := qI.l0 k l0 a1 (l0.length : Int) 0
set_option maxHeartbeats 8000000 in
set_option maxRecDepth 100000 in
theorem qI.calls (k : Nat) (A0 : Option Addr) (c0 : Nat) (l0 : List Int) (a1 : Int) (r : Int) (w : World) (hr0 : Kd.C (Kd.int .i64) w A0 l0.length l0) (hc0 : l0.length ≤ c0) (h : qI.f k l0 a1 = some r) :
    Calls Try.prog 42 #[.slice A0 l0.length c0, .int .i64 a1] w fun e w' => e = .returned (.int .i64 r) ∧ zZ w w' := by
  have HR0 := zA.mk hr0
  have HC0 := zA.mk hc0
  clear hr0 hc0
  have H : (qI.l0 k l0 a1 (l0.length : Int) 0) = some r := h
  clear h
  have H' := zA.mk H
  clear H
  go_enter Try.func42, Try.ntmps42
  go_wp2
  go_loopg [8] k (fun kq v8 w' => ∃ (x8_1 : Int), v8 = .int .i64 x8_1 ∧ zA (qI.l0 kq l0 a1 (l0.length : Int) x8_1 = some r) ∧ zA (kq ≤ k) ∧ zZ w w')
  case atStart => exact ⟨(0), (by first | rfl | (simp; done) | (simp [*]; done)), H', ⟨yqy _⟩, by repeat (first | exact zZ.refl _ | apply zZ.step)⟩
  case round =>
    clear H'
    try clear p2
    obtain ⟨x8_1, rfl, HA, HK1, ⟨m1, rfl⟩⟩ := hrel
    cases gk with
    | zero => exact absurd HA.out (by simp [qI.l0])
    | succ k1 =>
      have H := HA.out
      clear HA
      simp only [qI.l0] at H
      by_cases c3 : x8_1 < (l0.length : Int)
      · rw [if_pos c3] at H
        have c3b0 : decide (x8_1 < (l0.length : Int)) = true := ygy c3
        clear c3
        by_cases c4 : 0 ≤ x8_1
        · rw [if_pos c4] at H
          have c4b0 : decide (0 ≤ x8_1) = true := ygy c4
          clear c4
          by_cases c5 : x8_1 < (l0.length : Int)
          · rw [if_pos c5] at H
            have c5b0 : decide (x8_1 < (l0.length : Int)) = true := ygy c5
            clear c5
            by_cases c6 : a1 = (rd l0 x8_1)
            · rw [if_pos c6] at H
              have c6b0 : (a1 == (rd l0 x8_1)) = true := beq_iff_eq.mpr c6
              have c6b1 : (a1 != (rd l0 x8_1)) = false := bne_eq_false_iff_eq.mpr c6
              clear c6
              obtain rfl := yey H
              have p101 : 0 ≤ (x8_1 : Int) := of_decide_eq_true (by first | (with_reducible assumption) | assumption)
              have q101 : x8_1 < (l0.length : Int) := of_decide_eq_true (by first | (with_reducible assumption) | assumption)
              obtain ⟨ad101, e101, hx101_0⟩ := Kd.ZI HR0.out x8_1 p101 q101
              cases e101
              replace p101 := eq_true p101
              replace q101 := eq_true q101
              go_wp2
              go_ret
              exact ⟨by first | rfl | (simp; done) | (simp [*]; done), by repeat (first | exact zZ.refl _ | apply zZ.step)⟩
            · rw [if_neg c6] at H
              have c6b0 : (a1 == (rd l0 x8_1)) = false := beq_eq_false_iff_ne.mpr c6
              have c6b1 : (a1 != (rd l0 x8_1)) = true := bne_iff_ne.mpr c6
              have H' := zA.mk H
              clear H
              have p101 : 0 ≤ (x8_1 : Int) := of_decide_eq_true (by first | (with_reducible assumption) | assumption)
              have q101 : x8_1 < (l0.length : Int) := of_decide_eq_true (by first | (with_reducible assumption) | assumption)
              obtain ⟨ad101, e101, hx101_0⟩ := Kd.ZI HR0.out x8_1 p101 q101
              cases e101
              replace p101 := eq_true p101
              replace q101 := eq_true q101
              go_wp2
              go_roundg k1
              case measure => have := HK1.out; omega
              case rel => exact ⟨(wrap64 (x8_1 + 1)), (by first | rfl | (simp; done) | (simp [*]; done)), H', ⟨by have := HK1.out; omega⟩, by repeat (first | exact zZ.refl _ | apply zZ.step)⟩
          · rw [if_neg c5] at H
            exact absurd H (by simp)
        · rw [if_neg c4] at H
          exact absurd H (by simp)
      · rw [if_neg c3] at H
        have c3b0 : decide (x8_1 < (l0.length : Int)) = false := yhy c3
        clear c3
        obtain rfl := yey H
        go_wp2
        go_ret
        exact ⟨by first | rfl | (simp; done) | (simp [*]; done), by repeat (first | exact zZ.refl _ | apply zZ.step)⟩
def ZW.f (k : Nat) (l0 : List Int) (a1 : Int) : Option (Bool) := (qI.f k l0 a1).bind fun t101 => (some (decide (t101 ≥ 0)))
set_option maxHeartbeats 8000000 in
set_option maxRecDepth 100000 in
theorem ZW.calls (k : Nat) (A0 : Option Addr) (c0 : Nat) (l0 : List Int) (a1 : Int) (r : Bool) (w : World) (hr0 : Kd.C (Kd.int .i64) w A0 l0.length l0) (hc0 : l0.length ≤ c0) (h : ZW.f k l0 a1 = some r) :
    Calls Try.prog 137 #[.slice A0 l0.length c0, .int .i64 a1] w fun e w' => e = .returned (.bool r) ∧ zZ w w' := by
  have HR0 := zA.mk hr0
  have HC0 := zA.mk hc0
  clear hr0 hc0
  have H : ((qI.f k l0 a1).bind fun t101 => (some (decide (t101 ≥ 0)))) = some r := h
  clear h
  replace H := ydy.mp H
  obtain ⟨t101, A30, H⟩ := H
  replace H : (some (decide (t101 ≥ 0))) = some r := H
  have A3 := zA.mk A30
  clear A30
  obtain rfl := yey H
  go_enter Try.func137, Try.ntmps137
  go_wp2_with (first | ((with_reducible refine zS (f := 42) rfl ?_); refine qB (some 7) rfl rfl Try.func42 (by kernel_rfl) rfl #[.slice A0 l0.length c0, .int .i64 a1] rfl (by (try simp only [yiy, yjy, yky]); first | done | rfl | (simp only [yly, ymy]; rfl)) ?_; (with_reducible refine (qI.calls k _ _ l0 a1 t101 _ ?side1 ?side2 A3.out).mono ?_); (case side1 => repeat (first | exact HR0.out | (with_reducible refine Kd.zf ?_ _) | (with_reducible refine Kd.zg ?_ _) | (with_reducible refine Kd.zz ?_))); (case side2 => exact HC0.out); rintro e w' ⟨rfl, ⟨nd, rfl⟩⟩; refine ⟨_, rfl, ?_⟩))
  go_ret
  exact ⟨by first | rfl | (simp; done) | (simp [*]; done), by repeat (first | exact zZ.refl _ | apply zZ.step)⟩
def zEI (l0 : List Int) : List Int := [0, 1, 2, 3].filter fun x => !l0.contains x
def JU.f (l0 : List Int) : Option (List Int) := some (zEI l0)
theorem zDl (l : List Int) (x : Int) (hl : l.length ≤ 9223372036854775807) : ∀ (d n : Nat), n + d = l.length → ∃ r, qI.l0 (d + 1) l x (l.length : Int) (n : Int) = some r ∧ decide (r ≥ 0) = (l.drop n).contains x
  | 0, n, h => ⟨-1, by rw [qI.l0, if_neg (by omega)], by rw [List.drop_eq_nil_of_le (by omega)]; rfl⟩
  | d + 1, n, h => by
    have hlt : n < l.length := by omega
    obtain ⟨r, h1, h2⟩ := zDl l x hl d (n + 1) (by omega)
    have ex : rd l (n : Int) = l[n] := by simp [rd, hlt]
    rw [qI.l0, if_pos (by omega), if_pos (by omega), if_pos (by omega), ex, yoy hlt, List.contains_cons]
    by_cases c : x = l[n]
    · exact ⟨n, by rw [if_pos c], by rw [← c]; simp⟩
    · refine ⟨r, ?_, ?_⟩
      · rw [if_neg c, ← h1]; congr 1; unfold wrap64; omega
      · rw [h2]
        have : (x == l[n]) = false := by simpa using c
        rw [this, Bool.false_or]
theorem contains_eq (l : List Int) (x : Int) (hl : l.length ≤ 9223372036854775807) : ZW.f (l.length + 1) l x = some (l.contains x) := by
  obtain ⟨r, h1, h2⟩ := zDl l x hl l.length 0 (by omega)
  have h3 : qI.f (l.length + 1) l x = some r := h1
  unfold ZW.f
  rw [h3, yfy, h2, List.drop_zero]
set_option maxHeartbeats 8000000 in
set_option maxRecDepth 100000 in
theorem zCL.calls (A0 : Option Addr) (c0 gb : Nat) (l0 : List Int) (x : Int) (w : World) (hb : w.heap[gb]? = some (.cells #[.slice A0 l0.length c0] 44 (0, 0))) (hC : Kd.C (Kd.int .i64) w A0 l0.length l0) (hc : l0.length ≤ c0) :
    Calls Try.prog 136 #[.int .i64 x, .pointer (some ⟨gb, 0, none⟩)] w fun e w' => e = .returned (.bool (l0.contains x)) ∧ Below w.heap.size w w' := by
  have hx : w.cell? ⟨gb, 0, none⟩ = some (.slice A0 l0.length c0) := (zK hb 0).trans rfl
  have HCC := zA.mk (contains_eq l0 x hC.2.1)
  have HC := zA.mk hC
  have HL := zA.mk hc
  clear hb hC hc
  generalize l0.contains x = b at HCC ⊢
  go_enter Try.func136, Try.ntmps136
  go_wp2_with fail
  refine (ZW.calls _ A0 c0 l0 x b _ HC.out HL.out HCC.out).mono ?_
  rintro e w' ⟨rfl, hd⟩
  have HB := zA.mk (zZ.below hd)
  clear hd
  go_wp2
  go_ret
  exact ⟨rfl, HB.out⟩
theorem zCM : ZJ.f 10 4 = some [0, 1, 2, 3] := by decide +kernel
set_option maxHeartbeats 8000000 in
set_option maxRecDepth 100000 in
theorem JU.calls (A0 : Option Addr) (c0 : Nat) (l0 : List Int) (r : List Int) (w : World) (hr0 : Kd.C (Kd.int .i64) w A0 l0.length l0) (hc0 : l0.length ≤ c0) (h : JU.f l0 = some r) :
    Calls Try.prog 106 #[.slice A0 l0.length c0] w fun e w' => ∃ v0_ : Value, e = .returned (v0_) ∧ Kd.R (Kd.int .i64) 2 w' w.heap.size (fun _ => True) v0_ r ∧ Below w.heap.size w w' := by
  have hr : zEI l0 = r := yey h
  subst hr
  clear h
  have HR := zA.mk hr0
  have HC := zA.mk hc0
  clear hr0 hc0
  go_enter Try.func106, Try.ntmps106
  have BB := zA.mk (QF (W := w) rfl (.cells #[.slice A0 l0.length c0] 44))
  have HB := zA.mk (zC (yry w.heap.size w) (.cells #[.slice A0 l0.length c0] 44))
  have HS := zA.mk (show (w.alloc (.cells #[.slice A0 l0.length c0] 44)).heap.size = w.heap.size + 1 by simp)
  go_wp2_with fail
  refine (ZJ.calls 10 4 [0, 1, 2, 3] _ zCM).mono ?_
  rintro e w1 ⟨v1, rfl, ho, hb⟩
  obtain ⟨g, cap, rfl, hg1, hg2, _⟩ := Kd.zA3 ho (by decide)
  have BB1 := zA.mk (zP BB.out hb)
  have HB1 := zA.mk (zN HB.out hb)
  rw [HS.out] at ho hg1
  have HO := zA.mk ho
  have HG := zA.mk hg1
  clear ho hb hg1 hg2 BB HB HS
  go_wp2_with fail
  refine (JJ.calls (fun x => l0.contains x) (.pointer (some ⟨w.heap.size, 0, none⟩)) g cap (w.heap.size + 1) (fun _ => True) [0, 1, 2, 3] _ HO.out (fun W x _ hb => zCL.calls A0 c0 w.heap.size l0 x W ((hb.block w.heap.size (by omega)).trans BB1.out) (Kd.ze HR.out (HB1.out.trans (hb.mono (by omega)))) HC.out)).mono ?_
  rintro e w2 ⟨v2, rfl, ho, hb⟩
  have HO2 := zA.mk (Kd.Zb ho (show w.heap.size ≤ w.heap.size + 1 by omega))
  have HB2 := zA.mk (HB1.out.trans (hb.mono (show w.heap.size ≤ w.heap.size + 1 by omega)))
  clear ho hb HO HB1 BB1
  go_wp2
  go_ret
  exact ⟨_, rfl, HO2.out, HB2.out⟩
def zDL : Go.Shelf.Ren := ⟨fun | 45 => 85 | n => n, fun | 22 => 44 | 23 => 2 | 3 => 3 | 4 => 4 | 0 => 0 | n => n, fun | n => n⟩
theorem zGL : Go.Proofs.SlLaysN.n45 Try.prog zDL := {
  mixed := by kernel_rfl
  f45 := ⟨Try.f85.name, by decide, Try.func85.trans (congrArg some (by kernel_rfl))⟩
  t0 := Try.underlying0
  a0 := Try.isAgg0
  z0 := Try.sizeOf0
  v0 := Try.zeroValue0
  t3 := Try.underlying3
  a3 := Try.isAgg3
  z3 := Try.sizeOf3
  v3 := Try.zeroValue3
  t4 := Try.underlying4
  a4 := Try.isAgg4
  z4 := Try.sizeOf4
  v4 := Try.zeroValue4
  t22 := Try.underlying44
  a22 := Try.isAgg44
  z22 := Try.sizeOf44
  v22 := Try.zeroValue44
  t23 := Try.underlying2
  a23 := Try.isAgg2
  z23 := Try.sizeOf2
  v23 := Try.zeroValue2
  i23 := by kernel_rfl }
theorem erase_eq (xs : List Int) (i : Nat) : xs.take i ++ xs.drop (i + 1) = xs.eraseIdx i := (List.eraseIdx_eq_take_drop_succ xs i).symm
theorem Zp.zDm (g cap i : Nat) (xs : List Int) (base : Nat) (ok : Nat → Prop) (w : World) (ho : Kd.R (Kd.int .i64) 2 w base ok (.slice (some ⟨g, 0, none⟩) xs.length cap) xs) (hi : i < xs.length) :
    Calls Try.prog 85 #[.slice (some ⟨g, 0, none⟩) xs.length cap, .int .i64 i, .int .i64 (i + 1)] w fun e w' => e = .returned (.slice (some ⟨g, 0, none⟩) (xs.length - 1) cap) ∧
      Kd.R (Kd.int .i64) 2 w' base ok (.slice (some ⟨g, 0, none⟩) (xs.length - 1) cap) (xs.eraseIdx i) ∧ w.grownBy w' (some g) := by
  have hown := Kd.zCA ho
  rcases hown.2 with ⟨hv, _⟩ | ⟨g', cap', cur, hv, hbase, hh, hle, hmax, hcs, htake⟩
  · cases hv
  injection hv with hv1 _ hv3
  injection hv1 with hv1
  injection hv1 with hv1 _ _
  subst hv1 hv3
  rw [Nat.mul_one] at hcs htake
  have hcell : ∀ j, j < xs.length → w.cell? ⟨g, 0 + j, none⟩ = some (.int .i64 xs[j]!) := by
    intro j hj
    rw [Nat.zero_add]
    have h1 : cur.toList[j]? = some (.int .i64 xs[j]!) := by
      have h2 : (cur.toList.take xs.length)[j]? = some (.int .i64 xs[j]!) := by
        rw [htake, zAi, List.getElem?_map, List.getElem?_eq_getElem hj]
        simp [getElem!_pos, hj]
      rw [List.getElem?_take, if_pos hj] at h2
      exact h2
    rw [zK hh j, ← Array.getElem?_toList, h1]
  have hH : Go.Sort.Holds (Value.int .i64) w g 0 xs.toArray := by
    intro j hj
    have hj' : j < xs.length := by simpa using hj
    refine ⟨?_, by rw [Nat.zero_add]; exact zL hh j⟩
    rw [hcell j hj']
    simp [getElem!_pos, hj']
  have hc := AnyG.slices_Delete_int zGL g 0 cap i (i + 1) xs w hH hle (by unfold maxLen at hmax; omega) (by omega) (by omega)
  have hc2 : Calls Try.prog 85 #[.slice (some ⟨g, 0, none⟩) xs.length cap, .int .i64 (i : Nat), .int .i64 ((i + 1 : Nat) : Int)] w fun e w' => e = .returned (.slice (some ⟨g, 0, none⟩) (xs.length - (i + 1 - i)) cap) ∧ ∃ q, w' = Go.Sort.putRow (Value.int .i64) (Go.Sort.ahead w q) g 0 (xs.take i ++ xs.drop (i + 1) ++ List.replicate (i + 1 - i) 0).toArray := hc
  refine hc2.mono ?_
  rintro e w' ⟨rfl, q, rfl⟩
  have hlen : (xs.eraseIdx i).length = xs.length - 1 := by rw [List.length_eraseIdx]; simp [hi]
  have hd : xs.take i ++ xs.drop (i + 1) ++ List.replicate (i + 1 - i) 0 = xs.eraseIdx i ++ [0] := by
    rw [erase_eq, show i + 1 - i = 1 by omega]; rfl
  rw [hd, show i + 1 - i = 1 by omega]
  have hheap : (Go.Sort.putRow (Value.int .i64) (Go.Sort.ahead w q) g 0 (xs.eraseIdx i ++ [0]).toArray).heap[g]? = some (.cells (Go.Sort.putCells (Value.int .i64) 0 (xs.eraseIdx i ++ [0]).toArray cur) 2 (0, 0)) := by
    show (w.heap.modify g _)[g]? = _
    rw [Array.getElem?_modify, if_pos rfl, hh]
    rfl
  have hfar : ∀ k, k ≠ g → (Go.Sort.putRow (Value.int .i64) (Go.Sort.ahead w q) g 0 (xs.eraseIdx i ++ [0]).toArray).heap[k]? = w.heap[k]? := by
    intro k hk
    show (w.heap.modify g _)[k]? = _
    rw [Array.getElem?_modify, if_neg (Ne.symm hk)]
  refine ⟨rfl, ?_, ⟨rfl, rfl, rfl, ?_, fun k _ hk => hfar k (fun e => hk (by rw [e]))⟩⟩
  · have e1 : xs.length - 1 = (xs.eraseIdx i).length := hlen.symm
    rw [e1]
    refine Kd.zAt ⟨by simp [zAi], .inr ⟨g, cap, _, rfl, hbase, hheap, by omega, hmax, by simp [Go.Sort.putCells, hcs], ?_⟩⟩ (fun k hk => ho.1 k hk)
    rw [Nat.mul_one]
    apply List.ext_getElem?
    intro j
    rw [List.getElem?_take]
    by_cases hj : j < (xs.eraseIdx i).length
    · rw [if_pos hj, Array.getElem?_toList, Go.Sort.putCells, Array.getElem?_mapIdx, Array.getElem?_eq_getElem (by omega), Option.map_some, if_pos ⟨by omega, by simp; omega⟩, Nat.sub_zero, zAi, List.getElem?_map, List.getElem?_eq_getElem hj, Option.map_some]
      congr 2
      rw [List.getElem!_toArray, getElem!_pos _ j (by simp; omega), List.getElem_append_left hj]
    · rw [if_neg hj, List.getElem?_eq_none (by simp [zAi]; omega)]
  · show w.heap.size ≤ (w.heap.modify g _).size
    rw [Array.size_modify]
    omega
def zEx : Nat → Int
 | 0 => 6
 | 1 => 2
 | _ => 1
def ZM (p : Int) : Nat → Int
 | 0 => p
 | i + 1 => ZM p i % zEx i
def Zq (p : Int) (i : Nat) : Int := ZM p i / zEx i
def zr (p : Int) : Nat → List Int
 | 0 => [0, 1, 2, 3]
 | i + 1 => (zr p i).eraseIdx (Zq p i).toNat
def zw (p : Int) (i : Nat) : Int := (zr p i).getD (Zq p i).toNat 0
def ZN (p : Int) : List Int := [zw p 0, zw p 1, zw p 2, zw p 3]
theorem zDn (p : Int) (h0 : 0 ≤ p) (h1 : p ≤ 23) : (0 ≤ ZM p 0 ∧ ZM p 0 ≤ 23) ∧ (0 ≤ ZM p 1 ∧ ZM p 1 ≤ 5) ∧ (0 ≤ ZM p 2 ∧ ZM p 2 ≤ 1) ∧ (0 ≤ ZM p 3 ∧ ZM p 3 ≤ 0) := by
 simp only [ZM, zEx]; omega
theorem zDo (p : Int) (h0 : 0 ≤ p) (h1 : p ≤ 23) : (0 ≤ Zq p 0 ∧ Zq p 0 < 4) ∧ (0 ≤ Zq p 1 ∧ Zq p 1 < 3) ∧ (0 ≤ Zq p 2 ∧ Zq p 2 < 2) ∧ (0 ≤ Zq p 3 ∧ Zq p 3 < 1) := by
 have := zDn p h0 h1
 simp only [Zq, zEx]; omega
theorem zCr (p : Int) (h0 : 0 ≤ p) (h1 : p ≤ 23) : (zr p 0).length = 4 ∧ (zr p 1).length = 3 ∧ (zr p 2).length = 2 ∧ (zr p 3).length = 1 ∧ (zr p 4).length = 0 := by
 obtain ⟨a, b, c, d⟩ := zDo p h0 h1
 have e0 : (zr p 0).length = 4 := rfl
 have e1 : (zr p 1).length = 3 := by rw [zr, List.length_eraseIdx, e0, if_pos (by omega)]
 have e2 : (zr p 2).length = 2 := by rw [zr, List.length_eraseIdx, e1, if_pos (by omega)]
 have e3 : (zr p 3).length = 1 := by rw [zr, List.length_eraseIdx, e2, if_pos (by omega)]
 have e4 : (zr p 4).length = 0 := by rw [zr, List.length_eraseIdx, e3, if_pos (by omega)]
 exact ⟨e0, e1, e2, e3, e4⟩
theorem zDp {W : World} {n : Nat} (h : W.heap.size = n) (o : Obj) : (W.alloc o).heap[n]? = some o := h ▸ zDF W o
def Zs (p : Int) (i j : Nat) : Int := if j < i then zw p j else 0
set_option maxHeartbeats 8000000 in
set_option maxRecDepth 100000 in
theorem zB9.calls (p : Int) (w : World) (h0 : 0 ≤ p) (h1 : p ≤ 23) :
 Calls Try.prog 79 #[.int .i64 p] w fun e w' => e = .returned (.agg #[.int .i64 (zw p 0), .int .i64 (zw p 1), .int .i64 (zw p 2), .int .i64 (zw p 3)]) ∧ Below w.heap.size w w' := by
 have HP := zA.mk (zDn p h0 h1)
 have HK := zA.mk (zDo p h0 h1)
 have HL := zA.mk (zCr p h0 h1)
 clear h0 h1
 go_enter Try.func79, Try.ntmps79
 go_wp2_with fail
 go_loopg [0, 4, 11] 4 (fun gg v0 v4 v11 w' => ∃ i : Nat, i ≤ 4 ∧ 4 - i ≤ gg ∧ v11 = .int .i64 i ∧ v0 = .int .i64 (ZM p i) ∧ v4 = .slice (some ⟨w.heap.size + 1 + 1, 0, none⟩) (zr p i).length 4 ∧
  zA (Kd.R (Kd.int .i64) 2 w' w.heap.size (fun k => k = w.heap.size + 1 + 1) (.slice (some ⟨w.heap.size + 1 + 1, 0, none⟩) (zr p i).length 4) (zr p i)) ∧
  zA (w'.heap[w.heap.size + 1]? = some (.cells #[.int .i64 (Zs p i 0), .int .i64 (Zs p i 1), .int .i64 (Zs p i 2), .int .i64 (Zs p i 3)] 94 (0, 0))) ∧
  zA (w'.heap[w.heap.size]? = some (.cells #[.int .i64 0, .int .i64 0, .int .i64 0, .int .i64 0] 94 (0, 0))) ∧
  zA (w'.heap[w.heap.size + 1 + 1 + 1]? = some (.cells #[.int .i64 6, .int .i64 2, .int .i64 1, .int .i64 1] 2 (0, 0))) ∧ zA (Below w.heap.size w w'))
 case atStart =>
  refine ⟨0, by omega, by omega, rfl, rfl, rfl, ⟨?_⟩, ⟨?_⟩, ⟨?_⟩, ⟨?_⟩, ⟨?_⟩⟩
  next =>
   refine Kd.zAt ⟨by simp [zAi], .inr ⟨w.heap.size + 1 + 1, 4, #[.int .i64 0, .int .i64 1, .int .i64 2, .int .i64 3], rfl, by omega, ?_, yqy 4, by decide, rfl, rfl⟩⟩ (fun k hk => by simpa [Value.ownBlock] using hk.symm)
   exact zH (zDp (by simp) _) _
  next =>
   exact zH (zH (zDp (by simp) _) _) _
  next =>
   exact zH (zH (zH (zDp rfl _) _) _) _
  next =>
   exact zDp (by simp) _
  next =>
   exact zC (zC (zC (zC (yry _ _) _) _) _) _
 case round =>
  obtain ⟨i, hi, hg, rfl, rfl, rfl, HR, B3, B2, B9, HB⟩ := hrel
  rcases (show i = 4 ∨ i = 3 ∨ i = 2 ∨ i = 1 ∨ i = 0 by omega) with rfl | rfl | rfl | rfl | rfl
  next =>
   have c0 : wr.cell? ⟨w.heap.size + 1, 0, none⟩ = some (.int .i64 (Zs p 4 0)) := (zK B3.out 0).trans rfl
   have c1 : wr.cell? ⟨w.heap.size + 1, 1, none⟩ = some (.int .i64 (Zs p 4 1)) := (zK B3.out 1).trans rfl
   have c2 : wr.cell? ⟨w.heap.size + 1, 2, none⟩ = some (.int .i64 (Zs p 4 2)) := (zK B3.out 2).trans rfl
   have c3 : wr.cell? ⟨w.heap.size + 1, 3, none⟩ = some (.int .i64 (Zs p 4 3)) := (zK B3.out 3).trans rfl
   have d0 : wr.cell? ⟨w.heap.size, 0, none⟩ = some (.int .i64 0) := (zK B2.out 0).trans rfl
   have d1 : wr.cell? ⟨w.heap.size, 1, none⟩ = some (.int .i64 0) := (zK B2.out 1).trans rfl
   have d2 : wr.cell? ⟨w.heap.size, 2, none⟩ = some (.int .i64 0) := (zK B2.out 2).trans rfl
   have d3 : wr.cell? ⟨w.heap.size, 3, none⟩ = some (.int .i64 0) := (zK B2.out 3).trans rfl
   have f0 := zL B2.out 0
   have f1 := zL B2.out 1
   have f2 := zL B2.out 2
   have f3 := zL B2.out 3
   have ht := Try.underlying94
   go_wp2
   refine bodyPost_ret (results_cell_row rfl _ _ w.heap.size 94 #[.int .i64 (Zs p 4 0), .int .i64 (Zs p 4 1), .int .i64 (Zs p 4 2), .int .i64 (Zs p 4 3)] (0, 0) _ rfl (qe (cs := #[.int .i64 (Zs p 4 0), .int .i64 (Zs p 4 1), .int .i64 (Zs p 4 2), .int .i64 0]) (qe (cs := #[.int .i64 (Zs p 4 0), .int .i64 (Zs p 4 1), .int .i64 0, .int .i64 0]) (qe (cs := #[.int .i64 (Zs p 4 0), .int .i64 0, .int .i64 0, .int .i64 0]) (qe B2.out 0 _ rfl) 1 _ rfl) 2 _ rfl) 3 _ rfl) ht rfl (by kernel_rfl)) rfl ⟨rfl, ?_⟩
   exact zF (zF (zF (zF HB.out (yqy _)) (yqy _)) (yqy _)) (yqy _)
  next =>
   have hK : 0 ≤ Zq p 3 ∧ Zq p 3 < (zr p 3).length := by have := HK.out; have := HL.out; omega
   have hP : 0 ≤ ZM p 3 ∧ ZM p 3 ≤ 23 := by have := HP.out; omega
   have HLN := zA.mk (show (zr p 3).length = 1 by have := HL.out; omega)
   have HLN2 := zA.mk (show (zr p 4).length = (zr p 3).length - 1 by have := HL.out; omega)
   obtain ⟨A1, q1, hA1, hq1, hC⟩ := Kd.zA5 HR.out
   injection hA1 with hA1 hl1 hc1
   subst hA1
   clear hl1 hc1 hq1
   obtain ⟨ad, had, hx⟩ := Kd.ZI hC (Zq p 3) hK.1 (by omega)
   injection had with had
   subst had
   rw [add_plain] at hx
   have HAT := zA.mk (show rd (zr p 3) (Zq p 3) = zw p 3 from rfl)
   rw [HAT.out] at hx
   have HER := zA.mk (show (zr p 3).eraseIdx (Zq p 3).toNat = zr p 4 from rfl)
   have hX : Zq p 3 = ZM p 3 := by have e : Zq p 3 = ZM p 3 / 1 := rfl; rw [e]; exact Int.ediv_one _
   have HY := zA.mk (show 0 = ZM p 4 by have e : ZM p 4 = ZM p 3 % 1 := rfl; rw [e]; omega)
   rw [hX] at hx hK
   have HX := zA.mk hX
   clear hX hC
   obtain ⟨hk0, hk1⟩ := hK
   obtain ⟨hp0, hp1⟩ := hP
   have b9 : wr.cell? ⟨w.heap.size + 1 + 1 + 1, 3, none⟩ = some (.int .i64 1) := (zK B9.out 3).trans rfl
   have b3 : wr.cell? ⟨w.heap.size + 1, 3, none⟩ = some (.int .i64 (Zs p 3 3)) := (zK B3.out 3).trans rfl
   have f3 := zL B3.out 3
   have hk2 : ZM p 3 < 9223372036854775807 := by omega
   go_wp2_with fail
   have HRw := zA.mk (show Kd.R (Kd.int .i64) 2 (wr.setCell ⟨w.heap.size + 1, 3, none⟩ (.int .i64 (zw p 3))) w.heap.size (fun k => k = w.heap.size + 1 + 1) (.slice (some ⟨w.heap.size + 1 + 1, 0, none⟩) (zr p 3).length 4) (zr p 3) from Kd.zCg (p := ⟨w.heap.size + 1, 3, none⟩) HR.out (fun k hk => by rw [hk]; show w.heap.size + 1 + 1 ≠ w.heap.size + 1; omega) _)
   refine Ql (args' := #[.slice (some ⟨w.heap.size + 1 + 1, 0, none⟩) (zr p 3).length 4, .int .i64 ((ZM p 3).toNat : Int), .int .i64 (((ZM p 3).toNat : Int) + 1)]) (by rw [Int.toNat_of_nonneg hk0]) ?_
   refine (Zp.zDm (w.heap.size + 1 + 1) 4 (ZM p 3).toNat (zr p 3) w.heap.size (fun k => k = w.heap.size + 1 + 1) _ HRw.out (by omega)).mono ?_
   rintro e w1 ⟨rfl, hR1, hg1⟩
   have hl2 := HLN2.out
   have er : (zr p 3).eraseIdx (ZM p 3).toNat = zr p 4 := by rw [← HER.out, HX.out]
   rw [er, ← hl2] at hR1
   rw [← hl2]
   have HR2 := zA.mk hR1
   have B3a : (wr.setCell ⟨w.heap.size + 1, 3, none⟩ (.int .i64 (zw p 3))).heap[w.heap.size + 1]? = some (.cells #[.int .i64 (Zs p 4 0), .int .i64 (Zs p 4 1), .int .i64 (Zs p 4 2), .int .i64 (Zs p 4 3)] 94 (0, 0)) := qe B3.out 3 _ rfl
   have B3n := zA.mk (ZA B3a hg1 (by simp))
   have B2n := zA.mk (ZA (qX (p := ⟨w.heap.size + 1, 3, none⟩) B2.out (by show w.heap.size ≠ w.heap.size + 1; omega) (.int .i64 (zw p 3))) hg1 (by simp; omega))
   have B9n := zA.mk (ZA (qX (p := ⟨w.heap.size + 1, 3, none⟩) B9.out (by show w.heap.size + 1 + 1 + 1 ≠ w.heap.size + 1; omega) (.int .i64 (zw p 3))) hg1 (by simp))
   have HBn := zA.mk (Qa (zF (j := 3) (v := .int .i64 (zw p 3)) HB.out (show w.heap.size ≤ w.heap.size + 1 by omega)) (some (w.heap.size + 1 + 1)) (by have := HB.out.size; simp [World.setCell]; omega) hg1 (fun k hk => by injection hk with hk; omega))
   clear hR1 hg1 B3a HRw B3 B2 B9 HB HR er hl2 hx b9 b3 f3
   go_wp2
   go_roundg (4 - 4)
   case measure => omega
   case rel => exact ⟨4, by omega, by omega, by first | rfl | go_num, by rw [← HY.out], rfl, HR2, B3n, B2n, B9n, HBn⟩
  next =>
   have hK : 0 ≤ Zq p 2 ∧ Zq p 2 < (zr p 2).length := by have := HK.out; have := HL.out; omega
   have hP : 0 ≤ ZM p 2 ∧ ZM p 2 ≤ 23 := by have := HP.out; omega
   have HLN := zA.mk (show (zr p 2).length = 2 by have := HL.out; omega)
   have HLN2 := zA.mk (show (zr p 3).length = (zr p 2).length - 1 by have := HL.out; omega)
   obtain ⟨A1, q1, hA1, hq1, hC⟩ := Kd.zA5 HR.out
   injection hA1 with hA1 hl1 hc1
   subst hA1
   clear hl1 hc1 hq1
   obtain ⟨ad, had, hx⟩ := Kd.ZI hC (Zq p 2) hK.1 (by omega)
   injection had with had
   subst had
   rw [add_plain] at hx
   have HAT := zA.mk (show rd (zr p 2) (Zq p 2) = zw p 2 from rfl)
   rw [HAT.out] at hx
   have HER := zA.mk (show (zr p 2).eraseIdx (Zq p 2).toNat = zr p 3 from rfl)
   have hX : Zq p 2 = ZM p 2 := by have e : Zq p 2 = ZM p 2 / 1 := rfl; rw [e]; exact Int.ediv_one _
   have HY := zA.mk (show 0 = ZM p 3 by have e : ZM p 3 = ZM p 2 % 1 := rfl; rw [e]; omega)
   rw [hX] at hx hK
   have HX := zA.mk hX
   clear hX hC
   obtain ⟨hk0, hk1⟩ := hK
   obtain ⟨hp0, hp1⟩ := hP
   have b9 : wr.cell? ⟨w.heap.size + 1 + 1 + 1, 2, none⟩ = some (.int .i64 1) := (zK B9.out 2).trans rfl
   have b3 : wr.cell? ⟨w.heap.size + 1, 2, none⟩ = some (.int .i64 (Zs p 2 2)) := (zK B3.out 2).trans rfl
   have f3 := zL B3.out 2
   have hk2 : ZM p 2 < 9223372036854775807 := by omega
   go_wp2_with fail
   have HRw := zA.mk (show Kd.R (Kd.int .i64) 2 (wr.setCell ⟨w.heap.size + 1, 2, none⟩ (.int .i64 (zw p 2))) w.heap.size (fun k => k = w.heap.size + 1 + 1) (.slice (some ⟨w.heap.size + 1 + 1, 0, none⟩) (zr p 2).length 4) (zr p 2) from Kd.zCg (p := ⟨w.heap.size + 1, 2, none⟩) HR.out (fun k hk => by rw [hk]; show w.heap.size + 1 + 1 ≠ w.heap.size + 1; omega) _)
   refine Ql (args' := #[.slice (some ⟨w.heap.size + 1 + 1, 0, none⟩) (zr p 2).length 4, .int .i64 ((ZM p 2).toNat : Int), .int .i64 (((ZM p 2).toNat : Int) + 1)]) (by rw [Int.toNat_of_nonneg hk0]) ?_
   refine (Zp.zDm (w.heap.size + 1 + 1) 4 (ZM p 2).toNat (zr p 2) w.heap.size (fun k => k = w.heap.size + 1 + 1) _ HRw.out (by omega)).mono ?_
   rintro e w1 ⟨rfl, hR1, hg1⟩
   have hl2 := HLN2.out
   have er : (zr p 2).eraseIdx (ZM p 2).toNat = zr p 3 := by rw [← HER.out, HX.out]
   rw [er, ← hl2] at hR1
   rw [← hl2]
   have HR2 := zA.mk hR1
   have B3a : (wr.setCell ⟨w.heap.size + 1, 2, none⟩ (.int .i64 (zw p 2))).heap[w.heap.size + 1]? = some (.cells #[.int .i64 (Zs p 3 0), .int .i64 (Zs p 3 1), .int .i64 (Zs p 3 2), .int .i64 (Zs p 3 3)] 94 (0, 0)) := qe B3.out 2 _ rfl
   have B3n := zA.mk (ZA B3a hg1 (by simp))
   have B2n := zA.mk (ZA (qX (p := ⟨w.heap.size + 1, 2, none⟩) B2.out (by show w.heap.size ≠ w.heap.size + 1; omega) (.int .i64 (zw p 2))) hg1 (by simp; omega))
   have B9n := zA.mk (ZA (qX (p := ⟨w.heap.size + 1, 2, none⟩) B9.out (by show w.heap.size + 1 + 1 + 1 ≠ w.heap.size + 1; omega) (.int .i64 (zw p 2))) hg1 (by simp))
   have HBn := zA.mk (Qa (zF (j := 2) (v := .int .i64 (zw p 2)) HB.out (show w.heap.size ≤ w.heap.size + 1 by omega)) (some (w.heap.size + 1 + 1)) (by have := HB.out.size; simp [World.setCell]; omega) hg1 (fun k hk => by injection hk with hk; omega))
   clear hR1 hg1 B3a HRw B3 B2 B9 HB HR er hl2 hx b9 b3 f3
   go_wp2
   go_roundg (4 - 3)
   case measure => omega
   case rel => exact ⟨3, by omega, by omega, by first | rfl | go_num, by rw [← HY.out], rfl, HR2, B3n, B2n, B9n, HBn⟩
  next =>
   have hK : 0 ≤ Zq p 1 ∧ Zq p 1 < (zr p 1).length := by have := HK.out; have := HL.out; omega
   have hP : 0 ≤ ZM p 1 ∧ ZM p 1 ≤ 23 := by have := HP.out; omega
   have HLN := zA.mk (show (zr p 1).length = 3 by have := HL.out; omega)
   have HLN2 := zA.mk (show (zr p 2).length = (zr p 1).length - 1 by have := HL.out; omega)
   obtain ⟨A1, q1, hA1, hq1, hC⟩ := Kd.zA5 HR.out
   injection hA1 with hA1 hl1 hc1
   subst hA1
   clear hl1 hc1 hq1
   obtain ⟨ad, had, hx⟩ := Kd.ZI hC (Zq p 1) hK.1 (by omega)
   injection had with had
   subst had
   rw [add_plain] at hx
   have HAT := zA.mk (show rd (zr p 1) (Zq p 1) = zw p 1 from rfl)
   rw [HAT.out] at hx
   have HER := zA.mk (show (zr p 1).eraseIdx (Zq p 1).toNat = zr p 2 from rfl)
   have hX : Zq p 1 = ZM p 1 / 2 := by have e : Zq p 1 = ZM p 1 / 2 := rfl; rw [e]
   have HY := zA.mk (show ZM p 1 % 2 = ZM p 2 by have e : ZM p 2 = ZM p 1 % 2 := rfl; rw [e])
   rw [hX] at hx hK
   have HX := zA.mk hX
   clear hX hC
   obtain ⟨hk0, hk1⟩ := hK
   obtain ⟨hp0, hp1⟩ := hP
   have b9 : wr.cell? ⟨w.heap.size + 1 + 1 + 1, 1, none⟩ = some (.int .i64 2) := (zK B9.out 1).trans rfl
   have b3 : wr.cell? ⟨w.heap.size + 1, 1, none⟩ = some (.int .i64 (Zs p 1 1)) := (zK B3.out 1).trans rfl
   have f3 := zL B3.out 1
   have hk2 : ZM p 1 / 2 < 9223372036854775807 := by omega
   go_wp2_with fail
   have HRw := zA.mk (show Kd.R (Kd.int .i64) 2 (wr.setCell ⟨w.heap.size + 1, 1, none⟩ (.int .i64 (zw p 1))) w.heap.size (fun k => k = w.heap.size + 1 + 1) (.slice (some ⟨w.heap.size + 1 + 1, 0, none⟩) (zr p 1).length 4) (zr p 1) from Kd.zCg (p := ⟨w.heap.size + 1, 1, none⟩) HR.out (fun k hk => by rw [hk]; show w.heap.size + 1 + 1 ≠ w.heap.size + 1; omega) _)
   refine Ql (args' := #[.slice (some ⟨w.heap.size + 1 + 1, 0, none⟩) (zr p 1).length 4, .int .i64 ((ZM p 1 / 2).toNat : Int), .int .i64 (((ZM p 1 / 2).toNat : Int) + 1)]) (by rw [Int.toNat_of_nonneg hk0]) ?_
   refine (Zp.zDm (w.heap.size + 1 + 1) 4 (ZM p 1 / 2).toNat (zr p 1) w.heap.size (fun k => k = w.heap.size + 1 + 1) _ HRw.out (by omega)).mono ?_
   rintro e w1 ⟨rfl, hR1, hg1⟩
   have hl2 := HLN2.out
   have er : (zr p 1).eraseIdx (ZM p 1 / 2).toNat = zr p 2 := by rw [← HER.out, HX.out]
   rw [er, ← hl2] at hR1
   rw [← hl2]
   have HR2 := zA.mk hR1
   have B3a : (wr.setCell ⟨w.heap.size + 1, 1, none⟩ (.int .i64 (zw p 1))).heap[w.heap.size + 1]? = some (.cells #[.int .i64 (Zs p 2 0), .int .i64 (Zs p 2 1), .int .i64 (Zs p 2 2), .int .i64 (Zs p 2 3)] 94 (0, 0)) := qe B3.out 1 _ rfl
   have B3n := zA.mk (ZA B3a hg1 (by simp))
   have B2n := zA.mk (ZA (qX (p := ⟨w.heap.size + 1, 1, none⟩) B2.out (by show w.heap.size ≠ w.heap.size + 1; omega) (.int .i64 (zw p 1))) hg1 (by simp; omega))
   have B9n := zA.mk (ZA (qX (p := ⟨w.heap.size + 1, 1, none⟩) B9.out (by show w.heap.size + 1 + 1 + 1 ≠ w.heap.size + 1; omega) (.int .i64 (zw p 1))) hg1 (by simp))
   have HBn := zA.mk (Qa (zF (j := 1) (v := .int .i64 (zw p 1)) HB.out (show w.heap.size ≤ w.heap.size + 1 by omega)) (some (w.heap.size + 1 + 1)) (by have := HB.out.size; simp [World.setCell]; omega) hg1 (fun k hk => by injection hk with hk; omega))
   clear hR1 hg1 B3a HRw B3 B2 B9 HB HR er hl2 hx b9 b3 f3
   go_wp2
   go_roundg (4 - 2)
   case measure => omega
   case rel => exact ⟨2, by omega, by omega, by first | rfl | go_num, by rw [← HY.out], rfl, HR2, B3n, B2n, B9n, HBn⟩
  next =>
   have hK : 0 ≤ Zq p 0 ∧ Zq p 0 < (zr p 0).length := by have := HK.out; have := HL.out; omega
   have hP : 0 ≤ ZM p 0 ∧ ZM p 0 ≤ 23 := by have := HP.out; omega
   have HLN := zA.mk (show (zr p 0).length = 4 by have := HL.out; omega)
   have HLN2 := zA.mk (show (zr p 1).length = (zr p 0).length - 1 by have := HL.out; omega)
   obtain ⟨A1, q1, hA1, hq1, hC⟩ := Kd.zA5 HR.out
   injection hA1 with hA1 hl1 hc1
   subst hA1
   clear hl1 hc1 hq1
   obtain ⟨ad, had, hx⟩ := Kd.ZI hC (Zq p 0) hK.1 (by omega)
   injection had with had
   subst had
   rw [add_plain] at hx
   have HAT := zA.mk (show rd (zr p 0) (Zq p 0) = zw p 0 from rfl)
   rw [HAT.out] at hx
   have HER := zA.mk (show (zr p 0).eraseIdx (Zq p 0).toNat = zr p 1 from rfl)
   have hX : Zq p 0 = ZM p 0 / 6 := by have e : Zq p 0 = ZM p 0 / 6 := rfl; rw [e]
   have HY := zA.mk (show ZM p 0 % 6 = ZM p 1 by have e : ZM p 1 = ZM p 0 % 6 := rfl; rw [e])
   rw [hX] at hx hK
   have HX := zA.mk hX
   clear hX hC
   obtain ⟨hk0, hk1⟩ := hK
   obtain ⟨hp0, hp1⟩ := hP
   have b9 : wr.cell? ⟨w.heap.size + 1 + 1 + 1, 0, none⟩ = some (.int .i64 6) := (zK B9.out 0).trans rfl
   have b3 : wr.cell? ⟨w.heap.size + 1, 0, none⟩ = some (.int .i64 (Zs p 0 0)) := (zK B3.out 0).trans rfl
   have f3 := zL B3.out 0
   have hk2 : ZM p 0 / 6 < 9223372036854775807 := by omega
   go_wp2_with fail
   have HRw := zA.mk (show Kd.R (Kd.int .i64) 2 (wr.setCell ⟨w.heap.size + 1, 0, none⟩ (.int .i64 (zw p 0))) w.heap.size (fun k => k = w.heap.size + 1 + 1) (.slice (some ⟨w.heap.size + 1 + 1, 0, none⟩) (zr p 0).length 4) (zr p 0) from Kd.zCg (p := ⟨w.heap.size + 1, 0, none⟩) HR.out (fun k hk => by rw [hk]; show w.heap.size + 1 + 1 ≠ w.heap.size + 1; omega) _)
   refine Ql (args' := #[.slice (some ⟨w.heap.size + 1 + 1, 0, none⟩) (zr p 0).length 4, .int .i64 ((ZM p 0 / 6).toNat : Int), .int .i64 (((ZM p 0 / 6).toNat : Int) + 1)]) (by rw [Int.toNat_of_nonneg hk0]) ?_
   refine (Zp.zDm (w.heap.size + 1 + 1) 4 (ZM p 0 / 6).toNat (zr p 0) w.heap.size (fun k => k = w.heap.size + 1 + 1) _ HRw.out (by omega)).mono ?_
   rintro e w1 ⟨rfl, hR1, hg1⟩
   have hl2 := HLN2.out
   have er : (zr p 0).eraseIdx (ZM p 0 / 6).toNat = zr p 1 := by rw [← HER.out, HX.out]
   rw [er, ← hl2] at hR1
   rw [← hl2]
   have HR2 := zA.mk hR1
   have B3a : (wr.setCell ⟨w.heap.size + 1, 0, none⟩ (.int .i64 (zw p 0))).heap[w.heap.size + 1]? = some (.cells #[.int .i64 (Zs p 1 0), .int .i64 (Zs p 1 1), .int .i64 (Zs p 1 2), .int .i64 (Zs p 1 3)] 94 (0, 0)) := qe B3.out 0 _ rfl
   have B3n := zA.mk (ZA B3a hg1 (by simp))
   have B2n := zA.mk (ZA (qX (p := ⟨w.heap.size + 1, 0, none⟩) B2.out (by show w.heap.size ≠ w.heap.size + 1; omega) (.int .i64 (zw p 0))) hg1 (by simp; omega))
   have B9n := zA.mk (ZA (qX (p := ⟨w.heap.size + 1, 0, none⟩) B9.out (by show w.heap.size + 1 + 1 + 1 ≠ w.heap.size + 1; omega) (.int .i64 (zw p 0))) hg1 (by simp))
   have HBn := zA.mk (Qa (zF (j := 0) (v := .int .i64 (zw p 0)) HB.out (show w.heap.size ≤ w.heap.size + 1 by omega)) (some (w.heap.size + 1 + 1)) (by have := HB.out.size; simp [World.setCell]; omega) hg1 (fun k hk => by injection hk with hk; omega))
   clear hR1 hg1 B3a HRw B3 B2 B9 HB HR er hl2 hx b9 b3 f3
   go_wp2
   go_roundg (4 - 1)
   case measure => omega
   case rel => exact ⟨1, by omega, by omega, by first | rfl | go_num, by rw [← HY.out], rfl, HR2, B3n, B2n, B9n, HBn⟩
def qp.f (l0 : List (List (zq))) : Option (Int) := some (l0.length : Int)
set_option maxHeartbeats 8000000 in
set_option maxRecDepth 100000 in
theorem qp.calls (A0 : Option Addr) (c0 : Nat) (l0 : List (List (zq))) (r : Int) (w : World) (hr0 : Kd.C (Kd.slice 59 qx) w A0 l0.length l0) (hc0 : l0.length ≤ c0) (h : qp.f l0 = some r) :
    Calls Try.prog 46 #[.slice A0 l0.length c0] w fun e w' => e = .returned (.int .i64 r) ∧ zZ w w' := by
  have HR0 := zA.mk hr0
  have HC0 := zA.mk hc0
  clear hr0 hc0
  have H : (some (l0.length : Int)) = some r := h
  clear h
  obtain rfl := yey H
  go_enter Try.func46, Try.ntmps46
  go_wp2
  go_ret
  exact ⟨by first | rfl | (simp; done) | (simp [*]; done), by repeat (first | exact zZ.refl _ | apply zZ.step)⟩
def ZT.f (a0_0 : Int) (a0_1 : Int) : Option (Bool) := some (decide (a0_0 < 0))
set_option maxHeartbeats 8000000 in
set_option maxRecDepth 100000 in
theorem ZT.calls (a0_0 : Int) (a0_1 : Int) (r : Bool) (w : World) (h : ZT.f a0_0 a0_1 = some r) :
    Calls Try.prog 114 #[.agg #[.int .i64 a0_0, .int .i64 a0_1]] w fun e w' => e = .returned (.bool r) ∧ Below w.heap.size w w' := by
  have hu59 := Try.underlying59
  have HB := zA.mk (yry w.heap.size w)
  have H : (some (decide (a0_0 < 0))) = some r := h
  clear h
  obtain rfl := yey H
  go_enter Try.func114, Try.ntmps114
  go_wp2_with (first | ((with_reducible refine zd (N := 1) rfl ?_); refine zb ?hg (N := 1) ?hd (cs := #[.int .i64 a0_0, .int .i64 a0_1]) (t := 59) ?hr ?_; (case hd => rfl); (case hg => rfl); (case hr => first | (go_simp; done) | (go_simp; rfl)); intro gb101 hg w2 hbox hb; have n0_ := zA.mk (zN (by repeat (first | (with_reducible first | exact HB.out | apply zC | apply zB | apply zD) | exact HB.out)) hb); have n1_ := zA.mk (hbox); have n2_ := zA.mk ((by rw [hg]; exact (zO (by repeat (first | (with_reducible first | exact HB.out | apply zC | apply zB | apply zD) | exact HB.out))) : w.heap.size ≤ gb101)); have n3_ := zA.mk ((by rw [hg]; exact (zO (by repeat (first | (with_reducible first | exact HB.out | apply zC | apply zB | apply zD) | exact HB.out))) : w.heap.size ≤ gb101)); clear HB; have HB := n0_; have BK101 := n1_; have GW101 := n2_; have GE101 := n3_; clear n0_ n1_ n2_ n3_; clear hb hbox hg; have hcz3_0 : w2.cell? ⟨gb101, 0, none⟩ = some (.int .i64 a0_0) := (zK BK101.out 0).trans rfl; have hcz3_1 : w2.cell? ⟨gb101, 1, none⟩ = some (.int .i64 a0_1) := (zK BK101.out 1).trans rfl; have hfz3_0 := zL BK101.out 0; have hfz3_1 := zL BK101.out 1))
  go_ret
  exact ⟨by first | rfl | (simp [zQ, zR] <;> rfl) | (simp [*, zQ, zR] <;> rfl), by repeat (first | (with_reducible first | exact HB.out | apply zC | apply zB | apply zD | refine zF ?_ GE101.out) | exact HB.out)⟩
theorem goesF_ {P : Program} {ops : Array Oper} {Q : Exit → Act → World → Prop} {oi : Oper} {N : Option Tmp} {a : Act} {w : World} {K : Act → World → Prop} {f : FuncId} {fn : Func} {t : Tmp} {as_ : Array Operand} {ts : Array TypeId} {caps : Array Value} (hf : P.funcs[f]? = some fn) (hname : (fn.name == "runtime.NumGoroutine") = false) (hb : fn.body.isSome = true) (args all : Array Value)
    (hw : Region.wanted oi (yielded ops a.tmps) = true) (hN : oi.dst = N) (hop : oi.op = .call { callee := .value (.tmp t), args := as_, argTypes := ts }) (ht : a.eval (.tmp t) = .func (.func f) #[] caps) (hargs : as_.map a.eval = args) (hall : args ++ caps = all)
    (h : Calls P f all w fun e w' => ∃ v, e = .returned v ∧ K (a.put N v) w') : if Region.wanted oi (yielded ops a.tmps) = true then Oper.wp P oi a w K Q else K (a.put N undef) w := by
  subst hall
  refine call_ f (args ++ caps) hw hN ?_ h
  have he := zDI hf hname hb (args ++ caps) w
  unfold execOp
  simp [hop, resolve, Deferred.ofValue, invoke, ht, hargs, he]
theorem zFf {α : Type} {w : World} {d : Kd α} {e base b : Nat} {ok : Nat → Prop} {v : Value} {xs : List α} (h : d.R e w base ok v xs) (hb : v.ownBlock = some b) : ∃ cap, v = .slice (some ⟨b, 0, none⟩) xs.length cap := by
  obtain ⟨inner, ho⟩ := Kd.zE7 h
  rcases ho.2 with ⟨rfl, _⟩ | ⟨g, cap, cur, rfl, _⟩
  · simp [Value.ownBlock] at hb
  · have : g = b := by simpa [Value.ownBlock] using hb
    subst this
    exact ⟨cap, rfl⟩
def zEJ {σ : Type} (step : σ → Nat → Nat → zq → σ) (tet : Nat) : List zq → Nat → σ → σ
  | [], _, s => s
  | x :: xs, f, s => zEJ step tet xs (f + 1) (if x.f0 < 0 then s else step s tet f x)
def zCN {σ : Type} (step : σ → Nat → Nat → zq → σ) : List (List zq) → Nat → σ → σ
  | [], _, s => s
  | r :: rs, tet, s => zCN step rs (tet + 1) (zEJ step tet r 0 s)
def zEy (l : List (List zq)) (j f : Nat) (x : zq) : Prop := ∃ h1 : j < l.length, ∃ h2 : f < l[j].length, l[j][f] = x
set_option maxHeartbeats 8000000 in
set_option maxRecDepth 100000 in
theorem zEK.calls {σ : Type} (F : FuncId) (fn : Func) (hf : Try.prog.funcs[F]? = some fn) (hname : (fn.name == "runtime.NumGoroutine") = false) (hbody : fn.body.isSome = true) (caps : Array Value)
    (l : List (List zq)) (A0 : Option Addr) (c0 : Nat) (w0 w : World) (Inv : σ → World → Prop) (step : σ → Nat → Nat → zq → σ) (st0 : σ)
    (cnt : σ → Nat) (N : Nat) (hcnt : ∀ s j f x, cnt (step s j f x) ≤ cnt s + 4) (hN : cnt st0 + 4 * (l.map List.length).sum ≤ N)
    (hB : ∀ s W W', Inv s W → Below W.heap.size W W' → Inv s W')
    (hK : ∀ s W, Inv s W → Below w0.heap.size w0 W)
    (hT : Kd.C (Kd.slice 59 qx) w0 A0 l.length l)
    (hperm : ∀ r ∈ l, ∀ x ∈ r, ¬ x.f0 < 0 → 0 ≤ x.f1 ∧ x.f1 ≤ 23)
    (hstep : ∀ s W (j f : Nat) (x : zq), Inv s W → zEy l j f x → ¬ x.f0 < 0 → cnt s + 4 ≤ N →
      Calls Try.prog F (#[.int .i64 (j : Int), .int .i64 (f : Int), .agg #[.int .i64 x.f0, .int .i64 x.f1], .agg #[.int .i64 (zw x.f1 0), .int .i64 (zw x.f1 1), .int .i64 (zw x.f1 2), .int .i64 (zw x.f1 3)]] ++ caps) W fun e W' => e = .returned (.tuple #[]) ∧ Inv (step s j f x) W')
    (h0 : Inv st0 w) :
    Calls Try.prog 104 #[.agg #[.slice A0 l.length c0], .func (.func F) #[] caps] w fun e w' => e = .returned (.tuple #[]) ∧ Inv (zCN step l 0 st0) w' := by
  have HB := zA.mk hB
  have HK := zA.mk hK
  have HT := zA.mk hT
  have HPM := zA.mk hperm
  have HST := zA.mk hstep
  have HCN := zA.mk hcnt
  have HN : zA (cnt st0 + 4 * ((l.drop 0).map List.length).sum ≤ N) := ⟨by rw [List.drop_zero]; exact hN⟩
  clear hcnt hN
  have HS := zA.mk (hB _ _ _ h0 (zC (yry w.heap.size w) (.cells #[.slice A0 l.length c0] 30)))
  have hbig : l.length ≤ 9223372036854775807 := hT.2.1
  clear hB hT hperm hstep h0 hK
  have HA : zA (zCN step (l.drop 0) 0 st0 = zCN step l 0 st0) := ⟨by rw [List.drop_zero]⟩
  generalize zCN step l 0 st0 = R at HA ⊢
  go_enter Try.func104, Try.ntmps104
  go_wp2
  go_loopg [11] l.length (fun gg v11 w' => ∃ (j : Nat) (s : σ), j ≤ l.length ∧ l.length - j ≤ gg ∧ v11 = .int .i64 j ∧ zA (zCN step (l.drop j) j s = R) ∧ zA (Inv s w') ∧ zA (cnt s + 4 * ((l.drop j).map List.length).sum ≤ N))
  case atStart => exact ⟨0, st0, Nat.zero_le _, by omega, rfl, HA, HS, HN⟩
  case round =>
    clear HS HA HN
    obtain ⟨j, st, hj, hg, rfl, HA, HS, HN⟩ := hrel
    by_cases hlt : j < l.length
    · have hltz : (j : Int) < (l.length : Int) := by omega
      obtain ⟨ad1, A1, c1, e1, hy1, hl1, hC1⟩ := ZR HT.out (j : Int) (by omega) hltz
      subst e1
      have ex : zE l (j : Int) = l[j] := by simp [zE, hlt]
      rw [ex] at hy1 hl1 hC1
      rw [yny] at hy1
      replace hy1 := ((HK.out _ _ HS.out).cell (ypy w0 _ hy1)).trans hy1
      have HA2 := HA.out
      rw [yoy hlt, zCN] at HA2
      have HI : zA (zCN step (l.drop (j + 1)) (j + 1) (zEJ step j (l[j].drop 0) 0 st) = R) := ⟨by rw [List.drop_zero]; exact HA2⟩
      have HN1 : zA (cnt st + 4 * (l[j].length - 0 + ((l.drop (j + 1)).map List.length).sum) ≤ N) := ⟨by have h := HN.out; rw [yoy hlt, yjy, List.sum_cons] at h; omega⟩
      clear HN
      have HP1 := zA.mk (HPM.out l[j] (List.getElem_mem hlt))
      have HX := zA.mk (show ∀ (f : Nat) (x : zq) (h2 : f < l[j].length), l[j][f] = x → zEy l j f x from fun f x h2 h => ⟨hlt, h2, h⟩)
      have hbig1 : l[j].length ≤ 9223372036854775807 := hC1.2.1
      have HC1 := zA.mk hC1
      clear HA HA2 hl1 hC1 ex
      generalize l[j] = row at *
      go_wp2
      go_loopg [18] row.length (fun gg v18 w' => ∃ (f : Nat) (s : σ), f ≤ row.length ∧ row.length - f ≤ gg ∧ v18 = .int .i64 f ∧ zA (zCN step (l.drop (j + 1)) (j + 1) (zEJ step j (row.drop f) f s) = R) ∧ zA (Inv s w') ∧ zA (cnt s + 4 * (row.length - f + ((l.drop (j + 1)).map List.length).sum) ≤ N))
      case atStart => exact ⟨0, st, Nat.zero_le _, by omega, rfl, HI, HS, HN1⟩
      case round =>
        clear HI HS hy1 HN1
        obtain ⟨f, st, hf9, hgf, rfl, HI, HS, HN1⟩ := hrel
        by_cases hlf : f < row.length
        · have hlfz : (f : Int) < (row.length : Int) := by omega
          obtain ⟨ad2, e2, hy2, hy3⟩ := Zn HC1.out (f : Int) (by omega) hlfz
          subst e2
          replace hy2 := ((HK.out _ _ HS.out).cell (ypy w0 _ hy2)).trans hy2
          replace hy3 := ((HK.out _ _ HS.out).cell (ypy w0 _ hy3)).trans hy3
          have HF := zA.mk (HX.out f row[f] hlf rfl)
          have HY := zA.mk (HP1.out row[f] (List.getElem_mem hlf))
          have HI2 := HI.out
          rw [yoy hlf, zEJ] at HI2
          have HI3 := zA.mk HI2
          clear HI HI2
          have ex : zG row (f : Int) = row[f] := by simp [zG, hlf]
          rw [ex, yny] at hy2 hy3
          generalize row[f] = y at hy2 hy3 HY HI3 HF
          obtain ⟨f0, f1⟩ := y
          clear ex
          have BF := zA.mk (QF (W := wr) rfl (.cells #[.int .i64 f0, .int .i64 f1] 59))
          have HS1 := zA.mk (HB.out _ _ _ HS.out (zC (yry _ _) (.cells #[.int .i64 f0, .int .i64 f1] 59)))
          clear HS
          by_cases hb : f0 < 0
          · rw [if_pos hb] at HI3
            have d0 : decide (f0 < 0) = true := ygy hb
            go_wp2_with (first | (go_at_call 114; (with_reducible refine (ZT.calls f0 f1 true _ (by unfold ZT.f; rw [d0])).mono ?_); rintro e w2 ⟨rfl, hnd⟩; have HS2 := zA.mk (HB.out _ _ _ HS1.out hnd); clear HS1 BF hnd))
            go_roundg (row.length - (f + 1))
            case measure => omega
            case rel => exact ⟨f + 1, st, by omega, by omega, by go_num, HI3, HS2, ⟨by have := HN1.out; omega⟩⟩
          · rw [if_neg hb] at HI3
            have d0 : decide (f0 < 0) = false := yhy hb
            have HP := zA.mk (show 0 ≤ f1 ∧ f1 ≤ 23 from HY.out (by first | exact hb | (show (0 : Int) ≤ f0; omega)))
            have hb9 := zA.mk hb
            clear HY
            go_wp2_with (first | (go_at_call 114; (with_reducible refine (ZT.calls f0 f1 false _ (by unfold ZT.f; rw [d0])).mono ?_); rintro e w2 ⟨rfl, hnd⟩; have HS2 := zA.mk (HB.out _ _ _ HS1.out hnd); have BF2 := zA.mk (zP BF.out hnd); clear HS1 BF hnd; have BF := BF2; clear BF2))
            refine QG (n := 8) (S := fun w' => w'.cell? ⟨wr.heap.size, 0, none⟩ = some (.int .i64 f0) ∧ w'.cell? ⟨wr.heap.size, 1, none⟩ = some (.int .i64 f1)) (ds := [7]) #[false, false, false, false, false, false, false, false] (by kernel_rfl) rfl rfl ⟨(zK BF.out 0).trans rfl, (zK BF.out 1).trans rfl⟩ (fun hHeld => ?_)
            have HS3 := zA.mk (HB.out _ _ _ HS2.out (zD (yry _ _)))
            have BF3 := zA.mk (zJ BF.out)
            clear HS2 BF
            have HS2 := HS3
            have BF := BF3
            clear HS3 BF3
            generalize w2.drew = w22 at HS2 BF hHeld ⊢
            refine zo (i := 0) (N := some 26) (v := ?_) (a' := ?_) #[true, false, false, false, false, false, false, false] rfl rfl (by kernel_rfl) (fun _ _ _ h => h) (Or.inl ⟨by rfl, ?_⟩) ?_ ?_
            rotate_left
            · intro w'
              go_simp
              with_reducible rfl
            rotate_left
            · simp only [Act.put, yay, yby, ycy, zW, zX]
              rfl
            refine zo (i := 1) (N := some 27) (v := ?_) (a' := ?_) #[true, true, false, false, false, false, false, false] rfl rfl (by kernel_rfl) (fun _ _ _ h => h) (Or.inl ⟨by rfl, ?_⟩) ?_ ?_
            rotate_left
            · intro w'
              go_simp
              with_reducible rfl
            rotate_left
            · simp only [Act.put, yay, yby, ycy, zW, zX]
              rfl
            refine zo (i := 2) (N := some 28) (v := ?_) (a' := ?_) #[true, true, true, false, false, false, false, false] rfl rfl (by kernel_rfl) (fun _ _ _ h => h) (Or.inl ⟨by rfl, ?_⟩) ?_ ?_
            rotate_left
            · intro w'
              go_simp
              with_reducible rfl
            rotate_left
            · simp only [Act.put, yay, yby, ycy, zW, zX]
              rfl
            refine ZV (i := 3) (N := some 29) (v := ?_) (a' := ?_) #[true, true, true, true, false, false, false, false] rfl rfl (by kernel_rfl) (fun _ _ _ h => h) (Or.inl ⟨by rfl, ?_⟩) hHeld ?_ ?_
            rotate_left
            · rintro w' ⟨s0, s1⟩
              go_simp
              with_reducible rfl
            rotate_left
            · simp only [Act.put, yay, yby, ycy, zW, zX]
              rfl
            refine zo (i := 4) (N := some 30) (v := ?_) (a' := ?_) #[true, true, true, true, true, false, false, false] rfl rfl (by kernel_rfl) (fun _ _ _ h => h) (Or.inl ⟨by rfl, ?_⟩) ?_ ?_
            rotate_left
            · intro w'
              go_simp
              with_reducible rfl
            rotate_left
            · simp only [Act.put, yay, yby, ycy, zW, zX]
              rfl
            refine ZV (i := 5) (N := some 31) (v := ?_) (a' := ?_) #[true, true, true, true, true, true, false, false] rfl rfl (by kernel_rfl) (fun _ _ _ h => h) (Or.inl ⟨by rfl, ?_⟩) hHeld ?_ ?_
            rotate_left
            · rintro w' ⟨s0, s1⟩
              go_simp
              with_reducible rfl
            rotate_left
            · simp only [Act.put, yay, yby, ycy, zW, zX]
              rfl
            refine zAH (i := 6) (N := some 32) #[true, true, true, true, true, true, true, false] rfl rfl (by kernel_rfl) (by decide) (fun K hK => ?_)
            refine Qz Try.func79 (by kernel_rfl) rfl #[.int .i64 f1] (by rfl) rfl rfl (by (try simp only [yiy, yjy, yky]); first | done | rfl) ?_
            refine (zB9.calls f1 _ HP.out.1 HP.out.2).mono ?_
            rintro e w3 ⟨rfl, hb3⟩
            refine ⟨_, rfl, ?_⟩
            have HS3 := zA.mk (HB.out _ _ _ HS2.out hb3)
            have BF3 := zA.mk (zP BF.out hb3)
            clear HS2 BF hb3
            have BF := BF3
            have HS2 := HS3
            clear BF3 HS3
            refine hK.out _ _ ⟨(zK BF.out 0).trans rfl, (zK BF.out 1).trans rfl⟩ (fun hHeld => ?_)
            clear hK K
            refine QN (a' := ?_) ?_ ?_
            rotate_left
            · show Act.put _ (some 32) _ = _
              simp only [Act.put, yay, yby, ycy, zW, zX]
              rfl
            refine zFU (i := 7) (N := some 33) #[true, true, true, true, true, true, true, true] rfl rfl (by kernel_rfl) (by decide) (fun K hK => ?_)
            refine goesF_ (f := F) (fn := fn) hf hname hbody #[.int .i64 (j : Int), .int .i64 (f : Int), .agg #[.int .i64 f0, .int .i64 f1], .agg #[.int .i64 (zw f1 0), .int .i64 (zw f1 1), .int .i64 (zw f1 2), .int .i64 (zw f1 3)]] (#[.int .i64 (j : Int), .int .i64 (f : Int), .agg #[.int .i64 f0, .int .i64 f1], .agg #[.int .i64 (zw f1 0), .int .i64 (zw f1 1), .int .i64 (zw f1 2), .int .i64 (zw f1 3)]] ++ caps) (by rfl) rfl rfl rfl (by (try simp only [yiy, yjy, yky]); first | done | rfl) rfl ?_
            refine (HST.out st _ j f ⟨f0, f1⟩ HS2.out HF.out hb9.out (by have := HN1.out; omega)).mono ?_
            rintro e w4 ⟨rfl, hS4⟩
            refine ⟨_, rfl, ?_⟩
            have HS4 := zA.mk hS4
            clear hS4 HS2
            refine hK.out _ _ ?_
            clear hK K
            refine QN (a' := ?_) ?_ ?_
            rotate_left
            · show Act.put _ (some 33) _ = _
              simp only [Act.put, yay, yby, ycy, zW, zX]
              rfl
            refine Qy (by kernel_rfl) ?_
            go_wp2
            go_roundg (row.length - (f + 1))
            case measure => omega
            case rel => exact ⟨f + 1, _, by omega, by omega, by go_num, HI3, HS4, ⟨by have := HN1.out; have := HCN.out st j f ⟨f0, f1⟩; omega⟩⟩
        · obtain rfl : f = row.length := by omega
          have HI2 := HI.out
          rw [List.drop_length, zEJ] at HI2
          have HA := zA.mk HI2
          clear HI HI2
          go_wp2
          go_roundg (l.length - (j + 1))
          case measure => omega
          case rel => exact ⟨j + 1, st, by omega, by omega, by go_num, HA, HS, ⟨by have := HN1.out; omega⟩⟩
    · obtain rfl : j = l.length := by omega
      have HA2 := HA.out
      rw [List.drop_length, zCN] at HA2
      subst HA2
      go_wp2
      first | go_end0 | ((try simp only [Exit.inBlock, Exit.then]); refine bodyPost_ret (results_none rfl _ _ _) rfl ?_)
      refine ⟨?_, HS.out⟩
      first | rfl | (simp <;> rfl)
def ZS (l : List Int) (i : Nat) : Nat → Int
  | 0 => rd l i
  | j + 1 => if rd l j < rd l i then ZS l i j - 1 else ZS l i j
def Je (l : List Int) : Nat → Int
  | 0 => 0
  | i + 1 => Je l i + ZS l i i * zEx i
def idxL (l : List Int) : Int := Je l 4
def sm (x : Int) : Prop := 0 ≤ x ∧ x ≤ 3
theorem Jo (l : List Int) (i : Nat) (h : sm (rd l i)) : ∀ j : Nat, -(j : Int) ≤ ZS l i j ∧ ZS l i j ≤ 3
  | 0 => by have := h.1; have := h.2; unfold ZS; omega
  | j + 1 => by
    have := Jo l i h j
    unfold ZS
    split <;> omega
set_option maxHeartbeats 8000000 in
set_option maxRecDepth 100000 in
theorem zCs.calls (a b c d : Int) (w : World) (ha : sm a) (hb : sm b) (hc : sm c) (hd : sm d) :
    Calls Try.prog 108 #[.agg #[.int .i64 a, .int .i64 b, .int .i64 c, .int .i64 d]] w fun e w' => e = .returned (.int .i64 (idxL [a, b, c, d])) ∧ Below w.heap.size w w' := by
  have hl0 : sm (rd [a, b, c, d] (0 : Nat)) := ha
  have hl1 : sm (rd [a, b, c, d] (1 : Nat)) := hb
  have hl2 : sm (rd [a, b, c, d] (2 : Nat)) := hc
  have hl3 : sm (rd [a, b, c, d] (3 : Nat)) := hd
  have HL := zA.mk (And.intro (Jo _ 0 hl0) (And.intro (Jo _ 1 hl1) (And.intro (Jo _ 2 hl2) (Jo _ 3 hl3))))
  have HS := zA.mk (And.intro hl0 (And.intro hl1 (And.intro hl2 hl3)))
  clear ha hb hc hd hl0 hl1 hl2 hl3
  generalize hl : [a, b, c, d] = l at HL HS ⊢
  have HLL := zA.mk hl
  clear hl
  go_enter Try.func108, Try.ntmps108
  go_wp2_with fail
  go_loopg [3, 11] 4 (fun gg v3 v11 w' => ∃ i : Nat, i ≤ 4 ∧ 4 - i ≤ gg ∧ v11 = .int .i64 i ∧ v3 = .int .i64 (Je l i) ∧ zA (-24 * (i : Int) ≤ Je l i ∧ Je l i ≤ 24 * i) ∧
    zA (w'.heap[w.heap.size]? = some (.cells #[.int .i64 a, .int .i64 b, .int .i64 c, .int .i64 d] 94 (0, 0))) ∧
    zA (w'.heap[w.heap.size + 1]? = some (.cells #[.int .i64 6, .int .i64 2, .int .i64 1, .int .i64 1] 2 (0, 0))) ∧ zA (Below w.heap.size w w'))
  case atStart =>
    refine ⟨0, by omega, by omega, rfl, rfl, ⟨by simp [Je]⟩, ⟨?_⟩, ⟨?_⟩, ⟨?_⟩⟩
    · exact zH (QF rfl _) _
    · exact QF (by simp) _
    · exact zC (zC (yry _ _) _) _
  case round =>
    obtain ⟨i, hi, hg, rfl, rfl, HI, B1, B9, HB⟩ := hrel
    rcases (show i = 4 ∨ i = 3 ∨ i = 2 ∨ i = 1 ∨ i = 0 by omega) with rfl | rfl | rfl | rfl | rfl
    · go_wp2
      go_ret
      exact ⟨rfl, HB.out⟩
    · have b9 : wr.cell? ⟨w.heap.size + 1, 3, none⟩ = some (.int .i64 1) := (zK B9.out 3).trans rfl
      have b1 : wr.cell? ⟨w.heap.size, 3, none⟩ = some (.int .i64 (rd l (3 : Nat))) := (zK B1.out 3).trans (by rw [← HLL.out]; rfl)
      have hx : sm (rd l (3 : Nat)) := by have := HS.out; exact this.2.2.2
      have HD := zA.mk (show ∀ j : Nat, ZS l 3 (j + 1) = if rd l (j : Nat) < rd l (3 : Nat) then ZS l 3 j - 1 else ZS l 3 j from fun _ => rfl)
      have HD0 := zA.mk (show rd l (3 : Nat) = ZS l 3 0 from rfl)
      generalize rd l (3 : Nat) = xi at b1 HD HD0 hx
      go_wp2_with fail
      go_loopg [6, 22] 3 (fun gg v6 v22 w' => ∃ j : Nat, j ≤ 3 ∧ 3 - j ≤ gg ∧ v22 = .int .i64 j ∧ v6 = .int .i64 (ZS l 3 j) ∧ w' = wr)
      case atStart => exact ⟨0, by omega, by omega, rfl, by rw [HD0.out], rfl⟩
      case round =>
        obtain ⟨j, hj, hg2, rfl, rfl, rfl⟩ := hrel
        by_cases hlt : j < 3
        · have hltz : (j : Int) < 3 := by omega
          have bj : wr.cell? ⟨w.heap.size, j, none⟩ = some (.int .i64 (rd l (j : Nat))) := by
            have := Qm B1.out (j : Int) (by omega) (by omega)
            rw [HLL.out, yny] at this
            exact this
          have hbd := (HL.out.2.2.2 j)
          obtain ⟨hbd1, hbd2⟩ := hbd
          have HN := zA.mk (HD.out j)
          generalize ZS l 3 j = lv at HN hbd1 hbd2 ⊢
          generalize rd l (j : Nat) = xj at bj HN
          by_cases hless : xj < xi
          · have hd1 : decide (xj < xi) = true := ygy hless
            go_wp2
            go_roundg (3 - (j + 1))
            case measure => omega
            case rel => exact ⟨j + 1, by omega, by omega, by go_num, by rw [HN.out, if_pos hless], rfl⟩
          · have hd1 : decide (xj < xi) = false := yhy hless
            go_wp2
            go_roundg (3 - (j + 1))
            case measure => omega
            case rel => exact ⟨j + 1, by omega, by omega, by go_num, by rw [HN.out, if_neg (by omega)], rfl⟩
        · have hltz : ¬ (j : Int) < 3 := by omega
          obtain rfl : j = 3 := by omega
          have hbd := (HL.out.2.2.2 3)
          obtain ⟨hbd1, hbd2⟩ := hbd
          obtain ⟨hi1, hi2⟩ := HI.out
          have HN := zA.mk (show Je l 4 = Je l 3 + ZS l 3 3 * 1 from rfl)
          generalize ZS l 3 3 = lv at HN hbd1 hbd2 ⊢
          generalize Je l 3 = iv at HN hi1 hi2 ⊢
          go_wp2
          go_roundg (4 - 4)
          case measure => omega
          case rel => exact ⟨4, by omega, by omega, by first | rfl | go_num, by rw [HN.out]; rw [Int.mul_one], ⟨by rw [HN.out]; omega⟩, B1, B9, HB⟩
    · have b9 : wr.cell? ⟨w.heap.size + 1, 2, none⟩ = some (.int .i64 1) := (zK B9.out 2).trans rfl
      have b1 : wr.cell? ⟨w.heap.size, 2, none⟩ = some (.int .i64 (rd l (2 : Nat))) := (zK B1.out 2).trans (by rw [← HLL.out]; rfl)
      have hx : sm (rd l (2 : Nat)) := by have := HS.out; exact this.2.2.1
      have HD := zA.mk (show ∀ j : Nat, ZS l 2 (j + 1) = if rd l (j : Nat) < rd l (2 : Nat) then ZS l 2 j - 1 else ZS l 2 j from fun _ => rfl)
      have HD0 := zA.mk (show rd l (2 : Nat) = ZS l 2 0 from rfl)
      generalize rd l (2 : Nat) = xi at b1 HD HD0 hx
      go_wp2_with fail
      go_loopg [6, 22] 2 (fun gg v6 v22 w' => ∃ j : Nat, j ≤ 2 ∧ 2 - j ≤ gg ∧ v22 = .int .i64 j ∧ v6 = .int .i64 (ZS l 2 j) ∧ w' = wr)
      case atStart => exact ⟨0, by omega, by omega, rfl, by rw [HD0.out], rfl⟩
      case round =>
        obtain ⟨j, hj, hg2, rfl, rfl, rfl⟩ := hrel
        by_cases hlt : j < 2
        · have hltz : (j : Int) < 2 := by omega
          have bj : wr.cell? ⟨w.heap.size, j, none⟩ = some (.int .i64 (rd l (j : Nat))) := by
            have := Qm B1.out (j : Int) (by omega) (by omega)
            rw [HLL.out, yny] at this
            exact this
          have hbd := (HL.out.2.2.1 j)
          obtain ⟨hbd1, hbd2⟩ := hbd
          have HN := zA.mk (HD.out j)
          generalize ZS l 2 j = lv at HN hbd1 hbd2 ⊢
          generalize rd l (j : Nat) = xj at bj HN
          by_cases hless : xj < xi
          · have hd1 : decide (xj < xi) = true := ygy hless
            go_wp2
            go_roundg (2 - (j + 1))
            case measure => omega
            case rel => exact ⟨j + 1, by omega, by omega, by go_num, by rw [HN.out, if_pos hless], rfl⟩
          · have hd1 : decide (xj < xi) = false := yhy hless
            go_wp2
            go_roundg (2 - (j + 1))
            case measure => omega
            case rel => exact ⟨j + 1, by omega, by omega, by go_num, by rw [HN.out, if_neg (by omega)], rfl⟩
        · have hltz : ¬ (j : Int) < 2 := by omega
          obtain rfl : j = 2 := by omega
          have hbd := (HL.out.2.2.1 2)
          obtain ⟨hbd1, hbd2⟩ := hbd
          obtain ⟨hi1, hi2⟩ := HI.out
          have HN := zA.mk (show Je l 3 = Je l 2 + ZS l 2 2 * 1 from rfl)
          generalize ZS l 2 2 = lv at HN hbd1 hbd2 ⊢
          generalize Je l 2 = iv at HN hi1 hi2 ⊢
          go_wp2
          go_roundg (4 - 3)
          case measure => omega
          case rel => exact ⟨3, by omega, by omega, by first | rfl | go_num, by rw [HN.out]; rw [Int.mul_one], ⟨by rw [HN.out]; omega⟩, B1, B9, HB⟩
    · have b9 : wr.cell? ⟨w.heap.size + 1, 1, none⟩ = some (.int .i64 2) := (zK B9.out 1).trans rfl
      have b1 : wr.cell? ⟨w.heap.size, 1, none⟩ = some (.int .i64 (rd l (1 : Nat))) := (zK B1.out 1).trans (by rw [← HLL.out]; rfl)
      have hx : sm (rd l (1 : Nat)) := by have := HS.out; exact this.2.1
      have HD := zA.mk (show ∀ j : Nat, ZS l 1 (j + 1) = if rd l (j : Nat) < rd l (1 : Nat) then ZS l 1 j - 1 else ZS l 1 j from fun _ => rfl)
      have HD0 := zA.mk (show rd l (1 : Nat) = ZS l 1 0 from rfl)
      generalize rd l (1 : Nat) = xi at b1 HD HD0 hx
      go_wp2_with fail
      go_loopg [6, 22] 1 (fun gg v6 v22 w' => ∃ j : Nat, j ≤ 1 ∧ 1 - j ≤ gg ∧ v22 = .int .i64 j ∧ v6 = .int .i64 (ZS l 1 j) ∧ w' = wr)
      case atStart => exact ⟨0, by omega, by omega, rfl, by rw [HD0.out], rfl⟩
      case round =>
        obtain ⟨j, hj, hg2, rfl, rfl, rfl⟩ := hrel
        by_cases hlt : j < 1
        · have hltz : (j : Int) < 1 := by omega
          have bj : wr.cell? ⟨w.heap.size, j, none⟩ = some (.int .i64 (rd l (j : Nat))) := by
            have := Qm B1.out (j : Int) (by omega) (by omega)
            rw [HLL.out, yny] at this
            exact this
          have hbd := (HL.out.2.1 j)
          obtain ⟨hbd1, hbd2⟩ := hbd
          have HN := zA.mk (HD.out j)
          generalize ZS l 1 j = lv at HN hbd1 hbd2 ⊢
          generalize rd l (j : Nat) = xj at bj HN
          by_cases hless : xj < xi
          · have hd1 : decide (xj < xi) = true := ygy hless
            go_wp2
            go_roundg (1 - (j + 1))
            case measure => omega
            case rel => exact ⟨j + 1, by omega, by omega, by go_num, by rw [HN.out, if_pos hless], rfl⟩
          · have hd1 : decide (xj < xi) = false := yhy hless
            go_wp2
            go_roundg (1 - (j + 1))
            case measure => omega
            case rel => exact ⟨j + 1, by omega, by omega, by go_num, by rw [HN.out, if_neg (by omega)], rfl⟩
        · have hltz : ¬ (j : Int) < 1 := by omega
          obtain rfl : j = 1 := by omega
          have hbd := (HL.out.2.1 1)
          obtain ⟨hbd1, hbd2⟩ := hbd
          obtain ⟨hi1, hi2⟩ := HI.out
          have HN := zA.mk (show Je l 2 = Je l 1 + ZS l 1 1 * 2 from rfl)
          generalize ZS l 1 1 = lv at HN hbd1 hbd2 ⊢
          generalize Je l 1 = iv at HN hi1 hi2 ⊢
          go_wp2
          go_roundg (4 - 2)
          case measure => omega
          case rel => exact ⟨2, by omega, by omega, by first | rfl | go_num, by rw [HN.out], ⟨by rw [HN.out]; omega⟩, B1, B9, HB⟩
    · have b9 : wr.cell? ⟨w.heap.size + 1, 0, none⟩ = some (.int .i64 6) := (zK B9.out 0).trans rfl
      have b1 : wr.cell? ⟨w.heap.size, 0, none⟩ = some (.int .i64 (rd l (0 : Nat))) := (zK B1.out 0).trans (by rw [← HLL.out]; rfl)
      have hx : sm (rd l (0 : Nat)) := by have := HS.out; exact this.1
      have HD := zA.mk (show ∀ j : Nat, ZS l 0 (j + 1) = if rd l (j : Nat) < rd l (0 : Nat) then ZS l 0 j - 1 else ZS l 0 j from fun _ => rfl)
      have HD0 := zA.mk (show rd l (0 : Nat) = ZS l 0 0 from rfl)
      generalize rd l (0 : Nat) = xi at b1 HD HD0 hx
      go_wp2_with fail
      go_loopg [6, 22] 0 (fun gg v6 v22 w' => ∃ j : Nat, j ≤ 0 ∧ 0 - j ≤ gg ∧ v22 = .int .i64 j ∧ v6 = .int .i64 (ZS l 0 j) ∧ w' = wr)
      case atStart => exact ⟨0, by omega, by omega, rfl, by rw [HD0.out], rfl⟩
      case round =>
        obtain ⟨j, hj, hg2, rfl, rfl, rfl⟩ := hrel
        by_cases hlt : j < 0
        · have hltz : (j : Int) < 0 := by omega
          have bj : wr.cell? ⟨w.heap.size, j, none⟩ = some (.int .i64 (rd l (j : Nat))) := by
            have := Qm B1.out (j : Int) (by omega) (by omega)
            rw [HLL.out, yny] at this
            exact this
          have hbd := (HL.out.1 j)
          obtain ⟨hbd1, hbd2⟩ := hbd
          have HN := zA.mk (HD.out j)
          generalize ZS l 0 j = lv at HN hbd1 hbd2 ⊢
          generalize rd l (j : Nat) = xj at bj HN
          by_cases hless : xj < xi
          · have hd1 : decide (xj < xi) = true := ygy hless
            go_wp2
            go_roundg (0 - (j + 1))
            case measure => omega
            case rel => exact ⟨j + 1, by omega, by omega, by go_num, by rw [HN.out, if_pos hless], rfl⟩
          · have hd1 : decide (xj < xi) = false := yhy hless
            go_wp2
            go_roundg (0 - (j + 1))
            case measure => omega
            case rel => exact ⟨j + 1, by omega, by omega, by go_num, by rw [HN.out, if_neg (by omega)], rfl⟩
        · have hltz : ¬ (j : Int) < 0 := by omega
          obtain rfl : j = 0 := by omega
          have hbd := (HL.out.1 0)
          obtain ⟨hbd1, hbd2⟩ := hbd
          obtain ⟨hi1, hi2⟩ := HI.out
          have HN := zA.mk (show Je l 1 = Je l 0 + ZS l 0 0 * 6 from rfl)
          generalize ZS l 0 0 = lv at HN hbd1 hbd2 ⊢
          generalize Je l 0 = iv at HN hi1 hi2 ⊢
          go_wp2
          go_roundg (4 - 1)
          case measure => omega
          case rel => exact ⟨1, by omega, by omega, by first | rfl | go_num, by rw [HN.out], ⟨by rw [HN.out]; omega⟩, B1, B9, HB⟩
def JK.f (a0 : Int) (a1 : Int) : Option (Int) := if a0 > a1 then (some (wrap64 ((wrap64 ((wrap64 ((wrap64 (Int.tdiv (wrap64 (a1 * (wrap64 (7 - a1)))) 2)) + a0)) - a1)) - 1))) else (some (wrap64 ((wrap64 ((wrap64 ((wrap64 (Int.tdiv (wrap64 (a0 * (wrap64 (7 - a0)))) 2)) + a1)) - a0)) - 1)))
set_option maxHeartbeats 8000000 in
set_option maxRecDepth 100000 in
theorem JK.calls (a0 : Int) (a1 : Int) (r : Int) (w : World) (h : JK.f a0 a1 = some r) :
    Calls Try.prog 165 #[.int .i64 a0, .int .i64 a1] w fun e w' => e = .returned (.int .i64 r) ∧ zZ w w' := by
  have H : (if a0 > a1 then (some (wrap64 ((wrap64 ((wrap64 ((wrap64 (Int.tdiv (wrap64 (a1 * (wrap64 (7 - a1)))) 2)) + a0)) - a1)) - 1))) else (some (wrap64 ((wrap64 ((wrap64 ((wrap64 (Int.tdiv (wrap64 (a0 * (wrap64 (7 - a0)))) 2)) + a1)) - a0)) - 1)))) = some r := h
  clear h
  by_cases c3 : a0 > a1
  · rw [if_pos c3] at H
    have c3b0 : decide (a1 < a0) = true := ygy c3
    clear c3
    obtain rfl := yey H
    go_enter Try.func165, Try.ntmps165
    go_wp2
    go_ret
    exact ⟨by first | rfl | (simp; done) | (simp [*]; done), by repeat (first | exact zZ.refl _ | apply zZ.step)⟩
  · rw [if_neg c3] at H
    have c3b0 : decide (a1 < a0) = false := yhy c3
    clear c3
    obtain rfl := yey H
    go_enter Try.func165, Try.ntmps165
    go_wp2
    go_ret
    exact ⟨by first | rfl | (simp; done) | (simp [*]; done), by repeat (first | exact zZ.refl _ | apply zZ.step)⟩
def QB.f (a0 : Int) : Option (Int) := some (wrap64 (5 - a0))
set_option maxHeartbeats 8000000 in
set_option maxRecDepth 100000 in
theorem QB.calls (a0 : Int) (r : Int) (w : World) (h : QB.f a0 = some r) :
    Calls Try.prog 166 #[.int .i64 a0] w fun e w' => e = .returned (.int .i64 r) ∧ zZ w w' := by
  have H : (some (wrap64 (5 - a0))) = some r := h
  clear h
  obtain rfl := yey H
  go_enter Try.func166, Try.ntmps166
  go_wp2
  go_ret
  exact ⟨by first | rfl | (simp; done) | (simp [*]; done), by repeat (first | exact zZ.refl _ | apply zZ.step)⟩
def Jp.f (a0 : Int) (a1 : Int) : Option (Int) := (JK.f a0 a1).bind fun t101 => (if t101 < 3 then (some t101) else ((QB.f t101).bind fun t102 => (some t102)))
set_option maxHeartbeats 8000000 in
set_option maxRecDepth 100000 in
theorem Jp.calls (a0 : Int) (a1 : Int) (r : Int) (w : World) (h : Jp.f a0 a1 = some r) :
    Calls Try.prog 164 #[.int .i64 a0, .int .i64 a1] w fun e w' => e = .returned (.int .i64 r) ∧ zZ w w' := by
  have H : ((JK.f a0 a1).bind fun t101 => (if t101 < 3 then (some t101) else ((QB.f t101).bind fun t102 => (some t102)))) = some r := h
  clear h
  replace H := ydy.mp H
  obtain ⟨t101, A30, H⟩ := H
  replace H : (if t101 < 3 then (some t101) else ((QB.f t101).bind fun t102 => (some t102))) = some r := H
  have A3 := zA.mk A30
  clear A30
  by_cases c4 : t101 < 3
  · rw [if_pos c4] at H
    have c4b0 : decide (t101 < 3) = true := ygy c4
    clear c4
    obtain rfl := yey H
    go_enter Try.func164, Try.ntmps164
    go_wp2_with (first | ((with_reducible refine zS (f := 165) rfl ?_); refine qB (some 8) rfl rfl Try.func165 (by kernel_rfl) rfl #[.int .i64 a0, .int .i64 a1] rfl (by (try simp only [yiy, yjy, yky]); first | done | rfl | (simp only [yly, ymy]; rfl)) ?_; (with_reducible refine (JK.calls a0 a1 t101 _ A3.out).mono ?_); rintro e w' ⟨rfl, ⟨nd, rfl⟩⟩; refine ⟨_, rfl, ?_⟩))
    go_ret
    exact ⟨by first | rfl | (simp; done) | (simp [*]; done), by repeat (first | exact zZ.refl _ | apply zZ.step)⟩
  · rw [if_neg c4] at H
    have c4b0 : decide (t101 < 3) = false := yhy c4
    clear c4
    replace H := ydy.mp H
    obtain ⟨t102, A50, H⟩ := H
    replace H : (some t102) = some r := H
    have A5 := zA.mk A50
    clear A50
    obtain rfl := yey H
    go_enter Try.func164, Try.ntmps164
    go_wp2_with (first | ((with_reducible refine zS (f := 165) rfl ?_); refine qB (some 8) rfl rfl Try.func165 (by kernel_rfl) rfl #[.int .i64 a0, .int .i64 a1] rfl (by (try simp only [yiy, yjy, yky]); first | done | rfl | (simp only [yly, ymy]; rfl)) ?_; (with_reducible refine (JK.calls a0 a1 t101 _ A3.out).mono ?_); rintro e w' ⟨rfl, ⟨nd, rfl⟩⟩; refine ⟨_, rfl, ?_⟩) | ((with_reducible refine zS (f := 166) rfl ?_); refine qB (some 13) rfl rfl Try.func166 (by kernel_rfl) rfl #[.int .i64 t101] rfl (by (try simp only [yiy, yjy, yky]); first | done | rfl | (simp only [yly, ymy]; rfl)) ?_; (with_reducible refine (QB.calls t101 t102 _ A5.out).mono ?_); rintro e w' ⟨rfl, ⟨nd, rfl⟩⟩; refine ⟨_, rfl, ?_⟩))
    go_ret
    exact ⟨by first | rfl | (simp; done) | (simp [*]; done), by repeat (first | exact zZ.refl _ | apply zZ.step)⟩
def qd (a b : Int) : Int := if a = 0 then b - 1 else if b = 0 then a - 1 else 5 - a - b
theorem zDM {a b : Int} (ha : sm a) (hb : sm b) (hne : a ≠ b) : Jp.f a b = some (qd a b) ∧ 0 ≤ qd a b ∧ qd a b ≤ 2 := by
  obtain ⟨ha0, ha1⟩ := ha
  obtain ⟨hb0, hb1⟩ := hb
  rcases (show a = 0 ∨ a = 1 ∨ a = 2 ∨ a = 3 by omega) with rfl | rfl | rfl | rfl <;> rcases (show b = 0 ∨ b = 1 ∨ b = 2 ∨ b = 3 by omega) with rfl | rfl | rfl | rfl <;> first | exact absurd rfl hne | decide +kernel
theorem zCt {p : Int} (h0 : 0 ≤ p) (h1 : p ≤ 23) {a b : Int} (ha : sm a) (hb : sm b) (hne : a ≠ b) : rd (ZN p) a ≠ rd (ZN p) b := by
  obtain ⟨ha0, ha1⟩ := ha
  obtain ⟨hb0, hb1⟩ := hb
  obtain ⟨n, rfl⟩ := Int.eq_ofNat_of_zero_le h0
  have key : ∀ m : Fin 24, zw (m.val : Int) 0 ≠ zw (m.val : Int) 1 ∧ zw (m.val : Int) 0 ≠ zw (m.val : Int) 2 ∧ zw (m.val : Int) 0 ≠ zw (m.val : Int) 3 ∧ zw (m.val : Int) 1 ≠ zw (m.val : Int) 2 ∧ zw (m.val : Int) 1 ≠ zw (m.val : Int) 3 ∧ zw (m.val : Int) 2 ≠ zw (m.val : Int) 3 := by decide
  obtain ⟨k1, k2, k3, k4, k5, k6⟩ := key ⟨n, by omega⟩
  dsimp only at k1 k2 k3 k4 k5 k6
  rcases (show a = 0 ∨ a = 1 ∨ a = 2 ∨ a = 3 by omega) with rfl | rfl | rfl | rfl <;> rcases (show b = 0 ∨ b = 1 ∨ b = 2 ∨ b = 3 by omega) with rfl | rfl | rfl | rfl <;> first | exact absurd rfl hne | assumption | exact Ne.symm (by assumption)
def zAL (r : List Int) (i : Int) : List Int := r.set i.toNat (wrap64 (rd r i + 1))
def zAY (r : List Int) (i : Int) : List Int := r.set i.toNat (wrap64 (rd r i - 1))
theorem zCu (r : List Int) (i : Int) : (zAL r i).length = r.length := List.length_set
theorem zCv (r : List Int) (i : Int) : (zAY r i).length = r.length := List.length_set
def zDE (cols : Nat) (j f b : Int) (p : List Int) (c : Int) : List Int :=
  zAY (zAY (zAL (zAL (List.replicate cols 0) (7 * j + c)) (7 * j + 4 + qd c f)) (7 * b + rd p c)) (7 * b + 4 + qd (rd p c) (rd p f))
theorem zDN (cols : Nat) (j f b : Int) (p : List Int) (c : Int) : (zDE cols j f b p c).length = cols := by simp [zDE, zCu, zCv]
def Qj (cols : Nat) (j f b : Int) (p : List Int) : List Int → List Int × Int → List Int × Int
  | [], s => s
  | c :: cs, s => Qj cols j f b p cs (s.1 ++ zDE cols j f b p c, s.2 + 1)
theorem zBA (cols : Nat) (j f b : Int) (p : List Int) : ∀ (L : List Int) (s : List Int × Int), (Qj cols j f b p L s).2.toNat ≤ s.2.toNat + L.length
  | [], s => yqy _
  | c :: cs, s => by
    rw [Qj]
    have := zBA cols j f b p cs (s.1 ++ zDE cols j f b p c, s.2 + 1)
    have h2 : (s.2 + 1).toNat ≤ s.2.toNat + 1 := by omega
    simp only [List.length_cons]
    dsimp only at this
    omega
def zAM (cols : Nat) (s : List Int × Int) (j f : Nat) (x : zq) : List Int × Int :=
  if 4 * x.f0 + rd (ZN x.f1) (f : Int) < 4 * (j : Int) + (f : Int) then s else Qj cols j f x.f0 (ZN x.f1) (zEI [(f : Int)]) s
theorem zFg {f c : Int} (h : c ∈ zEI [f]) : sm c ∧ c ≠ f := by
  unfold zEI at h
  obtain ⟨h1, h2⟩ := List.mem_filter.1 h
  refine ⟨?_, fun e => by simp [e] at h2⟩
  simp only [List.mem_cons, List.not_mem_nil, or_false] at h1
  unfold sm; omega
theorem zDq (f : Int) : (zEI [f]).length ≤ 4 := by
  unfold zEI
  exact List.length_filter_le _ _
theorem zEL {f : Int} (h : sm f) : (zEI [f]).length = 3 := by
  obtain ⟨h0, h1⟩ := h
  rcases (show f = 0 ∨ f = 1 ∨ f = 2 ∨ f = 3 by omega) with rfl | rfl | rfl | rfl <;> decide
structure zCO (w0 : World) (gm : Nat) (cols : Nat) (s : List Int × Int) (W : World) : Prop where
  below : Below w0.heap.size w0 W
  ex : ∃ v, W.heap[gm]? = some (.cells #[.int .i64 s.2, .int .i64 (cols : Int), v] 151 (0, 0)) ∧ Kd.R (Kd.int .i64) 2 W w0.heap.size (fun _ => True) v s.1
  own : w0.heap.size ≤ gm
  len : s.1.length ≤ 60 * s.2.toNat ∧ 0 ≤ s.2
theorem zCO.stays {w0 W W1 : World} {gm cols : Nat} {s : List Int × Int} (h : zCO w0 gm cols s W) (hb : Below W.heap.size W W1) : zCO w0 gm cols s W1 := by
  obtain ⟨v, h1, h2⟩ := h.ex
  exact ⟨zN h.below hb, ⟨v, zP h1 hb, Kd.Zk h2 hb⟩, h.own, h.len⟩
structure MmL (w0 : World) (gm gF gI gO cO gR : Nat) (cols : Nat) (f0 f1 x0 x1 x2 x3 : Int) (L s1 : List Int) (s2 : Int) (vc va : Value) (W : World) : Prop where
  below : Below w0.heap.size w0 W
  bM : W.heap[gm]? = some (.cells #[.int .i64 s2, .int .i64 (cols : Int), vc] 151 (0, 0))
  bF : W.heap[gF]? = some (.cells #[.int .i64 f0, .int .i64 f1] 59 (0, 0))
  bI : W.heap[gI]? = some (.cells #[.int .i64 x0, .int .i64 x1, .int .i64 x2, .int .i64 x3] 94 (0, 0))
  rL : Kd.R (Kd.int .i64) 2 W w0.heap.size (fun k => k = gO) (.slice (some ⟨gO, 0, none⟩) L.length cO) L
  rE : Kd.R (Kd.int .i64) 2 W w0.heap.size (fun k => k ≠ gO ∧ k ≠ gR) va s1
  own : w0.heap.size ≤ gm
section
variable {w0 W W1 : World} {gm gF gI gO cO gR g cols : Nat} {f0 f1 x0 x1 x2 x3 : Int} {L s1 s1' r : List Int} {s2 : Int} {vc va v1 : Value}
theorem MmL.stays (h : MmL w0 gm gF gI gO cO gR cols f0 f1 x0 x1 x2 x3 L s1 s2 vc va W) (hb : Below W.heap.size W W1) : MmL w0 gm gF gI gO cO gR cols f0 f1 x0 x1 x2 x3 L s1 s2 vc va W1 :=
  ⟨zN h.below hb, zP h.bM hb, zP h.bF hb, zP h.bI hb, Kd.Zk h.rL hb, Kd.Zk h.rE hb, h.own⟩
theorem MmL.again (h : MmL w0 gm gF gI gO cO gR cols f0 f1 x0 x1 x2 x3 L s1 s2 vc va W) : MmL w0 gm gF gI gO cO gO cols f0 f1 x0 x1 x2 x3 L s1 s2 vc va W :=
  ⟨h.below, h.bM, h.bF, h.bI, h.rL, Kd.qW h.rE (fun _ hk => ⟨hk.1, hk.1⟩), h.own⟩
theorem MmL.newrow (h : MmL w0 gm gF gI gO cO gO cols f0 f1 x0 x1 x2 x3 L s1 s2 vc va W) (hb : Below W.heap.size W W1) (hg : W.heap.size ≤ g) : MmL w0 gm gF gI gO cO g cols f0 f1 x0 x1 x2 x3 L s1 s2 vc va W1 :=
  ⟨zN h.below hb, zP h.bM hb, zP h.bF hb, zP h.bI hb, Kd.Zk h.rL hb, Kd.Zk (Kd.qW (Kd.QO h.rE) (fun k hk => ⟨hk.1.1, by have := hk.2.2.1; omega⟩)) hb, h.own⟩
theorem MmL.put (h : MmL w0 gm gF gI gO cO gR cols f0 f1 x0 x1 x2 x3 L s1 s2 vc va W) {cR n : Nat} {ok : Nat → Prop} {b : Nat} (hr : Kd.R (Kd.int .i64) 2 W b ok (.slice (some ⟨gR, 0, none⟩) n cR) r) (hne : gR ≠ gO) (hg : w0.heap.size ≤ gR) (i : Nat) (u : Value) : MmL w0 gm gF gI gO cO gR cols f0 f1 x0 x1 x2 x3 L s1 s2 vc va (W.setCell ⟨gR, i, none⟩ u) := by
  obtain ⟨cells, hc⟩ := Kd.zA6 hr gR (by simp [Value.ownBlock])
  exact ⟨zF h.below hg, qX (p := ⟨gR, i, none⟩) h.bM (zAh h.bM hc (by decide)) _, qX (p := ⟨gR, i, none⟩) h.bF (zAh h.bF hc (by decide)) _, qX (p := ⟨gR, i, none⟩) h.bI (zAh h.bI hc (by decide)) _, Kd.zCg (p := ⟨gR, i, none⟩) h.rL (fun k hk => by rw [hk]; exact fun e => hne e.symm) _, Kd.zCg (p := ⟨gR, i, none⟩) h.rE (fun k hk => hk.2) _, h.own⟩
theorem MmL.grown (h : MmL w0 gm gF gI gO cO gR cols f0 f1 x0 x1 x2 x3 L s1 s2 vc va W) (ho : Kd.R (Kd.int .i64) 2 W1 w0.heap.size (fun k => k ≠ gO ∧ k ≠ gR) v1 s1') (hb : Below w0.heap.size w0 W1) (hg : W.grownBy W1 va.ownBlock) : MmL w0 gm gF gI gO cO gR cols f0 f1 x0 x1 x2 x3 L s1' s2 vc v1 W1 := by
  have hne : ∀ (g : Nat) (T : TypeId) (c : Array Value), T ≠ 2 → W.heap[g]? = some (.cells c T (0, 0)) → some g ≠ va.ownBlock := fun g T c hT hc e => by
    obtain ⟨cells, hc2⟩ := Kd.zA6 h.rE g e.symm
    exact zAh hc hc2 hT rfl
  exact ⟨hb, ZA h.bM hg (hne _ _ _ (by decide) h.bM), ZA h.bF hg (hne _ _ _ (by decide) h.bF), ZA h.bI hg (hne _ _ _ (by decide) h.bI), Kd.zEh h.rL hg (fun k hk e => (h.rE.1 k e.symm).1 hk), ho, h.own⟩
theorem MmL.ents (h : MmL w0 gm gF gI gO cO gR cols f0 f1 x0 x1 x2 x3 L s1 s2 vc va W) : MmL w0 gm gF gI gO cO gR cols f0 f1 x0 x1 x2 x3 L s1 s2 va va (W.setCell ⟨gm, 2, none⟩ va) :=
  ⟨zF h.below h.own, qe h.bM 2 _ rfl, qX (p := ⟨gm, 2, none⟩) h.bF (zAh h.bF h.bM (by decide)) _, qX (p := ⟨gm, 2, none⟩) h.bI (zAh h.bI h.bM (by decide)) _, Kd.qW (Kd.zAz h.rL h.bM (by decide) 2 _) (fun _ hk => hk), Kd.qW (Kd.zAz h.rE h.bM (by decide) 2 _) (fun _ hk => hk), h.own⟩
theorem MmL.rows (h : MmL w0 gm gF gI gO cO gR cols f0 f1 x0 x1 x2 x3 L s1 s2 vc va W) (n : Int) : MmL w0 gm gF gI gO cO gR cols f0 f1 x0 x1 x2 x3 L s1 n vc va (W.setCell ⟨gm, 0, none⟩ (.int .i64 n)) :=
  ⟨zF h.below h.own, qe h.bM 0 _ rfl, qX (p := ⟨gm, 0, none⟩) h.bF (zAh h.bF h.bM (by decide)) _, qX (p := ⟨gm, 0, none⟩) h.bI (zAh h.bI h.bM (by decide)) _, Kd.qW (Kd.zAz h.rL h.bM (by decide) 0 _) (fun _ hk => hk), Kd.qW (Kd.zAz h.rE h.bM (by decide) 0 _) (fun _ hk => hk), h.own⟩
end
theorem zBB (p : Int) (h0 : 0 ≤ p) (h1 : p ≤ 23) : sm (zw p 0) ∧ sm (zw p 1) ∧ sm (zw p 2) ∧ sm (zw p 3) := by
  obtain ⟨n, rfl⟩ := Int.eq_ofNat_of_zero_le h0
  have hn : n < 24 := by omega
  have key : ∀ m : Fin 24, (0 ≤ zw (m.val : Int) 0 ∧ zw (m.val : Int) 0 ≤ 3) ∧ (0 ≤ zw (m.val : Int) 1 ∧ zw (m.val : Int) 1 ≤ 3) ∧ (0 ≤ zw (m.val : Int) 2 ∧ zw (m.val : Int) 2 ≤ 3) ∧ (0 ≤ zw (m.val : Int) 3 ∧ zw (m.val : Int) 3 ≤ 3) := by decide
  exact key ⟨n, hn⟩
def Qq (l : List Int) : Nat → List Int
  | 0 => [0, 0, 0, 0]
  | i + 1 => (Qq l i).set (rd l i).toNat i
theorem zBl (l : List Int) : ∀ i, i ≤ 4 → ∀ x ∈ Qq l i, sm x
  | 0, _, x, hx => by
    have : x = 0 := by simp [Qq] at hx; exact hx
    subst this; exact ⟨by omega, by omega⟩
  | i + 1, hi, x, hx => by
    rw [Qq] at hx
    rcases List.mem_or_eq_of_mem_set hx with h | rfl
    · exact zBl l i (by omega) x h
    · exact ⟨by omega, by omega⟩
def zEM (p : Int) : Int := idxL (Qq (ZN p) 4)
theorem zBm {a b c d : Int} (ha : sm a) (hb : sm b) (hc : sm c) (hd : sm d) (f : Int) (h0 : 0 ≤ f) (h1 : f ≤ 3) : sm (rd [a, b, c, d] f) := by
  rcases (show f = 0 ∨ f = 1 ∨ f = 2 ∨ f = 3 by omega) with rfl | rfl | rfl | rfl <;> assumption
section
variable {W : World} {b g n cap e : Nat} {ok : Nat → Prop} {r : List Int} {i y : Int}
theorem zEz (h : Kd.R (Kd.int .i64) e W b ok (.slice (some ⟨g, 0, none⟩) n cap) r) (hy : rd r i = y) : Kd.R (Kd.int .i64) e (W.setCell ⟨g, i.toNat, none⟩ (.int .i64 (wrap64 (y + 1)))) b ok (.slice (some ⟨g, 0, none⟩) n cap) (zAL r i) := by subst hy; exact (Kd.Jh h i _).1
theorem zF0 (h : Kd.R (Kd.int .i64) e W b ok (.slice (some ⟨g, 0, none⟩) n cap) r) (hy : rd r i = y) : Kd.R (Kd.int .i64) e (W.setCell ⟨g, i.toNat, none⟩ (.int .i64 (wrap64 (y - 1)))) b ok (.slice (some ⟨g, 0, none⟩) n cap) (zAY r i) := by subst hy; exact (Kd.Jh h i _).1
theorem zG0 (h : Kd.R (Kd.int .i64) e W b ok (.slice (some ⟨g, 0, none⟩) n cap) r) (h0 : 0 ≤ i) (h1 : i < n) (hy : rd r i = y) : W.cell? ⟨g, i.toNat, none⟩ = some (.int .i64 y) ∧ W.frozen? ⟨g, i.toNat, none⟩ = false := by subst hy; exact Kd.Zw 0 h i h0 h1
end
theorem wid {x : Int} (h0 : -9223372036854775808 ≤ x) (h1 : x ≤ 9223372036854775807) : wrap64 x = x := by unfold wrap64; omega
theorem JL {w : World} {g : Nat} {T : TypeId} {a b c d e f : Int} (h : w.heap[g]? = some (.cells #[.int .i64 a, .int .i64 b, .int .i64 c, .int .i64 d] T (0, 0))) (h0 : 0 ≤ f) (h1 : f ≤ 3) (he : rd [a, b, c, d] f = e) : w.cell? ⟨g, f.toNat, none⟩ = some (.int .i64 e) := by
 rw [Qm h f h0 h1, he]
set_option maxHeartbeats 8000000 in
set_option maxRecDepth 100000 in
theorem Jq.calls (w0 w : World) (gm cols : Nat) (s : List Int × Int) (j f : Nat) (f0 f1 : Int) (hI : zCO w0 gm cols s w) (hn : s.2.toNat ≤ 1000) (hj : 7 * (j : Int) + 7 ≤ (cols : Int)) (hf : (f : Int) ≤ 3) (hf0 : 0 ≤ f0) (hf1 : 7 * f0 + 7 ≤ (cols : Int)) (hp0 : 0 ≤ f1) (hp1 : f1 ≤ 23) (hcols : cols ≤ 56) :
 Calls Try.prog 163 #[.int .i64 (j : Int), .int .i64 (f : Int), .agg #[.int .i64 f0, .int .i64 f1], .agg #[.int .i64 (zw f1 0), .int .i64 (zw f1 1), .int .i64 (zw f1 2), .int .i64 (zw f1 3)], .pointer (some ⟨gm, 0, none⟩)] w fun e w' => e = .returned (.tuple #[]) ∧ zCO w0 gm cols (zAM cols s j f ⟨f0, f1⟩) w' := by
 obtain ⟨y0, y1, y2, y3⟩ := zBB f1 hp0 hp1
 have hinj : ∀ a b : Int, sm a → sm b → a ≠ b → rd (ZN f1) a ≠ rd (ZN f1) b := fun a b ha hb hne => zCt hp0 hp1 ha hb hne
 have hstep : zAM cols s j f ⟨f0, f1⟩ = if 4 * f0 + rd (ZN f1) (f : Int) < 4 * (j : Int) + (f : Int) then s else Qj cols j f f0 (ZN f1) (zEI [(f : Int)]) s := rfl
 have hpl : ZN f1 = [zw f1 0, zw f1 1, zw f1 2, zw f1 3] := rfl
 rw [hpl] at hstep hinj
 have HPL := zA.mk hpl
 generalize zw f1 0 = x0 at *
 generalize zw f1 1 = x1 at *
 generalize zw f1 2 = x2 at *
 generalize zw f1 3 = x3 at *
 clear HPL hpl
 have HP : zA (∀ c, sm c → sm (rd [x0, x1, x2, x3] c)) := ⟨fun c hc => zBm y0 y1 y2 y3 c hc.1 hc.2⟩
 have HJ := zA.mk hinj
 have HF := zA.mk (show sm (f : Int) from ⟨by omega, hf⟩)
 have hxf := HP.out _ HF.out
 have HSP := zA.mk hstep
 generalize zAM cols s j f ⟨f0, f1⟩ = R at HSP ⊢
 generalize hxfe : rd [x0, x1, x2, x3] (f : Int) = xf at hxf HSP
 have HXF := zA.mk hxfe
 obtain ⟨hxf0, hxf1⟩ := hxf
 have HI := zA.mk hI
 have HN := zA.mk hn
 clear hI hn hxfe hstep hinj y0 y1 y2 y3
 have hf9 : (0 : Int) ≤ (f : Int) := by omega
 have hf4 : (f : Int) < 4 := by omega
 have ht := Try.underlying94
 go_enter Try.func163, Try.ntmps163
 go_wp2
 have BF := zA.mk (zH (QF (W := w) rfl (.cells #[.int .i64 f0, .int .i64 f1] 59)) (.cells #[.int .i64 x0, .int .i64 x1, .int .i64 x2, .int .i64 x3] 94))
 have BI := zA.mk (QF (W := w.alloc (.cells #[.int .i64 f0, .int .i64 f1] 59)) (n := w.heap.size + 1) (by simp) (.cells #[.int .i64 x0, .int .i64 x1, .int .i64 x2, .int .i64 x3] 94))
 have HB := zA.mk (zC (zC (yry w.heap.size w) (.cells #[.int .i64 f0, .int .i64 f1] 59)) (.cells #[.int .i64 x0, .int .i64 x1, .int .i64 x2, .int .i64 x3] 94))
 generalize hgI : w.heap.size + 1 = gI at *
 generalize hgF : w.heap.size = gF at *
 have hne1 : gF < gI := by omega
 generalize World.alloc (World.alloc w _) _ = wB at *
 have q0 : wB.cell? ⟨gF, 0, none⟩ = some (.int .i64 f0) := (zK BF.out 0).trans rfl
 have q1 : wB.cell? ⟨gI, f, none⟩ = some (.int .i64 xf) := by have q := JL BI.out hf9 hf HXF.out; rwa [yny] at q
 by_cases hgt : 4 * f0 + xf < 4 * (j : Int) + (f : Int)
 next =>
  have HS := zA.mk (HSP.out.trans (if_pos hgt))
  clear HSP
  refine QG (n := 12) (S := fun w' => w'.cell? ⟨gF, 0, none⟩ = some (.int .i64 f0) ∧ w'.cell? ⟨gI, f, none⟩ = some (.int .i64 xf)) (ds := []) #[false, false, false, false, false, false, false, false, false, false, false, false] (by kernel_rfl) rfl rfl ⟨q0, q1⟩ (fun hHeld => ?_)
  refine zo (i := 0) (N := some 12) (v := ?_) (a' := ?_) #[true, false, false, false, false, false, false, false, false, false, false, false] rfl rfl (by kernel_rfl) (fun _ _ _ h => h) (Or.inl ⟨by rfl, ?_⟩) ?_ ?_
  rotate_left
  next =>
   intro w'
   go_simp
   with_reducible rfl
  rotate_left
  next =>
   simp only [Act.put, yay, yby, ycy, zW, zX]
   rfl
  refine zo (i := 1) (N := some 13) (v := ?_) (a' := ?_) #[true, true, false, false, false, false, false, false, false, false, false, false] rfl rfl (by kernel_rfl) (fun _ _ _ h => h) (Or.inl ⟨by rfl, ?_⟩) ?_ ?_
  rotate_left
  next =>
   intro w'
   go_simp
   with_reducible rfl
  rotate_left
  next =>
   simp only [Act.put, yay, yby, ycy, zW, zX]
   rfl
  refine zo (i := 2) (N := some 14) (v := ?_) (a' := ?_) #[true, true, true, false, false, false, false, false, false, false, false, false] rfl rfl (by kernel_rfl) (fun _ _ _ h => h) (Or.inl ⟨by rfl, ?_⟩) ?_ ?_
  rotate_left
  next =>
   intro w'
   go_simp
   with_reducible rfl
  rotate_left
  next =>
   simp only [Act.put, yay, yby, ycy, zW, zX]
   rfl
  refine zo (i := 3) (N := some 15) (v := ?_) (a' := ?_) #[true, true, true, true, false, false, false, false, false, false, false, false] rfl rfl (by kernel_rfl) (fun _ _ _ h => h) (Or.inl ⟨by rfl, ?_⟩) ?_ ?_
  rotate_left
  next =>
   intro w'
   go_simp
   with_reducible rfl
  rotate_left
  next =>
   simp only [Act.put, yay, yby, ycy, zW, zX]
   rfl
  refine zo (i := 4) (N := some 16) (v := ?_) (a' := ?_) #[true, true, true, true, true, false, false, false, false, false, false, false] rfl rfl (by kernel_rfl) (fun _ _ _ h => h) (Or.inl ⟨by rfl, ?_⟩) ?_ ?_
  rotate_left
  next =>
   intro w'
   go_simp
   with_reducible rfl
  rotate_left
  next =>
   simp only [Act.put, yay, yby, ycy, zW, zX]
   rfl
  refine ZV (i := 5) (N := some 17) (v := ?_) (a' := ?_) #[true, true, true, true, true, true, false, false, false, false, false, false] rfl rfl (by kernel_rfl) (fun _ _ _ h => h) (Or.inl ⟨by rfl, ?_⟩) hHeld ?_ ?_
  rotate_left
  next =>
   rintro w' ⟨s0, s1⟩
   go_simp
   with_reducible rfl
  rotate_left
  next =>
   simp only [Act.put, yay, yby, ycy, zW, zX]
   rfl
  refine zo (i := 6) (N := some 18) (v := ?_) (a' := ?_) #[true, true, true, true, true, true, true, false, false, false, false, false] rfl rfl (by kernel_rfl) (fun _ _ _ h => h) (Or.inl ⟨by rfl, ?_⟩) ?_ ?_
  rotate_left
  next =>
   intro w'
   go_simp
   with_reducible rfl
  rotate_left
  next =>
   simp only [Act.put, yay, yby, ycy, zW, zX]
   rfl
  refine zo (i := 7) (N := some 19) (v := ?_) (a' := ?_) #[true, true, true, true, true, true, true, true, false, false, false, false] rfl rfl (by kernel_rfl) (fun _ _ _ h => h) (Or.inl ⟨by rfl, ?_⟩) ?_ ?_
  rotate_left
  next =>
   intro w'
   go_simp
   with_reducible rfl
  rotate_left
  next =>
   simp only [Act.put, yay, yby, ycy, zW, zX]
   rfl
  refine zo (i := 8) (N := some 20) (v := ?_) (a' := ?_) #[true, true, true, true, true, true, true, true, true, false, false, false] rfl rfl (by kernel_rfl) (fun _ _ _ h => h) (Or.inl ⟨by rfl, ?_⟩) ?_ ?_
  rotate_left
  next =>
   intro w'
   go_simp
   with_reducible rfl
  rotate_left
  next =>
   simp only [Act.put, yay, yby, ycy, zW, zX]
   rfl
  refine ZV (i := 9) (N := some 21) (v := ?_) (a' := ?_) #[true, true, true, true, true, true, true, true, true, true, false, false] rfl rfl (by kernel_rfl) (fun _ _ _ h => h) (Or.inl ⟨by rfl, ?_⟩) hHeld ?_ ?_
  rotate_left
  next =>
   rintro w' ⟨s0, s1⟩
   go_simp
   with_reducible rfl
  rotate_left
  next =>
   simp only [Act.put, yay, yby, ycy, zW, zX]
   rfl
  refine zo (i := 10) (N := some 22) (v := ?_) (a' := ?_) #[true, true, true, true, true, true, true, true, true, true, true, false] rfl rfl (by kernel_rfl) (fun _ _ _ h => h) (Or.inl ⟨by rfl, ?_⟩) ?_ ?_
  rotate_left
  next =>
   intro w'
   go_simp
   with_reducible rfl
  rotate_left
  next =>
   simp only [Act.put, yay, yby, ycy, zW, zX]
   rfl
  refine zo (i := 11) (N := some 23) (v := ?_) (a' := ?_) #[true, true, true, true, true, true, true, true, true, true, true, true] rfl rfl (by kernel_rfl) (fun _ _ _ h => h) (Or.inl ⟨by rfl, ?_⟩) ?_ ?_
  rotate_left
  next =>
   intro w'
   go_simp
   with_reducible rfl
  rotate_left
  next =>
   simp only [Act.put, yay, yby, ycy, zW, zX]
   rfl
  refine Qy (by kernel_rfl) ?_
  have HB2 := zA.mk (zD HB.out)
  clear HB hHeld q0 q1
  generalize wB.drew = wd at *
  have d0 : decide (wrap64 (wrap64 (4 * f0) + xf) < wrap64 (wrap64 (4 * (j : Int)) + (f : Int))) = true := by rw [wid (show -9223372036854775808 ≤ 4 * f0 by omega) (by omega), wid (show -9223372036854775808 ≤ 4 * (j : Int) by omega) (by omega), wid (by omega) (by omega), wid (by omega) (by omega)]; exact ygy hgt
  rw [d0]
  clear d0
  go_wp2
  first | go_end0 | ((try simp only [Exit.inBlock, Exit.then]); refine bodyPost_ret (results_none rfl _ _ _) rfl ?_)
  refine ⟨?_, ?_⟩
  next =>
   first | rfl | (simp <;> rfl)
  next =>
   rw [HS.out]
   exact HI.out.stays (by rw [hgF]; exact HB2.out)
 next =>
  have HS := zA.mk (HSP.out.trans (if_neg hgt))
  clear HSP
  refine QG (n := 12) (S := fun w' => w'.cell? ⟨gF, 0, none⟩ = some (.int .i64 f0) ∧ w'.cell? ⟨gI, f, none⟩ = some (.int .i64 xf)) (ds := []) #[false, false, false, false, false, false, false, false, false, false, false, false] (by kernel_rfl) rfl rfl ⟨q0, q1⟩ (fun hHeld => ?_)
  refine zo (i := 0) (N := some 12) (v := ?_) (a' := ?_) #[true, false, false, false, false, false, false, false, false, false, false, false] rfl rfl (by kernel_rfl) (fun _ _ _ h => h) (Or.inl ⟨by rfl, ?_⟩) ?_ ?_
  rotate_left
  next =>
   intro w'
   go_simp
   with_reducible rfl
  rotate_left
  next =>
   simp only [Act.put, yay, yby, ycy, zW, zX]
   rfl
  refine zo (i := 1) (N := some 13) (v := ?_) (a' := ?_) #[true, true, false, false, false, false, false, false, false, false, false, false] rfl rfl (by kernel_rfl) (fun _ _ _ h => h) (Or.inl ⟨by rfl, ?_⟩) ?_ ?_
  rotate_left
  next =>
   intro w'
   go_simp
   with_reducible rfl
  rotate_left
  next =>
   simp only [Act.put, yay, yby, ycy, zW, zX]
   rfl
  refine zo (i := 2) (N := some 14) (v := ?_) (a' := ?_) #[true, true, true, false, false, false, false, false, false, false, false, false] rfl rfl (by kernel_rfl) (fun _ _ _ h => h) (Or.inl ⟨by rfl, ?_⟩) ?_ ?_
  rotate_left
  next =>
   intro w'
   go_simp
   with_reducible rfl
  rotate_left
  next =>
   simp only [Act.put, yay, yby, ycy, zW, zX]
   rfl
  refine zo (i := 3) (N := some 15) (v := ?_) (a' := ?_) #[true, true, true, true, false, false, false, false, false, false, false, false] rfl rfl (by kernel_rfl) (fun _ _ _ h => h) (Or.inl ⟨by rfl, ?_⟩) ?_ ?_
  rotate_left
  next =>
   intro w'
   go_simp
   with_reducible rfl
  rotate_left
  next =>
   simp only [Act.put, yay, yby, ycy, zW, zX]
   rfl
  refine zo (i := 4) (N := some 16) (v := ?_) (a' := ?_) #[true, true, true, true, true, false, false, false, false, false, false, false] rfl rfl (by kernel_rfl) (fun _ _ _ h => h) (Or.inl ⟨by rfl, ?_⟩) ?_ ?_
  rotate_left
  next =>
   intro w'
   go_simp
   with_reducible rfl
  rotate_left
  next =>
   simp only [Act.put, yay, yby, ycy, zW, zX]
   rfl
  refine ZV (i := 5) (N := some 17) (v := ?_) (a' := ?_) #[true, true, true, true, true, true, false, false, false, false, false, false] rfl rfl (by kernel_rfl) (fun _ _ _ h => h) (Or.inl ⟨by rfl, ?_⟩) hHeld ?_ ?_
  rotate_left
  next =>
   rintro w' ⟨s0, s1⟩
   go_simp
   with_reducible rfl
  rotate_left
  next =>
   simp only [Act.put, yay, yby, ycy, zW, zX]
   rfl
  refine zo (i := 6) (N := some 18) (v := ?_) (a' := ?_) #[true, true, true, true, true, true, true, false, false, false, false, false] rfl rfl (by kernel_rfl) (fun _ _ _ h => h) (Or.inl ⟨by rfl, ?_⟩) ?_ ?_
  rotate_left
  next =>
   intro w'
   go_simp
   with_reducible rfl
  rotate_left
  next =>
   simp only [Act.put, yay, yby, ycy, zW, zX]
   rfl
  refine zo (i := 7) (N := some 19) (v := ?_) (a' := ?_) #[true, true, true, true, true, true, true, true, false, false, false, false] rfl rfl (by kernel_rfl) (fun _ _ _ h => h) (Or.inl ⟨by rfl, ?_⟩) ?_ ?_
  rotate_left
  next =>
   intro w'
   go_simp
   with_reducible rfl
  rotate_left
  next =>
   simp only [Act.put, yay, yby, ycy, zW, zX]
   rfl
  refine zo (i := 8) (N := some 20) (v := ?_) (a' := ?_) #[true, true, true, true, true, true, true, true, true, false, false, false] rfl rfl (by kernel_rfl) (fun _ _ _ h => h) (Or.inl ⟨by rfl, ?_⟩) ?_ ?_
  rotate_left
  next =>
   intro w'
   go_simp
   with_reducible rfl
  rotate_left
  next =>
   simp only [Act.put, yay, yby, ycy, zW, zX]
   rfl
  refine ZV (i := 9) (N := some 21) (v := ?_) (a' := ?_) #[true, true, true, true, true, true, true, true, true, true, false, false] rfl rfl (by kernel_rfl) (fun _ _ _ h => h) (Or.inl ⟨by rfl, ?_⟩) hHeld ?_ ?_
  rotate_left
  next =>
   rintro w' ⟨s0, s1⟩
   go_simp
   with_reducible rfl
  rotate_left
  next =>
   simp only [Act.put, yay, yby, ycy, zW, zX]
   rfl
  refine zo (i := 10) (N := some 22) (v := ?_) (a' := ?_) #[true, true, true, true, true, true, true, true, true, true, true, false] rfl rfl (by kernel_rfl) (fun _ _ _ h => h) (Or.inl ⟨by rfl, ?_⟩) ?_ ?_
  rotate_left
  next =>
   intro w'
   go_simp
   with_reducible rfl
  rotate_left
  next =>
   simp only [Act.put, yay, yby, ycy, zW, zX]
   rfl
  refine zo (i := 11) (N := some 23) (v := ?_) (a' := ?_) #[true, true, true, true, true, true, true, true, true, true, true, true] rfl rfl (by kernel_rfl) (fun _ _ _ h => h) (Or.inl ⟨by rfl, ?_⟩) ?_ ?_
  rotate_left
  next =>
   intro w'
   go_simp
   with_reducible rfl
  rotate_left
  next =>
   simp only [Act.put, yay, yby, ycy, zW, zX]
   rfl
  refine Qy (by kernel_rfl) ?_
  have HB2 := zA.mk (zD HB.out)
  have BF2 := zA.mk (zJ BF.out)
  have BI2 := zA.mk (zJ BI.out)
  clear HB hHeld q0 q1 BF BI
  generalize wB.drew = wd at *
  have d0 : decide (wrap64 (wrap64 (4 * f0) + xf) < wrap64 (wrap64 (4 * (j : Int)) + (f : Int))) = false := by rw [wid (show -9223372036854775808 ≤ 4 * f0 by omega) (by omega), wid (show -9223372036854775808 ≤ 4 * (j : Int) by omega) (by omega), wid (by omega) (by omega), wid (by omega) (by omega)]; exact yhy hgt
  rw [d0]
  clear d0
  have HCF : zA (Kd.C (Kd.int .i64) (wd.alloc (.cells #[.int .i64 (f : Int)] 2)) (some ⟨wd.heap.size, 0, none⟩) 1 [(f : Int)]) := ⟨(Kd.zv (show Kd.R (Kd.int .i64) 2 (wd.alloc (.cells #[.int .i64 (f : Int)] 2)) wd.heap.size (fun _ => True) (.slice (some ⟨wd.heap.size, 0, none⟩) 1 1) [(f : Int)] from
   Kd.zAt ⟨by simp [zAi], .inr ⟨wd.heap.size, 1, #[.int .i64 (f : Int)], rfl, yqy _, QF rfl _, yqy 1, by decide, rfl, rfl⟩⟩ (fun _ _ => trivial))).2.2⟩
  have HL3 := zA.mk (zEL HF.out)
  have HLM := zA.mk (show ∀ c ∈ zEI [(f : Int)], sm c ∧ c ≠ (f : Int) from fun c hc => zFg hc)
  generalize hLe : zEI [(f : Int)] = L at HS HL3 HLM
  have HLE := zA.mk (show JU.f [(f : Int)] = some L by rw [← hLe]; rfl)
  clear hLe
  go_wp2_with (first | (go_at_call 106; refine (JU.calls (some ⟨wd.heap.size, 0, none⟩) 1 [(f : Int)] L _ HCF.out (yqy 1) HLE.out).mono ?_; rintro e w2 ⟨v0, rfl, ho, hb⟩; obtain ⟨gO, cO, rfl, hg1, hg2, _⟩ := Kd.zA3 ho (by rw [HL3.out]; decide); have HO := zA.mk ho; have HBO := zA.mk hb; have HG := zA.mk (And.intro hg1 hg2); clear ho hb hg1 hg2 HCF))
  obtain ⟨v, hM, hE⟩ := HI.out.ex
  have hs0 := HI.out.below.size
  have hs1 := HB2.out.size
  have hs2 : (wd.alloc (.cells #[.int .i64 (f : Int)] 2)).heap.size = wd.heap.size + 1 := by simp
  have hgO := HG.out.1
  have HB3 := zA.mk (zN (zC (show Below w.heap.size w wd by rw [hgF]; exact HB2.out) (.cells #[.int .i64 (f : Int)] 2)) HBO.out)
  have HM := zA.mk (show MmL w0 gm gF gI gO cO gO cols f0 f1 x0 x1 x2 x3 L s.1 s.2 v v w2 from
   ⟨zN HI.out.below HB3.out, zP hM HB3.out, zP (zH BF2.out _) HBO.out, zP (zH BI2.out _) HBO.out,
    Kd.qW (Kd.JA rfl (Kd.Zb HO.out (by omega))) (fun k_ hk_ => by simpa [Value.ownBlock] using hk_),
    Kd.Zk (Kd.qW (Kd.QO hE) (fun k hk => by have := hk.2.2.1; constructor <;> omega)) HB3.out, HI.out.own⟩)
  have HGO := zA.mk (show w0.heap.size ≤ gO ∧ gO < w2.heap.size from ⟨by omega, HG.out.2⟩)
  have HLN := zA.mk HI.out.len
  have HS0 : zA (Qj cols j f f0 [x0, x1, x2, x3] (L.drop 0) (s.1, s.2) = R) := ⟨by rw [List.drop_zero]; exact HS.out.symm⟩
  have HLX := zA.mk (Kd.C_max (Kd.zv HO.out).2.2)
  clear hM hE hs0 hs1 hs2 hgO HB3 HO HBO HG HB2 BF2 BI2 HI HLE HS
  obtain ⟨e1, e2⟩ := s
  dsimp only at HM HLN HS0 HN
  have hlb : L.length ≤ 3 := by have := HL3.out; omega
  go_loopg [28] L.length (fun gg v28 w' => ∃ (i : Nat) (s1 : List Int) (s2 : Int) (v : Value), i ≤ L.length ∧ L.length - i ≤ gg ∧ v28 = .int .i64 i ∧ zA (Qj cols j f f0 [x0, x1, x2, x3] (L.drop i) (s1, s2) = R) ∧ zA (MmL w0 gm gF gI gO cO gO cols f0 f1 x0 x1 x2 x3 L s1 s2 v v w') ∧ zA (s1.length ≤ 60 * s2.toNat ∧ 0 ≤ s2 ∧ s2 ≤ 1000 + i ∧ gO < w'.heap.size))
  case atStart => exact ⟨0, e1, e2, v, Nat.zero_le _, by omega, rfl, HS0, HM, ⟨HLN.out.1, HLN.out.2, by have := HN.out; have := HLN.out.2; omega, HGO.out.2⟩⟩
  case round =>
   clear HM HS0 HLN HN
   obtain ⟨i, s1, s2, vE, hi9, hgg, rfl, HS0, HM, HLN⟩ := hrel
   by_cases hlt : i < L.length
   rotate_left
   next =>
    obtain rfl : i = L.length := by omega
    have HA2 := HS0.out
    rw [List.drop_length, Qj] at HA2
    subst HA2
    go_wp2
    first | go_end0 | ((try simp only [Exit.inBlock, Exit.then]); refine bodyPost_ret (results_none rfl _ _ _) rfl ?_)
    refine ⟨?_, ⟨HM.out.below, ⟨vE, HM.out.bM, Kd.qW HM.out.rE (fun _ _ => trivial)⟩, HM.out.own, ⟨HLN.out.1, HLN.out.2.1⟩⟩⟩
    first | rfl | (simp <;> rfl)
   have hltz : (i : Int) < (L.length : Int) := by omega
   obtain ⟨hc, _⟩ := Kd.Zw 0 HM.out.rL (i : Int) (by omega) hltz
   replace hc : wr.cell? ⟨gO, i, none⟩ = some (.int .i64 (rd L (i : Int))) := hc
   have ex : rd L (i : Int) = L[i] := by simp [rd, hlt]
   rw [ex] at hc
   have HC := zA.mk (HLM.out L[i] (List.getElem_mem hlt))
   have HA2 := HS0.out
   rw [yoy hlt, Qj] at HA2
   have HS1 := zA.mk HA2
   clear HS0 HA2 ex
   generalize L[i] = c at hc HC HS1
   obtain ⟨hc0, hc1⟩ := HC.out.1
   have hc4 : c < 4 := by omega
   obtain ⟨k1, k2, k3⟩ := zDM HC.out.1 HF.out HC.out.2
   have k4 := HP.out c HC.out.1
   have k5 := HJ.out c (f : Int) HC.out.1 HF.out HC.out.2
   rw [HXF.out] at k5
   obtain ⟨k6, k7, k8⟩ := zDM k4 (show sm xf from ⟨hxf0, hxf1⟩) k5
   have HROW : zA (zDE cols (j : Int) (f : Int) f0 [x0, x1, x2, x3] c = zAY (zAY (zAL (zAL (List.replicate cols 0) (7 * (j : Int) + c)) (7 * (j : Int) + 4 + qd c (f : Int))) (7 * f0 + rd [x0, x1, x2, x3] c)) (7 * f0 + 4 + qd (rd [x0, x1, x2, x3] c) xf)) := ⟨by unfold zDE; rw [HXF.out]⟩
   have HQ1 := zA.mk k1
   have HQ2 := zA.mk k6
   clear k1 k6 k5
   generalize qd c (f : Int) = q at HQ1 HROW k2 k3
   have HD : zA (rd [x0, x1, x2, x3] c = rd [x0, x1, x2, x3] c ∧ True) := ⟨rfl, trivial⟩
   clear HD
   generalize hde : rd [x0, x1, x2, x3] c = d at HQ2 HROW k4 k7 k8
   have HD := zA.mk hde
   clear hde
   generalize qd d xf = q2 at HQ2 HROW k7 k8
   obtain ⟨hd0, hd1⟩ := k4
   generalize zDE cols (j : Int) (f : Int) f0 [x0, x1, x2, x3] c = rr at HS1 HROW
   have hm1 : wr.cell? ⟨gm, 1, none⟩ = some (.int .i64 (cols : Int)) := (zK HM.out.bM 1).trans rfl
   go_wp2_with (first
    | ((with_reducible refine zd (N := 34) rfl ?_); refine Kd.zCj (Kd.int .i64) (w0 := wr) wr.heap.size 2 rfl (N := 34) rfl 44 _ _ rfl (cols : Int) rfl rfl Try.underlying44 (.int .i64 0) 8 Jb rfl (by decide) (by omega) 0 (ok := fun _ => True) (okp := fun _ => True) rfl (fun _ hk => hk) trivial (by omega) (by omega) (yry _ _) (yqy _) ?_; intro v1 w3 ho hb _ hnew; obtain ⟨gR, hbs, hge⟩ := hnew; obtain ⟨cR, rfl⟩ := zFf ho hbs; rw [yny] at ho ⊢; rw [List.length_replicate] at ho ⊢; have HR1 := zA.mk (show Kd.R (Kd.int .i64) 2 w3 w0.heap.size (fun k => k = gR) (.slice (some ⟨gR, 0, none⟩) cols cR) (List.replicate cols 0) from Kd.qW (Kd.JA rfl (Kd.Zb ho HM.out.below.size)) (fun k_ hk_ => by simpa [Value.ownBlock] using hk_)); have HM1 := zA.mk (HM.out.newrow hb hge); have HGR := zA.mk (show gR ≠ gO ∧ w0.heap.size ≤ gR from ⟨by have := HLN.out.2.2.2; omega, by have := HM.out.below.size; omega⟩); clear ho hb hbs hge hm1 hc HM; generalize (List.replicate cols 0 : List Int) = r0 at HR1 HROW; generalize hy6 : rd r0 (7 * (j : Int) + c) = y6; have HY6 := zA.mk hy6; clear hy6; obtain ⟨p6, z6⟩ := zG0 HR1.out (show (0 : Int) ≤ 7 * (j : Int) + c by omega) (show 7 * (j : Int) + c < (cols : Int) by omega) HY6.out)
    | ((with_reducible refine ZH (t := 2) (p := 43) rfl ?_); refine qz (t := 2) (p := 43) (v := ?vo43) (w1 := (w3.setCell ⟨gR, (7 * (j : Int) + c).toNat, none⟩ (.int .i64 (wrap64 (y6 + 1))))) ?hg ?ho ?hn ?hr ?_; (case ho => rfl); (case hg => rfl); (case hn => rfl); (case hr => first | (go_simp; done) | (go_simp; rfl)); intro w4 hw; have HM2 := zA.mk (show MmL w0 gm gF gI gO cO gR cols f0 f1 x0 x1 x2 x3 L s1 s2 vE vE w4 by rw [hw]; exact HM1.out.put HR1.out HGR.out.1 HGR.out.2 _ _); have HR2 := zA.mk (show Kd.R (Kd.int .i64) 2 w4 w0.heap.size (fun k => k = gR) (.slice (some ⟨gR, 0, none⟩) cols cR) (zAL r0 (7 * (j : Int) + c)) by rw [hw]; exact zEz HR1.out HY6.out); clear HM1 HR1 HY6 hw p6 z6; generalize zAL r0 (7 * (j : Int) + c) = r1 at HR2 HROW)
    | (go_at_call 164; (with_reducible refine (Jp.calls c (f : Int) q _ HQ1.out).mono ?_); rintro e w5 ⟨rfl, hd⟩; have hb5 := zZ.below hd; have HM3 := zA.mk (HM2.out.stays hb5); have HR3 := zA.mk (Kd.Zk HR2.out hb5); clear hd hb5 HM2 HR2; generalize hy7 : rd r1 (7 * (j : Int) + 4 + q) = y7; have HY7 := zA.mk hy7; clear hy7; obtain ⟨p7, z7⟩ := zG0 HR3.out (show (0 : Int) ≤ 7 * (j : Int) + 4 + q by omega) (show 7 * (j : Int) + 4 + q < (cols : Int) by omega) HY7.out)
    | ((with_reducible refine ZH (t := 2) (p := 55) rfl ?_); refine qz (t := 2) (p := 55) (v := ?vo55) (w1 := (w5.setCell ⟨gR, (7 * (j : Int) + 4 + q).toNat, none⟩ (.int .i64 (wrap64 (y7 + 1))))) ?hg ?ho ?hn ?hr ?_; (case ho => rfl); (case hg => rfl); (case hn => rfl); (case hr => first | (go_simp; done) | (go_simp; rfl)); intro w6 hw; have HM4 := zA.mk (show MmL w0 gm gF gI gO cO gR cols f0 f1 x0 x1 x2 x3 L s1 s2 vE vE w6 by rw [hw]; exact HM3.out.put HR3.out HGR.out.1 HGR.out.2 _ _); have HR4 := zA.mk (show Kd.R (Kd.int .i64) 2 w6 w0.heap.size (fun k => k = gR) (.slice (some ⟨gR, 0, none⟩) cols cR) (zAL r1 (7 * (j : Int) + 4 + q)) by rw [hw]; exact zEz HR3.out HY7.out); clear HM3 HR3 HY7 hw p7 z7; generalize zAL r1 (7 * (j : Int) + 4 + q) = r2 at HR4 HROW))
   have HW8 := zA.mk (show wrap64 (wrap64 (7 * f0) + d) = 7 * f0 + d by rw [wid (show -9223372036854775808 ≤ 7 * f0 by omega) (by omega), wid (by omega) (by omega)])
   have HW9 := zA.mk (show wrap64 (wrap64 (wrap64 (7 * f0) + 4) + q2) = 7 * f0 + 4 + q2 by rw [wid (show -9223372036854775808 ≤ 7 * f0 by omega) (by omega), wid (show -9223372036854775808 ≤ 7 * f0 + 4 by omega) (by omega), wid (by omega) (by omega)])
   have HI8 := zA.mk (show (0 : Int) ≤ 7 * f0 + d ∧ 7 * f0 + d < (cols : Int) by omega)
   have HI9 := zA.mk (show (0 : Int) ≤ 7 * f0 + 4 + q2 ∧ 7 * f0 + 4 + q2 < (cols : Int) by omega)
   generalize hy8 : rd r2 (7 * f0 + d) = y8
   have HY8 := zA.mk hy8
   clear hy8
   refine QG (n := 13) (S := fun w' => w'.cell? ⟨gF, 0, none⟩ = some (.int .i64 f0) ∧ w'.cell? ⟨gI, c.toNat, none⟩ = some (.int .i64 d) ∧ w'.cell? ⟨gR, (wrap64 (wrap64 (7 * f0) + d)).toNat, none⟩ = some (.int .i64 y8)) (ds := [12]) #[false, false, false, false, false, false, false, false, false, false, false, false, false] (by kernel_rfl) rfl rfl ⟨(zK HM4.out.bF 0).trans rfl, JL HM4.out.bI hc0 hc1 HD.out, (by rw [HW8.out]; exact (zG0 HR4.out HI8.out.1 HI8.out.2 HY8.out).1)⟩ (fun hHeld => ?_)
   have HM5 := zA.mk (HM4.out.stays (zD (yry _ _)))
   have HR5 := zA.mk (Kd.zu HR4.out)
   clear HM4 HR4
   generalize w6.drew = w7 at HM5 HR5 hHeld ⊢
   have b8 : (0 : Int) ≤ wrap64 (wrap64 (7 * f0) + d) := by rw [HW8.out]; exact HI8.out.1
   have c8 : wrap64 (wrap64 (7 * f0) + d) < (cols : Int) := by rw [HW8.out]; exact HI8.out.2
   have z8 : w7.frozen? ⟨gR, (wrap64 (wrap64 (7 * f0) + d)).toNat, none⟩ = false := by rw [HW8.out]; exact (zG0 HR5.out HI8.out.1 HI8.out.2 HY8.out).2
   have p8 : w7.cell? ⟨gR, (wrap64 (wrap64 (7 * f0) + d)).toNat, none⟩ = some (.int .i64 y8) := hHeld.2.2
   refine zo (i := 0) (N := some 56) (v := ?_) (a' := ?_) #[true, false, false, false, false, false, false, false, false, false, false, false, false] rfl rfl (by kernel_rfl) (fun _ _ _ h => h) (Or.inl ⟨by rfl, ?_⟩) ?_ ?_
   rotate_left
   next =>
    intro w'
    go_simp
    with_reducible rfl
   rotate_left
   next =>
    simp only [Act.put, yay, yby, ycy, zW, zX]
    rfl
   refine zo (i := 1) (N := some 57) (v := ?_) (a' := ?_) #[true, true, false, false, false, false, false, false, false, false, false, false, false] rfl rfl (by kernel_rfl) (fun _ _ _ h => h) (Or.inl ⟨by rfl, ?_⟩) ?_ ?_
   rotate_left
   next =>
    intro w'
    go_simp
    with_reducible rfl
   rotate_left
   next =>
    simp only [Act.put, yay, yby, ycy, zW, zX]
    rfl
   refine ZV (i := 2) (N := some 58) (v := ?_) (a' := ?_) #[true, true, true, false, false, false, false, false, false, false, false, false, false] rfl rfl (by kernel_rfl) (fun _ _ _ h => h) (Or.inl ⟨by rfl, ?_⟩) hHeld ?_ ?_
   rotate_left
   next =>
    rintro w' ⟨s0, s1, s2⟩
    go_simp
    with_reducible rfl
   rotate_left
   next =>
    simp only [Act.put, yay, yby, ycy, zW, zX]
    rfl
   refine zo (i := 3) (N := some 59) (v := ?_) (a' := ?_) #[true, true, true, true, false, false, false, false, false, false, false, false, false] rfl rfl (by kernel_rfl) (fun _ _ _ h => h) (Or.inl ⟨by rfl, ?_⟩) ?_ ?_
   rotate_left
   next =>
    intro w'
    go_simp
    with_reducible rfl
   rotate_left
   next =>
    simp only [Act.put, yay, yby, ycy, zW, zX]
    rfl
   refine zo (i := 4) (N := some 60) (v := ?_) (a' := ?_) #[true, true, true, true, true, false, false, false, false, false, false, false, false] rfl rfl (by kernel_rfl) (fun _ _ _ h => h) (Or.inl ⟨by rfl, ?_⟩) ?_ ?_
   rotate_left
   next =>
    intro w'
    go_simp
    with_reducible rfl
   rotate_left
   next =>
    simp only [Act.put, yay, yby, ycy, zW, zX]
    rfl
   refine zo (i := 5) (N := some 61) (v := ?_) (a' := ?_) #[true, true, true, true, true, true, false, false, false, false, false, false, false] rfl rfl (by kernel_rfl) (fun _ _ _ h => h) (Or.inl ⟨by rfl, ?_⟩) ?_ ?_
   rotate_left
   next =>
    intro w'
    go_simp
    with_reducible rfl
   rotate_left
   next =>
    simp only [Act.put, yay, yby, ycy, zW, zX]
    rfl
   refine ZV (i := 6) (N := some 62) (v := ?_) (a' := ?_) #[true, true, true, true, true, true, true, false, false, false, false, false, false] rfl rfl (by kernel_rfl) (fun _ _ _ h => h) (Or.inl ⟨by rfl, ?_⟩) hHeld ?_ ?_
   rotate_left
   next =>
    rintro w' ⟨s0, s1, s2⟩
    go_simp
    with_reducible rfl
   rotate_left
   next =>
    simp only [Act.put, yay, yby, ycy, zW, zX]
    rfl
   refine zo (i := 7) (N := some 63) (v := ?_) (a' := ?_) #[true, true, true, true, true, true, true, true, false, false, false, false, false] rfl rfl (by kernel_rfl) (fun _ _ _ h => h) (Or.inl ⟨by rfl, ?_⟩) ?_ ?_
   rotate_left
   next =>
    intro w'
    go_simp
    with_reducible rfl
   rotate_left
   next =>
    simp only [Act.put, yay, yby, ycy, zW, zX]
    rfl
   refine zo (i := 8) (N := some 64) (v := ?_) (a' := ?_) #[true, true, true, true, true, true, true, true, true, false, false, false, false] rfl rfl (by kernel_rfl) (fun _ _ _ h => h) (Or.inl ⟨by rfl, ?_⟩) ?_ ?_
   rotate_left
   next =>
    intro w'
    go_simp
    with_reducible rfl
   rotate_left
   next =>
    simp only [Act.put, yay, yby, ycy, zW, zX]
    rfl
   refine ZV (i := 9) (N := some 65) (v := ?_) (a' := ?_) #[true, true, true, true, true, true, true, true, true, true, false, false, false] rfl rfl (by kernel_rfl) (fun _ _ _ h => h) (Or.inl ⟨by rfl, ?_⟩) hHeld ?_ ?_
   rotate_left
   next =>
    rintro w' ⟨s0, s1, s2⟩
    go_simp
    with_reducible rfl
   rotate_left
   next =>
    simp only [Act.put, yay, yby, ycy, zW, zX]
    rfl
   refine zo (i := 10) (N := some 66) (v := ?_) (a' := ?_) #[true, true, true, true, true, true, true, true, true, true, true, false, false] rfl rfl (by kernel_rfl) (fun _ _ _ h => h) (Or.inl ⟨by rfl, ?_⟩) ?_ ?_
   rotate_left
   next =>
    intro w'
    go_simp
    with_reducible rfl
   rotate_left
   next =>
    simp only [Act.put, yay, yby, ycy, zW, zX]
    rfl
   refine zo (i := 11) (N := some 67) (v := ?_) (a' := ?_) #[true, true, true, true, true, true, true, true, true, true, true, true, false] rfl rfl (by kernel_rfl) (fun _ _ _ h => h) (Or.inl ⟨by rfl, ?_⟩) ?_ ?_
   rotate_left
   next =>
    intro w'
    go_simp
    with_reducible rfl
   rotate_left
   next =>
    simp only [Act.put, yay, yby, ycy, zW, zX]
    rfl
   refine zFU (i := 12) (N := none) #[true, true, true, true, true, true, true, true, true, true, true, true, true] rfl rfl (by kernel_rfl) (by decide) (fun K hK => ?_)
   refine zGA (w1 := ?_) (by rfl) rfl ?_ ?_
   rotate_left
   next =>
    go_simp
    rfl
   refine hK.out _ _ ?_
   clear hK K
   refine Qy (by kernel_rfl) ?_
   clear b8 c8 z8 p8 hHeld
   have HM6 := zA.mk (show MmL w0 gm gF gI gO cO gR cols f0 f1 x0 x1 x2 x3 L s1 s2 vE vE (w7.setCell ⟨gR, (wrap64 (wrap64 (7 * f0) + d)).toNat, none⟩ (.int .i64 (wrap64 (y8 - 1)))) from HM5.out.put HR5.out HGR.out.1 HGR.out.2 _ _)
   have HR6 := zA.mk (show Kd.R (Kd.int .i64) 2 (w7.setCell ⟨gR, (wrap64 (wrap64 (7 * f0) + d)).toNat, none⟩ (.int .i64 (wrap64 (y8 - 1)))) w0.heap.size (fun k => k = gR) (.slice (some ⟨gR, 0, none⟩) cols cR) (zAY r2 (7 * f0 + d)) from by rw [HW8.out]; exact zF0 HR5.out HY8.out)
   clear HM5 HR5 HY8 HW8
   generalize zAY r2 (7 * f0 + d) = r3 at HR6 HROW
   generalize World.setCell w7 _ _ = w8 at *
   try go_wp2
   generalize hy9 : rd r3 (7 * f0 + 4 + q2) = y9
   have HY9 := zA.mk hy9
   clear hy9
   refine QG (n := 18) (S := fun w' => w'.cell? ⟨gF, 0, none⟩ = some (.int .i64 f0) ∧ w'.cell? ⟨gI, c.toNat, none⟩ = some (.int .i64 d) ∧ w'.cell? ⟨gI, f, none⟩ = some (.int .i64 xf) ∧ w'.cell? ⟨gR, (wrap64 (wrap64 (wrap64 (7 * f0) + 4) + q2)).toNat, none⟩ = some (.int .i64 y9)) (ds := [17]) #[false, false, false, false, false, false, false, false, false, false, false, false, false, false, false, false, false, false] (by kernel_rfl) rfl rfl ⟨(zK HM6.out.bF 0).trans rfl, JL HM6.out.bI hc0 hc1 HD.out, (by have q := JL HM6.out.bI hf9 hf HXF.out; rwa [yny] at q), (by rw [HW9.out]; exact (zG0 HR6.out HI9.out.1 HI9.out.2 HY9.out).1)⟩ (fun hHeld => ?_)
   have HM5 := zA.mk (HM6.out.stays (zD (yry _ _)))
   have HR5 := zA.mk (Kd.zu HR6.out)
   clear HM6 HR6
   generalize w8.drew = w9 at HM5 HR5 hHeld ⊢
   refine zo (i := 0) (N := some 68) (v := ?_) (a' := ?_) #[true, false, false, false, false, false, false, false, false, false, false, false, false, false, false, false, false, false] rfl rfl (by kernel_rfl) (fun _ _ _ h => h) (Or.inl ⟨by rfl, ?_⟩) ?_ ?_
   rotate_left
   next =>
    intro w'
    go_simp
    with_reducible rfl
   rotate_left
   next =>
    simp only [Act.put, yay, yby, ycy, zW, zX]
    rfl
   refine zo (i := 1) (N := some 69) (v := ?_) (a' := ?_) #[true, true, false, false, false, false, false, false, false, false, false, false, false, false, false, false, false, false] rfl rfl (by kernel_rfl) (fun _ _ _ h => h) (Or.inl ⟨by rfl, ?_⟩) ?_ ?_
   rotate_left
   next =>
    intro w'
    go_simp
    with_reducible rfl
   rotate_left
   next =>
    simp only [Act.put, yay, yby, ycy, zW, zX]
    rfl
   refine ZV (i := 2) (N := some 70) (v := ?_) (a' := ?_) #[true, true, true, false, false, false, false, false, false, false, false, false, false, false, false, false, false, false] rfl rfl (by kernel_rfl) (fun _ _ _ h => h) (Or.inl ⟨by rfl, ?_⟩) hHeld ?_ ?_
   rotate_left
   next =>
    rintro w' ⟨s0, s1, s2, s3⟩
    go_simp
    with_reducible rfl
   rotate_left
   next =>
    simp only [Act.put, yay, yby, ycy, zW, zX]
    rfl
   refine zo (i := 3) (N := some 71) (v := ?_) (a' := ?_) #[true, true, true, true, false, false, false, false, false, false, false, false, false, false, false, false, false, false] rfl rfl (by kernel_rfl) (fun _ _ _ h => h) (Or.inl ⟨by rfl, ?_⟩) ?_ ?_
   rotate_left
   next =>
    intro w'
    go_simp
    with_reducible rfl
   rotate_left
   next =>
    simp only [Act.put, yay, yby, ycy, zW, zX]
    rfl
   refine zo (i := 4) (N := some 72) (v := ?_) (a' := ?_) #[true, true, true, true, true, false, false, false, false, false, false, false, false, false, false, false, false, false] rfl rfl (by kernel_rfl) (fun _ _ _ h => h) (Or.inl ⟨by rfl, ?_⟩) ?_ ?_
   rotate_left
   next =>
    intro w'
    go_simp
    with_reducible rfl
   rotate_left
   next =>
    simp only [Act.put, yay, yby, ycy, zW, zX]
    rfl
   refine zo (i := 5) (N := some 73) (v := ?_) (a' := ?_) #[true, true, true, true, true, true, false, false, false, false, false, false, false, false, false, false, false, false] rfl rfl (by kernel_rfl) (fun _ _ _ h => h) (Or.inl ⟨by rfl, ?_⟩) ?_ ?_
   rotate_left
   next =>
    intro w'
    go_simp
    with_reducible rfl
   rotate_left
   next =>
    simp only [Act.put, yay, yby, ycy, zW, zX]
    rfl
   refine zo (i := 6) (N := some 74) (v := ?_) (a' := ?_) #[true, true, true, true, true, true, true, false, false, false, false, false, false, false, false, false, false, false] rfl rfl (by kernel_rfl) (fun _ _ _ h => h) (Or.inl ⟨by rfl, ?_⟩) ?_ ?_
   rotate_left
   next =>
    intro w'
    go_simp
    with_reducible rfl
   rotate_left
   next =>
    simp only [Act.put, yay, yby, ycy, zW, zX]
    rfl
   refine ZV (i := 7) (N := some 75) (v := ?_) (a' := ?_) #[true, true, true, true, true, true, true, true, false, false, false, false, false, false, false, false, false, false] rfl rfl (by kernel_rfl) (fun _ _ _ h => h) (Or.inl ⟨by rfl, ?_⟩) hHeld ?_ ?_
   rotate_left
   next =>
    rintro w' ⟨s0, s1, s2, s3⟩
    go_simp
    with_reducible rfl
   rotate_left
   next =>
    simp only [Act.put, yay, yby, ycy, zW, zX]
    rfl
   refine zo (i := 8) (N := some 76) (v := ?_) (a' := ?_) #[true, true, true, true, true, true, true, true, true, false, false, false, false, false, false, false, false, false] rfl rfl (by kernel_rfl) (fun _ _ _ h => h) (Or.inl ⟨by rfl, ?_⟩) ?_ ?_
   rotate_left
   next =>
    intro w'
    go_simp
    with_reducible rfl
   rotate_left
   next =>
    simp only [Act.put, yay, yby, ycy, zW, zX]
    rfl
   refine zo (i := 9) (N := some 77) (v := ?_) (a' := ?_) #[true, true, true, true, true, true, true, true, true, true, false, false, false, false, false, false, false, false] rfl rfl (by kernel_rfl) (fun _ _ _ h => h) (Or.inl ⟨by rfl, ?_⟩) ?_ ?_
   rotate_left
   next =>
    intro w'
    go_simp
    with_reducible rfl
   rotate_left
   next =>
    simp only [Act.put, yay, yby, ycy, zW, zX]
    rfl
   refine ZV (i := 10) (N := some 78) (v := ?_) (a' := ?_) #[true, true, true, true, true, true, true, true, true, true, true, false, false, false, false, false, false, false] rfl rfl (by kernel_rfl) (fun _ _ _ h => h) (Or.inl ⟨by rfl, ?_⟩) hHeld ?_ ?_
   rotate_left
   next =>
    rintro w' ⟨s0, s1, s2, s3⟩
    go_simp
    with_reducible rfl
   rotate_left
   next =>
    simp only [Act.put, yay, yby, ycy, zW, zX]
    rfl
   refine zAH (i := 11) (N := some 79) #[true, true, true, true, true, true, true, true, true, true, true, true, false, false, false, false, false, false] rfl rfl (by kernel_rfl) (by decide) (fun K hK => ?_)
   refine Qz Try.func164 (by kernel_rfl) rfl #[.int .i64 d, .int .i64 xf] (by rfl) rfl rfl (by (try simp only [yiy, yjy, yky]); first | done | rfl) ?_
   refine (Jp.calls d xf q2 _ HQ2.out).mono ?_
   rintro e w6_ ⟨rfl, hd⟩
   refine ⟨_, rfl, ?_⟩
   have hb6 := zZ.below hd
   have HM6 := zA.mk (HM5.out.stays hb6)
   have HR6 := zA.mk (Kd.Zk HR5.out hb6)
   clear hd hb6
   refine hK.out _ _ ⟨(zK HM6.out.bF 0).trans rfl, JL HM6.out.bI hc0 hc1 HD.out, (by have q := JL HM6.out.bI hf9 hf HXF.out; rwa [yny] at q), (by rw [HW9.out]; exact (zG0 HR6.out HI9.out.1 HI9.out.2 HY9.out).1)⟩ (fun hHeld => ?_)
   clear hK K
   refine QN (a' := ?_) ?_ ?_
   rotate_left
   next =>
    show Act.put _ (some 79) _ = _
    simp only [Act.put, yay, yby, ycy, zW, zX]
    rfl
   clear HM5 HR5
   have b9 : (0 : Int) ≤ wrap64 (wrap64 (wrap64 (7 * f0) + 4) + q2) := by rw [HW9.out]; exact HI9.out.1
   have c9 : wrap64 (wrap64 (wrap64 (7 * f0) + 4) + q2) < (cols : Int) := by rw [HW9.out]; exact HI9.out.2
   have z9 : w6_.frozen? ⟨gR, (wrap64 (wrap64 (wrap64 (7 * f0) + 4) + q2)).toNat, none⟩ = false := by rw [HW9.out]; exact (zG0 HR6.out HI9.out.1 HI9.out.2 HY9.out).2
   have p9 : w6_.cell? ⟨gR, (wrap64 (wrap64 (wrap64 (7 * f0) + 4) + q2)).toNat, none⟩ = some (.int .i64 y9) := hHeld.2.2.2
   refine zo (i := 12) (N := some 80) (v := ?_) (a' := ?_) #[true, true, true, true, true, true, true, true, true, true, true, true, true, false, false, false, false, false] rfl rfl (by kernel_rfl) (fun _ _ _ h => h) (Or.inl ⟨by rfl, ?_⟩) ?_ ?_
   rotate_left
   next =>
    intro w'
    go_simp
    with_reducible rfl
   rotate_left
   next =>
    simp only [Act.put, yay, yby, ycy, zW, zX]
    rfl
   refine zo (i := 13) (N := some 81) (v := ?_) (a' := ?_) #[true, true, true, true, true, true, true, true, true, true, true, true, true, true, false, false, false, false] rfl rfl (by kernel_rfl) (fun _ _ _ h => h) (Or.inl ⟨by rfl, ?_⟩) ?_ ?_
   rotate_left
   next =>
    intro w'
    go_simp
    with_reducible rfl
   rotate_left
   next =>
    simp only [Act.put, yay, yby, ycy, zW, zX]
    rfl
   refine ZV (i := 14) (N := some 82) (v := ?_) (a' := ?_) #[true, true, true, true, true, true, true, true, true, true, true, true, true, true, true, false, false, false] rfl rfl (by kernel_rfl) (fun _ _ _ h => h) (Or.inl ⟨by rfl, ?_⟩) hHeld ?_ ?_
   rotate_left
   next =>
    rintro w' ⟨s0, s1, s2, s3⟩
    go_simp
    with_reducible rfl
   rotate_left
   next =>
    simp only [Act.put, yay, yby, ycy, zW, zX]
    rfl
   refine zo (i := 15) (N := some 83) (v := ?_) (a' := ?_) #[true, true, true, true, true, true, true, true, true, true, true, true, true, true, true, true, false, false] rfl rfl (by kernel_rfl) (fun _ _ _ h => h) (Or.inl ⟨by rfl, ?_⟩) ?_ ?_
   rotate_left
   next =>
    intro w'
    go_simp
    with_reducible rfl
   rotate_left
   next =>
    simp only [Act.put, yay, yby, ycy, zW, zX]
    rfl
   refine zo (i := 16) (N := some 84) (v := ?_) (a' := ?_) #[true, true, true, true, true, true, true, true, true, true, true, true, true, true, true, true, true, false] rfl rfl (by kernel_rfl) (fun _ _ _ h => h) (Or.inl ⟨by rfl, ?_⟩) ?_ ?_
   rotate_left
   next =>
    intro w'
    go_simp
    with_reducible rfl
   rotate_left
   next =>
    simp only [Act.put, yay, yby, ycy, zW, zX]
    rfl
   refine zFU (i := 17) (N := none) #[true, true, true, true, true, true, true, true, true, true, true, true, true, true, true, true, true, true] rfl rfl (by kernel_rfl) (by decide) (fun K hK => ?_)
   refine zGA (w1 := ?_) (by rfl) rfl ?_ ?_
   rotate_left
   next =>
    go_simp
    rfl
   refine hK.out _ _ ?_
   clear hK K
   refine Qy (by kernel_rfl) ?_
   clear b9 c9 z9 p9 hHeld
   have HM7 := zA.mk (show MmL w0 gm gF gI gO cO gR cols f0 f1 x0 x1 x2 x3 L s1 s2 vE vE (w6_.setCell ⟨gR, (wrap64 (wrap64 (wrap64 (7 * f0) + 4) + q2)).toNat, none⟩ (.int .i64 (wrap64 (y9 - 1)))) from HM6.out.put HR6.out HGR.out.1 HGR.out.2 _ _)
   have HR7 := zA.mk (show Kd.R (Kd.int .i64) 2 (w6_.setCell ⟨gR, (wrap64 (wrap64 (wrap64 (7 * f0) + 4) + q2)).toNat, none⟩ (.int .i64 (wrap64 (y9 - 1)))) w0.heap.size (fun k => k = gR) (.slice (some ⟨gR, 0, none⟩) cols cR) (zAY r3 (7 * f0 + 4 + q2)) from by rw [HW9.out]; exact zF0 HR6.out HY9.out)
   clear HM6 HR6 HY9 HW9
   rw [← HROW.out] at HR7
   have HLR := zA.mk (Kd.zv HR7.out).1
   have HRC := zA.mk (show Kd.C (Kd.int .i64) (w6_.setCell ⟨gR, (wrap64 (wrap64 (wrap64 (7 * f0) + 4) + q2)).toNat, none⟩ (.int .i64 (wrap64 (y9 - 1)))) (some ⟨gR, 0, none⟩) cols rr from by have q := (Kd.zv HR7.out).2.2; rwa [← HLR.out] at q)
   have HGL := zA.mk (And.intro (Kd.zBM HM7.out.rL gO (by simp [Value.ownBlock])) (Kd.zBM HR7.out gR (by simp [Value.ownBlock])))
   clear HR7 HROW
   generalize World.setCell w6_ _ _ = w10 at *
   have hm2 : w10.cell? ⟨gm, 2, none⟩ = some vE := (zK HM7.out.bM 2).trans rfl
   go_wp2_with (first
    | ((with_reducible refine Ze (b := .append) (xs := #[.tmp 86, .tmp 87]) rfl ?_); at_builtin; refine Kd.zCB (Kd.int .i64) (Rr := fun x cs => cs = [.int .i64 x]) (w0 := w0) w0.heap.size rfl (.tmp 86) (.tmp 87) 44 2 (.int .i64 0) 8 rfl Try.underlying44 Jb rfl (by decide) (by omega) vE s1 rr (some ⟨gR, 0, none⟩) cols cR (fun k => k ≠ gO ∧ k ≠ gR) (fun _ => False) rfl rfl ?aO ?aR (fun _ _ h => h) (fun _ hk => hk.elim) ?aF ?aB ?aS ?aL ?_; (case aO => exact HM7.out.rE); (case aR => exact HRC.out); (case aF => exact (fun k hk => by have := HGL.out.1; have := HGL.out.2; constructor <;> omega)); (case aB => exact HM7.out.below); (case aS => exact zO HM7.out.below); (case aL => have := HLN.out.1; have := HLN.out.2; have := HL3.out; omega); intro v1 w11 ho hb hg hat; obtain ⟨A1, c1, rfl⟩ := Kd.ZP ho; have HM8 := zA.mk (HM7.out.grown ho hb hg); clear HM7 ho hb hg hat hm2 HRC HGL; have hm2 : w11.cell? ⟨gm, 2, none⟩ = some vE := (zK HM8.out.bM 2).trans rfl; have zm2 := zL HM8.out.bM 2)
    | ((with_reducible refine ZH (t := 44) (p := 89) rfl ?_); refine qz (t := 44) (p := 89) (v := ?vo89) (w1 := (w11.setCell ⟨gm, 2, none⟩ (.slice A1 (s1 ++ rr).length c1))) ?hg ?ho ?hn ?hr ?_; (case ho => rfl); (case hg => rfl); (case hn => rfl); (case hr => first | (go_simp; done) | (go_simp; rfl)); intro w12 hw; have HM9 := zA.mk (show MmL w0 gm gF gI gO cO gR cols f0 f1 x0 x1 x2 x3 L (s1 ++ rr) s2 (.slice A1 (s1 ++ rr).length c1) (.slice A1 (s1 ++ rr).length c1) w12 by rw [hw]; exact HM8.out.ents); clear HM8 hw hm2 zm2; have hm0 : w12.cell? ⟨gm, 0, none⟩ = some (.int .i64 s2) := (zK HM9.out.bM 0).trans rfl; have zm0 := zL HM9.out.bM 0; have hs20 := HLN.out.2.1; have hs21 : s2 ≤ 1010 := by have := HLN.out.2.2.1; have := HL3.out; omega)
    | ((with_reducible refine ZH (t := 2) (p := 93) rfl ?_); refine qz (t := 2) (p := 93) (v := ?vo93) (w1 := (w12.setCell ⟨gm, 0, none⟩ (.int .i64 (s2 + 1)))) ?hg ?ho ?hn ?hr ?_; (case ho => rfl); (case hg => rfl); (case hn => rfl); (case hr => first | (go_simp; done) | (go_simp; rfl)); intro w13 hw; have HMA := zA.mk (show MmL w0 gm gF gI gO cO gR cols f0 f1 x0 x1 x2 x3 L (s1 ++ rr) (s2 + 1) (.slice A1 (s1 ++ rr).length c1) (.slice A1 (s1 ++ rr).length c1) w13 by rw [hw]; exact HM9.out.rows (s2 + 1)); clear HM9 hw hm0 zm0))
   go_roundg (L.length - (i + 1))
   case measure => omega
   case rel => exact ⟨i + 1, s1 ++ rr, s2 + 1, _, by omega, by omega, by go_num, HS1, ⟨HMA.out.again⟩, ⟨by have := HLN.out.1; have := HLN.out.2.1; have := HLR.out; rw [List.length_append]; omega, by omega, by have := HLN.out.2.2.1; omega, Kd.zBM HMA.out.rL gO (by simp [Value.ownBlock])⟩⟩
def zGY (l : List (List zq)) : Prop := l.length ≤ 8 ∧ (∀ r ∈ l, r.length ≤ 4) ∧ ∀ r ∈ l, ∀ x ∈ r, ¬ x.f0 < 0 → x.f0 < (l.length : Int) ∧ 0 ≤ x.f1 ∧ x.f1 ≤ 23
instance (l : List (List zq)) : Decidable (zGY l) := by unfold zGY; infer_instance
def zBS (l : List (List zq)) : List Int × Int := zCN (zAM (7 * l.length)) l 0 ([], 0)
def zx.f (l : List (List zq)) : Option (Int × Int × List Int) := if zGY l then some ((zBS l).2, (7 * (l.length : Int)), (zBS l).1) else none
theorem sum_le {l : List (List zq)} (h : ∀ r ∈ l, r.length ≤ 4) : (l.map List.length).sum ≤ 4 * l.length := by
  induction l with
  | nil => simp
  | cons r rs ih =>
    have h1 := h r (List.mem_cons_self ..)
    have h2 := ih (fun x hx => h x (List.mem_cons_of_mem _ hx))
    simp only [yjy, List.sum_cons, List.length_cons]
    omega
theorem zEN {cols : Nat} (s : List Int × Int) (j f : Nat) (x : zq) : (zAM cols s j f x).2.toNat ≤ s.2.toNat + 4 := by
  unfold zAM
  split
  · omega
  · have := zBA cols j f x.f0 (ZN x.f1) (zEI [(f : Int)]) s
    have := zDq (f : Int)
    omega
theorem zGM {l : List (List zq)} (hok : zGY l) {w : World} {gm : Nat} (s : List Int × Int) (W : World) (j f : Nat) (x : zq) (hI : zCO w gm (7 * l.length) s W) (hF : zEy l j f x) (hb : ¬ x.f0 < 0) (hc : s.2.toNat + 4 ≤ 200) :
    Calls Try.prog 163 (#[.int .i64 (j : Int), .int .i64 (f : Int), .agg #[.int .i64 x.f0, .int .i64 x.f1], .agg #[.int .i64 (zw x.f1 0), .int .i64 (zw x.f1 1), .int .i64 (zw x.f1 2), .int .i64 (zw x.f1 3)]] ++ #[.pointer (some ⟨gm, 0, none⟩)]) W fun e W' => e = .returned (.tuple #[]) ∧ zCO w gm (7 * l.length) (zAM (7 * l.length) s j f x) W' := by
  obtain ⟨h1, h2, h3⟩ := hF
  obtain ⟨q0, q1, q2⟩ := hok
  have q3 := q1 _ (List.getElem_mem h1)
  have q4 := q2 _ (List.getElem_mem h1) x (by rw [← h3]; exact List.getElem_mem h2) hb
  have e : (#[.int .i64 (j : Int), .int .i64 (f : Int), .agg #[.int .i64 x.f0, .int .i64 x.f1], .agg #[.int .i64 (zw x.f1 0), .int .i64 (zw x.f1 1), .int .i64 (zw x.f1 2), .int .i64 (zw x.f1 3)]] ++ #[.pointer (some ⟨gm, 0, none⟩)] : Array Value) = #[.int .i64 (j : Int), .int .i64 (f : Int), .agg #[.int .i64 x.f0, .int .i64 x.f1], .agg #[.int .i64 (zw x.f1 0), .int .i64 (zw x.f1 1), .int .i64 (zw x.f1 2), .int .i64 (zw x.f1 3)], .pointer (some ⟨gm, 0, none⟩)] := rfl
  rw [e]
  exact Jq.calls w W gm (7 * l.length) s j f x.f0 x.f1 hI (by omega) (by omega) (by omega) (by omega) (by omega) q4.2.1 q4.2.2 (by omega)
set_option maxHeartbeats 8000000 in
set_option maxRecDepth 100000 in
theorem zx.calls (A0_0 : Option Addr) (c0_0 : Nat) (l0_0 : List (List zq)) (r1 r2 : Int) (r3 : List Int) (w : World) (hr0_0 : Kd.C (Kd.slice 59 qx) w A0_0 l0_0.length l0_0) (hc0_0 : l0_0.length ≤ c0_0) (h : zx.f l0_0 = some (r1, r2, r3)) :
    Calls Try.prog 160 #[.agg #[.slice A0_0 l0_0.length c0_0]] w fun e w' => ∃ v2_ : Value, e = .returned (.agg #[.int .i64 r1, .int .i64 r2, v2_]) ∧ Kd.R (Kd.int .i64) 2 w' w.heap.size (fun _ => True) v2_ r3 ∧ Below w.heap.size w w' := by
  unfold zx.f at h
  by_cases hok : zGY l0_0
  case neg => rw [if_neg hok] at h; cases h
  rw [if_pos hok] at h
  have h' := yey h
  simp only [Prod.mk.injEq] at h'
  obtain ⟨q1, q2, q3⟩ := h'
  have HQ := zA.mk (And.intro q1 (And.intro q2 q3))
  have HOK := zA.mk hok
  have HR := zA.mk hr0_0
  have HC := zA.mk hc0_0
  have hl8 : l0_0.length ≤ 8 := hok.1
  clear h hok hr0_0 hc0_0 q1 q2 q3
  go_enter Try.func160, Try.ntmps160
  have BT := zA.mk (zH (QF (W := w) rfl (.cells #[.slice A0_0 l0_0.length c0_0] 30)) (.cells #[.int .i64 0, .int .i64 0, .slice none 0 0] 151))
  have BR := zA.mk (QF (W := w.alloc (.cells #[.slice A0_0 l0_0.length c0_0] 30)) (n := w.heap.size + 1) (by simp) (.cells #[.int .i64 0, .int .i64 0, .slice none 0 0] 151))
  have HB := zA.mk (zC (zC (yry w.heap.size w) (.cells #[.slice A0_0 l0_0.length c0_0] 30)) (.cells #[.int .i64 0, .int .i64 0, .slice none 0 0] 151))
  go_wp2_with (first
    | (go_at_call 46; refine (qp.calls A0_0 c0_0 l0_0 (l0_0.length : Int) _ (Kd.ze HR.out HB.out) HC.out rfl).mono ?_; rintro e w2 ⟨rfl, hd⟩; have hb := zZ.below hd; clear hd; have BT2 := zA.mk (zP BT.out hb); have BR2 := zA.mk (zP BR.out hb); have HB2 := zA.mk (zN HB.out hb); clear BT BR HB hb; have hT2 : w2.cell? ⟨w.heap.size, 0, none⟩ = some (.slice A0_0 l0_0.length c0_0) := (zK BT2.out 0).trans rfl; have hz2 : w.heap.size < w2.heap.size := qS BT2.out; have hzn : w.heap.size ≠ w2.heap.size := by omega)
    | (go_at_call 104; refine (zEK.calls 163 _ Try.func163 (by kernel_rfl) rfl #[.pointer (some ⟨w2.heap.size, 0, none⟩)] l0_0 A0_0 c0_0 w2 _ (zCO w2 w2.heap.size (7 * l0_0.length)) (zAM (7 * l0_0.length)) ([], 0) (fun s => s.2.toNat) 200 zEN ?aN (fun _ _ _ h hb => h.stays hb) (fun _ _ h => h.below) (Kd.ze HR.out HB2.out) (fun r hr x hx hb => ⟨(HOK.out.2.2 r hr x hx hb).2.1, (HOK.out.2.2 r hr x hx hb).2.2⟩) ?aS ?a0).mono ?_; (case aN => have := sum_le HOK.out.2.1; have := HOK.out.1; show 0 + _ ≤ _; omega); (case aS => exact zGM HOK.out); (case a0 => exact ⟨zC (yry _ _) _, ⟨.slice none 0 0, QF rfl _, Kd.zAy _ _ _ _ _⟩, yqy _, by simp⟩); rintro e w3 ⟨rfl, hI⟩; have HI := zA.mk (show zCO w2 w2.heap.size (7 * l0_0.length) (zBS l0_0) w3 from hI); clear hI hT2 hz2 hzn; obtain ⟨v, hM, hE⟩ := HI.out.ex; obtain ⟨Av, cv, rfl⟩ := Kd.ZP hE; have HM := zA.mk hM; have HE := zA.mk hE; have BR3 := zA.mk (zP BR2.out HI.out.below); have HB3 := zA.mk (zN HB2.out HI.out.below); clear hM hE BR2; have hm0 : w3.cell? ⟨w2.heap.size, 0, none⟩ = some (.int .i64 (zBS l0_0).2) := (zK HM.out 0).trans rfl; have hm1 : w3.cell? ⟨w2.heap.size, 1, none⟩ = some (.int .i64 ((7 * l0_0.length : Nat) : Int)) := (zK HM.out 1).trans rfl; have hm2 : w3.cell? ⟨w2.heap.size, 2, none⟩ = some (.slice Av (zBS l0_0).1.length cv) := (zK HM.out 2).trans rfl; have hr0 := zL BR3.out 0; have hr1 := zL BR3.out 1; have hr2 := zL BR3.out 2; have hrc0 : w3.cell? ⟨w.heap.size + 1, 0, none⟩ = some (.int .i64 0) := (zK BR3.out 0).trans rfl; have hrc1 : w3.cell? ⟨w.heap.size + 1, 1, none⟩ = some (.int .i64 0) := (zK BR3.out 1).trans rfl; have hrc2 : w3.cell? ⟨w.heap.size + 1, 2, none⟩ = some (.slice none 0 0) := (zK BR3.out 2).trans rfl))
  refine bodyPost_ret (results_cell_row rfl _ _ (w.heap.size + 1) 151 #[.int .i64 (zBS l0_0).2, .int .i64 ((7 * l0_0.length : Nat) : Int), .slice Av (zBS l0_0).1.length cv] (0, 0) _ rfl (by refine qe (cs := #[.int .i64 (zBS l0_0).2, .int .i64 ((7 * l0_0.length : Nat) : Int), .slice none 0 0]) ?_ 2 _ rfl; refine qe (cs := #[.int .i64 (zBS l0_0).2, .int .i64 0, .slice none 0 0]) ?_ 1 _ rfl; refine qe (cs := #[.int .i64 0, .int .i64 0, .slice none 0 0]) ?_ 0 _ rfl; exact BR3.out) Try.underlying151 rfl (by kernel_rfl)) rfl ?_
  obtain ⟨e1, e2, e3⟩ := HQ.out
  refine ⟨_, by rw [← e1, ← e2]; rfl, ?_, ?_⟩
  · rw [← e3]
    exact Kd.qW (Kd.zAz (Kd.zAz (Kd.zAz (Kd.Zb HE.out HB2.out.size) BR3.out (by decide) 0 _) (qe BR3.out 0 _ rfl) (by decide) 1 _) (qe (qe BR3.out 0 _ rfl) 1 _ rfl) (by decide) 2 _) (fun _ _ => trivial)
  · exact zF (zF (zF HB3.out (by omega)) (by omega)) (by omega)
set_option maxHeartbeats 8000000 in
set_option maxRecDepth 100000 in
theorem zBC.calls (rows cols i : Int) (A0 : Option Addr) (c0 : Nat) (l : List Int) (w : World) (hr : Kd.C (Kd.int .i64) w A0 l.length l) (hc : l.length ≤ c0) (h0 : 0 ≤ wrap64 (i * cols)) (h1 : wrap64 (i * cols) ≤ wrap64 (wrap64 (i + 1) * cols)) (h2 : wrap64 (wrap64 (i + 1) * cols) ≤ l.length) :
    Calls Try.prog 162 #[.agg #[.int .i64 rows, .int .i64 cols, .slice A0 l.length c0], .int .i64 i] w fun e w' => ∃ A1 c1, e = .returned (.slice A1 ((l.take (wrap64 (wrap64 (i + 1) * cols)).toNat).drop (wrap64 (i * cols)).toNat).length c1) ∧
      Kd.C (Kd.int .i64) w' A1 ((l.take (wrap64 (wrap64 (i + 1) * cols)).toNat).drop (wrap64 (i * cols)).toNat).length ((l.take (wrap64 (wrap64 (i + 1) * cols)).toNat).drop (wrap64 (i * cols)).toNat) ∧ ((l.take (wrap64 (wrap64 (i + 1) * cols)).toNat).drop (wrap64 (i * cols)).toNat).length ≤ c1 ∧ Below w.heap.size w w' := by
  obtain ⟨i0, hi, hz0, hz1, hz2⟩ := info_parts Jb
  obtain ⟨A1, k1, k2, k3⟩ := zC8 (k := .i64) 44 2 Try.underlying44 hi hz1 A0 c0 l _ _ h0 h1 h2 hc
  have HK := zA.mk k2
  have HK3 := zA.mk k3
  have HR := zA.mk hr
  have HB := zA.mk (zC (yry w.heap.size w) (.cells #[.int .i64 rows, .int .i64 cols, .slice A0 l.length c0] 151))
  clear hr hc h0 h1 h2 k2 k3 hz0 hz1 hz2 hi
  generalize ((l.take (wrap64 (wrap64 (i + 1) * cols)).toNat).drop (wrap64 (i * cols)).toNat) = rr at *
  go_enter Try.func162, Try.ntmps162
  go_wp2
  go_ret
  exact ⟨A1, _, rfl, Kd.zE9 (HK.out _ (Kd.zBb (Kd.ze HR.out HB.out))), HK3.out, HB.out⟩
def zEO : List Int → List Int → Int → Int
  | x :: xs, y :: ys, s => zEO xs ys (wrap64 (s + wrap64 (x * y)))
  | _, _, s => s
def rowAt (cols : Nat) (l : List Int) (i : Nat) : List Int := (l.take ((i + 1) * cols)).drop (i * cols)
def Jr (cols : Nat) (l v : List Int) : Nat → Nat → Bool
  | 0, _ => true
  | d + 1, i => if zEO (rowAt cols l i) v 0 = 0 then Jr cols l v d (i + 1) else false
def zFh (rows cols : Int) (l v : List Int) : Prop := 0 ≤ rows ∧ rows ≤ 100000 ∧ 0 ≤ cols ∧ cols ≤ 1000 ∧ (l.length : Int) = rows * cols ∧ cols ≤ v.length
instance (rows cols : Int) (l v : List Int) : Decidable (zFh rows cols l v) := by unfold zFh; infer_instance
def Zf.f (a0_0 a0_1 : Int) (l0_2 l1 : List Int) : Option Bool := if zFh a0_0 a0_1 l0_2 l1 then some (Jr a0_1.toNat l0_2 l1 a0_0.toNat 0) else none
theorem wid9 {x : Int} (h0 : -9223372036854775808 ≤ x) (h1 : x ≤ 9223372036854775807) : wrap64 x = x := by unfold wrap64; omega
theorem row_ix {n c i m : Nat} (hm : m = n * c) (hn : n ≤ 100000) (hc : c ≤ 1000) (hi : i < n) : wrap64 ((i : Int) * (c : Int)) = ((i * c : Nat) : Int) ∧ wrap64 (wrap64 ((i : Int) + 1) * (c : Int)) = (((i + 1) * c : Nat) : Int) ∧ i * c ≤ (i + 1) * c ∧ (i + 1) * c ≤ m := by
  have h1 : (i + 1) * c ≤ n * c := Nat.mul_le_mul_right c (by omega)
  have h2 : n * c ≤ 100000 * 1000 := Nat.mul_le_mul hn hc
  have h3 : (i + 1) * c = i * c + c := Nat.succ_mul i c
  have e1 : (i : Int) * (c : Int) = ((i * c : Nat) : Int) := by push_cast; rfl
  have e2 : ((i : Int) + 1) * (c : Int) = (((i + 1) * c : Nat) : Int) := by push_cast; rfl
  refine ⟨?_, ?_, by omega, by omega⟩
  · rw [e1]; exact wid9 (by omega) (by omega)
  · rw [wid9 (x := (i : Int) + 1) (by omega) (by omega), e2]; exact wid9 (by omega) (by omega)
set_option maxHeartbeats 8000000 in
set_option maxRecDepth 100000 in
theorem Zf.calls (a0_0 a0_1 : Int) (A0_2 : Option Addr) (c0_2 : Nat) (l0_2 : List Int) (A1 : Option Addr) (c1 : Nat) (l1 : List Int) (r : Bool) (w : World) (hr0_2 : Kd.C (Kd.int .i64) w A0_2 l0_2.length l0_2) (hc0_2 : l0_2.length ≤ c0_2) (hr1 : Kd.C (Kd.int .i64) w A1 l1.length l1) (hc1 : l1.length ≤ c1) (h : Zf.f a0_0 a0_1 l0_2 l1 = some r) :
    Calls Try.prog 159 #[.agg #[.int .i64 a0_0, .int .i64 a0_1, .slice A0_2 l0_2.length c0_2], .slice A1 l1.length c1] w fun e w' => e = .returned (.bool r) ∧ Below w.heap.size w w' := by
  unfold Zf.f at h
  by_cases hok : zFh a0_0 a0_1 l0_2 l1
  case neg => rw [if_neg hok] at h; cases h
  rw [if_pos hok] at h
  obtain ⟨h0, h1, h2, h3, h4, h5⟩ := hok
  obtain ⟨n, rfl⟩ := Int.eq_ofNat_of_zero_le h0
  obtain ⟨c, rfl⟩ := Int.eq_ofNat_of_zero_le h2
  have hm : l0_2.length = n * c := by
    have e1 : ((n : Int) * (c : Int)) = ((n * c : Nat) : Int) := by push_cast; rfl
    rw [e1] at h4; omega
  rw [yny, yny] at h
  have HA : zA (Jr c l0_2 l1 (n - 0) 0 = r) := ⟨yey h⟩
  have HM := zA.mk hm
  have HR := zA.mk hr0_2
  have HC := zA.mk hc0_2
  have HV := zA.mk hr1
  have HVC := zA.mk hc1
  have hvb : l1.length ≤ 9223372036854775807 := hr1.2.1
  have hn9 : n ≤ 100000 := by omega
  have hc9 : c ≤ 1000 := by omega
  have hcv : c ≤ l1.length := by omega
  clear h h0 h1 h2 h3 h4 h5 hm hr0_2 hc0_2 hr1 hc1
  have BM := zA.mk (QF (W := w) rfl (.cells #[.int .i64 (n : Int), .int .i64 (c : Int), .slice A0_2 l0_2.length c0_2] 151))
  have HB := zA.mk (zC (yry w.heap.size w) (.cells #[.int .i64 (n : Int), .int .i64 (c : Int), .slice A0_2 l0_2.length c0_2] 151))
  go_enter Try.func159, Try.ntmps159
  go_wp2
  go_loopg [11] n (fun gg v11 w' => ∃ i : Nat, i ≤ n ∧ n - i ≤ gg ∧ v11 = .int .i64 i ∧ zA (Jr c l0_2 l1 (n - i) i = r) ∧ zA (w'.heap[w.heap.size]? = some (.cells #[.int .i64 (n : Int), .int .i64 (c : Int), .slice A0_2 l0_2.length c0_2] 151 (0, 0))) ∧ zA (Below w.heap.size w w'))
  case atStart => exact ⟨0, Nat.zero_le _, by omega, rfl, HA, BM, HB⟩
  case round =>
    clear HA BM HB
    obtain ⟨i, hi, hg, rfl, HA, BM, HB⟩ := hrel
    by_cases hlt : i < n
    · have hltz : (i : Int) < (n : Int) := by omega
      have HIX := zA.mk (row_ix HM.out hn9 hc9 hlt)
      have hm0 : wr.cell? ⟨w.heap.size, 0, none⟩ = some (.int .i64 (n : Int)) := (zK BM.out 0).trans rfl
      have hm1 : wr.cell? ⟨w.heap.size, 1, none⟩ = some (.int .i64 (c : Int)) := (zK BM.out 1).trans rfl
      have hm2 : wr.cell? ⟨w.heap.size, 2, none⟩ = some (.slice A0_2 l0_2.length c0_2) := (zK BM.out 2).trans rfl
      have HA2 := HA.out
      rw [show n - i = (n - (i + 1)) + 1 by omega, Jr] at HA2
      have hrl : (rowAt c l0_2 i).length = c := by
        have := HIX.out.2.2.2
        have h3 : (i + 1) * c = i * c + c := Nat.succ_mul i c
        unfold rowAt; rw [yly, ymy]; omega
      have hrw : (l0_2.take (wrap64 (wrap64 ((i : Int) + 1) * (c : Int))).toNat).drop (wrap64 ((i : Int) * (c : Int))).toNat = rowAt c l0_2 i := by
        rw [HIX.out.1, HIX.out.2.1, yny, yny]; rfl
      have HROW := zA.mk (zBC.calls (n : Int) (c : Int) (i : Int) A0_2 c0_2 l0_2 wr (Kd.ze HR.out HB.out) HC.out (by rw [HIX.out.1]; omega) (by rw [HIX.out.1, HIX.out.2.1]; have := HIX.out.2.2.1; omega) (by rw [HIX.out.2.1]; have := HIX.out.2.2.2; omega))
      rw [hrw] at HROW
      have HD : zA (zEO ((rowAt c l0_2 i).drop 0) (l1.drop 0) 0 = zEO (rowAt c l0_2 i) l1 0) := ⟨by rw [List.drop_zero, List.drop_zero]⟩
      have HRL := zA.mk hrl
      generalize zEO (rowAt c l0_2 i) l1 0 = D at HD HA2
      generalize rowAt c l0_2 i = rr at HROW HD HRL
      have HA3 := zA.mk HA2
      clear HA HA2 hrl hrw HIX
      go_wp2_with (first | (go_at_call 162; refine HROW.out.mono ?_; rintro e w2 ⟨A2, c2, rfl, k1, k2, k3⟩; have HRR := zA.mk k1; have BM2 := zA.mk (zP BM.out k3); have HB2 := zA.mk (zN HB.out k3); have hrb : rr.length ≤ 9223372036854775807 := k1.2.1; clear k1 k2 k3 BM HB hm0 hm1 hm2 HROW))
      have hlv : rr.length ≤ l1.length := by rw [HRL.out]; exact hcv
      go_loopg [6, 18] rr.length (fun gg v6 v18 w' => ∃ (j : Nat) (s : Int), j ≤ rr.length ∧ rr.length - j ≤ gg ∧ v18 = .int .i64 j ∧ v6 = .int .i64 s ∧ zA (zEO (rr.drop j) (l1.drop j) s = D) ∧ zA (Kd.C (Kd.int .i64) w' A2 rr.length rr) ∧ zA (w'.heap[w.heap.size]? = some (.cells #[.int .i64 (n : Int), .int .i64 (c : Int), .slice A0_2 l0_2.length c0_2] 151 (0, 0))) ∧ zA (Below w.heap.size w w'))
      case atStart => exact ⟨0, 0, Nat.zero_le _, by omega, rfl, rfl, HD, HRR, BM2, HB2⟩
      case round =>
        clear HD HRR BM2 HB2
        obtain ⟨j, s, hj, hgj, rfl, rfl, HD, HRR, BM, HB⟩ := hrel
        by_cases hlj : j < rr.length
        · have hljz : (j : Int) < (rr.length : Int) := by omega
          have hljv : (j : Int) < (l1.length : Int) := by omega
          obtain ⟨ad1, e1, hx⟩ := Kd.ZI HRR.out (j : Int) (by omega) hljz
          obtain ⟨ad2, e2, hy⟩ := Kd.ZI HV.out (j : Int) (by omega) hljv
          have ex : rd rr (j : Int) = rr[j] := by simp [rd, hlj]
          have ey : rd l1 (j : Int) = l1[j] := by
            have : j < l1.length := by omega
            simp [rd, this]
          rw [ex, yny] at hx
          rw [ey, yny] at hy
          replace hy := (HB.out.cell (ypy w _ hy)).trans hy
          have HD2 := HD.out
          rw [yoy hlj, yoy (show j < l1.length by omega), zEO] at HD2
          have HD3 := zA.mk HD2
          clear HD HD2 ex ey
          generalize rr[j] = x at hx HD3
          generalize l1[j] = y at hy HD3
          cases e1
          cases e2
          go_wp2
          go_roundg (rr.length - (j + 1))
          case measure => omega
          case rel => exact ⟨j + 1, _, by omega, by omega, by go_num, rfl, HD3, HRR, BM, HB⟩
        · obtain rfl : j = rr.length := by omega
          have hljz : ¬ (rr.length : Int) < (rr.length : Int) := by omega
          have HD2 := HD.out
          rw [List.drop_length] at HD2
          have HD3 : s = D := by rw [← HD2]; cases l1.drop rr.length <;> rfl
          subst HD3
          by_cases hz : s = 0
          · have HA4 := HA3.out
            rw [if_pos hz] at HA4
            have HA5 := zA.mk HA4
            subst hz
            clear HA4 HA3 HD HD2
            go_wp2
            go_roundg (n - (i + 1))
            case measure => omega
            case rel => exact ⟨i + 1, by omega, by omega, by go_num, HA5, BM, HB⟩
          · have HA4 := HA3.out
            rw [if_neg hz] at HA4
            subst HA4
            have b1 : (s == 0) = false := beq_eq_false_iff_ne.mpr hz
            have b2 : (s != 0) = true := bne_iff_ne.mpr hz
            clear HA3 HD HD2 hz
            go_wp2
            go_ret
            exact ⟨rfl, HB.out⟩
    · obtain rfl : i = n := by omega
      have hltz : ¬ (i : Int) < (i : Int) := by omega
      have HA2 := HA.out
      rw [Nat.sub_self, Jr] at HA2
      subst HA2
      clear HA
      go_wp2
      go_ret
      exact ⟨rfl, HB.out⟩
def ZG.f (a0 : Int) (a1 : Int) (a2 : Int) : Option (Bool) := if a1 ≤ a0 then (some (decide (a0 ≤ a2))) else (some false)
set_option maxHeartbeats 8000000 in
set_option maxRecDepth 100000 in
theorem ZG.calls (a0 : Int) (a1 : Int) (a2 : Int) (r : Bool) (w : World) (h : ZG.f a0 a1 a2 = some r) :
    Calls Try.prog 51 #[.int .i64 a0, .int .i64 a1, .int .i64 a2] w fun e w' => e = .returned (.bool r) ∧ zZ w w' := by
  have H : (if a1 ≤ a0 then (some (decide (a0 ≤ a2))) else (some false)) = some r := h
  clear h
  by_cases c4 : a1 ≤ a0
  · rw [if_pos c4] at H
    have c4b0 : decide (a1 ≤ a0) = true := ygy c4
    clear c4
    obtain rfl := yey H
    go_enter Try.func51, Try.ntmps51
    go_wp2
    go_ret
    exact ⟨by first | rfl | (simp; done) | (simp [*]; done), by repeat (first | exact zZ.refl _ | apply zZ.step)⟩
  · rw [if_neg c4] at H
    have c4b0 : decide (a1 ≤ a0) = false := yhy c4
    clear c4
    obtain rfl := yey H
    go_enter Try.func51, Try.ntmps51
    go_wp2
    go_ret
    exact ⟨by first | rfl | (simp; done) | (simp [*]; done), by repeat (first | exact zZ.refl _ | apply zZ.step)⟩
def qL.f (a0 : Int) : Option (Bool) := (ZG.f a0 0 1000).bind fun t101 => (some (!t101))
set_option maxHeartbeats 8000000 in
set_option maxRecDepth 100000 in
theorem qL.calls (a0 : Int) (r : Bool) (w : World) (h : qL.f a0 = some r) :
    Calls Try.prog 158 #[.int .i64 a0] w fun e w' => e = .returned (.bool r) ∧ zZ w w' := by
  have H : ((ZG.f a0 0 1000).bind fun t101 => (some (!t101))) = some r := h
  clear h
  replace H := ydy.mp H
  obtain ⟨t101, A20, H⟩ := H
  replace H : (some (!t101)) = some r := H
  have A2 := zA.mk A20
  clear A20
  obtain rfl := yey H
  go_enter Try.func158, Try.ntmps158
  go_wp2_with (first | ((with_reducible refine zS (f := 51) rfl ?_); refine qB (some 4) rfl rfl Try.func51 (by kernel_rfl) rfl #[.int .i64 a0, .int .i64 0, .int .i64 1000] rfl (by (try simp only [yiy, yjy, yky]); first | done | rfl | (simp only [yly, ymy]; rfl)) ?_; (with_reducible refine (ZG.calls a0 0 1000 t101 _ A2.out).mono ?_); rintro e w' ⟨rfl, ⟨nd, rfl⟩⟩; refine ⟨_, rfl, ?_⟩))
  go_ret
  exact ⟨by first | rfl | (simp; done) | (simp [*]; done), by repeat (first | exact zZ.refl _ | apply zZ.step)⟩
end Go.Proofs.Ytfnopcbicceeaaa.P
namespace Go.Proofs.Ytfnopcbicceeaaa.Lib
open Go.RowKit Go.Proofs.YtfnopcbicceeaaaW.PrintWords
def zEP {α : Type} (f : α → Option Bool) : Nat → List α → Option Int
  | _, [] => some (-1)
  | i, x :: xs => (f x).bind fun b => if b = true then some (i : Int) else zEP f (i + 1) xs
theorem zBD {α : Type} (f : α → Option Bool) (i : Nat) (x : α) (xs : List α) : zEP f i (x :: xs) = (f x).bind fun b => if b = true then some (i : Int) else zEP f (i + 1) xs := rfl
end Go.Proofs.Ytfnopcbicceeaaa.Lib
namespace Go.Proofs.Ytfnopcbicceeaaa.P
open Go.RowKit Go.Proofs.YtfnopcbicceeaaaW.PrintWords Go.Proofs.YtfnopcbicceeaaaW.PrintLast Go.Proofs.YtfnopcbicceeaaaW.PrintMore
attribute [local go_sem] Qd Qe JC JD QH QI Qf Qg
set_option linter.unusedVariables false
set_option linter.unusedSimpArgs false
open Go.Proofs.Ytfnopcbicceeaaa.Lib
def qA.f (l0 : List Int) : Option Int := zEP (fun x => qL.f x) 0 l0
set_option maxHeartbeats 8000000 in
set_option maxRecDepth 100000 in
theorem qA.calls (A0 : Option Addr) (c0 : Nat) (l0 : List Int) (r : Int) (w : World) (hr0 : Kd.C (Kd.int .i64) w A0 l0.length l0) (hc0 : l0.length ≤ c0) (h : qA.f l0 = some r) :
    Calls Try.prog 124 #[.slice A0 l0.length c0, .func (.func 158) #[] #[]] w fun e w' => e = .returned (.int .i64 r) ∧ Below w.heap.size w w' := by
  have HR0 := zA.mk hr0
  clear hr0 hc0
  have hbig : l0.length ≤ 9223372036854775807 := HR0.out.2.1
  have HB := zA.mk (yry w.heap.size w)
  have H' := zA.mk (show zEP (fun x => qL.f x) 0 l0 = some r from h)
  clear h
  go_enter Try.func124, Try.ntmps124
  go_wp2
  go_loopg [5, 8] l0.length (fun gg v5 v8 w' => ∃ kk : Nat, kk ≤ l0.length ∧ l0.length - kk ≤ gg ∧ v8 = .int .i64 kk ∧ zA (zEP (fun x => qL.f x) kk (l0.drop kk) = some r) ∧ zA (Below w.heap.size w w'))
  case atStart => exact ⟨0, Nat.zero_le _, by omega, rfl, H', HB⟩
  case round =>
    clear H' HB
    obtain ⟨kk, hkk, hg, rfl, HA, HB⟩ := hrel
    by_cases hlt : kk < l0.length
    · have hltz : (kk : Int) < (l0.length : Int) := by omega
      have H := HA.out
      clear HA
      rw [yoy hlt, zBD] at H
      replace H := ydy.mp H
      obtain ⟨b, hb, H⟩ := H
      obtain ⟨ad, e104, hx⟩ := Kd.ZI HR0.out (kk : Int) (by omega) (by omega)
      have ex : rd l0 (kk : Int) = l0[kk] := by simp [rd, hlt]
      rw [ex, yny] at hx
      replace hx := (HB.out.cell (ypy w _ hx)).trans hx
      generalize l0[kk] = y at hx hb
      clear ex
      cases e104
      have HC := zA.mk hb
      clear hb
      cases b with
      | true =>
        have H2 := zA.mk H
        clear H
        go_wp2_with fail
        refine (qL.calls _ _ _ HC.out).mono ?_
        rintro e w' ⟨rfl, hd⟩
        have HB2 := zA.mk (zN HB.out hd.below)
        clear hd HB
        go_wp2
        go_ret
        exact ⟨by rw [yey H2.out]; rfl, HB2.out⟩
      | false =>
        have H2 := zA.mk H
        clear H
        go_wp2_with fail
        refine (qL.calls _ _ _ HC.out).mono ?_
        rintro e w' ⟨rfl, hd⟩
        have HB2 := zA.mk (zN HB.out hd.below)
        clear hd HB
        go_wp2
        go_roundg (l0.length - (kk + 1))
        case measure => omega
        case rel => exact ⟨kk + 1, by omega, by omega, by go_num, H2, HB2⟩
    · have hltz : ¬ (kk : Int) < (l0.length : Int) := by omega
      have e : kk = l0.length := by omega
      subst e
      have H2 := zA.mk (yey (by simpa [zEP] using HA.out))
      clear HA
      go_wp2
      go_ret
      exact ⟨by rw [← H2.out]; rfl, HB.out⟩
def za.f (l0 : List Int) : Option Bool := (qA.f l0).bind fun i => some (decide (0 ≤ i))
set_option maxHeartbeats 8000000 in
set_option maxRecDepth 100000 in
theorem za.calls (A0 : Option Addr) (c0 : Nat) (l0 : List Int) (r : Bool) (w : World) (hr0 : Kd.C (Kd.int .i64) w A0 l0.length l0) (hc0 : l0.length ≤ c0) (h : za.f l0 = some r) :
    Calls Try.prog 157 #[.slice A0 l0.length c0, .func (.func 158) #[] #[]] w fun e w' => e = .returned (.bool r) ∧ Below w.heap.size w w' := by
  obtain ⟨i, hi, h⟩ := ydy.mp h
  have H := zA.mk (yey h)
  clear h
  have HI := zA.mk hi
  clear hi
  have HR0 := zA.mk hr0
  have HC0 := zA.mk hc0
  clear hr0 hc0
  go_enter Try.func157, Try.ntmps157
  go_wp2_with fail
  refine (qA.calls _ _ _ _ _ HR0.out HC0.out HI.out).mono ?_
  rintro e w' ⟨rfl, hd⟩
  have HB := zA.mk hd
  clear hd
  go_wp2
  go_ret
  exact ⟨by rw [← H.out]; rfl, HB.out⟩
end Go.Proofs.Ytfnopcbicceeaaa.P
namespace Go.Proofs.Ytfnopcbicceeaaa.P
open Go.RowKit Go.Proofs.YtfnopcbicceeaaaW.PrintWords Go.Proofs.YtfnopcbicceeaaaW.PrintLast Go.Proofs.YtfnopcbicceeaaaW.PrintMore
attribute [local go_sem] Qd Qe JC JD QH QI Qf Qg
set_option linter.unusedVariables false
set_option linter.unusedSimpArgs false
def qY.f (l0_0 : List (List (zq))) (l1 : List Int) : Option (Bool) := if (l1.length : Int) = (wrap64 (7 * (l0_0.length : Int))) then ((za.f l1).bind fun t102 => (if t102 = true then (some false) else ((zx.f l0_0).bind fun bt103 => ((Zf.f bt103.1 bt103.2.1 bt103.2.2 l1).bind fun t108 => (some t108))))) else (some false)
set_option maxHeartbeats 8000000 in
set_option maxRecDepth 100000 in
theorem qY.calls (A0_0 : Option Addr) (c0_0 : Nat) (l0_0 : List (List (zq))) (A1 : Option Addr) (c1 : Nat) (l1 : List Int) (r : Bool) (w : World) (hr0_0 : Kd.C (Kd.slice 59 qx) w A0_0 l0_0.length l0_0) (hc0_0 : l0_0.length ≤ c0_0) (hr1 : Kd.C (Kd.int .i64) w A1 l1.length l1) (hc1 : l1.length ≤ c1) (h : qY.f l0_0 l1 = some r) :
    Calls Try.prog 155 #[.agg #[.slice A0_0 l0_0.length c0_0], .slice A1 l1.length c1] w fun e w' => e = .returned (.bool r) ∧ Below w.heap.size w w' := by
  have hu30 := Try.underlying30
  have HR0_0 := zA.mk hr0_0
  have HC0_0 := zA.mk hc0_0
  clear hr0_0 hc0_0
  have HR1 := zA.mk hr1
  have HC1 := zA.mk hc1
  clear hr1 hc1
  have HB := zA.mk (yry w.heap.size w)
  have H : (if (l1.length : Int) = (wrap64 (7 * (l0_0.length : Int))) then ((za.f l1).bind fun t102 => (if t102 = true then (some false) else ((zx.f l0_0).bind fun bt103 => ((Zf.f bt103.1 bt103.2.1 bt103.2.2 l1).bind fun t108 => (some t108))))) else (some false)) = some r := h
  clear h
  by_cases c3 : (l1.length : Int) = (wrap64 (7 * (l0_0.length : Int)))
  · rw [if_pos c3] at H
    have c3b0 : ((l1.length : Int) == (wrap64 (7 * (l0_0.length : Int)))) = true := beq_iff_eq.mpr c3
    have c3b1 : ((l1.length : Int) != (wrap64 (7 * (l0_0.length : Int)))) = false := bne_eq_false_iff_eq.mpr c3
    clear c3
    replace H := ydy.mp H
    obtain ⟨t102, A40, H⟩ := H
    replace H : (if t102 = true then (some false) else ((zx.f l0_0).bind fun bt103 => ((Zf.f bt103.1 bt103.2.1 bt103.2.2 l1).bind fun t108 => (some t108)))) = some r := H
    have A4 := zA.mk A40
    clear A40
    by_cases c5 : t102 = true
    · subst c5
      have H1 : (some false) = some r := by rw [if_pos rfl] at H; exact H
      clear H
      have H := H1
      clear H1
      obtain rfl := yey H
      go_enter Try.func155, Try.ntmps155
      go_wp2_with (first | ((with_reducible refine zd (N := 2) rfl ?_); refine zb ?hg (N := 2) ?hd (cs := #[.slice A0_0 l0_0.length c0_0]) (t := 30) ?hr ?_; (case hd => rfl); (case hg => rfl); (case hr => first | (go_simp; done) | (go_simp; rfl)); intro gb101 hg w6 hbox hb; have n0_ := zA.mk (zN (by repeat (first | (with_reducible first | exact HB.out | apply zC | apply zB | apply zD) | exact HB.out)) hb); have n1_ := zA.mk (hbox); have n2_ := zA.mk ((by rw [hg]; exact (zO (by repeat (first | (with_reducible first | exact HB.out | apply zC | apply zB | apply zD) | exact HB.out))) : w.heap.size ≤ gb101)); have n3_ := zA.mk ((by rw [hg]; exact (zO (by repeat (first | (with_reducible first | exact HB.out | apply zC | apply zB | apply zD) | exact HB.out))) : w.heap.size ≤ gb101)); clear HB; have HB := n0_; have BK101 := n1_; have GW101 := n2_; have GE101 := n3_; clear n0_ n1_ n2_ n3_; clear hb hbox hg; have hcz7_0 : w6.cell? ⟨gb101, 0, none⟩ = some (.slice A0_0 l0_0.length c0_0) := (zK BK101.out 0).trans rfl; have hfz7_0 := zL BK101.out 0) | (go_at_call 157; (with_reducible refine (za.calls _ _ l1 true _ ?side1 ?side2 A4.out).mono ?_); (case side1 => repeat (first | exact (Kd.ze HR1.out HB.out) | (with_reducible refine Kd.zf ?_ _) | (with_reducible refine Kd.zg ?_ _) | (with_reducible refine Kd.zz ?_))); (case side2 => exact HC1.out); rintro e w8 ⟨rfl, hb⟩; have n0_ := zA.mk (zP (g := gb101) (o := .cells #[.slice A0_0 l0_0.length c0_0] 30 (0, 0)) (by (with_reducible repeat (first | refine zI ?_ _ | refine zJ ?_ | refine zH ?_ _)); exact BK101.out) hb); have n1_ := zA.mk (zN (by repeat (first | (with_reducible first | exact HB.out | apply zC | apply zB | apply zD | refine zF ?_ GE101.out) | exact HB.out)) hb); clear BK101; clear HB; have BK101 := n0_; have HB := n1_; clear n0_ n1_; (try clear hb); (try clear hb2); (try clear hk); (try clear hi)))
      go_ret
      exact ⟨by first | rfl | (simp [zQ, zR] <;> rfl) | (simp [*, zQ, zR] <;> rfl), by repeat (first | (with_reducible first | exact HB.out | apply zC | apply zB | apply zD | refine zF ?_ GE101.out) | exact HB.out)⟩
    · replace c5 := Bool.eq_false_iff.mpr c5
      subst c5
      have H1 : ((zx.f l0_0).bind fun bt103 => ((Zf.f bt103.1 bt103.2.1 bt103.2.2 l1).bind fun t108 => (some t108))) = some r := by rw [if_neg (show ¬ (false = true) by decide)] at H; exact H
      clear H
      have H := H1
      clear H1
      replace H := ydy.mp H
      obtain ⟨⟨t103, t104, t105⟩, A90, H⟩ := H
      replace H : ((Zf.f t103 t104 t105 l1).bind fun t108 => (some t108)) = some r := H
      have A9 := zA.mk A90
      clear A90
      replace H := ydy.mp H
      obtain ⟨t108, A100, H⟩ := H
      replace H : (some t108) = some r := H
      have A10 := zA.mk A100
      clear A100
      obtain rfl := yey H
      go_enter Try.func155, Try.ntmps155
      go_wp2_with (first | ((with_reducible refine zd (N := 2) rfl ?_); refine zb ?hg (N := 2) ?hd (cs := #[.slice A0_0 l0_0.length c0_0]) (t := 30) ?hr ?_; (case hd => rfl); (case hg => rfl); (case hr => first | (go_simp; done) | (go_simp; rfl)); intro gb101 hg w11 hbox hb; have n0_ := zA.mk (zN (by repeat (first | (with_reducible first | exact HB.out | apply zC | apply zB | apply zD) | exact HB.out)) hb); have n1_ := zA.mk (hbox); have n2_ := zA.mk ((by rw [hg]; exact (zO (by repeat (first | (with_reducible first | exact HB.out | apply zC | apply zB | apply zD) | exact HB.out))) : w.heap.size ≤ gb101)); have n3_ := zA.mk ((by rw [hg]; exact (zO (by repeat (first | (with_reducible first | exact HB.out | apply zC | apply zB | apply zD) | exact HB.out))) : w.heap.size ≤ gb101)); clear HB; have HB := n0_; have BK101 := n1_; have GW101 := n2_; have GE101 := n3_; clear n0_ n1_ n2_ n3_; clear hb hbox hg; have hcz12_0 : w11.cell? ⟨gb101, 0, none⟩ = some (.slice A0_0 l0_0.length c0_0) := (zK BK101.out 0).trans rfl; have hfz12_0 := zL BK101.out 0) | (go_at_call 157; (with_reducible refine (za.calls _ _ l1 false _ ?side1 ?side2 A4.out).mono ?_); (case side1 => repeat (first | exact (Kd.ze HR1.out HB.out) | (with_reducible refine Kd.zf ?_ _) | (with_reducible refine Kd.zg ?_ _) | (with_reducible refine Kd.zz ?_))); (case side2 => exact HC1.out); rintro e w13 ⟨rfl, hb⟩; have n0_ := zA.mk (zP (g := gb101) (o := .cells #[.slice A0_0 l0_0.length c0_0] 30 (0, 0)) (by (with_reducible repeat (first | refine zI ?_ _ | refine zJ ?_ | refine zH ?_ _)); exact BK101.out) hb); have n1_ := zA.mk (zN (by repeat (first | (with_reducible first | exact HB.out | apply zC | apply zB | apply zD | refine zF ?_ GE101.out) | exact HB.out)) hb); clear BK101; clear HB; have BK101 := n0_; have HB := n1_; clear n0_ n1_; (try clear hb); (try clear hb2); (try clear hk); (try clear hi); have hcz14_0 : w13.cell? ⟨gb101, 0, none⟩ = some (.slice A0_0 l0_0.length c0_0) := (zK BK101.out 0).trans rfl; have hfz14_0 := zL BK101.out 0) | (go_at_call 160; (with_reducible refine (zx.calls _ _ l0_0 t103 t104 t105 _ ?side1 ?side2 A9.out).mono ?_); (case side1 => repeat (first | exact (Kd.ze HR0_0.out HB.out) | (with_reducible refine Kd.zf ?_ _) | (with_reducible refine Kd.zg ?_ _) | (with_reducible refine Kd.zz ?_))); (case side2 => exact HC0_0.out); rintro e w15 ⟨v106, rfl, ho0, hb⟩; have n0_ := zA.mk (Kd.Zb ho0 (zO (by repeat (first | (with_reducible first | exact HB.out | apply zC | apply zB | apply zD | refine zF ?_ GE101.out) | exact HB.out)))); have n1_ := zA.mk (zP (g := gb101) (o := .cells #[.slice A0_0 l0_0.length c0_0] 30 (0, 0)) (by (with_reducible repeat (first | refine zI ?_ _ | refine zJ ?_ | refine zH ?_ _)); exact BK101.out) hb); have n2_ := zA.mk (zN (by repeat (first | (with_reducible first | exact HB.out | apply zC | apply zB | apply zD | refine zF ?_ GE101.out) | exact HB.out)) hb); clear BK101; clear HB; have HO107 := n0_; have BK101 := n1_; have HB := n2_; clear n0_ n1_ n2_; (try clear hb); (try clear hb2); (try clear hk); (try clear hi); (try clear ho0); obtain ⟨Ao16, co16, eo16⟩ := Kd.ZP HO107.out; subst eo16) | (go_at_call 159; (with_reducible refine (Zf.calls t103 t104 _ _ t105 _ _ l1 t108 _ ?side1 ?side2 ?side3 ?side4 A10.out).mono ?_); (case side1 => repeat (first | exact (Kd.zv HO107.out).2.2 | (with_reducible refine Kd.zf ?_ _) | (with_reducible refine Kd.zg ?_ _) | (with_reducible refine Kd.zz ?_))); (case side2 => exact (Kd.zv HO107.out).2.1); (case side3 => repeat (first | exact (Kd.ze HR1.out HB.out) | (with_reducible refine Kd.zf ?_ _) | (with_reducible refine Kd.zg ?_ _) | (with_reducible refine Kd.zz ?_))); (case side4 => exact HC1.out); rintro e w17 ⟨rfl, hb⟩; have n0_ := zA.mk (Kd.Zk (by (with_reducible repeat (first | apply Kd.zm | apply Kd.zk | apply Kd.zu)); exact HO107.out) hb); have n1_ := zA.mk (zP (g := gb101) (o := .cells #[.slice A0_0 l0_0.length c0_0] 30 (0, 0)) (by (with_reducible repeat (first | refine zI ?_ _ | refine zJ ?_ | refine zH ?_ _)); exact BK101.out) hb); have n2_ := zA.mk (zN (by repeat (first | (with_reducible first | exact HB.out | apply zC | apply zB | apply zD | refine zF ?_ GE101.out) | exact HB.out)) hb); clear HO107; clear BK101; clear HB; have HO107 := n0_; have BK101 := n1_; have HB := n2_; clear n0_ n1_ n2_; (try clear hb); (try clear hb2); (try clear hk); (try clear hi)))
      go_ret
      exact ⟨by first | rfl | (simp [zQ, zR] <;> rfl) | (simp [*, zQ, zR] <;> rfl), by repeat (first | (with_reducible first | exact HB.out | apply zC | apply zB | apply zD | refine zF ?_ GE101.out) | exact HB.out)⟩
  · rw [if_neg c3] at H
    have c3b0 : ((l1.length : Int) == (wrap64 (7 * (l0_0.length : Int)))) = false := beq_eq_false_iff_ne.mpr c3
    have c3b1 : ((l1.length : Int) != (wrap64 (7 * (l0_0.length : Int)))) = true := bne_iff_ne.mpr c3
    obtain rfl := yey H
    go_enter Try.func155, Try.ntmps155
    go_wp2_with (first | ((with_reducible refine zd (N := 2) rfl ?_); refine zb ?hg (N := 2) ?hd (cs := #[.slice A0_0 l0_0.length c0_0]) (t := 30) ?hr ?_; (case hd => rfl); (case hg => rfl); (case hr => first | (go_simp; done) | (go_simp; rfl)); intro gb101 hg w18 hbox hb; have n0_ := zA.mk (zN (by repeat (first | (with_reducible first | exact HB.out | apply zC | apply zB | apply zD) | exact HB.out)) hb); have n1_ := zA.mk (hbox); have n2_ := zA.mk ((by rw [hg]; exact (zO (by repeat (first | (with_reducible first | exact HB.out | apply zC | apply zB | apply zD) | exact HB.out))) : w.heap.size ≤ gb101)); have n3_ := zA.mk ((by rw [hg]; exact (zO (by repeat (first | (with_reducible first | exact HB.out | apply zC | apply zB | apply zD) | exact HB.out))) : w.heap.size ≤ gb101)); clear HB; have HB := n0_; have BK101 := n1_; have GW101 := n2_; have GE101 := n3_; clear n0_ n1_ n2_ n3_; clear hb hbox hg; have hcz19_0 : w18.cell? ⟨gb101, 0, none⟩ = some (.slice A0_0 l0_0.length c0_0) := (zK BK101.out 0).trans rfl; have hfz19_0 := zL BK101.out 0))
    go_ret
    exact ⟨by first | rfl | (simp [zQ, zR] <;> rfl) | (simp [*, zQ, zR] <;> rfl), by repeat (first | (with_reducible first | exact HB.out | apply zC | apply zB | apply zD | refine zF ?_ GE101.out) | exact HB.out)⟩
def qK.l0 : Nat → List Int → List Int → Int → Int → Option (List Int)
  | 0, _, _, _, _ => none
  | k + 1, x3, x6, x7, x8 => if x8 < x7 then (if 0 ≤ x8 then (if x8 < (x6.length : Int) then (if (rd x6 x8) = 0 then (qK.l0 k x3 x6 x7 (wrap64 (x8 + 1))) else (if x3.length < 17592186044416 then (qK.l0 k (x3 ++ [x8]) x6 x7 (wrap64 (x8 + 1))) else (none))) else (none)) else (none)) else (some x3)
def qK.f (k : Nat) (l0 : List Int) : Option (List Int) := qK.l0 k ([] : List Int) l0 (l0.length : Int) 0
set_option maxHeartbeats 8000000 in
set_option maxRecDepth 100000 in
theorem qK.calls (k : Nat) (A0 : Option Addr) (c0 : Nat) (l0 : List Int) (r : List Int) (w : World) (hr0 : Kd.C (Kd.int .i64) w A0 l0.length l0) (hc0 : l0.length ≤ c0) (h : qK.f k l0 = some r) :
    Calls Try.prog 161 #[.slice A0 l0.length c0] w fun e w' => ∃ v0_ : Value, e = .returned (v0_) ∧ Kd.R (Kd.int .i64) 2 w' w.heap.size (fun _ => True) v0_ r ∧ Below w.heap.size w w' := by
  have HR0 := zA.mk hr0
  have HC0 := zA.mk hc0
  clear hr0 hc0
  have HB := zA.mk (yry w.heap.size w)
  have H : (qK.l0 k ([] : List Int) l0 (l0.length : Int) 0) = some r := h
  clear h
  have H' := zA.mk H
  clear H
  go_enter Try.func161, Try.ntmps161
  go_wp2
  go_loopg [3, 8] k (fun kq v3 v8 w' => ∃ (x3_1 : List Int) (x8_1 : Int), v8 = .int .i64 x8_1 ∧ zA (qK.l0 kq x3_1 l0 (l0.length : Int) x8_1 = some r) ∧ zA (kq ≤ k) ∧ zA (Kd.R (Kd.int .i64) 2 w' w.heap.size (fun _ => True) v3 x3_1) ∧ zA (Below w.heap.size w w'))
  case atStart => exact ⟨(([] : List Int)), (0), (by first | rfl | (simp; done) | (simp [*]; done)), H', ⟨yqy _⟩, ⟨by first | exact Kd.zAy _ _ _ _ _ | exact Kd.zGI _ _ _ _ _ | exact Kd.zGJ _ _ _ _ _ | exact Kd.zG9 _ _ _ _ _ | exact Kd.zGE _ _ _ _ _⟩, ⟨by repeat (first | (with_reducible first | exact HB.out | apply zC | apply zB | apply zD) | exact HB.out)⟩⟩
  case round =>
    clear H'
    try clear c1
    obtain ⟨x3_1, x8_1, rfl, HA, HK1, HO_3, HB⟩ := hrel
    cases gk with
    | zero => exact absurd HA.out (by simp [qK.l0])
    | succ k1 =>
      have H := HA.out
      clear HA
      simp only [qK.l0] at H
      by_cases c2 : x8_1 < (l0.length : Int)
      · rw [if_pos c2] at H
        have c2b0 : decide (x8_1 < (l0.length : Int)) = true := ygy c2
        clear c2
        by_cases c3 : 0 ≤ x8_1
        · rw [if_pos c3] at H
          have c3b0 : decide (0 ≤ x8_1) = true := ygy c3
          clear c3
          by_cases c4 : x8_1 < (l0.length : Int)
          · rw [if_pos c4] at H
            have c4b0 : decide (x8_1 < (l0.length : Int)) = true := ygy c4
            clear c4
            by_cases c5 : (rd l0 x8_1) = 0
            · rw [if_pos c5] at H
              have c5b0 : ((rd l0 x8_1) == 0) = true := beq_iff_eq.mpr c5
              have c5b1 : ((rd l0 x8_1) != 0) = false := bne_eq_false_iff_eq.mpr c5
              clear c5
              have H' := zA.mk H
              clear H
              have p101 : 0 ≤ (x8_1 : Int) := of_decide_eq_true (by first | (with_reducible assumption) | assumption)
              have q101 : x8_1 < (l0.length : Int) := of_decide_eq_true (by first | (with_reducible assumption) | assumption)
              obtain ⟨ad101, e101, hx101_0⟩ := Kd.ZI HR0.out x8_1 p101 q101
              cases e101
              replace hx101_0 := (HB.out.cell (ypy w _ hx101_0)).trans hx101_0
              replace p101 := eq_true p101
              replace q101 := eq_true q101
              go_wp2
              go_roundg k1
              case measure => have := HK1.out; omega
              case rel => exact ⟨(x3_1), (wrap64 (x8_1 + 1)), (by first | rfl | (simp; done) | (simp [*]; done)), H', ⟨by have := HK1.out; omega⟩, ⟨by (with_reducible repeat (first | apply Kd.zm | apply Kd.zk | apply Kd.zu)); exact HO_3.out⟩, ⟨by repeat (first | (with_reducible first | exact HB.out | apply zC | apply zB | apply zD) | exact HB.out)⟩⟩
            · rw [if_neg c5] at H
              have c5b0 : ((rd l0 x8_1) == 0) = false := beq_eq_false_iff_ne.mpr c5
              have c5b1 : ((rd l0 x8_1) != 0) = true := bne_iff_ne.mpr c5
              by_cases c6 : x3_1.length < 17592186044416
              · rw [if_pos c6] at H
                have LMc6 := zA.mk c6
                clear c6
                obtain ⟨y102, hy102⟩ : ∃ y_ : List Int, y_ = (x3_1 ++ [x8_1]) := ⟨_, rfl⟩
                replace H : (qK.l0 k1 y102 l0 (l0.length : Int) (wrap64 (x8_1 + 1))) = some r := by first | (rw [hy102]; with_reducible exact H) | (have H2_ := (yfy _ _).symm.trans H; rw [hy102]; with_reducible exact H2_) | (have H2_ := (yfy _ _).symm.trans H; with_reducible exact H2_) | with_reducible exact H | (rw [hy102]; exact H) | exact H
                have Ny102 := zA.mk hy102
                clear hy102
                have H' := zA.mk H
                clear H
                have p101 : 0 ≤ (x8_1 : Int) := of_decide_eq_true (by first | (with_reducible assumption) | assumption)
                have q101 : x8_1 < (l0.length : Int) := of_decide_eq_true (by first | (with_reducible assumption) | assumption)
                obtain ⟨ad101, e101, hx101_0⟩ := Kd.ZI HR0.out x8_1 p101 q101
                cases e101
                replace hx101_0 := (HB.out.cell (ypy w _ hx101_0)).trans hx101_0
                replace p101 := eq_true p101
                replace q101 := eq_true q101
                go_wp2_with (first | ((with_reducible refine Ze (b := .append) (xs := #[.tmp 15, .tmp 17]) rfl ?_); at_builtin; refine Kd.JO (Kd.int .i64) (w0 := w) w.heap.size rfl (.tmp 15) (.tmp 17) 44 2 (.int .i64 0) 8 rfl Try.underlying44 Jb rfl (by decide) (by omega) u3 x3_1 x8_1 [.int .i64 x8_1] (fun _ => True) (fun _ => False) rfl rfl ?aP (fun _ hk => hk.elim) ?aF ?aO ?aB ?aS ?aL ?_; (case aP => exact rfl); (case aB => exact (by repeat (first | (with_reducible first | exact HB.out | apply zC | apply zB | apply zD) | exact HB.out))); (case aF => exact (fun _ _ => trivial)); (case aO => exact (by (with_reducible repeat (first | apply Kd.zm | apply Kd.zk | apply Kd.zu)); exact HO_3.out)); (case aS => exact (zO (by repeat (first | (with_reducible first | exact HB.out | apply zC | apply zB | apply zD) | exact HB.out)))); (case aL => have := LMc6.out; omega); intro v103 w7 ho hb hg hat; rw [← Ny102.out] at ho; have n0_ := zA.mk (hb); have n1_ := zA.mk (ho); clear HB; clear HO_3; have HB := n0_; have HO104 := n1_; clear n0_ n1_; clear ho hb hg hat))
                go_roundg k1
                case measure => have := HK1.out; omega
                case rel => exact ⟨(y102), (wrap64 (x8_1 + 1)), (by first | rfl | (simp; done) | (simp [*]; done)), H', ⟨by have := HK1.out; omega⟩, ⟨by (with_reducible repeat (first | apply Kd.zm | apply Kd.zk | apply Kd.zu)); exact HO104.out⟩, ⟨by repeat (first | (with_reducible first | exact HB.out | apply zC | apply zB | apply zD) | exact HB.out)⟩⟩
              · rw [if_neg c6] at H
                exact absurd H (by simp)
          · rw [if_neg c4] at H
            exact absurd H (by simp)
        · rw [if_neg c3] at H
          exact absurd H (by simp)
      · rw [if_neg c2] at H
        have c2b0 : decide (x8_1 < (l0.length : Int)) = false := yhy c2
        clear c2
        obtain rfl := yey H
        go_wp2
        go_ret
        exact ⟨_, by first | rfl | (simp [zQ, zR] <;> rfl) | (simp [*, zQ, zR] <;> rfl), by (with_reducible repeat (first | apply Kd.zm | apply Kd.zk | apply Kd.zu)); exact HO_3.out, by repeat (first | (with_reducible first | exact HB.out | apply zC | apply zB | apply zD) | exact HB.out)⟩
def Qr (c o m : Nat) (l : List Int) (i : Nat) : List Int := (l.drop (i * c + o)).take m
def zGN (f : List Int → Option (List Int)) (c o m : Nat) (l : List Int) (i : Nat) : Option Bool := (f (Qr c o m l i)).map fun s => decide (s.length ≤ 1)
def zDr (p : Nat → Option Bool) : Nat → Option Bool
  | 0 => some true
  | n + 1 => (zDr p n).bind fun b => (p n).map fun c => b && c
theorem zDs {p : Nat → Option Bool} : ∀ {n : Nat} {r : Bool}, zDr p n = some r → ∀ i, i < n → ∃ b, p i = some b
  | 0, _, _, i, hi => by omega
  | n + 1, r, h, i, hi => by
    unfold zDr at h
    cases h1 : zDr p n with
    | none => rw [h1] at h; simp at h
    | some b =>
      rw [h1] at h
      cases h2 : p n with
      | none => rw [h2] at h; simp at h
      | some c =>
        rcases Nat.lt_or_ge i n with hi2 | hi2
        · exact zDs h1 i hi2
        · obtain rfl : i = n := by omega
          exact ⟨c, h2⟩
theorem zCw {p : Nat → Option Bool} : ∀ {n : Nat} {r : Bool}, zDr p n = some r → (∀ i, i < n → p i = some true) → r = true
  | 0, r, h, _ => by simp [zDr] at h; exact h
  | n + 1, r, h, ha => by
    unfold zDr at h
    cases h1 : zDr p n with
    | none => rw [h1] at h; simp at h
    | some b =>
      rw [h1, ha n (by omega)] at h
      have hb := zCw h1 (fun i hi => ha i (by omega))
      simp [hb] at h; exact h
theorem zBn {p : Nat → Option Bool} : ∀ {n : Nat} {r : Bool} {i : Nat}, zDr p n = some r → i < n → p i = some false → r = false
  | 0, r, i, h, hi, _ => by omega
  | n + 1, r, i, h, hi, hf => by
    unfold zDr at h
    cases h1 : zDr p n with
    | none => rw [h1] at h; simp at h
    | some b =>
      rw [h1] at h
      cases h2 : p n with
      | none => rw [h2] at h; simp at h
      | some c =>
        rw [h2] at h
        have h3 : (b && c) = r := by simpa using h
        rcases Nat.lt_or_ge i n with hi2 | hi2
        · have := zBn h1 hi2 hf; subst this; simpa using h3.symm
        · obtain rfl : i = n := by omega
          rw [hf] at h2; cases h2; simpa using h3.symm
theorem C_part {α : Type} {d : Kd α} {w : World} {ad : Addr} {xs : List α} (h : d.C w (some ad) xs.length xs) (a m : Nat) (hm : a + m ≤ xs.length) : d.C w (some (ad.add (a * d.sz))) ((xs.drop a).take m).length ((xs.drop a).take m) := by
  obtain ⟨_, h2, h3⟩ := h
  have hl : ((xs.drop a).take m).length = m := by rw [ymy, yly]; omega
  refine ⟨rfl, by omega, fun hn => ⟨_, rfl, fun j p hj => ?_⟩⟩
  obtain ⟨ad', e, h4⟩ := h3 (by omega)
  injection e with e; subst e
  have hjm : j < m := by
    have := (List.getElem?_eq_some_iff.1 hj).1; omega
  have hp : xs[a + j]? = some p := by
    rw [List.getElem?_take_of_lt hjm, List.getElem?_drop] at hj; exact hj
  obtain ⟨c, hc, hK, hcell⟩ := h4 (a + j) p hp
  refine ⟨c, hc, hK, fun i u hu => ?_⟩
  have := hcell i u hu
  rw [Addr.add_add, ← Nat.add_assoc, ← Nat.add_mul]
  exact this
section
attribute [local go_sem] Oper.semAt_some
def zFL (N : Nat) (k : Nat) : List (Fin N) := (List.finRange N).take k
theorem zCx {N k : Nat} (h : k < N) : zFL N (k + 1) = zFL N k ++ [⟨k, h⟩] := by
  unfold zFL
  rw [List.take_succ_eq_append_getElem (by simpa using h)]
  simp
theorem zFi (N : Nat) : zFL N N = List.finRange N := by unfold zFL; rw [List.take_of_length_le (by simp)]
theorem zDO {N k : Nat} (h : k ≤ N) : (zFL N k).length = k := by unfold zFL; simp; omega
def zFj (ad : Addr) (c : Nat) {N : Nat} (x : Fin N) : Array Value := #[.slice (some (ad.add (x.val * c))) c c]
theorem Qw {B : Nat} {W W' : World} (h : Below W.heap.size W W') : KeepsFrom B W W' := ⟨h.size, fun i o _ hi _ => by rw [h.block i (lt_of_block hi)]; exact hi⟩
def zA1 (Bs Bn : Nat) (A B : World) : Prop := B.cell? ⟨Bs, 0, none⟩ = A.cell? ⟨Bs, 0, none⟩ ∧ B.cell? ⟨Bn, 0, none⟩ = A.cell? ⟨Bn, 0, none⟩
theorem zA1.refl {Bs Bn : Nat} (A : World) : zA1 Bs Bn A A := ⟨rfl, rfl⟩
theorem zA1.trans {Bs Bn : Nat} {A B C : World} (h : zA1 Bs Bn A B) (g : zA1 Bs Bn B C) : zA1 Bs Bn A C := ⟨g.1.trans h.1, g.2.trans h.2⟩
theorem zA1.below {Bs Bn n : Nat} {A B : World} (h : Below n A B) (h1 : Bs < n) (h2 : Bn < n) : zA1 Bs Bn A B := ⟨h.cell (p := ⟨Bs, 0, none⟩) h1, h.cell (p := ⟨Bn, 0, none⟩) h2⟩
theorem zA1.put {Bs Bn n : Nat} (h1 : Bs < n) (h2 : Bn < n) (W : World) (l : Nat) (o o' : Obj) (hl : n ≤ l) (_ : W.heap[l]? = some o) (_ : o.isCells = false) (_ : o.isWalk = false) : zA1 Bs Bn W (W.putObj l o') := by
  refine ⟨?_, ?_⟩ <;> (simp only [World.cell?, World.putObj]; rw [Array.getElem?_setIfInBounds_ne (by omega)])
set_option maxHeartbeats 8000000 in
set_option maxRecDepth 100000 in
theorem zBT.calls (F : Fence) (n : Nat) (hF : F.fn 134) (hro : F.round = none) (hn : 1 ≤ n) (l Bs Bn c N cap : Nat) (A : Option Addr) (ad : Addr) (hA : 0 < N → A = some ad) (hc0 : 0 < c) (hc1 : c ≤ 1000) (hN : N ≤ 1000000000) (hcap : N * c ≤ cap) (J Jx : List (Fin N) → World → Prop)
    (hD : ∀ pre W1, J pre W1 → J pre W1.drew)
    (hY : ∀ pre x W, J pre W → pre.length < N → YieldAt F (n - 1) Try.prog l (zFj ad c x) W fun e W' => (e = .returned (.bool true) ∧ J (pre ++ [x]) W' ∧ zA1 Bs Bn W W') ∨ (e = .returned (.bool false) ∧ Jx (pre ++ [x]) W'))
    (W : World) (hBs : W.cell? ⟨Bs, 0, none⟩ = some (.slice A (N * c) cap)) (hBn : W.cell? ⟨Bn, 0, none⟩ = some (.int .i64 (c : Int))) (h0 : J [] W) :
    CallsIn F n Try.prog 134 #[.func (.yield l) #[] #[], .pointer (some ⟨Bs, 0, none⟩), .pointer (some ⟨Bn, 0, none⟩)] W fun e W' => (∃ v, e = .returned v) ∧
      ((∃ ys, ys = List.finRange N ∧ J ys W') ∨ (∃ pre, (∃ k, k ≤ N ∧ pre = zFL N k) ∧ Jx pre W')) := by
  obtain ⟨Ffn, Fdepth, Falive, Fround⟩ := F
  obtain rfl : Fround = none := hro
  refine callsIn_of_wp Try.func134 rfl hF ?_ rfl
  simp only [Try.ntmps134, List.size_toArray, List.length_cons, List.length_nil, Nat.reduceAdd, Nat.reduceSub, Array.replicate_succ, Array.replicate_zero, List.push_toArray, List.append_toArray, List.nil_append, List.cons_append]
  have HY := zA.mk hY
  clear hY
  have hNc : N * c ≤ 1000000000 * 1000 := Nat.mul_le_mul hN hc1
  gi_wp2
  gi_loopw [4] (fun i wr => ∃ k : Nat, k ≤ N ∧ i = .int .i64 ((k * c : Nat) : Int) ∧ zA (J (zFL N k) wr) ∧ zA1 Bs Bn W wr) (fun i _ => N * c - (intOf i).toNat)
  case atStart => exact ⟨0, Nat.zero_le _, by simp, ⟨h0⟩, zA1.refl _⟩
  case round =>
    obtain ⟨k, hk, rfl, hJ, hB⟩ := hrel
    have hs := hB.1.trans hBs
    have hn2 := hB.2.trans hBn
    by_cases hlt : k < N
    · obtain rfl : A = some ad := hA (by omega)
      have h1 : k * c + c ≤ N * c := by have := Nat.mul_le_mul_right c (show k + 1 ≤ N by omega); rw [Nat.succ_mul] at this; exact this
      obtain ⟨fn, tmps, assign, body, hy, hR⟩ := HY.out _ ⟨k, hlt⟩ wr.drew (hD _ _ hJ.out) (by rw [zDO hk]; exact hlt)
      unfold zFj at hy
      dsimp only at hy
      have hnext : k * c + c = (k + 1) * c := (Nat.succ_mul k c).symm
      have HNX := zA.mk hnext
      clear hnext
      generalize hkc : k * c = p at *
      have HKC := zA.mk hkc
      clear hkc
      generalize hnc : N * c = m at *
      gi_wp2
      gi_region
      gi_wp2
      refine hR.mono ?_
      rintro e W3 (⟨rfl, hJ3, hk3⟩ | ⟨rfl, hJx3⟩)
      · have hn3 : W3.cell? ⟨Bn, 0, none⟩ = _ := hk3.2.trans hn2
        gi_wp2
        go_roundw
        case rel => exact ⟨k + 1, by omega, by rw [← HNX.out]; push_cast; rfl, ⟨by rw [zCx hlt]; exact hJ3⟩, hB.trans ⟨hk3.1, hk3.2⟩⟩
        case measure => simp [intOf]; omega
      · gi_wp2
        refine bodyPost_ret (results_none rfl _ _ _) rfl ?_
        exact ⟨⟨_, rfl⟩, .inr ⟨_, ⟨k + 1, by omega, (zCx hlt).symm⟩, hJx3⟩⟩
    · obtain rfl : k = N := by omega
      gi_wp2
      go_end0
      exact ⟨⟨_, rfl⟩, .inl ⟨_, rfl, by rw [← zFi]; exact hJ.out⟩⟩
set_option maxHeartbeats 2000000 in
theorem Js.calls (F : Fence) (n : Nat) (hF : F.fn 101) (hro : F.round = none) (A : Option Addr) (len cap c : Nat) (hc : 1 ≤ c) (w : World) :
    CallsIn F n Try.prog 101 #[.slice A len cap, .int .i64 (c : Int)] w fun e w' => e = .returned (.func (.func 134) #[] #[.pointer (some ⟨w.heap.size, 0, none⟩), .pointer (some ⟨w.heap.size + 1, 0, none⟩)]) ∧ w' = (w.alloc (.cells #[.slice A len cap] 44)).alloc (.cells #[.int .i64 (c : Int)] 3) := by
  refine callsIn_of_wp Try.func101 rfl hF ?_ hro
  simp only [Try.ntmps101, List.size_toArray, List.length_cons, List.length_nil, Nat.reduceAdd, Nat.reduceSub, Array.replicate_succ, Array.replicate_zero, List.push_toArray, List.append_toArray, List.nil_append, List.cons_append]
  have hcz : ¬ (c : Int) < 1 := by omega
  gi_wp2
  go_ret
  exact ⟨rfl, rfl⟩
theorem Js.stops (F : Fence) (n : Nat) (hF : F.fn 134) (hro : F.round = none) (hn : 1 ≤ n) (Bs Bn n₀ c N cap : Nat) (A : Option Addr) (ad : Addr) (hA : 0 < N → A = some ad) (hBs0 : Bs < n₀) (hBn0 : Bn < n₀) (hc0 : 0 < c) (hc1 : c ≤ 1000) (hN : N ≤ 1000000000) (hcap : N * c ≤ cap) (w : World)
    (hn₀ : n₀ ≤ w.heap.size) (hBs : w.cell? ⟨Bs, 0, none⟩ = some (.slice A (N * c) cap)) (hBn : w.cell? ⟨Bn, 0, none⟩ = some (.int .i64 (c : Int))) :
    SeqStopsK F n Try.prog 134 #[.pointer (some ⟨Bs, 0, none⟩), .pointer (some ⟨Bn, 0, none⟩)] (zFj ad c (N := N)) (zA1 Bs Bn) (fun ys => ys = List.finRange N) (fun pre => ∃ k, k ≤ N ∧ pre = zFL N k) N w := fun l J Jx W hW hJ _ hY h0 => by
  refine zBT.calls F n hF hro hn l Bs Bn c N cap A ad hA hc0 hc1 hN hcap J Jx (fun pre W1 h => hJ pre W1 W1.drew none h ⟨rfl, rfl, rfl, yqy _, fun _ _ _ => rfl⟩ (fun r e => by cases e)) hY W ?_ ?_ h0
  · exact (hW.cell (p := ⟨Bs, 0, none⟩) (by show Bs < _; omega)).trans hBs
  · exact (hW.cell (p := ⟨Bn, 0, none⟩) (by show Bn < _; omega)).trans hBn
end
section
theorem zDP {w : World} {a : Addr} {v : Value} (h : w.cell? a = some v) : a.block < w.heap.size := by
  unfold World.cell? at h
  cases hc : w.heap[a.block]? with
  | none => rw [hc] at h; simp at h
  | some o => exact (Array.getElem?_eq_some_iff.1 hc).1
attribute [local go_sem] Oper.semAt_some
set_option maxRecDepth 100000 in
set_option maxHeartbeats 8000000 in
theorem qu.callsN (k N : Nat) (ad : Addr) (A0 : Option Addr) (c0 : Nat) (l0 : List Int) (r : Bool) (w : World) (hA : 0 < N → A0 = some ad) (hN : N ≤ 1000000000) (hr0 : Kd.C (Kd.int .i64) w A0 (N * 7) l0) (hc0 : N * 7 ≤ c0) (h : zDr (fun i => zGN (qK.f k) 7 4 3 l0 i) N = some r) :
    CallsIn Fence.wide 3 Try.prog 156 #[.slice A0 (N * 7) c0] w fun e w' => e = .returned (.bool r) ∧ Below w.heap.size w w' := by
  have HR := zA.mk hr0
  have H := zA.mk h
  have hr00 : N * 7 ≤ 1000000000 * 7 := Nat.mul_le_mul_right 7 hN
  clear hr0 h
  refine callsIn_of_wp_marks Try.func156 rfl trivial ?_ rfl
  simp only [Try.ntmps156, List.size_toArray, List.length_cons, List.length_nil, Nat.reduceAdd, Nat.reduceSub, Array.replicate_succ, Array.replicate_zero, List.push_toArray, List.append_toArray, List.nil_append, List.cons_append]
  gi_wp2_with (refine ⟨trivial, ?_⟩; gi_at_call 101; refine (Js.calls Fence.wide 2 trivial rfl _ _ _ 7 (by omega) _).mono ?_; rintro e w' ⟨rfl, rfl⟩)
  have bR := Boxed.new w 4 (.bool false)
  have bS := Boxed.new (w.alloc (.cells #[.bool false] 4)) 44 (.slice A0 (N * 7) c0)
  have bN := Boxed.new ((w.alloc (.cells #[.bool false] 4)).alloc (.cells #[.slice A0 (N * 7) c0] 44)) 3 (.int .i64 7)
  rw [World.size_alloc] at bS
  rw [World.size_alloc, World.size_alloc] at bN
  have hcR := ((bR.alloc (.cells #[.slice A0 (N * 7) c0] 44)).alloc (.cells #[.int .i64 7] 3)).cell
  have hfR := ((bR.alloc (.cells #[.slice A0 (N * 7) c0] 44)).alloc (.cells #[.int .i64 7] 3)).frozen
  have hcS := (bS.alloc (.cells #[.int .i64 7] 3)).cell
  have hcN := bN.cell
  have hs3 : (((w.alloc (.cells #[.bool false] 4)).alloc (.cells #[.slice A0 (N * 7) c0] 44)).alloc (.cells #[.int .i64 7] 3)).heap.size = w.heap.size + 3 := by simp [World.size_alloc]
  have hB0 : Below w.heap.size w (((w.alloc (.cells #[.bool false] 4)).alloc (.cells #[.slice A0 (N * 7) c0] 44)).alloc (.cells #[.int .i64 7] 3)) := zC (zC (zC (yry _ _) _) _) _
  clear bR bS bN
  generalize ((w.alloc (.cells #[.bool false] 4)).alloc (.cells #[.slice A0 (N * 7) c0] 44)).alloc (.cells #[.int .i64 7] 3) = w3 at *
  refine wpIn_rangeFunc_ownG (F := Fence.wide) (n := 3) rfl (by omega) (gf := 134) (lb := #[.pointer (some ⟨w.heap.size + 1, 0, none⟩), .pointer (some ⟨w.heap.size + 1 + 1, 0, none⟩)]) rfl trivial (enters_of Try.func134 (by kernel_rfl) rfl)
    (Js.stops Fence.wide 2 trivial rfl (by omega) (w.heap.size + 1) (w.heap.size + 1 + 1) (w.heap.size + 3) 7 N c0 A0 ad hA (by omega) (by omega) (by omega) (by omega) hN hc0 w3 (by omega) hcS hcN)
    (fun h k => h.trans k) (zA1.put (n := w3.heap.size) (by omega) (by omega)) (yry _ _) (fun _ => rfl)
    (fun pre W => ((∀ x ∈ pre, zGN (qK.f k) 7 4 3 l0 x.val = some true) ∧ W.cell? ⟨w.heap.size, 0, none⟩ = some (.bool false) ∧ W.frozen? ⟨w.heap.size, 0, none⟩ = false) ∧ Below w.heap.size w3 W)
    (fun c pre W => (c = .ret ∧ (∃ x ∈ pre, zGN (qK.f k) 7 4 3 l0 x.val = some false) ∧ W.cell? ⟨w.heap.size, 0, none⟩ = some (.bool false)) ∧ Below w.heap.size w W)
    (OwnFrom.and (Own.from (fun s A B row hs hg hr => ⟨hs.1, cell_kept hs.2.1 hg hr, (frozen_kept hs.2.1 hg hr).trans hs.2.2⟩) _) (ownFrom_below (by omega) (by omega)))
    (fun c => OwnFrom.and (Own.from (fun s A B row hs hg hr => ⟨hs.1, hs.2.1, cell_kept hs.2.2 hg hr⟩) _) (ownFrom_below (yqy _) (by omega)))
    ⟨⟨by simp, hcR, hfR⟩, yry _ _⟩
    (fun x => { tmps := #[.slice A0 (N * 7) c0, undef, .pointer (some ⟨w.heap.size, 0, none⟩), .slice (some (ad.add (x.val * 7))) 7 7, .slice A0 (N * 7) c0, .func (.func 134) #[] #[.pointer (some ⟨w.heap.size + 1, 0, none⟩), .pointer (some ⟨w.heap.size + 1 + 1, 0, none⟩)], .slice (some (ad.add (x.val * 7))) 7 7, undef, undef, undef, undef, undef], defers := [] }) ?assign ?body ?done ?stop
  case assign =>
    intro l x W K hK
    unfold zFj
    gi_wp2
    exact hK
  case body =>
    rintro l pre x W ⟨⟨hp, hcr, hfr⟩, hB⟩ _
    have hx := x.isLt
    have hx7 : x.val * 7 + 7 ≤ N * 7 := by omega
    obtain rfl : A0 = some ad := hA (by omega)
    obtain ⟨b, hb⟩ := zDs H.out x.val hx
    have hb0 := hb
    unfold zGN at hb0
    obtain ⟨s, hs, hsb⟩ := Option.map_eq_some_iff.1 hb0
    clear hb0
    have hll := HR.out.1
    have hC : Kd.C (Kd.int .i64) W (some (ad.add ((x.val * 7 + 4) * 1))) ((l0.drop (x.val * 7 + 4)).take 3).length ((l0.drop (x.val * 7 + 4)).take 3) := C_part (d := Kd.int .i64) (by rw [hll]; exact Kd.ze HR.out (hB0.trans hB)) _ 3 (by omega)
    have hl3 : (Qr 7 4 3 l0 x.val).length = 3 := by unfold Qr; rw [ymy, yly, hll]; omega
    have hC2 : Kd.C (Kd.int .i64) W (some ((ad.add (x.val * 7)).add 4)) (Qr 7 4 3 l0 x.val).length (Qr 7 4 3 l0 x.val) := by rw [Addr.add_add]; rw [Nat.mul_one] at hC; exact hC
    have HS := qK.calls k _ 3 (Qr 7 4 3 l0 x.val) s W hC2 (by rw [hl3]; exact yqy 3) hs
    rw [hl3] at HS
    have HS2 := zA.mk HS
    have hlt9 : w.heap.size < W.heap.size := zDP hcr
    have HI := zA.mk hp
    have HBB := zA.mk hb
    clear hC hC2 HS hb hp hll hl3
    gi_wp2_with (refine ⟨trivial, ?_⟩; gi_at_call 161; refine (CallsIn.inRound l (callsIn_wide.2 HS2.out)).mono ?_; rintro e w' ⟨v0_, rfl, ho, hb⟩; obtain ⟨A9, c9, rfl⟩ := Kd.ZP ho; have hcr1 : w'.cell? ⟨w.heap.size, 0, none⟩ = _ := (hb.cell (p := ⟨w.heap.size, 0, none⟩) hlt9).trans hcr; have hfr1 : w'.frozen? ⟨w.heap.size, 0, none⟩ = _ := (hb.frozen (p := ⟨w.heap.size, 0, none⟩) hlt9).trans hfr; clear ho)
    · have h1s : 1 < (s.length : Int) := by assumption
      refine ⟨(Qw hb).trans ((KeepsOthers.setCell _ _ _).from _), ⟨rfl, ⟨x, by simp, ?_⟩, World.cell?_setCell_same' _ _ _ (by rw [hcr1]; rfl)⟩, ((hB0.trans hB).trans (hb.mono (hB0.trans hB).size)).setCell (p := ⟨w.heap.size, 0, none⟩) (yqy _) _⟩
      rw [HBB.out, ← hsb]
      exact congrArg some (yhy (by omega))
    · have h1s : (s.length : Int) ≤ 1 := by assumption
      have hW3 := hB.size
      refine ⟨Qw hb, zA1.below hb (by omega) (by omega), ⟨fun y hy => (List.mem_append.1 hy).elim (HI.out y) (fun e => ?_), hcr1, hfr1⟩, hB.trans (hb.mono (by omega))⟩
      obtain rfl : y = x := by simpa using e
      rw [HBB.out, ← hsb]
      exact congrArg some (ygy (by omega))
  case done =>
    rintro D ys W hD rfl ⟨⟨hne, hcr, hfr⟩, hB⟩ hK
    obtain rfl : r = true := zCw H.out (fun i hi => hne ⟨i, hi⟩ (List.mem_finRange _))
    gi_wp2
    have hK' := (KeepsOthers.setCell W ⟨w.heap.size, 0, none⟩ (.bool true)).same D _ hK rfl
    refine ⟨by simp, .inl ⟨_, _, rfl, run_takeDeferred hK', ?_⟩⟩
    have hc5 := cell_kept (World.cell?_setCell_same' W ⟨w.heap.size, 0, none⟩ (.bool true) (by rw [hcr]; rfl)) (grownBy_putObj' _ D (.deferred none)) (fun r e => by cases e; exact ⟨_, hK', rfl⟩)
    refine ⟨.bool true, ?_, rfl, ((hB0.trans hB).setCell (p := ⟨w.heap.size, 0, none⟩) (yqy _) _).trans (belowK_b (w := w) (yqy _) _ D _ _ (by omega) hK' rfl rfl)⟩
    simp [results, Try.f156, go_sem, hc5]
  case stop =>
    rintro D c pre W hD ⟨k', hk', rfl⟩ ⟨⟨rfl, ⟨x, _, hx⟩, hcr⟩, hB⟩ hK
    obtain rfl : r = false := zBn H.out x.isLt hx
    gi_wp2
    refine ⟨by simp, .inl ⟨_, _, rfl, run_takeDeferred hK, ?_⟩⟩
    have hc5 := cell_kept hcr (grownBy_putObj' _ D (.deferred none)) (fun r e => by cases e; exact ⟨_, hK, rfl⟩)
    refine ⟨.bool false, ?_, rfl, hB.trans (belowK_b (w := w) (yqy _) _ D _ _ (by omega) hK rfl rfl)⟩
    simp [results, Try.f156, go_sem, hc5]
end
def qu.f (k : Nat) (l0 : List Int) : Option Bool := if l0.length % 7 = 0 ∧ l0.length ≤ 7000000000 then zDr (fun i => zGN (qK.f k) 7 4 3 l0 i) (l0.length / 7) else none
theorem qu.calls (k : Nat) (A0 : Option Addr) (c0 : Nat) (l0 : List Int) (r : Bool) (w : World) (hr0 : Kd.C (Kd.int .i64) w A0 l0.length l0) (hc0 : l0.length ≤ c0) (h : qu.f k l0 = some r) :
    Calls Try.prog 156 #[.slice A0 l0.length c0] w fun e w' => e = .returned (.bool r) ∧ Below w.heap.size w w' := by
  unfold qu.f at h
  by_cases hok : l0.length % 7 = 0 ∧ l0.length ≤ 7000000000
  case neg => rw [if_neg hok] at h; cases h
  rw [if_pos hok] at h
  obtain ⟨N, hN⟩ : ∃ N, l0.length = N * 7 := ⟨l0.length / 7, by omega⟩
  have hN2 : l0.length / 7 = N := by omega
  rw [hN2] at h
  rw [hN] at hr0 hc0 ⊢
  obtain ⟨ad, hA⟩ : ∃ ad, 0 < N → A0 = some ad := by
    by_cases h0 : 0 < N
    · obtain ⟨ad, e, _⟩ := hr0.2.2 (by omega)
      exact ⟨ad, fun _ => e⟩
    · exact ⟨⟨0, 0, none⟩, fun h => absurd h h0⟩
  exact callsIn_wide.1 (qu.callsN k N ad A0 c0 l0 r w hA (by omega) hr0 hc0 h)
def qP.f (k : Nat) (l0_0 : List (List (zq))) (l1 : List Int) : Option (Bool) := (qY.f l0_0 l1).bind fun t102 => (if t102 = true then ((qu.f k l1).bind fun t103 => (some t103)) else (some false))
set_option maxHeartbeats 8000000 in
set_option maxRecDepth 100000 in
theorem qP.calls (k : Nat) (A0_0 : Option Addr) (c0_0 : Nat) (l0_0 : List (List (zq))) (A1 : Option Addr) (c1 : Nat) (l1 : List Int) (r : Bool) (w : World) (hr0_0 : Kd.C (Kd.slice 59 qx) w A0_0 l0_0.length l0_0) (hc0_0 : l0_0.length ≤ c0_0) (hr1 : Kd.C (Kd.int .i64) w A1 l1.length l1) (hc1 : l1.length ≤ c1) (h : qP.f k l0_0 l1 = some r) :
    Calls Try.prog 151 #[.agg #[.slice A0_0 l0_0.length c0_0], .slice A1 l1.length c1] w fun e w' => e = .returned (.bool r) ∧ Below w.heap.size w w' := by
  have hu30 := Try.underlying30
  have HR0_0 := zA.mk hr0_0
  have HC0_0 := zA.mk hc0_0
  clear hr0_0 hc0_0
  have HR1 := zA.mk hr1
  have HC1 := zA.mk hc1
  clear hr1 hc1
  have HB := zA.mk (yry w.heap.size w)
  have H : ((qY.f l0_0 l1).bind fun t102 => (if t102 = true then ((qu.f k l1).bind fun t103 => (some t103)) else (some false))) = some r := h
  clear h
  replace H := ydy.mp H
  obtain ⟨t102, A30, H⟩ := H
  replace H : (if t102 = true then ((qu.f k l1).bind fun t103 => (some t103)) else (some false)) = some r := H
  have A3 := zA.mk A30
  clear A30
  by_cases c4 : t102 = true
  · subst c4
    have H1 : ((qu.f k l1).bind fun t103 => (some t103)) = some r := by rw [if_pos rfl] at H; exact H
    clear H
    have H := H1
    clear H1
    replace H := ydy.mp H
    obtain ⟨t103, A50, H⟩ := H
    replace H : (some t103) = some r := H
    have A5 := zA.mk A50
    clear A50
    obtain rfl := yey H
    go_enter Try.func151, Try.ntmps151
    go_wp2_with (first | ((with_reducible refine zd (N := 2) rfl ?_); refine zb ?hg (N := 2) ?hd (cs := #[.slice A0_0 l0_0.length c0_0]) (t := 30) ?hr ?_; (case hd => rfl); (case hg => rfl); (case hr => first | (go_simp; done) | (go_simp; rfl)); intro gb101 hg w6 hbox hb; have n0_ := zA.mk (zN (by repeat (first | (with_reducible first | exact HB.out | apply zC | apply zB | apply zD) | exact HB.out)) hb); have n1_ := zA.mk (hbox); have n2_ := zA.mk ((by rw [hg]; exact (zO (by repeat (first | (with_reducible first | exact HB.out | apply zC | apply zB | apply zD) | exact HB.out))) : w.heap.size ≤ gb101)); have n3_ := zA.mk ((by rw [hg]; exact (zO (by repeat (first | (with_reducible first | exact HB.out | apply zC | apply zB | apply zD) | exact HB.out))) : w.heap.size ≤ gb101)); clear HB; have HB := n0_; have BK101 := n1_; have GW101 := n2_; have GE101 := n3_; clear n0_ n1_ n2_ n3_; clear hb hbox hg; have hcz7_0 : w6.cell? ⟨gb101, 0, none⟩ = some (.slice A0_0 l0_0.length c0_0) := (zK BK101.out 0).trans rfl; have hfz7_0 := zL BK101.out 0) | ((with_reducible refine zS (f := 155) rfl ?_); refine qB (some 7) rfl rfl Try.func155 (by kernel_rfl) rfl #[.agg #[.slice A0_0 l0_0.length c0_0], .slice A1 l1.length c1] rfl (by (try simp only [yiy, yjy, yky]); first | done | rfl | (simp only [yly, ymy]; rfl)) ?_; (with_reducible refine (qY.calls _ _ l0_0 _ _ l1 true _ ?side1 ?side2 ?side3 ?side4 A3.out).mono ?_); (case side1 => repeat (first | exact (Kd.ze HR0_0.out HB.out) | (with_reducible refine Kd.zf ?_ _) | (with_reducible refine Kd.zg ?_ _) | (with_reducible refine Kd.zz ?_))); (case side2 => exact HC0_0.out); (case side3 => repeat (first | exact (Kd.ze HR1.out HB.out) | (with_reducible refine Kd.zf ?_ _) | (with_reducible refine Kd.zg ?_ _) | (with_reducible refine Kd.zz ?_))); (case side4 => exact HC1.out); rintro e w8 ⟨rfl, hb⟩; refine ⟨_, rfl, ?_⟩; have n0_ := zA.mk (zP (g := gb101) (o := .cells #[.slice A0_0 l0_0.length c0_0] 30 (0, 0)) (by (with_reducible repeat (first | refine zI ?_ _ | refine zJ ?_ | refine zH ?_ _)); exact BK101.out) hb); have n1_ := zA.mk (zN (by repeat (first | (with_reducible first | exact HB.out | apply zC | apply zB | apply zD | refine zF ?_ GE101.out) | exact HB.out)) hb); clear BK101; clear HB; have BK101 := n0_; have HB := n1_; clear n0_ n1_; (try clear hb); (try clear hb2); (try clear hk); (try clear hi)) | (go_at_call 156; (with_reducible refine (qu.calls k _ _ l1 t103 _ ?side1 ?side2 A5.out).mono ?_); (case side1 => repeat (first | exact (Kd.ze HR1.out HB.out) | (with_reducible refine Kd.zf ?_ _) | (with_reducible refine Kd.zg ?_ _) | (with_reducible refine Kd.zz ?_))); (case side2 => exact HC1.out); rintro e w9 ⟨rfl, hb⟩; have n0_ := zA.mk (zP (g := gb101) (o := .cells #[.slice A0_0 l0_0.length c0_0] 30 (0, 0)) (by (with_reducible repeat (first | refine zI ?_ _ | refine zJ ?_ | refine zH ?_ _)); exact BK101.out) hb); have n1_ := zA.mk (zN (by repeat (first | (with_reducible first | exact HB.out | apply zC | apply zB | apply zD | refine zF ?_ GE101.out) | exact HB.out)) hb); clear BK101; clear HB; have BK101 := n0_; have HB := n1_; clear n0_ n1_; (try clear hb); (try clear hb2); (try clear hk); (try clear hi)))
    go_ret
    exact ⟨by first | rfl | (simp [zQ, zR] <;> rfl) | (simp [*, zQ, zR] <;> rfl), by repeat (first | (with_reducible first | exact HB.out | apply zC | apply zB | apply zD | refine zF ?_ GE101.out) | exact HB.out)⟩
  · replace c4 := Bool.eq_false_iff.mpr c4
    subst c4
    have H1 : (some false) = some r := by rw [if_neg (show ¬ (false = true) by decide)] at H; exact H
    clear H
    have H := H1
    clear H1
    obtain rfl := yey H
    go_enter Try.func151, Try.ntmps151
    go_wp2_with (first | ((with_reducible refine zd (N := 2) rfl ?_); refine zb ?hg (N := 2) ?hd (cs := #[.slice A0_0 l0_0.length c0_0]) (t := 30) ?hr ?_; (case hd => rfl); (case hg => rfl); (case hr => first | (go_simp; done) | (go_simp; rfl)); intro gb101 hg w10 hbox hb; have n0_ := zA.mk (zN (by repeat (first | (with_reducible first | exact HB.out | apply zC | apply zB | apply zD) | exact HB.out)) hb); have n1_ := zA.mk (hbox); have n2_ := zA.mk ((by rw [hg]; exact (zO (by repeat (first | (with_reducible first | exact HB.out | apply zC | apply zB | apply zD) | exact HB.out))) : w.heap.size ≤ gb101)); have n3_ := zA.mk ((by rw [hg]; exact (zO (by repeat (first | (with_reducible first | exact HB.out | apply zC | apply zB | apply zD) | exact HB.out))) : w.heap.size ≤ gb101)); clear HB; have HB := n0_; have BK101 := n1_; have GW101 := n2_; have GE101 := n3_; clear n0_ n1_ n2_ n3_; clear hb hbox hg; have hcz11_0 : w10.cell? ⟨gb101, 0, none⟩ = some (.slice A0_0 l0_0.length c0_0) := (zK BK101.out 0).trans rfl; have hfz11_0 := zL BK101.out 0) | ((with_reducible refine zS (f := 155) rfl ?_); refine qB (some 7) rfl rfl Try.func155 (by kernel_rfl) rfl #[.agg #[.slice A0_0 l0_0.length c0_0], .slice A1 l1.length c1] rfl (by (try simp only [yiy, yjy, yky]); first | done | rfl | (simp only [yly, ymy]; rfl)) ?_; (with_reducible refine (qY.calls _ _ l0_0 _ _ l1 false _ ?side1 ?side2 ?side3 ?side4 A3.out).mono ?_); (case side1 => repeat (first | exact (Kd.ze HR0_0.out HB.out) | (with_reducible refine Kd.zf ?_ _) | (with_reducible refine Kd.zg ?_ _) | (with_reducible refine Kd.zz ?_))); (case side2 => exact HC0_0.out); (case side3 => repeat (first | exact (Kd.ze HR1.out HB.out) | (with_reducible refine Kd.zf ?_ _) | (with_reducible refine Kd.zg ?_ _) | (with_reducible refine Kd.zz ?_))); (case side4 => exact HC1.out); rintro e w12 ⟨rfl, hb⟩; refine ⟨_, rfl, ?_⟩; have n0_ := zA.mk (zP (g := gb101) (o := .cells #[.slice A0_0 l0_0.length c0_0] 30 (0, 0)) (by (with_reducible repeat (first | refine zI ?_ _ | refine zJ ?_ | refine zH ?_ _)); exact BK101.out) hb); have n1_ := zA.mk (zN (by repeat (first | (with_reducible first | exact HB.out | apply zC | apply zB | apply zD | refine zF ?_ GE101.out) | exact HB.out)) hb); clear BK101; clear HB; have BK101 := n0_; have HB := n1_; clear n0_ n1_; (try clear hb); (try clear hb2); (try clear hk); (try clear hi)))
    go_ret
    exact ⟨by first | rfl | (simp [zQ, zR] <;> rfl) | (simp [*, zQ, zR] <;> rfl), by repeat (first | (with_reducible first | exact HB.out | apply zC | apply zB | apply zD | refine zF ?_ GE101.out) | exact HB.out)⟩
theorem eqA59 (d : Nat) (w : World) (x0 y0 : Int) (x1 y1 : Int) :
    (Op.equalIn (d + 2) 59 (.agg #[.int .i64 x0, .int .i64 x1]) (.agg #[.int .i64 y0, .int .i64 y1])).run Try.prog w = .ok (x0 == y0 && (x1 == y1)) w := by
  refine eqA_of Try.underlying59 (by kernel_rfl) ?_
  refine zFd (by rfl) (by go_simp; rfl) (by go_simp; rfl) (by go_simp) ?_
  exact zFc (by rfl) (by go_simp; rfl) (by go_simp; rfl) (by go_simp)
end Go.Proofs.Ytfnopcbicceeaaa.P
