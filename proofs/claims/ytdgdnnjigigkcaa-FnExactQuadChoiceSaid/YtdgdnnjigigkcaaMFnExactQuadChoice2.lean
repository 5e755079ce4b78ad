/- The statement FnExactQuadChoiceSaid, proved: part 2 of 8 (texts of this session and of the kit's print, put together and cut to what is used by a program of it). -/
import Derived.Test.YtdgdnnjigigkcaaMFnExactQuadChoice1
import Derived.Test.YtdgdnnjigigkcaaProg
import Derived.Below
import Derived.Deep.Draws
import Derived.Deep.AppendLies
import Derived.Maps.AppendAt
import Derived.OwnWalk
import Derived.Laws.BytesArg
import Derived.Laws.MakeOwn
import Derived.Laws.OwnMore
import Derived.Deep.OwnRows
import Derived.Tactics
import Derived.Lib.ConvBytes
import Derived.Laws.Slices
import Derived.WalkKit
import Derived.KernelRfl
import Derived.RowKit3
import Derived.Deep.LoopGhost
import Derived.Deep.QuietTactic
import Derived.BigQuiet
import Derived.WideLaws
import Derived.Deep.DeepCutAuto
import Derived.Deep.CutBlock
import Derived.Deep.RegionHeld3
import Derived.Laws.Rows
import Derived.Lib.AppendStr
import Derived.ArgAppend
import Derived.Laws.IdiomCopy
import Derived.OrdersHeld
import Derived.Laws.BitsLemmas
import Derived.RowKit
import Derived.Lib.SliceRun
import Derived.Shelf.SlicesG.Delete
import Derived.Ground.SlgnProg
import Derived.Sort.Row
import Derived.RangeFuncNested
import Derived.RangeFuncBound
import Derived.RangeFuncCalls
import Derived.RangeFuncLeaves
import Derived.RangeFuncBox
import Derived.Shelf.Abstract
import Derived.Shelf.RegionOpen
import Derived.OwnWalkIn
import Derived.TacticsInMore
import Derived.LoopNIn
import Derived.LoopIn
import Derived.RegionIn
import Derived.BigRegionIn
namespace Go.Proofs.Ytdgdnnjigigkcaa
abbrev yay := @List.setIfInBounds_toArray
abbrev yby := @List.set_cons_zero
abbrev ycy := @List.set_cons_succ
abbrev ydy := @Option.bind_eq_some_iff
abbrev yey := @Option.some.inj
abbrev yfy := @Option.bind_some
abbrev ygy := @decide_eq_true
abbrev yhy := @decide_eq_false
abbrev yiy := @List.map_toArray
abbrev yjy := @List.map_cons
abbrev yky := @List.map_nil
abbrev yly := @List.length_drop
abbrev ymy := @List.length_take
abbrev yny := @Int.toNat_natCast
abbrev yoy := @List.drop_eq_getElem_cons
abbrev ypy := @Go.World.block_lt_of_cell?
abbrev yqy := @Nat.le_refl
abbrev yry := @Go.RowKit.Below.refl
end Go.Proofs.Ytdgdnnjigigkcaa
namespace Go.Proofs.Ytdgdnnjigigkcaa.P
open Go.RowKit Go.Proofs.YtdgdnnjigigkcaaW.PrintWords Go.Proofs.YtdgdnnjigigkcaaW.PrintLast Go.Proofs.YtdgdnnjigigkcaaW.PrintMore
attribute [local go_sem] QV QW Qv Qw QC QD QX QY
set_option linter.unusedVariables false
set_option linter.unusedSimpArgs false
def errW : Option Int → Value
  | none => .nilIface
  | some c => .iface 0 (.int .i64 c)
theorem zQ : errW none = .nilIface := rfl
theorem zR (c : Int) : errW (some c) = .iface 0 (.int .i64 c) := rfl
theorem JL : (Try.prog.info? 2).map (fun i => (i.zero, i.size, i.bytes)) = some (some (.int .i64 0), 1, 8) := by kernel_rfl
theorem zET : (Try.prog.info? 41).map (fun i => (i.zero, i.size, i.bytes)) = some (some (.slice none 0 0), 1, 24) := by kernel_rfl
theorem info74 : (Try.prog.info? 74).map (fun i => (i.zero, i.size, i.bytes)) = some (some (.agg #[(.int .i64 0), (.int .i64 0)]), 2, 16) := by kernel_rfl
theorem info75 : (Try.prog.info? 75).map (fun i => (i.zero, i.size, i.bytes)) = some (some (.slice none 0 0), 1, 24) := by kernel_rfl
structure qQ where
  f0 : Int
  f1 : Int
def zDI : qQ := ⟨(0 : Int), (0 : Int)⟩
def Zw : Kd qQ := Kd.iso (Kd.pair (Kd.int .i64) (Kd.int .i64)) (fun x : qQ => (x.f0, x.f1))
theorem zBy {w : World} {x : qQ} {cs : List Value} (h : Zw.K w x cs) : cs = [.int .i64 x.f0, .int .i64 x.f1] := by
  obtain ⟨_, _, rfl, rfl, rfl⟩ := h
  exact rfl
theorem zCv (w : World) (x : qQ)  : Zw.K w x [.int .i64 x.f0, .int .i64 x.f1] := ⟨[.int .i64 x.f0], [.int .i64 x.f1], rfl, rfl, rfl⟩
def Zq (xs : List qQ) (i : Int) : qQ := xs.getD i.toNat zDI
theorem zDf {w : World} {A : Option Addr} {n : Nat} {xs : List qQ} (h : Kd.C Zw w A n xs) (i : Int) (h0 : 0 ≤ i) (h1 : i < n) : ∃ ad , A = some ad ∧ w.cell? (ad.add (i.toNat * 2)) = some (.int .i64 (Zq xs i).f0) ∧ w.cell? ⟨(ad.add (i.toNat * 2)).block, (ad.add (i.toNat * 2)).off + 1, none⟩ = some (.int .i64 (Zq xs i).f1) := by
  obtain ⟨ad, c, e, _, hK, hc0⟩ := Kd.zEB h zDI i h0 h1
  have hc : ∀ j u, c[j]? = some u → w.cell? (ad.add (i.toNat * 2 + j)) = some u := hc0
  obtain rfl := zBy hK
  exact ⟨ad, e, hc 0 _ rfl, by rw [← zCK _ _ 1 (by omega)]; exact hc 1 _ rfl⟩
def ZH (xs : List (List qQ)) (i : Int) : (List qQ) := xs.getD i.toNat ([] : List qQ)
theorem Js {w : World} {A : Option Addr} {n : Nat} {xs : List (List qQ)} (h : Kd.C (Kd.slice 133 Zw) w A n xs) (i : Int) (h0 : 0 ≤ i) (h1 : i < n) : ∃ ad A0 c0, A = some ad ∧ w.cell? (ad.add i.toNat) = some (.slice A0 (ZH xs i).length c0) ∧ (ZH xs i).length ≤ c0 ∧ Zw.C w A0 (ZH xs i).length (ZH xs i) := by
  obtain ⟨ad, c, e, _, hK, hc0⟩ := Kd.zEB h ([] : List qQ) i h0 h1
  have hc : ∀ j u, c[j]? = some u → w.cell? (ad.add (i.toNat * 1 + j)) = some u := hc0
  obtain ⟨A0, c0, rfl, l0, g0⟩ := hK
  exact ⟨ad, A0, c0, e, by have hq := hc 0 _ rfl; rwa [Nat.mul_one, Nat.add_zero] at hq, l0, g0⟩
structure zq where
  f0 : Int
  f1 : Int
def JW : zq := ⟨(0 : Int), (0 : Int)⟩
def qv : Kd zq := Kd.iso (Kd.pair (Kd.int .i64) (Kd.int .i64)) (fun x : zq => (x.f0, x.f1))
theorem zDg {w : World} {x : zq} {cs : List Value} (h : qv.K w x cs) : cs = [.int .i64 x.f0, .int .i64 x.f1] := by
  obtain ⟨_, _, rfl, rfl, rfl⟩ := h
  exact rfl
theorem QN {w : World} {base : Nat} {ok : Nat → Prop} {x : zq} {cs : List Value} (h : qv.M w base ok x cs) : cs = [.int .i64 x.f0, .int .i64 x.f1] := by
  obtain ⟨_, _, rfl, rfl, rfl⟩ := h
  exact rfl
theorem zA5 (w : World) (base : Nat) (ok : Nat → Prop) (x : zq)  : qv.M w base ok x [.int .i64 x.f0, .int .i64 x.f1] := ⟨[.int .i64 x.f0], [.int .i64 x.f1], rfl, rfl, rfl⟩
def zG (xs : List zq) (i : Int) : zq := xs.getD i.toNat JW
theorem Zj {w : World} {A : Option Addr} {n : Nat} {xs : List zq} (h : Kd.C qv w A n xs) (i : Int) (h0 : 0 ≤ i) (h1 : i < n) : ∃ ad , A = some ad ∧ w.cell? (ad.add (i.toNat * 2)) = some (.int .i64 (zG xs i).f0) ∧ w.cell? ⟨(ad.add (i.toNat * 2)).block, (ad.add (i.toNat * 2)).off + 1, none⟩ = some (.int .i64 (zG xs i).f1) := by
  obtain ⟨ad, c, e, _, hK, hc0⟩ := Kd.zEB h JW i h0 h1
  have hc : ∀ j u, c[j]? = some u → w.cell? (ad.add (i.toNat * 2 + j)) = some u := hc0
  obtain rfl := zDg hK
  exact ⟨ad, e, hc 0 _ rfl, by rw [← zCK _ _ 1 (by omega)]; exact hc 1 _ rfl⟩
def zE (xs : List (List zq)) (i : Int) : (List zq) := xs.getD i.toNat ([] : List zq)
theorem ZI {w : World} {A : Option Addr} {n : Nat} {xs : List (List zq)} (h : Kd.C (Kd.slice 74 qv) w A n xs) (i : Int) (h0 : 0 ≤ i) (h1 : i < n) : ∃ ad A0 c0, A = some ad ∧ w.cell? (ad.add i.toNat) = some (.slice A0 (zE xs i).length c0) ∧ (zE xs i).length ≤ c0 ∧ qv.C w A0 (zE xs i).length (zE xs i) := by
  obtain ⟨ad, c, e, _, hK, hc0⟩ := Kd.zEB h ([] : List zq) i h0 h1
  have hc : ∀ j u, c[j]? = some u → w.cell? (ad.add (i.toNat * 1 + j)) = some u := hc0
  obtain ⟨A0, c0, rfl, l0, g0⟩ := hK
  exact ⟨ad, A0, c0, e, by have hq := hc 0 _ rfl; rwa [Nat.mul_one, Nat.add_zero] at hq, l0, g0⟩
def zW (xs : List (List Int)) (i : Int) : (List Int) := xs.getD i.toNat ([] : List Int)
theorem zBz {w : World} {A : Option Addr} {n : Nat} {xs : List (List Int)} (h : Kd.C (Kd.slice 2 (Kd.int .i64)) w A n xs) (i : Int) (h0 : 0 ≤ i) (h1 : i < n) : ∃ ad A0 c0, A = some ad ∧ w.cell? (ad.add i.toNat) = some (.slice A0 (zW xs i).length c0) ∧ (zW xs i).length ≤ c0 ∧ (Kd.int .i64).C w A0 (zW xs i).length (zW xs i) := by
  obtain ⟨ad, c, e, _, hK, hc0⟩ := Kd.zEB h ([] : List Int) i h0 h1
  have hc : ∀ j u, c[j]? = some u → w.cell? (ad.add (i.toNat * 1 + j)) = some u := hc0
  obtain ⟨A0, c0, rfl, l0, g0⟩ := hK
  exact ⟨ad, A0, c0, e, by have hq := hc 0 _ rfl; rwa [Nat.mul_one, Nat.add_zero] at hq, l0, g0⟩
def ZC.l0 : Nat → List Int → Int → Int → Option (List Int)
  | 0, _, _, _ => none
  | k + 1, x3, x5, x6 => if x6 < x5 then (if x3.length < 17592186044416 then (ZC.l0 k (x3 ++ [x6]) x5 (wrap64 (x6 + 1))) else (none)) else (some x3)
def ZC.f (k : Nat) (a0 : Int) : Option (List Int) := ZC.l0 k ([] : List Int) a0 0
set_option maxHeartbeats 8000000 in
set_option maxRecDepth 100000 in
theorem ZC.calls (k : Nat) (a0 : Int) (r : List Int) (w : World) (h : ZC.f k a0 = some r) :
    Calls Try.prog 119 #[.int .i64 a0] w fun e w' => ∃ v0_ : Value, e = .returned (v0_) ∧ Kd.R (Kd.int .i64) 2 w' w.heap.size (fun _ => True) v0_ r ∧ Below w.heap.size w w' := by
  have HB := zA.mk (yry w.heap.size w)
  have H : (ZC.l0 k ([] : List Int) a0 0) = some r := h
  clear h
  have H' := zA.mk H
  clear H
  go_enter Try.func119, Try.ntmps119
  go_wp2
  go_loopg [3, 6] k (fun kq v3 v6 w' => ∃ (x3_1 : List Int) (x6_1 : Int), v6 = .int .i64 x6_1 ∧ zA (ZC.l0 kq x3_1 a0 x6_1 = some r) ∧ zA (kq ≤ k) ∧ zA (Kd.R (Kd.int .i64) 2 w' w.heap.size (fun _ => True) v3 x3_1) ∧ zA (Below w.heap.size w w'))
  case atStart => exact ⟨(([] : List Int)), (0), (by first | rfl | (simp; done) | (simp [*]; done)), H', ⟨yqy _⟩, ⟨by first | exact Kd.zAi _ _ _ _ _ | exact Kd.zER _ _ _ _ _ | exact Kd.zES _ _ _ _ _ | exact Kd.zEE _ _ _ _ _ | exact Kd.zEN _ _ _ _ _⟩, ⟨by repeat (first | (with_reducible first | exact HB.out | apply zC | apply zB | apply zD) | exact HB.out)⟩⟩
  case round =>
    clear H'
    try clear c1
    obtain ⟨x3_1, x6_1, rfl, HA, HK1, HO_3, HB⟩ := hrel
    cases gk with
    | zero => exact absurd HA.out (by simp [ZC.l0])
    | succ k1 =>
      have H := HA.out
      clear HA
      simp only [ZC.l0] at H
      by_cases c2 : x6_1 < a0
      · rw [if_pos c2] at H
        have c2b0 : decide (x6_1 < a0) = true := ygy c2
        clear c2
        by_cases c3 : x3_1.length < 17592186044416
        · rw [if_pos c3] at H
          have LMc3 := zA.mk c3
          clear c3
          obtain ⟨y101, hy101⟩ : ∃ y_ : List Int, y_ = (x3_1 ++ [x6_1]) := ⟨_, rfl⟩
          replace H : (ZC.l0 k1 y101 a0 (wrap64 (x6_1 + 1))) = some r := by first | (rw [hy101]; with_reducible exact H) | (have H2_ := (yfy _ _).symm.trans H; rw [hy101]; with_reducible exact H2_) | (have H2_ := (yfy _ _).symm.trans H; with_reducible exact H2_) | with_reducible exact H | (rw [hy101]; exact H) | exact H
          have Ny101 := zA.mk hy101
          clear hy101
          have H' := zA.mk H
          clear H
          go_wp2_with (first | ((with_reducible refine Zg (b := .append) (xs := #[.tmp 9, .tmp 11]) rfl ?_); at_builtin; refine Kd.Jk (Kd.int .i64) (w0 := w) w.heap.size rfl (.tmp 9) (.tmp 11) 41 2 (.int .i64 0) 8 rfl Try.underlying41 JL rfl (by decide) (by omega) u3 x3_1 x6_1 [.int .i64 x6_1] (fun _ => True) (fun _ => False) rfl rfl ?aP (fun _ hk => hk.elim) ?aF ?aO ?aB ?aS ?aL ?_; (case aP => exact rfl); (case aB => exact (by repeat (first | (with_reducible first | exact HB.out | apply zC | apply zB | apply zD) | exact HB.out))); (case aF => exact (fun _ _ => trivial)); (case aO => exact (by (with_reducible repeat (first | apply Kd.zj | apply Kd.zk | apply Kd.zx)); exact HO_3.out)); (case aS => exact (zO (by repeat (first | (with_reducible first | exact HB.out | apply zC | apply zB | apply zD) | exact HB.out)))); (case aL => have := LMc3.out; omega); intro v102 w4 ho hb hg hat; rw [← Ny101.out] at ho; have n0_ := zA.mk (hb); have n1_ := zA.mk (ho); clear HB; clear HO_3; have HB := n0_; have HO103 := n1_; clear n0_ n1_; clear ho hb hg hat))
          go_roundg k1
          case measure => have := HK1.out; omega
          case rel => exact ⟨(y101), (wrap64 (x6_1 + 1)), (by first | rfl | (simp; done) | (simp [*]; done)), H', ⟨by have := HK1.out; omega⟩, ⟨by (with_reducible repeat (first | apply Kd.zj | apply Kd.zk | apply Kd.zx)); exact HO103.out⟩, ⟨by repeat (first | (with_reducible first | exact HB.out | apply zC | apply zB | apply zD) | exact HB.out)⟩⟩
        · rw [if_neg c3] at H
          exact absurd H (by simp)
      · rw [if_neg c2] at H
        have c2b0 : decide (x6_1 < a0) = false := yhy c2
        clear c2
        obtain rfl := yey H
        go_wp2
        go_ret
        exact ⟨_, by first | rfl | (simp [zQ, zR] <;> rfl) | (simp [*, zQ, zR] <;> rfl), by (with_reducible repeat (first | apply Kd.zj | apply Kd.zk | apply Kd.zx)); exact HO_3.out, by repeat (first | (with_reducible first | exact HB.out | apply zC | apply zB | apply zD) | exact HB.out)⟩
theorem Jd (a b c d : Int) (f : Int) (h0 : 0 ≤ f) (h1 : f ≤ 3) : ∀ w : World, (Instr.index 108 (.agg #[.int .i64 a, .int .i64 b, .int .i64 c, .int .i64 d]) (.int .i64 f)).run Try.prog w = .ok (.int .i64 (rd [a, b, c, d] f)) w := by
  intro w
  rcases (show f = 0 ∨ f = 1 ∨ f = 2 ∨ f = 3 by omega) with rfl | rfl | rfl | rfl
  · kernel_rfl
  · kernel_rfl
  · kernel_rfl
  · kernel_rfl
theorem Qh {w : World} {g : Nat} {T : TypeId} {a b c d : Int} (h : w.heap[g]? = some (.cells #[.int .i64 a, .int .i64 b, .int .i64 c, .int .i64 d] T (0, 0))) (f : Int) (h0 : 0 ≤ f) (h1 : f ≤ 3) : w.cell? ⟨g, f.toNat, none⟩ = some (.int .i64 (rd [a, b, c, d] f)) := by
  rw [zK h]
  rcases (show f = 0 ∨ f = 1 ∨ f = 2 ∨ f = 3 by omega) with rfl | rfl | rfl | rfl <;> rfl
theorem zC0 {w : World} {g : Nat} {T : TypeId} {a b c d : Int} (h : w.heap[g]? = some (.cells #[.int .i64 a, .int .i64 b, .int .i64 c, .int .i64 d] T (0, 0))) (f v : Int) (h0 : 0 ≤ f) (h1 : f ≤ 3) :
    (w.setCell ⟨g, f.toNat, none⟩ (.int .i64 v)).heap[g]? = some (.cells #[.int .i64 (rd ([a, b, c, d].set f.toNat v) 0), .int .i64 (rd ([a, b, c, d].set f.toNat v) 1), .int .i64 (rd ([a, b, c, d].set f.toNat v) 2), .int .i64 (rd ([a, b, c, d].set f.toNat v) 3)] T (0, 0)) := by
  rcases (show f = 0 ∨ f = 1 ∨ f = 2 ∨ f = 3 by omega) with rfl | rfl | rfl | rfl
  · exact qa h 0 _ rfl
  · exact qa h 1 _ rfl
  · exact qa h 2 _ rfl
  · exact qa h 3 _ rfl
theorem QO {W : World} {n : Nat} (h : W.heap.size = n) (o : Obj) : (W.alloc o).heap[n]? = some o := h ▸ zCq W o
theorem zC1 {l : List Int} (h : l.length = 4) : l = [rd l 0, rd l 1, rd l 2, rd l 3] := by
  match l, h with
  | [a, b, c, d], _ => rfl
def zDh (p : Int → Bool) : Nat → List Int → Int
  | _, [] => -1
  | i, x :: xs => if p x = true then (i : Int) else zDh p (i + 1) xs
theorem zBP (p : Int → Bool) : ∀ (l : List Int) (i : Nat), (zDh p i l = -1 ∧ ∀ x ∈ l, p x = false) ∨ ∃ k, k < l.length ∧ zDh p i l = ((i + k : Nat) : Int) ∧ (∀ h : k < l.length, p l[k] = true) ∧ ∀ x ∈ l.take k, p x = false
  | [], _ => .inl ⟨rfl, fun x hx => by cases hx⟩
  | x :: xs, i => by
    cases hp : p x with
    | true => exact .inr ⟨0, by simp, by rw [zDh, hp, if_pos rfl]; rfl, fun _ => hp, fun y hy => by simp at hy⟩
    | false =>
      rcases zBP p xs (i + 1) with ⟨h1, h2⟩ | ⟨k, h1, h2, h3, h4⟩
      · refine .inl ⟨by rw [zDh, hp, if_neg (by simp)]; exact h1, fun y hy => ?_⟩
        rcases List.mem_cons.1 hy with rfl | hy
        · exact hp
        · exact h2 y hy
      · refine .inr ⟨k + 1, by simp; omega, by rw [zDh, hp, if_neg (by simp), h2]; congr 1; omega, fun h => h3 (by simpa using h), fun y hy => ?_⟩
        rw [List.take_succ_cons] at hy
        rcases List.mem_cons.1 hy with rfl | hy
        · exact hp
        · exact h4 y hy
theorem zCW {e B g n cap : Nat} {ok : Nat → Prop} {w0 : World} : ∀ (m i : Nat) (w : World) (dk : List Int), Kd.R (Kd.int .i64) e w B ok (.slice (some ⟨g, 0, none⟩) n cap) dk → B ≤ g → Below B w0 w →
    ∃ dk', Kd.R (Kd.int .i64) e (w.setCells g i (List.replicate m (.int .i64 0))) B ok (.slice (some ⟨g, 0, none⟩) n cap) dk' ∧ dk'.take i = dk.take i ∧ dk'.length = dk.length ∧ Below B w0 (w.setCells g i (List.replicate m (.int .i64 0)))
  | 0, i, w, dk, h, _, hb => ⟨dk, h, rfl, rfl, hb⟩
  | m + 1, i, w, dk, h, hg, hb => by
    have hn : n = dk.length := (Kd.qF h).1
    subst hn
    have h1 := (Kd.JQ h (i : Int) 0).1
    rw [yny] at h1
    have e1 : (.slice (some ⟨g, 0, none⟩) dk.length cap : Value) = .slice (some ⟨g, 0, none⟩) (dk.set i 0).length cap := by rw [List.length_set]
    rw [e1] at h1
    obtain ⟨dk', h2, h3, h4, h5⟩ := zCW m (i + 1) _ _ h1 hg (hb.setCell (p := ⟨g, i, none⟩) hg (.int .i64 0))
    rw [← e1] at h2
    refine ⟨dk', h2, ?_, by rw [h4, List.length_set], h5⟩
    have := congrArg (List.take i) h3
    rw [List.take_take, List.take_take, Nat.min_eq_left (by omega)] at this
    rw [this, List.take_set_of_le (yqy i)]
structure JT (p : Int → Bool) (xs dk : List Int) (i j : Nat) : Prop where
  lt : i < j
  le : j ≤ xs.length
  len : dk.length = xs.length
  done : dk.take i = (xs.take j).filter fun x => !p x
  left : dk.drop j = xs.drop j
theorem JT.start {p : Int → Bool} {xs : List Int} {k : Nat} (h1 : k < xs.length) (h3 : p xs[k] = true) (h4 : ∀ x ∈ xs.take k, p x = false) : JT p xs xs k (k + 1) := by
  refine ⟨by omega, by omega, rfl, ?_, rfl⟩
  rw [List.take_succ_eq_append_getElem h1, List.filter_append]
  have e1 : (xs.take k).filter (fun x => !p x) = xs.take k := List.filter_eq_self.2 (fun x hx => by rw [h4 x hx]; rfl)
  rw [e1]; simp [h3]
theorem JT.get {p : Int → Bool} {xs dk : List Int} {i j : Nat} (h : JT p xs dk i j) (hj : j < xs.length) : rd dk (j : Int) = xs[j] := by
  have h1 : dk[j]? = xs[j]? := by
    have := congrArg (fun l => l[0]?) h.left
    simpa [List.getElem?_drop] using this
  have h2 : j < dk.length := by rw [h.len]; exact hj
  simp [rd, List.getD_eq_getElem?_getD, h1, hj]
theorem JT.keep {p : Int → Bool} {xs dk : List Int} {i j : Nat} (h : JT p xs dk i j) (hj : j < xs.length) (hp : p xs[j] = false) : JT p xs (dk.set i xs[j]) (i + 1) (j + 1) := by
  have hi : i < dk.length := by have := h.lt; have := h.len; omega
  refine ⟨by have := h.lt; omega, by omega, by rw [List.length_set]; exact h.len, ?_, ?_⟩
  · rw [List.take_succ_eq_append_getElem (by rw [List.length_set]; exact hi), List.take_set_of_le (yqy i), h.done, List.take_succ_eq_append_getElem hj, List.filter_append]
    simp [hp]
  · rw [List.drop_set_of_lt (by have := h.lt; omega), ← List.drop_drop, h.left, List.drop_drop]
theorem JT.skip {p : Int → Bool} {xs dk : List Int} {i j : Nat} (h : JT p xs dk i j) (hj : j < xs.length) (hp : p xs[j] = true) : JT p xs dk i (j + 1) := by
  refine ⟨by have := h.lt; omega, by omega, h.len, ?_, ?_⟩
  · rw [h.done, List.take_succ_eq_append_getElem hj, List.filter_append]
    simp [hp]
  · rw [← List.drop_drop, h.left, List.drop_drop]
set_option maxHeartbeats 8000000 in
set_option maxRecDepth 100000 in
theorem JM.calls (p : Int → Bool) (k1_ : Value) (A0 : Option Addr) (c0 : Nat) (l0 : List Int) (w : World) (hr0 : Kd.C (Kd.int .i64) w A0 l0.length l0)
    (hp : ∀ (W : World) (x : Int), x ∈ l0 → Below w.heap.size w W → Calls Try.prog 173 #[.int .i64 x, k1_] W fun e W' => e = .returned (.bool (p x)) ∧ Below W.heap.size W W') :
    Calls Try.prog 163 #[.slice A0 l0.length c0, .func (.func 173) #[] #[k1_]] w fun e w' => e = .returned (.int .i64 (zDh p 0 l0)) ∧ Below w.heap.size w w' := by
  have HR0 := zA.mk hr0
  have HP := zA.mk hp
  clear hr0 hp
  have hbig : l0.length ≤ 9223372036854775807 := HR0.out.2.1
  have HB := zA.mk (yry w.heap.size w)
  have H' : zA (zDh p 0 (l0.drop 0) = zDh p 0 l0) := ⟨by rw [List.drop_zero]⟩
  generalize zDh p 0 l0 = r at H' ⊢
  go_enter Try.func163, Try.ntmps163
  go_wp2
  go_loopg [5, 8] l0.length (fun gg v5 v8 w' => ∃ kk : Nat, kk ≤ l0.length ∧ l0.length - kk ≤ gg ∧ v8 = .int .i64 kk ∧ zA (zDh p kk (l0.drop kk) = r) ∧ zA (Below w.heap.size w w'))
  case atStart => exact ⟨0, Nat.zero_le _, by omega, rfl, H', HB⟩
  case round =>
    clear H' HB
    obtain ⟨kk, hkk, hg, rfl, HA, HB⟩ := hrel
    by_cases hlt : kk < l0.length
    · have hltz : (kk : Int) < (l0.length : Int) := by omega
      have H := HA.out
      clear HA
      rw [yoy hlt, zDh] at H
      obtain ⟨ad, e104, hx⟩ := Kd.ZB HR0.out (kk : Int) (by omega) (by omega)
      have ex : rd l0 (kk : Int) = l0[kk] := by simp [rd, hlt]
      rw [ex, yny] at hx
      replace hx := (HB.out.cell (ypy w _ hx)).trans hx
      have HC := zA.mk (HP.out wr l0[kk] (List.getElem_mem hlt) HB.out)
      generalize l0[kk] = y at hx H HC
      clear ex
      cases e104
      cases hq : p y with
      | true =>
        rw [hq] at HC H
        rw [if_pos rfl] at H
        have H2 := zA.mk H
        clear H
        go_wp2_with fail
        refine HC.out.mono ?_
        rintro e w' ⟨rfl, hd⟩
        have HB2 := zA.mk (zN HB.out hd)
        clear hd HB HC
        go_wp2
        go_ret
        exact ⟨by rw [← H2.out]; rfl, HB2.out⟩
      | false =>
        rw [hq] at HC H
        rw [if_neg (by simp)] at H
        have H2 := zA.mk H
        clear H
        go_wp2_with fail
        refine HC.out.mono ?_
        rintro e w' ⟨rfl, hd⟩
        have HB2 := zA.mk (zN HB.out hd)
        clear hd HB HC
        go_wp2
        go_roundg (l0.length - (kk + 1))
        case measure => omega
        case rel => exact ⟨kk + 1, by omega, by omega, by go_num, H2, HB2⟩
    · have hltz : ¬ (kk : Int) < (l0.length : Int) := by omega
      have e : kk = l0.length := by omega
      subst e
      have H2 := zA.mk (show (-1 : Int) = r by have := HA.out; rwa [List.drop_length, zDh] at this)
      clear HA
      go_wp2
      go_ret
      exact ⟨by rw [← H2.out]; rfl, HB.out⟩
set_option maxHeartbeats 8000000 in
set_option maxRecDepth 100000 in
theorem Qz.calls (p : Int → Bool) (k1_ : Value) (g cap B : Nat) (ok : Nat → Prop) (xs : List Int) (w : World) (hR : Kd.R (Kd.int .i64) 2 w B ok (.slice (some ⟨g, 0, none⟩) xs.length cap) xs)
    (hp : ∀ (W : World) (x : Int), x ∈ xs → Below B w W → Calls Try.prog 173 #[.int .i64 x, k1_] W fun e W' => e = .returned (.bool (p x)) ∧ Below W.heap.size W W') :
    Calls Try.prog 145 #[.slice (some ⟨g, 0, none⟩) xs.length cap, .func (.func 173) #[] #[k1_]] w fun e w' => ∃ v', e = .returned v' ∧ Kd.R (Kd.int .i64) 2 w' B ok v' (xs.filter fun x => !p x) ∧ Below B w w' := by
  have hgB : B ≤ g := Kd.Qe hR g (by simp [Value.ownBlock])
  have hgW : g < w.heap.size := Kd.zB5 hR g (by simp [Value.ownBlock])
  have hcap : xs.length ≤ cap := (Kd.qF hR).2.1
  have hbig : xs.length ≤ 9223372036854775807 := Kd.C_max (Kd.qF hR).2.2
  have HIX := zA.mk (JM.calls p k1_ (some ⟨g, 0, none⟩) cap xs w (Kd.qF hR).2.2 (fun W x hx hb => hp W x hx (hb.mono (by omega))))
  have HR := zA.mk hR
  have HP := zA.mk hp
  have HG := zA.mk (And.intro hgB hgW)
  clear hR hp hgB hgW
  rcases zBP p xs 0 with ⟨h1, h2⟩ | ⟨k, h1, h2, h3, h4⟩
  · rw [h1] at HIX
    have e1 : xs.filter (fun x => !p x) = xs := List.filter_eq_self.2 (fun x hx => by rw [h2 x hx]; rfl)
    rw [e1]
    clear h1 h2 e1 HP
    go_enter Try.func145, Try.ntmps145
    go_wp2_with fail
    refine HIX.out.mono ?_
    rintro e w' ⟨rfl, hd⟩
    have HB := zA.mk (hd.mono (show B ≤ w.heap.size by have := HG.out; omega))
    have HR2 := zA.mk (Kd.Zc HR.out hd)
    clear hd HIX HR
    go_wp2
    go_ret
    exact ⟨_, rfl, HR2.out, HB.out⟩
  · rw [h2, Nat.zero_add] at HIX
    have HK0 := zA.mk (JT.start h1 (h3 h1) h4)
    have hk9 : k < xs.length := h1
    have hne : ((k : Int) == -1) = false := beq_eq_false_iff_ne.2 (by omega)
    clear h2 h3 h4 h1
    go_enter Try.func145, Try.ntmps145
    go_wp2_with fail
    refine HIX.out.mono ?_
    rintro e w1 ⟨rfl, hd⟩
    have HB := zA.mk (hd.mono (show B ≤ w.heap.size by have := HG.out; omega))
    have HR2 := zA.mk (Kd.Zc HR.out hd)
    clear hd HIX HR
    go_wp2
    clear hne
    go_loopg [5, 6, 7] xs.length (fun gg s5 s6 _ wr => ∃ (i j : Nat) (dk : List Int), s5 = .int .i64 i ∧ s6 = .int .i64 j ∧ xs.length - j ≤ gg ∧ zA (JT p xs dk i j) ∧ zA (Kd.R (Kd.int .i64) 2 wr B ok (.slice (some ⟨g, 0, none⟩) xs.length cap) dk) ∧ zA (Below B w wr))
    case atStart => exact ⟨k, k + 1, xs, rfl, by go_num, by omega, HK0, HR2, HB⟩
    case round =>
      clear HK0 HR2 HB hk9
      obtain ⟨i, j, dk, rfl, rfl, hgg, HK, HR, HB⟩ := hrel
      have hij := HK.out.lt
      have hjl := HK.out.le
      have hdl := HK.out.len
      by_cases hlt : j < xs.length
      · have hltz : (j : Int) < (xs.length : Int) := by omega
        have hr2 := HR.out
        rw [← hdl] at hr2
        obtain ⟨cj, _⟩ := Kd.Zs 0 hr2 (j : Int) (by omega) (by omega)
        obtain ⟨ci, fi⟩ := Kd.Zs 0 hr2 (i : Int) (by omega) (by omega)
        replace cj : wr.cell? ⟨g, j, none⟩ = some (.int .i64 (rd dk (j : Int))) := cj
        replace ci : wr.cell? ⟨g, i, none⟩ = some (.int .i64 (rd dk (i : Int))) := ci
        replace fi : wr.frozen? ⟨g, i, none⟩ = false := fi
        rw [HK.out.get hlt] at cj
        have HC := zA.mk (HP.out wr xs[j] (List.getElem_mem hlt) HB.out)
        generalize hu : xs[j] = u at cj HC
        have HU := zA.mk hu
        generalize rd dk (i : Int) = old at ci
        clear hu hr2
        cases hq : p u with
        | false =>
          rw [hq] at HC
          go_wp2_with fail
          refine HC.out.mono ?_
          rintro e w2 ⟨rfl, hd⟩
          have HB2 := zA.mk (HB.out.trans (hd.mono (show B ≤ wr.heap.size by have := HB.out.size; have := HG.out; omega)))
          have hr3 := Kd.Zc HR.out hd
          rw [← hdl] at hr3
          have HR3 := zA.mk (Kd.JQ hr3 (i : Int) u).1
          rw [yny] at HR3
          have ci2 := (hd.cell (ypy wr _ ci)).trans ci
          have fi2 := (hd.frozen (ypy wr _ ci)).trans fi
          clear hd HB HC cj ci fi hr3 HR
          go_wp2
          go_roundg (xs.length - (j + 1))
          case measure => omega
          case rel => exact ⟨i + 1, j + 1, dk.set i u, by go_num, by go_num, by omega, ⟨by have := HK.out.keep hlt (by rw [HU.out]; exact hq); rwa [HU.out] at this⟩, ⟨by rw [← hdl]; exact HR3.out⟩, ⟨HB2.out.setCell (p := ⟨g, i, none⟩) HG.out.1 _⟩⟩
        | true =>
          rw [hq] at HC
          go_wp2_with fail
          refine HC.out.mono ?_
          rintro e w2 ⟨rfl, hd⟩
          have HB2 := zA.mk (HB.out.trans (hd.mono (show B ≤ wr.heap.size by have := HB.out.size; have := HG.out; omega)))
          have HR3 := zA.mk (Kd.Zc HR.out hd)
          clear hd HB HC cj ci fi HR
          go_wp2
          go_roundg (xs.length - (j + 1))
          case measure => omega
          case rel => exact ⟨i, j + 1, dk, rfl, by go_num, by omega, ⟨HK.out.skip hlt (by rw [HU.out]; exact hq)⟩, HR3, HB2⟩
      · obtain rfl : j = xs.length := by omega
        have hltz : ¬ (xs.length : Int) < (xs.length : Int) := by omega
        have hr2 := HR.out
        rw [← hdl] at hr2
        have hcl : ∀ ty, (Builtin.clear_ #[41] ty #[.slice (some ⟨g, i, none⟩) (xs.length - i) (cap - i)]).run Try.prog wr = .ok (.tuple #[]) (wr.setCells g i (List.replicate (xs.length - i) (.int .i64 0))) :=
          fun ty => Lib.run_clear_slice wr _ _ ty _ Try.underlying41 (fun w => Try.zeroValue2 w) rfl rfl g i _ _ (by omega) (fun t ht => by have q : wr.cell? ⟨g, i + t, none⟩ = some (.int .i64 (rd dk ((i + t : Nat) : Int))) := (Kd.Zs 0 hr2 ((i + t : Nat) : Int) (by omega) (by omega)).1; rw [q]; rfl) (fun t ht => (Kd.Zs 0 hr2 ((i + t : Nat) : Int) (by omega) (by omega)).2)
        obtain ⟨dk', q1, q2, q3, q4⟩ := zCW (xs.length - i) i wr dk HR.out HG.out.1 HB.out
        have q5 := Kd.R_take (m := i) q1 (by omega)
        have q6 : dk'.take i = xs.filter fun x => !p x := by rw [q2, HK.out.done, List.take_length]
        rw [q6] at q5
        have Q5 := zA.mk q5
        have Q4 := zA.mk q4
        clear q1 q2 q3 q4 q5 q6 hr2 HR HB HP HK hdl
        go_wp2
        go_ret
        exact ⟨_, rfl, Q5.out, Q4.out⟩
def qG.l0 : Nat → List Int → Int → Int → Int → Option (Int)
  | 0, _, _, _, _ => none
  | k + 1, x0, x1, x7, x8 => if x8 < x7 then (if 0 ≤ x8 then (if x8 < (x0.length : Int) then (if x1 = (rd x0 x8) then (some x8) else (qG.l0 k x0 x1 x7 (wrap64 (x8 + 1)))) else (none)) else (none)) else (some (-1))
def qG.f (k : Nat) (l0 : List Int) (a1 : Int) : Option (Int) := qG.l0 k l0 a1 (l0.length : Int) 0
set_option maxHeartbeats 8000000 in
set_option maxRecDepth 100000 in
theorem qG.calls (k : Nat) (A0 : Option Addr) (c0 : Nat) (l0 : List Int) (a1 : Int) (r : Int) (w : World) (hr0 : Kd.C (Kd.int .i64) w A0 l0.length l0) (hc0 : l0.length ≤ c0) (h : qG.f k l0 a1 = some r) :
    Calls Try.prog 101 #[.slice A0 l0.length c0, .int .i64 a1] w fun e w' => e = .returned (.int .i64 r) ∧ zb w w' := by
  have HR0 := zA.mk hr0
  have HC0 := zA.mk hc0
  clear hr0 hc0
  have H : (qG.l0 k l0 a1 (l0.length : Int) 0) = some r := h
  clear h
  have H' := zA.mk H
  clear H
  go_enter Try.func101, Try.ntmps101
  go_wp2
  go_loopg [8] k (fun kq v8 w' => ∃ (x8_1 : Int), v8 = .int .i64 x8_1 ∧ zA (qG.l0 kq l0 a1 (l0.length : Int) x8_1 = some r) ∧ zA (kq ≤ k) ∧ zb w w')
  case atStart => exact ⟨(0), (by first | rfl | (simp; done) | (simp [*]; done)), H', ⟨yqy _⟩, by repeat (first | exact zb.refl _ | apply zb.step)⟩
  case round =>
    clear H'
    try clear c1
    try clear p2
    obtain ⟨x8_1, rfl, HA, HK1, ⟨m1, rfl⟩⟩ := hrel
    cases gk with
    | zero => exact absurd HA.out (by simp [qG.l0])
    | succ k1 =>
      have H := HA.out
      clear HA
      simp only [qG.l0] at H
      by_cases c3 : x8_1 < (l0.length : Int)
      · rw [if_pos c3] at H
        have c3b0 : decide (x8_1 < (l0.length : Int)) = true := ygy c3
        clear c3
        by_cases c4 : 0 ≤ x8_1
        · rw [if_pos c4] at H
          have c4b0 : decide (0 ≤ x8_1) = true := ygy c4
          clear c4
          by_cases c5 : x8_1 < (l0.length : Int)
          · rw [if_pos c5] at H
            have c5b0 : decide (x8_1 < (l0.length : Int)) = true := ygy c5
            clear c5
            by_cases c6 : a1 = (rd l0 x8_1)
            · rw [if_pos c6] at H
              have c6b0 : (a1 == (rd l0 x8_1)) = true := beq_iff_eq.mpr c6
              have c6b1 : (a1 != (rd l0 x8_1)) = false := bne_eq_false_iff_eq.mpr c6
              clear c6
              obtain rfl := yey H
              have p101 : 0 ≤ (x8_1 : Int) := of_decide_eq_true (by first | (with_reducible assumption) | assumption)
              have q101 : x8_1 < (l0.length : Int) := of_decide_eq_true (by first | (with_reducible assumption) | assumption)
              obtain ⟨ad101, e101, hx101_0⟩ := Kd.ZB HR0.out x8_1 p101 q101
              cases e101
              replace p101 := eq_true p101
              replace q101 := eq_true q101
              go_wp2
              go_ret
              exact ⟨by first | rfl | (simp; done) | (simp [*]; done), by repeat (first | exact zb.refl _ | apply zb.step)⟩
            · rw [if_neg c6] at H
              have c6b0 : (a1 == (rd l0 x8_1)) = false := beq_eq_false_iff_ne.mpr c6
              have c6b1 : (a1 != (rd l0 x8_1)) = true := bne_iff_ne.mpr c6
              have H' := zA.mk H
              clear H
              have p101 : 0 ≤ (x8_1 : Int) := of_decide_eq_true (by first | (with_reducible assumption) | assumption)
              have q101 : x8_1 < (l0.length : Int) := of_decide_eq_true (by first | (with_reducible assumption) | assumption)
              obtain ⟨ad101, e101, hx101_0⟩ := Kd.ZB HR0.out x8_1 p101 q101
              cases e101
              replace p101 := eq_true p101
              replace q101 := eq_true q101
              go_wp2
              go_roundg k1
              case measure => have := HK1.out; omega
              case rel => exact ⟨(wrap64 (x8_1 + 1)), (by first | rfl | (simp; done) | (simp [*]; done)), H', ⟨by have := HK1.out; omega⟩, by repeat (first | exact zb.refl _ | apply zb.step)⟩
          · rw [if_neg c5] at H
            exact absurd H (by simp)
        · rw [if_neg c4] at H
          exact absurd H (by simp)
      · rw [if_neg c3] at H
        have c3b0 : decide (x8_1 < (l0.length : Int)) = false := yhy c3
        clear c3
        obtain rfl := yey H
        go_wp2
        go_ret
        exact ⟨by first | rfl | (simp; done) | (simp [*]; done), by repeat (first | exact zb.refl _ | apply zb.step)⟩
def ZP.f (k : Nat) (l0 : List Int) (a1 : Int) : Option (Bool) := (qG.f k l0 a1).bind fun t101 => (some (decide (t101 ≥ 0)))
set_option maxHeartbeats 8000000 in
set_option maxRecDepth 100000 in
theorem ZP.calls (k : Nat) (A0 : Option Addr) (c0 : Nat) (l0 : List Int) (a1 : Int) (r : Bool) (w : World) (hr0 : Kd.C (Kd.int .i64) w A0 l0.length l0) (hc0 : l0.length ≤ c0) (h : ZP.f k l0 a1 = some r) :
    Calls Try.prog 174 #[.slice A0 l0.length c0, .int .i64 a1] w fun e w' => e = .returned (.bool r) ∧ zb w w' := by
  have HR0 := zA.mk hr0
  have HC0 := zA.mk hc0
  clear hr0 hc0
  have H : ((qG.f k l0 a1).bind fun t101 => (some (decide (t101 ≥ 0)))) = some r := h
  clear h
  replace H := ydy.mp H
  obtain ⟨t101, A30, H⟩ := H
  replace H : (some (decide (t101 ≥ 0))) = some r := H
  have A3 := zA.mk A30
  clear A30
  obtain rfl := yey H
  go_enter Try.func174, Try.ntmps174
  go_wp2_with (first | ((with_reducible refine zT (f := 101) rfl ?_); refine qC (some 7) rfl rfl Try.func101 (by kernel_rfl) rfl #[.slice A0 l0.length c0, .int .i64 a1] rfl (by (try simp only [yiy, yjy, yky]); first | done | rfl | (simp only [yly, ymy]; rfl)) ?_; (with_reducible refine (qG.calls k _ _ l0 a1 t101 _ ?side1 ?side2 A3.out).mono ?_); (case side1 => repeat (first | exact HR0.out | (with_reducible refine Kd.zl ?_ _) | (with_reducible refine Kd.zm ?_ _) | (with_reducible refine Kd.qB ?_))); (case side2 => exact HC0.out); rintro e w' ⟨rfl, ⟨nd, rfl⟩⟩; refine ⟨_, rfl, ?_⟩))
  go_ret
  exact ⟨by first | rfl | (simp; done) | (simp [*]; done), by repeat (first | exact zb.refl _ | apply zb.step)⟩
def zDi (l0 : List Int) : List Int := [0, 1, 2, 3].filter fun x => !l0.contains x
def JN.f (l0 : List Int) : Option (List Int) := some (zDi l0)
theorem zDJ (l : List Int) (x : Int) (hl : l.length ≤ 9223372036854775807) : ∀ (d n : Nat), n + d = l.length → ∃ r, qG.l0 (d + 1) l x (l.length : Int) (n : Int) = some r ∧ decide (r ≥ 0) = (l.drop n).contains x
  | 0, n, h => ⟨-1, by rw [qG.l0, if_neg (by omega)], by rw [List.drop_eq_nil_of_le (by omega)]; rfl⟩
  | d + 1, n, h => by
    have hlt : n < l.length := by omega
    obtain ⟨r, h1, h2⟩ := zDJ l x hl d (n + 1) (by omega)
    have ex : rd l (n : Int) = l[n] := by simp [rd, hlt]
    rw [qG.l0, if_pos (by omega), if_pos (by omega), if_pos (by omega), ex, yoy hlt, List.contains_cons]
    by_cases c : x = l[n]
    · exact ⟨n, by rw [if_pos c], by rw [← c]; simp⟩
    · refine ⟨r, ?_, ?_⟩
      · rw [if_neg c, ← h1]; congr 1; unfold wrap64; omega
      · rw [h2]
        have : (x == l[n]) = false := by simpa using c
        rw [this, Bool.false_or]
theorem contains_eq (l : List Int) (x : Int) (hl : l.length ≤ 9223372036854775807) : ZP.f (l.length + 1) l x = some (l.contains x) := by
  obtain ⟨r, h1, h2⟩ := zDJ l x hl l.length 0 (by omega)
  have h3 : qG.f (l.length + 1) l x = some r := h1
  unfold ZP.f
  rw [h3, yfy, h2, List.drop_zero]
set_option maxHeartbeats 8000000 in
set_option maxRecDepth 100000 in
theorem zC2.calls (A0 : Option Addr) (c0 gb : Nat) (l0 : List Int) (x : Int) (w : World) (hb : w.heap[gb]? = some (.cells #[.slice A0 l0.length c0] 41 (0, 0))) (hC : Kd.C (Kd.int .i64) w A0 l0.length l0) (hc : l0.length ≤ c0) :
    Calls Try.prog 173 #[.int .i64 x, .pointer (some ⟨gb, 0, none⟩)] w fun e w' => e = .returned (.bool (l0.contains x)) ∧ Below w.heap.size w w' := by
  have hx : w.cell? ⟨gb, 0, none⟩ = some (.slice A0 l0.length c0) := (zK hb 0).trans rfl
  have HCC := zA.mk (contains_eq l0 x hC.2.1)
  have HC := zA.mk hC
  have HL := zA.mk hc
  clear hb hC hc
  generalize l0.contains x = b at HCC ⊢
  go_enter Try.func173, Try.ntmps173
  go_wp2_with fail
  refine (ZP.calls _ A0 c0 l0 x b _ HC.out HL.out HCC.out).mono ?_
  rintro e w' ⟨rfl, hd⟩
  have HB := zA.mk (zb.below hd)
  clear hd
  go_wp2
  go_ret
  exact ⟨rfl, HB.out⟩
theorem zC3 : ZC.f 10 4 = some [0, 1, 2, 3] := by decide +kernel
set_option maxHeartbeats 8000000 in
set_option maxRecDepth 100000 in
theorem JN.calls (A0 : Option Addr) (c0 : Nat) (l0 : List Int) (r : List Int) (w : World) (hr0 : Kd.C (Kd.int .i64) w A0 l0.length l0) (hc0 : l0.length ≤ c0) (h : JN.f l0 = some r) :
    Calls Try.prog 156 #[.slice A0 l0.length c0] w fun e w' => ∃ v0_ : Value, e = .returned (v0_) ∧ Kd.R (Kd.int .i64) 2 w' w.heap.size (fun _ => True) v0_ r ∧ Below w.heap.size w w' := by
  have hr : zDi l0 = r := yey h
  subst hr
  clear h
  have HR := zA.mk hr0
  have HC := zA.mk hc0
  clear hr0 hc0
  go_enter Try.func156, Try.ntmps156
  have BB := zA.mk (QO (W := w) rfl (.cells #[.slice A0 l0.length c0] 41))
  have HB := zA.mk (zC (yry w.heap.size w) (.cells #[.slice A0 l0.length c0] 41))
  have HS := zA.mk (show (w.alloc (.cells #[.slice A0 l0.length c0] 41)).heap.size = w.heap.size + 1 by simp)
  go_wp2_with fail
  refine (ZC.calls 10 4 [0, 1, 2, 3] _ zC3).mono ?_
  rintro e w1 ⟨v1, rfl, ho, hb⟩
  obtain ⟨g, cap, rfl, hg1, hg2, _⟩ := Kd.Jo ho (by decide)
  have BB1 := zA.mk (zP BB.out hb)
  have HB1 := zA.mk (zN HB.out hb)
  rw [HS.out] at ho hg1
  have HO := zA.mk ho
  have HG := zA.mk hg1
  clear ho hb hg1 hg2 BB HB HS
  go_wp2_with fail
  refine (Qz.calls (fun x => l0.contains x) (.pointer (some ⟨w.heap.size, 0, none⟩)) g cap (w.heap.size + 1) (fun _ => True) [0, 1, 2, 3] _ HO.out (fun W x _ hb => zC2.calls A0 c0 w.heap.size l0 x W ((hb.block w.heap.size (by omega)).trans BB1.out) (Kd.zf HR.out (HB1.out.trans (hb.mono (by omega)))) HC.out)).mono ?_
  rintro e w2 ⟨v2, rfl, ho, hb⟩
  have HO2 := zA.mk (Kd.ZY ho (show w.heap.size ≤ w.heap.size + 1 by omega))
  have HB2 := zA.mk (HB1.out.trans (hb.mono (show w.heap.size ≤ w.heap.size + 1 by omega)))
  clear ho hb HO HB1 BB1
  go_wp2
  go_ret
  exact ⟨_, rfl, HO2.out, HB2.out⟩
def zCw : Go.Shelf.Ren := ⟨fun | 45 => 149 | n => n, fun | 22 => 41 | 23 => 2 | 3 => 3 | 4 => 4 | 0 => 0 | n => n, fun | n => n⟩
theorem zFq : Go.Proofs.SlLaysN.n45 Try.prog zCw := {
  mixed := by kernel_rfl
  f45 := ⟨Try.f149.name, by decide, Try.func149.trans (congrArg some (by kernel_rfl))⟩
  t0 := Try.underlying0
  a0 := Try.isAgg0
  z0 := Try.sizeOf0
  v0 := Try.zeroValue0
  t3 := Try.underlying3
  a3 := Try.isAgg3
  z3 := Try.sizeOf3
  v3 := Try.zeroValue3
  t4 := Try.underlying4
  a4 := Try.isAgg4
  z4 := Try.sizeOf4
  v4 := Try.zeroValue4
  t22 := Try.underlying41
  a22 := Try.isAgg41
  z22 := Try.sizeOf41
  v22 := Try.zeroValue41
  t23 := Try.underlying2
  a23 := Try.isAgg2
  z23 := Try.sizeOf2
  v23 := Try.zeroValue2
  i23 := by kernel_rfl }
theorem erase_eq (xs : List Int) (i : Nat) : xs.take i ++ xs.drop (i + 1) = xs.eraseIdx i := (List.eraseIdx_eq_take_drop_succ xs i).symm
theorem Zl.zDK (g cap i : Nat) (xs : List Int) (base : Nat) (ok : Nat → Prop) (w : World) (ho : Kd.R (Kd.int .i64) 2 w base ok (.slice (some ⟨g, 0, none⟩) xs.length cap) xs) (hi : i < xs.length) :
    Calls Try.prog 149 #[.slice (some ⟨g, 0, none⟩) xs.length cap, .int .i64 i, .int .i64 (i + 1)] w fun e w' => e = .returned (.slice (some ⟨g, 0, none⟩) (xs.length - 1) cap) ∧
      Kd.R (Kd.int .i64) 2 w' base ok (.slice (some ⟨g, 0, none⟩) (xs.length - 1) cap) (xs.eraseIdx i) ∧ w.grownBy w' (some g) := by
  have hown := Kd.zAc ho
  rcases hown.2 with ⟨hv, _⟩ | ⟨g', cap', cur, hv, hbase, hh, hle, hmax, hcs, htake⟩
  · cases hv
  injection hv with hv1 _ hv3
  injection hv1 with hv1
  injection hv1 with hv1 _ _
  subst hv1 hv3
  rw [Nat.mul_one] at hcs htake
  have hcell : ∀ j, j < xs.length → w.cell? ⟨g, 0 + j, none⟩ = some (.int .i64 xs[j]!) := by
    intro j hj
    rw [Nat.zero_add]
    have h1 : cur.toList[j]? = some (.int .i64 xs[j]!) := by
      have h2 : (cur.toList.take xs.length)[j]? = some (.int .i64 xs[j]!) := by
        rw [htake, Jj, List.getElem?_map, List.getElem?_eq_getElem hj]
        simp [getElem!_pos, hj]
      rw [List.getElem?_take, if_pos hj] at h2
      exact h2
    rw [zK hh j, ← Array.getElem?_toList, h1]
  have hH : Go.Sort.Holds (Value.int .i64) w g 0 xs.toArray := by
    intro j hj
    have hj' : j < xs.length := by simpa using hj
    refine ⟨?_, by rw [Nat.zero_add]; exact zM hh j⟩
    rw [hcell j hj']
    simp [getElem!_pos, hj']
  have hc := AnyG.slices_Delete_int zFq g 0 cap i (i + 1) xs w hH hle (by unfold maxLen at hmax; omega) (by omega) (by omega)
  have hc2 : Calls Try.prog 149 #[.slice (some ⟨g, 0, none⟩) xs.length cap, .int .i64 (i : Nat), .int .i64 ((i + 1 : Nat) : Int)] w fun e w' => e = .returned (.slice (some ⟨g, 0, none⟩) (xs.length - (i + 1 - i)) cap) ∧ ∃ q, w' = Go.Sort.putRow (Value.int .i64) (Go.Sort.ahead w q) g 0 (xs.take i ++ xs.drop (i + 1) ++ List.replicate (i + 1 - i) 0).toArray := hc
  refine hc2.mono ?_
  rintro e w' ⟨rfl, q, rfl⟩
  have hlen : (xs.eraseIdx i).length = xs.length - 1 := by rw [List.length_eraseIdx]; simp [hi]
  have hd : xs.take i ++ xs.drop (i + 1) ++ List.replicate (i + 1 - i) 0 = xs.eraseIdx i ++ [0] := by
    rw [erase_eq, show i + 1 - i = 1 by omega]; rfl
  rw [hd, show i + 1 - i = 1 by omega]
  have hheap : (Go.Sort.putRow (Value.int .i64) (Go.Sort.ahead w q) g 0 (xs.eraseIdx i ++ [0]).toArray).heap[g]? = some (.cells (Go.Sort.putCells (Value.int .i64) 0 (xs.eraseIdx i ++ [0]).toArray cur) 2 (0, 0)) := by
    show (w.heap.modify g _)[g]? = _
    rw [Array.getElem?_modify, if_pos rfl, hh]
    rfl
  have hfar : ∀ k, k ≠ g → (Go.Sort.putRow (Value.int .i64) (Go.Sort.ahead w q) g 0 (xs.eraseIdx i ++ [0]).toArray).heap[k]? = w.heap[k]? := by
    intro k hk
    show (w.heap.modify g _)[k]? = _
    rw [Array.getElem?_modify, if_neg (Ne.symm hk)]
  refine ⟨rfl, ?_, ⟨rfl, rfl, rfl, ?_, fun k _ hk => hfar k (fun e => hk (by rw [e]))⟩⟩
  · have e1 : xs.length - 1 = (xs.eraseIdx i).length := hlen.symm
    rw [e1]
    refine Kd.zA0 ⟨by simp [Jj], .inr ⟨g, cap, _, rfl, hbase, hheap, by omega, hmax, by simp [Go.Sort.putCells, hcs], ?_⟩⟩ (fun k hk => ho.1 k hk)
    rw [Nat.mul_one]
    apply List.ext_getElem?
    intro j
    rw [List.getElem?_take]
    by_cases hj : j < (xs.eraseIdx i).length
    · rw [if_pos hj, Array.getElem?_toList, Go.Sort.putCells, Array.getElem?_mapIdx, Array.getElem?_eq_getElem (by omega), Option.map_some, if_pos ⟨by omega, by simp; omega⟩, Nat.sub_zero, Jj, List.getElem?_map, List.getElem?_eq_getElem hj, Option.map_some]
      congr 2
      rw [List.getElem!_toArray, getElem!_pos _ j (by simp; omega), List.getElem_append_left hj]
    · rw [if_neg hj, List.getElem?_eq_none (by simp [Jj]; omega)]
  · show w.heap.size ≤ (w.heap.modify g _).size
    rw [Array.size_modify]
    omega
def zEU : Nat → Int
 | 0 => 6
 | 1 => 2
 | _ => 1
def ZE (p : Int) : Nat → Int
 | 0 => p
 | i + 1 => ZE p i % zEU i
def Zm (p : Int) (i : Nat) : Int := ZE p i / zEU i
def zr (p : Int) : Nat → List Int
 | 0 => [0, 1, 2, 3]
 | i + 1 => (zr p i).eraseIdx (Zm p i).toNat
def zu (p : Int) (i : Nat) : Int := (zr p i).getD (Zm p i).toNat 0
def ZF (p : Int) : List Int := [zu p 0, zu p 1, zu p 2, zu p 3]
theorem zDL (p : Int) (h0 : 0 ≤ p) (h1 : p ≤ 23) : (0 ≤ ZE p 0 ∧ ZE p 0 ≤ 23) ∧ (0 ≤ ZE p 1 ∧ ZE p 1 ≤ 5) ∧ (0 ≤ ZE p 2 ∧ ZE p 2 ≤ 1) ∧ (0 ≤ ZE p 3 ∧ ZE p 3 ≤ 0) := by
 simp only [ZE, zEU]; omega
theorem zDM (p : Int) (h0 : 0 ≤ p) (h1 : p ≤ 23) : (0 ≤ Zm p 0 ∧ Zm p 0 < 4) ∧ (0 ≤ Zm p 1 ∧ Zm p 1 < 3) ∧ (0 ≤ Zm p 2 ∧ Zm p 2 < 2) ∧ (0 ≤ Zm p 3 ∧ Zm p 3 < 1) := by
 have := zDL p h0 h1
 simp only [Zm, zEU]; omega
theorem zCX (p : Int) (h0 : 0 ≤ p) (h1 : p ≤ 23) : (zr p 0).length = 4 ∧ (zr p 1).length = 3 ∧ (zr p 2).length = 2 ∧ (zr p 3).length = 1 ∧ (zr p 4).length = 0 := by
 obtain ⟨a, b, c, d⟩ := zDM p h0 h1
 have e0 : (zr p 0).length = 4 := rfl
 have e1 : (zr p 1).length = 3 := by rw [zr, List.length_eraseIdx, e0, if_pos (by omega)]
 have e2 : (zr p 2).length = 2 := by rw [zr, List.length_eraseIdx, e1, if_pos (by omega)]
 have e3 : (zr p 3).length = 1 := by rw [zr, List.length_eraseIdx, e2, if_pos (by omega)]
 have e4 : (zr p 4).length = 0 := by rw [zr, List.length_eraseIdx, e3, if_pos (by omega)]
 exact ⟨e0, e1, e2, e3, e4⟩
theorem zDN {W : World} {n : Nat} (h : W.heap.size = n) (o : Obj) : (W.alloc o).heap[n]? = some o := h ▸ zCq W o
def Zp (p : Int) (i j : Nat) : Int := if j < i then zu p j else 0
set_option maxHeartbeats 8000000 in
set_option maxRecDepth 100000 in
theorem zAr.calls (p : Int) (w : World) (h0 : 0 ≤ p) (h1 : p ≤ 23) :
 Calls Try.prog 127 #[.int .i64 p] w fun e w' => e = .returned (.agg #[.int .i64 (zu p 0), .int .i64 (zu p 1), .int .i64 (zu p 2), .int .i64 (zu p 3)]) ∧ Below w.heap.size w w' := by
 have HP := zA.mk (zDL p h0 h1)
 have HK := zA.mk (zDM p h0 h1)
 have HL := zA.mk (zCX p h0 h1)
 clear h0 h1
 go_enter Try.func127, Try.ntmps127
 go_wp2_with fail
 go_loopg [0, 4, 11] 4 (fun gg v0 v4 v11 w' => ∃ i : Nat, i ≤ 4 ∧ 4 - i ≤ gg ∧ v11 = .int .i64 i ∧ v0 = .int .i64 (ZE p i) ∧ v4 = .slice (some ⟨w.heap.size + 1 + 1, 0, none⟩) (zr p i).length 4 ∧
  zA (Kd.R (Kd.int .i64) 2 w' w.heap.size (fun k => k = w.heap.size + 1 + 1) (.slice (some ⟨w.heap.size + 1 + 1, 0, none⟩) (zr p i).length 4) (zr p i)) ∧
  zA (w'.heap[w.heap.size + 1]? = some (.cells #[.int .i64 (Zp p i 0), .int .i64 (Zp p i 1), .int .i64 (Zp p i 2), .int .i64 (Zp p i 3)] 108 (0, 0))) ∧
  zA (w'.heap[w.heap.size]? = some (.cells #[.int .i64 0, .int .i64 0, .int .i64 0, .int .i64 0] 108 (0, 0))) ∧
  zA (w'.heap[w.heap.size + 1 + 1 + 1]? = some (.cells #[.int .i64 6, .int .i64 2, .int .i64 1, .int .i64 1] 2 (0, 0))) ∧ zA (Below w.heap.size w w'))
 case atStart =>
  refine ⟨0, by omega, by omega, rfl, rfl, rfl, ⟨?_⟩, ⟨?_⟩, ⟨?_⟩, ⟨?_⟩, ⟨?_⟩⟩
  next =>
   refine Kd.zA0 ⟨by simp [Jj], .inr ⟨w.heap.size + 1 + 1, 4, #[.int .i64 0, .int .i64 1, .int .i64 2, .int .i64 3], rfl, by omega, ?_, yqy 4, by decide, rfl, rfl⟩⟩ (fun k hk => by simpa [Value.ownBlock] using hk.symm)
   exact zH (zDN (by simp) _) _
  next =>
   exact zH (zH (zDN (by simp) _) _) _
  next =>
   exact zH (zH (zH (zDN rfl _) _) _) _
  next =>
   exact zDN (by simp) _
  next =>
   exact zC (zC (zC (zC (yry _ _) _) _) _) _
 case round =>
  obtain ⟨i, hi, hg, rfl, rfl, rfl, HR, B3, B2, B9, HB⟩ := hrel
  rcases (show i = 4 ∨ i = 3 ∨ i = 2 ∨ i = 1 ∨ i = 0 by omega) with rfl | rfl | rfl | rfl | rfl
  next =>
   have c0 : wr.cell? ⟨w.heap.size + 1, 0, none⟩ = some (.int .i64 (Zp p 4 0)) := (zK B3.out 0).trans rfl
   have c1 : wr.cell? ⟨w.heap.size + 1, 1, none⟩ = some (.int .i64 (Zp p 4 1)) := (zK B3.out 1).trans rfl
   have c2 : wr.cell? ⟨w.heap.size + 1, 2, none⟩ = some (.int .i64 (Zp p 4 2)) := (zK B3.out 2).trans rfl
   have c3 : wr.cell? ⟨w.heap.size + 1, 3, none⟩ = some (.int .i64 (Zp p 4 3)) := (zK B3.out 3).trans rfl
   have d0 : wr.cell? ⟨w.heap.size, 0, none⟩ = some (.int .i64 0) := (zK B2.out 0).trans rfl
   have d1 : wr.cell? ⟨w.heap.size, 1, none⟩ = some (.int .i64 0) := (zK B2.out 1).trans rfl
   have d2 : wr.cell? ⟨w.heap.size, 2, none⟩ = some (.int .i64 0) := (zK B2.out 2).trans rfl
   have d3 : wr.cell? ⟨w.heap.size, 3, none⟩ = some (.int .i64 0) := (zK B2.out 3).trans rfl
   have f0 := zM B2.out 0
   have f1 := zM B2.out 1
   have f2 := zM B2.out 2
   have f3 := zM B2.out 3
   have ht := Try.underlying108
   go_wp2
   refine bodyPost_ret (results_cell_row rfl _ _ w.heap.size 108 #[.int .i64 (Zp p 4 0), .int .i64 (Zp p 4 1), .int .i64 (Zp p 4 2), .int .i64 (Zp p 4 3)] (0, 0) _ rfl (qa (cs := #[.int .i64 (Zp p 4 0), .int .i64 (Zp p 4 1), .int .i64 (Zp p 4 2), .int .i64 0]) (qa (cs := #[.int .i64 (Zp p 4 0), .int .i64 (Zp p 4 1), .int .i64 0, .int .i64 0]) (qa (cs := #[.int .i64 (Zp p 4 0), .int .i64 0, .int .i64 0, .int .i64 0]) (qa B2.out 0 _ rfl) 1 _ rfl) 2 _ rfl) 3 _ rfl) ht rfl (by kernel_rfl)) rfl ⟨rfl, ?_⟩
   exact zF (zF (zF (zF HB.out (yqy _)) (yqy _)) (yqy _)) (yqy _)
  next =>
   have hK : 0 ≤ Zm p 3 ∧ Zm p 3 < (zr p 3).length := by have := HK.out; have := HL.out; omega
   have hP : 0 ≤ ZE p 3 ∧ ZE p 3 ≤ 23 := by have := HP.out; omega
   have HLN := zA.mk (show (zr p 3).length = 1 by have := HL.out; omega)
   have HLN2 := zA.mk (show (zr p 4).length = (zr p 3).length - 1 by have := HL.out; omega)
   obtain ⟨A1, q1, hA1, hq1, hC⟩ := Kd.Jq HR.out
   injection hA1 with hA1 hl1 hc1
   subst hA1
   clear hl1 hc1 hq1
   obtain ⟨ad, had, hx⟩ := Kd.ZB hC (Zm p 3) hK.1 (by omega)
   injection had with had
   subst had
   rw [add_plain] at hx
   have HAT := zA.mk (show rd (zr p 3) (Zm p 3) = zu p 3 from rfl)
   rw [HAT.out] at hx
   have HER := zA.mk (show (zr p 3).eraseIdx (Zm p 3).toNat = zr p 4 from rfl)
   have hX : Zm p 3 = ZE p 3 := by have e : Zm p 3 = ZE p 3 / 1 := rfl; rw [e]; exact Int.ediv_one _
   have HY := zA.mk (show 0 = ZE p 4 by have e : ZE p 4 = ZE p 3 % 1 := rfl; rw [e]; omega)
   rw [hX] at hx hK
   have HX := zA.mk hX
   clear hX hC
   obtain ⟨hk0, hk1⟩ := hK
   obtain ⟨hp0, hp1⟩ := hP
   have b9 : wr.cell? ⟨w.heap.size + 1 + 1 + 1, 3, none⟩ = some (.int .i64 1) := (zK B9.out 3).trans rfl
   have b3 : wr.cell? ⟨w.heap.size + 1, 3, none⟩ = some (.int .i64 (Zp p 3 3)) := (zK B3.out 3).trans rfl
   have f3 := zM B3.out 3
   have hk2 : ZE p 3 < 9223372036854775807 := by omega
   go_wp2_with fail
   have HRw := zA.mk (show Kd.R (Kd.int .i64) 2 (wr.setCell ⟨w.heap.size + 1, 3, none⟩ (.int .i64 (zu p 3))) w.heap.size (fun k => k = w.heap.size + 1 + 1) (.slice (some ⟨w.heap.size + 1 + 1, 0, none⟩) (zr p 3).length 4) (zr p 3) from Kd.zBo (p := ⟨w.heap.size + 1, 3, none⟩) HR.out (fun k hk => by rw [hk]; show w.heap.size + 1 + 1 ≠ w.heap.size + 1; omega) _)
   refine Qg (args' := #[.slice (some ⟨w.heap.size + 1 + 1, 0, none⟩) (zr p 3).length 4, .int .i64 ((ZE p 3).toNat : Int), .int .i64 (((ZE p 3).toNat : Int) + 1)]) (by rw [Int.toNat_of_nonneg hk0]) ?_
   refine (Zl.zDK (w.heap.size + 1 + 1) 4 (ZE p 3).toNat (zr p 3) w.heap.size (fun k => k = w.heap.size + 1 + 1) _ HRw.out (by omega)).mono ?_
   rintro e w1 ⟨rfl, hR1, hg1⟩
   have hl2 := HLN2.out
   have er : (zr p 3).eraseIdx (ZE p 3).toNat = zr p 4 := by rw [← HER.out, HX.out]
   rw [er, ← hl2] at hR1
   rw [← hl2]
   have HR2 := zA.mk hR1
   have B3a : (wr.setCell ⟨w.heap.size + 1, 3, none⟩ (.int .i64 (zu p 3))).heap[w.heap.size + 1]? = some (.cells #[.int .i64 (Zp p 4 0), .int .i64 (Zp p 4 1), .int .i64 (Zp p 4 2), .int .i64 (Zp p 4 3)] 108 (0, 0)) := qa B3.out 3 _ rfl
   have B3n := zA.mk (qo B3a hg1 (by simp))
   have B2n := zA.mk (qo (qV (p := ⟨w.heap.size + 1, 3, none⟩) B2.out (by show w.heap.size ≠ w.heap.size + 1; omega) (.int .i64 (zu p 3))) hg1 (by simp; omega))
   have B9n := zA.mk (qo (qV (p := ⟨w.heap.size + 1, 3, none⟩) B9.out (by show w.heap.size + 1 + 1 + 1 ≠ w.heap.size + 1; omega) (.int .i64 (zu p 3))) hg1 (by simp))
   have HBn := zA.mk (QS (zF (j := 3) (v := .int .i64 (zu p 3)) HB.out (show w.heap.size ≤ w.heap.size + 1 by omega)) (some (w.heap.size + 1 + 1)) (by have := HB.out.size; simp [World.setCell]; omega) hg1 (fun k hk => by injection hk with hk; omega))
   clear hR1 hg1 B3a HRw B3 B2 B9 HB HR er hl2 hx b9 b3 f3
   go_wp2
   go_roundg (4 - 4)
   case measure => omega
   case rel => exact ⟨4, by omega, by omega, by first | rfl | go_num, by rw [← HY.out], rfl, HR2, B3n, B2n, B9n, HBn⟩
  next =>
   have hK : 0 ≤ Zm p 2 ∧ Zm p 2 < (zr p 2).length := by have := HK.out; have := HL.out; omega
   have hP : 0 ≤ ZE p 2 ∧ ZE p 2 ≤ 23 := by have := HP.out; omega
   have HLN := zA.mk (show (zr p 2).length = 2 by have := HL.out; omega)
   have HLN2 := zA.mk (show (zr p 3).length = (zr p 2).length - 1 by have := HL.out; omega)
   obtain ⟨A1, q1, hA1, hq1, hC⟩ := Kd.Jq HR.out
   injection hA1 with hA1 hl1 hc1
   subst hA1
   clear hl1 hc1 hq1
   obtain ⟨ad, had, hx⟩ := Kd.ZB hC (Zm p 2) hK.1 (by omega)
   injection had with had
   subst had
   rw [add_plain] at hx
   have HAT := zA.mk (show rd (zr p 2) (Zm p 2) = zu p 2 from rfl)
   rw [HAT.out] at hx
   have HER := zA.mk (show (zr p 2).eraseIdx (Zm p 2).toNat = zr p 3 from rfl)
   have hX : Zm p 2 = ZE p 2 := by have e : Zm p 2 = ZE p 2 / 1 := rfl; rw [e]; exact Int.ediv_one _
   have HY := zA.mk (show 0 = ZE p 3 by have e : ZE p 3 = ZE p 2 % 1 := rfl; rw [e]; omega)
   rw [hX] at hx hK
   have HX := zA.mk hX
   clear hX hC
   obtain ⟨hk0, hk1⟩ := hK
   obtain ⟨hp0, hp1⟩ := hP
   have b9 : wr.cell? ⟨w.heap.size + 1 + 1 + 1, 2, none⟩ = some (.int .i64 1) := (zK B9.out 2).trans rfl
   have b3 : wr.cell? ⟨w.heap.size + 1, 2, none⟩ = some (.int .i64 (Zp p 2 2)) := (zK B3.out 2).trans rfl
   have f3 := zM B3.out 2
   have hk2 : ZE p 2 < 9223372036854775807 := by omega
   go_wp2_with fail
   have HRw := zA.mk (show Kd.R (Kd.int .i64) 2 (wr.setCell ⟨w.heap.size + 1, 2, none⟩ (.int .i64 (zu p 2))) w.heap.size (fun k => k = w.heap.size + 1 + 1) (.slice (some ⟨w.heap.size + 1 + 1, 0, none⟩) (zr p 2).length 4) (zr p 2) from Kd.zBo (p := ⟨w.heap.size + 1, 2, none⟩) HR.out (fun k hk => by rw [hk]; show w.heap.size + 1 + 1 ≠ w.heap.size + 1; omega) _)
   refine Qg (args' := #[.slice (some ⟨w.heap.size + 1 + 1, 0, none⟩) (zr p 2).length 4, .int .i64 ((ZE p 2).toNat : Int), .int .i64 (((ZE p 2).toNat : Int) + 1)]) (by rw [Int.toNat_of_nonneg hk0]) ?_
   refine (Zl.zDK (w.heap.size + 1 + 1) 4 (ZE p 2).toNat (zr p 2) w.heap.size (fun k => k = w.heap.size + 1 + 1) _ HRw.out (by omega)).mono ?_
   rintro e w1 ⟨rfl, hR1, hg1⟩
   have hl2 := HLN2.out
   have er : (zr p 2).eraseIdx (ZE p 2).toNat = zr p 3 := by rw [← HER.out, HX.out]
   rw [er, ← hl2] at hR1
   rw [← hl2]
   have HR2 := zA.mk hR1
   have B3a : (wr.setCell ⟨w.heap.size + 1, 2, none⟩ (.int .i64 (zu p 2))).heap[w.heap.size + 1]? = some (.cells #[.int .i64 (Zp p 3 0), .int .i64 (Zp p 3 1), .int .i64 (Zp p 3 2), .int .i64 (Zp p 3 3)] 108 (0, 0)) := qa B3.out 2 _ rfl
   have B3n := zA.mk (qo B3a hg1 (by simp))
   have B2n := zA.mk (qo (qV (p := ⟨w.heap.size + 1, 2, none⟩) B2.out (by show w.heap.size ≠ w.heap.size + 1; omega) (.int .i64 (zu p 2))) hg1 (by simp; omega))
   have B9n := zA.mk (qo (qV (p := ⟨w.heap.size + 1, 2, none⟩) B9.out (by show w.heap.size + 1 + 1 + 1 ≠ w.heap.size + 1; omega) (.int .i64 (zu p 2))) hg1 (by simp))
   have HBn := zA.mk (QS (zF (j := 2) (v := .int .i64 (zu p 2)) HB.out (show w.heap.size ≤ w.heap.size + 1 by omega)) (some (w.heap.size + 1 + 1)) (by have := HB.out.size; simp [World.setCell]; omega) hg1 (fun k hk => by injection hk with hk; omega))
   clear hR1 hg1 B3a HRw B3 B2 B9 HB HR er hl2 hx b9 b3 f3
   go_wp2
   go_roundg (4 - 3)
   case measure => omega
   case rel => exact ⟨3, by omega, by omega, by first | rfl | go_num, by rw [← HY.out], rfl, HR2, B3n, B2n, B9n, HBn⟩
  next =>
   have hK : 0 ≤ Zm p 1 ∧ Zm p 1 < (zr p 1).length := by have := HK.out; have := HL.out; omega
   have hP : 0 ≤ ZE p 1 ∧ ZE p 1 ≤ 23 := by have := HP.out; omega
   have HLN := zA.mk (show (zr p 1).length = 3 by have := HL.out; omega)
   have HLN2 := zA.mk (show (zr p 2).length = (zr p 1).length - 1 by have := HL.out; omega)
   obtain ⟨A1, q1, hA1, hq1, hC⟩ := Kd.Jq HR.out
   injection hA1 with hA1 hl1 hc1
   subst hA1
   clear hl1 hc1 hq1
   obtain ⟨ad, had, hx⟩ := Kd.ZB hC (Zm p 1) hK.1 (by omega)
   injection had with had
   subst had
   rw [add_plain] at hx
   have HAT := zA.mk (show rd (zr p 1) (Zm p 1) = zu p 1 from rfl)
   rw [HAT.out] at hx
   have HER := zA.mk (show (zr p 1).eraseIdx (Zm p 1).toNat = zr p 2 from rfl)
   have hX : Zm p 1 = ZE p 1 / 2 := by have e : Zm p 1 = ZE p 1 / 2 := rfl; rw [e]
   have HY := zA.mk (show ZE p 1 % 2 = ZE p 2 by have e : ZE p 2 = ZE p 1 % 2 := rfl; rw [e])
   rw [hX] at hx hK
   have HX := zA.mk hX
   clear hX hC
   obtain ⟨hk0, hk1⟩ := hK
   obtain ⟨hp0, hp1⟩ := hP
   have b9 : wr.cell? ⟨w.heap.size + 1 + 1 + 1, 1, none⟩ = some (.int .i64 2) := (zK B9.out 1).trans rfl
   have b3 : wr.cell? ⟨w.heap.size + 1, 1, none⟩ = some (.int .i64 (Zp p 1 1)) := (zK B3.out 1).trans rfl
   have f3 := zM B3.out 1
   have hk2 : ZE p 1 / 2 < 9223372036854775807 := by omega
   go_wp2_with fail
   have HRw := zA.mk (show Kd.R (Kd.int .i64) 2 (wr.setCell ⟨w.heap.size + 1, 1, none⟩ (.int .i64 (zu p 1))) w.heap.size (fun k => k = w.heap.size + 1 + 1) (.slice (some ⟨w.heap.size + 1 + 1, 0, none⟩) (zr p 1).length 4) (zr p 1) from Kd.zBo (p := ⟨w.heap.size + 1, 1, none⟩) HR.out (fun k hk => by rw [hk]; show w.heap.size + 1 + 1 ≠ w.heap.size + 1; omega) _)
   refine Qg (args' := #[.slice (some ⟨w.heap.size + 1 + 1, 0, none⟩) (zr p 1).length 4, .int .i64 ((ZE p 1 / 2).toNat : Int), .int .i64 (((ZE p 1 / 2).toNat : Int) + 1)]) (by rw [Int.toNat_of_nonneg hk0]) ?_
   refine (Zl.zDK (w.heap.size + 1 + 1) 4 (ZE p 1 / 2).toNat (zr p 1) w.heap.size (fun k => k = w.heap.size + 1 + 1) _ HRw.out (by omega)).mono ?_
   rintro e w1 ⟨rfl, hR1, hg1⟩
   have hl2 := HLN2.out
   have er : (zr p 1).eraseIdx (ZE p 1 / 2).toNat = zr p 2 := by rw [← HER.out, HX.out]
   rw [er, ← hl2] at hR1
   rw [← hl2]
   have HR2 := zA.mk hR1
   have B3a : (wr.setCell ⟨w.heap.size + 1, 1, none⟩ (.int .i64 (zu p 1))).heap[w.heap.size + 1]? = some (.cells #[.int .i64 (Zp p 2 0), .int .i64 (Zp p 2 1), .int .i64 (Zp p 2 2), .int .i64 (Zp p 2 3)] 108 (0, 0)) := qa B3.out 1 _ rfl
   have B3n := zA.mk (qo B3a hg1 (by simp))
   have B2n := zA.mk (qo (qV (p := ⟨w.heap.size + 1, 1, none⟩) B2.out (by show w.heap.size ≠ w.heap.size + 1; omega) (.int .i64 (zu p 1))) hg1 (by simp; omega))
   have B9n := zA.mk (qo (qV (p := ⟨w.heap.size + 1, 1, none⟩) B9.out (by show w.heap.size + 1 + 1 + 1 ≠ w.heap.size + 1; omega) (.int .i64 (zu p 1))) hg1 (by simp))
   have HBn := zA.mk (QS (zF (j := 1) (v := .int .i64 (zu p 1)) HB.out (show w.heap.size ≤ w.heap.size + 1 by omega)) (some (w.heap.size + 1 + 1)) (by have := HB.out.size; simp [World.setCell]; omega) hg1 (fun k hk => by injection hk with hk; omega))
   clear hR1 hg1 B3a HRw B3 B2 B9 HB HR er hl2 hx b9 b3 f3
   go_wp2
   go_roundg (4 - 2)
   case measure => omega
   case rel => exact ⟨2, by omega, by omega, by first | rfl | go_num, by rw [← HY.out], rfl, HR2, B3n, B2n, B9n, HBn⟩
  next =>
   have hK : 0 ≤ Zm p 0 ∧ Zm p 0 < (zr p 0).length := by have := HK.out; have := HL.out; omega
   have hP : 0 ≤ ZE p 0 ∧ ZE p 0 ≤ 23 := by have := HP.out; omega
   have HLN := zA.mk (show (zr p 0).length = 4 by have := HL.out; omega)
   have HLN2 := zA.mk (show (zr p 1).length = (zr p 0).length - 1 by have := HL.out; omega)
   obtain ⟨A1, q1, hA1, hq1, hC⟩ := Kd.Jq HR.out
   injection hA1 with hA1 hl1 hc1
   subst hA1
   clear hl1 hc1 hq1
   obtain ⟨ad, had, hx⟩ := Kd.ZB hC (Zm p 0) hK.1 (by omega)
   injection had with had
   subst had
   rw [add_plain] at hx
   have HAT := zA.mk (show rd (zr p 0) (Zm p 0) = zu p 0 from rfl)
   rw [HAT.out] at hx
   have HER := zA.mk (show (zr p 0).eraseIdx (Zm p 0).toNat = zr p 1 from rfl)
   have hX : Zm p 0 = ZE p 0 / 6 := by have e : Zm p 0 = ZE p 0 / 6 := rfl; rw [e]
   have HY := zA.mk (show ZE p 0 % 6 = ZE p 1 by have e : ZE p 1 = ZE p 0 % 6 := rfl; rw [e])
   rw [hX] at hx hK
   have HX := zA.mk hX
   clear hX hC
   obtain ⟨hk0, hk1⟩ := hK
   obtain ⟨hp0, hp1⟩ := hP
   have b9 : wr.cell? ⟨w.heap.size + 1 + 1 + 1, 0, none⟩ = some (.int .i64 6) := (zK B9.out 0).trans rfl
   have b3 : wr.cell? ⟨w.heap.size + 1, 0, none⟩ = some (.int .i64 (Zp p 0 0)) := (zK B3.out 0).trans rfl
   have f3 := zM B3.out 0
   have hk2 : ZE p 0 / 6 < 9223372036854775807 := by omega
   go_wp2_with fail
   have HRw := zA.mk (show Kd.R (Kd.int .i64) 2 (wr.setCell ⟨w.heap.size + 1, 0, none⟩ (.int .i64 (zu p 0))) w.heap.size (fun k => k = w.heap.size + 1 + 1) (.slice (some ⟨w.heap.size + 1 + 1, 0, none⟩) (zr p 0).length 4) (zr p 0) from Kd.zBo (p := ⟨w.heap.size + 1, 0, none⟩) HR.out (fun k hk => by rw [hk]; show w.heap.size + 1 + 1 ≠ w.heap.size + 1; omega) _)
   refine Qg (args' := #[.slice (some ⟨w.heap.size + 1 + 1, 0, none⟩) (zr p 0).length 4, .int .i64 ((ZE p 0 / 6).toNat : Int), .int .i64 (((ZE p 0 / 6).toNat : Int) + 1)]) (by rw [Int.toNat_of_nonneg hk0]) ?_
   refine (Zl.zDK (w.heap.size + 1 + 1) 4 (ZE p 0 / 6).toNat (zr p 0) w.heap.size (fun k => k = w.heap.size + 1 + 1) _ HRw.out (by omega)).mono ?_
   rintro e w1 ⟨rfl, hR1, hg1⟩
   have hl2 := HLN2.out
   have er : (zr p 0).eraseIdx (ZE p 0 / 6).toNat = zr p 1 := by rw [← HER.out, HX.out]
   rw [er, ← hl2] at hR1
   rw [← hl2]
   have HR2 := zA.mk hR1
   have B3a : (wr.setCell ⟨w.heap.size + 1, 0, none⟩ (.int .i64 (zu p 0))).heap[w.heap.size + 1]? = some (.cells #[.int .i64 (Zp p 1 0), .int .i64 (Zp p 1 1), .int .i64 (Zp p 1 2), .int .i64 (Zp p 1 3)] 108 (0, 0)) := qa B3.out 0 _ rfl
   have B3n := zA.mk (qo B3a hg1 (by simp))
   have B2n := zA.mk (qo (qV (p := ⟨w.heap.size + 1, 0, none⟩) B2.out (by show w.heap.size ≠ w.heap.size + 1; omega) (.int .i64 (zu p 0))) hg1 (by simp; omega))
   have B9n := zA.mk (qo (qV (p := ⟨w.heap.size + 1, 0, none⟩) B9.out (by show w.heap.size + 1 + 1 + 1 ≠ w.heap.size + 1; omega) (.int .i64 (zu p 0))) hg1 (by simp))
   have HBn := zA.mk (QS (zF (j := 0) (v := .int .i64 (zu p 0)) HB.out (show w.heap.size ≤ w.heap.size + 1 by omega)) (some (w.heap.size + 1 + 1)) (by have := HB.out.size; simp [World.setCell]; omega) hg1 (fun k hk => by injection hk with hk; omega))
   clear hR1 hg1 B3a HRw B3 B2 B9 HB HR er hl2 hx b9 b3 f3
   go_wp2
   go_roundg (4 - 1)
   case measure => omega
   case rel => exact ⟨1, by omega, by omega, by first | rfl | go_num, by rw [← HY.out], rfl, HR2, B3n, B2n, B9n, HBn⟩
def qi.f (l0 : List (List (zq))) : Option (Int) := some (l0.length : Int)
set_option maxHeartbeats 8000000 in
set_option maxRecDepth 100000 in
theorem qi.calls (A0 : Option Addr) (c0 : Nat) (l0 : List (List (zq))) (r : Int) (w : World) (hr0 : Kd.C (Kd.slice 74 qv) w A0 l0.length l0) (hc0 : l0.length ≤ c0) (h : qi.f l0 = some r) :
    Calls Try.prog 79 #[.slice A0 l0.length c0] w fun e w' => e = .returned (.int .i64 r) ∧ zb w w' := by
  have HR0 := zA.mk hr0
  have HC0 := zA.mk hc0
  clear hr0 hc0
  have H : (some (l0.length : Int)) = some r := h
  clear h
  obtain rfl := yey H
  go_enter Try.func79, Try.ntmps79
  go_wp2
  go_ret
  exact ⟨by first | rfl | (simp; done) | (simp [*]; done), by repeat (first | exact zb.refl _ | apply zb.step)⟩
def ZL.f (a0_0 : Int) (a0_1 : Int) : Option (Bool) := some (decide (a0_0 < 0))
set_option maxHeartbeats 8000000 in
set_option maxRecDepth 100000 in
theorem ZL.calls (a0_0 : Int) (a0_1 : Int) (r : Bool) (w : World) (h : ZL.f a0_0 a0_1 = some r) :
    Calls Try.prog 75 #[.agg #[.int .i64 a0_0, .int .i64 a0_1]] w fun e w' => e = .returned (.bool r) ∧ Below w.heap.size w w' := by
  have hu74 := Try.underlying74
  have HB := zA.mk (yry w.heap.size w)
  have H : (some (decide (a0_0 < 0))) = some r := h
  clear h
  obtain rfl := yey H
  go_enter Try.func75, Try.ntmps75
  go_wp2_with (first | ((with_reducible refine zh (N := 1) rfl ?_); refine zg ?hg (N := 1) ?hd (cs := #[.int .i64 a0_0, .int .i64 a0_1]) (t := 74) ?hr ?_; (case hd => rfl); (case hg => rfl); (case hr => first | (go_simp; done) | (go_simp; rfl)); intro gb101 hg w2 hbox hb; have n0_ := zA.mk (zN (by repeat (first | (with_reducible first | exact HB.out | apply zC | apply zB | apply zD) | exact HB.out)) hb); have n1_ := zA.mk (hbox); have n2_ := zA.mk ((by rw [hg]; exact (zO (by repeat (first | (with_reducible first | exact HB.out | apply zC | apply zB | apply zD) | exact HB.out))) : w.heap.size ≤ gb101)); have n3_ := zA.mk ((by rw [hg]; exact (zO (by repeat (first | (with_reducible first | exact HB.out | apply zC | apply zB | apply zD) | exact HB.out))) : w.heap.size ≤ gb101)); clear HB; have HB := n0_; have BK101 := n1_; have GW101 := n2_; have GE101 := n3_; clear n0_ n1_ n2_ n3_; clear hb hbox hg; have hcz3_0 : w2.cell? ⟨gb101, 0, none⟩ = some (.int .i64 a0_0) := (zK BK101.out 0).trans rfl; have hcz3_1 : w2.cell? ⟨gb101, 1, none⟩ = some (.int .i64 a0_1) := (zK BK101.out 1).trans rfl; have hfz3_0 := zM BK101.out 0; have hfz3_1 := zM BK101.out 1))
  go_ret
  exact ⟨by first | rfl | (simp [zQ, zR] <;> rfl) | (simp [*, zQ, zR] <;> rfl), by repeat (first | (with_reducible first | exact HB.out | apply zC | apply zB | apply zD | refine zF ?_ GE101.out) | exact HB.out)⟩
theorem goesF_ {P : Program} {ops : Array Oper} {Q : Exit → Act → World → Prop} {oi : Oper} {N : Option Tmp} {a : Act} {w : World} {K : Act → World → Prop} {f : FuncId} {fn : Func} {t : Tmp} {as_ : Array Operand} {ts : Array TypeId} {caps : Array Value} (hf : P.funcs[f]? = some fn) (hname : (fn.name == "runtime.NumGoroutine") = false) (hb : fn.body.isSome = true) (args all : Array Value)
    (hw : Region.wanted oi (yielded ops a.tmps) = true) (hN : oi.dst = N) (hop : oi.op = .call { callee := .value (.tmp t), args := as_, argTypes := ts }) (ht : a.eval (.tmp t) = .func (.func f) #[] caps) (hargs : as_.map a.eval = args) (hall : args ++ caps = all)
    (h : Calls P f all w fun e w' => ∃ v, e = .returned v ∧ K (a.put N v) w') : if Region.wanted oi (yielded ops a.tmps) = true then Oper.wp P oi a w K Q else K (a.put N undef) w := by
  subst hall
  refine call_ f (args ++ caps) hw hN ?_ h
  have he := zBt hf hname hb (args ++ caps) w
  unfold execOp
  simp [hop, resolve, Deferred.ofValue, invoke, ht, hargs, he]
theorem zFF {α : Type} {w : World} {d : Kd α} {e base b : Nat} {ok : Nat → Prop} {v : Value} {xs : List α} (h : d.R e w base ok v xs) (hb : v.ownBlock = some b) : ∃ cap, v = .slice (some ⟨b, 0, none⟩) xs.length cap := by
  obtain ⟨inner, ho⟩ := Kd.zDZ h
  rcases ho.2 with ⟨rfl, _⟩ | ⟨g, cap, cur, rfl, _⟩
  · simp [Value.ownBlock] at hb
  · have : g = b := by simpa [Value.ownBlock] using hb
    subst this
    exact ⟨cap, rfl⟩
def zDj {σ : Type} (step : σ → Nat → Nat → zq → σ) (tet : Nat) : List zq → Nat → σ → σ
  | [], _, s => s
  | x :: xs, f, s => zDj step tet xs (f + 1) (if x.f0 < 0 then s else step s tet f x)
def zC4 {σ : Type} (step : σ → Nat → Nat → zq → σ) : List (List zq) → Nat → σ → σ
  | [], _, s => s
  | r :: rs, tet, s => zC4 step rs (tet + 1) (zDj step tet r 0 s)
def zEV (l : List (List zq)) (j f : Nat) (x : zq) : Prop := ∃ h1 : j < l.length, ∃ h2 : f < l[j].length, l[j][f] = x
set_option maxHeartbeats 8000000 in
set_option maxRecDepth 100000 in
theorem zDk.calls {σ : Type} (F : FuncId) (fn : Func) (hf : Try.prog.funcs[F]? = some fn) (hname : (fn.name == "runtime.NumGoroutine") = false) (hbody : fn.body.isSome = true) (caps : Array Value)
    (l : List (List zq)) (A0 : Option Addr) (c0 : Nat) (w0 w : World) (Inv : σ → World → Prop) (step : σ → Nat → Nat → zq → σ) (st0 : σ)
    (cnt : σ → Nat) (N : Nat) (hcnt : ∀ s j f x, cnt (step s j f x) ≤ cnt s + 4) (hN : cnt st0 + 4 * (l.map List.length).sum ≤ N)
    (hB : ∀ s W W', Inv s W → Below W.heap.size W W' → Inv s W')
    (hK : ∀ s W, Inv s W → Below w0.heap.size w0 W)
    (hT : Kd.C (Kd.slice 74 qv) w0 A0 l.length l)
    (hperm : ∀ r ∈ l, ∀ x ∈ r, ¬ x.f0 < 0 → 0 ≤ x.f1 ∧ x.f1 ≤ 23)
    (hstep : ∀ s W (j f : Nat) (x : zq), Inv s W → zEV l j f x → ¬ x.f0 < 0 → cnt s + 4 ≤ N →
      Calls Try.prog F (#[.int .i64 (j : Int), .int .i64 (f : Int), .agg #[.int .i64 x.f0, .int .i64 x.f1], .agg #[.int .i64 (zu x.f1 0), .int .i64 (zu x.f1 1), .int .i64 (zu x.f1 2), .int .i64 (zu x.f1 3)]] ++ caps) W fun e W' => e = .returned (.tuple #[]) ∧ Inv (step s j f x) W')
    (h0 : Inv st0 w) :
    Calls Try.prog 154 #[.agg #[.slice A0 l.length c0], .func (.func F) #[] caps] w fun e w' => e = .returned (.tuple #[]) ∧ Inv (zC4 step l 0 st0) w' := by
  have HB := zA.mk hB
  have HK := zA.mk hK
  have HT := zA.mk hT
  have HPM := zA.mk hperm
  have HST := zA.mk hstep
  have HCN := zA.mk hcnt
  have HN : zA (cnt st0 + 4 * ((l.drop 0).map List.length).sum ≤ N) := ⟨by rw [List.drop_zero]; exact hN⟩
  clear hcnt hN
  have HS := zA.mk (hB _ _ _ h0 (zC (yry w.heap.size w) (.cells #[.slice A0 l.length c0] 28)))
  have hbig : l.length ≤ 9223372036854775807 := hT.2.1
  clear hB hT hperm hstep h0 hK
  have HA : zA (zC4 step (l.drop 0) 0 st0 = zC4 step l 0 st0) := ⟨by rw [List.drop_zero]⟩
  generalize zC4 step l 0 st0 = R at HA ⊢
  go_enter Try.func154, Try.ntmps154
  go_wp2
  go_loopg [11] l.length (fun gg v11 w' => ∃ (j : Nat) (s : σ), j ≤ l.length ∧ l.length - j ≤ gg ∧ v11 = .int .i64 j ∧ zA (zC4 step (l.drop j) j s = R) ∧ zA (Inv s w') ∧ zA (cnt s + 4 * ((l.drop j).map List.length).sum ≤ N))
  case atStart => exact ⟨0, st0, Nat.zero_le _, by omega, rfl, HA, HS, HN⟩
  case round =>
    clear HS HA HN
    obtain ⟨j, st, hj, hg, rfl, HA, HS, HN⟩ := hrel
    by_cases hlt : j < l.length
    · have hltz : (j : Int) < (l.length : Int) := by omega
      obtain ⟨ad1, A1, c1, e1, hy1, hl1, hC1⟩ := ZI HT.out (j : Int) (by omega) hltz
      subst e1
      have ex : zE l (j : Int) = l[j] := by simp [zE, hlt]
      rw [ex] at hy1 hl1 hC1
      rw [yny] at hy1
      replace hy1 := ((HK.out _ _ HS.out).cell (ypy w0 _ hy1)).trans hy1
      have HA2 := HA.out
      rw [yoy hlt, zC4] at HA2
      have HI : zA (zC4 step (l.drop (j + 1)) (j + 1) (zDj step j (l[j].drop 0) 0 st) = R) := ⟨by rw [List.drop_zero]; exact HA2⟩
      have HN1 : zA (cnt st + 4 * (l[j].length - 0 + ((l.drop (j + 1)).map List.length).sum) ≤ N) := ⟨by have h := HN.out; rw [yoy hlt, yjy, List.sum_cons] at h; omega⟩
      clear HN
      have HP1 := zA.mk (HPM.out l[j] (List.getElem_mem hlt))
      have HX := zA.mk (show ∀ (f : Nat) (x : zq) (h2 : f < l[j].length), l[j][f] = x → zEV l j f x from fun f x h2 h => ⟨hlt, h2, h⟩)
      have hbig1 : l[j].length ≤ 9223372036854775807 := hC1.2.1
      have HC1 := zA.mk hC1
      clear HA HA2 hl1 hC1 ex
      generalize l[j] = row at *
      go_wp2
      go_loopg [18] row.length (fun gg v18 w' => ∃ (f : Nat) (s : σ), f ≤ row.length ∧ row.length - f ≤ gg ∧ v18 = .int .i64 f ∧ zA (zC4 step (l.drop (j + 1)) (j + 1) (zDj step j (row.drop f) f s) = R) ∧ zA (Inv s w') ∧ zA (cnt s + 4 * (row.length - f + ((l.drop (j + 1)).map List.length).sum) ≤ N))
      case atStart => exact ⟨0, st, Nat.zero_le _, by omega, rfl, HI, HS, HN1⟩
      case round =>
        clear HI HS hy1 HN1
        obtain ⟨f, st, hf9, hgf, rfl, HI, HS, HN1⟩ := hrel
        by_cases hlf : f < row.length
        · have hlfz : (f : Int) < (row.length : Int) := by omega
          obtain ⟨ad2, e2, hy2, hy3⟩ := Zj HC1.out (f : Int) (by omega) hlfz
          subst e2
          replace hy2 := ((HK.out _ _ HS.out).cell (ypy w0 _ hy2)).trans hy2
          replace hy3 := ((HK.out _ _ HS.out).cell (ypy w0 _ hy3)).trans hy3
          have HF := zA.mk (HX.out f row[f] hlf rfl)
          have HY := zA.mk (HP1.out row[f] (List.getElem_mem hlf))
          have HI2 := HI.out
          rw [yoy hlf, zDj] at HI2
          have HI3 := zA.mk HI2
          clear HI HI2
          have ex : zG row (f : Int) = row[f] := by simp [zG, hlf]
          rw [ex, yny] at hy2 hy3
          generalize row[f] = y at hy2 hy3 HY HI3 HF
          obtain ⟨f0, f1⟩ := y
          clear ex
          have BF := zA.mk (QO (W := wr) rfl (.cells #[.int .i64 f0, .int .i64 f1] 74))
          have HS1 := zA.mk (HB.out _ _ _ HS.out (zC (yry _ _) (.cells #[.int .i64 f0, .int .i64 f1] 74)))
          clear HS
          by_cases hb : f0 < 0
          · rw [if_pos hb] at HI3
            have d0 : decide (f0 < 0) = true := ygy hb
            go_wp2_with (first | (go_at_call 75; (with_reducible refine (ZL.calls f0 f1 true _ (by unfold ZL.f; rw [d0])).mono ?_); rintro e w2 ⟨rfl, hnd⟩; have HS2 := zA.mk (HB.out _ _ _ HS1.out hnd); clear HS1 BF hnd))
            go_roundg (row.length - (f + 1))
            case measure => omega
            case rel => exact ⟨f + 1, st, by omega, by omega, by go_num, HI3, HS2, ⟨by have := HN1.out; omega⟩⟩
          · rw [if_neg hb] at HI3
            have d0 : decide (f0 < 0) = false := yhy hb
            have HP := zA.mk (show 0 ≤ f1 ∧ f1 ≤ 23 from HY.out (by first | exact hb | (show (0 : Int) ≤ f0; omega)))
            have hb9 := zA.mk hb
            clear HY
            go_wp2_with (first | (go_at_call 75; (with_reducible refine (ZL.calls f0 f1 false _ (by unfold ZL.f; rw [d0])).mono ?_); rintro e w2 ⟨rfl, hnd⟩; have HS2 := zA.mk (HB.out _ _ _ HS1.out hnd); have BF2 := zA.mk (zP BF.out hnd); clear HS1 BF hnd; have BF := BF2; clear BF2))
            refine QK (n := 8) (S := fun w' => w'.cell? ⟨wr.heap.size, 0, none⟩ = some (.int .i64 f0) ∧ w'.cell? ⟨wr.heap.size, 1, none⟩ = some (.int .i64 f1)) (ds := [7]) #[false, false, false, false, false, false, false, false] (by kernel_rfl) rfl rfl ⟨(zK BF.out 0).trans rfl, (zK BF.out 1).trans rfl⟩ (fun hHeld => ?_)
            have HS3 := zA.mk (HB.out _ _ _ HS2.out (zD (yry _ _)))
            have BF3 := zA.mk (zJ BF.out)
            clear HS2 BF
            have HS2 := HS3
            have BF := BF3
            clear HS3 BF3
            generalize w2.drew = w22 at HS2 BF hHeld ⊢
            refine zt (i := 0) (N := some 26) (v := ?_) (a' := ?_) #[true, false, false, false, false, false, false, false] rfl rfl (by kernel_rfl) (fun _ _ _ h => h) (Or.inl ⟨by rfl, ?_⟩) ?_ ?_
            rotate_left
            · intro w'
              go_simp
              with_reducible rfl
            rotate_left
            · simp only [Act.put, yay, yby, ycy, zY, za]
              rfl
            refine zt (i := 1) (N := some 27) (v := ?_) (a' := ?_) #[true, true, false, false, false, false, false, false] rfl rfl (by kernel_rfl) (fun _ _ _ h => h) (Or.inl ⟨by rfl, ?_⟩) ?_ ?_
            rotate_left
            · intro w'
              go_simp
              with_reducible rfl
            rotate_left
            · simp only [Act.put, yay, yby, ycy, zY, za]
              rfl
            refine zt (i := 2) (N := some 28) (v := ?_) (a' := ?_) #[true, true, true, false, false, false, false, false] rfl rfl (by kernel_rfl) (fun _ _ _ h => h) (Or.inl ⟨by rfl, ?_⟩) ?_ ?_
            rotate_left
            · intro w'
              go_simp
              with_reducible rfl
            rotate_left
            · simp only [Act.put, yay, yby, ycy, zY, za]
              rfl
            refine ZW (i := 3) (N := some 29) (v := ?_) (a' := ?_) #[true, true, true, true, false, false, false, false] rfl rfl (by kernel_rfl) (fun _ _ _ h => h) (Or.inl ⟨by rfl, ?_⟩) hHeld ?_ ?_
            rotate_left
            · rintro w' ⟨s0, s1⟩
              go_simp
              with_reducible rfl
            rotate_left
            · simp only [Act.put, yay, yby, ycy, zY, za]
              rfl
            refine zt (i := 4) (N := some 30) (v := ?_) (a' := ?_) #[true, true, true, true, true, false, false, false] rfl rfl (by kernel_rfl) (fun _ _ _ h => h) (Or.inl ⟨by rfl, ?_⟩) ?_ ?_
            rotate_left
            · intro w'
              go_simp
              with_reducible rfl
            rotate_left
            · simp only [Act.put, yay, yby, ycy, zY, za]
              rfl
            refine ZW (i := 5) (N := some 31) (v := ?_) (a' := ?_) #[true, true, true, true, true, true, false, false] rfl rfl (by kernel_rfl) (fun _ _ _ h => h) (Or.inl ⟨by rfl, ?_⟩) hHeld ?_ ?_
            rotate_left
            · rintro w' ⟨s0, s1⟩
              go_simp
              with_reducible rfl
            rotate_left
            · simp only [Act.put, yay, yby, ycy, zY, za]
              rfl
            refine zAd (i := 6) (N := some 32) #[true, true, true, true, true, true, true, false] rfl rfl (by kernel_rfl) (by decide) (fun K hK => ?_)
            refine JV Try.func127 (by kernel_rfl) rfl #[.int .i64 f1] (by rfl) rfl rfl (by (try simp only [yiy, yjy, yky]); first | done | rfl) ?_
            refine (zAr.calls f1 _ HP.out.1 HP.out.2).mono ?_
            rintro e w3 ⟨rfl, hb3⟩
            refine ⟨_, rfl, ?_⟩
            have HS3 := zA.mk (HB.out _ _ _ HS2.out hb3)
            have BF3 := zA.mk (zP BF.out hb3)
            clear HS2 BF hb3
            have BF := BF3
            have HS2 := HS3
            clear BF3 HS3
            refine hK.out _ _ ⟨(zK BF.out 0).trans rfl, (zK BF.out 1).trans rfl⟩ (fun hHeld => ?_)
            clear hK K
            refine Qb (a' := ?_) ?_ ?_
            rotate_left
            · show Act.put _ (some 32) _ = _
              simp only [Act.put, yay, yby, ycy, zY, za]
              rfl
            refine zFj (i := 7) (N := some 33) #[true, true, true, true, true, true, true, true] rfl rfl (by kernel_rfl) (by decide) (fun K hK => ?_)
            refine goesF_ (f := F) (fn := fn) hf hname hbody #[.int .i64 (j : Int), .int .i64 (f : Int), .agg #[.int .i64 f0, .int .i64 f1], .agg #[.int .i64 (zu f1 0), .int .i64 (zu f1 1), .int .i64 (zu f1 2), .int .i64 (zu f1 3)]] (#[.int .i64 (j : Int), .int .i64 (f : Int), .agg #[.int .i64 f0, .int .i64 f1], .agg #[.int .i64 (zu f1 0), .int .i64 (zu f1 1), .int .i64 (zu f1 2), .int .i64 (zu f1 3)]] ++ caps) (by rfl) rfl rfl rfl (by (try simp only [yiy, yjy, yky]); first | done | rfl) rfl ?_
            refine (HST.out st _ j f ⟨f0, f1⟩ HS2.out HF.out hb9.out (by have := HN1.out; omega)).mono ?_
            rintro e w4 ⟨rfl, hS4⟩
            refine ⟨_, rfl, ?_⟩
            have HS4 := zA.mk hS4
            clear hS4 HS2
            refine hK.out _ _ ?_
            clear hK K
            refine Qb (a' := ?_) ?_ ?_
            rotate_left
            · show Act.put _ (some 33) _ = _
              simp only [Act.put, yay, yby, ycy, zY, za]
              rfl
            refine JU (by kernel_rfl) ?_
            go_wp2
            go_roundg (row.length - (f + 1))
            case measure => omega
            case rel => exact ⟨f + 1, _, by omega, by omega, by go_num, HI3, HS4, ⟨by have := HN1.out; have := HCN.out st j f ⟨f0, f1⟩; omega⟩⟩
        · obtain rfl : f = row.length := by omega
          have HI2 := HI.out
          rw [List.drop_length, zDj] at HI2
          have HA := zA.mk HI2
          clear HI HI2
          go_wp2
          go_roundg (l.length - (j + 1))
          case measure => omega
          case rel => exact ⟨j + 1, st, by omega, by omega, by go_num, HA, HS, ⟨by have := HN1.out; omega⟩⟩
    · obtain rfl : j = l.length := by omega
      have HA2 := HA.out
      rw [List.drop_length, zC4] at HA2
      subst HA2
      go_wp2
      first | go_end0 | ((try simp only [Exit.inBlock, Exit.then]); refine bodyPost_ret (results_none rfl _ _ _) rfl ?_)
      refine ⟨?_, HS.out⟩
      first | rfl | (simp <;> rfl)
def ZJ (l : List Int) (i : Nat) : Nat → Int
  | 0 => rd l i
  | j + 1 => if rd l j < rd l i then ZJ l i j - 1 else ZJ l i j
def JX (l : List Int) : Nat → Int
  | 0 => 0
  | i + 1 => JX l i + ZJ l i i * zEU i
def idxL (l : List Int) : Int := JX l 4
def sm (x : Int) : Prop := 0 ≤ x ∧ x ≤ 3
theorem Je (l : List Int) (i : Nat) (h : sm (rd l i)) : ∀ j : Nat, -(j : Int) ≤ ZJ l i j ∧ ZJ l i j ≤ 3
  | 0 => by have := h.1; have := h.2; unfold ZJ; omega
  | j + 1 => by
    have := Je l i h j
    unfold ZJ
    split <;> omega
set_option maxHeartbeats 8000000 in
set_option maxRecDepth 100000 in
theorem zCY.calls (a b c d : Int) (w : World) (ha : sm a) (hb : sm b) (hc : sm c) (hd : sm d) :
    Calls Try.prog 157 #[.agg #[.int .i64 a, .int .i64 b, .int .i64 c, .int .i64 d]] w fun e w' => e = .returned (.int .i64 (idxL [a, b, c, d])) ∧ Below w.heap.size w w' := by
  have hl0 : sm (rd [a, b, c, d] (0 : Nat)) := ha
  have hl1 : sm (rd [a, b, c, d] (1 : Nat)) := hb
  have hl2 : sm (rd [a, b, c, d] (2 : Nat)) := hc
  have hl3 : sm (rd [a, b, c, d] (3 : Nat)) := hd
  have HL := zA.mk (And.intro (Je _ 0 hl0) (And.intro (Je _ 1 hl1) (And.intro (Je _ 2 hl2) (Je _ 3 hl3))))
  have HS := zA.mk (And.intro hl0 (And.intro hl1 (And.intro hl2 hl3)))
  clear ha hb hc hd hl0 hl1 hl2 hl3
  generalize hl : [a, b, c, d] = l at HL HS ⊢
  have HLL := zA.mk hl
  clear hl
  go_enter Try.func157, Try.ntmps157
  go_wp2_with fail
  go_loopg [3, 11] 4 (fun gg v3 v11 w' => ∃ i : Nat, i ≤ 4 ∧ 4 - i ≤ gg ∧ v11 = .int .i64 i ∧ v3 = .int .i64 (JX l i) ∧ zA (-24 * (i : Int) ≤ JX l i ∧ JX l i ≤ 24 * i) ∧
    zA (w'.heap[w.heap.size]? = some (.cells #[.int .i64 a, .int .i64 b, .int .i64 c, .int .i64 d] 108 (0, 0))) ∧
    zA (w'.heap[w.heap.size + 1]? = some (.cells #[.int .i64 6, .int .i64 2, .int .i64 1, .int .i64 1] 2 (0, 0))) ∧ zA (Below w.heap.size w w'))
  case atStart =>
    refine ⟨0, by omega, by omega, rfl, rfl, ⟨by simp [JX]⟩, ⟨?_⟩, ⟨?_⟩, ⟨?_⟩⟩
    · exact zH (QO rfl _) _
    · exact QO (by simp) _
    · exact zC (zC (yry _ _) _) _
  case round =>
    obtain ⟨i, hi, hg, rfl, rfl, HI, B1, B9, HB⟩ := hrel
    rcases (show i = 4 ∨ i = 3 ∨ i = 2 ∨ i = 1 ∨ i = 0 by omega) with rfl | rfl | rfl | rfl | rfl
    · go_wp2
      go_ret
      exact ⟨rfl, HB.out⟩
    · have b9 : wr.cell? ⟨w.heap.size + 1, 3, none⟩ = some (.int .i64 1) := (zK B9.out 3).trans rfl
      have b1 : wr.cell? ⟨w.heap.size, 3, none⟩ = some (.int .i64 (rd l (3 : Nat))) := (zK B1.out 3).trans (by rw [← HLL.out]; rfl)
      have hx : sm (rd l (3 : Nat)) := by have := HS.out; exact this.2.2.2
      have HD := zA.mk (show ∀ j : Nat, ZJ l 3 (j + 1) = if rd l (j : Nat) < rd l (3 : Nat) then ZJ l 3 j - 1 else ZJ l 3 j from fun _ => rfl)
      have HD0 := zA.mk (show rd l (3 : Nat) = ZJ l 3 0 from rfl)
      generalize rd l (3 : Nat) = xi at b1 HD HD0 hx
      go_wp2_with fail
      go_loopg [6, 22] 3 (fun gg v6 v22 w' => ∃ j : Nat, j ≤ 3 ∧ 3 - j ≤ gg ∧ v22 = .int .i64 j ∧ v6 = .int .i64 (ZJ l 3 j) ∧ w' = wr)
      case atStart => exact ⟨0, by omega, by omega, rfl, by rw [HD0.out], rfl⟩
      case round =>
        obtain ⟨j, hj, hg2, rfl, rfl, rfl⟩ := hrel
        by_cases hlt : j < 3
        · have hltz : (j : Int) < 3 := by omega
          have bj : wr.cell? ⟨w.heap.size, j, none⟩ = some (.int .i64 (rd l (j : Nat))) := by
            have := Qh B1.out (j : Int) (by omega) (by omega)
            rw [HLL.out, yny] at this
            exact this
          have hbd := (HL.out.2.2.2 j)
          obtain ⟨hbd1, hbd2⟩ := hbd
          have HN := zA.mk (HD.out j)
          generalize ZJ l 3 j = lv at HN hbd1 hbd2 ⊢
          generalize rd l (j : Nat) = xj at bj HN
          by_cases hless : xj < xi
          · have hd1 : decide (xj < xi) = true := ygy hless
            go_wp2
            go_roundg (3 - (j + 1))
            case measure => omega
            case rel => exact ⟨j + 1, by omega, by omega, by go_num, by rw [HN.out, if_pos hless], rfl⟩
          · have hd1 : decide (xj < xi) = false := yhy hless
            go_wp2
            go_roundg (3 - (j + 1))
            case measure => omega
            case rel => exact ⟨j + 1, by omega, by omega, by go_num, by rw [HN.out, if_neg (by omega)], rfl⟩
        · have hltz : ¬ (j : Int) < 3 := by omega
          obtain rfl : j = 3 := by omega
          have hbd := (HL.out.2.2.2 3)
          obtain ⟨hbd1, hbd2⟩ := hbd
          obtain ⟨hi1, hi2⟩ := HI.out
          have HN := zA.mk (show JX l 4 = JX l 3 + ZJ l 3 3 * 1 from rfl)
          generalize ZJ l 3 3 = lv at HN hbd1 hbd2 ⊢
          generalize JX l 3 = iv at HN hi1 hi2 ⊢
          go_wp2
          go_roundg (4 - 4)
          case measure => omega
          case rel => exact ⟨4, by omega, by omega, by first | rfl | go_num, by rw [HN.out]; rw [Int.mul_one], ⟨by rw [HN.out]; omega⟩, B1, B9, HB⟩
    · have b9 : wr.cell? ⟨w.heap.size + 1, 2, none⟩ = some (.int .i64 1) := (zK B9.out 2).trans rfl
      have b1 : wr.cell? ⟨w.heap.size, 2, none⟩ = some (.int .i64 (rd l (2 : Nat))) := (zK B1.out 2).trans (by rw [← HLL.out]; rfl)
      have hx : sm (rd l (2 : Nat)) := by have := HS.out; exact this.2.2.1
      have HD := zA.mk (show ∀ j : Nat, ZJ l 2 (j + 1) = if rd l (j : Nat) < rd l (2 : Nat) then ZJ l 2 j - 1 else ZJ l 2 j from fun _ => rfl)
      have HD0 := zA.mk (show rd l (2 : Nat) = ZJ l 2 0 from rfl)
      generalize rd l (2 : Nat) = xi at b1 HD HD0 hx
      go_wp2_with fail
      go_loopg [6, 22] 2 (fun gg v6 v22 w' => ∃ j : Nat, j ≤ 2 ∧ 2 - j ≤ gg ∧ v22 = .int .i64 j ∧ v6 = .int .i64 (ZJ l 2 j) ∧ w' = wr)
      case atStart => exact ⟨0, by omega, by omega, rfl, by rw [HD0.out], rfl⟩
      case round =>
        obtain ⟨j, hj, hg2, rfl, rfl, rfl⟩ := hrel
        by_cases hlt : j < 2
        · have hltz : (j : Int) < 2 := by omega
          have bj : wr.cell? ⟨w.heap.size, j, none⟩ = some (.int .i64 (rd l (j : Nat))) := by
            have := Qh B1.out (j : Int) (by omega) (by omega)
            rw [HLL.out, yny] at this
            exact this
          have hbd := (HL.out.2.2.1 j)
          obtain ⟨hbd1, hbd2⟩ := hbd
          have HN := zA.mk (HD.out j)
          generalize ZJ l 2 j = lv at HN hbd1 hbd2 ⊢
          generalize rd l (j : Nat) = xj at bj HN
          by_cases hless : xj < xi
          · have hd1 : decide (xj < xi) = true := ygy hless
            go_wp2
            go_roundg (2 - (j + 1))
            case measure => omega
            case rel => exact ⟨j + 1, by omega, by omega, by go_num, by rw [HN.out, if_pos hless], rfl⟩
          · have hd1 : decide (xj < xi) = false := yhy hless
            go_wp2
            go_roundg (2 - (j + 1))
            case measure => omega
            case rel => exact ⟨j + 1, by omega, by omega, by go_num, by rw [HN.out, if_neg (by omega)], rfl⟩
        · have hltz : ¬ (j : Int) < 2 := by omega
          obtain rfl : j = 2 := by omega
          have hbd := (HL.out.2.2.1 2)
          obtain ⟨hbd1, hbd2⟩ := hbd
          obtain ⟨hi1, hi2⟩ := HI.out
          have HN := zA.mk (show JX l 3 = JX l 2 + ZJ l 2 2 * 1 from rfl)
          generalize ZJ l 2 2 = lv at HN hbd1 hbd2 ⊢
          generalize JX l 2 = iv at HN hi1 hi2 ⊢
          go_wp2
          go_roundg (4 - 3)
          case measure => omega
          case rel => exact ⟨3, by omega, by omega, by first | rfl | go_num, by rw [HN.out]; rw [Int.mul_one], ⟨by rw [HN.out]; omega⟩, B1, B9, HB⟩
    · have b9 : wr.cell? ⟨w.heap.size + 1, 1, none⟩ = some (.int .i64 2) := (zK B9.out 1).trans rfl
      have b1 : wr.cell? ⟨w.heap.size, 1, none⟩ = some (.int .i64 (rd l (1 : Nat))) := (zK B1.out 1).trans (by rw [← HLL.out]; rfl)
      have hx : sm (rd l (1 : Nat)) := by have := HS.out; exact this.2.1
      have HD := zA.mk (show ∀ j : Nat, ZJ l 1 (j + 1) = if rd l (j : Nat) < rd l (1 : Nat) then ZJ l 1 j - 1 else ZJ l 1 j from fun _ => rfl)
      have HD0 := zA.mk (show rd l (1 : Nat) = ZJ l 1 0 from rfl)
      generalize rd l (1 : Nat) = xi at b1 HD HD0 hx
      go_wp2_with fail
      go_loopg [6, 22] 1 (fun gg v6 v22 w' => ∃ j : Nat, j ≤ 1 ∧ 1 - j ≤ gg ∧ v22 = .int .i64 j ∧ v6 = .int .i64 (ZJ l 1 j) ∧ w' = wr)
      case atStart => exact ⟨0, by omega, by omega, rfl, by rw [HD0.out], rfl⟩
      case round =>
        obtain ⟨j, hj, hg2, rfl, rfl, rfl⟩ := hrel
        by_cases hlt : j < 1
        · have hltz : (j : Int) < 1 := by omega
          have bj : wr.cell? ⟨w.heap.size, j, none⟩ = some (.int .i64 (rd l (j : Nat))) := by
            have := Qh B1.out (j : Int) (by omega) (by omega)
            rw [HLL.out, yny] at this
            exact this
          have hbd := (HL.out.2.1 j)
          obtain ⟨hbd1, hbd2⟩ := hbd
          have HN := zA.mk (HD.out j)
          generalize ZJ l 1 j = lv at HN hbd1 hbd2 ⊢
          generalize rd l (j : Nat) = xj at bj HN
          by_cases hless : xj < xi
          · have hd1 : decide (xj < xi) = true := ygy hless
            go_wp2
            go_roundg (1 - (j + 1))
            case measure => omega
            case rel => exact ⟨j + 1, by omega, by omega, by go_num, by rw [HN.out, if_pos hless], rfl⟩
          · have hd1 : decide (xj < xi) = false := yhy hless
            go_wp2
            go_roundg (1 - (j + 1))
            case measure => omega
            case rel => exact ⟨j + 1, by omega, by omega, by go_num, by rw [HN.out, if_neg (by omega)], rfl⟩
        · have hltz : ¬ (j : Int) < 1 := by omega
          obtain rfl : j = 1 := by omega
          have hbd := (HL.out.2.1 1)
          obtain ⟨hbd1, hbd2⟩ := hbd
          obtain ⟨hi1, hi2⟩ := HI.out
          have HN := zA.mk (show JX l 2 = JX l 1 + ZJ l 1 1 * 2 from rfl)
          generalize ZJ l 1 1 = lv at HN hbd1 hbd2 ⊢
          generalize JX l 1 = iv at HN hi1 hi2 ⊢
          go_wp2
          go_roundg (4 - 2)
          case measure => omega
          case rel => exact ⟨2, by omega, by omega, by first | rfl | go_num, by rw [HN.out], ⟨by rw [HN.out]; omega⟩, B1, B9, HB⟩
    · have b9 : wr.cell? ⟨w.heap.size + 1, 0, none⟩ = some (.int .i64 6) := (zK B9.out 0).trans rfl
      have b1 : wr.cell? ⟨w.heap.size, 0, none⟩ = some (.int .i64 (rd l (0 : Nat))) := (zK B1.out 0).trans (by rw [← HLL.out]; rfl)
      have hx : sm (rd l (0 : Nat)) := by have := HS.out; exact this.1
      have HD := zA.mk (show ∀ j : Nat, ZJ l 0 (j + 1) = if rd l (j : Nat) < rd l (0 : Nat) then ZJ l 0 j - 1 else ZJ l 0 j from fun _ => rfl)
      have HD0 := zA.mk (show rd l (0 : Nat) = ZJ l 0 0 from rfl)
      generalize rd l (0 : Nat) = xi at b1 HD HD0 hx
      go_wp2_with fail
      go_loopg [6, 22] 0 (fun gg v6 v22 w' => ∃ j : Nat, j ≤ 0 ∧ 0 - j ≤ gg ∧ v22 = .int .i64 j ∧ v6 = .int .i64 (ZJ l 0 j) ∧ w' = wr)
      case atStart => exact ⟨0, by omega, by omega, rfl, by rw [HD0.out], rfl⟩
      case round =>
        obtain ⟨j, hj, hg2, rfl, rfl, rfl⟩ := hrel
        by_cases hlt : j < 0
        · have hltz : (j : Int) < 0 := by omega
          have bj : wr.cell? ⟨w.heap.size, j, none⟩ = some (.int .i64 (rd l (j : Nat))) := by
            have := Qh B1.out (j : Int) (by omega) (by omega)
            rw [HLL.out, yny] at this
            exact this
          have hbd := (HL.out.1 j)
          obtain ⟨hbd1, hbd2⟩ := hbd
          have HN := zA.mk (HD.out j)
          generalize ZJ l 0 j = lv at HN hbd1 hbd2 ⊢
          generalize rd l (j : Nat) = xj at bj HN
          by_cases hless : xj < xi
          · have hd1 : decide (xj < xi) = true := ygy hless
            go_wp2
            go_roundg (0 - (j + 1))
            case measure => omega
            case rel => exact ⟨j + 1, by omega, by omega, by go_num, by rw [HN.out, if_pos hless], rfl⟩
          · have hd1 : decide (xj < xi) = false := yhy hless
            go_wp2
            go_roundg (0 - (j + 1))
            case measure => omega
            case rel => exact ⟨j + 1, by omega, by omega, by go_num, by rw [HN.out, if_neg (by omega)], rfl⟩
        · have hltz : ¬ (j : Int) < 0 := by omega
          obtain rfl : j = 0 := by omega
          have hbd := (HL.out.1 0)
          obtain ⟨hbd1, hbd2⟩ := hbd
          obtain ⟨hi1, hi2⟩ := HI.out
          have HN := zA.mk (show JX l 1 = JX l 0 + ZJ l 0 0 * 6 from rfl)
          generalize ZJ l 0 0 = lv at HN hbd1 hbd2 ⊢
          generalize JX l 0 = iv at HN hi1 hi2 ⊢
          go_wp2
          go_roundg (4 - 1)
          case measure => omega
          case rel => exact ⟨1, by omega, by omega, by first | rfl | go_num, by rw [HN.out], ⟨by rw [HN.out]; omega⟩, B1, B9, HB⟩
def JA.f (a0 : Int) (a1 : Int) : Option (Int) := if a0 > a1 then (some (wrap64 ((wrap64 ((wrap64 ((wrap64 (Int.tdiv (wrap64 (a1 * (wrap64 (7 - a1)))) 2)) + a0)) - a1)) - 1))) else (some (wrap64 ((wrap64 ((wrap64 ((wrap64 (Int.tdiv (wrap64 (a0 * (wrap64 (7 - a0)))) 2)) + a1)) - a0)) - 1)))
set_option maxHeartbeats 8000000 in
set_option maxRecDepth 100000 in
theorem JA.calls (a0 : Int) (a1 : Int) (r : Int) (w : World) (h : JA.f a0 a1 = some r) :
    Calls Try.prog 193 #[.int .i64 a0, .int .i64 a1] w fun e w' => e = .returned (.int .i64 r) ∧ zb w w' := by
  have H : (if a0 > a1 then (some (wrap64 ((wrap64 ((wrap64 ((wrap64 (Int.tdiv (wrap64 (a1 * (wrap64 (7 - a1)))) 2)) + a0)) - a1)) - 1))) else (some (wrap64 ((wrap64 ((wrap64 ((wrap64 (Int.tdiv (wrap64 (a0 * (wrap64 (7 - a0)))) 2)) + a1)) - a0)) - 1)))) = some r := h
  clear h
  by_cases c3 : a0 > a1
  · rw [if_pos c3] at H
    have c3b0 : decide (a1 < a0) = true := ygy c3
    clear c3
    obtain rfl := yey H
    go_enter Try.func193, Try.ntmps193
    go_wp2
    go_ret
    exact ⟨by first | rfl | (simp; done) | (simp [*]; done), by repeat (first | exact zb.refl _ | apply zb.step)⟩
  · rw [if_neg c3] at H
    have c3b0 : decide (a1 < a0) = false := yhy c3
    clear c3
    obtain rfl := yey H
    go_enter Try.func193, Try.ntmps193
    go_wp2
    go_ret
    exact ⟨by first | rfl | (simp; done) | (simp [*]; done), by repeat (first | exact zb.refl _ | apply zb.step)⟩
def Zx.f (a0 : Int) : Option (Int) := some (wrap64 (5 - a0))
set_option maxHeartbeats 8000000 in
set_option maxRecDepth 100000 in
theorem Zx.calls (a0 : Int) (r : Int) (w : World) (h : Zx.f a0 = some r) :
    Calls Try.prog 194 #[.int .i64 a0] w fun e w' => e = .returned (.int .i64 r) ∧ zb w w' := by
  have H : (some (wrap64 (5 - a0))) = some r := h
  clear h
  obtain rfl := yey H
  go_enter Try.func194, Try.ntmps194
  go_wp2
  go_ret
  exact ⟨by first | rfl | (simp; done) | (simp [*]; done), by repeat (first | exact zb.refl _ | apply zb.step)⟩
def Jf.f (a0 : Int) (a1 : Int) : Option (Int) := (JA.f a0 a1).bind fun t101 => (if t101 < 3 then (some t101) else ((Zx.f t101).bind fun t102 => (some t102)))
set_option maxHeartbeats 8000000 in
set_option maxRecDepth 100000 in
theorem Jf.calls (a0 : Int) (a1 : Int) (r : Int) (w : World) (h : Jf.f a0 a1 = some r) :
    Calls Try.prog 192 #[.int .i64 a0, .int .i64 a1] w fun e w' => e = .returned (.int .i64 r) ∧ zb w w' := by
  have H : ((JA.f a0 a1).bind fun t101 => (if t101 < 3 then (some t101) else ((Zx.f t101).bind fun t102 => (some t102)))) = some r := h
  clear h
  replace H := ydy.mp H
  obtain ⟨t101, A30, H⟩ := H
  replace H : (if t101 < 3 then (some t101) else ((Zx.f t101).bind fun t102 => (some t102))) = some r := H
  have A3 := zA.mk A30
  clear A30
  by_cases c4 : t101 < 3
  · rw [if_pos c4] at H
    have c4b0 : decide (t101 < 3) = true := ygy c4
    clear c4
    obtain rfl := yey H
    go_enter Try.func192, Try.ntmps192
    go_wp2_with (first | ((with_reducible refine zT (f := 193) rfl ?_); refine qC (some 8) rfl rfl Try.func193 (by kernel_rfl) rfl #[.int .i64 a0, .int .i64 a1] rfl (by (try simp only [yiy, yjy, yky]); first | done | rfl | (simp only [yly, ymy]; rfl)) ?_; (with_reducible refine (JA.calls a0 a1 t101 _ A3.out).mono ?_); rintro e w' ⟨rfl, ⟨nd, rfl⟩⟩; refine ⟨_, rfl, ?_⟩))
    go_ret
    exact ⟨by first | rfl | (simp; done) | (simp [*]; done), by repeat (first | exact zb.refl _ | apply zb.step)⟩
  · rw [if_neg c4] at H
    have c4b0 : decide (t101 < 3) = false := yhy c4
    clear c4
    replace H := ydy.mp H
    obtain ⟨t102, A50, H⟩ := H
    replace H : (some t102) = some r := H
    have A5 := zA.mk A50
    clear A50
    obtain rfl := yey H
    go_enter Try.func192, Try.ntmps192
    go_wp2_with (first | ((with_reducible refine zT (f := 193) rfl ?_); refine qC (some 8) rfl rfl Try.func193 (by kernel_rfl) rfl #[.int .i64 a0, .int .i64 a1] rfl (by (try simp only [yiy, yjy, yky]); first | done | rfl | (simp only [yly, ymy]; rfl)) ?_; (with_reducible refine (JA.calls a0 a1 t101 _ A3.out).mono ?_); rintro e w' ⟨rfl, ⟨nd, rfl⟩⟩; refine ⟨_, rfl, ?_⟩) | ((with_reducible refine zT (f := 194) rfl ?_); refine qC (some 13) rfl rfl Try.func194 (by kernel_rfl) rfl #[.int .i64 t101] rfl (by (try simp only [yiy, yjy, yky]); first | done | rfl | (simp only [yly, ymy]; rfl)) ?_; (with_reducible refine (Zx.calls t101 t102 _ A5.out).mono ?_); rintro e w' ⟨rfl, ⟨nd, rfl⟩⟩; refine ⟨_, rfl, ?_⟩))
    go_ret
    exact ⟨by first | rfl | (simp; done) | (simp [*]; done), by repeat (first | exact zb.refl _ | apply zb.step)⟩
def qd (a b : Int) : Int := if a = 0 then b - 1 else if b = 0 then a - 1 else 5 - a - b
theorem zCx {a b : Int} (ha : sm a) (hb : sm b) (hne : a ≠ b) : Jf.f a b = some (qd a b) ∧ 0 ≤ qd a b ∧ qd a b ≤ 2 := by
  obtain ⟨ha0, ha1⟩ := ha
  obtain ⟨hb0, hb1⟩ := hb
  rcases (show a = 0 ∨ a = 1 ∨ a = 2 ∨ a = 3 by omega) with rfl | rfl | rfl | rfl <;> rcases (show b = 0 ∨ b = 1 ∨ b = 2 ∨ b = 3 by omega) with rfl | rfl | rfl | rfl <;> first | exact absurd rfl hne | decide +kernel
theorem zCZ {p : Int} (h0 : 0 ≤ p) (h1 : p ≤ 23) {a b : Int} (ha : sm a) (hb : sm b) (hne : a ≠ b) : rd (ZF p) a ≠ rd (ZF p) b := by
  obtain ⟨ha0, ha1⟩ := ha
  obtain ⟨hb0, hb1⟩ := hb
  obtain ⟨n, rfl⟩ := Int.eq_ofNat_of_zero_le h0
  have key : ∀ m : Fin 24, zu (m.val : Int) 0 ≠ zu (m.val : Int) 1 ∧ zu (m.val : Int) 0 ≠ zu (m.val : Int) 2 ∧ zu (m.val : Int) 0 ≠ zu (m.val : Int) 3 ∧ zu (m.val : Int) 1 ≠ zu (m.val : Int) 2 ∧ zu (m.val : Int) 1 ≠ zu (m.val : Int) 3 ∧ zu (m.val : Int) 2 ≠ zu (m.val : Int) 3 := by decide
  obtain ⟨k1, k2, k3, k4, k5, k6⟩ := key ⟨n, by omega⟩
  dsimp only at k1 k2 k3 k4 k5 k6
  rcases (show a = 0 ∨ a = 1 ∨ a = 2 ∨ a = 3 by omega) with rfl | rfl | rfl | rfl <;> rcases (show b = 0 ∨ b = 1 ∨ b = 2 ∨ b = 3 by omega) with rfl | rfl | rfl | rfl <;> first | exact absurd rfl hne | assumption | exact Ne.symm (by assumption)
def zA6 (r : List Int) (i : Int) : List Int := r.set i.toNat (wrap64 (rd r i + 1))
def zAI (r : List Int) (i : Int) : List Int := r.set i.toNat (wrap64 (rd r i - 1))
theorem zCa (r : List Int) (i : Int) : (zA6 r i).length = r.length := List.length_set
theorem zCb (r : List Int) (i : Int) : (zAI r i).length = r.length := List.length_set
def zCp (cols : Nat) (j f b : Int) (p : List Int) (c : Int) : List Int :=
  zAI (zAI (zA6 (zA6 (List.replicate cols 0) (7 * j + c)) (7 * j + 4 + qd c f)) (7 * b + rd p c)) (7 * b + 4 + qd (rd p c) (rd p f))
theorem zCy (cols : Nat) (j f b : Int) (p : List Int) (c : Int) : (zCp cols j f b p c).length = cols := by simp [zCp, zCa, zCb]
def Qd (cols : Nat) (j f b : Int) (p : List Int) : List Int → List Int × Int → List Int × Int
  | [], s => s
  | c :: cs, s => Qd cols j f b p cs (s.1 ++ zCp cols j f b p c, s.2 + 1)
theorem zAs (cols : Nat) (j f b : Int) (p : List Int) : ∀ (L : List Int) (s : List Int × Int), (Qd cols j f b p L s).2.toNat ≤ s.2.toNat + L.length
  | [], s => yqy _
  | c :: cs, s => by
    rw [Qd]
    have := zAs cols j f b p cs (s.1 ++ zCp cols j f b p c, s.2 + 1)
    have h2 : (s.2 + 1).toNat ≤ s.2.toNat + 1 := by omega
    simp only [List.length_cons]
    dsimp only at this
    omega
def zA7 (cols : Nat) (s : List Int × Int) (j f : Nat) (x : zq) : List Int × Int :=
  if 4 * x.f0 + rd (ZF x.f1) (f : Int) < 4 * (j : Int) + (f : Int) then s else Qd cols j f x.f0 (ZF x.f1) (zDi [(f : Int)]) s
theorem zFG {f c : Int} (h : c ∈ zDi [f]) : sm c ∧ c ≠ f := by
  unfold zDi at h
  obtain ⟨h1, h2⟩ := List.mem_filter.1 h
  refine ⟨?_, fun e => by simp [e] at h2⟩
  simp only [List.mem_cons, List.not_mem_nil, or_false] at h1
  unfold sm; omega
theorem zDO (f : Int) : (zDi [f]).length ≤ 4 := by
  unfold zDi
  exact List.length_filter_le _ _
theorem zDl {f : Int} (h : sm f) : (zDi [f]).length = 3 := by
  obtain ⟨h0, h1⟩ := h
  rcases (show f = 0 ∨ f = 1 ∨ f = 2 ∨ f = 3 by omega) with rfl | rfl | rfl | rfl <;> decide
structure zC5 (w0 : World) (gm : Nat) (cols : Nat) (s : List Int × Int) (W : World) : Prop where
  below : Below w0.heap.size w0 W
  ex : ∃ v, W.heap[gm]? = some (.cells #[.int .i64 s.2, .int .i64 (cols : Int), v] 156 (0, 0)) ∧ Kd.R (Kd.int .i64) 2 W w0.heap.size (fun _ => True) v s.1
  own : w0.heap.size ≤ gm
  len : s.1.length ≤ 60 * s.2.toNat ∧ 0 ≤ s.2
theorem zC5.stays {w0 W W1 : World} {gm cols : Nat} {s : List Int × Int} (h : zC5 w0 gm cols s W) (hb : Below W.heap.size W W1) : zC5 w0 gm cols s W1 := by
  obtain ⟨v, h1, h2⟩ := h.ex
  exact ⟨zN h.below hb, ⟨v, zP h1 hb, Kd.Zc h2 hb⟩, h.own, h.len⟩
structure MmL (w0 : World) (gm gF gI gO cO gR : Nat) (cols : Nat) (f0 f1 x0 x1 x2 x3 : Int) (L s1 : List Int) (s2 : Int) (vc va : Value) (W : World) : Prop where
  below : Below w0.heap.size w0 W
  bM : W.heap[gm]? = some (.cells #[.int .i64 s2, .int .i64 (cols : Int), vc] 156 (0, 0))
  bF : W.heap[gF]? = some (.cells #[.int .i64 f0, .int .i64 f1] 74 (0, 0))
  bI : W.heap[gI]? = some (.cells #[.int .i64 x0, .int .i64 x1, .int .i64 x2, .int .i64 x3] 108 (0, 0))
  rL : Kd.R (Kd.int .i64) 2 W w0.heap.size (fun k => k = gO) (.slice (some ⟨gO, 0, none⟩) L.length cO) L
  rE : Kd.R (Kd.int .i64) 2 W w0.heap.size (fun k => k ≠ gO ∧ k ≠ gR) va s1
  own : w0.heap.size ≤ gm
section
variable {w0 W W1 : World} {gm gF gI gO cO gR g cols : Nat} {f0 f1 x0 x1 x2 x3 : Int} {L s1 s1' r : List Int} {s2 : Int} {vc va v1 : Value}
theorem MmL.stays (h : MmL w0 gm gF gI gO cO gR cols f0 f1 x0 x1 x2 x3 L s1 s2 vc va W) (hb : Below W.heap.size W W1) : MmL w0 gm gF gI gO cO gR cols f0 f1 x0 x1 x2 x3 L s1 s2 vc va W1 :=
  ⟨zN h.below hb, zP h.bM hb, zP h.bF hb, zP h.bI hb, Kd.Zc h.rL hb, Kd.Zc h.rE hb, h.own⟩
theorem MmL.again (h : MmL w0 gm gF gI gO cO gR cols f0 f1 x0 x1 x2 x3 L s1 s2 vc va W) : MmL w0 gm gF gI gO cO gO cols f0 f1 x0 x1 x2 x3 L s1 s2 vc va W :=
  ⟨h.below, h.bM, h.bF, h.bI, h.rL, Kd.qT h.rE (fun _ hk => ⟨hk.1, hk.1⟩), h.own⟩
theorem MmL.newrow (h : MmL w0 gm gF gI gO cO gO cols f0 f1 x0 x1 x2 x3 L s1 s2 vc va W) (hb : Below W.heap.size W W1) (hg : W.heap.size ≤ g) : MmL w0 gm gF gI gO cO g cols f0 f1 x0 x1 x2 x3 L s1 s2 vc va W1 :=
  ⟨zN h.below hb, zP h.bM hb, zP h.bF hb, zP h.bI hb, Kd.Zc h.rL hb, Kd.Zc (Kd.qT (Kd.QA h.rE) (fun k hk => ⟨hk.1.1, by have := hk.2.2.1; omega⟩)) hb, h.own⟩
theorem MmL.put (h : MmL w0 gm gF gI gO cO gR cols f0 f1 x0 x1 x2 x3 L s1 s2 vc va W) {cR n : Nat} {ok : Nat → Prop} {b : Nat} (hr : Kd.R (Kd.int .i64) 2 W b ok (.slice (some ⟨gR, 0, none⟩) n cR) r) (hne : gR ≠ gO) (hg : w0.heap.size ≤ gR) (i : Nat) (u : Value) : MmL w0 gm gF gI gO cO gR cols f0 f1 x0 x1 x2 x3 L s1 s2 vc va (W.setCell ⟨gR, i, none⟩ u) := by
  obtain ⟨cells, hc⟩ := Kd.zBp hr gR (by simp [Value.ownBlock])
  exact ⟨zF h.below hg, qV (p := ⟨gR, i, none⟩) h.bM (zAP h.bM hc (by decide)) _, qV (p := ⟨gR, i, none⟩) h.bF (zAP h.bF hc (by decide)) _, qV (p := ⟨gR, i, none⟩) h.bI (zAP h.bI hc (by decide)) _, Kd.zBo (p := ⟨gR, i, none⟩) h.rL (fun k hk => by rw [hk]; exact fun e => hne e.symm) _, Kd.zBo (p := ⟨gR, i, none⟩) h.rE (fun k hk => hk.2) _, h.own⟩
theorem MmL.grown (h : MmL w0 gm gF gI gO cO gR cols f0 f1 x0 x1 x2 x3 L s1 s2 vc va W) (ho : Kd.R (Kd.int .i64) 2 W1 w0.heap.size (fun k => k ≠ gO ∧ k ≠ gR) v1 s1') (hb : Below w0.heap.size w0 W1) (hg : W.grownBy W1 va.ownBlock) : MmL w0 gm gF gI gO cO gR cols f0 f1 x0 x1 x2 x3 L s1' s2 vc v1 W1 := by
  have hne : ∀ (g : Nat) (T : TypeId) (c : Array Value), T ≠ 2 → W.heap[g]? = some (.cells c T (0, 0)) → some g ≠ va.ownBlock := fun g T c hT hc e => by
    obtain ⟨cells, hc2⟩ := Kd.zBp h.rE g e.symm
    exact zAP hc hc2 hT rfl
  exact ⟨hb, qo h.bM hg (hne _ _ _ (by decide) h.bM), qo h.bF hg (hne _ _ _ (by decide) h.bF), qo h.bI hg (hne _ _ _ (by decide) h.bI), Kd.zCr h.rL hg (fun k hk e => (h.rE.1 k e.symm).1 hk), ho, h.own⟩
theorem MmL.ents (h : MmL w0 gm gF gI gO cO gR cols f0 f1 x0 x1 x2 x3 L s1 s2 vc va W) : MmL w0 gm gF gI gO cO gR cols f0 f1 x0 x1 x2 x3 L s1 s2 va va (W.setCell ⟨gm, 2, none⟩ va) :=
  ⟨zF h.below h.own, qa h.bM 2 _ rfl, qV (p := ⟨gm, 2, none⟩) h.bF (zAP h.bF h.bM (by decide)) _, qV (p := ⟨gm, 2, none⟩) h.bI (zAP h.bI h.bM (by decide)) _, Kd.qT (Kd.zCs h.rL h.bM (by decide) 2 _) (fun _ hk => hk), Kd.qT (Kd.zCs h.rE h.bM (by decide) 2 _) (fun _ hk => hk), h.own⟩
theorem MmL.rows (h : MmL w0 gm gF gI gO cO gR cols f0 f1 x0 x1 x2 x3 L s1 s2 vc va W) (n : Int) : MmL w0 gm gF gI gO cO gR cols f0 f1 x0 x1 x2 x3 L s1 n vc va (W.setCell ⟨gm, 0, none⟩ (.int .i64 n)) :=
  ⟨zF h.below h.own, qa h.bM 0 _ rfl, qV (p := ⟨gm, 0, none⟩) h.bF (zAP h.bF h.bM (by decide)) _, qV (p := ⟨gm, 0, none⟩) h.bI (zAP h.bI h.bM (by decide)) _, Kd.qT (Kd.zCs h.rL h.bM (by decide) 0 _) (fun _ hk => hk), Kd.qT (Kd.zCs h.rE h.bM (by decide) 0 _) (fun _ hk => hk), h.own⟩
end
theorem zAt (p : Int) (h0 : 0 ≤ p) (h1 : p ≤ 23) : sm (zu p 0) ∧ sm (zu p 1) ∧ sm (zu p 2) ∧ sm (zu p 3) := by
  obtain ⟨n, rfl⟩ := Int.eq_ofNat_of_zero_le h0
  have hn : n < 24 := by omega
  have key : ∀ m : Fin 24, (0 ≤ zu (m.val : Int) 0 ∧ zu (m.val : Int) 0 ≤ 3) ∧ (0 ≤ zu (m.val : Int) 1 ∧ zu (m.val : Int) 1 ≤ 3) ∧ (0 ≤ zu (m.val : Int) 2 ∧ zu (m.val : Int) 2 ≤ 3) ∧ (0 ≤ zu (m.val : Int) 3 ∧ zu (m.val : Int) 3 ≤ 3) := by decide
  exact key ⟨n, hn⟩
def Qj (l : List Int) : Nat → List Int
  | 0 => [0, 0, 0, 0]
  | i + 1 => (Qj l i).set (rd l i).toNat i
theorem zBQ (l : List Int) : ∀ i, i ≤ 4 → ∀ x ∈ Qj l i, sm x
  | 0, _, x, hx => by
    have : x = 0 := by simp [Qj] at hx; exact hx
    subst this; exact ⟨by omega, by omega⟩
  | i + 1, hi, x, hx => by
    rw [Qj] at hx
    rcases List.mem_or_eq_of_mem_set hx with h | rfl
    · exact zBQ l i (by omega) x h
    · exact ⟨by omega, by omega⟩
def zDm (p : Int) : Int := idxL (Qj (ZF p) 4)
theorem zBR {a b c d : Int} (ha : sm a) (hb : sm b) (hc : sm c) (hd : sm d) (f : Int) (h0 : 0 ≤ f) (h1 : f ≤ 3) : sm (rd [a, b, c, d] f) := by
  rcases (show f = 0 ∨ f = 1 ∨ f = 2 ∨ f = 3 by omega) with rfl | rfl | rfl | rfl <;> assumption
section
variable {W : World} {b g n cap e : Nat} {ok : Nat → Prop} {r : List Int} {i y : Int}
theorem zEW (h : Kd.R (Kd.int .i64) e W b ok (.slice (some ⟨g, 0, none⟩) n cap) r) (hy : rd r i = y) : Kd.R (Kd.int .i64) e (W.setCell ⟨g, i.toNat, none⟩ (.int .i64 (wrap64 (y + 1)))) b ok (.slice (some ⟨g, 0, none⟩) n cap) (zA6 r i) := by subst hy; exact (Kd.JQ h i _).1
theorem zEX (h : Kd.R (Kd.int .i64) e W b ok (.slice (some ⟨g, 0, none⟩) n cap) r) (hy : rd r i = y) : Kd.R (Kd.int .i64) e (W.setCell ⟨g, i.toNat, none⟩ (.int .i64 (wrap64 (y - 1)))) b ok (.slice (some ⟨g, 0, none⟩) n cap) (zAI r i) := by subst hy; exact (Kd.JQ h i _).1
theorem zFb (h : Kd.R (Kd.int .i64) e W b ok (.slice (some ⟨g, 0, none⟩) n cap) r) (h0 : 0 ≤ i) (h1 : i < n) (hy : rd r i = y) : W.cell? ⟨g, i.toNat, none⟩ = some (.int .i64 y) ∧ W.frozen? ⟨g, i.toNat, none⟩ = false := by subst hy; exact Kd.Zs 0 h i h0 h1
end
theorem wid {x : Int} (h0 : -9223372036854775808 ≤ x) (h1 : x ≤ 9223372036854775807) : wrap64 x = x := by unfold wrap64; omega
theorem JB {w : World} {g : Nat} {T : TypeId} {a b c d e f : Int} (h : w.heap[g]? = some (.cells #[.int .i64 a, .int .i64 b, .int .i64 c, .int .i64 d] T (0, 0))) (h0 : 0 ≤ f) (h1 : f ≤ 3) (he : rd [a, b, c, d] f = e) : w.cell? ⟨g, f.toNat, none⟩ = some (.int .i64 e) := by
 rw [Qh h f h0 h1, he]
set_option maxHeartbeats 8000000 in
set_option maxRecDepth 100000 in
theorem Jg.calls (w0 w : World) (gm cols : Nat) (s : List Int × Int) (j f : Nat) (f0 f1 : Int) (hI : zC5 w0 gm cols s w) (hn : s.2.toNat ≤ 1000) (hj : 7 * (j : Int) + 7 ≤ (cols : Int)) (hf : (f : Int) ≤ 3) (hf0 : 0 ≤ f0) (hf1 : 7 * f0 + 7 ≤ (cols : Int)) (hp0 : 0 ≤ f1) (hp1 : f1 ≤ 23) (hcols : cols ≤ 56) :
 Calls Try.prog 191 #[.int .i64 (j : Int), .int .i64 (f : Int), .agg #[.int .i64 f0, .int .i64 f1], .agg #[.int .i64 (zu f1 0), .int .i64 (zu f1 1), .int .i64 (zu f1 2), .int .i64 (zu f1 3)], .pointer (some ⟨gm, 0, none⟩)] w fun e w' => e = .returned (.tuple #[]) ∧ zC5 w0 gm cols (zA7 cols s j f ⟨f0, f1⟩) w' := by
 obtain ⟨y0, y1, y2, y3⟩ := zAt f1 hp0 hp1
 have hinj : ∀ a b : Int, sm a → sm b → a ≠ b → rd (ZF f1) a ≠ rd (ZF f1) b := fun a b ha hb hne => zCZ hp0 hp1 ha hb hne
 have hstep : zA7 cols s j f ⟨f0, f1⟩ = if 4 * f0 + rd (ZF f1) (f : Int) < 4 * (j : Int) + (f : Int) then s else Qd cols j f f0 (ZF f1) (zDi [(f : Int)]) s := rfl
 have hpl : ZF f1 = [zu f1 0, zu f1 1, zu f1 2, zu f1 3] := rfl
 rw [hpl] at hstep hinj
 have HPL := zA.mk hpl
 generalize zu f1 0 = x0 at *
 generalize zu f1 1 = x1 at *
 generalize zu f1 2 = x2 at *
 generalize zu f1 3 = x3 at *
 clear HPL hpl
 have HP : zA (∀ c, sm c → sm (rd [x0, x1, x2, x3] c)) := ⟨fun c hc => zBR y0 y1 y2 y3 c hc.1 hc.2⟩
 have HJ := zA.mk hinj
 have HF := zA.mk (show sm (f : Int) from ⟨by omega, hf⟩)
 have hxf := HP.out _ HF.out
 have HSP := zA.mk hstep
 generalize zA7 cols s j f ⟨f0, f1⟩ = R at HSP ⊢
 generalize hxfe : rd [x0, x1, x2, x3] (f : Int) = xf at hxf HSP
 have HXF := zA.mk hxfe
 obtain ⟨hxf0, hxf1⟩ := hxf
 have HI := zA.mk hI
 have HN := zA.mk hn
 clear hI hn hxfe hstep hinj y0 y1 y2 y3
 have hf9 : (0 : Int) ≤ (f : Int) := by omega
 have hf4 : (f : Int) < 4 := by omega
 have ht := Try.underlying108
 go_enter Try.func191, Try.ntmps191
 go_wp2
 have BF := zA.mk (zH (QO (W := w) rfl (.cells #[.int .i64 f0, .int .i64 f1] 74)) (.cells #[.int .i64 x0, .int .i64 x1, .int .i64 x2, .int .i64 x3] 108))
 have BI := zA.mk (QO (W := w.alloc (.cells #[.int .i64 f0, .int .i64 f1] 74)) (n := w.heap.size + 1) (by simp) (.cells #[.int .i64 x0, .int .i64 x1, .int .i64 x2, .int .i64 x3] 108))
 have HB := zA.mk (zC (zC (yry w.heap.size w) (.cells #[.int .i64 f0, .int .i64 f1] 74)) (.cells #[.int .i64 x0, .int .i64 x1, .int .i64 x2, .int .i64 x3] 108))
 generalize hgI : w.heap.size + 1 = gI at *
 generalize hgF : w.heap.size = gF at *
 have hne1 : gF < gI := by omega
 generalize World.alloc (World.alloc w _) _ = wB at *
 have q0 : wB.cell? ⟨gF, 0, none⟩ = some (.int .i64 f0) := (zK BF.out 0).trans rfl
 have q1 : wB.cell? ⟨gI, f, none⟩ = some (.int .i64 xf) := by have q := JB BI.out hf9 hf HXF.out; rwa [yny] at q
 by_cases hgt : 4 * f0 + xf < 4 * (j : Int) + (f : Int)
 next =>
  have HS := zA.mk (HSP.out.trans (if_pos hgt))
  clear HSP
  refine QK (n := 12) (S := fun w' => w'.cell? ⟨gF, 0, none⟩ = some (.int .i64 f0) ∧ w'.cell? ⟨gI, f, none⟩ = some (.int .i64 xf)) (ds := []) #[false, false, false, false, false, false, false, false, false, false, false, false] (by kernel_rfl) rfl rfl ⟨q0, q1⟩ (fun hHeld => ?_)
  refine zt (i := 0) (N := some 12) (v := ?_) (a' := ?_) #[true, false, false, false, false, false, false, false, false, false, false, false] rfl rfl (by kernel_rfl) (fun _ _ _ h => h) (Or.inl ⟨by rfl, ?_⟩) ?_ ?_
  rotate_left
  next =>
   intro w'
   go_simp
   with_reducible rfl
  rotate_left
  next =>
   simp only [Act.put, yay, yby, ycy, zY, za]
   rfl
  refine zt (i := 1) (N := some 13) (v := ?_) (a' := ?_) #[true, true, false, false, false, false, false, false, false, false, false, false] rfl rfl (by kernel_rfl) (fun _ _ _ h => h) (Or.inl ⟨by rfl, ?_⟩) ?_ ?_
  rotate_left
  next =>
   intro w'
   go_simp
   with_reducible rfl
  rotate_left
  next =>
   simp only [Act.put, yay, yby, ycy, zY, za]
   rfl
  refine zt (i := 2) (N := some 14) (v := ?_) (a' := ?_) #[true, true, true, false, false, false, false, false, false, false, false, false] rfl rfl (by kernel_rfl) (fun _ _ _ h => h) (Or.inl ⟨by rfl, ?_⟩) ?_ ?_
  rotate_left
  next =>
   intro w'
   go_simp
   with_reducible rfl
  rotate_left
  next =>
   simp only [Act.put, yay, yby, ycy, zY, za]
   rfl
  refine zt (i := 3) (N := some 15) (v := ?_) (a' := ?_) #[true, true, true, true, false, false, false, false, false, false, false, false] rfl rfl (by kernel_rfl) (fun _ _ _ h => h) (Or.inl ⟨by rfl, ?_⟩) ?_ ?_
  rotate_left
  next =>
   intro w'
   go_simp
   with_reducible rfl
  rotate_left
  next =>
   simp only [Act.put, yay, yby, ycy, zY, za]
   rfl
  refine zt (i := 4) (N := some 16) (v := ?_) (a' := ?_) #[true, true, true, true, true, false, false, false, false, false, false, false] rfl rfl (by kernel_rfl) (fun _ _ _ h => h) (Or.inl ⟨by rfl, ?_⟩) ?_ ?_
  rotate_left
  next =>
   intro w'
   go_simp
   with_reducible rfl
  rotate_left
  next =>
   simp only [Act.put, yay, yby, ycy, zY, za]
   rfl
  refine ZW (i := 5) (N := some 17) (v := ?_) (a' := ?_) #[true, true, true, true, true, true, false, false, false, false, false, false] rfl rfl (by kernel_rfl) (fun _ _ _ h => h) (Or.inl ⟨by rfl, ?_⟩) hHeld ?_ ?_
  rotate_left
  next =>
   rintro w' ⟨s0, s1⟩
   go_simp
   with_reducible rfl
  rotate_left
  next =>
   simp only [Act.put, yay, yby, ycy, zY, za]
   rfl
  refine zt (i := 6) (N := some 18) (v := ?_) (a' := ?_) #[true, true, true, true, true, true, true, false, false, false, false, false] rfl rfl (by kernel_rfl) (fun _ _ _ h => h) (Or.inl ⟨by rfl, ?_⟩) ?_ ?_
  rotate_left
  next =>
   intro w'
   go_simp
   with_reducible rfl
  rotate_left
  next =>
   simp only [Act.put, yay, yby, ycy, zY, za]
   rfl
  refine zt (i := 7) (N := some 19) (v := ?_) (a' := ?_) #[true, true, true, true, true, true, true, true, false, false, false, false] rfl rfl (by kernel_rfl) (fun _ _ _ h => h) (Or.inl ⟨by rfl, ?_⟩) ?_ ?_
  rotate_left
  next =>
   intro w'
   go_simp
   with_reducible rfl
  rotate_left
  next =>
   simp only [Act.put, yay, yby, ycy, zY, za]
   rfl
  refine zt (i := 8) (N := some 20) (v := ?_) (a' := ?_) #[true, true, true, true, true, true, true, true, true, false, false, false] rfl rfl (by kernel_rfl) (fun _ _ _ h => h) (Or.inl ⟨by rfl, ?_⟩) ?_ ?_
  rotate_left
  next =>
   intro w'
   go_simp
   with_reducible rfl
  rotate_left
  next =>
   simp only [Act.put, yay, yby, ycy, zY, za]
   rfl
  refine ZW (i := 9) (N := some 21) (v := ?_) (a' := ?_) #[true, true, true, true, true, true, true, true, true, true, false, false] rfl rfl (by kernel_rfl) (fun _ _ _ h => h) (Or.inl ⟨by rfl, ?_⟩) hHeld ?_ ?_
  rotate_left
  next =>
   rintro w' ⟨s0, s1⟩
   go_simp
   with_reducible rfl
  rotate_left
  next =>
   simp only [Act.put, yay, yby, ycy, zY, za]
   rfl
  refine zt (i := 10) (N := some 22) (v := ?_) (a' := ?_) #[true, true, true, true, true, true, true, true, true, true, true, false] rfl rfl (by kernel_rfl) (fun _ _ _ h => h) (Or.inl ⟨by rfl, ?_⟩) ?_ ?_
  rotate_left
  next =>
   intro w'
   go_simp
   with_reducible rfl
  rotate_left
  next =>
   simp only [Act.put, yay, yby, ycy, zY, za]
   rfl
  refine zt (i := 11) (N := some 23) (v := ?_) (a' := ?_) #[true, true, true, true, true, true, true, true, true, true, true, true] rfl rfl (by kernel_rfl) (fun _ _ _ h => h) (Or.inl ⟨by rfl, ?_⟩) ?_ ?_
  rotate_left
  next =>
   intro w'
   go_simp
   with_reducible rfl
  rotate_left
  next =>
   simp only [Act.put, yay, yby, ycy, zY, za]
   rfl
  refine JU (by kernel_rfl) ?_
  have HB2 := zA.mk (zD HB.out)
  clear HB hHeld q0 q1
  generalize wB.drew = wd at *
  have d0 : decide (wrap64 (wrap64 (4 * f0) + xf) < wrap64 (wrap64 (4 * (j : Int)) + (f : Int))) = true := by rw [wid (show -9223372036854775808 ≤ 4 * f0 by omega) (by omega), wid (show -9223372036854775808 ≤ 4 * (j : Int) by omega) (by omega), wid (by omega) (by omega), wid (by omega) (by omega)]; exact ygy hgt
  rw [d0]
  clear d0
  go_wp2
  first | go_end0 | ((try simp only [Exit.inBlock, Exit.then]); refine bodyPost_ret (results_none rfl _ _ _) rfl ?_)
  refine ⟨?_, ?_⟩
  next =>
   first | rfl | (simp <;> rfl)
  next =>
   rw [HS.out]
   exact HI.out.stays (by rw [hgF]; exact HB2.out)
 next =>
  have HS := zA.mk (HSP.out.trans (if_neg hgt))
  clear HSP
  refine QK (n := 12) (S := fun w' => w'.cell? ⟨gF, 0, none⟩ = some (.int .i64 f0) ∧ w'.cell? ⟨gI, f, none⟩ = some (.int .i64 xf)) (ds := []) #[false, false, false, false, false, false, false, false, false, false, false, false] (by kernel_rfl) rfl rfl ⟨q0, q1⟩ (fun hHeld => ?_)
  refine zt (i := 0) (N := some 12) (v := ?_) (a' := ?_) #[true, false, false, false, false, false, false, false, false, false, false, false] rfl rfl (by kernel_rfl) (fun _ _ _ h => h) (Or.inl ⟨by rfl, ?_⟩) ?_ ?_
  rotate_left
  next =>
   intro w'
   go_simp
   with_reducible rfl
  rotate_left
  next =>
   simp only [Act.put, yay, yby, ycy, zY, za]
   rfl
  refine zt (i := 1) (N := some 13) (v := ?_) (a' := ?_) #[true, true, false, false, false, false, false, false, false, false, false, false] rfl rfl (by kernel_rfl) (fun _ _ _ h => h) (Or.inl ⟨by rfl, ?_⟩) ?_ ?_
  rotate_left
  next =>
   intro w'
   go_simp
   with_reducible rfl
  rotate_left
  next =>
   simp only [Act.put, yay, yby, ycy, zY, za]
   rfl
  refine zt (i := 2) (N := some 14) (v := ?_) (a' := ?_) #[true, true, true, false, false, false, false, false, false, false, false, false] rfl rfl (by kernel_rfl) (fun _ _ _ h => h) (Or.inl ⟨by rfl, ?_⟩) ?_ ?_
  rotate_left
  next =>
   intro w'
   go_simp
   with_reducible rfl
  rotate_left
  next =>
   simp only [Act.put, yay, yby, ycy, zY, za]
   rfl
  refine zt (i := 3) (N := some 15) (v := ?_) (a' := ?_) #[true, true, true, true, false, false, false, false, false, false, false, false] rfl rfl (by kernel_rfl) (fun _ _ _ h => h) (Or.inl ⟨by rfl, ?_⟩) ?_ ?_
  rotate_left
  next =>
   intro w'
   go_simp
   with_reducible rfl
  rotate_left
  next =>
   simp only [Act.put, yay, yby, ycy, zY, za]
   rfl
  refine zt (i := 4) (N := some 16) (v := ?_) (a' := ?_) #[true, true, true, true, true, false, false, false, false, false, false, false] rfl rfl (by kernel_rfl) (fun _ _ _ h => h) (Or.inl ⟨by rfl, ?_⟩) ?_ ?_
  rotate_left
  next =>
   intro w'
   go_simp
   with_reducible rfl
  rotate_left
  next =>
   simp only [Act.put, yay, yby, ycy, zY, za]
   rfl
  refine ZW (i := 5) (N := some 17) (v := ?_) (a' := ?_) #[true, true, true, true, true, true, false, false, false, false, false, false] rfl rfl (by kernel_rfl) (fun _ _ _ h => h) (Or.inl ⟨by rfl, ?_⟩) hHeld ?_ ?_
  rotate_left
  next =>
   rintro w' ⟨s0, s1⟩
   go_simp
   with_reducible rfl
  rotate_left
  next =>
   simp only [Act.put, yay, yby, ycy, zY, za]
   rfl
  refine zt (i := 6) (N := some 18) (v := ?_) (a' := ?_) #[true, true, true, true, true, true, true, false, false, false, false, false] rfl rfl (by kernel_rfl) (fun _ _ _ h => h) (Or.inl ⟨by rfl, ?_⟩) ?_ ?_
  rotate_left
  next =>
   intro w'
   go_simp
   with_reducible rfl
  rotate_left
  next =>
   simp only [Act.put, yay, yby, ycy, zY, za]
   rfl
  refine zt (i := 7) (N := some 19) (v := ?_) (a' := ?_) #[true, true, true, true, true, true, true, true, false, false, false, false] rfl rfl (by kernel_rfl) (fun _ _ _ h => h) (Or.inl ⟨by rfl, ?_⟩) ?_ ?_
  rotate_left
  next =>
   intro w'
   go_simp
   with_reducible rfl
  rotate_left
  next =>
   simp only [Act.put, yay, yby, ycy, zY, za]
   rfl
  refine zt (i := 8) (N := some 20) (v := ?_) (a' := ?_) #[true, true, true, true, true, true, true, true, true, false, false, false] rfl rfl (by kernel_rfl) (fun _ _ _ h => h) (Or.inl ⟨by rfl, ?_⟩) ?_ ?_
  rotate_left
  next =>
   intro w'
   go_simp
   with_reducible rfl
  rotate_left
  next =>
   simp only [Act.put, yay, yby, ycy, zY, za]
   rfl
  refine ZW (i := 9) (N := some 21) (v := ?_) (a' := ?_) #[true, true, true, true, true, true, true, true, true, true, false, false] rfl rfl (by kernel_rfl) (fun _ _ _ h => h) (Or.inl ⟨by rfl, ?_⟩) hHeld ?_ ?_
  rotate_left
  next =>
   rintro w' ⟨s0, s1⟩
   go_simp
   with_reducible rfl
  rotate_left
  next =>
   simp only [Act.put, yay, yby, ycy, zY, za]
   rfl
  refine zt (i := 10) (N := some 22) (v := ?_) (a' := ?_) #[true, true, true, true, true, true, true, true, true, true, true, false] rfl rfl (by kernel_rfl) (fun _ _ _ h => h) (Or.inl ⟨by rfl, ?_⟩) ?_ ?_
  rotate_left
  next =>
   intro w'
   go_simp
   with_reducible rfl
  rotate_left
  next =>
   simp only [Act.put, yay, yby, ycy, zY, za]
   rfl
  refine zt (i := 11) (N := some 23) (v := ?_) (a' := ?_) #[true, true, true, true, true, true, true, true, true, true, true, true] rfl rfl (by kernel_rfl) (fun _ _ _ h => h) (Or.inl ⟨by rfl, ?_⟩) ?_ ?_
  rotate_left
  next =>
   intro w'
   go_simp
   with_reducible rfl
  rotate_left
  next =>
   simp only [Act.put, yay, yby, ycy, zY, za]
   rfl
  refine JU (by kernel_rfl) ?_
  have HB2 := zA.mk (zD HB.out)
  have BF2 := zA.mk (zJ BF.out)
  have BI2 := zA.mk (zJ BI.out)
  clear HB hHeld q0 q1 BF BI
  generalize wB.drew = wd at *
  have d0 : decide (wrap64 (wrap64 (4 * f0) + xf) < wrap64 (wrap64 (4 * (j : Int)) + (f : Int))) = false := by rw [wid (show -9223372036854775808 ≤ 4 * f0 by omega) (by omega), wid (show -9223372036854775808 ≤ 4 * (j : Int) by omega) (by omega), wid (by omega) (by omega), wid (by omega) (by omega)]; exact yhy hgt
  rw [d0]
  clear d0
  have HCF : zA (Kd.C (Kd.int .i64) (wd.alloc (.cells #[.int .i64 (f : Int)] 2)) (some ⟨wd.heap.size, 0, none⟩) 1 [(f : Int)]) := ⟨(Kd.qF (show Kd.R (Kd.int .i64) 2 (wd.alloc (.cells #[.int .i64 (f : Int)] 2)) wd.heap.size (fun _ => True) (.slice (some ⟨wd.heap.size, 0, none⟩) 1 1) [(f : Int)] from
   Kd.zA0 ⟨by simp [Jj], .inr ⟨wd.heap.size, 1, #[.int .i64 (f : Int)], rfl, yqy _, QO rfl _, yqy 1, by decide, rfl, rfl⟩⟩ (fun _ _ => trivial))).2.2⟩
  have HL3 := zA.mk (zDl HF.out)
  have HLM := zA.mk (show ∀ c ∈ zDi [(f : Int)], sm c ∧ c ≠ (f : Int) from fun c hc => zFG hc)
  generalize hLe : zDi [(f : Int)] = L at HS HL3 HLM
  have HLE := zA.mk (show JN.f [(f : Int)] = some L by rw [← hLe]; rfl)
  clear hLe
  go_wp2_with (first | (go_at_call 156; refine (JN.calls (some ⟨wd.heap.size, 0, none⟩) 1 [(f : Int)] L _ HCF.out (yqy 1) HLE.out).mono ?_; rintro e w2 ⟨v0, rfl, ho, hb⟩; obtain ⟨gO, cO, rfl, hg1, hg2, _⟩ := Kd.Jo ho (by rw [HL3.out]; decide); have HO := zA.mk ho; have HBO := zA.mk hb; have HG := zA.mk (And.intro hg1 hg2); clear ho hb hg1 hg2 HCF))
  obtain ⟨v, hM, hE⟩ := HI.out.ex
  have hs0 := HI.out.below.size
  have hs1 := HB2.out.size
  have hs2 : (wd.alloc (.cells #[.int .i64 (f : Int)] 2)).heap.size = wd.heap.size + 1 := by simp
  have hgO := HG.out.1
  have HB3 := zA.mk (zN (zC (show Below w.heap.size w wd by rw [hgF]; exact HB2.out) (.cells #[.int .i64 (f : Int)] 2)) HBO.out)
  have HM := zA.mk (show MmL w0 gm gF gI gO cO gO cols f0 f1 x0 x1 x2 x3 L s.1 s.2 v v w2 from
   ⟨zN HI.out.below HB3.out, zP hM HB3.out, zP (zH BF2.out _) HBO.out, zP (zH BI2.out _) HBO.out,
    Kd.qT (Kd.Qt rfl (Kd.ZY HO.out (by omega))) (fun k_ hk_ => by simpa [Value.ownBlock] using hk_),
    Kd.Zc (Kd.qT (Kd.QA hE) (fun k hk => by have := hk.2.2.1; constructor <;> omega)) HB3.out, HI.out.own⟩)
  have HGO := zA.mk (show w0.heap.size ≤ gO ∧ gO < w2.heap.size from ⟨by omega, HG.out.2⟩)
  have HLN := zA.mk HI.out.len
  have HS0 : zA (Qd cols j f f0 [x0, x1, x2, x3] (L.drop 0) (s.1, s.2) = R) := ⟨by rw [List.drop_zero]; exact HS.out.symm⟩
  have HLX := zA.mk (Kd.C_max (Kd.qF HO.out).2.2)
  clear hM hE hs0 hs1 hs2 hgO HB3 HO HBO HG HB2 BF2 BI2 HI HLE HS
  obtain ⟨e1, e2⟩ := s
  dsimp only at HM HLN HS0 HN
  have hlb : L.length ≤ 3 := by have := HL3.out; omega
  go_loopg [28] L.length (fun gg v28 w' => ∃ (i : Nat) (s1 : List Int) (s2 : Int) (v : Value), i ≤ L.length ∧ L.length - i ≤ gg ∧ v28 = .int .i64 i ∧ zA (Qd cols j f f0 [x0, x1, x2, x3] (L.drop i) (s1, s2) = R) ∧ zA (MmL w0 gm gF gI gO cO gO cols f0 f1 x0 x1 x2 x3 L s1 s2 v v w') ∧ zA (s1.length ≤ 60 * s2.toNat ∧ 0 ≤ s2 ∧ s2 ≤ 1000 + i ∧ gO < w'.heap.size))
  case atStart => exact ⟨0, e1, e2, v, Nat.zero_le _, by omega, rfl, HS0, HM, ⟨HLN.out.1, HLN.out.2, by have := HN.out; have := HLN.out.2; omega, HGO.out.2⟩⟩
  case round =>
   clear HM HS0 HLN HN
   obtain ⟨i, s1, s2, vE, hi9, hgg, rfl, HS0, HM, HLN⟩ := hrel
   by_cases hlt : i < L.length
   rotate_left
   next =>
    obtain rfl : i = L.length := by omega
    have HA2 := HS0.out
    rw [List.drop_length, Qd] at HA2
    subst HA2
    go_wp2
    first | go_end0 | ((try simp only [Exit.inBlock, Exit.then]); refine bodyPost_ret (results_none rfl _ _ _) rfl ?_)
    refine ⟨?_, ⟨HM.out.below, ⟨vE, HM.out.bM, Kd.qT HM.out.rE (fun _ _ => trivial)⟩, HM.out.own, ⟨HLN.out.1, HLN.out.2.1⟩⟩⟩
    first | rfl | (simp <;> rfl)
   have hltz : (i : Int) < (L.length : Int) := by omega
   obtain ⟨hc, _⟩ := Kd.Zs 0 HM.out.rL (i : Int) (by omega) hltz
   replace hc : wr.cell? ⟨gO, i, none⟩ = some (.int .i64 (rd L (i : Int))) := hc
   have ex : rd L (i : Int) = L[i] := by simp [rd, hlt]
   rw [ex] at hc
   have HC := zA.mk (HLM.out L[i] (List.getElem_mem hlt))
   have HA2 := HS0.out
   rw [yoy hlt, Qd] at HA2
   have HS1 := zA.mk HA2
   clear HS0 HA2 ex
   generalize L[i] = c at hc HC HS1
   obtain ⟨hc0, hc1⟩ := HC.out.1
   have hc4 : c < 4 := by omega
   obtain ⟨k1, k2, k3⟩ := zCx HC.out.1 HF.out HC.out.2
   have k4 := HP.out c HC.out.1
   have k5 := HJ.out c (f : Int) HC.out.1 HF.out HC.out.2
   rw [HXF.out] at k5
   obtain ⟨k6, k7, k8⟩ := zCx k4 (show sm xf from ⟨hxf0, hxf1⟩) k5
   have HROW : zA (zCp cols (j : Int) (f : Int) f0 [x0, x1, x2, x3] c = zAI (zAI (zA6 (zA6 (List.replicate cols 0) (7 * (j : Int) + c)) (7 * (j : Int) + 4 + qd c (f : Int))) (7 * f0 + rd [x0, x1, x2, x3] c)) (7 * f0 + 4 + qd (rd [x0, x1, x2, x3] c) xf)) := ⟨by unfold zCp; rw [HXF.out]⟩
   have HQ1 := zA.mk k1
   have HQ2 := zA.mk k6
   clear k1 k6 k5
   generalize qd c (f : Int) = q at HQ1 HROW k2 k3
   have HD : zA (rd [x0, x1, x2, x3] c = rd [x0, x1, x2, x3] c ∧ True) := ⟨rfl, trivial⟩
   clear HD
   generalize hde : rd [x0, x1, x2, x3] c = d at HQ2 HROW k4 k7 k8
   have HD := zA.mk hde
   clear hde
   generalize qd d xf = q2 at HQ2 HROW k7 k8
   obtain ⟨hd0, hd1⟩ := k4
   generalize zCp cols (j : Int) (f : Int) f0 [x0, x1, x2, x3] c = rr at HS1 HROW
   have hm1 : wr.cell? ⟨gm, 1, none⟩ = some (.int .i64 (cols : Int)) := (zK HM.out.bM 1).trans rfl
   go_wp2_with (first
    | ((with_reducible refine zh (N := 34) rfl ?_); refine Kd.zCQ (Kd.int .i64) (w0 := wr) wr.heap.size 2 rfl (N := 34) rfl 41 _ _ rfl (cols : Int) rfl rfl Try.underlying41 (.int .i64 0) 8 JL rfl (by decide) (by omega) 0 (ok := fun _ => True) (okp := fun _ => True) rfl (fun _ hk => hk) trivial (by omega) (by omega) (yry _ _) (yqy _) ?_; intro v1 w3 ho hb _ hnew; obtain ⟨gR, hbs, hge⟩ := hnew; obtain ⟨cR, rfl⟩ := zFF ho hbs; rw [yny] at ho ⊢; rw [List.length_replicate] at ho ⊢; have HR1 := zA.mk (show Kd.R (Kd.int .i64) 2 w3 w0.heap.size (fun k => k = gR) (.slice (some ⟨gR, 0, none⟩) cols cR) (List.replicate cols 0) from Kd.qT (Kd.Qt rfl (Kd.ZY ho HM.out.below.size)) (fun k_ hk_ => by simpa [Value.ownBlock] using hk_)); have HM1 := zA.mk (HM.out.newrow hb hge); have HGR := zA.mk (show gR ≠ gO ∧ w0.heap.size ≤ gR from ⟨by have := HLN.out.2.2.2; omega, by have := HM.out.below.size; omega⟩); clear ho hb hbs hge hm1 hc HM; generalize (List.replicate cols 0 : List Int) = r0 at HR1 HROW; generalize hy6 : rd r0 (7 * (j : Int) + c) = y6; have HY6 := zA.mk hy6; clear hy6; obtain ⟨p6, z6⟩ := zFb HR1.out (show (0 : Int) ≤ 7 * (j : Int) + c by omega) (show 7 * (j : Int) + c < (cols : Int) by omega) HY6.out)
    | ((with_reducible refine ZK (t := 2) (p := 43) rfl ?_); refine qy (t := 2) (p := 43) (v := ?vo43) (w1 := (w3.setCell ⟨gR, (7 * (j : Int) + c).toNat, none⟩ (.int .i64 (wrap64 (y6 + 1))))) ?hg ?ho ?hn ?hr ?_; (case ho => rfl); (case hg => rfl); (case hn => rfl); (case hr => first | (go_simp; done) | (go_simp; rfl)); intro w4 hw; have HM2 := zA.mk (show MmL w0 gm gF gI gO cO gR cols f0 f1 x0 x1 x2 x3 L s1 s2 vE vE w4 by rw [hw]; exact HM1.out.put HR1.out HGR.out.1 HGR.out.2 _ _); have HR2 := zA.mk (show Kd.R (Kd.int .i64) 2 w4 w0.heap.size (fun k => k = gR) (.slice (some ⟨gR, 0, none⟩) cols cR) (zA6 r0 (7 * (j : Int) + c)) by rw [hw]; exact zEW HR1.out HY6.out); clear HM1 HR1 HY6 hw p6 z6; generalize zA6 r0 (7 * (j : Int) + c) = r1 at HR2 HROW)
    | (go_at_call 192; (with_reducible refine (Jf.calls c (f : Int) q _ HQ1.out).mono ?_); rintro e w5 ⟨rfl, hd⟩; have hb5 := zb.below hd; have HM3 := zA.mk (HM2.out.stays hb5); have HR3 := zA.mk (Kd.Zc HR2.out hb5); clear hd hb5 HM2 HR2; generalize hy7 : rd r1 (7 * (j : Int) + 4 + q) = y7; have HY7 := zA.mk hy7; clear hy7; obtain ⟨p7, z7⟩ := zFb HR3.out (show (0 : Int) ≤ 7 * (j : Int) + 4 + q by omega) (show 7 * (j : Int) + 4 + q < (cols : Int) by omega) HY7.out)
    | ((with_reducible refine ZK (t := 2) (p := 55) rfl ?_); refine qy (t := 2) (p := 55) (v := ?vo55) (w1 := (w5.setCell ⟨gR, (7 * (j : Int) + 4 + q).toNat, none⟩ (.int .i64 (wrap64 (y7 + 1))))) ?hg ?ho ?hn ?hr ?_; (case ho => rfl); (case hg => rfl); (case hn => rfl); (case hr => first | (go_simp; done) | (go_simp; rfl)); intro w6 hw; have HM4 := zA.mk (show MmL w0 gm gF gI gO cO gR cols f0 f1 x0 x1 x2 x3 L s1 s2 vE vE w6 by rw [hw]; exact HM3.out.put HR3.out HGR.out.1 HGR.out.2 _ _); have HR4 := zA.mk (show Kd.R (Kd.int .i64) 2 w6 w0.heap.size (fun k => k = gR) (.slice (some ⟨gR, 0, none⟩) cols cR) (zA6 r1 (7 * (j : Int) + 4 + q)) by rw [hw]; exact zEW HR3.out HY7.out); clear HM3 HR3 HY7 hw p7 z7; generalize zA6 r1 (7 * (j : Int) + 4 + q) = r2 at HR4 HROW))
   have HW8 := zA.mk (show wrap64 (wrap64 (7 * f0) + d) = 7 * f0 + d by rw [wid (show -9223372036854775808 ≤ 7 * f0 by omega) (by omega), wid (by omega) (by omega)])
   have HW9 := zA.mk (show wrap64 (wrap64 (wrap64 (7 * f0) + 4) + q2) = 7 * f0 + 4 + q2 by rw [wid (show -9223372036854775808 ≤ 7 * f0 by omega) (by omega), wid (show -9223372036854775808 ≤ 7 * f0 + 4 by omega) (by omega), wid (by omega) (by omega)])
   have HI8 := zA.mk (show (0 : Int) ≤ 7 * f0 + d ∧ 7 * f0 + d < (cols : Int) by omega)
   have HI9 := zA.mk (show (0 : Int) ≤ 7 * f0 + 4 + q2 ∧ 7 * f0 + 4 + q2 < (cols : Int) by omega)
   generalize hy8 : rd r2 (7 * f0 + d) = y8
   have HY8 := zA.mk hy8
   clear hy8
   refine QK (n := 13) (S := fun w' => w'.cell? ⟨gF, 0, none⟩ = some (.int .i64 f0) ∧ w'.cell? ⟨gI, c.toNat, none⟩ = some (.int .i64 d) ∧ w'.cell? ⟨gR, (wrap64 (wrap64 (7 * f0) + d)).toNat, none⟩ = some (.int .i64 y8)) (ds := [12]) #[false, false, false, false, false, false, false, false, false, false, false, false, false] (by kernel_rfl) rfl rfl ⟨(zK HM4.out.bF 0).trans rfl, JB HM4.out.bI hc0 hc1 HD.out, (by rw [HW8.out]; exact (zFb HR4.out HI8.out.1 HI8.out.2 HY8.out).1)⟩ (fun hHeld => ?_)
   have HM5 := zA.mk (HM4.out.stays (zD (yry _ _)))
   have HR5 := zA.mk (Kd.zx HR4.out)
   clear HM4 HR4
   generalize w6.drew = w7 at HM5 HR5 hHeld ⊢
   have b8 : (0 : Int) ≤ wrap64 (wrap64 (7 * f0) + d) := by rw [HW8.out]; exact HI8.out.1
   have c8 : wrap64 (wrap64 (7 * f0) + d) < (cols : Int) := by rw [HW8.out]; exact HI8.out.2
   have z8 : w7.frozen? ⟨gR, (wrap64 (wrap64 (7 * f0) + d)).toNat, none⟩ = false := by rw [HW8.out]; exact (zFb HR5.out HI8.out.1 HI8.out.2 HY8.out).2
   have p8 : w7.cell? ⟨gR, (wrap64 (wrap64 (7 * f0) + d)).toNat, none⟩ = some (.int .i64 y8) := hHeld.2.2
   refine zt (i := 0) (N := some 56) (v := ?_) (a' := ?_) #[true, false, false, false, false, false, false, false, false, false, false, false, false] rfl rfl (by kernel_rfl) (fun _ _ _ h => h) (Or.inl ⟨by rfl, ?_⟩) ?_ ?_
   rotate_left
   next =>
    intro w'
    go_simp
    with_reducible rfl
   rotate_left
   next =>
    simp only [Act.put, yay, yby, ycy, zY, za]
    rfl
   refine zt (i := 1) (N := some 57) (v := ?_) (a' := ?_) #[true, true, false, false, false, false, false, false, false, false, false, false, false] rfl rfl (by kernel_rfl) (fun _ _ _ h => h) (Or.inl ⟨by rfl, ?_⟩) ?_ ?_
   rotate_left
   next =>
    intro w'
    go_simp
    with_reducible rfl
   rotate_left
   next =>
    simp only [Act.put, yay, yby, ycy, zY, za]
    rfl
   refine ZW (i := 2) (N := some 58) (v := ?_) (a' := ?_) #[true, true, true, false, false, false, false, false, false, false, false, false, false] rfl rfl (by kernel_rfl) (fun _ _ _ h => h) (Or.inl ⟨by rfl, ?_⟩) hHeld ?_ ?_
   rotate_left
   next =>
    rintro w' ⟨s0, s1, s2⟩
    go_simp
    with_reducible rfl
   rotate_left
   next =>
    simp only [Act.put, yay, yby, ycy, zY, za]
    rfl
   refine zt (i := 3) (N := some 59) (v := ?_) (a' := ?_) #[true, true, true, true, false, false, false, false, false, false, false, false, false] rfl rfl (by kernel_rfl) (fun _ _ _ h => h) (Or.inl ⟨by rfl, ?_⟩) ?_ ?_
   rotate_left
   next =>
    intro w'
    go_simp
    with_reducible rfl
   rotate_left
   next =>
    simp only [Act.put, yay, yby, ycy, zY, za]
    rfl
   refine zt (i := 4) (N := some 60) (v := ?_) (a' := ?_) #[true, true, true, true, true, false, false, false, false, false, false, false, false] rfl rfl (by kernel_rfl) (fun _ _ _ h => h) (Or.inl ⟨by rfl, ?_⟩) ?_ ?_
   rotate_left
   next =>
    intro w'
    go_simp
    with_reducible rfl
   rotate_left
   next =>
    simp only [Act.put, yay, yby, ycy, zY, za]
    rfl
   refine zt (i := 5) (N := some 61) (v := ?_) (a' := ?_) #[true, true, true, true, true, true, false, false, false, false, false, false, false] rfl rfl (by kernel_rfl) (fun _ _ _ h => h) (Or.inl ⟨by rfl, ?_⟩) ?_ ?_
   rotate_left
   next =>
    intro w'
    go_simp
    with_reducible rfl
   rotate_left
   next =>
    simp only [Act.put, yay, yby, ycy, zY, za]
    rfl
   refine ZW (i := 6) (N := some 62) (v := ?_) (a' := ?_) #[true, true, true, true, true, true, true, false, false, false, false, false, false] rfl rfl (by kernel_rfl) (fun _ _ _ h => h) (Or.inl ⟨by rfl, ?_⟩) hHeld ?_ ?_
   rotate_left
   next =>
    rintro w' ⟨s0, s1, s2⟩
    go_simp
    with_reducible rfl
   rotate_left
   next =>
    simp only [Act.put, yay, yby, ycy, zY, za]
    rfl
   refine zt (i := 7) (N := some 63) (v := ?_) (a' := ?_) #[true, true, true, true, true, true, true, true, false, false, false, false, false] rfl rfl (by kernel_rfl) (fun _ _ _ h => h) (Or.inl ⟨by rfl, ?_⟩) ?_ ?_
   rotate_left
   next =>
    intro w'
    go_simp
    with_reducible rfl
   rotate_left
   next =>
    simp only [Act.put, yay, yby, ycy, zY, za]
    rfl
   refine zt (i := 8) (N := some 64) (v := ?_) (a' := ?_) #[true, true, true, true, true, true, true, true, true, false, false, false, false] rfl rfl (by kernel_rfl) (fun _ _ _ h => h) (Or.inl ⟨by rfl, ?_⟩) ?_ ?_
   rotate_left
   next =>
    intro w'
    go_simp
    with_reducible rfl
   rotate_left
   next =>
    simp only [Act.put, yay, yby, ycy, zY, za]
    rfl
   refine ZW (i := 9) (N := some 65) (v := ?_) (a' := ?_) #[true, true, true, true, true, true, true, true, true, true, false, false, false] rfl rfl (by kernel_rfl) (fun _ _ _ h => h) (Or.inl ⟨by rfl, ?_⟩) hHeld ?_ ?_
   rotate_left
   next =>
    rintro w' ⟨s0, s1, s2⟩
    go_simp
    with_reducible rfl
   rotate_left
   next =>
    simp only [Act.put, yay, yby, ycy, zY, za]
    rfl
   refine zt (i := 10) (N := some 66) (v := ?_) (a' := ?_) #[true, true, true, true, true, true, true, true, true, true, true, false, false] rfl rfl (by kernel_rfl) (fun _ _ _ h => h) (Or.inl ⟨by rfl, ?_⟩) ?_ ?_
   rotate_left
   next =>
    intro w'
    go_simp
    with_reducible rfl
   rotate_left
   next =>
    simp only [Act.put, yay, yby, ycy, zY, za]
    rfl
   refine zt (i := 11) (N := some 67) (v := ?_) (a' := ?_) #[true, true, true, true, true, true, true, true, true, true, true, true, false] rfl rfl (by kernel_rfl) (fun _ _ _ h => h) (Or.inl ⟨by rfl, ?_⟩) ?_ ?_
   rotate_left
   next =>
    intro w'
    go_simp
    with_reducible rfl
   rotate_left
   next =>
    simp only [Act.put, yay, yby, ycy, zY, za]
    rfl
   refine zFj (i := 12) (N := none) #[true, true, true, true, true, true, true, true, true, true, true, true, true] rfl rfl (by kernel_rfl) (by decide) (fun K hK => ?_)
   refine skip_ (w1 := ?_) (by rfl) rfl ?_ ?_
   rotate_left
   next =>
    go_simp
    rfl
   refine hK.out _ _ ?_
   clear hK K
   refine JU (by kernel_rfl) ?_
   clear b8 c8 z8 p8 hHeld
   have HM6 := zA.mk (show MmL w0 gm gF gI gO cO gR cols f0 f1 x0 x1 x2 x3 L s1 s2 vE vE (w7.setCell ⟨gR, (wrap64 (wrap64 (7 * f0) + d)).toNat, none⟩ (.int .i64 (wrap64 (y8 - 1)))) from HM5.out.put HR5.out HGR.out.1 HGR.out.2 _ _)
   have HR6 := zA.mk (show Kd.R (Kd.int .i64) 2 (w7.setCell ⟨gR, (wrap64 (wrap64 (7 * f0) + d)).toNat, none⟩ (.int .i64 (wrap64 (y8 - 1)))) w0.heap.size (fun k => k = gR) (.slice (some ⟨gR, 0, none⟩) cols cR) (zAI r2 (7 * f0 + d)) from by rw [HW8.out]; exact zEX HR5.out HY8.out)
   clear HM5 HR5 HY8 HW8
   generalize zAI r2 (7 * f0 + d) = r3 at HR6 HROW
   generalize World.setCell w7 _ _ = w8 at *
   try go_wp2
   generalize hy9 : rd r3 (7 * f0 + 4 + q2) = y9
   have HY9 := zA.mk hy9
   clear hy9
   refine QK (n := 18) (S := fun w' => w'.cell? ⟨gF, 0, none⟩ = some (.int .i64 f0) ∧ w'.cell? ⟨gI, c.toNat, none⟩ = some (.int .i64 d) ∧ w'.cell? ⟨gI, f, none⟩ = some (.int .i64 xf) ∧ w'.cell? ⟨gR, (wrap64 (wrap64 (wrap64 (7 * f0) + 4) + q2)).toNat, none⟩ = some (.int .i64 y9)) (ds := [17]) #[false, false, false, false, false, false, false, false, false, false, false, false, false, false, false, false, false, false] (by kernel_rfl) rfl rfl ⟨(zK HM6.out.bF 0).trans rfl, JB HM6.out.bI hc0 hc1 HD.out, (by have q := JB HM6.out.bI hf9 hf HXF.out; rwa [yny] at q), (by rw [HW9.out]; exact (zFb HR6.out HI9.out.1 HI9.out.2 HY9.out).1)⟩ (fun hHeld => ?_)
   have HM5 := zA.mk (HM6.out.stays (zD (yry _ _)))
   have HR5 := zA.mk (Kd.zx HR6.out)
   clear HM6 HR6
   generalize w8.drew = w9 at HM5 HR5 hHeld ⊢
   refine zt (i := 0) (N := some 68) (v := ?_) (a' := ?_) #[true, false, false, false, false, false, false, false, false, false, false, false, false, false, false, false, false, false] rfl rfl (by kernel_rfl) (fun _ _ _ h => h) (Or.inl ⟨by rfl, ?_⟩) ?_ ?_
   rotate_left
   next =>
    intro w'
    go_simp
    with_reducible rfl
   rotate_left
   next =>
    simp only [Act.put, yay, yby, ycy, zY, za]
    rfl
   refine zt (i := 1) (N := some 69) (v := ?_) (a' := ?_) #[true, true, false, false, false, false, false, false, false, false, false, false, false, false, false, false, false, false] rfl rfl (by kernel_rfl) (fun _ _ _ h => h) (Or.inl ⟨by rfl, ?_⟩) ?_ ?_
   rotate_left
   next =>
    intro w'
    go_simp
    with_reducible rfl
   rotate_left
   next =>
    simp only [Act.put, yay, yby, ycy, zY, za]
    rfl
   refine ZW (i := 2) (N := some 70) (v := ?_) (a' := ?_) #[true, true, true, false, false, false, false, false, false, false, false, false, false, false, false, false, false, false] rfl rfl (by kernel_rfl) (fun _ _ _ h => h) (Or.inl ⟨by rfl, ?_⟩) hHeld ?_ ?_
   rotate_left
   next =>
    rintro w' ⟨s0, s1, s2, s3⟩
    go_simp
    with_reducible rfl
   rotate_left
   next =>
    simp only [Act.put, yay, yby, ycy, zY, za]
    rfl
   refine zt (i := 3) (N := some 71) (v := ?_) (a' := ?_) #[true, true, true, true, false, false, false, false, false, false, false, false, false, false, false, false, false, false] rfl rfl (by kernel_rfl) (fun _ _ _ h => h) (Or.inl ⟨by rfl, ?_⟩) ?_ ?_
   rotate_left
   next =>
    intro w'
    go_simp
    with_reducible rfl
   rotate_left
   next =>
    simp only [Act.put, yay, yby, ycy, zY, za]
    rfl
   refine zt (i := 4) (N := some 72) (v := ?_) (a' := ?_) #[true, true, true, true, true, false, false, false, false, false, false, false, false, false, false, false, false, false] rfl rfl (by kernel_rfl) (fun _ _ _ h => h) (Or.inl ⟨by rfl, ?_⟩) ?_ ?_
   rotate_left
   next =>
    intro w'
    go_simp
    with_reducible rfl
   rotate_left
   next =>
    simp only [Act.put, yay, yby, ycy, zY, za]
    rfl
   refine zt (i := 5) (N := some 73) (v := ?_) (a' := ?_) #[true, true, true, true, true, true, false, false, false, false, false, false, false, false, false, false, false, false] rfl rfl (by kernel_rfl) (fun _ _ _ h => h) (Or.inl ⟨by rfl, ?_⟩) ?_ ?_
   rotate_left
   next =>
    intro w'
    go_simp
    with_reducible rfl
   rotate_left
   next =>
    simp only [Act.put, yay, yby, ycy, zY, za]
    rfl
   refine zt (i := 6) (N := some 74) (v := ?_) (a' := ?_) #[true, true, true, true, true, true, true, false, false, false, false, false, false, false, false, false, false, false] rfl rfl (by kernel_rfl) (fun _ _ _ h => h) (Or.inl ⟨by rfl, ?_⟩) ?_ ?_
   rotate_left
   next =>
    intro w'
    go_simp
    with_reducible rfl
   rotate_left
   next =>
    simp only [Act.put, yay, yby, ycy, zY, za]
    rfl
   refine ZW (i := 7) (N := some 75) (v := ?_) (a' := ?_) #[true, true, true, true, true, true, true, true, false, false, false, false, false, false, false, false, false, false] rfl rfl (by kernel_rfl) (fun _ _ _ h => h) (Or.inl ⟨by rfl, ?_⟩) hHeld ?_ ?_
   rotate_left
   next =>
    rintro w' ⟨s0, s1, s2, s3⟩
    go_simp
    with_reducible rfl
   rotate_left
   next =>
    simp only [Act.put, yay, yby, ycy, zY, za]
    rfl
   refine zt (i := 8) (N := some 76) (v := ?_) (a' := ?_) #[true, true, true, true, true, true, true, true, true, false, false, false, false, false, false, false, false, false] rfl rfl (by kernel_rfl) (fun _ _ _ h => h) (Or.inl ⟨by rfl, ?_⟩) ?_ ?_
   rotate_left
   next =>
    intro w'
    go_simp
    with_reducible rfl
   rotate_left
   next =>
    simp only [Act.put, yay, yby, ycy, zY, za]
    rfl
   refine zt (i := 9) (N := some 77) (v := ?_) (a' := ?_) #[true, true, true, true, true, true, true, true, true, true, false, false, false, false, false, false, false, false] rfl rfl (by kernel_rfl) (fun _ _ _ h => h) (Or.inl ⟨by rfl, ?_⟩) ?_ ?_
   rotate_left
   next =>
    intro w'
    go_simp
    with_reducible rfl
   rotate_left
   next =>
    simp only [Act.put, yay, yby, ycy, zY, za]
    rfl
   refine ZW (i := 10) (N := some 78) (v := ?_) (a' := ?_) #[true, true, true, true, true, true, true, true, true, true, true, false, false, false, false, false, false, false] rfl rfl (by kernel_rfl) (fun _ _ _ h => h) (Or.inl ⟨by rfl, ?_⟩) hHeld ?_ ?_
   rotate_left
   next =>
    rintro w' ⟨s0, s1, s2, s3⟩
    go_simp
    with_reducible rfl
   rotate_left
   next =>
    simp only [Act.put, yay, yby, ycy, zY, za]
    rfl
   refine zAd (i := 11) (N := some 79) #[true, true, true, true, true, true, true, true, true, true, true, true, false, false, false, false, false, false] rfl rfl (by kernel_rfl) (by decide) (fun K hK => ?_)
   refine JV Try.func192 (by kernel_rfl) rfl #[.int .i64 d, .int .i64 xf] (by rfl) rfl rfl (by (try simp only [yiy, yjy, yky]); first | done | rfl) ?_
   refine (Jf.calls d xf q2 _ HQ2.out).mono ?_
   rintro e w6_ ⟨rfl, hd⟩
   refine ⟨_, rfl, ?_⟩
   have hb6 := zb.below hd
   have HM6 := zA.mk (HM5.out.stays hb6)
   have HR6 := zA.mk (Kd.Zc HR5.out hb6)
   clear hd hb6
   refine hK.out _ _ ⟨(zK HM6.out.bF 0).trans rfl, JB HM6.out.bI hc0 hc1 HD.out, (by have q := JB HM6.out.bI hf9 hf HXF.out; rwa [yny] at q), (by rw [HW9.out]; exact (zFb HR6.out HI9.out.1 HI9.out.2 HY9.out).1)⟩ (fun hHeld => ?_)
   clear hK K
   refine Qb (a' := ?_) ?_ ?_
   rotate_left
   next =>
    show Act.put _ (some 79) _ = _
    simp only [Act.put, yay, yby, ycy, zY, za]
    rfl
   clear HM5 HR5
   have b9 : (0 : Int) ≤ wrap64 (wrap64 (wrap64 (7 * f0) + 4) + q2) := by rw [HW9.out]; exact HI9.out.1
   have c9 : wrap64 (wrap64 (wrap64 (7 * f0) + 4) + q2) < (cols : Int) := by rw [HW9.out]; exact HI9.out.2
   have z9 : w6_.frozen? ⟨gR, (wrap64 (wrap64 (wrap64 (7 * f0) + 4) + q2)).toNat, none⟩ = false := by rw [HW9.out]; exact (zFb HR6.out HI9.out.1 HI9.out.2 HY9.out).2
   have p9 : w6_.cell? ⟨gR, (wrap64 (wrap64 (wrap64 (7 * f0) + 4) + q2)).toNat, none⟩ = some (.int .i64 y9) := hHeld.2.2.2
   refine zt (i := 12) (N := some 80) (v := ?_) (a' := ?_) #[true, true, true, true, true, true, true, true, true, true, true, true, true, false, false, false, false, false] rfl rfl (by kernel_rfl) (fun _ _ _ h => h) (Or.inl ⟨by rfl, ?_⟩) ?_ ?_
   rotate_left
   next =>
    intro w'
    go_simp
    with_reducible rfl
   rotate_left
   next =>
    simp only [Act.put, yay, yby, ycy, zY, za]
    rfl
   refine zt (i := 13) (N := some 81) (v := ?_) (a' := ?_) #[true, true, true, true, true, true, true, true, true, true, true, true, true, true, false, false, false, false] rfl rfl (by kernel_rfl) (fun _ _ _ h => h) (Or.inl ⟨by rfl, ?_⟩) ?_ ?_
   rotate_left
   next =>
    intro w'
    go_simp
    with_reducible rfl
   rotate_left
   next =>
    simp only [Act.put, yay, yby, ycy, zY, za]
    rfl
   refine ZW (i := 14) (N := some 82) (v := ?_) (a' := ?_) #[true, true, true, true, true, true, true, true, true, true, true, true, true, true, true, false, false, false] rfl rfl (by kernel_rfl) (fun _ _ _ h => h) (Or.inl ⟨by rfl, ?_⟩) hHeld ?_ ?_
   rotate_left
   next =>
    rintro w' ⟨s0, s1, s2, s3⟩
    go_simp
    with_reducible rfl
   rotate_left
   next =>
    simp only [Act.put, yay, yby, ycy, zY, za]
    rfl
   refine zt (i := 15) (N := some 83) (v := ?_) (a' := ?_) #[true, true, true, true, true, true, true, true, true, true, true, true, true, true, true, true, false, false] rfl rfl (by kernel_rfl) (fun _ _ _ h => h) (Or.inl ⟨by rfl, ?_⟩) ?_ ?_
   rotate_left
   next =>
    intro w'
    go_simp
    with_reducible rfl
   rotate_left
   next =>
    simp only [Act.put, yay, yby, ycy, zY, za]
    rfl
   refine zt (i := 16) (N := some 84) (v := ?_) (a' := ?_) #[true, true, true, true, true, true, true, true, true, true, true, true, true, true, true, true, true, false] rfl rfl (by kernel_rfl) (fun _ _ _ h => h) (Or.inl ⟨by rfl, ?_⟩) ?_ ?_
   rotate_left
   next =>
    intro w'
    go_simp
    with_reducible rfl
   rotate_left
   next =>
    simp only [Act.put, yay, yby, ycy, zY, za]
    rfl
   refine zFj (i := 17) (N := none) #[true, true, true, true, true, true, true, true, true, true, true, true, true, true, true, true, true, true] rfl rfl (by kernel_rfl) (by decide) (fun K hK => ?_)
   refine skip_ (w1 := ?_) (by rfl) rfl ?_ ?_
   rotate_left
   next =>
    go_simp
    rfl
   refine hK.out _ _ ?_
   clear hK K
   refine JU (by kernel_rfl) ?_
   clear b9 c9 z9 p9 hHeld
   have HM7 := zA.mk (show MmL w0 gm gF gI gO cO gR cols f0 f1 x0 x1 x2 x3 L s1 s2 vE vE (w6_.setCell ⟨gR, (wrap64 (wrap64 (wrap64 (7 * f0) + 4) + q2)).toNat, none⟩ (.int .i64 (wrap64 (y9 - 1)))) from HM6.out.put HR6.out HGR.out.1 HGR.out.2 _ _)
   have HR7 := zA.mk (show Kd.R (Kd.int .i64) 2 (w6_.setCell ⟨gR, (wrap64 (wrap64 (wrap64 (7 * f0) + 4) + q2)).toNat, none⟩ (.int .i64 (wrap64 (y9 - 1)))) w0.heap.size (fun k => k = gR) (.slice (some ⟨gR, 0, none⟩) cols cR) (zAI r3 (7 * f0 + 4 + q2)) from by rw [HW9.out]; exact zEX HR6.out HY9.out)
   clear HM6 HR6 HY9 HW9
   rw [← HROW.out] at HR7
   have HLR := zA.mk (Kd.qF HR7.out).1
   have HRC := zA.mk (show Kd.C (Kd.int .i64) (w6_.setCell ⟨gR, (wrap64 (wrap64 (wrap64 (7 * f0) + 4) + q2)).toNat, none⟩ (.int .i64 (wrap64 (y9 - 1)))) (some ⟨gR, 0, none⟩) cols rr from by have q := (Kd.qF HR7.out).2.2; rwa [← HLR.out] at q)
   have HGL := zA.mk (And.intro (Kd.zB5 HM7.out.rL gO (by simp [Value.ownBlock])) (Kd.zB5 HR7.out gR (by simp [Value.ownBlock])))
   clear HR7 HROW
   generalize World.setCell w6_ _ _ = w10 at *
   have hm2 : w10.cell? ⟨gm, 2, none⟩ = some vE := (zK HM7.out.bM 2).trans rfl
   go_wp2_with (first
    | ((with_reducible refine Zg (b := .append) (xs := #[.tmp 86, .tmp 87]) rfl ?_); at_builtin; refine Kd.zBq (Kd.int .i64) (Rr := fun x cs => cs = [.int .i64 x]) (w0 := w0) w0.heap.size rfl (.tmp 86) (.tmp 87) 41 2 (.int .i64 0) 8 rfl Try.underlying41 JL rfl (by decide) (by omega) vE s1 rr (some ⟨gR, 0, none⟩) cols cR (fun k => k ≠ gO ∧ k ≠ gR) (fun _ => False) rfl rfl ?aO ?aR (fun _ _ h => h) (fun _ hk => hk.elim) ?aF ?aB ?aS ?aL ?_; (case aO => exact HM7.out.rE); (case aR => exact HRC.out); (case aF => exact (fun k hk => by have := HGL.out.1; have := HGL.out.2; constructor <;> omega)); (case aB => exact HM7.out.below); (case aS => exact zO HM7.out.below); (case aL => have := HLN.out.1; have := HLN.out.2; have := HL3.out; omega); intro v1 w11 ho hb hg hat; obtain ⟨A1, c1, rfl⟩ := Kd.Zd ho; have HM8 := zA.mk (HM7.out.grown ho hb hg); clear HM7 ho hb hg hat hm2 HRC HGL; have hm2 : w11.cell? ⟨gm, 2, none⟩ = some vE := (zK HM8.out.bM 2).trans rfl; have zm2 := zM HM8.out.bM 2)
    | ((with_reducible refine ZK (t := 41) (p := 89) rfl ?_); refine qy (t := 41) (p := 89) (v := ?vo89) (w1 := (w11.setCell ⟨gm, 2, none⟩ (.slice A1 (s1 ++ rr).length c1))) ?hg ?ho ?hn ?hr ?_; (case ho => rfl); (case hg => rfl); (case hn => rfl); (case hr => first | (go_simp; done) | (go_simp; rfl)); intro w12 hw; have HM9 := zA.mk (show MmL w0 gm gF gI gO cO gR cols f0 f1 x0 x1 x2 x3 L (s1 ++ rr) s2 (.slice A1 (s1 ++ rr).length c1) (.slice A1 (s1 ++ rr).length c1) w12 by rw [hw]; exact HM8.out.ents); clear HM8 hw hm2 zm2; have hm0 : w12.cell? ⟨gm, 0, none⟩ = some (.int .i64 s2) := (zK HM9.out.bM 0).trans rfl; have zm0 := zM HM9.out.bM 0; have hs20 := HLN.out.2.1; have hs21 : s2 ≤ 1010 := by have := HLN.out.2.2.1; have := HL3.out; omega)
    | ((with_reducible refine ZK (t := 2) (p := 93) rfl ?_); refine qy (t := 2) (p := 93) (v := ?vo93) (w1 := (w12.setCell ⟨gm, 0, none⟩ (.int .i64 (s2 + 1)))) ?hg ?ho ?hn ?hr ?_; (case ho => rfl); (case hg => rfl); (case hn => rfl); (case hr => first | (go_simp; done) | (go_simp; rfl)); intro w13 hw; have HMA := zA.mk (show MmL w0 gm gF gI gO cO gR cols f0 f1 x0 x1 x2 x3 L (s1 ++ rr) (s2 + 1) (.slice A1 (s1 ++ rr).length c1) (.slice A1 (s1 ++ rr).length c1) w13 by rw [hw]; exact HM9.out.rows (s2 + 1)); clear HM9 hw hm0 zm0))
   go_roundg (L.length - (i + 1))
   case measure => omega
   case rel => exact ⟨i + 1, s1 ++ rr, s2 + 1, _, by omega, by omega, by go_num, HS1, ⟨HMA.out.again⟩, ⟨by have := HLN.out.1; have := HLN.out.2.1; have := HLR.out; rw [List.length_append]; omega, by omega, by have := HLN.out.2.2.1; omega, Kd.zB5 HMA.out.rL gO (by simp [Value.ownBlock])⟩⟩
def zFz (l : List (List zq)) : Prop := l.length ≤ 8 ∧ (∀ r ∈ l, r.length ≤ 4) ∧ ∀ r ∈ l, ∀ x ∈ r, ¬ x.f0 < 0 → x.f0 < (l.length : Int) ∧ 0 ≤ x.f1 ∧ x.f1 ≤ 23
instance (l : List (List zq)) : Decidable (zFz l) := by unfold zFz; infer_instance
def zBA (l : List (List zq)) : List Int × Int := zC4 (zA7 (7 * l.length)) l 0 ([], 0)
def zv.f (l : List (List zq)) : Option (Int × Int × List Int) := if zFz l then some ((zBA l).2, (7 * (l.length : Int)), (zBA l).1) else none
theorem sum_le {l : List (List zq)} (h : ∀ r ∈ l, r.length ≤ 4) : (l.map List.length).sum ≤ 4 * l.length := by
  induction l with
  | nil => simp
  | cons r rs ih =>
    have h1 := h r (List.mem_cons_self ..)
    have h2 := ih (fun x hx => h x (List.mem_cons_of_mem _ hx))
    simp only [yjy, List.sum_cons, List.length_cons]
    omega
theorem zDn {cols : Nat} (s : List Int × Int) (j f : Nat) (x : zq) : (zA7 cols s j f x).2.toNat ≤ s.2.toNat + 4 := by
  unfold zA7
  split
  · omega
  · have := zAs cols j f x.f0 (ZF x.f1) (zDi [(f : Int)]) s
    have := zDO (f : Int)
    omega
theorem zFr {l : List (List zq)} (hok : zFz l) {w : World} {gm : Nat} (s : List Int × Int) (W : World) (j f : Nat) (x : zq) (hI : zC5 w gm (7 * l.length) s W) (hF : zEV l j f x) (hb : ¬ x.f0 < 0) (hc : s.2.toNat + 4 ≤ 200) :
    Calls Try.prog 191 (#[.int .i64 (j : Int), .int .i64 (f : Int), .agg #[.int .i64 x.f0, .int .i64 x.f1], .agg #[.int .i64 (zu x.f1 0), .int .i64 (zu x.f1 1), .int .i64 (zu x.f1 2), .int .i64 (zu x.f1 3)]] ++ #[.pointer (some ⟨gm, 0, none⟩)]) W fun e W' => e = .returned (.tuple #[]) ∧ zC5 w gm (7 * l.length) (zA7 (7 * l.length) s j f x) W' := by
  obtain ⟨h1, h2, h3⟩ := hF
  obtain ⟨q0, q1, q2⟩ := hok
  have q3 := q1 _ (List.getElem_mem h1)
  have q4 := q2 _ (List.getElem_mem h1) x (by rw [← h3]; exact List.getElem_mem h2) hb
  have e : (#[.int .i64 (j : Int), .int .i64 (f : Int), .agg #[.int .i64 x.f0, .int .i64 x.f1], .agg #[.int .i64 (zu x.f1 0), .int .i64 (zu x.f1 1), .int .i64 (zu x.f1 2), .int .i64 (zu x.f1 3)]] ++ #[.pointer (some ⟨gm, 0, none⟩)] : Array Value) = #[.int .i64 (j : Int), .int .i64 (f : Int), .agg #[.int .i64 x.f0, .int .i64 x.f1], .agg #[.int .i64 (zu x.f1 0), .int .i64 (zu x.f1 1), .int .i64 (zu x.f1 2), .int .i64 (zu x.f1 3)], .pointer (some ⟨gm, 0, none⟩)] := rfl
  rw [e]
  exact Jg.calls w W gm (7 * l.length) s j f x.f0 x.f1 hI (by omega) (by omega) (by omega) (by omega) (by omega) q4.2.1 q4.2.2 (by omega)
set_option maxHeartbeats 8000000 in
set_option maxRecDepth 100000 in
theorem zv.calls (A0_0 : Option Addr) (c0_0 : Nat) (l0_0 : List (List zq)) (r1 r2 : Int) (r3 : List Int) (w : World) (hr0_0 : Kd.C (Kd.slice 74 qv) w A0_0 l0_0.length l0_0) (hc0_0 : l0_0.length ≤ c0_0) (h : zv.f l0_0 = some (r1, r2, r3)) :
    Calls Try.prog 188 #[.agg #[.slice A0_0 l0_0.length c0_0]] w fun e w' => ∃ v2_ : Value, e = .returned (.agg #[.int .i64 r1, .int .i64 r2, v2_]) ∧ Kd.R (Kd.int .i64) 2 w' w.heap.size (fun _ => True) v2_ r3 ∧ Below w.heap.size w w' := by
  unfold zv.f at h
  by_cases hok : zFz l0_0
  case neg => rw [if_neg hok] at h; cases h
  rw [if_pos hok] at h
  have h' := yey h
  simp only [Prod.mk.injEq] at h'
  obtain ⟨q1, q2, q3⟩ := h'
  have HQ := zA.mk (And.intro q1 (And.intro q2 q3))
  have HOK := zA.mk hok
  have HR := zA.mk hr0_0
  have HC := zA.mk hc0_0
  have hl8 : l0_0.length ≤ 8 := hok.1
  clear h hok hr0_0 hc0_0 q1 q2 q3
  go_enter Try.func188, Try.ntmps188
  have BT := zA.mk (zH (QO (W := w) rfl (.cells #[.slice A0_0 l0_0.length c0_0] 28)) (.cells #[.int .i64 0, .int .i64 0, .slice none 0 0] 156))
  have BR := zA.mk (QO (W := w.alloc (.cells #[.slice A0_0 l0_0.length c0_0] 28)) (n := w.heap.size + 1) (by simp) (.cells #[.int .i64 0, .int .i64 0, .slice none 0 0] 156))
  have HB := zA.mk (zC (zC (yry w.heap.size w) (.cells #[.slice A0_0 l0_0.length c0_0] 28)) (.cells #[.int .i64 0, .int .i64 0, .slice none 0 0] 156))
  go_wp2_with (first
    | (go_at_call 79; refine (qi.calls A0_0 c0_0 l0_0 (l0_0.length : Int) _ (Kd.zf HR.out HB.out) HC.out rfl).mono ?_; rintro e w2 ⟨rfl, hd⟩; have hb := zb.below hd; clear hd; have BT2 := zA.mk (zP BT.out hb); have BR2 := zA.mk (zP BR.out hb); have HB2 := zA.mk (zN HB.out hb); clear BT BR HB hb; have hT2 : w2.cell? ⟨w.heap.size, 0, none⟩ = some (.slice A0_0 l0_0.length c0_0) := (zK BT2.out 0).trans rfl; have hz2 : w.heap.size < w2.heap.size := qc BT2.out; have hzn : w.heap.size ≠ w2.heap.size := by omega)
    | (go_at_call 154; refine (zDk.calls 191 _ Try.func191 (by kernel_rfl) rfl #[.pointer (some ⟨w2.heap.size, 0, none⟩)] l0_0 A0_0 c0_0 w2 _ (zC5 w2 w2.heap.size (7 * l0_0.length)) (zA7 (7 * l0_0.length)) ([], 0) (fun s => s.2.toNat) 200 zDn ?aN (fun _ _ _ h hb => h.stays hb) (fun _ _ h => h.below) (Kd.zf HR.out HB2.out) (fun r hr x hx hb => ⟨(HOK.out.2.2 r hr x hx hb).2.1, (HOK.out.2.2 r hr x hx hb).2.2⟩) ?aS ?a0).mono ?_; (case aN => have := sum_le HOK.out.2.1; have := HOK.out.1; show 0 + _ ≤ _; omega); (case aS => exact zFr HOK.out); (case a0 => exact ⟨zC (yry _ _) _, ⟨.slice none 0 0, QO rfl _, Kd.zAi _ _ _ _ _⟩, yqy _, by simp⟩); rintro e w3 ⟨rfl, hI⟩; have HI := zA.mk (show zC5 w2 w2.heap.size (7 * l0_0.length) (zBA l0_0) w3 from hI); clear hI hT2 hz2 hzn; obtain ⟨v, hM, hE⟩ := HI.out.ex; obtain ⟨Av, cv, rfl⟩ := Kd.Zd hE; have HM := zA.mk hM; have HE := zA.mk hE; have BR3 := zA.mk (zP BR2.out HI.out.below); have HB3 := zA.mk (zN HB2.out HI.out.below); clear hM hE BR2; have hm0 : w3.cell? ⟨w2.heap.size, 0, none⟩ = some (.int .i64 (zBA l0_0).2) := (zK HM.out 0).trans rfl; have hm1 : w3.cell? ⟨w2.heap.size, 1, none⟩ = some (.int .i64 ((7 * l0_0.length : Nat) : Int)) := (zK HM.out 1).trans rfl; have hm2 : w3.cell? ⟨w2.heap.size, 2, none⟩ = some (.slice Av (zBA l0_0).1.length cv) := (zK HM.out 2).trans rfl; have hr0 := zM BR3.out 0; have hr1 := zM BR3.out 1; have hr2 := zM BR3.out 2; have hrc0 : w3.cell? ⟨w.heap.size + 1, 0, none⟩ = some (.int .i64 0) := (zK BR3.out 0).trans rfl; have hrc1 : w3.cell? ⟨w.heap.size + 1, 1, none⟩ = some (.int .i64 0) := (zK BR3.out 1).trans rfl; have hrc2 : w3.cell? ⟨w.heap.size + 1, 2, none⟩ = some (.slice none 0 0) := (zK BR3.out 2).trans rfl))
  refine bodyPost_ret (results_cell_row rfl _ _ (w.heap.size + 1) 156 #[.int .i64 (zBA l0_0).2, .int .i64 ((7 * l0_0.length : Nat) : Int), .slice Av (zBA l0_0).1.length cv] (0, 0) _ rfl (by refine qa (cs := #[.int .i64 (zBA l0_0).2, .int .i64 ((7 * l0_0.length : Nat) : Int), .slice none 0 0]) ?_ 2 _ rfl; refine qa (cs := #[.int .i64 (zBA l0_0).2, .int .i64 0, .slice none 0 0]) ?_ 1 _ rfl; refine qa (cs := #[.int .i64 0, .int .i64 0, .slice none 0 0]) ?_ 0 _ rfl; exact BR3.out) Try.underlying156 rfl (by kernel_rfl)) rfl ?_
  obtain ⟨e1, e2, e3⟩ := HQ.out
  refine ⟨_, by rw [← e1, ← e2]; rfl, ?_, ?_⟩
  · rw [← e3]
    exact Kd.qT (Kd.zCs (Kd.zCs (Kd.zCs (Kd.ZY HE.out HB2.out.size) BR3.out (by decide) 0 _) (qa BR3.out 0 _ rfl) (by decide) 1 _) (qa (qa BR3.out 0 _ rfl) 1 _ rfl) (by decide) 2 _) (fun _ _ => trivial)
  · exact zF (zF (zF HB3.out (by omega)) (by omega)) (by omega)
set_option maxHeartbeats 8000000 in
set_option maxRecDepth 100000 in
theorem zAu.calls (rows cols i : Int) (A0 : Option Addr) (c0 : Nat) (l : List Int) (w : World) (hr : Kd.C (Kd.int .i64) w A0 l.length l) (hc : l.length ≤ c0) (h0 : 0 ≤ wrap64 (i * cols)) (h1 : wrap64 (i * cols) ≤ wrap64 (wrap64 (i + 1) * cols)) (h2 : wrap64 (wrap64 (i + 1) * cols) ≤ l.length) :
    Calls Try.prog 190 #[.agg #[.int .i64 rows, .int .i64 cols, .slice A0 l.length c0], .int .i64 i] w fun e w' => ∃ A1 c1, e = .returned (.slice A1 ((l.take (wrap64 (wrap64 (i + 1) * cols)).toNat).drop (wrap64 (i * cols)).toNat).length c1) ∧
      Kd.C (Kd.int .i64) w' A1 ((l.take (wrap64 (wrap64 (i + 1) * cols)).toNat).drop (wrap64 (i * cols)).toNat).length ((l.take (wrap64 (wrap64 (i + 1) * cols)).toNat).drop (wrap64 (i * cols)).toNat) ∧ ((l.take (wrap64 (wrap64 (i + 1) * cols)).toNat).drop (wrap64 (i * cols)).toNat).length ≤ c1 ∧ Below w.heap.size w w' := by
  obtain ⟨i0, hi, hz0, hz1, hz2⟩ := info_parts JL
  obtain ⟨A1, k1, k2, k3⟩ := zBn (k := .i64) 41 2 Try.underlying41 hi hz1 A0 c0 l _ _ h0 h1 h2 hc
  have HK := zA.mk k2
  have HK3 := zA.mk k3
  have HR := zA.mk hr
  have HB := zA.mk (zC (yry w.heap.size w) (.cells #[.int .i64 rows, .int .i64 cols, .slice A0 l.length c0] 156))
  clear hr hc h0 h1 h2 k2 k3 hz0 hz1 hz2 hi
  generalize ((l.take (wrap64 (wrap64 (i + 1) * cols)).toNat).drop (wrap64 (i * cols)).toNat) = rr at *
  go_enter Try.func190, Try.ntmps190
  go_wp2
  go_ret
  exact ⟨A1, _, rfl, Kd.zDb (HK.out _ (Kd.zBH (Kd.zf HR.out HB.out))), HK3.out, HB.out⟩
def zDo : List Int → List Int → Int → Int
  | x :: xs, y :: ys, s => zDo xs ys (wrap64 (s + wrap64 (x * y)))
  | _, _, s => s
def rowAt (cols : Nat) (l : List Int) (i : Nat) : List Int := (l.take ((i + 1) * cols)).drop (i * cols)
def Jh (cols : Nat) (l v : List Int) : Nat → Nat → Bool
  | 0, _ => true
  | d + 1, i => if zDo (rowAt cols l i) v 0 = 0 then Jh cols l v d (i + 1) else false
def zFH (rows cols : Int) (l v : List Int) : Prop := 0 ≤ rows ∧ rows ≤ 100000 ∧ 0 ≤ cols ∧ cols ≤ 1000 ∧ (l.length : Int) = rows * cols ∧ cols ≤ v.length
instance (rows cols : Int) (l v : List Int) : Decidable (zFH rows cols l v) := by unfold zFH; infer_instance
def Za.f (a0_0 a0_1 : Int) (l0_2 l1 : List Int) : Option Bool := if zFH a0_0 a0_1 l0_2 l1 then some (Jh a0_1.toNat l0_2 l1 a0_0.toNat 0) else none
theorem wid9 {x : Int} (h0 : -9223372036854775808 ≤ x) (h1 : x ≤ 9223372036854775807) : wrap64 x = x := by unfold wrap64; omega
theorem row_ix {n c i m : Nat} (hm : m = n * c) (hn : n ≤ 100000) (hc : c ≤ 1000) (hi : i < n) : wrap64 ((i : Int) * (c : Int)) = ((i * c : Nat) : Int) ∧ wrap64 (wrap64 ((i : Int) + 1) * (c : Int)) = (((i + 1) * c : Nat) : Int) ∧ i * c ≤ (i + 1) * c ∧ (i + 1) * c ≤ m := by
  have h1 : (i + 1) * c ≤ n * c := Nat.mul_le_mul_right c (by omega)
  have h2 : n * c ≤ 100000 * 1000 := Nat.mul_le_mul hn hc
  have h3 : (i + 1) * c = i * c + c := Nat.succ_mul i c
  have e1 : (i : Int) * (c : Int) = ((i * c : Nat) : Int) := by push_cast; rfl
  have e2 : ((i : Int) + 1) * (c : Int) = (((i + 1) * c : Nat) : Int) := by push_cast; rfl
  refine ⟨?_, ?_, by omega, by omega⟩
  · rw [e1]; exact wid9 (by omega) (by omega)
  · rw [wid9 (x := (i : Int) + 1) (by omega) (by omega), e2]; exact wid9 (by omega) (by omega)
set_option maxHeartbeats 8000000 in
set_option maxRecDepth 100000 in
theorem Za.calls (a0_0 a0_1 : Int) (A0_2 : Option Addr) (c0_2 : Nat) (l0_2 : List Int) (A1 : Option Addr) (c1 : Nat) (l1 : List Int) (r : Bool) (w : World) (hr0_2 : Kd.C (Kd.int .i64) w A0_2 l0_2.length l0_2) (hc0_2 : l0_2.length ≤ c0_2) (hr1 : Kd.C (Kd.int .i64) w A1 l1.length l1) (hc1 : l1.length ≤ c1) (h : Za.f a0_0 a0_1 l0_2 l1 = some r) :
    Calls Try.prog 187 #[.agg #[.int .i64 a0_0, .int .i64 a0_1, .slice A0_2 l0_2.length c0_2], .slice A1 l1.length c1] w fun e w' => e = .returned (.bool r) ∧ Below w.heap.size w w' := by
  unfold Za.f at h
  by_cases hok : zFH a0_0 a0_1 l0_2 l1
  case neg => rw [if_neg hok] at h; cases h
  rw [if_pos hok] at h
  obtain ⟨h0, h1, h2, h3, h4, h5⟩ := hok
  obtain ⟨n, rfl⟩ := Int.eq_ofNat_of_zero_le h0
  obtain ⟨c, rfl⟩ := Int.eq_ofNat_of_zero_le h2
  have hm : l0_2.length = n * c := by
    have e1 : ((n : Int) * (c : Int)) = ((n * c : Nat) : Int) := by push_cast; rfl
    rw [e1] at h4; omega
  rw [yny, yny] at h
  have HA : zA (Jh c l0_2 l1 (n - 0) 0 = r) := ⟨yey h⟩
  have HM := zA.mk hm
  have HR := zA.mk hr0_2
  have HC := zA.mk hc0_2
  have HV := zA.mk hr1
  have HVC := zA.mk hc1
  have hvb : l1.length ≤ 9223372036854775807 := hr1.2.1
  have hn9 : n ≤ 100000 := by omega
  have hc9 : c ≤ 1000 := by omega
  have hcv : c ≤ l1.length := by omega
  clear h h0 h1 h2 h3 h4 h5 hm hr0_2 hc0_2 hr1 hc1
  have BM := zA.mk (QO (W := w) rfl (.cells #[.int .i64 (n : Int), .int .i64 (c : Int), .slice A0_2 l0_2.length c0_2] 156))
  have HB := zA.mk (zC (yry w.heap.size w) (.cells #[.int .i64 (n : Int), .int .i64 (c : Int), .slice A0_2 l0_2.length c0_2] 156))
  go_enter Try.func187, Try.ntmps187
  go_wp2
  go_loopg [11] n (fun gg v11 w' => ∃ i : Nat, i ≤ n ∧ n - i ≤ gg ∧ v11 = .int .i64 i ∧ zA (Jh c l0_2 l1 (n - i) i = r) ∧ zA (w'.heap[w.heap.size]? = some (.cells #[.int .i64 (n : Int), .int .i64 (c : Int), .slice A0_2 l0_2.length c0_2] 156 (0, 0))) ∧ zA (Below w.heap.size w w'))
  case atStart => exact ⟨0, Nat.zero_le _, by omega, rfl, HA, BM, HB⟩
  case round =>
    clear HA BM HB
    obtain ⟨i, hi, hg, rfl, HA, BM, HB⟩ := hrel
    by_cases hlt : i < n
    · have hltz : (i : Int) < (n : Int) := by omega
      have HIX := zA.mk (row_ix HM.out hn9 hc9 hlt)
      have hm0 : wr.cell? ⟨w.heap.size, 0, none⟩ = some (.int .i64 (n : Int)) := (zK BM.out 0).trans rfl
      have hm1 : wr.cell? ⟨w.heap.size, 1, none⟩ = some (.int .i64 (c : Int)) := (zK BM.out 1).trans rfl
      have hm2 : wr.cell? ⟨w.heap.size, 2, none⟩ = some (.slice A0_2 l0_2.length c0_2) := (zK BM.out 2).trans rfl
      have HA2 := HA.out
      rw [show n - i = (n - (i + 1)) + 1 by omega, Jh] at HA2
      have hrl : (rowAt c l0_2 i).length = c := by
        have := HIX.out.2.2.2
        have h3 : (i + 1) * c = i * c + c := Nat.succ_mul i c
        unfold rowAt; rw [yly, ymy]; omega
      have hrw : (l0_2.take (wrap64 (wrap64 ((i : Int) + 1) * (c : Int))).toNat).drop (wrap64 ((i : Int) * (c : Int))).toNat = rowAt c l0_2 i := by
        rw [HIX.out.1, HIX.out.2.1, yny, yny]; rfl
      have HROW := zA.mk (zAu.calls (n : Int) (c : Int) (i : Int) A0_2 c0_2 l0_2 wr (Kd.zf HR.out HB.out) HC.out (by rw [HIX.out.1]; omega) (by rw [HIX.out.1, HIX.out.2.1]; have := HIX.out.2.2.1; omega) (by rw [HIX.out.2.1]; have := HIX.out.2.2.2; omega))
      rw [hrw] at HROW
      have HD : zA (zDo ((rowAt c l0_2 i).drop 0) (l1.drop 0) 0 = zDo (rowAt c l0_2 i) l1 0) := ⟨by rw [List.drop_zero, List.drop_zero]⟩
      have HRL := zA.mk hrl
      generalize zDo (rowAt c l0_2 i) l1 0 = D at HD HA2
      generalize rowAt c l0_2 i = rr at HROW HD HRL
      have HA3 := zA.mk HA2
      clear HA HA2 hrl hrw HIX
      go_wp2_with (first | (go_at_call 190; refine HROW.out.mono ?_; rintro e w2 ⟨A2, c2, rfl, k1, k2, k3⟩; have HRR := zA.mk k1; have BM2 := zA.mk (zP BM.out k3); have HB2 := zA.mk (zN HB.out k3); have hrb : rr.length ≤ 9223372036854775807 := k1.2.1; clear k1 k2 k3 BM HB hm0 hm1 hm2 HROW))
      have hlv : rr.length ≤ l1.length := by rw [HRL.out]; exact hcv
      go_loopg [6, 18] rr.length (fun gg v6 v18 w' => ∃ (j : Nat) (s : Int), j ≤ rr.length ∧ rr.length - j ≤ gg ∧ v18 = .int .i64 j ∧ v6 = .int .i64 s ∧ zA (zDo (rr.drop j) (l1.drop j) s = D) ∧ zA (Kd.C (Kd.int .i64) w' A2 rr.length rr) ∧ zA (w'.heap[w.heap.size]? = some (.cells #[.int .i64 (n : Int), .int .i64 (c : Int), .slice A0_2 l0_2.length c0_2] 156 (0, 0))) ∧ zA (Below w.heap.size w w'))
      case atStart => exact ⟨0, 0, Nat.zero_le _, by omega, rfl, rfl, HD, HRR, BM2, HB2⟩
      case round =>
        clear HD HRR BM2 HB2
        obtain ⟨j, s, hj, hgj, rfl, rfl, HD, HRR, BM, HB⟩ := hrel
        by_cases hlj : j < rr.length
        · have hljz : (j : Int) < (rr.length : Int) := by omega
          have hljv : (j : Int) < (l1.length : Int) := by omega
          obtain ⟨ad1, e1, hx⟩ := Kd.ZB HRR.out (j : Int) (by omega) hljz
          obtain ⟨ad2, e2, hy⟩ := Kd.ZB HV.out (j : Int) (by omega) hljv
          have ex : rd rr (j : Int) = rr[j] := by simp [rd, hlj]
          have ey : rd l1 (j : Int) = l1[j] := by have : j < l1.length := by omega
                                                  simp [rd, this]
          rw [ex, yny] at hx
          rw [ey, yny] at hy
          replace hy := (HB.out.cell (ypy w _ hy)).trans hy
          have HD2 := HD.out
          rw [yoy hlj, yoy (show j < l1.length by omega), zDo] at HD2
          have HD3 := zA.mk HD2
          clear HD HD2 ex ey
          generalize rr[j] = x at hx HD3
          generalize l1[j] = y at hy HD3
          cases e1
          cases e2
          go_wp2
          go_roundg (rr.length - (j + 1))
          case measure => omega
          case rel => exact ⟨j + 1, _, by omega, by omega, by go_num, rfl, HD3, HRR, BM, HB⟩
        · obtain rfl : j = rr.length := by omega
          have hljz : ¬ (rr.length : Int) < (rr.length : Int) := by omega
          have HD2 := HD.out
          rw [List.drop_length] at HD2
          have HD3 : s = D := by rw [← HD2]; cases l1.drop rr.length <;> rfl
          subst HD3
          by_cases hz : s = 0
          · have HA4 := HA3.out
            rw [if_pos hz] at HA4
            have HA5 := zA.mk HA4
            subst hz
            clear HA4 HA3 HD HD2
            go_wp2
            go_roundg (n - (i + 1))
            case measure => omega
            case rel => exact ⟨i + 1, by omega, by omega, by go_num, HA5, BM, HB⟩
          · have HA4 := HA3.out
            rw [if_neg hz] at HA4
            subst HA4
            have b1 : (s == 0) = false := beq_eq_false_iff_ne.mpr hz
            have b2 : (s != 0) = true := bne_iff_ne.mpr hz
            clear HA3 HD HD2 hz
            go_wp2
            go_ret
            exact ⟨rfl, HB.out⟩
    · obtain rfl : i = n := by omega
      have hltz : ¬ (i : Int) < (i : Int) := by omega
      have HA2 := HA.out
      rw [Nat.sub_self, Jh] at HA2
      subst HA2
      clear HA
      go_wp2
      go_ret
      exact ⟨rfl, HB.out⟩
def ZA.f (a0 : Int) (a1 : Int) (a2 : Int) : Option (Bool) := if a1 ≤ a0 then (some (decide (a0 ≤ a2))) else (some false)
set_option maxHeartbeats 8000000 in
set_option maxRecDepth 100000 in
theorem ZA.calls (a0 : Int) (a1 : Int) (a2 : Int) (r : Bool) (w : World) (h : ZA.f a0 a1 a2 = some r) :
    Calls Try.prog 58 #[.int .i64 a0, .int .i64 a1, .int .i64 a2] w fun e w' => e = .returned (.bool r) ∧ zb w w' := by
  have H : (if a1 ≤ a0 then (some (decide (a0 ≤ a2))) else (some false)) = some r := h
  clear h
  by_cases c4 : a1 ≤ a0
  · rw [if_pos c4] at H
    have c4b0 : decide (a1 ≤ a0) = true := ygy c4
    clear c4
    obtain rfl := yey H
    go_enter Try.func58, Try.ntmps58
    go_wp2
    go_ret
    exact ⟨by first | rfl | (simp; done) | (simp [*]; done), by repeat (first | exact zb.refl _ | apply zb.step)⟩
  · rw [if_neg c4] at H
    have c4b0 : decide (a1 ≤ a0) = false := yhy c4
    clear c4
    obtain rfl := yey H
    go_enter Try.func58, Try.ntmps58
    go_wp2
    go_ret
    exact ⟨by first | rfl | (simp; done) | (simp [*]; done), by repeat (first | exact zb.refl _ | apply zb.step)⟩
def qJ.f (a0 : Int) : Option (Bool) := (ZA.f a0 0 1000).bind fun t101 => (some (!t101))
set_option maxHeartbeats 8000000 in
set_option maxRecDepth 100000 in
theorem qJ.calls (a0 : Int) (r : Bool) (w : World) (h : qJ.f a0 = some r) :
    Calls Try.prog 186 #[.int .i64 a0] w fun e w' => e = .returned (.bool r) ∧ zb w w' := by
  have H : ((ZA.f a0 0 1000).bind fun t101 => (some (!t101))) = some r := h
  clear h
  replace H := ydy.mp H
  obtain ⟨t101, A20, H⟩ := H
  replace H : (some (!t101)) = some r := H
  have A2 := zA.mk A20
  clear A20
  obtain rfl := yey H
  go_enter Try.func186, Try.ntmps186
  go_wp2_with (first | ((with_reducible refine zT (f := 58) rfl ?_); refine qC (some 4) rfl rfl Try.func58 (by kernel_rfl) rfl #[.int .i64 a0, .int .i64 0, .int .i64 1000] rfl (by (try simp only [yiy, yjy, yky]); first | done | rfl | (simp only [yly, ymy]; rfl)) ?_; (with_reducible refine (ZA.calls a0 0 1000 t101 _ A2.out).mono ?_); rintro e w' ⟨rfl, ⟨nd, rfl⟩⟩; refine ⟨_, rfl, ?_⟩))
  go_ret
  exact ⟨by first | rfl | (simp; done) | (simp [*]; done), by repeat (first | exact zb.refl _ | apply zb.step)⟩
end Go.Proofs.Ytdgdnnjigigkcaa.P
namespace Go.Proofs.Ytdgdnnjigigkcaa.Lib
open Go.RowKit Go.Proofs.YtdgdnnjigigkcaaW.PrintWords
def zDp {α : Type} (f : α → Option Bool) : Nat → List α → Option Int
  | _, [] => some (-1)
  | i, x :: xs => (f x).bind fun b => if b = true then some (i : Int) else zDp f (i + 1) xs
theorem zAv {α : Type} (f : α → Option Bool) (i : Nat) (x : α) (xs : List α) : zDp f i (x :: xs) = (f x).bind fun b => if b = true then some (i : Int) else zDp f (i + 1) xs := rfl
end Go.Proofs.Ytdgdnnjigigkcaa.Lib
namespace Go.Proofs.Ytdgdnnjigigkcaa.P
open Go.RowKit Go.Proofs.YtdgdnnjigigkcaaW.PrintWords Go.Proofs.YtdgdnnjigigkcaaW.PrintLast Go.Proofs.YtdgdnnjigigkcaaW.PrintMore
attribute [local go_sem] QV QW Qv Qw QC QD QX QY
set_option linter.unusedVariables false
set_option linter.unusedSimpArgs false
open Go.Proofs.Ytdgdnnjigigkcaa.Lib
def zy.f (l0 : List Int) : Option Int := zDp (fun x => qJ.f x) 0 l0
set_option maxHeartbeats 8000000 in
set_option maxRecDepth 100000 in
theorem zy.calls (A0 : Option Addr) (c0 : Nat) (l0 : List Int) (r : Int) (w : World) (hr0 : Kd.C (Kd.int .i64) w A0 l0.length l0) (hc0 : l0.length ≤ c0) (h : zy.f l0 = some r) :
    Calls Try.prog 163 #[.slice A0 l0.length c0, .func (.func 186) #[] #[]] w fun e w' => e = .returned (.int .i64 r) ∧ Below w.heap.size w w' := by
  have HR0 := zA.mk hr0
  clear hr0 hc0
  have hbig : l0.length ≤ 9223372036854775807 := HR0.out.2.1
  have HB := zA.mk (yry w.heap.size w)
  have H' := zA.mk (show zDp (fun x => qJ.f x) 0 l0 = some r from h)
  clear h
  go_enter Try.func163, Try.ntmps163
  go_wp2
  go_loopg [5, 8] l0.length (fun gg v5 v8 w' => ∃ kk : Nat, kk ≤ l0.length ∧ l0.length - kk ≤ gg ∧ v8 = .int .i64 kk ∧ zA (zDp (fun x => qJ.f x) kk (l0.drop kk) = some r) ∧ zA (Below w.heap.size w w'))
  case atStart => exact ⟨0, Nat.zero_le _, by omega, rfl, H', HB⟩
  case round =>
    clear H' HB
    obtain ⟨kk, hkk, hg, rfl, HA, HB⟩ := hrel
    by_cases hlt : kk < l0.length
    · have hltz : (kk : Int) < (l0.length : Int) := by omega
      have H := HA.out
      clear HA
      rw [yoy hlt, zAv] at H
      replace H := ydy.mp H
      obtain ⟨b, hb, H⟩ := H
      obtain ⟨ad, e104, hx⟩ := Kd.ZB HR0.out (kk : Int) (by omega) (by omega)
      have ex : rd l0 (kk : Int) = l0[kk] := by simp [rd, hlt]
      rw [ex, yny] at hx
      replace hx := (HB.out.cell (ypy w _ hx)).trans hx
      generalize l0[kk] = y at hx hb
      clear ex
      cases e104
      have HC := zA.mk hb
      clear hb
      cases b with
      | true =>
        have H2 := zA.mk H
        clear H
        go_wp2_with fail
        refine (qJ.calls _ _ _ HC.out).mono ?_
        rintro e w' ⟨rfl, hd⟩
        have HB2 := zA.mk (zN HB.out hd.below)
        clear hd HB
        go_wp2
        go_ret
        exact ⟨by rw [yey H2.out]; rfl, HB2.out⟩
      | false =>
        have H2 := zA.mk H
        clear H
        go_wp2_with fail
        refine (qJ.calls _ _ _ HC.out).mono ?_
        rintro e w' ⟨rfl, hd⟩
        have HB2 := zA.mk (zN HB.out hd.below)
        clear hd HB
        go_wp2
        go_roundg (l0.length - (kk + 1))
        case measure => omega
        case rel => exact ⟨kk + 1, by omega, by omega, by go_num, H2, HB2⟩
    · have hltz : ¬ (kk : Int) < (l0.length : Int) := by omega
      have e : kk = l0.length := by omega
      subst e
      have H2 := zA.mk (yey (by simpa [zDp] using HA.out))
      clear HA
      go_wp2
      go_ret
      exact ⟨by rw [← H2.out]; rfl, HB.out⟩
def zZ.f (l0 : List Int) : Option Bool := (zy.f l0).bind fun i => some (decide (0 ≤ i))
set_option maxHeartbeats 8000000 in
set_option maxRecDepth 100000 in
theorem zZ.calls (A0 : Option Addr) (c0 : Nat) (l0 : List Int) (r : Bool) (w : World) (hr0 : Kd.C (Kd.int .i64) w A0 l0.length l0) (hc0 : l0.length ≤ c0) (h : zZ.f l0 = some r) :
    Calls Try.prog 134 #[.slice A0 l0.length c0, .func (.func 186) #[] #[]] w fun e w' => e = .returned (.bool r) ∧ Below w.heap.size w w' := by
  obtain ⟨i, hi, h⟩ := ydy.mp h
  have H := zA.mk (yey h)
  clear h
  have HI := zA.mk hi
  clear hi
  have HR0 := zA.mk hr0
  have HC0 := zA.mk hc0
  clear hr0 hc0
  go_enter Try.func134, Try.ntmps134
  go_wp2_with fail
  refine (zy.calls _ _ _ _ _ HR0.out HC0.out HI.out).mono ?_
  rintro e w' ⟨rfl, hd⟩
  have HB := zA.mk hd
  clear hd
  go_wp2
  go_ret
  exact ⟨by rw [← H.out]; rfl, HB.out⟩
end Go.Proofs.Ytdgdnnjigigkcaa.P
namespace Go.Proofs.Ytdgdnnjigigkcaa.P
open Go.RowKit Go.Proofs.YtdgdnnjigigkcaaW.PrintWords Go.Proofs.YtdgdnnjigigkcaaW.PrintLast Go.Proofs.YtdgdnnjigigkcaaW.PrintMore
attribute [local go_sem] QV QW Qv Qw QC QD QX QY
set_option linter.unusedVariables false
set_option linter.unusedSimpArgs false
def qW.f (l0_0 : List (List (zq))) (l1 : List Int) : Option (Bool) := if (l1.length : Int) = (wrap64 (7 * (l0_0.length : Int))) then ((zZ.f l1).bind fun t102 => (if t102 = true then (some false) else ((zv.f l0_0).bind fun bt103 => ((Za.f bt103.1 bt103.2.1 bt103.2.2 l1).bind fun t108 => (some t108))))) else (some false)
set_option maxHeartbeats 8000000 in
set_option maxRecDepth 100000 in
theorem qW.calls (A0_0 : Option Addr) (c0_0 : Nat) (l0_0 : List (List (zq))) (A1 : Option Addr) (c1 : Nat) (l1 : List Int) (r : Bool) (w : World) (hr0_0 : Kd.C (Kd.slice 74 qv) w A0_0 l0_0.length l0_0) (hc0_0 : l0_0.length ≤ c0_0) (hr1 : Kd.C (Kd.int .i64) w A1 l1.length l1) (hc1 : l1.length ≤ c1) (h : qW.f l0_0 l1 = some r) :
    Calls Try.prog 178 #[.agg #[.slice A0_0 l0_0.length c0_0], .slice A1 l1.length c1] w fun e w' => e = .returned (.bool r) ∧ Below w.heap.size w w' := by
  have hu28 := Try.underlying28
  have HR0_0 := zA.mk hr0_0
  have HC0_0 := zA.mk hc0_0
  clear hr0_0 hc0_0
  have HR1 := zA.mk hr1
  have HC1 := zA.mk hc1
  clear hr1 hc1
  have HB := zA.mk (yry w.heap.size w)
  have H : (if (l1.length : Int) = (wrap64 (7 * (l0_0.length : Int))) then ((zZ.f l1).bind fun t102 => (if t102 = true then (some false) else ((zv.f l0_0).bind fun bt103 => ((Za.f bt103.1 bt103.2.1 bt103.2.2 l1).bind fun t108 => (some t108))))) else (some false)) = some r := h
  clear h
  by_cases c3 : (l1.length : Int) = (wrap64 (7 * (l0_0.length : Int)))
  · rw [if_pos c3] at H
    have c3b0 : ((l1.length : Int) == (wrap64 (7 * (l0_0.length : Int)))) = true := beq_iff_eq.mpr c3
    have c3b1 : ((l1.length : Int) != (wrap64 (7 * (l0_0.length : Int)))) = false := bne_eq_false_iff_eq.mpr c3
    clear c3
    replace H := ydy.mp H
    obtain ⟨t102, A40, H⟩ := H
    replace H : (if t102 = true then (some false) else ((zv.f l0_0).bind fun bt103 => ((Za.f bt103.1 bt103.2.1 bt103.2.2 l1).bind fun t108 => (some t108)))) = some r := H
    have A4 := zA.mk A40
    clear A40
    by_cases c5 : t102 = true
    · subst c5
      have H1 : (some false) = some r := by rw [if_pos rfl] at H; exact H
      clear H
      have H := H1
      clear H1
      obtain rfl := yey H
      go_enter Try.func178, Try.ntmps178
      go_wp2_with (first | ((with_reducible refine zh (N := 2) rfl ?_); refine zg ?hg (N := 2) ?hd (cs := #[.slice A0_0 l0_0.length c0_0]) (t := 28) ?hr ?_; (case hd => rfl); (case hg => rfl); (case hr => first | (go_simp; done) | (go_simp; rfl)); intro gb101 hg w6 hbox hb; have n0_ := zA.mk (zN (by repeat (first | (with_reducible first | exact HB.out | apply zC | apply zB | apply zD) | exact HB.out)) hb); have n1_ := zA.mk (hbox); have n2_ := zA.mk ((by rw [hg]; exact (zO (by repeat (first | (with_reducible first | exact HB.out | apply zC | apply zB | apply zD) | exact HB.out))) : w.heap.size ≤ gb101)); have n3_ := zA.mk ((by rw [hg]; exact (zO (by repeat (first | (with_reducible first | exact HB.out | apply zC | apply zB | apply zD) | exact HB.out))) : w.heap.size ≤ gb101)); clear HB; have HB := n0_; have BK101 := n1_; have GW101 := n2_; have GE101 := n3_; clear n0_ n1_ n2_ n3_; clear hb hbox hg; have hcz7_0 : w6.cell? ⟨gb101, 0, none⟩ = some (.slice A0_0 l0_0.length c0_0) := (zK BK101.out 0).trans rfl; have hfz7_0 := zM BK101.out 0) | (go_at_call 134; (with_reducible refine (zZ.calls _ _ l1 true _ ?side1 ?side2 A4.out).mono ?_); (case side1 => repeat (first | exact (Kd.zf HR1.out HB.out) | (with_reducible refine Kd.zl ?_ _) | (with_reducible refine Kd.zm ?_ _) | (with_reducible refine Kd.qB ?_))); (case side2 => exact HC1.out); rintro e w8 ⟨rfl, hb⟩; have n0_ := zA.mk (zP (g := gb101) (o := .cells #[.slice A0_0 l0_0.length c0_0] 28 (0, 0)) (by (with_reducible repeat (first | refine zI ?_ _ | refine zJ ?_ | refine zH ?_ _)); exact BK101.out) hb); have n1_ := zA.mk (zN (by repeat (first | (with_reducible first | exact HB.out | apply zC | apply zB | apply zD | refine zF ?_ GE101.out) | exact HB.out)) hb); clear BK101; clear HB; have BK101 := n0_; have HB := n1_; clear n0_ n1_; (try clear hb); (try clear hb2); (try clear hk); (try clear hi)))
      go_ret
      exact ⟨by first | rfl | (simp [zQ, zR] <;> rfl) | (simp [*, zQ, zR] <;> rfl), by repeat (first | (with_reducible first | exact HB.out | apply zC | apply zB | apply zD | refine zF ?_ GE101.out) | exact HB.out)⟩
    · replace c5 := Bool.eq_false_iff.mpr c5
      subst c5
      have H1 : ((zv.f l0_0).bind fun bt103 => ((Za.f bt103.1 bt103.2.1 bt103.2.2 l1).bind fun t108 => (some t108))) = some r := by rw [if_neg (show ¬ (false = true) by decide)] at H; exact H
      clear H
      have H := H1
      clear H1
      replace H := ydy.mp H
      obtain ⟨⟨t103, t104, t105⟩, A90, H⟩ := H
      replace H : ((Za.f t103 t104 t105 l1).bind fun t108 => (some t108)) = some r := H
      have A9 := zA.mk A90
      clear A90
      replace H := ydy.mp H
      obtain ⟨t108, A100, H⟩ := H
      replace H : (some t108) = some r := H
      have A10 := zA.mk A100
      clear A100
      obtain rfl := yey H
      go_enter Try.func178, Try.ntmps178
      go_wp2_with (first | ((with_reducible refine zh (N := 2) rfl ?_); refine zg ?hg (N := 2) ?hd (cs := #[.slice A0_0 l0_0.length c0_0]) (t := 28) ?hr ?_; (case hd => rfl); (case hg => rfl); (case hr => first | (go_simp; done) | (go_simp; rfl)); intro gb101 hg w11 hbox hb; have n0_ := zA.mk (zN (by repeat (first | (with_reducible first | exact HB.out | apply zC | apply zB | apply zD) | exact HB.out)) hb); have n1_ := zA.mk (hbox); have n2_ := zA.mk ((by rw [hg]; exact (zO (by repeat (first | (with_reducible first | exact HB.out | apply zC | apply zB | apply zD) | exact HB.out))) : w.heap.size ≤ gb101)); have n3_ := zA.mk ((by rw [hg]; exact (zO (by repeat (first | (with_reducible first | exact HB.out | apply zC | apply zB | apply zD) | exact HB.out))) : w.heap.size ≤ gb101)); clear HB; have HB := n0_; have BK101 := n1_; have GW101 := n2_; have GE101 := n3_; clear n0_ n1_ n2_ n3_; clear hb hbox hg; have hcz12_0 : w11.cell? ⟨gb101, 0, none⟩ = some (.slice A0_0 l0_0.length c0_0) := (zK BK101.out 0).trans rfl; have hfz12_0 := zM BK101.out 0) | (go_at_call 134; (with_reducible refine (zZ.calls _ _ l1 false _ ?side1 ?side2 A4.out).mono ?_); (case side1 => repeat (first | exact (Kd.zf HR1.out HB.out) | (with_reducible refine Kd.zl ?_ _) | (with_reducible refine Kd.zm ?_ _) | (with_reducible refine Kd.qB ?_))); (case side2 => exact HC1.out); rintro e w13 ⟨rfl, hb⟩; have n0_ := zA.mk (zP (g := gb101) (o := .cells #[.slice A0_0 l0_0.length c0_0] 28 (0, 0)) (by (with_reducible repeat (first | refine zI ?_ _ | refine zJ ?_ | refine zH ?_ _)); exact BK101.out) hb); have n1_ := zA.mk (zN (by repeat (first | (with_reducible first | exact HB.out | apply zC | apply zB | apply zD | refine zF ?_ GE101.out) | exact HB.out)) hb); clear BK101; clear HB; have BK101 := n0_; have HB := n1_; clear n0_ n1_; (try clear hb); (try clear hb2); (try clear hk); (try clear hi); have hcz14_0 : w13.cell? ⟨gb101, 0, none⟩ = some (.slice A0_0 l0_0.length c0_0) := (zK BK101.out 0).trans rfl; have hfz14_0 := zM BK101.out 0) | (go_at_call 188; (with_reducible refine (zv.calls _ _ l0_0 t103 t104 t105 _ ?side1 ?side2 A9.out).mono ?_); (case side1 => repeat (first | exact (Kd.zf HR0_0.out HB.out) | (with_reducible refine Kd.zl ?_ _) | (with_reducible refine Kd.zm ?_ _) | (with_reducible refine Kd.qB ?_))); (case side2 => exact HC0_0.out); rintro e w15 ⟨v106, rfl, ho0, hb⟩; have n0_ := zA.mk (Kd.ZY ho0 (zO (by repeat (first | (with_reducible first | exact HB.out | apply zC | apply zB | apply zD | refine zF ?_ GE101.out) | exact HB.out)))); have n1_ := zA.mk (zP (g := gb101) (o := .cells #[.slice A0_0 l0_0.length c0_0] 28 (0, 0)) (by (with_reducible repeat (first | refine zI ?_ _ | refine zJ ?_ | refine zH ?_ _)); exact BK101.out) hb); have n2_ := zA.mk (zN (by repeat (first | (with_reducible first | exact HB.out | apply zC | apply zB | apply zD | refine zF ?_ GE101.out) | exact HB.out)) hb); clear BK101; clear HB; have HO107 := n0_; have BK101 := n1_; have HB := n2_; clear n0_ n1_ n2_; (try clear hb); (try clear hb2); (try clear hk); (try clear hi); (try clear ho0); obtain ⟨Ao16, co16, eo16⟩ := Kd.Zd HO107.out; subst eo16) | (go_at_call 187; (with_reducible refine (Za.calls t103 t104 _ _ t105 _ _ l1 t108 _ ?side1 ?side2 ?side3 ?side4 A10.out).mono ?_); (case side1 => repeat (first | exact (Kd.qF HO107.out).2.2 | (with_reducible refine Kd.zl ?_ _) | (with_reducible refine Kd.zm ?_ _) | (with_reducible refine Kd.qB ?_))); (case side2 => exact (Kd.qF HO107.out).2.1); (case side3 => repeat (first | exact (Kd.zf HR1.out HB.out) | (with_reducible refine Kd.zl ?_ _) | (with_reducible refine Kd.zm ?_ _) | (with_reducible refine Kd.qB ?_))); (case side4 => exact HC1.out); rintro e w17 ⟨rfl, hb⟩; have n0_ := zA.mk (Kd.Zc (by (with_reducible repeat (first | apply Kd.zj | apply Kd.zk | apply Kd.zx)); exact HO107.out) hb); have n1_ := zA.mk (zP (g := gb101) (o := .cells #[.slice A0_0 l0_0.length c0_0] 28 (0, 0)) (by (with_reducible repeat (first | refine zI ?_ _ | refine zJ ?_ | refine zH ?_ _)); exact BK101.out) hb); have n2_ := zA.mk (zN (by repeat (first | (with_reducible first | exact HB.out | apply zC | apply zB | apply zD | refine zF ?_ GE101.out) | exact HB.out)) hb); clear HO107; clear BK101; clear HB; have HO107 := n0_; have BK101 := n1_; have HB := n2_; clear n0_ n1_ n2_; (try clear hb); (try clear hb2); (try clear hk); (try clear hi)))
      go_ret
      exact ⟨by first | rfl | (simp [zQ, zR] <;> rfl) | (simp [*, zQ, zR] <;> rfl), by repeat (first | (with_reducible first | exact HB.out | apply zC | apply zB | apply zD | refine zF ?_ GE101.out) | exact HB.out)⟩
  · rw [if_neg c3] at H
    have c3b0 : ((l1.length : Int) == (wrap64 (7 * (l0_0.length : Int)))) = false := beq_eq_false_iff_ne.mpr c3
    have c3b1 : ((l1.length : Int) != (wrap64 (7 * (l0_0.length : Int)))) = true := bne_iff_ne.mpr c3
    obtain rfl := yey H
    go_enter Try.func178, Try.ntmps178
    go_wp2_with (first | ((with_reducible refine zh (N := 2) rfl ?_); refine zg ?hg (N := 2) ?hd (cs := #[.slice A0_0 l0_0.length c0_0]) (t := 28) ?hr ?_; (case hd => rfl); (case hg => rfl); (case hr => first | (go_simp; done) | (go_simp; rfl)); intro gb101 hg w18 hbox hb; have n0_ := zA.mk (zN (by repeat (first | (with_reducible first | exact HB.out | apply zC | apply zB | apply zD) | exact HB.out)) hb); have n1_ := zA.mk (hbox); have n2_ := zA.mk ((by rw [hg]; exact (zO (by repeat (first | (with_reducible first | exact HB.out | apply zC | apply zB | apply zD) | exact HB.out))) : w.heap.size ≤ gb101)); have n3_ := zA.mk ((by rw [hg]; exact (zO (by repeat (first | (with_reducible first | exact HB.out | apply zC | apply zB | apply zD) | exact HB.out))) : w.heap.size ≤ gb101)); clear HB; have HB := n0_; have BK101 := n1_; have GW101 := n2_; have GE101 := n3_; clear n0_ n1_ n2_ n3_; clear hb hbox hg; have hcz19_0 : w18.cell? ⟨gb101, 0, none⟩ = some (.slice A0_0 l0_0.length c0_0) := (zK BK101.out 0).trans rfl; have hfz19_0 := zM BK101.out 0))
    go_ret
    exact ⟨by first | rfl | (simp [zQ, zR] <;> rfl) | (simp [*, zQ, zR] <;> rfl), by repeat (first | (with_reducible first | exact HB.out | apply zC | apply zB | apply zD | refine zF ?_ GE101.out) | exact HB.out)⟩
def qI.l0 : Nat → List Int → List Int → Int → Int → Option (List Int)
  | 0, _, _, _, _ => none
  | k + 1, x3, x6, x7, x8 => if x8 < x7 then (if 0 ≤ x8 then (if x8 < (x6.length : Int) then (if (rd x6 x8) = 0 then (qI.l0 k x3 x6 x7 (wrap64 (x8 + 1))) else (if x3.length < 17592186044416 then (qI.l0 k (x3 ++ [x8]) x6 x7 (wrap64 (x8 + 1))) else (none))) else (none)) else (none)) else (some x3)
def qI.f (k : Nat) (l0 : List Int) : Option (List Int) := qI.l0 k ([] : List Int) l0 (l0.length : Int) 0
set_option maxHeartbeats 8000000 in
set_option maxRecDepth 100000 in
theorem qI.calls (k : Nat) (A0 : Option Addr) (c0 : Nat) (l0 : List Int) (r : List Int) (w : World) (hr0 : Kd.C (Kd.int .i64) w A0 l0.length l0) (hc0 : l0.length ≤ c0) (h : qI.f k l0 = some r) :
    Calls Try.prog 189 #[.slice A0 l0.length c0] w fun e w' => ∃ v0_ : Value, e = .returned (v0_) ∧ Kd.R (Kd.int .i64) 2 w' w.heap.size (fun _ => True) v0_ r ∧ Below w.heap.size w w' := by
  have HR0 := zA.mk hr0
  have HC0 := zA.mk hc0
  clear hr0 hc0
  have HB := zA.mk (yry w.heap.size w)
  have H : (qI.l0 k ([] : List Int) l0 (l0.length : Int) 0) = some r := h
  clear h
  have H' := zA.mk H
  clear H
  go_enter Try.func189, Try.ntmps189
  go_wp2
  go_loopg [3, 8] k (fun kq v3 v8 w' => ∃ (x3_1 : List Int) (x8_1 : Int), v8 = .int .i64 x8_1 ∧ zA (qI.l0 kq x3_1 l0 (l0.length : Int) x8_1 = some r) ∧ zA (kq ≤ k) ∧ zA (Kd.R (Kd.int .i64) 2 w' w.heap.size (fun _ => True) v3 x3_1) ∧ zA (Below w.heap.size w w'))
  case atStart => exact ⟨(([] : List Int)), (0), (by first | rfl | (simp; done) | (simp [*]; done)), H', ⟨yqy _⟩, ⟨by first | exact Kd.zAi _ _ _ _ _ | exact Kd.zER _ _ _ _ _ | exact Kd.zES _ _ _ _ _ | exact Kd.zEE _ _ _ _ _ | exact Kd.zEN _ _ _ _ _⟩, ⟨by repeat (first | (with_reducible first | exact HB.out | apply zC | apply zB | apply zD) | exact HB.out)⟩⟩
  case round =>
    clear H'
    try clear c1
    obtain ⟨x3_1, x8_1, rfl, HA, HK1, HO_3, HB⟩ := hrel
    cases gk with
    | zero => exact absurd HA.out (by simp [qI.l0])
    | succ k1 =>
      have H := HA.out
      clear HA
      simp only [qI.l0] at H
      by_cases c2 : x8_1 < (l0.length : Int)
      · rw [if_pos c2] at H
        have c2b0 : decide (x8_1 < (l0.length : Int)) = true := ygy c2
        clear c2
        by_cases c3 : 0 ≤ x8_1
        · rw [if_pos c3] at H
          have c3b0 : decide (0 ≤ x8_1) = true := ygy c3
          clear c3
          by_cases c4 : x8_1 < (l0.length : Int)
          · rw [if_pos c4] at H
            have c4b0 : decide (x8_1 < (l0.length : Int)) = true := ygy c4
            clear c4
            by_cases c5 : (rd l0 x8_1) = 0
            · rw [if_pos c5] at H
              have c5b0 : ((rd l0 x8_1) == 0) = true := beq_iff_eq.mpr c5
              have c5b1 : ((rd l0 x8_1) != 0) = false := bne_eq_false_iff_eq.mpr c5
              clear c5
              have H' := zA.mk H
              clear H
              have p101 : 0 ≤ (x8_1 : Int) := of_decide_eq_true (by first | (with_reducible assumption) | assumption)
              have q101 : x8_1 < (l0.length : Int) := of_decide_eq_true (by first | (with_reducible assumption) | assumption)
              obtain ⟨ad101, e101, hx101_0⟩ := Kd.ZB HR0.out x8_1 p101 q101
              cases e101
              replace hx101_0 := (HB.out.cell (ypy w _ hx101_0)).trans hx101_0
              replace p101 := eq_true p101
              replace q101 := eq_true q101
              go_wp2
              go_roundg k1
              case measure => have := HK1.out; omega
              case rel => exact ⟨(x3_1), (wrap64 (x8_1 + 1)), (by first | rfl | (simp; done) | (simp [*]; done)), H', ⟨by have := HK1.out; omega⟩, ⟨by (with_reducible repeat (first | apply Kd.zj | apply Kd.zk | apply Kd.zx)); exact HO_3.out⟩, ⟨by repeat (first | (with_reducible first | exact HB.out | apply zC | apply zB | apply zD) | exact HB.out)⟩⟩
            · rw [if_neg c5] at H
              have c5b0 : ((rd l0 x8_1) == 0) = false := beq_eq_false_iff_ne.mpr c5
              have c5b1 : ((rd l0 x8_1) != 0) = true := bne_iff_ne.mpr c5
              by_cases c6 : x3_1.length < 17592186044416
              · rw [if_pos c6] at H
                have LMc6 := zA.mk c6
                clear c6
                obtain ⟨y102, hy102⟩ : ∃ y_ : List Int, y_ = (x3_1 ++ [x8_1]) := ⟨_, rfl⟩
                replace H : (qI.l0 k1 y102 l0 (l0.length : Int) (wrap64 (x8_1 + 1))) = some r := by first | (rw [hy102]; with_reducible exact H) | (have H2_ := (yfy _ _).symm.trans H; rw [hy102]; with_reducible exact H2_) | (have H2_ := (yfy _ _).symm.trans H; with_reducible exact H2_) | with_reducible exact H | (rw [hy102]; exact H) | exact H
                have Ny102 := zA.mk hy102
                clear hy102
                have H' := zA.mk H
                clear H
                have p101 : 0 ≤ (x8_1 : Int) := of_decide_eq_true (by first | (with_reducible assumption) | assumption)
                have q101 : x8_1 < (l0.length : Int) := of_decide_eq_true (by first | (with_reducible assumption) | assumption)
                obtain ⟨ad101, e101, hx101_0⟩ := Kd.ZB HR0.out x8_1 p101 q101
                cases e101
                replace hx101_0 := (HB.out.cell (ypy w _ hx101_0)).trans hx101_0
                replace p101 := eq_true p101
                replace q101 := eq_true q101
                go_wp2_with (first | ((with_reducible refine Zg (b := .append) (xs := #[.tmp 15, .tmp 17]) rfl ?_); at_builtin; refine Kd.Jk (Kd.int .i64) (w0 := w) w.heap.size rfl (.tmp 15) (.tmp 17) 41 2 (.int .i64 0) 8 rfl Try.underlying41 JL rfl (by decide) (by omega) u3 x3_1 x8_1 [.int .i64 x8_1] (fun _ => True) (fun _ => False) rfl rfl ?aP (fun _ hk => hk.elim) ?aF ?aO ?aB ?aS ?aL ?_; (case aP => exact rfl); (case aB => exact (by repeat (first | (with_reducible first | exact HB.out | apply zC | apply zB | apply zD) | exact HB.out))); (case aF => exact (fun _ _ => trivial)); (case aO => exact (by (with_reducible repeat (first | apply Kd.zj | apply Kd.zk | apply Kd.zx)); exact HO_3.out)); (case aS => exact (zO (by repeat (first | (with_reducible first | exact HB.out | apply zC | apply zB | apply zD) | exact HB.out)))); (case aL => have := LMc6.out; omega); intro v103 w7 ho hb hg hat; rw [← Ny102.out] at ho; have n0_ := zA.mk (hb); have n1_ := zA.mk (ho); clear HB; clear HO_3; have HB := n0_; have HO104 := n1_; clear n0_ n1_; clear ho hb hg hat))
                go_roundg k1
                case measure => have := HK1.out; omega
                case rel => exact ⟨(y102), (wrap64 (x8_1 + 1)), (by first | rfl | (simp; done) | (simp [*]; done)), H', ⟨by have := HK1.out; omega⟩, ⟨by (with_reducible repeat (first | apply Kd.zj | apply Kd.zk | apply Kd.zx)); exact HO104.out⟩, ⟨by repeat (first | (with_reducible first | exact HB.out | apply zC | apply zB | apply zD) | exact HB.out)⟩⟩
              · rw [if_neg c6] at H
                exact absurd H (by simp)
          · rw [if_neg c4] at H
            exact absurd H (by simp)
        · rw [if_neg c3] at H
          exact absurd H (by simp)
      · rw [if_neg c2] at H
        have c2b0 : decide (x8_1 < (l0.length : Int)) = false := yhy c2
        clear c2
        obtain rfl := yey H
        go_wp2
        go_ret
        exact ⟨_, by first | rfl | (simp [zQ, zR] <;> rfl) | (simp [*, zQ, zR] <;> rfl), by (with_reducible repeat (first | apply Kd.zj | apply Kd.zk | apply Kd.zx)); exact HO_3.out, by repeat (first | (with_reducible first | exact HB.out | apply zC | apply zB | apply zD) | exact HB.out)⟩
def Zz (c o m : Nat) (l : List Int) (i : Nat) : List Int := (l.drop (i * c + o)).take m
def zFs (f : List Int → Option (List Int)) (c o m : Nat) (l : List Int) (i : Nat) : Option Bool := (f (Zz c o m l i)).map fun s => decide (s.length ≤ 1)
def zDP (p : Nat → Option Bool) : Nat → Option Bool
  | 0 => some true
  | n + 1 => (zDP p n).bind fun b => (p n).map fun c => b && c
theorem zDQ {p : Nat → Option Bool} : ∀ {n : Nat} {r : Bool}, zDP p n = some r → ∀ i, i < n → ∃ b, p i = some b
  | 0, _, _, i, hi => by omega
  | n + 1, r, h, i, hi => by
    unfold zDP at h
    cases h1 : zDP p n with
    | none => rw [h1] at h; simp at h
    | some b =>
      rw [h1] at h
      cases h2 : p n with
      | none => rw [h2] at h; simp at h
      | some c =>
        rcases Nat.lt_or_ge i n with hi2 | hi2
        · exact zDQ h1 i hi2
        · obtain rfl : i = n := by omega
          exact ⟨c, h2⟩
theorem zCc {p : Nat → Option Bool} : ∀ {n : Nat} {r : Bool}, zDP p n = some r → (∀ i, i < n → p i = some true) → r = true
  | 0, r, h, _ => by simp [zDP] at h; exact h
  | n + 1, r, h, ha => by
    unfold zDP at h
    cases h1 : zDP p n with
    | none => rw [h1] at h; simp at h
    | some b =>
      rw [h1, ha n (by omega)] at h
      have hb := zCc h1 (fun i hi => ha i (by omega))
      simp [hb] at h; exact h
theorem zBS {p : Nat → Option Bool} : ∀ {n : Nat} {r : Bool} {i : Nat}, zDP p n = some r → i < n → p i = some false → r = false
  | 0, r, i, h, hi, _ => by omega
  | n + 1, r, i, h, hi, hf => by
    unfold zDP at h
    cases h1 : zDP p n with
    | none => rw [h1] at h; simp at h
    | some b =>
      rw [h1] at h
      cases h2 : p n with
      | none => rw [h2] at h; simp at h
      | some c =>
        rw [h2] at h
        have h3 : (b && c) = r := by simpa using h
        rcases Nat.lt_or_ge i n with hi2 | hi2
        · have := zBS h1 hi2 hf; subst this; simpa using h3.symm
        · obtain rfl : i = n := by omega
          rw [hf] at h2; cases h2; simpa using h3.symm
theorem zFd {α : Type} {d : Kd α} {w : World} {ad : Addr} {xs : List α} (h : d.C w (some ad) xs.length xs) (a m : Nat) (hm : a + m ≤ xs.length) : d.C w (some (ad.add (a * d.sz))) ((xs.drop a).take m).length ((xs.drop a).take m) := by
  obtain ⟨_, h2, h3⟩ := h
  have hl : ((xs.drop a).take m).length = m := by rw [ymy, yly]; omega
  refine ⟨rfl, by omega, fun hn => ⟨_, rfl, fun j p hj => ?_⟩⟩
  obtain ⟨ad', e, h4⟩ := h3 (by omega)
  injection e with e; subst e
  have hjm : j < m := by
    have := (List.getElem?_eq_some_iff.1 hj).1; omega
  have hp : xs[a + j]? = some p := by
    rw [List.getElem?_take_of_lt hjm, List.getElem?_drop] at hj; exact hj
  obtain ⟨c, hc, hK, hcell⟩ := h4 (a + j) p hp
  refine ⟨c, hc, hK, fun i u hu => ?_⟩
  have := hcell i u hu
  rw [Addr.add_add, ← Nat.add_assoc, ← Nat.add_mul]
  exact this
section
attribute [local go_sem] Oper.semAt_some
def zEY (N : Nat) (k : Nat) : List (Fin N) := (List.finRange N).take k
theorem zAw {N k : Nat} (h : k < N) : zEY N (k + 1) = zEY N k ++ [⟨k, h⟩] := by
  unfold zEY
  rw [List.take_succ_eq_append_getElem (by simpa using h)]
  simp
theorem zDR (N : Nat) : zEY N N = List.finRange N := by unfold zEY; rw [List.take_of_length_le (by simp)]
theorem zCz {N k : Nat} (h : k ≤ N) : (zEY N k).length = k := by unfold zEY; simp; omega
def zEZ (ad : Addr) (c : Nat) {N : Nat} (x : Fin N) : Array Value := #[.slice (some (ad.add (x.val * c))) c c]
theorem Qo {B : Nat} {W W' : World} (h : Below W.heap.size W W') : KeepsFrom B W W' := ⟨h.size, fun i o _ hi _ => by rw [h.block i (lt_of_block hi)]; exact hi⟩
def JY (Bs Bn : Nat) (A B : World) : Prop := B.cell? ⟨Bs, 0, none⟩ = A.cell? ⟨Bs, 0, none⟩ ∧ B.cell? ⟨Bn, 0, none⟩ = A.cell? ⟨Bn, 0, none⟩
theorem JY.refl {Bs Bn : Nat} (A : World) : JY Bs Bn A A := ⟨rfl, rfl⟩
theorem JY.trans {Bs Bn : Nat} {A B C : World} (h : JY Bs Bn A B) (g : JY Bs Bn B C) : JY Bs Bn A C := ⟨g.1.trans h.1, g.2.trans h.2⟩
theorem JY.below {Bs Bn n : Nat} {A B : World} (h : Below n A B) (h1 : Bs < n) (h2 : Bn < n) : JY Bs Bn A B := ⟨h.cell (p := ⟨Bs, 0, none⟩) h1, h.cell (p := ⟨Bn, 0, none⟩) h2⟩
theorem JY.put {Bs Bn n : Nat} (h1 : Bs < n) (h2 : Bn < n) (W : World) (l : Nat) (o o' : Obj) (hl : n ≤ l) (_ : W.heap[l]? = some o) (_ : o.isCells = false) (_ : o.isWalk = false) : JY Bs Bn W (W.putObj l o') := by
  refine ⟨?_, ?_⟩ <;> (simp only [World.cell?, World.putObj]; rw [Array.getElem?_setIfInBounds_ne (by omega)])
set_option maxHeartbeats 8000000 in
set_option maxRecDepth 100000 in
theorem zBB.calls (F : Fence) (n : Nat) (hF : F.fn 172) (hro : F.round = none) (hn : 1 ≤ n) (l Bs Bn c N cap : Nat) (A : Option Addr) (ad : Addr) (hA : 0 < N → A = some ad) (hc0 : 0 < c) (hc1 : c ≤ 1000) (hN : N ≤ 1000000000) (hcap : N * c ≤ cap) (J Jx : List (Fin N) → World → Prop)
    (hD : ∀ pre W1, J pre W1 → J pre W1.drew)
    (hY : ∀ pre x W, J pre W → pre.length < N → YieldAt F (n - 1) Try.prog l (zEZ ad c x) W fun e W' => (e = .returned (.bool true) ∧ J (pre ++ [x]) W' ∧ JY Bs Bn W W') ∨ (e = .returned (.bool false) ∧ Jx (pre ++ [x]) W'))
    (W : World) (hBs : W.cell? ⟨Bs, 0, none⟩ = some (.slice A (N * c) cap)) (hBn : W.cell? ⟨Bn, 0, none⟩ = some (.int .i64 (c : Int))) (h0 : J [] W) :
    CallsIn F n Try.prog 172 #[.func (.yield l) #[] #[], .pointer (some ⟨Bs, 0, none⟩), .pointer (some ⟨Bn, 0, none⟩)] W fun e W' => (∃ v, e = .returned v) ∧
      ((∃ ys, ys = List.finRange N ∧ J ys W') ∨ (∃ pre, (∃ k, k ≤ N ∧ pre = zEY N k) ∧ Jx pre W')) := by
  obtain ⟨Ffn, Fdepth, Falive, Fround⟩ := F
  obtain rfl : Fround = none := hro
  refine callsIn_of_wp Try.func172 rfl hF ?_ rfl
  simp only [Try.ntmps172, List.size_toArray, List.length_cons, List.length_nil, Nat.reduceAdd, Nat.reduceSub, Array.replicate_succ, Array.replicate_zero, List.push_toArray, List.append_toArray, List.nil_append, List.cons_append]
  have HY := zA.mk hY
  clear hY
  have hNc : N * c ≤ 1000000000 * 1000 := Nat.mul_le_mul hN hc1
  gi_wp2
  gi_loopw [4] (fun i wr => ∃ k : Nat, k ≤ N ∧ i = .int .i64 ((k * c : Nat) : Int) ∧ zA (J (zEY N k) wr) ∧ JY Bs Bn W wr) (fun i _ => N * c - (intOf i).toNat)
  case atStart => exact ⟨0, Nat.zero_le _, by simp, ⟨h0⟩, JY.refl _⟩
  case round =>
    obtain ⟨k, hk, rfl, hJ, hB⟩ := hrel
    have hs := hB.1.trans hBs
    have hn2 := hB.2.trans hBn
    by_cases hlt : k < N
    · obtain rfl : A = some ad := hA (by omega)
      have h1 : k * c + c ≤ N * c := by have := Nat.mul_le_mul_right c (show k + 1 ≤ N by omega); rw [Nat.succ_mul] at this; exact this
      obtain ⟨fn, tmps, assign, body, hy, hR⟩ := HY.out _ ⟨k, hlt⟩ wr.drew (hD _ _ hJ.out) (by rw [zCz hk]; exact hlt)
      unfold zEZ at hy
      dsimp only at hy
      have hnext : k * c + c = (k + 1) * c := (Nat.succ_mul k c).symm
      have HNX := zA.mk hnext
      clear hnext
      generalize hkc : k * c = p at *
      have HKC := zA.mk hkc
      clear hkc
      generalize hnc : N * c = m at *
      gi_wp2
      gi_region
      gi_wp2
      refine hR.mono ?_
      rintro e W3 (⟨rfl, hJ3, hk3⟩ | ⟨rfl, hJx3⟩)
      · have hn3 : W3.cell? ⟨Bn, 0, none⟩ = _ := hk3.2.trans hn2
        gi_wp2
        go_roundw
        case rel => exact ⟨k + 1, by omega, by rw [← HNX.out]; push_cast; rfl, ⟨by rw [zAw hlt]; exact hJ3⟩, hB.trans ⟨hk3.1, hk3.2⟩⟩
        case measure => simp [intOf]; omega
      · gi_wp2
        refine bodyPost_ret (results_none rfl _ _ _) rfl ?_
        exact ⟨⟨_, rfl⟩, .inr ⟨_, ⟨k + 1, by omega, (zAw hlt).symm⟩, hJx3⟩⟩
    · obtain rfl : k = N := by omega
      gi_wp2
      go_end0
      exact ⟨⟨_, rfl⟩, .inl ⟨_, rfl, by rw [← zDR]; exact hJ.out⟩⟩
set_option maxHeartbeats 2000000 in
theorem QZ.calls (F : Fence) (n : Nat) (hF : F.fn 151) (hro : F.round = none) (A : Option Addr) (len cap c : Nat) (hc : 1 ≤ c) (w : World) :
    CallsIn F n Try.prog 151 #[.slice A len cap, .int .i64 (c : Int)] w fun e w' => e = .returned (.func (.func 172) #[] #[.pointer (some ⟨w.heap.size, 0, none⟩), .pointer (some ⟨w.heap.size + 1, 0, none⟩)]) ∧ w' = (w.alloc (.cells #[.slice A len cap] 41)).alloc (.cells #[.int .i64 (c : Int)] 3) := by
  refine callsIn_of_wp Try.func151 rfl hF ?_ hro
  simp only [Try.ntmps151, List.size_toArray, List.length_cons, List.length_nil, Nat.reduceAdd, Nat.reduceSub, Array.replicate_succ, Array.replicate_zero, List.push_toArray, List.append_toArray, List.nil_append, List.cons_append]
  have hcz : ¬ (c : Int) < 1 := by omega
  gi_wp2
  go_ret
  exact ⟨rfl, rfl⟩
theorem QZ.stops (F : Fence) (n : Nat) (hF : F.fn 172) (hro : F.round = none) (hn : 1 ≤ n) (Bs Bn n₀ c N cap : Nat) (A : Option Addr) (ad : Addr) (hA : 0 < N → A = some ad) (hBs0 : Bs < n₀) (hBn0 : Bn < n₀) (hc0 : 0 < c) (hc1 : c ≤ 1000) (hN : N ≤ 1000000000) (hcap : N * c ≤ cap) (w : World)
    (hn₀ : n₀ ≤ w.heap.size) (hBs : w.cell? ⟨Bs, 0, none⟩ = some (.slice A (N * c) cap)) (hBn : w.cell? ⟨Bn, 0, none⟩ = some (.int .i64 (c : Int))) :
    SeqStopsK F n Try.prog 172 #[.pointer (some ⟨Bs, 0, none⟩), .pointer (some ⟨Bn, 0, none⟩)] (zEZ ad c (N := N)) (JY Bs Bn) (fun ys => ys = List.finRange N) (fun pre => ∃ k, k ≤ N ∧ pre = zEY N k) N w := fun l J Jx W hW hJ _ hY h0 => by
  refine zBB.calls F n hF hro hn l Bs Bn c N cap A ad hA hc0 hc1 hN hcap J Jx (fun pre W1 h => hJ pre W1 W1.drew none h ⟨rfl, rfl, rfl, yqy _, fun _ _ _ => rfl⟩ (fun r e => by cases e)) hY W ?_ ?_ h0
  · exact (hW.cell (p := ⟨Bs, 0, none⟩) (by show Bs < _; omega)).trans hBs
  · exact (hW.cell (p := ⟨Bn, 0, none⟩) (by show Bn < _; omega)).trans hBn
end
section
theorem zD0 {w : World} {a : Addr} {v : Value} (h : w.cell? a = some v) : a.block < w.heap.size := by
  unfold World.cell? at h
  cases hc : w.heap[a.block]? with
  | none => rw [hc] at h; simp at h
  | some o => exact (Array.getElem?_eq_some_iff.1 hc).1
attribute [local go_sem] Oper.semAt_some
set_option maxRecDepth 100000 in
set_option maxHeartbeats 8000000 in
theorem qp.zEa (k N : Nat) (ad : Addr) (A0 : Option Addr) (c0 : Nat) (l0 : List Int) (r : Bool) (w : World) (hA : 0 < N → A0 = some ad) (hN : N ≤ 1000000000) (hr0 : Kd.C (Kd.int .i64) w A0 (N * 7) l0) (hc0 : N * 7 ≤ c0) (h : zDP (fun i => zFs (qI.f k) 7 4 3 l0 i) N = some r) :
    CallsIn Fence.wide 3 Try.prog 179 #[.slice A0 (N * 7) c0] w fun e w' => e = .returned (.bool r) ∧ Below w.heap.size w w' := by
  have HR := zA.mk hr0
  have H := zA.mk h
  have hr00 : N * 7 ≤ 1000000000 * 7 := Nat.mul_le_mul_right 7 hN
  clear hr0 h
  refine callsIn_of_wp_marks Try.func179 rfl trivial ?_ rfl
  simp only [Try.ntmps179, List.size_toArray, List.length_cons, List.length_nil, Nat.reduceAdd, Nat.reduceSub, Array.replicate_succ, Array.replicate_zero, List.push_toArray, List.append_toArray, List.nil_append, List.cons_append]
  gi_wp2_with (refine ⟨trivial, ?_⟩; gi_at_call 151; refine (QZ.calls Fence.wide 2 trivial rfl _ _ _ 7 (by omega) _).mono ?_; rintro e w' ⟨rfl, rfl⟩)
  have bR := Boxed.new w 4 (.bool false)
  have bS := Boxed.new (w.alloc (.cells #[.bool false] 4)) 41 (.slice A0 (N * 7) c0)
  have bN := Boxed.new ((w.alloc (.cells #[.bool false] 4)).alloc (.cells #[.slice A0 (N * 7) c0] 41)) 3 (.int .i64 7)
  rw [World.size_alloc] at bS
  rw [World.size_alloc, World.size_alloc] at bN
  have hcR := ((bR.alloc (.cells #[.slice A0 (N * 7) c0] 41)).alloc (.cells #[.int .i64 7] 3)).cell
  have hfR := ((bR.alloc (.cells #[.slice A0 (N * 7) c0] 41)).alloc (.cells #[.int .i64 7] 3)).frozen
  have hcS := (bS.alloc (.cells #[.int .i64 7] 3)).cell
  have hcN := bN.cell
  have hs3 : (((w.alloc (.cells #[.bool false] 4)).alloc (.cells #[.slice A0 (N * 7) c0] 41)).alloc (.cells #[.int .i64 7] 3)).heap.size = w.heap.size + 3 := by simp [World.size_alloc]
  have hB0 : Below w.heap.size w (((w.alloc (.cells #[.bool false] 4)).alloc (.cells #[.slice A0 (N * 7) c0] 41)).alloc (.cells #[.int .i64 7] 3)) := zC (zC (zC (yry _ _) _) _) _
  clear bR bS bN
  generalize ((w.alloc (.cells #[.bool false] 4)).alloc (.cells #[.slice A0 (N * 7) c0] 41)).alloc (.cells #[.int .i64 7] 3) = w3 at *
  refine wpIn_rangeFunc_ownG (F := Fence.wide) (n := 3) rfl (by omega) (gf := 172) (lb := #[.pointer (some ⟨w.heap.size + 1, 0, none⟩), .pointer (some ⟨w.heap.size + 1 + 1, 0, none⟩)]) rfl trivial (enters_of Try.func172 (by kernel_rfl) rfl)
    (QZ.stops Fence.wide 2 trivial rfl (by omega) (w.heap.size + 1) (w.heap.size + 1 + 1) (w.heap.size + 3) 7 N c0 A0 ad hA (by omega) (by omega) (by omega) (by omega) hN hc0 w3 (by omega) hcS hcN)
    (fun h k => h.trans k) (JY.put (n := w3.heap.size) (by omega) (by omega)) (yry _ _) (fun _ => rfl)
    (fun pre W => ((∀ x ∈ pre, zFs (qI.f k) 7 4 3 l0 x.val = some true) ∧ W.cell? ⟨w.heap.size, 0, none⟩ = some (.bool false) ∧ W.frozen? ⟨w.heap.size, 0, none⟩ = false) ∧ Below w.heap.size w3 W)
    (fun c pre W => (c = .ret ∧ (∃ x ∈ pre, zFs (qI.f k) 7 4 3 l0 x.val = some false) ∧ W.cell? ⟨w.heap.size, 0, none⟩ = some (.bool false)) ∧ Below w.heap.size w W)
    (OwnFrom.and (Own.from (fun s A B row hs hg hr => ⟨hs.1, cell_kept hs.2.1 hg hr, (frozen_kept hs.2.1 hg hr).trans hs.2.2⟩) _) (ownFrom_below (by omega) (by omega)))
    (fun c => OwnFrom.and (Own.from (fun s A B row hs hg hr => ⟨hs.1, hs.2.1, cell_kept hs.2.2 hg hr⟩) _) (ownFrom_below (yqy _) (by omega)))
    ⟨⟨by simp, hcR, hfR⟩, yry _ _⟩
    (fun x => { tmps := #[.slice A0 (N * 7) c0, undef, .pointer (some ⟨w.heap.size, 0, none⟩), .slice (some (ad.add (x.val * 7))) 7 7, .slice A0 (N * 7) c0, .func (.func 172) #[] #[.pointer (some ⟨w.heap.size + 1, 0, none⟩), .pointer (some ⟨w.heap.size + 1 + 1, 0, none⟩)], .slice (some (ad.add (x.val * 7))) 7 7, undef, undef, undef, undef, undef], defers := [] }) ?assign ?body ?done ?stop
  case assign =>
    intro l x W K hK
    unfold zEZ
    gi_wp2
    exact hK
  case body =>
    rintro l pre x W ⟨⟨hp, hcr, hfr⟩, hB⟩ _
    have hx := x.isLt
    have hx7 : x.val * 7 + 7 ≤ N * 7 := by omega
    obtain rfl : A0 = some ad := hA (by omega)
    obtain ⟨b, hb⟩ := zDQ H.out x.val hx
    have hb0 := hb
    unfold zFs at hb0
    obtain ⟨s, hs, hsb⟩ := Option.map_eq_some_iff.1 hb0
    clear hb0
    have hll := HR.out.1
    have hC : Kd.C (Kd.int .i64) W (some (ad.add ((x.val * 7 + 4) * 1))) ((l0.drop (x.val * 7 + 4)).take 3).length ((l0.drop (x.val * 7 + 4)).take 3) := zFd (d := Kd.int .i64) (by rw [hll]; exact Kd.zf HR.out (hB0.trans hB)) _ 3 (by omega)
    have hl3 : (Zz 7 4 3 l0 x.val).length = 3 := by unfold Zz; rw [ymy, yly, hll]; omega
    have hC2 : Kd.C (Kd.int .i64) W (some ((ad.add (x.val * 7)).add 4)) (Zz 7 4 3 l0 x.val).length (Zz 7 4 3 l0 x.val) := by rw [Addr.add_add]; rw [Nat.mul_one] at hC; exact hC
    have HS := qI.calls k _ 3 (Zz 7 4 3 l0 x.val) s W hC2 (by rw [hl3]; exact yqy 3) hs
    rw [hl3] at HS
    have HS2 := zA.mk HS
    have hlt9 : w.heap.size < W.heap.size := zD0 hcr
    have HI := zA.mk hp
    have HBB := zA.mk hb
    clear hC hC2 HS hb hp hll hl3
    gi_wp2_with (refine ⟨trivial, ?_⟩; gi_at_call 189; refine (CallsIn.inRound l (callsIn_wide.2 HS2.out)).mono ?_; rintro e w' ⟨v0_, rfl, ho, hb⟩; obtain ⟨A9, c9, rfl⟩ := Kd.Zd ho; have hcr1 : w'.cell? ⟨w.heap.size, 0, none⟩ = _ := (hb.cell (p := ⟨w.heap.size, 0, none⟩) hlt9).trans hcr; have hfr1 : w'.frozen? ⟨w.heap.size, 0, none⟩ = _ := (hb.frozen (p := ⟨w.heap.size, 0, none⟩) hlt9).trans hfr; clear ho)
    · have h1s : 1 < (s.length : Int) := by assumption
      refine ⟨(Qo hb).trans ((KeepsOthers.setCell _ _ _).from _), ⟨rfl, ⟨x, by simp, ?_⟩, World.cell?_setCell_same' _ _ _ (by rw [hcr1]; rfl)⟩, ((hB0.trans hB).trans (hb.mono (hB0.trans hB).size)).setCell (p := ⟨w.heap.size, 0, none⟩) (yqy _) _⟩
      rw [HBB.out, ← hsb]
      exact congrArg some (yhy (by omega))
    · have h1s : (s.length : Int) ≤ 1 := by assumption
      have hW3 := hB.size
      refine ⟨Qo hb, JY.below hb (by omega) (by omega), ⟨fun y hy => (List.mem_append.1 hy).elim (HI.out y) (fun e => ?_), hcr1, hfr1⟩, hB.trans (hb.mono (by omega))⟩
      obtain rfl : y = x := by simpa using e
      rw [HBB.out, ← hsb]
      exact congrArg some (ygy (by omega))
  case done =>
    rintro D ys W hD rfl ⟨⟨hne, hcr, hfr⟩, hB⟩ hK
    obtain rfl : r = true := zCc H.out (fun i hi => hne ⟨i, hi⟩ (List.mem_finRange _))
    gi_wp2
    have hK' := (KeepsOthers.setCell W ⟨w.heap.size, 0, none⟩ (.bool true)).same D _ hK rfl
    refine ⟨by simp, .inl ⟨_, _, rfl, run_takeDeferred hK', ?_⟩⟩
    have hc5 := cell_kept (World.cell?_setCell_same' W ⟨w.heap.size, 0, none⟩ (.bool true) (by rw [hcr]; rfl)) (grownBy_putObj' _ D (.deferred none)) (fun r e => by cases e; exact ⟨_, hK', rfl⟩)
    refine ⟨.bool true, ?_, rfl, ((hB0.trans hB).setCell (p := ⟨w.heap.size, 0, none⟩) (yqy _) _).trans (belowK_b (w := w) (yqy _) _ D _ _ (by omega) hK' rfl rfl)⟩
    simp [results, Try.f179, go_sem, hc5]
  case stop =>
    rintro D c pre W hD ⟨k', hk', rfl⟩ ⟨⟨rfl, ⟨x, _, hx⟩, hcr⟩, hB⟩ hK
    obtain rfl : r = false := zBS H.out x.isLt hx
    gi_wp2
    refine ⟨by simp, .inl ⟨_, _, rfl, run_takeDeferred hK, ?_⟩⟩
    have hc5 := cell_kept hcr (grownBy_putObj' _ D (.deferred none)) (fun r e => by cases e; exact ⟨_, hK, rfl⟩)
    refine ⟨.bool false, ?_, rfl, hB.trans (belowK_b (w := w) (yqy _) _ D _ _ (by omega) hK rfl rfl)⟩
    simp [results, Try.f179, go_sem, hc5]
end
def qp.f (k : Nat) (l0 : List Int) : Option Bool := if l0.length % 7 = 0 ∧ l0.length ≤ 7000000000 then zDP (fun i => zFs (qI.f k) 7 4 3 l0 i) (l0.length / 7) else none
theorem qp.calls (k : Nat) (A0 : Option Addr) (c0 : Nat) (l0 : List Int) (r : Bool) (w : World) (hr0 : Kd.C (Kd.int .i64) w A0 l0.length l0) (hc0 : l0.length ≤ c0) (h : qp.f k l0 = some r) :
    Calls Try.prog 179 #[.slice A0 l0.length c0] w fun e w' => e = .returned (.bool r) ∧ Below w.heap.size w w' := by
  unfold qp.f at h
  by_cases hok : l0.length % 7 = 0 ∧ l0.length ≤ 7000000000
  case neg => rw [if_neg hok] at h; cases h
  rw [if_pos hok] at h
  obtain ⟨N, hN⟩ : ∃ N, l0.length = N * 7 := ⟨l0.length / 7, by omega⟩
  have hN2 : l0.length / 7 = N := by omega
  rw [hN2] at h
  rw [hN] at hr0 hc0 ⊢
  obtain ⟨ad, hA⟩ : ∃ ad, 0 < N → A0 = some ad := by
    by_cases h0 : 0 < N
    · obtain ⟨ad, e, _⟩ := hr0.2.2 (by omega)
      exact ⟨ad, fun _ => e⟩
    · exact ⟨⟨0, 0, none⟩, fun h => absurd h h0⟩
  exact callsIn_wide.1 (qp.zEa k N ad A0 c0 l0 r w hA (by omega) hr0 hc0 h)
def qN.f (k : Nat) (l0_0 : List (List (zq))) (l1 : List Int) : Option (Bool) := (qW.f l0_0 l1).bind fun t102 => (if t102 = true then ((qp.f k l1).bind fun t103 => (some t103)) else (some false))
set_option maxHeartbeats 8000000 in
set_option maxRecDepth 100000 in
theorem qN.calls (k : Nat) (A0_0 : Option Addr) (c0_0 : Nat) (l0_0 : List (List (zq))) (A1 : Option Addr) (c1 : Nat) (l1 : List Int) (r : Bool) (w : World) (hr0_0 : Kd.C (Kd.slice 74 qv) w A0_0 l0_0.length l0_0) (hc0_0 : l0_0.length ≤ c0_0) (hr1 : Kd.C (Kd.int .i64) w A1 l1.length l1) (hc1 : l1.length ≤ c1) (h : qN.f k l0_0 l1 = some r) :
    Calls Try.prog 162 #[.agg #[.slice A0_0 l0_0.length c0_0], .slice A1 l1.length c1] w fun e w' => e = .returned (.bool r) ∧ Below w.heap.size w w' := by
  have hu28 := Try.underlying28
  have HR0_0 := zA.mk hr0_0
  have HC0_0 := zA.mk hc0_0
  clear hr0_0 hc0_0
  have HR1 := zA.mk hr1
  have HC1 := zA.mk hc1
  clear hr1 hc1
  have HB := zA.mk (yry w.heap.size w)
  have H : ((qW.f l0_0 l1).bind fun t102 => (if t102 = true then ((qp.f k l1).bind fun t103 => (some t103)) else (some false))) = some r := h
  clear h
  replace H := ydy.mp H
  obtain ⟨t102, A30, H⟩ := H
  replace H : (if t102 = true then ((qp.f k l1).bind fun t103 => (some t103)) else (some false)) = some r := H
  have A3 := zA.mk A30
  clear A30
  by_cases c4 : t102 = true
  · subst c4
    have H1 : ((qp.f k l1).bind fun t103 => (some t103)) = some r := by rw [if_pos rfl] at H; exact H
    clear H
    have H := H1
    clear H1
    replace H := ydy.mp H
    obtain ⟨t103, A50, H⟩ := H
    replace H : (some t103) = some r := H
    have A5 := zA.mk A50
    clear A50
    obtain rfl := yey H
    go_enter Try.func162, Try.ntmps162
    go_wp2_with (first | ((with_reducible refine zh (N := 2) rfl ?_); refine zg ?hg (N := 2) ?hd (cs := #[.slice A0_0 l0_0.length c0_0]) (t := 28) ?hr ?_; (case hd => rfl); (case hg => rfl); (case hr => first | (go_simp; done) | (go_simp; rfl)); intro gb101 hg w6 hbox hb; have n0_ := zA.mk (zN (by repeat (first | (with_reducible first | exact HB.out | apply zC | apply zB | apply zD) | exact HB.out)) hb); have n1_ := zA.mk (hbox); have n2_ := zA.mk ((by rw [hg]; exact (zO (by repeat (first | (with_reducible first | exact HB.out | apply zC | apply zB | apply zD) | exact HB.out))) : w.heap.size ≤ gb101)); have n3_ := zA.mk ((by rw [hg]; exact (zO (by repeat (first | (with_reducible first | exact HB.out | apply zC | apply zB | apply zD) | exact HB.out))) : w.heap.size ≤ gb101)); clear HB; have HB := n0_; have BK101 := n1_; have GW101 := n2_; have GE101 := n3_; clear n0_ n1_ n2_ n3_; clear hb hbox hg; have hcz7_0 : w6.cell? ⟨gb101, 0, none⟩ = some (.slice A0_0 l0_0.length c0_0) := (zK BK101.out 0).trans rfl; have hfz7_0 := zM BK101.out 0) | ((with_reducible refine zT (f := 178) rfl ?_); refine qC (some 7) rfl rfl Try.func178 (by kernel_rfl) rfl #[.agg #[.slice A0_0 l0_0.length c0_0], .slice A1 l1.length c1] rfl (by (try simp only [yiy, yjy, yky]); first | done | rfl | (simp only [yly, ymy]; rfl)) ?_; (with_reducible refine (qW.calls _ _ l0_0 _ _ l1 true _ ?side1 ?side2 ?side3 ?side4 A3.out).mono ?_); (case side1 => repeat (first | exact (Kd.zf HR0_0.out HB.out) | (with_reducible refine Kd.zl ?_ _) | (with_reducible refine Kd.zm ?_ _) | (with_reducible refine Kd.qB ?_))); (case side2 => exact HC0_0.out); (case side3 => repeat (first | exact (Kd.zf HR1.out HB.out) | (with_reducible refine Kd.zl ?_ _) | (with_reducible refine Kd.zm ?_ _) | (with_reducible refine Kd.qB ?_))); (case side4 => exact HC1.out); rintro e w8 ⟨rfl, hb⟩; refine ⟨_, rfl, ?_⟩; have n0_ := zA.mk (zP (g := gb101) (o := .cells #[.slice A0_0 l0_0.length c0_0] 28 (0, 0)) (by (with_reducible repeat (first | refine zI ?_ _ | refine zJ ?_ | refine zH ?_ _)); exact BK101.out) hb); have n1_ := zA.mk (zN (by repeat (first | (with_reducible first | exact HB.out | apply zC | apply zB | apply zD | refine zF ?_ GE101.out) | exact HB.out)) hb); clear BK101; clear HB; have BK101 := n0_; have HB := n1_; clear n0_ n1_; (try clear hb); (try clear hb2); (try clear hk); (try clear hi)) | (go_at_call 179; (with_reducible refine (qp.calls k _ _ l1 t103 _ ?side1 ?side2 A5.out).mono ?_); (case side1 => repeat (first | exact (Kd.zf HR1.out HB.out) | (with_reducible refine Kd.zl ?_ _) | (with_reducible refine Kd.zm ?_ _) | (with_reducible refine Kd.qB ?_))); (case side2 => exact HC1.out); rintro e w9 ⟨rfl, hb⟩; have n0_ := zA.mk (zP (g := gb101) (o := .cells #[.slice A0_0 l0_0.length c0_0] 28 (0, 0)) (by (with_reducible repeat (first | refine zI ?_ _ | refine zJ ?_ | refine zH ?_ _)); exact BK101.out) hb); have n1_ := zA.mk (zN (by repeat (first | (with_reducible first | exact HB.out | apply zC | apply zB | apply zD | refine zF ?_ GE101.out) | exact HB.out)) hb); clear BK101; clear HB; have BK101 := n0_; have HB := n1_; clear n0_ n1_; (try clear hb); (try clear hb2); (try clear hk); (try clear hi)))
    go_ret
    exact ⟨by first | rfl | (simp [zQ, zR] <;> rfl) | (simp [*, zQ, zR] <;> rfl), by repeat (first | (with_reducible first | exact HB.out | apply zC | apply zB | apply zD | refine zF ?_ GE101.out) | exact HB.out)⟩
  · replace c4 := Bool.eq_false_iff.mpr c4
    subst c4
    have H1 : (some false) = some r := by rw [if_neg (show ¬ (false = true) by decide)] at H; exact H
    clear H
    have H := H1
    clear H1
    obtain rfl := yey H
    go_enter Try.func162, Try.ntmps162
    go_wp2_with (first | ((with_reducible refine zh (N := 2) rfl ?_); refine zg ?hg (N := 2) ?hd (cs := #[.slice A0_0 l0_0.length c0_0]) (t := 28) ?hr ?_; (case hd => rfl); (case hg => rfl); (case hr => first | (go_simp; done) | (go_simp; rfl)); intro gb101 hg w10 hbox hb; have n0_ := zA.mk (zN (by repeat (first | (with_reducible first | exact HB.out | apply zC | apply zB | apply zD) | exact HB.out)) hb); have n1_ := zA.mk (hbox); have n2_ := zA.mk ((by rw [hg]; exact (zO (by repeat (first | (with_reducible first | exact HB.out | apply zC | apply zB | apply zD) | exact HB.out))) : w.heap.size ≤ gb101)); have n3_ := zA.mk ((by rw [hg]; exact (zO (by repeat (first | (with_reducible first | exact HB.out | apply zC | apply zB | apply zD) | exact HB.out))) : w.heap.size ≤ gb101)); clear HB; have HB := n0_; have BK101 := n1_; have GW101 := n2_; have GE101 := n3_; clear n0_ n1_ n2_ n3_; clear hb hbox hg; have hcz11_0 : w10.cell? ⟨gb101, 0, none⟩ = some (.slice A0_0 l0_0.length c0_0) := (zK BK101.out 0).trans rfl; have hfz11_0 := zM BK101.out 0) | ((with_reducible refine zT (f := 178) rfl ?_); refine qC (some 7) rfl rfl Try.func178 (by kernel_rfl) rfl #[.agg #[.slice A0_0 l0_0.length c0_0], .slice A1 l1.length c1] rfl (by (try simp only [yiy, yjy, yky]); first | done | rfl | (simp only [yly, ymy]; rfl)) ?_; (with_reducible refine (qW.calls _ _ l0_0 _ _ l1 false _ ?side1 ?side2 ?side3 ?side4 A3.out).mono ?_); (case side1 => repeat (first | exact (Kd.zf HR0_0.out HB.out) | (with_reducible refine Kd.zl ?_ _) | (with_reducible refine Kd.zm ?_ _) | (with_reducible refine Kd.qB ?_))); (case side2 => exact HC0_0.out); (case side3 => repeat (first | exact (Kd.zf HR1.out HB.out) | (with_reducible refine Kd.zl ?_ _) | (with_reducible refine Kd.zm ?_ _) | (with_reducible refine Kd.qB ?_))); (case side4 => exact HC1.out); rintro e w12 ⟨rfl, hb⟩; refine ⟨_, rfl, ?_⟩; have n0_ := zA.mk (zP (g := gb101) (o := .cells #[.slice A0_0 l0_0.length c0_0] 28 (0, 0)) (by (with_reducible repeat (first | refine zI ?_ _ | refine zJ ?_ | refine zH ?_ _)); exact BK101.out) hb); have n1_ := zA.mk (zN (by repeat (first | (with_reducible first | exact HB.out | apply zC | apply zB | apply zD | refine zF ?_ GE101.out) | exact HB.out)) hb); clear BK101; clear HB; have BK101 := n0_; have HB := n1_; clear n0_ n1_; (try clear hb); (try clear hb2); (try clear hk); (try clear hi)))
    go_ret
    exact ⟨by first | rfl | (simp [zQ, zR] <;> rfl) | (simp [*, zQ, zR] <;> rfl), by repeat (first | (with_reducible first | exact HB.out | apply zC | apply zB | apply zD | refine zF ?_ GE101.out) | exact HB.out)⟩
theorem eqA74 (d : Nat) (w : World) (x0 y0 : Int) (x1 y1 : Int) :
    (Op.equalIn (d + 2) 74 (.agg #[.int .i64 x0, .int .i64 x1]) (.agg #[.int .i64 y0, .int .i64 y1])).run Try.prog w = .ok (x0 == y0 && (x1 == y1)) w := by
  refine eqA_of Try.underlying74 (by kernel_rfl) ?_
  refine zFE (by rfl) (by go_simp; rfl) (by go_simp; rfl) (by go_simp) ?_
  exact zFD (by rfl) (by go_simp; rfl) (by go_simp; rfl) (by go_simp)
def QF.f (a0 : Int) : Option Int := if 0 ≤ a0 ∧ a0 ≤ 23 then some (zDm a0) else none
set_option maxHeartbeats 8000000 in
set_option maxRecDepth 100000 in
theorem QF.calls (a0 : Int) (r : Int) (w : World) (h : QF.f a0 = some r) :
    Calls Try.prog 137 #[.int .i64 a0] w fun e w' => e = .returned (.int .i64 r) ∧ Below w.heap.size w w' := by
  unfold QF.f at h
  by_cases hc : 0 ≤ a0 ∧ a0 ≤ 23
  case neg => rw [if_neg hc] at h; exact absurd h (by simp)
  rw [if_pos hc] at h
  have hr : zDm a0 = r := yey h
  clear h
  subst hr
  obtain ⟨h0, h1⟩ := hc
  have HS := zA.mk (zAt a0 h0 h1)
  have H0 := zA.mk h0
  have H1 := zA.mk h1
  clear h0 h1
  go_enter Try.func137, Try.ntmps137
  go_wp2_with fail
  refine (zAr.calls _ _ H0.out H1.out).mono ?_
  rintro e w1 ⟨rfl, hb⟩
  have B3 := zA.mk (zP (QO (W := w) rfl (.cells #[.int .i64 0, .int .i64 0, .int .i64 0, .int .i64 0] 108)) hb)
  have HB := zA.mk (zN (zC (yry _ _) _) hb)
  clear hb
  have HPL := zA.mk (show ZF a0 = [zu a0 0, zu a0 1, zu a0 2, zu a0 3] from rfl)
  have HIP := zA.mk (show zDm a0 = idxL (Qj (ZF a0) 4) from rfl)
  generalize ZF a0 = pl at HPL HIP
  generalize zu a0 0 = x0 at HS HPL ⊢
  generalize zu a0 1 = x1 at HS HPL ⊢
  generalize zu a0 2 = x2 at HS HPL ⊢
  generalize zu a0 3 = x3 at HS HPL ⊢
  go_wp2_with fail
  go_loopg [8] 4 (fun gg v8 w' => ∃ (i : Nat) (b0 b1 b2 b3 : Int), i ≤ 4 ∧ 4 - i ≤ gg ∧ v8 = .int .i64 i ∧ zA ([b0, b1, b2, b3] = Qj pl i) ∧
    zA (w'.heap[w.heap.size]? = some (.cells #[.int .i64 b0, .int .i64 b1, .int .i64 b2, .int .i64 b3] 108 (0, 0))) ∧ zA (Below w.heap.size w w'))
  case atStart => exact ⟨0, 0, 0, 0, 0, by omega, by omega, rfl, ⟨rfl⟩, B3, HB⟩
  case round =>
    clear HB B3
    obtain ⟨i, b0, b1, b2, b3, hi, hg, rfl, HI, B3, HB⟩ := hrel
    rcases (show i = 4 ∨ i = 3 ∨ i = 2 ∨ i = 1 ∨ i = 0 by omega) with rfl | rfl | rfl | rfl | rfl
    · have c0 : wr.cell? ⟨w.heap.size, 0, none⟩ = some (.int .i64 b0) := (zK B3.out 0).trans rfl
      have c1 : wr.cell? ⟨w.heap.size, 1, none⟩ = some (.int .i64 b1) := (zK B3.out 1).trans rfl
      have c2 : wr.cell? ⟨w.heap.size, 2, none⟩ = some (.int .i64 b2) := (zK B3.out 2).trans rfl
      have c3 : wr.cell? ⟨w.heap.size, 3, none⟩ = some (.int .i64 b3) := (zK B3.out 3).trans rfl
      have ht := Try.underlying108
      go_wp2_with fail
      have hsm := zBQ pl 4 (by omega)
      rw [← HI.out] at hsm
      refine (zCY.calls b0 b1 b2 b3 _ (hsm _ (by simp)) (hsm _ (by simp)) (hsm _ (by simp)) (hsm _ (by simp))).mono ?_
      rintro e w2 ⟨rfl, hb⟩
      have HB2 := zA.mk (zN HB.out hb)
      clear hb hsm
      go_wp2
      go_ret
      exact ⟨by rw [HIP.out, ← HI.out]; rfl, HB2.out⟩
    · have ix := Jd x0 x1 x2 x3 3 (by omega) (by omega)
      have hx : rd [x0, x1, x2, x3] 3 = x3 := rfl
      rw [hx] at ix
      have hs : sm x3 := HS.out.2.2.2
      obtain ⟨hs0, hs1⟩ := hs
      have c3 := Qh B3.out x3 hs0 hs1
      have f3 := zM B3.out x3.toNat
      have B3n := zA.mk (zC0 B3.out x3 3 hs0 hs1)
      have HN : [b0, b1, b2, b3].set x3.toNat 3 = Qj pl (3 + 1) := by rw [HI.out, HPL.out]; rfl
      have hlen : ([b0, b1, b2, b3].set x3.toNat (3 : Int)).length = 4 := by simp
      have HF := zA.mk ((zC1 hlen).symm.trans HN)
      clear hx HN hlen
      go_wp2
      go_roundg (4 - (3 + 1))
      case measure => omega
      case rel => exact ⟨3 + 1, _, _, _, _, by omega, by omega, by first | rfl | go_num, HF, B3n, ⟨zF HB.out (yqy _)⟩⟩
    · have ix := Jd x0 x1 x2 x3 2 (by omega) (by omega)
      have hx : rd [x0, x1, x2, x3] 2 = x2 := rfl
      rw [hx] at ix
      have hs : sm x2 := HS.out.2.2.1
      obtain ⟨hs0, hs1⟩ := hs
      have c3 := Qh B3.out x2 hs0 hs1
      have f3 := zM B3.out x2.toNat
      have B3n := zA.mk (zC0 B3.out x2 2 hs0 hs1)
      have HN : [b0, b1, b2, b3].set x2.toNat 2 = Qj pl (2 + 1) := by rw [HI.out, HPL.out]; rfl
      have hlen : ([b0, b1, b2, b3].set x2.toNat (2 : Int)).length = 4 := by simp
      have HF := zA.mk ((zC1 hlen).symm.trans HN)
      clear hx HN hlen
      go_wp2
      go_roundg (4 - (2 + 1))
      case measure => omega
      case rel => exact ⟨2 + 1, _, _, _, _, by omega, by omega, by first | rfl | go_num, HF, B3n, ⟨zF HB.out (yqy _)⟩⟩
    · have ix := Jd x0 x1 x2 x3 1 (by omega) (by omega)
      have hx : rd [x0, x1, x2, x3] 1 = x1 := rfl
      rw [hx] at ix
      have hs : sm x1 := HS.out.2.1
      obtain ⟨hs0, hs1⟩ := hs
      have c3 := Qh B3.out x1 hs0 hs1
      have f3 := zM B3.out x1.toNat
      have B3n := zA.mk (zC0 B3.out x1 1 hs0 hs1)
      have HN : [b0, b1, b2, b3].set x1.toNat 1 = Qj pl (1 + 1) := by rw [HI.out, HPL.out]; rfl
      have hlen : ([b0, b1, b2, b3].set x1.toNat (1 : Int)).length = 4 := by simp
      have HF := zA.mk ((zC1 hlen).symm.trans HN)
      clear hx HN hlen
      go_wp2
      go_roundg (4 - (1 + 1))
      case measure => omega
      case rel => exact ⟨1 + 1, _, _, _, _, by omega, by omega, by first | rfl | go_num, HF, B3n, ⟨zF HB.out (yqy _)⟩⟩
    · have ix := Jd x0 x1 x2 x3 0 (by omega) (by omega)
      have hx : rd [x0, x1, x2, x3] 0 = x0 := rfl
      rw [hx] at ix
      have hs : sm x0 := HS.out.1
      obtain ⟨hs0, hs1⟩ := hs
      have c3 := Qh B3.out x0 hs0 hs1
      have f3 := zM B3.out x0.toNat
      have B3n := zA.mk (zC0 B3.out x0 0 hs0 hs1)
      have HN : [b0, b1, b2, b3].set x0.toNat 0 = Qj pl (0 + 1) := by rw [HI.out, HPL.out]; rfl
      have hlen : ([b0, b1, b2, b3].set x0.toNat (0 : Int)).length = 4 := by simp
      have HF := zA.mk ((zC1 hlen).symm.trans HN)
      clear hx HN hlen
      go_wp2
      go_roundg (4 - (0 + 1))
      case measure => omega
      case rel => exact ⟨0 + 1, _, _, _, _, by omega, by omega, by first | rfl | go_num, HF, B3n, ⟨zF HB.out (yqy _)⟩⟩
def qt.f (a0_0 : Int) (a0_1 : Int) (a1 : Int) : Option (Int × Int) := (QF.f a0_1).bind fun t103 => (some (a1, t103))
set_option maxHeartbeats 8000000 in
set_option maxRecDepth 100000 in
theorem qt.calls (a0_0 : Int) (a0_1 : Int) (a1 : Int) (r1 : Int) (r2 : Int) (w : World) (h : qt.f a0_0 a0_1 a1 = some (r1, r2)) :
    Calls Try.prog 128 #[.agg #[.int .i64 a0_0, .int .i64 a0_1], .int .i64 a1] w fun e w' => e = .returned (.agg #[.int .i64 r1, .int .i64 r2]) ∧ Below w.heap.size w w' := by
  have hu74 := Try.underlying74
  have HB := zA.mk (yry w.heap.size w)
  have H : ((QF.f a0_1).bind fun t103 => (some (a1, t103))) = some (r1, r2) := h
  clear h
  replace H := ydy.mp H
  obtain ⟨t103, A30, H⟩ := H
  replace H : (some (a1, t103)) = some (r1, r2) := H
  have A3 := zA.mk A30
  clear A30
  simp only [Option.some.injEq, Prod.mk.injEq] at H
  obtain ⟨rfl, rfl⟩ := H
  go_enter Try.func128, Try.ntmps128
  go_wp2_with (first | ((with_reducible refine zh (N := 2) rfl ?_); refine zg ?hg (N := 2) ?hd (cs := #[.int .i64 a0_0, .int .i64 a0_1]) (t := 74) ?hr ?_; (case hd => rfl); (case hg => rfl); (case hr => first | (go_simp; done) | (go_simp; rfl)); intro gb101 hg w4 hbox hb; have n0_ := zA.mk (zN (by repeat (first | (with_reducible first | exact HB.out | apply zC | apply zB | apply zD) | exact HB.out)) hb); have n1_ := zA.mk (hbox); have n2_ := zA.mk ((by rw [hg]; exact (zO (by repeat (first | (with_reducible first | exact HB.out | apply zC | apply zB | apply zD) | exact HB.out))) : w.heap.size ≤ gb101)); have n3_ := zA.mk ((by rw [hg]; exact (zO (by repeat (first | (with_reducible first | exact HB.out | apply zC | apply zB | apply zD) | exact HB.out))) : w.heap.size ≤ gb101)); clear HB; have HB := n0_; have BK101 := n1_; have GW101 := n2_; have GE101 := n3_; clear n0_ n1_ n2_ n3_; clear hb hbox hg) | ((with_reducible refine zh (N := 4) rfl ?_); refine zg ?hg (N := 4) ?hd (cs := #[.int .i64 0, .int .i64 0]) (t := 74) ?hr ?_; (case hd => rfl); (case hg => rfl); (case hr => first | (go_simp; done) | (go_simp; rfl)); intro gb102 hg w5 hbox hb; have n0_ := zA.mk (zP (g := gb101) (o := .cells #[.int .i64 a0_0, .int .i64 a0_1] 74 (0, 0)) (by (with_reducible repeat (first | refine zI ?_ _ | refine zJ ?_ | refine zH ?_ _)); exact BK101.out) hb); have n1_ := zA.mk (zN (by repeat (first | (with_reducible first | exact HB.out | apply zC | apply zB | apply zD | refine zF ?_ GE101.out) | exact HB.out)) hb); have n2_ := zA.mk (hbox); have n3_ := zA.mk ((by rw [hg]; exact (zO (by repeat (first | (with_reducible first | exact HB.out | apply zC | apply zB | apply zD | refine zF ?_ GE101.out) | exact HB.out))) : w.heap.size ≤ gb102)); have n4_ := zA.mk ((by rw [hg]; exact (zO (by repeat (first | (with_reducible first | exact HB.out | apply zC | apply zB | apply zD | refine zF ?_ GE101.out) | exact HB.out))) : w.heap.size ≤ gb102)); have n5_ := zA.mk ((by rw [hg]; exact Nat.ne_of_lt (qc (g := gb101) (o := .cells #[.int .i64 a0_0, .int .i64 a0_1] 74 (0, 0)) (by (with_reducible repeat (first | refine zI ?_ _ | refine zJ ?_ | refine zH ?_ _)); exact BK101.out)) : gb101 ≠ gb102)); have n6_ := zA.mk ((by rw [hg]; exact Nat.ne_of_gt (qc (g := gb101) (o := .cells #[.int .i64 a0_0, .int .i64 a0_1] 74 (0, 0)) (by (with_reducible repeat (first | refine zI ?_ _ | refine zJ ?_ | refine zH ?_ _)); exact BK101.out)) : gb102 ≠ gb101)); clear BK101; clear HB; have BK101 := n0_; have HB := n1_; have BK102 := n2_; have GW102 := n3_; have GE102 := n4_; have NB101_102 := n5_; have NB102_101 := n6_; clear n0_ n1_ n2_ n3_ n4_ n5_ n6_; clear hb hbox hg; have hnb6 := NB101_102.out; have hnc6 := NB102_101.out; have hcz7_0 : w5.cell? ⟨gb101, 0, none⟩ = some (.int .i64 a0_0) := (zK BK101.out 0).trans rfl; have hcz7_1 : w5.cell? ⟨gb101, 1, none⟩ = some (.int .i64 a0_1) := (zK BK101.out 1).trans rfl; have hfz7_0 := zM BK101.out 0; have hfz7_1 := zM BK101.out 1) | ((with_reducible refine zT (f := 137) rfl ?_); refine qC (some 8) rfl rfl Try.func137 (by kernel_rfl) rfl #[.int .i64 a0_1] rfl (by (try simp only [yiy, yjy, yky]); first | done | rfl | (simp only [yly, ymy]; rfl)) ?_; (with_reducible refine (QF.calls a0_1 t103 _ A3.out).mono ?_); rintro e w8 ⟨rfl, hb⟩; refine ⟨_, rfl, ?_⟩; have n0_ := zA.mk (zP (g := gb101) (o := .cells #[.int .i64 a0_0, .int .i64 a0_1] 74 (0, 0)) (by (with_reducible repeat (first | refine zI ?_ _ | refine zJ ?_ | refine zH ?_ _)); exact BK101.out) hb); have n1_ := zA.mk (zP (g := gb102) (o := .cells #[.int .i64 0, .int .i64 0] 74 (0, 0)) (by (with_reducible repeat (first | refine zI ?_ _ | refine zJ ?_ | refine zH ?_ _)); exact BK102.out) hb); have n2_ := zA.mk (zN (by repeat (first | (with_reducible first | exact HB.out | apply zC | apply zB | apply zD | refine zF ?_ GE101.out | refine zF ?_ GE102.out) | exact HB.out)) hb); clear BK101; clear BK102; clear HB; have BK101 := n0_; have BK102 := n1_; have HB := n2_; clear n0_ n1_ n2_; (try clear hb); (try clear hb2); (try clear hk); (try clear hi); have hcz9_0 : w8.cell? ⟨gb102, 0, none⟩ = some (.int .i64 0) := (zK BK102.out 0).trans rfl; have hcz9_1 : w8.cell? ⟨gb102, 1, none⟩ = some (.int .i64 0) := (zK BK102.out 1).trans rfl; have hfz9_0 := zM BK102.out 0; have hfz9_1 := zM BK102.out 1))
  refine bodyPost_ret (results_cell_row rfl _ _ gb102 74 #[.int .i64 a1, .int .i64 t103] (0, 0) _ rfl (by (with_reducible repeat (first | refine zI ?_ _ | refine zJ ?_ | refine zH ?_ _)); refine qa (cs := #[.int .i64 a1, .int .i64 0]) ?_ 1 _ rfl; (with_reducible repeat (first | refine zI ?_ _ | refine zJ ?_ | refine zH ?_ _)); refine qa (cs := #[.int .i64 0, .int .i64 0]) ?_ 0 _ rfl; (with_reducible repeat (first | refine zI ?_ _ | refine zJ ?_ | refine zH ?_ _)); exact BK102.out) Try.underlying74 rfl (by kernel_rfl)) rfl ?_
  exact ⟨by first | rfl | (simp [zQ, zR] <;> rfl) | (simp [*, zQ, zR] <;> rfl), by repeat (first | (with_reducible first | exact HB.out | apply zC | apply zB | apply zD | refine zF ?_ GE101.out | refine zF ?_ GE102.out) | exact HB.out)⟩
def ZD.f (a0_0 : Int) (a0_1 : Int) (a1 : Int) : Option Int := if 0 ≤ a0_1 ∧ a0_1 ≤ 23 ∧ 0 ≤ a1 ∧ a1 ≤ 3 then some (rd (ZF a0_1) a1) else none
set_option maxHeartbeats 800000 in
set_option maxRecDepth 100000 in
theorem ZD.calls (a0_0 : Int) (a0_1 : Int) (a1 : Int) (r : Int) (w : World) (h : ZD.f a0_0 a0_1 a1 = some r) :
    Calls Try.prog 74 #[.agg #[.int .i64 a0_0, .int .i64 a0_1], .int .i64 a1] w fun e w' => e = .returned (.int .i64 r) ∧ Below w.heap.size w w' := by
  unfold ZD.f at h
  by_cases hc : 0 ≤ a0_1 ∧ a0_1 ≤ 23 ∧ 0 ≤ a1 ∧ a1 ≤ 3
  · rw [if_pos hc] at h
    obtain ⟨h0, h1, hf0, hf1⟩ := hc
    have ix := Jd (zu a0_1 0) (zu a0_1 1) (zu a0_1 2) (zu a0_1 3) a1 hf0 hf1
    have H0 := zA.mk h0
    have H1 := zA.mk h1
    clear h0 h1
    have hr : rd [zu a0_1 0, zu a0_1 1, zu a0_1 2, zu a0_1 3] a1 = r := yey h
    rw [hr] at ix
    clear hr h
    go_enter Try.func74, Try.ntmps74
    go_wp2_with fail
    refine (zAr.calls _ _ H0.out H1.out).mono ?_
    rintro e w' ⟨rfl, hb⟩
    have HB := zA.mk (zN (zC (yry _ _) _) hb)
    clear hb
    go_wp2
    go_ret
    exact ⟨rfl, HB.out⟩
  · rw [if_neg hc] at h
    exact absurd h (by simp)
def qh.f (l0 : List (List (zq))) (a1 : Int) : Option (Bool) := (qi.f l0).bind fun t101 => ((ZA.f a1 0 (wrap64 (t101 - 1))).bind fun t102 => (some t102))
set_option maxHeartbeats 8000000 in
set_option maxRecDepth 100000 in
theorem qh.calls (A0 : Option Addr) (c0 : Nat) (l0 : List (List (zq))) (a1 : Int) (r : Bool) (w : World) (hr0 : Kd.C (Kd.slice 74 qv) w A0 l0.length l0) (hc0 : l0.length ≤ c0) (h : qh.f l0 a1 = some r) :
    Calls Try.prog 71 #[.slice A0 l0.length c0, .int .i64 a1] w fun e w' => e = .returned (.bool r) ∧ zb w w' := by
  have HR0 := zA.mk hr0
  have HC0 := zA.mk hc0
  clear hr0 hc0
  have H : ((qi.f l0).bind fun t101 => ((ZA.f a1 0 (wrap64 (t101 - 1))).bind fun t102 => (some t102))) = some r := h
  clear h
  replace H := ydy.mp H
  obtain ⟨t101, A30, H⟩ := H
  replace H : ((ZA.f a1 0 (wrap64 (t101 - 1))).bind fun t102 => (some t102)) = some r := H
  have A3 := zA.mk A30
  clear A30
  replace H := ydy.mp H
  obtain ⟨t102, A40, H⟩ := H
  replace H : (some t102) = some r := H
  have A4 := zA.mk A40
  clear A40
  obtain rfl := yey H
  go_enter Try.func71, Try.ntmps71
  go_wp2_with (first | ((with_reducible refine zT (f := 79) rfl ?_); refine qC (some 7) rfl rfl Try.func79 (by kernel_rfl) rfl #[.slice A0 l0.length c0] rfl (by (try simp only [yiy, yjy, yky]); first | done | rfl | (simp only [yly, ymy]; rfl)) ?_; (with_reducible refine (qi.calls _ _ l0 t101 _ ?side1 ?side2 A3.out).mono ?_); (case side1 => repeat (first | exact HR0.out | (with_reducible refine Kd.zl ?_ _) | (with_reducible refine Kd.zm ?_ _) | (with_reducible refine Kd.qB ?_))); (case side2 => exact HC0.out); rintro e w' ⟨rfl, ⟨nd, rfl⟩⟩; refine ⟨_, rfl, ?_⟩) | ((with_reducible refine zT (f := 58) rfl ?_); refine qC (some 9) rfl rfl Try.func58 (by kernel_rfl) rfl #[.int .i64 a1, .int .i64 0, .int .i64 (wrap64 (t101 - 1))] rfl (by (try simp only [yiy, yjy, yky]); first | done | rfl | (simp only [yly, ymy]; rfl)) ?_; (with_reducible refine (ZA.calls a1 0 (wrap64 (t101 - 1)) t102 _ A4.out).mono ?_); rintro e w' ⟨rfl, ⟨nd, rfl⟩⟩; refine ⟨_, rfl, ?_⟩))
  go_ret
  exact ⟨by first | rfl | (simp; done) | (simp [*]; done), by repeat (first | exact zb.refl _ | apply zb.step)⟩
def Zn.f (a0 : Int) : Option (Bool) := (ZA.f a0 0 23).bind fun t101 => (some t101)
set_option maxHeartbeats 8000000 in
set_option maxRecDepth 100000 in
theorem Zn.calls (a0 : Int) (r : Bool) (w : World) (h : Zn.f a0 = some r) :
    Calls Try.prog 73 #[.int .i64 a0] w fun e w' => e = .returned (.bool r) ∧ zb w w' := by
  have H : ((ZA.f a0 0 23).bind fun t101 => (some t101)) = some r := h
  clear h
  replace H := ydy.mp H
  obtain ⟨t101, A20, H⟩ := H
  replace H : (some t101) = some r := H
  have A2 := zA.mk A20
  clear A20
  obtain rfl := yey H
  go_enter Try.func73, Try.ntmps73
  go_wp2_with (first | ((with_reducible refine zT (f := 58) rfl ?_); refine qC (some 4) rfl rfl Try.func58 (by kernel_rfl) rfl #[.int .i64 a0, .int .i64 0, .int .i64 23] rfl (by (try simp only [yiy, yjy, yky]); first | done | rfl | (simp only [yly, ymy]; rfl)) ?_; (with_reducible refine (ZA.calls a0 0 23 t101 _ A2.out).mono ?_); rintro e w' ⟨rfl, ⟨nd, rfl⟩⟩; refine ⟨_, rfl, ?_⟩))
  go_ret
  exact ⟨by first | rfl | (simp; done) | (simp [*]; done), by repeat (first | exact zb.refl _ | apply zb.step)⟩
end Go.Proofs.Ytdgdnnjigigkcaa.P
