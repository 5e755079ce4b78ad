/- The statement FnExactMatchingMatrixSaid, proved: part 2 of 7 (texts of this session and of the kit's print, put together and cut to what is used by a program of it). -/
import Derived.Test.YthjpdljdodalaaaMFnExactMatchingMatrix1
import Derived.Test.YthjpdljdodalaaaProg
import Derived.Below
import Derived.Deep.Draws
import Derived.Deep.AppendLies
import Derived.Maps.AppendAt
import Derived.OwnWalk
import Derived.Laws.BytesArg
import Derived.Laws.MakeOwn
import Derived.Laws.OwnMore
import Derived.Deep.OwnRows
import Derived.Tactics
import Derived.Lib.ConvBytes
import Derived.Laws.Slices
import Derived.WalkKit
import Derived.KernelRfl
import Derived.RowKit3
import Derived.Deep.LoopGhost
import Derived.Deep.QuietTactic
import Derived.BigQuiet
import Derived.WideLaws
import Derived.Deep.DeepCutAuto
import Derived.Deep.CutBlock
import Derived.Deep.RegionHeld3
import Derived.Laws.Rows
import Derived.Lib.AppendStr
import Derived.ArgAppend
import Derived.Laws.IdiomCopy
import Derived.OrdersHeld
import Derived.Laws.BitsLemmas
import Derived.RowKit
import Derived.Lib.SliceRun
import Derived.Shelf.SlicesG.Delete
import Derived.Ground.SlgnProg
import Derived.Sort.Row
namespace Go.Proofs.Ythjpdljdodalaaa
abbrev yay := @List.setIfInBounds_toArray
abbrev yby := @List.set_cons_zero
abbrev ycy := @List.set_cons_succ
abbrev ydy := @Option.bind_eq_some_iff
abbrev yey := @Option.some.inj
abbrev yfy := @Option.bind_some
abbrev ygy := @decide_eq_true
abbrev yhy := @decide_eq_false
abbrev yiy := @List.map_toArray
abbrev yjy := @List.map_cons
abbrev yky := @List.map_nil
abbrev yly := @List.length_drop
abbrev ymy := @List.length_take
abbrev yny := @Go.World.block_lt_of_cell?
abbrev yoy := @Nat.le_refl
abbrev ypy := @Go.RowKit.Below.refl
end Go.Proofs.Ythjpdljdodalaaa
namespace Go.Proofs.Ythjpdljdodalaaa.P
open Go.RowKit Go.Proofs.YthjpdljdodalaaaW.PrintWords Go.Proofs.YthjpdljdodalaaaW.PrintLast Go.Proofs.YthjpdljdodalaaaW.PrintMore
attribute [local go_sem] QD QE QY QZ Zq Zr QF QG
set_option linter.unusedVariables false
set_option linter.unusedSimpArgs false
def errW : Option Int → Value
  | none => .nilIface
  | some c => .iface 0 (.int .i64 c)
theorem zS : errW none = .nilIface := rfl
theorem zT (c : Int) : errW (some c) = .iface 0 (.int .i64 c) := rfl
theorem JN : (Try.prog.info? 2).map (fun i => (i.zero, i.size, i.bytes)) = some (some (.int .i64 0), 1, 8) := by kernel_rfl
theorem zDF : (Try.prog.info? 25).map (fun i => (i.zero, i.size, i.bytes)) = some (some (.slice none 0 0), 1, 24) := by kernel_rfl
theorem zEP : (Try.prog.info? 108).map (fun i => (i.zero, i.size, i.bytes)) = some (some (.slice none 0 0), 1, 24) := by kernel_rfl
theorem zEQ : (Try.prog.info? 115).map (fun i => (i.zero, i.size, i.bytes)) = some (some (.agg #[(.int .i64 0), (.int .i64 0)]), 2, 16) := by kernel_rfl
structure qJ where
  f0 : Int
  f1 : Int
def zCG : qJ := ⟨(0 : Int), (0 : Int)⟩
def Zl : Kd qJ := Kd.iso (Kd.pair (Kd.int .i64) (Kd.int .i64)) (fun x : qJ => (x.f0, x.f1))
theorem zB6 {w : World} {x : qJ} {cs : List Value} (h : Zl.K w x cs) : cs = [.int .i64 x.f0, .int .i64 x.f1] := by
  obtain ⟨_, _, rfl, rfl, rfl⟩ := h
  exact rfl
theorem zBw (w : World) (x : qJ)  : Zl.K w x [.int .i64 x.f0, .int .i64 x.f1] := ⟨[.int .i64 x.f0], [.int .i64 x.f1], rfl, rfl, rfl⟩
def Zb (xs : List qJ) (i : Int) : qJ := xs.getD i.toNat zCG
theorem zCa {w : World} {A : Option Addr} {n : Nat} {xs : List qJ} (h : Kd.C Zl w A n xs) (i : Int) (h0 : 0 ≤ i) (h1 : i < n) : ∃ ad , A = some ad ∧ w.cell? (ad.add (i.toNat * 2)) = some (.int .i64 (Zb xs i).f0) ∧ w.cell? ⟨(ad.add (i.toNat * 2)).block, (ad.add (i.toNat * 2)).off + 1, none⟩ = some (.int .i64 (Zb xs i).f1) := by
  obtain ⟨ad, c, e, _, hK, hc0⟩ := Kd.zCz h zCG i h0 h1
  have hc : ∀ j u, c[j]? = some u → w.cell? (ad.add (i.toNat * 2 + j)) = some u := hc0
  obtain rfl := zB6 hK
  exact ⟨ad, e, hc 0 _ rfl, by rw [← zBP _ _ 1 (by omega)]; exact hc 1 _ rfl⟩
def qu (xs : List (List qJ)) (i : Int) : (List qJ) := xs.getD i.toNat ([] : List qJ)
theorem JO {w : World} {A : Option Addr} {n : Nat} {xs : List (List qJ)} (h : Kd.C (Kd.slice 136 Zl) w A n xs) (i : Int) (h0 : 0 ≤ i) (h1 : i < n) : ∃ ad A0 c0, A = some ad ∧ w.cell? (ad.add i.toNat) = some (.slice A0 (qu xs i).length c0) ∧ (qu xs i).length ≤ c0 ∧ Zl.C w A0 (qu xs i).length (qu xs i) := by
  obtain ⟨ad, c, e, _, hK, hc0⟩ := Kd.zCz h ([] : List qJ) i h0 h1
  have hc : ∀ j u, c[j]? = some u → w.cell? (ad.add (i.toNat * 1 + j)) = some u := hc0
  obtain ⟨A0, c0, rfl, l0, g0⟩ := hK
  exact ⟨ad, A0, c0, e, by have hq := hc 0 _ rfl; rwa [Nat.mul_one, Nat.add_zero] at hq, l0, g0⟩
structure zo where
  f0 : Int
  f1 : Int
def Qs : zo := ⟨(0 : Int), (0 : Int)⟩
def qh : Kd zo := Kd.iso (Kd.pair (Kd.int .i64) (Kd.int .i64)) (fun x : zo => (x.f0, x.f1))
theorem zCb {w : World} {x : zo} {cs : List Value} (h : qh.K w x cs) : cs = [.int .i64 x.f0, .int .i64 x.f1] := by
  obtain ⟨_, _, rfl, rfl, rfl⟩ := h
  exact rfl
theorem Zx {w : World} {base : Nat} {ok : Nat → Prop} {x : zo} {cs : List Value} (h : qh.M w base ok x cs) : cs = [.int .i64 x.f0, .int .i64 x.f1] := by
  obtain ⟨_, _, rfl, rfl, rfl⟩ := h
  exact rfl
theorem JY (w : World) (base : Nat) (ok : Nat → Prop) (x : zo)  : qh.M w base ok x [.int .i64 x.f0, .int .i64 x.f1] := ⟨[.int .i64 x.f0], [.int .i64 x.f1], rfl, rfl, rfl⟩
def zJ (xs : List zo) (i : Int) : zo := xs.getD i.toNat Qs
theorem ZT {w : World} {A : Option Addr} {n : Nat} {xs : List zo} (h : Kd.C qh w A n xs) (i : Int) (h0 : 0 ≤ i) (h1 : i < n) : ∃ ad , A = some ad ∧ w.cell? (ad.add (i.toNat * 2)) = some (.int .i64 (zJ xs i).f0) ∧ w.cell? ⟨(ad.add (i.toNat * 2)).block, (ad.add (i.toNat * 2)).off + 1, none⟩ = some (.int .i64 (zJ xs i).f1) := by
  obtain ⟨ad, c, e, _, hK, hc0⟩ := Kd.zCz h Qs i h0 h1
  have hc : ∀ j u, c[j]? = some u → w.cell? (ad.add (i.toNat * 2 + j)) = some u := hc0
  obtain rfl := zCb hK
  exact ⟨ad, e, hc 0 _ rfl, by rw [← zBP _ _ 1 (by omega)]; exact hc 1 _ rfl⟩
def zE (xs : List (List zo)) (i : Int) : (List zo) := xs.getD i.toNat ([] : List zo)
theorem qv {w : World} {A : Option Addr} {n : Nat} {xs : List (List zo)} (h : Kd.C (Kd.slice 115 qh) w A n xs) (i : Int) (h0 : 0 ≤ i) (h1 : i < n) : ∃ ad A0 c0, A = some ad ∧ w.cell? (ad.add i.toNat) = some (.slice A0 (zE xs i).length c0) ∧ (zE xs i).length ≤ c0 ∧ qh.C w A0 (zE xs i).length (zE xs i) := by
  obtain ⟨ad, c, e, _, hK, hc0⟩ := Kd.zCz h ([] : List zo) i h0 h1
  have hc : ∀ j u, c[j]? = some u → w.cell? (ad.add (i.toNat * 1 + j)) = some u := hc0
  obtain ⟨A0, c0, rfl, l0, g0⟩ := hK
  exact ⟨ad, A0, c0, e, by have hq := hc 0 _ rfl; rwa [Nat.mul_one, Nat.add_zero] at hq, l0, g0⟩
def zZ (xs : List (List Int)) (i : Int) : (List Int) := xs.getD i.toNat ([] : List Int)
theorem zBx {w : World} {A : Option Addr} {n : Nat} {xs : List (List Int)} (h : Kd.C (Kd.slice 2 (Kd.int .i64)) w A n xs) (i : Int) (h0 : 0 ≤ i) (h1 : i < n) : ∃ ad A0 c0, A = some ad ∧ w.cell? (ad.add i.toNat) = some (.slice A0 (zZ xs i).length c0) ∧ (zZ xs i).length ≤ c0 ∧ (Kd.int .i64).C w A0 (zZ xs i).length (zZ xs i) := by
  obtain ⟨ad, c, e, _, hK, hc0⟩ := Kd.zCz h ([] : List Int) i h0 h1
  have hc : ∀ j u, c[j]? = some u → w.cell? (ad.add (i.toNat * 1 + j)) = some u := hc0
  obtain ⟨A0, c0, rfl, l0, g0⟩ := hK
  exact ⟨ad, A0, c0, e, by have hq := hc 0 _ rfl; rwa [Nat.mul_one, Nat.add_zero] at hq, l0, g0⟩
def ql.l0 : Nat → List Int → Int → Int → Option (List Int)
  | 0, _, _, _ => none
  | k + 1, x3, x5, x6 => if x6 < x5 then (if x3.length < 17592186044416 then (ql.l0 k (x3 ++ [x6]) x5 (wrap64 (x6 + 1))) else (none)) else (some x3)
def ql.f (k : Nat) (a0 : Int) : Option (List Int) := ql.l0 k ([] : List Int) a0 0
set_option maxHeartbeats 8000000 in
set_option maxRecDepth 100000 in
theorem ql.calls (k : Nat) (a0 : Int) (r : List Int) (w : World) (h : ql.f k a0 = some r) :
    Calls Try.prog 130 #[.int .i64 a0] w fun e w' => ∃ v0_ : Value, e = .returned (v0_) ∧ Kd.R (Kd.int .i64) 2 w' w.heap.size (fun _ => True) v0_ r ∧ Below w.heap.size w w' := by
  have HB := zA.mk (ypy w.heap.size w)
  have H : (ql.l0 k ([] : List Int) a0 0) = some r := h
  clear h
  have H' := zA.mk H
  clear H
  go_enter Try.func130, Try.ntmps130
  go_wp2
  go_loopg [3, 6] k (fun kq v3 v6 w' => ∃ (x3_1 : List Int) (x6_1 : Int), v6 = .int .i64 x6_1 ∧ zA (ql.l0 kq x3_1 a0 x6_1 = some r) ∧ zA (kq ≤ k) ∧ zA (Kd.R (Kd.int .i64) 2 w' w.heap.size (fun _ => True) v3 x3_1) ∧ zA (Below w.heap.size w w'))
  case atStart => exact ⟨(([] : List Int)), (0), (by first | rfl | (simp; done) | (simp [*]; done)), H', ⟨yoy _⟩, ⟨by first | exact Kd.zAx _ _ _ _ _ | exact Kd.zDo _ _ _ _ _ | exact Kd.zDr _ _ _ _ _ | exact Kd.zDf _ _ _ _ _ | exact Kd.zDj _ _ _ _ _⟩, ⟨by repeat (first | (with_reducible first | exact HB.out | apply zC | apply zB | apply zD) | exact HB.out)⟩⟩
  case round =>
    clear H'
    try clear c1
    obtain ⟨x3_1, x6_1, rfl, HA, HK1, HO_3, HB⟩ := hrel
    cases gk with
    | zero => exact absurd HA.out (by simp [ql.l0])
    | succ k1 =>
      have H := HA.out
      clear HA
      simp only [ql.l0] at H
      by_cases c2 : x6_1 < a0
      · rw [if_pos c2] at H
        have c2b0 : decide (x6_1 < a0) = true := ygy c2
        clear c2
        by_cases c3 : x3_1.length < 17592186044416
        · rw [if_pos c3] at H
          have LMc3 := zA.mk c3
          clear c3
          obtain ⟨y101, hy101⟩ : ∃ y_ : List Int, y_ = (x3_1 ++ [x6_1]) := ⟨_, rfl⟩
          replace H : (ql.l0 k1 y101 a0 (wrap64 (x6_1 + 1))) = some r := by first | (rw [hy101]; with_reducible exact H) | (have H2_ := (yfy _ _).symm.trans H; rw [hy101]; with_reducible exact H2_) | (have H2_ := (yfy _ _).symm.trans H; with_reducible exact H2_) | with_reducible exact H | (rw [hy101]; exact H) | exact H
          have Ny101 := zA.mk hy101
          clear hy101
          have H' := zA.mk H
          clear H
          go_wp2_with (first | ((with_reducible refine Zh (b := .append) (xs := #[.tmp 9, .tmp 11]) rfl ?_); at_builtin; refine Kd.zA0 (Kd.int .i64) (w0 := w) w.heap.size rfl (.tmp 9) (.tmp 11) 25 2 (.int .i64 0) 8 rfl Try.underlying25 JN rfl (by decide) (by omega) u3 x3_1 x6_1 [.int .i64 x6_1] (fun _ => True) (fun _ => False) rfl rfl ?aP (fun _ hk => hk.elim) ?aF ?aO ?aB ?aS ?aL ?_; (case aP => exact rfl); (case aB => exact (by repeat (first | (with_reducible first | exact HB.out | apply zC | apply zB | apply zD) | exact HB.out))); (case aF => exact (fun _ _ => trivial)); (case aO => exact (by (with_reducible repeat (first | apply Kd.zl | apply Kd.zj | apply Kd.zz)); exact HO_3.out)); (case aS => exact (zP (by repeat (first | (with_reducible first | exact HB.out | apply zC | apply zB | apply zD) | exact HB.out)))); (case aL => have := LMc3.out; omega); intro v102 w4 ho hb hg hat; rw [← Ny101.out] at ho; have n0_ := zA.mk (hb); have n1_ := zA.mk (ho); clear HB; clear HO_3; have HB := n0_; have HO103 := n1_; clear n0_ n1_; clear ho hb hg hat))
          go_roundg k1
          case measure => have := HK1.out; omega
          case rel => exact ⟨(y101), (wrap64 (x6_1 + 1)), (by first | rfl | (simp; done) | (simp [*]; done)), H', ⟨by have := HK1.out; omega⟩, ⟨by (with_reducible repeat (first | apply Kd.zl | apply Kd.zj | apply Kd.zz)); exact HO103.out⟩, ⟨by repeat (first | (with_reducible first | exact HB.out | apply zC | apply zB | apply zD) | exact HB.out)⟩⟩
        · rw [if_neg c3] at H
          exact absurd H (by simp)
      · rw [if_neg c2] at H
        have c2b0 : decide (x6_1 < a0) = false := yhy c2
        clear c2
        obtain rfl := yey H
        go_wp2
        go_ret
        exact ⟨_, by first | rfl | (simp [zS, zT] <;> rfl) | (simp [*, zS, zT] <;> rfl), by (with_reducible repeat (first | apply Kd.zl | apply Kd.zj | apply Kd.zz)); exact HO_3.out, by repeat (first | (with_reducible first | exact HB.out | apply zC | apply zB | apply zD) | exact HB.out)⟩
theorem Qy (a b c d : Int) (f : Int) (h0 : 0 ≤ f) (h1 : f ≤ 3) : ∀ w : World, (Instr.index 116 (.agg #[.int .i64 a, .int .i64 b, .int .i64 c, .int .i64 d]) (.int .i64 f)).run Try.prog w = .ok (.int .i64 (rd [a, b, c, d] f)) w := by
  intro w
  rcases (show f = 0 ∨ f = 1 ∨ f = 2 ∨ f = 3 by omega) with rfl | rfl | rfl | rfl
  · kernel_rfl
  · kernel_rfl
  · kernel_rfl
  · kernel_rfl
theorem QP {w : World} {g : Nat} {T : TypeId} {a b c d : Int} (h : w.heap[g]? = some (.cells #[.int .i64 a, .int .i64 b, .int .i64 c, .int .i64 d] T (0, 0))) (f : Int) (h0 : 0 ≤ f) (h1 : f ≤ 3) : w.cell? ⟨g, f.toNat, none⟩ = some (.int .i64 (rd [a, b, c, d] f)) := by
  rw [zK h]
  rcases (show f = 0 ∨ f = 1 ∨ f = 2 ∨ f = 3 by omega) with rfl | rfl | rfl | rfl <;> rfl
theorem zB7 {w : World} {g : Nat} {T : TypeId} {a b c d : Int} (h : w.heap[g]? = some (.cells #[.int .i64 a, .int .i64 b, .int .i64 c, .int .i64 d] T (0, 0))) (f v : Int) (h0 : 0 ≤ f) (h1 : f ≤ 3) :
    (w.setCell ⟨g, f.toNat, none⟩ (.int .i64 v)).heap[g]? = some (.cells #[.int .i64 (rd ([a, b, c, d].set f.toNat v) 0), .int .i64 (rd ([a, b, c, d].set f.toNat v) 1), .int .i64 (rd ([a, b, c, d].set f.toNat v) 2), .int .i64 (rd ([a, b, c, d].set f.toNat v) 3)] T (0, 0)) := by
  rcases (show f = 0 ∨ f = 1 ∨ f = 2 ∨ f = 3 by omega) with rfl | rfl | rfl | rfl
  · exact zu h 0 _ rfl
  · exact zu h 1 _ rfl
  · exact zu h 2 _ rfl
  · exact zu h 3 _ rfl
theorem QR {W : World} {n : Nat} (h : W.heap.size = n) (o : Obj) : (W.alloc o).heap[n]? = some o := h ▸ zBp W o
theorem zB8 {l : List Int} (h : l.length = 4) : l = [rd l 0, rd l 1, rd l 2, rd l 3] := by
  match l, h with
  | [a, b, c, d], _ => rfl
def zCc (p : Int → Bool) : Nat → List Int → Int
  | _, [] => -1
  | i, x :: xs => if p x = true then (i : Int) else zCc p (i + 1) xs
theorem zAa (p : Int → Bool) : ∀ (l : List Int) (i : Nat), (zCc p i l = -1 ∧ ∀ x ∈ l, p x = false) ∨ ∃ k, k < l.length ∧ zCc p i l = ((i + k : Nat) : Int) ∧ (∀ h : k < l.length, p l[k] = true) ∧ ∀ x ∈ l.take k, p x = false
  | [], _ => .inl ⟨rfl, fun x hx => by cases hx⟩
  | x :: xs, i => by
    cases hp : p x with
    | true => exact .inr ⟨0, by simp, by rw [zCc, hp, if_pos rfl]; rfl, fun _ => hp, fun y hy => by simp at hy⟩
    | false =>
      rcases zAa p xs (i + 1) with ⟨h1, h2⟩ | ⟨k, h1, h2, h3, h4⟩
      · refine .inl ⟨by rw [zCc, hp, if_neg (by simp)]; exact h1, fun y hy => ?_⟩
        rcases List.mem_cons.1 hy with rfl | hy
        · exact hp
        · exact h2 y hy
      · refine .inr ⟨k + 1, by simp; omega, by rw [zCc, hp, if_neg (by simp), h2]; congr 1; omega, fun h => h3 (by simpa using h), fun y hy => ?_⟩
        rw [List.take_succ_cons] at hy
        rcases List.mem_cons.1 hy with rfl | hy
        · exact hp
        · exact h4 y hy
theorem zBY {e B g n cap : Nat} {ok : Nat → Prop} {w0 : World} : ∀ (m i : Nat) (w : World) (dk : List Int), Kd.R (Kd.int .i64) e w B ok (.slice (some ⟨g, 0, none⟩) n cap) dk → B ≤ g → Below B w0 w →
    ∃ dk', Kd.R (Kd.int .i64) e (w.setCells g i (List.replicate m (.int .i64 0))) B ok (.slice (some ⟨g, 0, none⟩) n cap) dk' ∧ dk'.take i = dk.take i ∧ dk'.length = dk.length ∧ Below B w0 (w.setCells g i (List.replicate m (.int .i64 0)))
  | 0, i, w, dk, h, _, hb => ⟨dk, h, rfl, rfl, hb⟩
  | m + 1, i, w, dk, h, hg, hb => by
    have hn : n = dk.length := (Kd.qC h).1
    subst hn
    have h1 := (Kd.JG h (i : Int) 0).1
    rw [Int.toNat_natCast] at h1
    have e1 : (.slice (some ⟨g, 0, none⟩) dk.length cap : Value) = .slice (some ⟨g, 0, none⟩) (dk.set i 0).length cap := by rw [List.length_set]
    rw [e1] at h1
    obtain ⟨dk', h2, h3, h4, h5⟩ := zBY m (i + 1) _ _ h1 hg (hb.setCell (p := ⟨g, i, none⟩) hg (.int .i64 0))
    rw [← e1] at h2
    refine ⟨dk', h2, ?_, by rw [h4, List.length_set], h5⟩
    have := congrArg (List.take i) h3
    rw [List.take_take, List.take_take, Nat.min_eq_left (by omega)] at this
    rw [this, List.take_set_of_le (yoy i)]
structure Qq (p : Int → Bool) (xs dk : List Int) (i j : Nat) : Prop where
  lt : i < j
  le : j ≤ xs.length
  len : dk.length = xs.length
  done : dk.take i = (xs.take j).filter fun x => !p x
  left : dk.drop j = xs.drop j
theorem Qq.start {p : Int → Bool} {xs : List Int} {k : Nat} (h1 : k < xs.length) (h3 : p xs[k] = true) (h4 : ∀ x ∈ xs.take k, p x = false) : Qq p xs xs k (k + 1) := by
  refine ⟨by omega, by omega, rfl, ?_, rfl⟩
  rw [List.take_succ_eq_append_getElem h1, List.filter_append]
  have e1 : (xs.take k).filter (fun x => !p x) = xs.take k := List.filter_eq_self.2 (fun x hx => by rw [h4 x hx]; rfl)
  rw [e1]; simp [h3]
theorem Qq.get {p : Int → Bool} {xs dk : List Int} {i j : Nat} (h : Qq p xs dk i j) (hj : j < xs.length) : rd dk (j : Int) = xs[j] := by
  have h1 : dk[j]? = xs[j]? := by
    have := congrArg (fun l => l[0]?) h.left
    simpa [List.getElem?_drop] using this
  have h2 : j < dk.length := by rw [h.len]; exact hj
  simp [rd, List.getD_eq_getElem?_getD, h1, hj]
theorem Qq.keep {p : Int → Bool} {xs dk : List Int} {i j : Nat} (h : Qq p xs dk i j) (hj : j < xs.length) (hp : p xs[j] = false) : Qq p xs (dk.set i xs[j]) (i + 1) (j + 1) := by
  have hi : i < dk.length := by have := h.lt; have := h.len; omega
  refine ⟨by have := h.lt; omega, by omega, by rw [List.length_set]; exact h.len, ?_, ?_⟩
  · rw [List.take_succ_eq_append_getElem (by rw [List.length_set]; exact hi), List.take_set_of_le (yoy i), h.done, List.take_succ_eq_append_getElem hj, List.filter_append]
    simp [hp]
  · rw [List.drop_set_of_lt (by have := h.lt; omega), ← List.drop_drop, h.left, List.drop_drop]
theorem Qq.skip {p : Int → Bool} {xs dk : List Int} {i j : Nat} (h : Qq p xs dk i j) (hj : j < xs.length) (hp : p xs[j] = true) : Qq p xs dk i (j + 1) := by
  refine ⟨by have := h.lt; omega, by omega, h.len, ?_, ?_⟩
  · rw [h.done, List.take_succ_eq_append_getElem hj, List.filter_append]
    simp [hp]
  · rw [← List.drop_drop, h.left, List.drop_drop]
set_option maxHeartbeats 8000000 in
set_option maxRecDepth 100000 in
theorem Ql.calls (p : Int → Bool) (k1_ : Value) (A0 : Option Addr) (c0 : Nat) (l0 : List Int) (w : World) (hr0 : Kd.C (Kd.int .i64) w A0 l0.length l0)
    (hp : ∀ (W : World) (x : Int), x ∈ l0 → Below w.heap.size w W → Calls Try.prog 151 #[.int .i64 x, k1_] W fun e W' => e = .returned (.bool (p x)) ∧ Below W.heap.size W W') :
    Calls Try.prog 127 #[.slice A0 l0.length c0, .func (.func 151) #[] #[k1_]] w fun e w' => e = .returned (.int .i64 (zCc p 0 l0)) ∧ Below w.heap.size w w' := by
  have HR0 := zA.mk hr0
  have HP := zA.mk hp
  clear hr0 hp
  have hbig : l0.length ≤ 9223372036854775807 := HR0.out.2.1
  have HB := zA.mk (ypy w.heap.size w)
  have H' : zA (zCc p 0 (l0.drop 0) = zCc p 0 l0) := ⟨by rw [List.drop_zero]⟩
  generalize zCc p 0 l0 = r at H' ⊢
  go_enter Try.func127, Try.ntmps127
  go_wp2
  go_loopg [5, 8] l0.length (fun gg v5 v8 w' => ∃ kk : Nat, kk ≤ l0.length ∧ l0.length - kk ≤ gg ∧ v8 = .int .i64 kk ∧ zA (zCc p kk (l0.drop kk) = r) ∧ zA (Below w.heap.size w w'))
  case atStart => exact ⟨0, Nat.zero_le _, by omega, rfl, H', HB⟩
  case round =>
    clear H' HB
    obtain ⟨kk, hkk, hg, rfl, HA, HB⟩ := hrel
    by_cases hlt : kk < l0.length
    · have hltz : (kk : Int) < (l0.length : Int) := by omega
      have H := HA.out
      clear HA
      rw [List.drop_eq_getElem_cons hlt, zCc] at H
      obtain ⟨ad, e104, hx⟩ := Kd.ZP HR0.out (kk : Int) (by omega) (by omega)
      have ex : rd l0 (kk : Int) = l0[kk] := by simp [rd, hlt]
      rw [ex, Int.toNat_natCast] at hx
      replace hx := (HB.out.cell (yny w _ hx)).trans hx
      have HC := zA.mk (HP.out wr l0[kk] (List.getElem_mem hlt) HB.out)
      generalize l0[kk] = y at hx H HC
      clear ex
      cases e104
      cases hq : p y with
      | true =>
        rw [hq] at HC H
        rw [if_pos rfl] at H
        have H2 := zA.mk H
        clear H
        go_wp2_with fail
        refine HC.out.mono ?_
        rintro e w' ⟨rfl, hd⟩
        have HB2 := zA.mk (zN HB.out hd)
        clear hd HB HC
        go_wp2
        go_ret
        exact ⟨by rw [← H2.out]; rfl, HB2.out⟩
      | false =>
        rw [hq] at HC H
        rw [if_neg (by simp)] at H
        have H2 := zA.mk H
        clear H
        go_wp2_with fail
        refine HC.out.mono ?_
        rintro e w' ⟨rfl, hd⟩
        have HB2 := zA.mk (zN HB.out hd)
        clear hd HB HC
        go_wp2
        go_roundg (l0.length - (kk + 1))
        case measure => omega
        case rel => exact ⟨kk + 1, by omega, by omega, by go_num, H2, HB2⟩
    · have hltz : ¬ (kk : Int) < (l0.length : Int) := by omega
      have e : kk = l0.length := by omega
      subst e
      have H2 := zA.mk (show (-1 : Int) = r by have := HA.out; rwa [List.drop_length, zCc] at this)
      clear HA
      go_wp2
      go_ret
      exact ⟨by rw [← H2.out]; rfl, HB.out⟩
set_option maxHeartbeats 8000000 in
set_option maxRecDepth 100000 in
theorem Qe.calls (p : Int → Bool) (k1_ : Value) (g cap B : Nat) (ok : Nat → Prop) (xs : List Int) (w : World) (hR : Kd.R (Kd.int .i64) 2 w B ok (.slice (some ⟨g, 0, none⟩) xs.length cap) xs)
    (hp : ∀ (W : World) (x : Int), x ∈ xs → Below B w W → Calls Try.prog 151 #[.int .i64 x, k1_] W fun e W' => e = .returned (.bool (p x)) ∧ Below W.heap.size W W') :
    Calls Try.prog 150 #[.slice (some ⟨g, 0, none⟩) xs.length cap, .func (.func 151) #[] #[k1_]] w fun e w' => ∃ v', e = .returned v' ∧ Kd.R (Kd.int .i64) 2 w' B ok v' (xs.filter fun x => !p x) ∧ Below B w w' := by
  have hgB : B ≤ g := Kd.Qd hR g (by simp [Value.ownBlock])
  have hgW : g < w.heap.size := Kd.zAL hR g (by simp [Value.ownBlock])
  have hcap : xs.length ≤ cap := (Kd.qC hR).2.1
  have hbig : xs.length ≤ 9223372036854775807 := Kd.C_max (Kd.qC hR).2.2
  have HIX := zA.mk (Ql.calls p k1_ (some ⟨g, 0, none⟩) cap xs w (Kd.qC hR).2.2 (fun W x hx hb => hp W x hx (hb.mono (by omega))))
  have HR := zA.mk hR
  have HP := zA.mk hp
  have HG := zA.mk (And.intro hgB hgW)
  clear hR hp hgB hgW
  rcases zAa p xs 0 with ⟨h1, h2⟩ | ⟨k, h1, h2, h3, h4⟩
  · rw [h1] at HIX
    have e1 : xs.filter (fun x => !p x) = xs := List.filter_eq_self.2 (fun x hx => by rw [h2 x hx]; rfl)
    rw [e1]
    clear h1 h2 e1 HP
    go_enter Try.func150, Try.ntmps150
    go_wp2_with fail
    refine HIX.out.mono ?_
    rintro e w' ⟨rfl, hd⟩
    have HB := zA.mk (hd.mono (show B ≤ w.heap.size by have := HG.out; omega))
    have HR2 := zA.mk (Kd.ZV HR.out hd)
    clear hd HIX HR
    go_wp2
    go_ret
    exact ⟨_, rfl, HR2.out, HB.out⟩
  · rw [h2, Nat.zero_add] at HIX
    have HK0 := zA.mk (Qq.start h1 (h3 h1) h4)
    have hk9 : k < xs.length := h1
    have hne : ((k : Int) == -1) = false := beq_eq_false_iff_ne.2 (by omega)
    clear h2 h3 h4 h1
    go_enter Try.func150, Try.ntmps150
    go_wp2_with fail
    refine HIX.out.mono ?_
    rintro e w1 ⟨rfl, hd⟩
    have HB := zA.mk (hd.mono (show B ≤ w.heap.size by have := HG.out; omega))
    have HR2 := zA.mk (Kd.ZV HR.out hd)
    clear hd HIX HR
    go_wp2
    clear hne
    go_loopg [5, 6, 7] xs.length (fun gg s5 s6 _ wr => ∃ (i j : Nat) (dk : List Int), s5 = .int .i64 i ∧ s6 = .int .i64 j ∧ xs.length - j ≤ gg ∧ zA (Qq p xs dk i j) ∧ zA (Kd.R (Kd.int .i64) 2 wr B ok (.slice (some ⟨g, 0, none⟩) xs.length cap) dk) ∧ zA (Below B w wr))
    case atStart => exact ⟨k, k + 1, xs, rfl, by go_num, by omega, HK0, HR2, HB⟩
    case round =>
      clear HK0 HR2 HB hk9
      obtain ⟨i, j, dk, rfl, rfl, hgg, HK, HR, HB⟩ := hrel
      have hij := HK.out.lt
      have hjl := HK.out.le
      have hdl := HK.out.len
      by_cases hlt : j < xs.length
      · have hltz : (j : Int) < (xs.length : Int) := by omega
        have hr2 := HR.out
        rw [← hdl] at hr2
        obtain ⟨cj, _⟩ := Kd.Zp 0 hr2 (j : Int) (by omega) (by omega)
        obtain ⟨ci, fi⟩ := Kd.Zp 0 hr2 (i : Int) (by omega) (by omega)
        replace cj : wr.cell? ⟨g, j, none⟩ = some (.int .i64 (rd dk (j : Int))) := cj
        replace ci : wr.cell? ⟨g, i, none⟩ = some (.int .i64 (rd dk (i : Int))) := ci
        replace fi : wr.frozen? ⟨g, i, none⟩ = false := fi
        rw [HK.out.get hlt] at cj
        have HC := zA.mk (HP.out wr xs[j] (List.getElem_mem hlt) HB.out)
        generalize hu : xs[j] = u at cj HC
        have HU := zA.mk hu
        generalize rd dk (i : Int) = old at ci
        clear hu hr2
        cases hq : p u with
        | false =>
          rw [hq] at HC
          go_wp2_with fail
          refine HC.out.mono ?_
          rintro e w2 ⟨rfl, hd⟩
          have HB2 := zA.mk (HB.out.trans (hd.mono (show B ≤ wr.heap.size by have := HB.out.size; have := HG.out; omega)))
          have hr3 := Kd.ZV HR.out hd
          rw [← hdl] at hr3
          have HR3 := zA.mk (Kd.JG hr3 (i : Int) u).1
          rw [Int.toNat_natCast] at HR3
          have ci2 := (hd.cell (yny wr _ ci)).trans ci
          have fi2 := (hd.frozen (yny wr _ ci)).trans fi
          clear hd HB HC cj ci fi hr3 HR
          go_wp2
          go_roundg (xs.length - (j + 1))
          case measure => omega
          case rel => exact ⟨i + 1, j + 1, dk.set i u, by go_num, by go_num, by omega, ⟨by have := HK.out.keep hlt (by rw [HU.out]; exact hq); rwa [HU.out] at this⟩, ⟨by rw [← hdl]; exact HR3.out⟩, ⟨HB2.out.setCell (p := ⟨g, i, none⟩) HG.out.1 _⟩⟩
        | true =>
          rw [hq] at HC
          go_wp2_with fail
          refine HC.out.mono ?_
          rintro e w2 ⟨rfl, hd⟩
          have HB2 := zA.mk (HB.out.trans (hd.mono (show B ≤ wr.heap.size by have := HB.out.size; have := HG.out; omega)))
          have HR3 := zA.mk (Kd.ZV HR.out hd)
          clear hd HB HC cj ci fi HR
          go_wp2
          go_roundg (xs.length - (j + 1))
          case measure => omega
          case rel => exact ⟨i, j + 1, dk, rfl, by go_num, by omega, ⟨HK.out.skip hlt (by rw [HU.out]; exact hq)⟩, HR3, HB2⟩
      · obtain rfl : j = xs.length := by omega
        have hltz : ¬ (xs.length : Int) < (xs.length : Int) := by omega
        have hr2 := HR.out
        rw [← hdl] at hr2
        have hcl : ∀ ty, (Builtin.clear_ #[25] ty #[.slice (some ⟨g, i, none⟩) (xs.length - i) (cap - i)]).run Try.prog wr = .ok (.tuple #[]) (wr.setCells g i (List.replicate (xs.length - i) (.int .i64 0))) :=
          fun ty => Lib.run_clear_slice wr _ _ ty _ Try.underlying25 (fun w => Try.zeroValue2 w) rfl rfl g i _ _ (by omega) (fun t ht => by have q : wr.cell? ⟨g, i + t, none⟩ = some (.int .i64 (rd dk ((i + t : Nat) : Int))) := (Kd.Zp 0 hr2 ((i + t : Nat) : Int) (by omega) (by omega)).1; rw [q]; rfl) (fun t ht => (Kd.Zp 0 hr2 ((i + t : Nat) : Int) (by omega) (by omega)).2)
        obtain ⟨dk', q1, q2, q3, q4⟩ := zBY (xs.length - i) i wr dk HR.out HG.out.1 HB.out
        have q5 := Kd.R_take (m := i) q1 (by omega)
        have q6 : dk'.take i = xs.filter fun x => !p x := by rw [q2, HK.out.done, List.take_length]
        rw [q6] at q5
        have Q5 := zA.mk q5
        have Q4 := zA.mk q4
        clear q1 q2 q3 q4 q5 q6 hr2 HR HB HP HK hdl
        go_wp2
        go_ret
        exact ⟨_, rfl, Q5.out, Q4.out⟩
def qE.l0 : Nat → List Int → Int → Int → Int → Option (Int)
  | 0, _, _, _, _ => none
  | k + 1, x0, x1, x7, x8 => if x8 < x7 then (if 0 ≤ x8 then (if x8 < (x0.length : Int) then (if x1 = (rd x0 x8) then (some x8) else (qE.l0 k x0 x1 x7 (wrap64 (x8 + 1)))) else (none)) else (none)) else (some (-1))
def qE.f (k : Nat) (l0 : List Int) (a1 : Int) : Option (Int) := qE.l0 k l0 a1 (l0.length : Int) 0
set_option maxHeartbeats 8000000 in
set_option maxRecDepth 100000 in
theorem qE.calls (k : Nat) (A0 : Option Addr) (c0 : Nat) (l0 : List Int) (a1 : Int) (r : Int) (w : World) (hr0 : Kd.C (Kd.int .i64) w A0 l0.length l0) (hc0 : l0.length ≤ c0) (h : qE.f k l0 a1 = some r) :
    Calls Try.prog 168 #[.slice A0 l0.length c0, .int .i64 a1] w fun e w' => e = .returned (.int .i64 r) ∧ zi w w' := by
  have HR0 := zA.mk hr0
  have HC0 := zA.mk hc0
  clear hr0 hc0
  have H : (qE.l0 k l0 a1 (l0.length : Int) 0) = some r := h
  clear h
  have H' := zA.mk H
  clear H
  go_enter Try.func168, Try.ntmps168
  go_wp2
  go_loopg [8] k (fun kq v8 w' => ∃ (x8_1 : Int), v8 = .int .i64 x8_1 ∧ zA (qE.l0 kq l0 a1 (l0.length : Int) x8_1 = some r) ∧ zA (kq ≤ k) ∧ zi w w')
  case atStart => exact ⟨(0), (by first | rfl | (simp; done) | (simp [*]; done)), H', ⟨yoy _⟩, by repeat (first | exact zi.refl _ | apply zi.step)⟩
  case round =>
    clear H'
    try clear c1
    try clear p2
    obtain ⟨x8_1, rfl, HA, HK1, ⟨m1, rfl⟩⟩ := hrel
    cases gk with
    | zero => exact absurd HA.out (by simp [qE.l0])
    | succ k1 =>
      have H := HA.out
      clear HA
      simp only [qE.l0] at H
      by_cases c3 : x8_1 < (l0.length : Int)
      · rw [if_pos c3] at H
        have c3b0 : decide (x8_1 < (l0.length : Int)) = true := ygy c3
        clear c3
        by_cases c4 : 0 ≤ x8_1
        · rw [if_pos c4] at H
          have c4b0 : decide (0 ≤ x8_1) = true := ygy c4
          clear c4
          by_cases c5 : x8_1 < (l0.length : Int)
          · rw [if_pos c5] at H
            have c5b0 : decide (x8_1 < (l0.length : Int)) = true := ygy c5
            clear c5
            by_cases c6 : a1 = (rd l0 x8_1)
            · rw [if_pos c6] at H
              have c6b0 : (a1 == (rd l0 x8_1)) = true := beq_iff_eq.mpr c6
              have c6b1 : (a1 != (rd l0 x8_1)) = false := bne_eq_false_iff_eq.mpr c6
              clear c6
              obtain rfl := yey H
              have p101 : 0 ≤ (x8_1 : Int) := of_decide_eq_true (by first | (with_reducible assumption) | assumption)
              have q101 : x8_1 < (l0.length : Int) := of_decide_eq_true (by first | (with_reducible assumption) | assumption)
              obtain ⟨ad101, e101, hx101_0⟩ := Kd.ZP HR0.out x8_1 p101 q101
              cases e101
              replace p101 := eq_true p101
              replace q101 := eq_true q101
              go_wp2
              go_ret
              exact ⟨by first | rfl | (simp; done) | (simp [*]; done), by repeat (first | exact zi.refl _ | apply zi.step)⟩
            · rw [if_neg c6] at H
              have c6b0 : (a1 == (rd l0 x8_1)) = false := beq_eq_false_iff_ne.mpr c6
              have c6b1 : (a1 != (rd l0 x8_1)) = true := bne_iff_ne.mpr c6
              have H' := zA.mk H
              clear H
              have p101 : 0 ≤ (x8_1 : Int) := of_decide_eq_true (by first | (with_reducible assumption) | assumption)
              have q101 : x8_1 < (l0.length : Int) := of_decide_eq_true (by first | (with_reducible assumption) | assumption)
              obtain ⟨ad101, e101, hx101_0⟩ := Kd.ZP HR0.out x8_1 p101 q101
              cases e101
              replace p101 := eq_true p101
              replace q101 := eq_true q101
              go_wp2
              go_roundg k1
              case measure => have := HK1.out; omega
              case rel => exact ⟨(wrap64 (x8_1 + 1)), (by first | rfl | (simp; done) | (simp [*]; done)), H', ⟨by have := HK1.out; omega⟩, by repeat (first | exact zi.refl _ | apply zi.step)⟩
          · rw [if_neg c5] at H
            exact absurd H (by simp)
        · rw [if_neg c4] at H
          exact absurd H (by simp)
      · rw [if_neg c3] at H
        have c3b0 : decide (x8_1 < (l0.length : Int)) = false := yhy c3
        clear c3
        obtain rfl := yey H
        go_wp2
        go_ret
        exact ⟨by first | rfl | (simp; done) | (simp [*]; done), by repeat (first | exact zi.refl _ | apply zi.step)⟩
def qz.f (k : Nat) (l0 : List Int) (a1 : Int) : Option (Bool) := (qE.f k l0 a1).bind fun t101 => (some (decide (t101 ≥ 0)))
set_option maxHeartbeats 8000000 in
set_option maxRecDepth 100000 in
theorem qz.calls (k : Nat) (A0 : Option Addr) (c0 : Nat) (l0 : List Int) (a1 : Int) (r : Bool) (w : World) (hr0 : Kd.C (Kd.int .i64) w A0 l0.length l0) (hc0 : l0.length ≤ c0) (h : qz.f k l0 a1 = some r) :
    Calls Try.prog 152 #[.slice A0 l0.length c0, .int .i64 a1] w fun e w' => e = .returned (.bool r) ∧ zi w w' := by
  have HR0 := zA.mk hr0
  have HC0 := zA.mk hc0
  clear hr0 hc0
  have H : ((qE.f k l0 a1).bind fun t101 => (some (decide (t101 ≥ 0)))) = some r := h
  clear h
  replace H := ydy.mp H
  obtain ⟨t101, A30, H⟩ := H
  replace H : (some (decide (t101 ≥ 0))) = some r := H
  have A3 := zA.mk A30
  clear A30
  obtain rfl := yey H
  go_enter Try.func152, Try.ntmps152
  go_wp2_with (first | ((with_reducible refine zX (f := 168) rfl ?_); refine qI (some 7) rfl rfl Try.func168 (by kernel_rfl) rfl #[.slice A0 l0.length c0, .int .i64 a1] rfl (by (try simp only [yiy, yjy, yky]); first | done | rfl | (simp only [yly, ymy]; rfl)) ?_; (with_reducible refine (qE.calls k _ _ l0 a1 t101 _ ?side1 ?side2 A3.out).mono ?_); (case side1 => repeat (first | exact HR0.out | (with_reducible refine Kd.qA ?_ _) | (with_reducible refine Kd.qB ?_ _) | (with_reducible refine Kd.qP ?_))); (case side2 => exact HC0.out); rintro e w' ⟨rfl, ⟨nd, rfl⟩⟩; refine ⟨_, rfl, ?_⟩))
  go_ret
  exact ⟨by first | rfl | (simp; done) | (simp [*]; done), by repeat (first | exact zi.refl _ | apply zi.step)⟩
def zCd (l0 : List Int) : List Int := [0, 1, 2, 3].filter fun x => !l0.contains x
def Qm.f (l0 : List Int) : Option (List Int) := some (zCd l0)
theorem zCH (l : List Int) (x : Int) (hl : l.length ≤ 9223372036854775807) : ∀ (d n : Nat), n + d = l.length → ∃ r, qE.l0 (d + 1) l x (l.length : Int) (n : Int) = some r ∧ decide (r ≥ 0) = (l.drop n).contains x
  | 0, n, h => ⟨-1, by rw [qE.l0, if_neg (by omega)], by rw [List.drop_eq_nil_of_le (by omega)]; rfl⟩
  | d + 1, n, h => by
    have hlt : n < l.length := by omega
    obtain ⟨r, h1, h2⟩ := zCH l x hl d (n + 1) (by omega)
    have ex : rd l (n : Int) = l[n] := by simp [rd, hlt]
    rw [qE.l0, if_pos (by omega), if_pos (by omega), if_pos (by omega), ex, List.drop_eq_getElem_cons hlt, List.contains_cons]
    by_cases c : x = l[n]
    · exact ⟨n, by rw [if_pos c], by rw [← c]; simp⟩
    · refine ⟨r, ?_, ?_⟩
      · rw [if_neg c, ← h1]; congr 1; unfold wrap64; omega
      · rw [h2]
        have : (x == l[n]) = false := by simpa using c
        rw [this, Bool.false_or]
theorem contains_eq (l : List Int) (x : Int) (hl : l.length ≤ 9223372036854775807) : qz.f (l.length + 1) l x = some (l.contains x) := by
  obtain ⟨r, h1, h2⟩ := zCH l x hl l.length 0 (by omega)
  have h3 : qE.f (l.length + 1) l x = some r := h1
  unfold qz.f
  rw [h3, yfy, h2, List.drop_zero]
set_option maxHeartbeats 8000000 in
set_option maxRecDepth 100000 in
theorem zB9.calls (A0 : Option Addr) (c0 gb : Nat) (l0 : List Int) (x : Int) (w : World) (hb : w.heap[gb]? = some (.cells #[.slice A0 l0.length c0] 25 (0, 0))) (hC : Kd.C (Kd.int .i64) w A0 l0.length l0) (hc : l0.length ≤ c0) :
    Calls Try.prog 151 #[.int .i64 x, .pointer (some ⟨gb, 0, none⟩)] w fun e w' => e = .returned (.bool (l0.contains x)) ∧ Below w.heap.size w w' := by
  have hx : w.cell? ⟨gb, 0, none⟩ = some (.slice A0 l0.length c0) := (zK hb 0).trans rfl
  have HCC := zA.mk (contains_eq l0 x hC.2.1)
  have HC := zA.mk hC
  have HL := zA.mk hc
  clear hb hC hc
  generalize l0.contains x = b at HCC ⊢
  go_enter Try.func151, Try.ntmps151
  go_wp2_with fail
  refine (qz.calls _ A0 c0 l0 x b _ HC.out HL.out HCC.out).mono ?_
  rintro e w' ⟨rfl, hd⟩
  have HB := zA.mk (zi.below hd)
  clear hd
  go_wp2
  go_ret
  exact ⟨rfl, HB.out⟩
theorem zBA : ql.f 10 4 = some [0, 1, 2, 3] := by decide +kernel
set_option maxHeartbeats 8000000 in
set_option maxRecDepth 100000 in
theorem Qm.calls (A0 : Option Addr) (c0 : Nat) (l0 : List Int) (r : List Int) (w : World) (hr0 : Kd.C (Kd.int .i64) w A0 l0.length l0) (hc0 : l0.length ≤ c0) (h : Qm.f l0 = some r) :
    Calls Try.prog 114 #[.slice A0 l0.length c0] w fun e w' => ∃ v0_ : Value, e = .returned (v0_) ∧ Kd.R (Kd.int .i64) 2 w' w.heap.size (fun _ => True) v0_ r ∧ Below w.heap.size w w' := by
  have hr : zCd l0 = r := yey h
  subst hr
  clear h
  have HR := zA.mk hr0
  have HC := zA.mk hc0
  clear hr0 hc0
  go_enter Try.func114, Try.ntmps114
  have BB := zA.mk (QR (W := w) rfl (.cells #[.slice A0 l0.length c0] 25))
  have HB := zA.mk (zC (ypy w.heap.size w) (.cells #[.slice A0 l0.length c0] 25))
  have HS := zA.mk (show (w.alloc (.cells #[.slice A0 l0.length c0] 25)).heap.size = w.heap.size + 1 by simp)
  go_wp2_with fail
  refine (ql.calls 10 4 [0, 1, 2, 3] _ zBA).mono ?_
  rintro e w1 ⟨v1, rfl, ho, hb⟩
  obtain ⟨g, cap, rfl, hg1, hg2, _⟩ := Kd.Jq ho (by decide)
  have BB1 := zA.mk (zO BB.out hb)
  have HB1 := zA.mk (zN HB.out hb)
  rw [HS.out] at ho hg1
  have HO := zA.mk ho
  have HG := zA.mk hg1
  clear ho hb hg1 hg2 BB HB HS
  go_wp2_with fail
  refine (Qe.calls (fun x => l0.contains x) (.pointer (some ⟨w.heap.size, 0, none⟩)) g cap (w.heap.size + 1) (fun _ => True) [0, 1, 2, 3] _ HO.out (fun W x _ hb => zB9.calls A0 c0 w.heap.size l0 x W ((hb.block w.heap.size (by omega)).trans BB1.out) (Kd.qD HR.out (HB1.out.trans (hb.mono (by omega)))) HC.out)).mono ?_
  rintro e w2 ⟨v2, rfl, ho, hb⟩
  have HO2 := zA.mk (Kd.ZR ho (show w.heap.size ≤ w.heap.size + 1 by omega))
  have HB2 := zA.mk (HB1.out.trans (hb.mono (show w.heap.size ≤ w.heap.size + 1 by omega)))
  clear ho hb HO HB1 BB1
  go_wp2
  go_ret
  exact ⟨_, rfl, HO2.out, HB2.out⟩
def zBy : Go.Shelf.Ren := ⟨fun | 45 => 167 | n => n, fun | 22 => 25 | 23 => 2 | 3 => 3 | 4 => 4 | 0 => 0 | n => n, fun | n => n⟩
theorem zER : Go.Proofs.SlLaysN.n45 Try.prog zBy := {
  mixed := by kernel_rfl
  f45 := ⟨Try.f167.name, by decide, Try.func167.trans (congrArg some (by kernel_rfl))⟩
  t0 := Try.underlying0
  a0 := Try.isAgg0
  z0 := Try.sizeOf0
  v0 := Try.zeroValue0
  t3 := Try.underlying3
  a3 := Try.isAgg3
  z3 := Try.sizeOf3
  v3 := Try.zeroValue3
  t4 := Try.underlying4
  a4 := Try.isAgg4
  z4 := Try.sizeOf4
  v4 := Try.zeroValue4
  t22 := Try.underlying25
  a22 := Try.isAgg25
  z22 := Try.sizeOf25
  v22 := Try.zeroValue25
  t23 := Try.underlying2
  a23 := Try.isAgg2
  z23 := Try.sizeOf2
  v23 := Try.zeroValue2
  i23 := by kernel_rfl }
theorem erase_eq (xs : List Int) (i : Nat) : xs.take i ++ xs.drop (i + 1) = xs.eraseIdx i := (List.eraseIdx_eq_take_drop_succ xs i).symm
theorem ZW.zCI (g cap i : Nat) (xs : List Int) (base : Nat) (ok : Nat → Prop) (w : World) (ho : Kd.R (Kd.int .i64) 2 w base ok (.slice (some ⟨g, 0, none⟩) xs.length cap) xs) (hi : i < xs.length) :
    Calls Try.prog 167 #[.slice (some ⟨g, 0, none⟩) xs.length cap, .int .i64 i, .int .i64 (i + 1)] w fun e w' => e = .returned (.slice (some ⟨g, 0, none⟩) (xs.length - 1) cap) ∧
      Kd.R (Kd.int .i64) 2 w' base ok (.slice (some ⟨g, 0, none⟩) (xs.length - 1) cap) (xs.eraseIdx i) ∧ w.grownBy w' (some g) := by
  have hown := Kd.zAy ho
  rcases hown.2 with ⟨hv, _⟩ | ⟨g', cap', cur, hv, hbase, hh, hle, hmax, hcs, htake⟩
  · cases hv
  injection hv with hv1 _ hv3
  injection hv1 with hv1
  injection hv1 with hv1 _ _
  subst hv1 hv3
  rw [Nat.mul_one] at hcs htake
  have hcell : ∀ j, j < xs.length → w.cell? ⟨g, 0 + j, none⟩ = some (.int .i64 xs[j]!) := by
    intro j hj
    rw [Nat.zero_add]
    have h1 : cur.toList[j]? = some (.int .i64 xs[j]!) := by
      have h2 : (cur.toList.take xs.length)[j]? = some (.int .i64 xs[j]!) := by
        rw [htake, Jp, List.getElem?_map, List.getElem?_eq_getElem hj]
        simp [getElem!_pos, hj]
      rw [List.getElem?_take, if_pos hj] at h2
      exact h2
    rw [zK hh j, ← Array.getElem?_toList, h1]
  have hH : Go.Sort.Holds (Value.int .i64) w g 0 xs.toArray := by
    intro j hj
    have hj' : j < xs.length := by simpa using hj
    refine ⟨?_, by rw [Nat.zero_add]; exact zG hh j⟩
    rw [hcell j hj']
    simp [getElem!_pos, hj']
  have hc := AnyG.slices_Delete_int zER g 0 cap i (i + 1) xs w hH hle (by unfold maxLen at hmax; omega) (by omega) (by omega)
  have hc2 : Calls Try.prog 167 #[.slice (some ⟨g, 0, none⟩) xs.length cap, .int .i64 (i : Nat), .int .i64 ((i + 1 : Nat) : Int)] w fun e w' => e = .returned (.slice (some ⟨g, 0, none⟩) (xs.length - (i + 1 - i)) cap) ∧ ∃ q, w' = Go.Sort.putRow (Value.int .i64) (Go.Sort.ahead w q) g 0 (xs.take i ++ xs.drop (i + 1) ++ List.replicate (i + 1 - i) 0).toArray := hc
  refine hc2.mono ?_
  rintro e w' ⟨rfl, q, rfl⟩
  have hlen : (xs.eraseIdx i).length = xs.length - 1 := by rw [List.length_eraseIdx]; simp [hi]
  have hd : xs.take i ++ xs.drop (i + 1) ++ List.replicate (i + 1 - i) 0 = xs.eraseIdx i ++ [0] := by
    rw [erase_eq, show i + 1 - i = 1 by omega]; rfl
  rw [hd, show i + 1 - i = 1 by omega]
  have hheap : (Go.Sort.putRow (Value.int .i64) (Go.Sort.ahead w q) g 0 (xs.eraseIdx i ++ [0]).toArray).heap[g]? = some (.cells (Go.Sort.putCells (Value.int .i64) 0 (xs.eraseIdx i ++ [0]).toArray cur) 2 (0, 0)) := by
    show (w.heap.modify g _)[g]? = _
    rw [Array.getElem?_modify, if_pos rfl, hh]
    rfl
  have hfar : ∀ k, k ≠ g → (Go.Sort.putRow (Value.int .i64) (Go.Sort.ahead w q) g 0 (xs.eraseIdx i ++ [0]).toArray).heap[k]? = w.heap[k]? := by
    intro k hk
    show (w.heap.modify g _)[k]? = _
    rw [Array.getElem?_modify, if_neg (Ne.symm hk)]
  refine ⟨rfl, ?_, ⟨rfl, rfl, rfl, ?_, fun k _ hk => hfar k (fun e => hk (by rw [e]))⟩⟩
  · have e1 : xs.length - 1 = (xs.eraseIdx i).length := hlen.symm
    rw [e1]
    refine Kd.zA1 ⟨by simp [Jp], .inr ⟨g, cap, _, rfl, hbase, hheap, by omega, hmax, by simp [Go.Sort.putCells, hcs], ?_⟩⟩ (fun k hk => ho.1 k hk)
    rw [Nat.mul_one]
    apply List.ext_getElem?
    intro j
    rw [List.getElem?_take]
    by_cases hj : j < (xs.eraseIdx i).length
    · rw [if_pos hj, Array.getElem?_toList, Go.Sort.putCells, Array.getElem?_mapIdx, Array.getElem?_eq_getElem (by omega), Option.map_some, if_pos ⟨by omega, by simp; omega⟩, Nat.sub_zero, Jp, List.getElem?_map, List.getElem?_eq_getElem hj, Option.map_some]
      congr 2
      rw [List.getElem!_toArray, getElem!_pos _ j (by simp; omega), List.getElem_append_left hj]
    · rw [if_neg hj, List.getElem?_eq_none (by simp [Jp]; omega)]
  · show w.heap.size ≤ (w.heap.modify g _).size
    rw [Array.size_modify]
    omega
def zDG : Nat → Int
 | 0 => 6
 | 1 => 2
 | _ => 1
def qo (p : Int) : Nat → Int
 | 0 => p
 | i + 1 => qo p i % zDG i
def ZX (p : Int) (i : Nat) : Int := qo p i / zDG i
def zk (p : Int) : Nat → List Int
 | 0 => [0, 1, 2, 3]
 | i + 1 => (zk p i).eraseIdx (ZX p i).toNat
def zp (p : Int) (i : Nat) : Int := (zk p i).getD (ZX p i).toNat 0
def qp (p : Int) : List Int := [zp p 0, zp p 1, zp p 2, zp p 3]
theorem zCJ (p : Int) (h0 : 0 ≤ p) (h1 : p ≤ 23) : (0 ≤ qo p 0 ∧ qo p 0 ≤ 23) ∧ (0 ≤ qo p 1 ∧ qo p 1 ≤ 5) ∧ (0 ≤ qo p 2 ∧ qo p 2 ≤ 1) ∧ (0 ≤ qo p 3 ∧ qo p 3 ≤ 0) := by
 simp only [qo, zDG]; omega
theorem zCK (p : Int) (h0 : 0 ≤ p) (h1 : p ≤ 23) : (0 ≤ ZX p 0 ∧ ZX p 0 < 4) ∧ (0 ≤ ZX p 1 ∧ ZX p 1 < 3) ∧ (0 ≤ ZX p 2 ∧ ZX p 2 < 2) ∧ (0 ≤ ZX p 3 ∧ ZX p 3 < 1) := by
 have := zCJ p h0 h1
 simp only [ZX, zDG]; omega
theorem zBZ (p : Int) (h0 : 0 ≤ p) (h1 : p ≤ 23) : (zk p 0).length = 4 ∧ (zk p 1).length = 3 ∧ (zk p 2).length = 2 ∧ (zk p 3).length = 1 ∧ (zk p 4).length = 0 := by
 obtain ⟨a, b, c, d⟩ := zCK p h0 h1
 have e0 : (zk p 0).length = 4 := rfl
 have e1 : (zk p 1).length = 3 := by rw [zk, List.length_eraseIdx, e0, if_pos (by omega)]
 have e2 : (zk p 2).length = 2 := by rw [zk, List.length_eraseIdx, e1, if_pos (by omega)]
 have e3 : (zk p 3).length = 1 := by rw [zk, List.length_eraseIdx, e2, if_pos (by omega)]
 have e4 : (zk p 4).length = 0 := by rw [zk, List.length_eraseIdx, e3, if_pos (by omega)]
 exact ⟨e0, e1, e2, e3, e4⟩
theorem zCL {W : World} {n : Nat} (h : W.heap.size = n) (o : Obj) : (W.alloc o).heap[n]? = some o := h ▸ zBp W o
def ZZ (p : Int) (i j : Nat) : Int := if j < i then zp p j else 0
set_option maxHeartbeats 8000000 in
set_option maxRecDepth 100000 in
theorem zAE.calls (p : Int) (w : World) (h0 : 0 ≤ p) (h1 : p ≤ 23) :
 Calls Try.prog 149 #[.int .i64 p] w fun e w' => e = .returned (.agg #[.int .i64 (zp p 0), .int .i64 (zp p 1), .int .i64 (zp p 2), .int .i64 (zp p 3)]) ∧ Below w.heap.size w w' := by
 have HP := zA.mk (zCJ p h0 h1)
 have HK := zA.mk (zCK p h0 h1)
 have HL := zA.mk (zBZ p h0 h1)
 clear h0 h1
 go_enter Try.func149, Try.ntmps149
 go_wp2_with fail
 go_loopg [0, 4, 11] 4 (fun gg v0 v4 v11 w' => ∃ i : Nat, i ≤ 4 ∧ 4 - i ≤ gg ∧ v11 = .int .i64 i ∧ v0 = .int .i64 (qo p i) ∧ v4 = .slice (some ⟨w.heap.size + 1 + 1, 0, none⟩) (zk p i).length 4 ∧
  zA (Kd.R (Kd.int .i64) 2 w' w.heap.size (fun k => k = w.heap.size + 1 + 1) (.slice (some ⟨w.heap.size + 1 + 1, 0, none⟩) (zk p i).length 4) (zk p i)) ∧
  zA (w'.heap[w.heap.size + 1]? = some (.cells #[.int .i64 (ZZ p i 0), .int .i64 (ZZ p i 1), .int .i64 (ZZ p i 2), .int .i64 (ZZ p i 3)] 116 (0, 0))) ∧
  zA (w'.heap[w.heap.size]? = some (.cells #[.int .i64 0, .int .i64 0, .int .i64 0, .int .i64 0] 116 (0, 0))) ∧
  zA (w'.heap[w.heap.size + 1 + 1 + 1]? = some (.cells #[.int .i64 6, .int .i64 2, .int .i64 1, .int .i64 1] 2 (0, 0))) ∧ zA (Below w.heap.size w w'))
 case atStart =>
  refine ⟨0, by omega, by omega, rfl, rfl, rfl, ⟨?_⟩, ⟨?_⟩, ⟨?_⟩, ⟨?_⟩, ⟨?_⟩⟩
  next =>
   refine Kd.zA1 ⟨by simp [Jp], .inr ⟨w.heap.size + 1 + 1, 4, #[.int .i64 0, .int .i64 1, .int .i64 2, .int .i64 3], rfl, by omega, ?_, yoy 4, by decide, rfl, rfl⟩⟩ (fun k hk => by simpa [Value.ownBlock] using hk.symm)
   exact zH (zCL (by simp) _) _
  next =>
   exact zH (zH (zCL (by simp) _) _) _
  next =>
   exact zH (zH (zH (zCL rfl _) _) _) _
  next =>
   exact zCL (by simp) _
  next =>
   exact zC (zC (zC (zC (ypy _ _) _) _) _) _
 case round =>
  obtain ⟨i, hi, hg, rfl, rfl, rfl, HR, B3, B2, B9, HB⟩ := hrel
  rcases (show i = 4 ∨ i = 3 ∨ i = 2 ∨ i = 1 ∨ i = 0 by omega) with rfl | rfl | rfl | rfl | rfl
  next =>
   have c0 : wr.cell? ⟨w.heap.size + 1, 0, none⟩ = some (.int .i64 (ZZ p 4 0)) := (zK B3.out 0).trans rfl
   have c1 : wr.cell? ⟨w.heap.size + 1, 1, none⟩ = some (.int .i64 (ZZ p 4 1)) := (zK B3.out 1).trans rfl
   have c2 : wr.cell? ⟨w.heap.size + 1, 2, none⟩ = some (.int .i64 (ZZ p 4 2)) := (zK B3.out 2).trans rfl
   have c3 : wr.cell? ⟨w.heap.size + 1, 3, none⟩ = some (.int .i64 (ZZ p 4 3)) := (zK B3.out 3).trans rfl
   have d0 : wr.cell? ⟨w.heap.size, 0, none⟩ = some (.int .i64 0) := (zK B2.out 0).trans rfl
   have d1 : wr.cell? ⟨w.heap.size, 1, none⟩ = some (.int .i64 0) := (zK B2.out 1).trans rfl
   have d2 : wr.cell? ⟨w.heap.size, 2, none⟩ = some (.int .i64 0) := (zK B2.out 2).trans rfl
   have d3 : wr.cell? ⟨w.heap.size, 3, none⟩ = some (.int .i64 0) := (zK B2.out 3).trans rfl
   have f0 := zG B2.out 0
   have f1 := zG B2.out 1
   have f2 := zG B2.out 2
   have f3 := zG B2.out 3
   have ht := Try.underlying116
   go_wp2
   refine bodyPost_ret (results_cell_row rfl _ _ w.heap.size 116 #[.int .i64 (ZZ p 4 0), .int .i64 (ZZ p 4 1), .int .i64 (ZZ p 4 2), .int .i64 (ZZ p 4 3)] (0, 0) _ rfl (zu (cs := #[.int .i64 (ZZ p 4 0), .int .i64 (ZZ p 4 1), .int .i64 (ZZ p 4 2), .int .i64 0]) (zu (cs := #[.int .i64 (ZZ p 4 0), .int .i64 (ZZ p 4 1), .int .i64 0, .int .i64 0]) (zu (cs := #[.int .i64 (ZZ p 4 0), .int .i64 0, .int .i64 0, .int .i64 0]) (zu B2.out 0 _ rfl) 1 _ rfl) 2 _ rfl) 3 _ rfl) ht rfl (by kernel_rfl)) rfl ⟨rfl, ?_⟩
   exact zF (zF (zF (zF HB.out (yoy _)) (yoy _)) (yoy _)) (yoy _)
  next =>
   have hK : 0 ≤ ZX p 3 ∧ ZX p 3 < (zk p 3).length := by have := HK.out; have := HL.out; omega
   have hP : 0 ≤ qo p 3 ∧ qo p 3 ≤ 23 := by have := HP.out; omega
   have HLN := zA.mk (show (zk p 3).length = 1 by have := HL.out; omega)
   have HLN2 := zA.mk (show (zk p 4).length = (zk p 3).length - 1 by have := HL.out; omega)
   obtain ⟨A1, q1, hA1, hq1, hC⟩ := Kd.JJ HR.out
   injection hA1 with hA1 hl1 hc1
   subst hA1
   clear hl1 hc1 hq1
   obtain ⟨ad, had, hx⟩ := Kd.ZP hC (ZX p 3) hK.1 (by omega)
   injection had with had
   subst had
   rw [add_plain] at hx
   have HAT := zA.mk (show rd (zk p 3) (ZX p 3) = zp p 3 from rfl)
   rw [HAT.out] at hx
   have HER := zA.mk (show (zk p 3).eraseIdx (ZX p 3).toNat = zk p 4 from rfl)
   have hX : ZX p 3 = qo p 3 := by have e : ZX p 3 = qo p 3 / 1 := rfl; rw [e]; exact Int.ediv_one _
   have HY := zA.mk (show 0 = qo p 4 by have e : qo p 4 = qo p 3 % 1 := rfl; rw [e]; omega)
   rw [hX] at hx hK
   have HX := zA.mk hX
   clear hX hC
   obtain ⟨hk0, hk1⟩ := hK
   obtain ⟨hp0, hp1⟩ := hP
   have b9 : wr.cell? ⟨w.heap.size + 1 + 1 + 1, 3, none⟩ = some (.int .i64 1) := (zK B9.out 3).trans rfl
   have b3 : wr.cell? ⟨w.heap.size + 1, 3, none⟩ = some (.int .i64 (ZZ p 3 3)) := (zK B3.out 3).trans rfl
   have f3 := zG B3.out 3
   have hk2 : qo p 3 < 9223372036854775807 := by omega
   go_wp2_with fail
   have HRw := zA.mk (show Kd.R (Kd.int .i64) 2 (wr.setCell ⟨w.heap.size + 1, 3, none⟩ (.int .i64 (zp p 3))) w.heap.size (fun k => k = w.heap.size + 1 + 1) (.slice (some ⟨w.heap.size + 1 + 1, 0, none⟩) (zk p 3).length 4) (zk p 3) from Kd.JI (p := ⟨w.heap.size + 1, 3, none⟩) HR.out (fun k hk => by rw [hk]; show w.heap.size + 1 + 1 ≠ w.heap.size + 1; omega) _)
   refine QO (args' := #[.slice (some ⟨w.heap.size + 1 + 1, 0, none⟩) (zk p 3).length 4, .int .i64 ((qo p 3).toNat : Int), .int .i64 (((qo p 3).toNat : Int) + 1)]) (by rw [Int.toNat_of_nonneg hk0]) ?_
   refine (ZW.zCI (w.heap.size + 1 + 1) 4 (qo p 3).toNat (zk p 3) w.heap.size (fun k => k = w.heap.size + 1 + 1) _ HRw.out (by omega)).mono ?_
   rintro e w1 ⟨rfl, hR1, hg1⟩
   have hl2 := HLN2.out
   have er : (zk p 3).eraseIdx (qo p 3).toNat = zk p 4 := by rw [← HER.out, HX.out]
   rw [er, ← hl2] at hR1
   rw [← hl2]
   have HR2 := zA.mk hR1
   have B3a : (wr.setCell ⟨w.heap.size + 1, 3, none⟩ (.int .i64 (zp p 3))).heap[w.heap.size + 1]? = some (.cells #[.int .i64 (ZZ p 4 0), .int .i64 (ZZ p 4 1), .int .i64 (ZZ p 4 2), .int .i64 (ZZ p 4 3)] 116 (0, 0)) := zu B3.out 3 _ rfl
   have B3n := zA.mk (qa B3a hg1 (by simp))
   have B2n := zA.mk (qa (zn (p := ⟨w.heap.size + 1, 3, none⟩) B2.out (by show w.heap.size ≠ w.heap.size + 1; omega) (.int .i64 (zp p 3))) hg1 (by simp; omega))
   have B9n := zA.mk (qa (zn (p := ⟨w.heap.size + 1, 3, none⟩) B9.out (by show w.heap.size + 1 + 1 + 1 ≠ w.heap.size + 1; omega) (.int .i64 (zp p 3))) hg1 (by simp))
   have HBn := zA.mk (Zz (zF (j := 3) (v := .int .i64 (zp p 3)) HB.out (show w.heap.size ≤ w.heap.size + 1 by omega)) (some (w.heap.size + 1 + 1)) (by have := HB.out.size; simp [World.setCell]; omega) hg1 (fun k hk => by injection hk with hk; omega))
   clear hR1 hg1 B3a HRw B3 B2 B9 HB HR er hl2 hx b9 b3 f3
   go_wp2
   go_roundg (4 - 4)
   case measure => omega
   case rel => exact ⟨4, by omega, by omega, by first | rfl | go_num, by rw [← HY.out], rfl, HR2, B3n, B2n, B9n, HBn⟩
  next =>
   have hK : 0 ≤ ZX p 2 ∧ ZX p 2 < (zk p 2).length := by have := HK.out; have := HL.out; omega
   have hP : 0 ≤ qo p 2 ∧ qo p 2 ≤ 23 := by have := HP.out; omega
   have HLN := zA.mk (show (zk p 2).length = 2 by have := HL.out; omega)
   have HLN2 := zA.mk (show (zk p 3).length = (zk p 2).length - 1 by have := HL.out; omega)
   obtain ⟨A1, q1, hA1, hq1, hC⟩ := Kd.JJ HR.out
   injection hA1 with hA1 hl1 hc1
   subst hA1
   clear hl1 hc1 hq1
   obtain ⟨ad, had, hx⟩ := Kd.ZP hC (ZX p 2) hK.1 (by omega)
   injection had with had
   subst had
   rw [add_plain] at hx
   have HAT := zA.mk (show rd (zk p 2) (ZX p 2) = zp p 2 from rfl)
   rw [HAT.out] at hx
   have HER := zA.mk (show (zk p 2).eraseIdx (ZX p 2).toNat = zk p 3 from rfl)
   have hX : ZX p 2 = qo p 2 := by have e : ZX p 2 = qo p 2 / 1 := rfl; rw [e]; exact Int.ediv_one _
   have HY := zA.mk (show 0 = qo p 3 by have e : qo p 3 = qo p 2 % 1 := rfl; rw [e]; omega)
   rw [hX] at hx hK
   have HX := zA.mk hX
   clear hX hC
   obtain ⟨hk0, hk1⟩ := hK
   obtain ⟨hp0, hp1⟩ := hP
   have b9 : wr.cell? ⟨w.heap.size + 1 + 1 + 1, 2, none⟩ = some (.int .i64 1) := (zK B9.out 2).trans rfl
   have b3 : wr.cell? ⟨w.heap.size + 1, 2, none⟩ = some (.int .i64 (ZZ p 2 2)) := (zK B3.out 2).trans rfl
   have f3 := zG B3.out 2
   have hk2 : qo p 2 < 9223372036854775807 := by omega
   go_wp2_with fail
   have HRw := zA.mk (show Kd.R (Kd.int .i64) 2 (wr.setCell ⟨w.heap.size + 1, 2, none⟩ (.int .i64 (zp p 2))) w.heap.size (fun k => k = w.heap.size + 1 + 1) (.slice (some ⟨w.heap.size + 1 + 1, 0, none⟩) (zk p 2).length 4) (zk p 2) from Kd.JI (p := ⟨w.heap.size + 1, 2, none⟩) HR.out (fun k hk => by rw [hk]; show w.heap.size + 1 + 1 ≠ w.heap.size + 1; omega) _)
   refine QO (args' := #[.slice (some ⟨w.heap.size + 1 + 1, 0, none⟩) (zk p 2).length 4, .int .i64 ((qo p 2).toNat : Int), .int .i64 (((qo p 2).toNat : Int) + 1)]) (by rw [Int.toNat_of_nonneg hk0]) ?_
   refine (ZW.zCI (w.heap.size + 1 + 1) 4 (qo p 2).toNat (zk p 2) w.heap.size (fun k => k = w.heap.size + 1 + 1) _ HRw.out (by omega)).mono ?_
   rintro e w1 ⟨rfl, hR1, hg1⟩
   have hl2 := HLN2.out
   have er : (zk p 2).eraseIdx (qo p 2).toNat = zk p 3 := by rw [← HER.out, HX.out]
   rw [er, ← hl2] at hR1
   rw [← hl2]
   have HR2 := zA.mk hR1
   have B3a : (wr.setCell ⟨w.heap.size + 1, 2, none⟩ (.int .i64 (zp p 2))).heap[w.heap.size + 1]? = some (.cells #[.int .i64 (ZZ p 3 0), .int .i64 (ZZ p 3 1), .int .i64 (ZZ p 3 2), .int .i64 (ZZ p 3 3)] 116 (0, 0)) := zu B3.out 2 _ rfl
   have B3n := zA.mk (qa B3a hg1 (by simp))
   have B2n := zA.mk (qa (zn (p := ⟨w.heap.size + 1, 2, none⟩) B2.out (by show w.heap.size ≠ w.heap.size + 1; omega) (.int .i64 (zp p 2))) hg1 (by simp; omega))
   have B9n := zA.mk (qa (zn (p := ⟨w.heap.size + 1, 2, none⟩) B9.out (by show w.heap.size + 1 + 1 + 1 ≠ w.heap.size + 1; omega) (.int .i64 (zp p 2))) hg1 (by simp))
   have HBn := zA.mk (Zz (zF (j := 2) (v := .int .i64 (zp p 2)) HB.out (show w.heap.size ≤ w.heap.size + 1 by omega)) (some (w.heap.size + 1 + 1)) (by have := HB.out.size; simp [World.setCell]; omega) hg1 (fun k hk => by injection hk with hk; omega))
   clear hR1 hg1 B3a HRw B3 B2 B9 HB HR er hl2 hx b9 b3 f3
   go_wp2
   go_roundg (4 - 3)
   case measure => omega
   case rel => exact ⟨3, by omega, by omega, by first | rfl | go_num, by rw [← HY.out], rfl, HR2, B3n, B2n, B9n, HBn⟩
  next =>
   have hK : 0 ≤ ZX p 1 ∧ ZX p 1 < (zk p 1).length := by have := HK.out; have := HL.out; omega
   have hP : 0 ≤ qo p 1 ∧ qo p 1 ≤ 23 := by have := HP.out; omega
   have HLN := zA.mk (show (zk p 1).length = 3 by have := HL.out; omega)
   have HLN2 := zA.mk (show (zk p 2).length = (zk p 1).length - 1 by have := HL.out; omega)
   obtain ⟨A1, q1, hA1, hq1, hC⟩ := Kd.JJ HR.out
   injection hA1 with hA1 hl1 hc1
   subst hA1
   clear hl1 hc1 hq1
   obtain ⟨ad, had, hx⟩ := Kd.ZP hC (ZX p 1) hK.1 (by omega)
   injection had with had
   subst had
   rw [add_plain] at hx
   have HAT := zA.mk (show rd (zk p 1) (ZX p 1) = zp p 1 from rfl)
   rw [HAT.out] at hx
   have HER := zA.mk (show (zk p 1).eraseIdx (ZX p 1).toNat = zk p 2 from rfl)
   have hX : ZX p 1 = qo p 1 / 2 := by have e : ZX p 1 = qo p 1 / 2 := rfl; rw [e]
   have HY := zA.mk (show qo p 1 % 2 = qo p 2 by have e : qo p 2 = qo p 1 % 2 := rfl; rw [e])
   rw [hX] at hx hK
   have HX := zA.mk hX
   clear hX hC
   obtain ⟨hk0, hk1⟩ := hK
   obtain ⟨hp0, hp1⟩ := hP
   have b9 : wr.cell? ⟨w.heap.size + 1 + 1 + 1, 1, none⟩ = some (.int .i64 2) := (zK B9.out 1).trans rfl
   have b3 : wr.cell? ⟨w.heap.size + 1, 1, none⟩ = some (.int .i64 (ZZ p 1 1)) := (zK B3.out 1).trans rfl
   have f3 := zG B3.out 1
   have hk2 : qo p 1 / 2 < 9223372036854775807 := by omega
   go_wp2_with fail
   have HRw := zA.mk (show Kd.R (Kd.int .i64) 2 (wr.setCell ⟨w.heap.size + 1, 1, none⟩ (.int .i64 (zp p 1))) w.heap.size (fun k => k = w.heap.size + 1 + 1) (.slice (some ⟨w.heap.size + 1 + 1, 0, none⟩) (zk p 1).length 4) (zk p 1) from Kd.JI (p := ⟨w.heap.size + 1, 1, none⟩) HR.out (fun k hk => by rw [hk]; show w.heap.size + 1 + 1 ≠ w.heap.size + 1; omega) _)
   refine QO (args' := #[.slice (some ⟨w.heap.size + 1 + 1, 0, none⟩) (zk p 1).length 4, .int .i64 ((qo p 1 / 2).toNat : Int), .int .i64 (((qo p 1 / 2).toNat : Int) + 1)]) (by rw [Int.toNat_of_nonneg hk0]) ?_
   refine (ZW.zCI (w.heap.size + 1 + 1) 4 (qo p 1 / 2).toNat (zk p 1) w.heap.size (fun k => k = w.heap.size + 1 + 1) _ HRw.out (by omega)).mono ?_
   rintro e w1 ⟨rfl, hR1, hg1⟩
   have hl2 := HLN2.out
   have er : (zk p 1).eraseIdx (qo p 1 / 2).toNat = zk p 2 := by rw [← HER.out, HX.out]
   rw [er, ← hl2] at hR1
   rw [← hl2]
   have HR2 := zA.mk hR1
   have B3a : (wr.setCell ⟨w.heap.size + 1, 1, none⟩ (.int .i64 (zp p 1))).heap[w.heap.size + 1]? = some (.cells #[.int .i64 (ZZ p 2 0), .int .i64 (ZZ p 2 1), .int .i64 (ZZ p 2 2), .int .i64 (ZZ p 2 3)] 116 (0, 0)) := zu B3.out 1 _ rfl
   have B3n := zA.mk (qa B3a hg1 (by simp))
   have B2n := zA.mk (qa (zn (p := ⟨w.heap.size + 1, 1, none⟩) B2.out (by show w.heap.size ≠ w.heap.size + 1; omega) (.int .i64 (zp p 1))) hg1 (by simp; omega))
   have B9n := zA.mk (qa (zn (p := ⟨w.heap.size + 1, 1, none⟩) B9.out (by show w.heap.size + 1 + 1 + 1 ≠ w.heap.size + 1; omega) (.int .i64 (zp p 1))) hg1 (by simp))
   have HBn := zA.mk (Zz (zF (j := 1) (v := .int .i64 (zp p 1)) HB.out (show w.heap.size ≤ w.heap.size + 1 by omega)) (some (w.heap.size + 1 + 1)) (by have := HB.out.size; simp [World.setCell]; omega) hg1 (fun k hk => by injection hk with hk; omega))
   clear hR1 hg1 B3a HRw B3 B2 B9 HB HR er hl2 hx b9 b3 f3
   go_wp2
   go_roundg (4 - 2)
   case measure => omega
   case rel => exact ⟨2, by omega, by omega, by first | rfl | go_num, by rw [← HY.out], rfl, HR2, B3n, B2n, B9n, HBn⟩
  next =>
   have hK : 0 ≤ ZX p 0 ∧ ZX p 0 < (zk p 0).length := by have := HK.out; have := HL.out; omega
   have hP : 0 ≤ qo p 0 ∧ qo p 0 ≤ 23 := by have := HP.out; omega
   have HLN := zA.mk (show (zk p 0).length = 4 by have := HL.out; omega)
   have HLN2 := zA.mk (show (zk p 1).length = (zk p 0).length - 1 by have := HL.out; omega)
   obtain ⟨A1, q1, hA1, hq1, hC⟩ := Kd.JJ HR.out
   injection hA1 with hA1 hl1 hc1
   subst hA1
   clear hl1 hc1 hq1
   obtain ⟨ad, had, hx⟩ := Kd.ZP hC (ZX p 0) hK.1 (by omega)
   injection had with had
   subst had
   rw [add_plain] at hx
   have HAT := zA.mk (show rd (zk p 0) (ZX p 0) = zp p 0 from rfl)
   rw [HAT.out] at hx
   have HER := zA.mk (show (zk p 0).eraseIdx (ZX p 0).toNat = zk p 1 from rfl)
   have hX : ZX p 0 = qo p 0 / 6 := by have e : ZX p 0 = qo p 0 / 6 := rfl; rw [e]
   have HY := zA.mk (show qo p 0 % 6 = qo p 1 by have e : qo p 1 = qo p 0 % 6 := rfl; rw [e])
   rw [hX] at hx hK
   have HX := zA.mk hX
   clear hX hC
   obtain ⟨hk0, hk1⟩ := hK
   obtain ⟨hp0, hp1⟩ := hP
   have b9 : wr.cell? ⟨w.heap.size + 1 + 1 + 1, 0, none⟩ = some (.int .i64 6) := (zK B9.out 0).trans rfl
   have b3 : wr.cell? ⟨w.heap.size + 1, 0, none⟩ = some (.int .i64 (ZZ p 0 0)) := (zK B3.out 0).trans rfl
   have f3 := zG B3.out 0
   have hk2 : qo p 0 / 6 < 9223372036854775807 := by omega
   go_wp2_with fail
   have HRw := zA.mk (show Kd.R (Kd.int .i64) 2 (wr.setCell ⟨w.heap.size + 1, 0, none⟩ (.int .i64 (zp p 0))) w.heap.size (fun k => k = w.heap.size + 1 + 1) (.slice (some ⟨w.heap.size + 1 + 1, 0, none⟩) (zk p 0).length 4) (zk p 0) from Kd.JI (p := ⟨w.heap.size + 1, 0, none⟩) HR.out (fun k hk => by rw [hk]; show w.heap.size + 1 + 1 ≠ w.heap.size + 1; omega) _)
   refine QO (args' := #[.slice (some ⟨w.heap.size + 1 + 1, 0, none⟩) (zk p 0).length 4, .int .i64 ((qo p 0 / 6).toNat : Int), .int .i64 (((qo p 0 / 6).toNat : Int) + 1)]) (by rw [Int.toNat_of_nonneg hk0]) ?_
   refine (ZW.zCI (w.heap.size + 1 + 1) 4 (qo p 0 / 6).toNat (zk p 0) w.heap.size (fun k => k = w.heap.size + 1 + 1) _ HRw.out (by omega)).mono ?_
   rintro e w1 ⟨rfl, hR1, hg1⟩
   have hl2 := HLN2.out
   have er : (zk p 0).eraseIdx (qo p 0 / 6).toNat = zk p 1 := by rw [← HER.out, HX.out]
   rw [er, ← hl2] at hR1
   rw [← hl2]
   have HR2 := zA.mk hR1
   have B3a : (wr.setCell ⟨w.heap.size + 1, 0, none⟩ (.int .i64 (zp p 0))).heap[w.heap.size + 1]? = some (.cells #[.int .i64 (ZZ p 1 0), .int .i64 (ZZ p 1 1), .int .i64 (ZZ p 1 2), .int .i64 (ZZ p 1 3)] 116 (0, 0)) := zu B3.out 0 _ rfl
   have B3n := zA.mk (qa B3a hg1 (by simp))
   have B2n := zA.mk (qa (zn (p := ⟨w.heap.size + 1, 0, none⟩) B2.out (by show w.heap.size ≠ w.heap.size + 1; omega) (.int .i64 (zp p 0))) hg1 (by simp; omega))
   have B9n := zA.mk (qa (zn (p := ⟨w.heap.size + 1, 0, none⟩) B9.out (by show w.heap.size + 1 + 1 + 1 ≠ w.heap.size + 1; omega) (.int .i64 (zp p 0))) hg1 (by simp))
   have HBn := zA.mk (Zz (zF (j := 0) (v := .int .i64 (zp p 0)) HB.out (show w.heap.size ≤ w.heap.size + 1 by omega)) (some (w.heap.size + 1 + 1)) (by have := HB.out.size; simp [World.setCell]; omega) hg1 (fun k hk => by injection hk with hk; omega))
   clear hR1 hg1 B3a HRw B3 B2 B9 HB HR er hl2 hx b9 b3 f3
   go_wp2
   go_roundg (4 - 1)
   case measure => omega
   case rel => exact ⟨1, by omega, by omega, by first | rfl | go_num, by rw [← HY.out], rfl, HR2, B3n, B2n, B9n, HBn⟩
def qY.f (l0 : List (List (zo))) : Option (Int) := some (l0.length : Int)
set_option maxHeartbeats 8000000 in
set_option maxRecDepth 100000 in
theorem qY.calls (A0 : Option Addr) (c0 : Nat) (l0 : List (List (zo))) (r : Int) (w : World) (hr0 : Kd.C (Kd.slice 115 qh) w A0 l0.length l0) (hc0 : l0.length ≤ c0) (h : qY.f l0 = some r) :
    Calls Try.prog 111 #[.slice A0 l0.length c0] w fun e w' => e = .returned (.int .i64 r) ∧ zi w w' := by
  have HR0 := zA.mk hr0
  have HC0 := zA.mk hc0
  clear hr0 hc0
  have H : (some (l0.length : Int)) = some r := h
  clear h
  obtain rfl := yey H
  go_enter Try.func111, Try.ntmps111
  go_wp2
  go_ret
  exact ⟨by first | rfl | (simp; done) | (simp [*]; done), by repeat (first | exact zi.refl _ | apply zi.step)⟩
def qx.f (a0_0 : Int) (a0_1 : Int) : Option (Bool) := some (decide (a0_0 < 0))
set_option maxHeartbeats 8000000 in
set_option maxRecDepth 100000 in
theorem qx.calls (a0_0 : Int) (a0_1 : Int) (r : Bool) (w : World) (h : qx.f a0_0 a0_1 = some r) :
    Calls Try.prog 148 #[.agg #[.int .i64 a0_0, .int .i64 a0_1]] w fun e w' => e = .returned (.bool r) ∧ Below w.heap.size w w' := by
  have hu115 := Try.underlying115
  have HB := zA.mk (ypy w.heap.size w)
  have H : (some (decide (a0_0 < 0))) = some r := h
  clear h
  obtain rfl := yey H
  go_enter Try.func148, Try.ntmps148
  go_wp2_with (first | ((with_reducible refine ze (N := 1) rfl ?_); refine zc ?hg (N := 1) ?hd (cs := #[.int .i64 a0_0, .int .i64 a0_1]) (t := 115) ?hr ?_; (case hd => rfl); (case hg => rfl); (case hr => first | (go_simp; done) | (go_simp; rfl)); intro gb101 hg w2 hbox hb; have n0_ := zA.mk (zN (by repeat (first | (with_reducible first | exact HB.out | apply zC | apply zB | apply zD) | exact HB.out)) hb); have n1_ := zA.mk (hbox); have n2_ := zA.mk ((by rw [hg]; exact (zP (by repeat (first | (with_reducible first | exact HB.out | apply zC | apply zB | apply zD) | exact HB.out))) : w.heap.size ≤ gb101)); have n3_ := zA.mk ((by rw [hg]; exact (zP (by repeat (first | (with_reducible first | exact HB.out | apply zC | apply zB | apply zD) | exact HB.out))) : w.heap.size ≤ gb101)); clear HB; have HB := n0_; have BK101 := n1_; have GW101 := n2_; have GE101 := n3_; clear n0_ n1_ n2_ n3_; clear hb hbox hg; have hcz3_0 : w2.cell? ⟨gb101, 0, none⟩ = some (.int .i64 a0_0) := (zK BK101.out 0).trans rfl; have hcz3_1 : w2.cell? ⟨gb101, 1, none⟩ = some (.int .i64 a0_1) := (zK BK101.out 1).trans rfl; have hfz3_0 := zG BK101.out 0; have hfz3_1 := zG BK101.out 1))
  go_ret
  exact ⟨by first | rfl | (simp [zS, zT] <;> rfl) | (simp [*, zS, zT] <;> rfl), by repeat (first | (with_reducible first | exact HB.out | apply zC | apply zB | apply zD | refine zF ?_ GE101.out) | exact HB.out)⟩
theorem goesF_ {P : Program} {ops : Array Oper} {Q : Exit → Act → World → Prop} {oi : Oper} {N : Option Tmp} {a : Act} {w : World} {K : Act → World → Prop} {f : FuncId} {fn : Func} {t : Tmp} {as_ : Array Operand} {ts : Array TypeId} {caps : Array Value} (hf : P.funcs[f]? = some fn) (hname : (fn.name == "runtime.NumGoroutine") = false) (hb : fn.body.isSome = true) (args all : Array Value)
    (hw : Region.wanted oi (yielded ops a.tmps) = true) (hN : oi.dst = N) (hop : oi.op = .call { callee := .value (.tmp t), args := as_, argTypes := ts }) (ht : a.eval (.tmp t) = .func (.func f) #[] caps) (hargs : as_.map a.eval = args) (hall : args ++ caps = all)
    (h : Calls P f all w fun e w' => ∃ v, e = .returned v ∧ K (a.put N v) w') : if Region.wanted oi (yielded ops a.tmps) = true then Oper.wp P oi a w K Q else K (a.put N undef) w := by
  subst hall
  refine call_ f (args ++ caps) hw hN ?_ h
  have he := zBu hf hname hb (args ++ caps) w
  unfold execOp
  simp [hop, resolve, Deferred.ofValue, invoke, ht, hargs, he]
theorem zDs {α : Type} {w : World} {d : Kd α} {e base b : Nat} {ok : Nat → Prop} {v : Value} {xs : List α} (h : d.R e w base ok v xs) (hb : v.ownBlock = some b) : ∃ cap, v = .slice (some ⟨b, 0, none⟩) xs.length cap := by
  obtain ⟨inner, ho⟩ := Kd.zCU h
  rcases ho.2 with ⟨rfl, _⟩ | ⟨g, cap, cur, rfl, _⟩
  · simp [Value.ownBlock] at hb
  · have : g = b := by simpa [Value.ownBlock] using hb
    subst this
    exact ⟨cap, rfl⟩
def zCe {σ : Type} (step : σ → Nat → Nat → zo → σ) (tet : Nat) : List zo → Nat → σ → σ
  | [], _, s => s
  | x :: xs, f, s => zCe step tet xs (f + 1) (if x.f0 < 0 then s else step s tet f x)
def zBB {σ : Type} (step : σ → Nat → Nat → zo → σ) : List (List zo) → Nat → σ → σ
  | [], _, s => s
  | r :: rs, tet, s => zBB step rs (tet + 1) (zCe step tet r 0 s)
def zDH (l : List (List zo)) (j f : Nat) (x : zo) : Prop := ∃ h1 : j < l.length, ∃ h2 : f < l[j].length, l[j][f] = x
set_option maxHeartbeats 8000000 in
set_option maxRecDepth 100000 in
theorem zCf.calls {σ : Type} (F : FuncId) (fn : Func) (hf : Try.prog.funcs[F]? = some fn) (hname : (fn.name == "runtime.NumGoroutine") = false) (hbody : fn.body.isSome = true) (caps : Array Value)
    (l : List (List zo)) (A0 : Option Addr) (c0 : Nat) (w0 w : World) (Inv : σ → World → Prop) (step : σ → Nat → Nat → zo → σ) (st0 : σ)
    (cnt : σ → Nat) (N : Nat) (hcnt : ∀ s j f x, cnt (step s j f x) ≤ cnt s + 4) (hN : cnt st0 + 4 * (l.map List.length).sum ≤ N)
    (hB : ∀ s W W', Inv s W → Below W.heap.size W W' → Inv s W')
    (hK : ∀ s W, Inv s W → Below w0.heap.size w0 W)
    (hT : Kd.C (Kd.slice 115 qh) w0 A0 l.length l)
    (hperm : ∀ r ∈ l, ∀ x ∈ r, ¬ x.f0 < 0 → 0 ≤ x.f1 ∧ x.f1 ≤ 23)
    (hstep : ∀ s W (j f : Nat) (x : zo), Inv s W → zDH l j f x → ¬ x.f0 < 0 → cnt s + 4 ≤ N →
      Calls Try.prog F (#[.int .i64 (j : Int), .int .i64 (f : Int), .agg #[.int .i64 x.f0, .int .i64 x.f1], .agg #[.int .i64 (zp x.f1 0), .int .i64 (zp x.f1 1), .int .i64 (zp x.f1 2), .int .i64 (zp x.f1 3)]] ++ caps) W fun e W' => e = .returned (.tuple #[]) ∧ Inv (step s j f x) W')
    (h0 : Inv st0 w) :
    Calls Try.prog 112 #[.agg #[.slice A0 l.length c0], .func (.func F) #[] caps] w fun e w' => e = .returned (.tuple #[]) ∧ Inv (zBB step l 0 st0) w' := by
  have HB := zA.mk hB
  have HK := zA.mk hK
  have HT := zA.mk hT
  have HPM := zA.mk hperm
  have HST := zA.mk hstep
  have HCN := zA.mk hcnt
  have HN : zA (cnt st0 + 4 * ((l.drop 0).map List.length).sum ≤ N) := ⟨by rw [List.drop_zero]; exact hN⟩
  clear hcnt hN
  have HS := zA.mk (hB _ _ _ h0 (zC (ypy w.heap.size w) (.cells #[.slice A0 l.length c0] 30)))
  have hbig : l.length ≤ 9223372036854775807 := hT.2.1
  clear hB hT hperm hstep h0 hK
  have HA : zA (zBB step (l.drop 0) 0 st0 = zBB step l 0 st0) := ⟨by rw [List.drop_zero]⟩
  generalize zBB step l 0 st0 = R at HA ⊢
  go_enter Try.func112, Try.ntmps112
  go_wp2
  go_loopg [11] l.length (fun gg v11 w' => ∃ (j : Nat) (s : σ), j ≤ l.length ∧ l.length - j ≤ gg ∧ v11 = .int .i64 j ∧ zA (zBB step (l.drop j) j s = R) ∧ zA (Inv s w') ∧ zA (cnt s + 4 * ((l.drop j).map List.length).sum ≤ N))
  case atStart => exact ⟨0, st0, Nat.zero_le _, by omega, rfl, HA, HS, HN⟩
  case round =>
    clear HS HA HN
    obtain ⟨j, st, hj, hg, rfl, HA, HS, HN⟩ := hrel
    by_cases hlt : j < l.length
    · have hltz : (j : Int) < (l.length : Int) := by omega
      obtain ⟨ad1, A1, c1, e1, hy1, hl1, hC1⟩ := qv HT.out (j : Int) (by omega) hltz
      subst e1
      have ex : zE l (j : Int) = l[j] := by simp [zE, hlt]
      rw [ex] at hy1 hl1 hC1
      rw [Int.toNat_natCast] at hy1
      replace hy1 := ((HK.out _ _ HS.out).cell (yny w0 _ hy1)).trans hy1
      have HA2 := HA.out
      rw [List.drop_eq_getElem_cons hlt, zBB] at HA2
      have HI : zA (zBB step (l.drop (j + 1)) (j + 1) (zCe step j (l[j].drop 0) 0 st) = R) := ⟨by rw [List.drop_zero]; exact HA2⟩
      have HN1 : zA (cnt st + 4 * (l[j].length - 0 + ((l.drop (j + 1)).map List.length).sum) ≤ N) := ⟨by have h := HN.out; rw [List.drop_eq_getElem_cons hlt, yjy, List.sum_cons] at h; omega⟩
      clear HN
      have HP1 := zA.mk (HPM.out l[j] (List.getElem_mem hlt))
      have HX := zA.mk (show ∀ (f : Nat) (x : zo) (h2 : f < l[j].length), l[j][f] = x → zDH l j f x from fun f x h2 h => ⟨hlt, h2, h⟩)
      have hbig1 : l[j].length ≤ 9223372036854775807 := hC1.2.1
      have HC1 := zA.mk hC1
      clear HA HA2 hl1 hC1 ex
      generalize l[j] = row at *
      go_wp2
      go_loopg [18] row.length (fun gg v18 w' => ∃ (f : Nat) (s : σ), f ≤ row.length ∧ row.length - f ≤ gg ∧ v18 = .int .i64 f ∧ zA (zBB step (l.drop (j + 1)) (j + 1) (zCe step j (row.drop f) f s) = R) ∧ zA (Inv s w') ∧ zA (cnt s + 4 * (row.length - f + ((l.drop (j + 1)).map List.length).sum) ≤ N))
      case atStart => exact ⟨0, st, Nat.zero_le _, by omega, rfl, HI, HS, HN1⟩
      case round =>
        clear HI HS hy1 HN1
        obtain ⟨f, st, hf9, hgf, rfl, HI, HS, HN1⟩ := hrel
        by_cases hlf : f < row.length
        · have hlfz : (f : Int) < (row.length : Int) := by omega
          obtain ⟨ad2, e2, hy2, hy3⟩ := ZT HC1.out (f : Int) (by omega) hlfz
          subst e2
          replace hy2 := ((HK.out _ _ HS.out).cell (yny w0 _ hy2)).trans hy2
          replace hy3 := ((HK.out _ _ HS.out).cell (yny w0 _ hy3)).trans hy3
          have HF := zA.mk (HX.out f row[f] hlf rfl)
          have HY := zA.mk (HP1.out row[f] (List.getElem_mem hlf))
          have HI2 := HI.out
          rw [List.drop_eq_getElem_cons hlf, zCe] at HI2
          have HI3 := zA.mk HI2
          clear HI HI2
          have ex : zJ row (f : Int) = row[f] := by simp [zJ, hlf]
          rw [ex, Int.toNat_natCast] at hy2 hy3
          generalize row[f] = y at hy2 hy3 HY HI3 HF
          obtain ⟨f0, f1⟩ := y
          clear ex
          have BF := zA.mk (QR (W := wr) rfl (.cells #[.int .i64 f0, .int .i64 f1] 115))
          have HS1 := zA.mk (HB.out _ _ _ HS.out (zC (ypy _ _) (.cells #[.int .i64 f0, .int .i64 f1] 115)))
          clear HS
          by_cases hb : f0 < 0
          · rw [if_pos hb] at HI3
            have d0 : decide (f0 < 0) = true := ygy hb
            go_wp2_with (first | (go_at_call 148; (with_reducible refine (qx.calls f0 f1 true _ (by unfold qx.f; rw [d0])).mono ?_); rintro e w2 ⟨rfl, hnd⟩; have HS2 := zA.mk (HB.out _ _ _ HS1.out hnd); clear HS1 BF hnd))
            go_roundg (row.length - (f + 1))
            case measure => omega
            case rel => exact ⟨f + 1, st, by omega, by omega, by go_num, HI3, HS2, ⟨by have := HN1.out; omega⟩⟩
          · rw [if_neg hb] at HI3
            have d0 : decide (f0 < 0) = false := yhy hb
            have HP := zA.mk (show 0 ≤ f1 ∧ f1 ≤ 23 from HY.out (by first | exact hb | (show (0 : Int) ≤ f0; omega)))
            have hb9 := zA.mk hb
            clear HY
            go_wp2_with (first | (go_at_call 148; (with_reducible refine (qx.calls f0 f1 false _ (by unfold qx.f; rw [d0])).mono ?_); rintro e w2 ⟨rfl, hnd⟩; have HS2 := zA.mk (HB.out _ _ _ HS1.out hnd); have BF2 := zA.mk (zO BF.out hnd); clear HS1 BF hnd; have BF := BF2; clear BF2))
            refine Zf (n := 8) (S := fun w' => w'.cell? ⟨wr.heap.size, 0, none⟩ = some (.int .i64 f0) ∧ w'.cell? ⟨wr.heap.size, 1, none⟩ = some (.int .i64 f1)) (ds := [7]) #[false, false, false, false, false, false, false, false] (by kernel_rfl) rfl rfl ⟨(zK BF.out 0).trans rfl, (zK BF.out 1).trans rfl⟩ (fun hHeld => ?_)
            have HS3 := zA.mk (HB.out _ _ _ HS2.out (zD (ypy _ _)))
            have BF3 := zA.mk (zL BF.out)
            clear HS2 BF
            have HS2 := HS3
            have BF := BF3
            clear HS3 BF3
            generalize w2.drew = w22 at HS2 BF hHeld ⊢
            refine za (i := 0) (N := some 26) (v := ?_) (a' := ?_) #[true, false, false, false, false, false, false, false] rfl rfl (by kernel_rfl) (fun _ _ _ h => h) (Or.inl ⟨by rfl, ?_⟩) ?_ ?_
            rotate_left
            · intro w'
              go_simp
              with_reducible rfl
            rotate_left
            · simp only [Act.put, yay, yby, ycy, zV, zW]
              rfl
            refine za (i := 1) (N := some 27) (v := ?_) (a' := ?_) #[true, true, false, false, false, false, false, false] rfl rfl (by kernel_rfl) (fun _ _ _ h => h) (Or.inl ⟨by rfl, ?_⟩) ?_ ?_
            rotate_left
            · intro w'
              go_simp
              with_reducible rfl
            rotate_left
            · simp only [Act.put, yay, yby, ycy, zV, zW]
              rfl
            refine za (i := 2) (N := some 28) (v := ?_) (a' := ?_) #[true, true, true, false, false, false, false, false] rfl rfl (by kernel_rfl) (fun _ _ _ h => h) (Or.inl ⟨by rfl, ?_⟩) ?_ ?_
            rotate_left
            · intro w'
              go_simp
              with_reducible rfl
            rotate_left
            · simp only [Act.put, yay, yby, ycy, zV, zW]
              rfl
            refine qf (i := 3) (N := some 29) (v := ?_) (a' := ?_) #[true, true, true, true, false, false, false, false] rfl rfl (by kernel_rfl) (fun _ _ _ h => h) (Or.inl ⟨by rfl, ?_⟩) hHeld ?_ ?_
            rotate_left
            · rintro w' ⟨s0, s1⟩
              go_simp
              with_reducible rfl
            rotate_left
            · simp only [Act.put, yay, yby, ycy, zV, zW]
              rfl
            refine za (i := 4) (N := some 30) (v := ?_) (a' := ?_) #[true, true, true, true, true, false, false, false] rfl rfl (by kernel_rfl) (fun _ _ _ h => h) (Or.inl ⟨by rfl, ?_⟩) ?_ ?_
            rotate_left
            · intro w'
              go_simp
              with_reducible rfl
            rotate_left
            · simp only [Act.put, yay, yby, ycy, zV, zW]
              rfl
            refine qf (i := 5) (N := some 31) (v := ?_) (a' := ?_) #[true, true, true, true, true, true, false, false] rfl rfl (by kernel_rfl) (fun _ _ _ h => h) (Or.inl ⟨by rfl, ?_⟩) hHeld ?_ ?_
            rotate_left
            · rintro w' ⟨s0, s1⟩
              go_simp
              with_reducible rfl
            rotate_left
            · simp only [Act.put, yay, yby, ycy, zV, zW]
              rfl
            refine zA2 (i := 6) (N := some 32) #[true, true, true, true, true, true, true, false] rfl rfl (by kernel_rfl) (by decide) (fun K hK => ?_)
            refine Qr Try.func149 (by kernel_rfl) rfl #[.int .i64 f1] (by rfl) rfl rfl (by (try simp only [yiy, yjy, yky]); first | done | rfl) ?_
            refine (zAE.calls f1 _ HP.out.1 HP.out.2).mono ?_
            rintro e w3 ⟨rfl, hb3⟩
            refine ⟨_, rfl, ?_⟩
            have HS3 := zA.mk (HB.out _ _ _ HS2.out hb3)
            have BF3 := zA.mk (zO BF.out hb3)
            clear HS2 BF hb3
            have BF := BF3
            have HS2 := HS3
            clear BF3 HS3
            refine hK.out _ _ ⟨(zK BF.out 0).trans rfl, (zK BF.out 1).trans rfl⟩ (fun hHeld => ?_)
            clear hK K
            refine QH (a' := ?_) ?_ ?_
            rotate_left
            · show Act.put _ (some 32) _ = _
              simp only [Act.put, yay, yby, ycy, zV, zW]
              rfl
            refine zD4 (i := 7) (N := some 33) #[true, true, true, true, true, true, true, true] rfl rfl (by kernel_rfl) (by decide) (fun K hK => ?_)
            refine goesF_ (f := F) (fn := fn) hf hname hbody #[.int .i64 (j : Int), .int .i64 (f : Int), .agg #[.int .i64 f0, .int .i64 f1], .agg #[.int .i64 (zp f1 0), .int .i64 (zp f1 1), .int .i64 (zp f1 2), .int .i64 (zp f1 3)]] (#[.int .i64 (j : Int), .int .i64 (f : Int), .agg #[.int .i64 f0, .int .i64 f1], .agg #[.int .i64 (zp f1 0), .int .i64 (zp f1 1), .int .i64 (zp f1 2), .int .i64 (zp f1 3)]] ++ caps) (by rfl) rfl rfl rfl (by (try simp only [yiy, yjy, yky]); first | done | rfl) rfl ?_
            refine (HST.out st _ j f ⟨f0, f1⟩ HS2.out HF.out hb9.out (by have := HN1.out; omega)).mono ?_
            rintro e w4 ⟨rfl, hS4⟩
            refine ⟨_, rfl, ?_⟩
            have HS4 := zA.mk hS4
            clear hS4 HS2
            refine hK.out _ _ ?_
            clear hK K
            refine QH (a' := ?_) ?_ ?_
            rotate_left
            · show Act.put _ (some 33) _ = _
              simp only [Act.put, yay, yby, ycy, zV, zW]
              rfl
            refine QQ (by kernel_rfl) ?_
            go_wp2
            go_roundg (row.length - (f + 1))
            case measure => omega
            case rel => exact ⟨f + 1, _, by omega, by omega, by go_num, HI3, HS4, ⟨by have := HN1.out; have := HCN.out st j f ⟨f0, f1⟩; omega⟩⟩
        · obtain rfl : f = row.length := by omega
          have HI2 := HI.out
          rw [List.drop_length, zCe] at HI2
          have HA := zA.mk HI2
          clear HI HI2
          go_wp2
          go_roundg (l.length - (j + 1))
          case measure => omega
          case rel => exact ⟨j + 1, st, by omega, by omega, by go_num, HA, HS, ⟨by have := HN1.out; omega⟩⟩
    · obtain rfl : j = l.length := by omega
      have HA2 := HA.out
      rw [List.drop_length, zBB] at HA2
      subst HA2
      go_wp2
      first | go_end0 | ((try simp only [Exit.inBlock, Exit.then]); refine bodyPost_ret (results_none rfl _ _ _) rfl ?_)
      refine ⟨?_, HS.out⟩
      first | rfl | (simp <;> rfl)
def qw (l : List Int) (i : Nat) : Nat → Int
  | 0 => rd l i
  | j + 1 => if rd l j < rd l i then qw l i j - 1 else qw l i j
def Qt (l : List Int) : Nat → Int
  | 0 => 0
  | i + 1 => Qt l i + qw l i i * zDG i
def idxL (l : List Int) : Int := Qt l 4
def sm (x : Int) : Prop := 0 ≤ x ∧ x ≤ 3
theorem Qz (l : List Int) (i : Nat) (h : sm (rd l i)) : ∀ j : Nat, -(j : Int) ≤ qw l i j ∧ qw l i j ≤ 3
  | 0 => by have := h.1; have := h.2; unfold qw; omega
  | j + 1 => by
    have := Qz l i h j
    unfold qw
    split <;> omega
set_option maxHeartbeats 8000000 in
set_option maxRecDepth 100000 in
theorem zBa.calls (a b c d : Int) (w : World) (ha : sm a) (hb : sm b) (hc : sm c) (hd : sm d) :
    Calls Try.prog 170 #[.agg #[.int .i64 a, .int .i64 b, .int .i64 c, .int .i64 d]] w fun e w' => e = .returned (.int .i64 (idxL [a, b, c, d])) ∧ Below w.heap.size w w' := by
  have hl0 : sm (rd [a, b, c, d] (0 : Nat)) := ha
  have hl1 : sm (rd [a, b, c, d] (1 : Nat)) := hb
  have hl2 : sm (rd [a, b, c, d] (2 : Nat)) := hc
  have hl3 : sm (rd [a, b, c, d] (3 : Nat)) := hd
  have HL := zA.mk (And.intro (Qz _ 0 hl0) (And.intro (Qz _ 1 hl1) (And.intro (Qz _ 2 hl2) (Qz _ 3 hl3))))
  have HS := zA.mk (And.intro hl0 (And.intro hl1 (And.intro hl2 hl3)))
  clear ha hb hc hd hl0 hl1 hl2 hl3
  generalize hl : [a, b, c, d] = l at HL HS ⊢
  have HLL := zA.mk hl
  clear hl
  go_enter Try.func170, Try.ntmps170
  go_wp2_with fail
  go_loopg [3, 11] 4 (fun gg v3 v11 w' => ∃ i : Nat, i ≤ 4 ∧ 4 - i ≤ gg ∧ v11 = .int .i64 i ∧ v3 = .int .i64 (Qt l i) ∧ zA (-24 * (i : Int) ≤ Qt l i ∧ Qt l i ≤ 24 * i) ∧
    zA (w'.heap[w.heap.size]? = some (.cells #[.int .i64 a, .int .i64 b, .int .i64 c, .int .i64 d] 116 (0, 0))) ∧
    zA (w'.heap[w.heap.size + 1]? = some (.cells #[.int .i64 6, .int .i64 2, .int .i64 1, .int .i64 1] 2 (0, 0))) ∧ zA (Below w.heap.size w w'))
  case atStart =>
    refine ⟨0, by omega, by omega, rfl, rfl, ⟨by simp [Qt]⟩, ⟨?_⟩, ⟨?_⟩, ⟨?_⟩⟩
    · exact zH (QR rfl _) _
    · exact QR (by simp) _
    · exact zC (zC (ypy _ _) _) _
  case round =>
    obtain ⟨i, hi, hg, rfl, rfl, HI, B1, B9, HB⟩ := hrel
    rcases (show i = 4 ∨ i = 3 ∨ i = 2 ∨ i = 1 ∨ i = 0 by omega) with rfl | rfl | rfl | rfl | rfl
    · go_wp2
      go_ret
      exact ⟨rfl, HB.out⟩
    · have b9 : wr.cell? ⟨w.heap.size + 1, 3, none⟩ = some (.int .i64 1) := (zK B9.out 3).trans rfl
      have b1 : wr.cell? ⟨w.heap.size, 3, none⟩ = some (.int .i64 (rd l (3 : Nat))) := (zK B1.out 3).trans (by rw [← HLL.out]; rfl)
      have hx : sm (rd l (3 : Nat)) := by have := HS.out; exact this.2.2.2
      have HD := zA.mk (show ∀ j : Nat, qw l 3 (j + 1) = if rd l (j : Nat) < rd l (3 : Nat) then qw l 3 j - 1 else qw l 3 j from fun _ => rfl)
      have HD0 := zA.mk (show rd l (3 : Nat) = qw l 3 0 from rfl)
      generalize rd l (3 : Nat) = xi at b1 HD HD0 hx
      go_wp2_with fail
      go_loopg [6, 22] 3 (fun gg v6 v22 w' => ∃ j : Nat, j ≤ 3 ∧ 3 - j ≤ gg ∧ v22 = .int .i64 j ∧ v6 = .int .i64 (qw l 3 j) ∧ w' = wr)
      case atStart => exact ⟨0, by omega, by omega, rfl, by rw [HD0.out], rfl⟩
      case round =>
        obtain ⟨j, hj, hg2, rfl, rfl, rfl⟩ := hrel
        by_cases hlt : j < 3
        · have hltz : (j : Int) < 3 := by omega
          have bj : wr.cell? ⟨w.heap.size, j, none⟩ = some (.int .i64 (rd l (j : Nat))) := by
            have := QP B1.out (j : Int) (by omega) (by omega)
            rw [HLL.out, Int.toNat_natCast] at this
            exact this
          have hbd := (HL.out.2.2.2 j)
          obtain ⟨hbd1, hbd2⟩ := hbd
          have HN := zA.mk (HD.out j)
          generalize qw l 3 j = lv at HN hbd1 hbd2 ⊢
          generalize rd l (j : Nat) = xj at bj HN
          by_cases hless : xj < xi
          · have hd1 : decide (xj < xi) = true := ygy hless
            go_wp2
            go_roundg (3 - (j + 1))
            case measure => omega
            case rel => exact ⟨j + 1, by omega, by omega, by go_num, by rw [HN.out, if_pos hless], rfl⟩
          · have hd1 : decide (xj < xi) = false := yhy hless
            go_wp2
            go_roundg (3 - (j + 1))
            case measure => omega
            case rel => exact ⟨j + 1, by omega, by omega, by go_num, by rw [HN.out, if_neg (by omega)], rfl⟩
        · have hltz : ¬ (j : Int) < 3 := by omega
          obtain rfl : j = 3 := by omega
          have hbd := (HL.out.2.2.2 3)
          obtain ⟨hbd1, hbd2⟩ := hbd
          obtain ⟨hi1, hi2⟩ := HI.out
          have HN := zA.mk (show Qt l 4 = Qt l 3 + qw l 3 3 * 1 from rfl)
          generalize qw l 3 3 = lv at HN hbd1 hbd2 ⊢
          generalize Qt l 3 = iv at HN hi1 hi2 ⊢
          go_wp2
          go_roundg (4 - 4)
          case measure => omega
          case rel => exact ⟨4, by omega, by omega, by first | rfl | go_num, by rw [HN.out]; rw [Int.mul_one], ⟨by rw [HN.out]; omega⟩, B1, B9, HB⟩
    · have b9 : wr.cell? ⟨w.heap.size + 1, 2, none⟩ = some (.int .i64 1) := (zK B9.out 2).trans rfl
      have b1 : wr.cell? ⟨w.heap.size, 2, none⟩ = some (.int .i64 (rd l (2 : Nat))) := (zK B1.out 2).trans (by rw [← HLL.out]; rfl)
      have hx : sm (rd l (2 : Nat)) := by have := HS.out; exact this.2.2.1
      have HD := zA.mk (show ∀ j : Nat, qw l 2 (j + 1) = if rd l (j : Nat) < rd l (2 : Nat) then qw l 2 j - 1 else qw l 2 j from fun _ => rfl)
      have HD0 := zA.mk (show rd l (2 : Nat) = qw l 2 0 from rfl)
      generalize rd l (2 : Nat) = xi at b1 HD HD0 hx
      go_wp2_with fail
      go_loopg [6, 22] 2 (fun gg v6 v22 w' => ∃ j : Nat, j ≤ 2 ∧ 2 - j ≤ gg ∧ v22 = .int .i64 j ∧ v6 = .int .i64 (qw l 2 j) ∧ w' = wr)
      case atStart => exact ⟨0, by omega, by omega, rfl, by rw [HD0.out], rfl⟩
      case round =>
        obtain ⟨j, hj, hg2, rfl, rfl, rfl⟩ := hrel
        by_cases hlt : j < 2
        · have hltz : (j : Int) < 2 := by omega
          have bj : wr.cell? ⟨w.heap.size, j, none⟩ = some (.int .i64 (rd l (j : Nat))) := by
            have := QP B1.out (j : Int) (by omega) (by omega)
            rw [HLL.out, Int.toNat_natCast] at this
            exact this
          have hbd := (HL.out.2.2.1 j)
          obtain ⟨hbd1, hbd2⟩ := hbd
          have HN := zA.mk (HD.out j)
          generalize qw l 2 j = lv at HN hbd1 hbd2 ⊢
          generalize rd l (j : Nat) = xj at bj HN
          by_cases hless : xj < xi
          · have hd1 : decide (xj < xi) = true := ygy hless
            go_wp2
            go_roundg (2 - (j + 1))
            case measure => omega
            case rel => exact ⟨j + 1, by omega, by omega, by go_num, by rw [HN.out, if_pos hless], rfl⟩
          · have hd1 : decide (xj < xi) = false := yhy hless
            go_wp2
            go_roundg (2 - (j + 1))
            case measure => omega
            case rel => exact ⟨j + 1, by omega, by omega, by go_num, by rw [HN.out, if_neg (by omega)], rfl⟩
        · have hltz : ¬ (j : Int) < 2 := by omega
          obtain rfl : j = 2 := by omega
          have hbd := (HL.out.2.2.1 2)
          obtain ⟨hbd1, hbd2⟩ := hbd
          obtain ⟨hi1, hi2⟩ := HI.out
          have HN := zA.mk (show Qt l 3 = Qt l 2 + qw l 2 2 * 1 from rfl)
          generalize qw l 2 2 = lv at HN hbd1 hbd2 ⊢
          generalize Qt l 2 = iv at HN hi1 hi2 ⊢
          go_wp2
          go_roundg (4 - 3)
          case measure => omega
          case rel => exact ⟨3, by omega, by omega, by first | rfl | go_num, by rw [HN.out]; rw [Int.mul_one], ⟨by rw [HN.out]; omega⟩, B1, B9, HB⟩
    · have b9 : wr.cell? ⟨w.heap.size + 1, 1, none⟩ = some (.int .i64 2) := (zK B9.out 1).trans rfl
      have b1 : wr.cell? ⟨w.heap.size, 1, none⟩ = some (.int .i64 (rd l (1 : Nat))) := (zK B1.out 1).trans (by rw [← HLL.out]; rfl)
      have hx : sm (rd l (1 : Nat)) := by have := HS.out; exact this.2.1
      have HD := zA.mk (show ∀ j : Nat, qw l 1 (j + 1) = if rd l (j : Nat) < rd l (1 : Nat) then qw l 1 j - 1 else qw l 1 j from fun _ => rfl)
      have HD0 := zA.mk (show rd l (1 : Nat) = qw l 1 0 from rfl)
      generalize rd l (1 : Nat) = xi at b1 HD HD0 hx
      go_wp2_with fail
      go_loopg [6, 22] 1 (fun gg v6 v22 w' => ∃ j : Nat, j ≤ 1 ∧ 1 - j ≤ gg ∧ v22 = .int .i64 j ∧ v6 = .int .i64 (qw l 1 j) ∧ w' = wr)
      case atStart => exact ⟨0, by omega, by omega, rfl, by rw [HD0.out], rfl⟩
      case round =>
        obtain ⟨j, hj, hg2, rfl, rfl, rfl⟩ := hrel
        by_cases hlt : j < 1
        · have hltz : (j : Int) < 1 := by omega
          have bj : wr.cell? ⟨w.heap.size, j, none⟩ = some (.int .i64 (rd l (j : Nat))) := by
            have := QP B1.out (j : Int) (by omega) (by omega)
            rw [HLL.out, Int.toNat_natCast] at this
            exact this
          have hbd := (HL.out.2.1 j)
          obtain ⟨hbd1, hbd2⟩ := hbd
          have HN := zA.mk (HD.out j)
          generalize qw l 1 j = lv at HN hbd1 hbd2 ⊢
          generalize rd l (j : Nat) = xj at bj HN
          by_cases hless : xj < xi
          · have hd1 : decide (xj < xi) = true := ygy hless
            go_wp2
            go_roundg (1 - (j + 1))
            case measure => omega
            case rel => exact ⟨j + 1, by omega, by omega, by go_num, by rw [HN.out, if_pos hless], rfl⟩
          · have hd1 : decide (xj < xi) = false := yhy hless
            go_wp2
            go_roundg (1 - (j + 1))
            case measure => omega
            case rel => exact ⟨j + 1, by omega, by omega, by go_num, by rw [HN.out, if_neg (by omega)], rfl⟩
        · have hltz : ¬ (j : Int) < 1 := by omega
          obtain rfl : j = 1 := by omega
          have hbd := (HL.out.2.1 1)
          obtain ⟨hbd1, hbd2⟩ := hbd
          obtain ⟨hi1, hi2⟩ := HI.out
          have HN := zA.mk (show Qt l 2 = Qt l 1 + qw l 1 1 * 2 from rfl)
          generalize qw l 1 1 = lv at HN hbd1 hbd2 ⊢
          generalize Qt l 1 = iv at HN hi1 hi2 ⊢
          go_wp2
          go_roundg (4 - 2)
          case measure => omega
          case rel => exact ⟨2, by omega, by omega, by first | rfl | go_num, by rw [HN.out], ⟨by rw [HN.out]; omega⟩, B1, B9, HB⟩
    · have b9 : wr.cell? ⟨w.heap.size + 1, 0, none⟩ = some (.int .i64 6) := (zK B9.out 0).trans rfl
      have b1 : wr.cell? ⟨w.heap.size, 0, none⟩ = some (.int .i64 (rd l (0 : Nat))) := (zK B1.out 0).trans (by rw [← HLL.out]; rfl)
      have hx : sm (rd l (0 : Nat)) := by have := HS.out; exact this.1
      have HD := zA.mk (show ∀ j : Nat, qw l 0 (j + 1) = if rd l (j : Nat) < rd l (0 : Nat) then qw l 0 j - 1 else qw l 0 j from fun _ => rfl)
      have HD0 := zA.mk (show rd l (0 : Nat) = qw l 0 0 from rfl)
      generalize rd l (0 : Nat) = xi at b1 HD HD0 hx
      go_wp2_with fail
      go_loopg [6, 22] 0 (fun gg v6 v22 w' => ∃ j : Nat, j ≤ 0 ∧ 0 - j ≤ gg ∧ v22 = .int .i64 j ∧ v6 = .int .i64 (qw l 0 j) ∧ w' = wr)
      case atStart => exact ⟨0, by omega, by omega, rfl, by rw [HD0.out], rfl⟩
      case round =>
        obtain ⟨j, hj, hg2, rfl, rfl, rfl⟩ := hrel
        by_cases hlt : j < 0
        · have hltz : (j : Int) < 0 := by omega
          have bj : wr.cell? ⟨w.heap.size, j, none⟩ = some (.int .i64 (rd l (j : Nat))) := by
            have := QP B1.out (j : Int) (by omega) (by omega)
            rw [HLL.out, Int.toNat_natCast] at this
            exact this
          have hbd := (HL.out.1 j)
          obtain ⟨hbd1, hbd2⟩ := hbd
          have HN := zA.mk (HD.out j)
          generalize qw l 0 j = lv at HN hbd1 hbd2 ⊢
          generalize rd l (j : Nat) = xj at bj HN
          by_cases hless : xj < xi
          · have hd1 : decide (xj < xi) = true := ygy hless
            go_wp2
            go_roundg (0 - (j + 1))
            case measure => omega
            case rel => exact ⟨j + 1, by omega, by omega, by go_num, by rw [HN.out, if_pos hless], rfl⟩
          · have hd1 : decide (xj < xi) = false := yhy hless
            go_wp2
            go_roundg (0 - (j + 1))
            case measure => omega
            case rel => exact ⟨j + 1, by omega, by omega, by go_num, by rw [HN.out, if_neg (by omega)], rfl⟩
        · have hltz : ¬ (j : Int) < 0 := by omega
          obtain rfl : j = 0 := by omega
          have hbd := (HL.out.1 0)
          obtain ⟨hbd1, hbd2⟩ := hbd
          obtain ⟨hi1, hi2⟩ := HI.out
          have HN := zA.mk (show Qt l 1 = Qt l 0 + qw l 0 0 * 6 from rfl)
          generalize qw l 0 0 = lv at HN hbd1 hbd2 ⊢
          generalize Qt l 0 = iv at HN hi1 hi2 ⊢
          go_wp2
          go_roundg (4 - 1)
          case measure => omega
          case rel => exact ⟨1, by omega, by omega, by first | rfl | go_num, by rw [HN.out], ⟨by rw [HN.out]; omega⟩, B1, B9, HB⟩
def Qf.f (a0 : Int) (a1 : Int) : Option (Int) := if a0 > a1 then (some (wrap64 ((wrap64 ((wrap64 ((wrap64 (Int.tdiv (wrap64 (a1 * (wrap64 (7 - a1)))) 2)) + a0)) - a1)) - 1))) else (some (wrap64 ((wrap64 ((wrap64 ((wrap64 (Int.tdiv (wrap64 (a0 * (wrap64 (7 - a0)))) 2)) + a1)) - a0)) - 1)))
set_option maxHeartbeats 8000000 in
set_option maxRecDepth 100000 in
theorem Qf.calls (a0 : Int) (a1 : Int) (r : Int) (w : World) (h : Qf.f a0 a1 = some r) :
    Calls Try.prog 153 #[.int .i64 a0, .int .i64 a1] w fun e w' => e = .returned (.int .i64 r) ∧ zi w w' := by
  have H : (if a0 > a1 then (some (wrap64 ((wrap64 ((wrap64 ((wrap64 (Int.tdiv (wrap64 (a1 * (wrap64 (7 - a1)))) 2)) + a0)) - a1)) - 1))) else (some (wrap64 ((wrap64 ((wrap64 ((wrap64 (Int.tdiv (wrap64 (a0 * (wrap64 (7 - a0)))) 2)) + a1)) - a0)) - 1)))) = some r := h
  clear h
  by_cases c3 : a0 > a1
  · rw [if_pos c3] at H
    have c3b0 : decide (a1 < a0) = true := ygy c3
    clear c3
    obtain rfl := yey H
    go_enter Try.func153, Try.ntmps153
    go_wp2
    go_ret
    exact ⟨by first | rfl | (simp; done) | (simp [*]; done), by repeat (first | exact zi.refl _ | apply zi.step)⟩
  · rw [if_neg c3] at H
    have c3b0 : decide (a1 < a0) = false := yhy c3
    clear c3
    obtain rfl := yey H
    go_enter Try.func153, Try.ntmps153
    go_wp2
    go_ret
    exact ⟨by first | rfl | (simp; done) | (simp [*]; done), by repeat (first | exact zi.refl _ | apply zi.step)⟩
def Zm.f (a0 : Int) : Option (Int) := some (wrap64 (5 - a0))
set_option maxHeartbeats 8000000 in
set_option maxRecDepth 100000 in
theorem Zm.calls (a0 : Int) (r : Int) (w : World) (h : Zm.f a0 = some r) :
    Calls Try.prog 154 #[.int .i64 a0] w fun e w' => e = .returned (.int .i64 r) ∧ zi w w' := by
  have H : (some (wrap64 (5 - a0))) = some r := h
  clear h
  obtain rfl := yey H
  go_enter Try.func154, Try.ntmps154
  go_wp2
  go_ret
  exact ⟨by first | rfl | (simp; done) | (simp [*]; done), by repeat (first | exact zi.refl _ | apply zi.step)⟩
def JA.f (a0 : Int) (a1 : Int) : Option (Int) := (Qf.f a0 a1).bind fun t101 => (if t101 < 3 then (some t101) else ((Zm.f t101).bind fun t102 => (some t102)))
set_option maxHeartbeats 8000000 in
set_option maxRecDepth 100000 in
theorem JA.calls (a0 : Int) (a1 : Int) (r : Int) (w : World) (h : JA.f a0 a1 = some r) :
    Calls Try.prog 115 #[.int .i64 a0, .int .i64 a1] w fun e w' => e = .returned (.int .i64 r) ∧ zi w w' := by
  have H : ((Qf.f a0 a1).bind fun t101 => (if t101 < 3 then (some t101) else ((Zm.f t101).bind fun t102 => (some t102)))) = some r := h
  clear h
  replace H := ydy.mp H
  obtain ⟨t101, A30, H⟩ := H
  replace H : (if t101 < 3 then (some t101) else ((Zm.f t101).bind fun t102 => (some t102))) = some r := H
  have A3 := zA.mk A30
  clear A30
  by_cases c4 : t101 < 3
  · rw [if_pos c4] at H
    have c4b0 : decide (t101 < 3) = true := ygy c4
    clear c4
    obtain rfl := yey H
    go_enter Try.func115, Try.ntmps115
    go_wp2_with (first | ((with_reducible refine zX (f := 153) rfl ?_); refine qI (some 8) rfl rfl Try.func153 (by kernel_rfl) rfl #[.int .i64 a0, .int .i64 a1] rfl (by (try simp only [yiy, yjy, yky]); first | done | rfl | (simp only [yly, ymy]; rfl)) ?_; (with_reducible refine (Qf.calls a0 a1 t101 _ A3.out).mono ?_); rintro e w' ⟨rfl, ⟨nd, rfl⟩⟩; refine ⟨_, rfl, ?_⟩))
    go_ret
    exact ⟨by first | rfl | (simp; done) | (simp [*]; done), by repeat (first | exact zi.refl _ | apply zi.step)⟩
  · rw [if_neg c4] at H
    have c4b0 : decide (t101 < 3) = false := yhy c4
    clear c4
    replace H := ydy.mp H
    obtain ⟨t102, A50, H⟩ := H
    replace H : (some t102) = some r := H
    have A5 := zA.mk A50
    clear A50
    obtain rfl := yey H
    go_enter Try.func115, Try.ntmps115
    go_wp2_with (first | ((with_reducible refine zX (f := 153) rfl ?_); refine qI (some 8) rfl rfl Try.func153 (by kernel_rfl) rfl #[.int .i64 a0, .int .i64 a1] rfl (by (try simp only [yiy, yjy, yky]); first | done | rfl | (simp only [yly, ymy]; rfl)) ?_; (with_reducible refine (Qf.calls a0 a1 t101 _ A3.out).mono ?_); rintro e w' ⟨rfl, ⟨nd, rfl⟩⟩; refine ⟨_, rfl, ?_⟩) | ((with_reducible refine zX (f := 154) rfl ?_); refine qI (some 13) rfl rfl Try.func154 (by kernel_rfl) rfl #[.int .i64 t101] rfl (by (try simp only [yiy, yjy, yky]); first | done | rfl | (simp only [yly, ymy]; rfl)) ?_; (with_reducible refine (Zm.calls t101 t102 _ A5.out).mono ?_); rintro e w' ⟨rfl, ⟨nd, rfl⟩⟩; refine ⟨_, rfl, ?_⟩))
    go_ret
    exact ⟨by first | rfl | (simp; done) | (simp [*]; done), by repeat (first | exact zi.refl _ | apply zi.step)⟩
def qd (a b : Int) : Int := if a = 0 then b - 1 else if b = 0 then a - 1 else 5 - a - b
theorem zBz {a b : Int} (ha : sm a) (hb : sm b) (hne : a ≠ b) : JA.f a b = some (qd a b) ∧ 0 ≤ qd a b ∧ qd a b ≤ 2 := by
  obtain ⟨ha0, ha1⟩ := ha
  obtain ⟨hb0, hb1⟩ := hb
  rcases (show a = 0 ∨ a = 1 ∨ a = 2 ∨ a = 3 by omega) with rfl | rfl | rfl | rfl <;> rcases (show b = 0 ∨ b = 1 ∨ b = 2 ∨ b = 3 by omega) with rfl | rfl | rfl | rfl <;> first | exact absurd rfl hne | decide +kernel
theorem zBb {p : Int} (h0 : 0 ≤ p) (h1 : p ≤ 23) {a b : Int} (ha : sm a) (hb : sm b) (hne : a ≠ b) : rd (qp p) a ≠ rd (qp p) b := by
  obtain ⟨ha0, ha1⟩ := ha
  obtain ⟨hb0, hb1⟩ := hb
  obtain ⟨n, rfl⟩ := Int.eq_ofNat_of_zero_le h0
  have key : ∀ m : Fin 24, zp (m.val : Int) 0 ≠ zp (m.val : Int) 1 ∧ zp (m.val : Int) 0 ≠ zp (m.val : Int) 2 ∧ zp (m.val : Int) 0 ≠ zp (m.val : Int) 3 ∧ zp (m.val : Int) 1 ≠ zp (m.val : Int) 2 ∧ zp (m.val : Int) 1 ≠ zp (m.val : Int) 3 ∧ zp (m.val : Int) 2 ≠ zp (m.val : Int) 3 := by decide
  obtain ⟨k1, k2, k3, k4, k5, k6⟩ := key ⟨n, by omega⟩
  dsimp only at k1 k2 k3 k4 k5 k6
  rcases (show a = 0 ∨ a = 1 ∨ a = 2 ∨ a = 3 by omega) with rfl | rfl | rfl | rfl <;> rcases (show b = 0 ∨ b = 1 ∨ b = 2 ∨ b = 3 by omega) with rfl | rfl | rfl | rfl <;> first | exact absurd rfl hne | assumption | exact Ne.symm (by assumption)
def JZ (r : List Int) (i : Int) : List Int := r.set i.toNat (wrap64 (rd r i + 1))
def Jj (r : List Int) (i : Int) : List Int := r.set i.toNat (wrap64 (rd r i - 1))
theorem zBc (r : List Int) (i : Int) : (JZ r i).length = r.length := List.length_set
theorem zBd (r : List Int) (i : Int) : (Jj r i).length = r.length := List.length_set
def zBo (cols : Nat) (j f b : Int) (p : List Int) (c : Int) : List Int :=
  Jj (Jj (JZ (JZ (List.replicate cols 0) (7 * j + c)) (7 * j + 4 + qd c f)) (7 * b + rd p c)) (7 * b + 4 + qd (rd p c) (rd p f))
theorem zC0 (cols : Nat) (j f b : Int) (p : List Int) (c : Int) : (zBo cols j f b p c).length = cols := by simp [zBo, zBc, zBd]
def QL (cols : Nat) (j f b : Int) (p : List Int) : List Int → List Int × Int → List Int × Int
  | [], s => s
  | c :: cs, s => QL cols j f b p cs (s.1 ++ zBo cols j f b p c, s.2 + 1)
theorem zAF (cols : Nat) (j f b : Int) (p : List Int) : ∀ (L : List Int) (s : List Int × Int), (QL cols j f b p L s).2.toNat ≤ s.2.toNat + L.length
  | [], s => yoy _
  | c :: cs, s => by
    rw [QL]
    have := zAF cols j f b p cs (s.1 ++ zBo cols j f b p c, s.2 + 1)
    have h2 : (s.2 + 1).toNat ≤ s.2.toNat + 1 := by omega
    simp only [List.length_cons]
    dsimp only at this
    omega
def Ja (cols : Nat) (s : List Int × Int) (j f : Nat) (x : zo) : List Int × Int :=
  if 4 * x.f0 + rd (qp x.f1) (f : Int) < 4 * (j : Int) + (f : Int) then s else QL cols j f x.f0 (qp x.f1) (zCd [(f : Int)]) s
theorem zDt {f c : Int} (h : c ∈ zCd [f]) : sm c ∧ c ≠ f := by
  unfold zCd at h
  obtain ⟨h1, h2⟩ := List.mem_filter.1 h
  refine ⟨?_, fun e => by simp [e] at h2⟩
  simp only [List.mem_cons, List.not_mem_nil, or_false] at h1
  unfold sm; omega
theorem zCM (f : Int) : (zCd [f]).length ≤ 4 := by
  unfold zCd
  exact List.length_filter_le _ _
theorem zCg {f : Int} (h : sm f) : (zCd [f]).length = 3 := by
  obtain ⟨h0, h1⟩ := h
  rcases (show f = 0 ∨ f = 1 ∨ f = 2 ∨ f = 3 by omega) with rfl | rfl | rfl | rfl <;> decide
structure zBC (w0 : World) (gm : Nat) (cols : Nat) (s : List Int × Int) (W : World) : Prop where
  below : Below w0.heap.size w0 W
  ex : ∃ v, W.heap[gm]? = some (.cells #[.int .i64 s.2, .int .i64 (cols : Int), v] 37 (0, 0)) ∧ Kd.R (Kd.int .i64) 2 W w0.heap.size (fun _ => True) v s.1
  own : w0.heap.size ≤ gm
  len : s.1.length ≤ 60 * s.2.toNat ∧ 0 ≤ s.2
theorem zBC.stays {w0 W W1 : World} {gm cols : Nat} {s : List Int × Int} (h : zBC w0 gm cols s W) (hb : Below W.heap.size W W1) : zBC w0 gm cols s W1 := by
  obtain ⟨v, h1, h2⟩ := h.ex
  exact ⟨zN h.below hb, ⟨v, zO h1 hb, Kd.ZV h2 hb⟩, h.own, h.len⟩
structure MmL (w0 : World) (gm gF gI gO cO gR : Nat) (cols : Nat) (f0 f1 x0 x1 x2 x3 : Int) (L s1 : List Int) (s2 : Int) (vc va : Value) (W : World) : Prop where
  below : Below w0.heap.size w0 W
  bM : W.heap[gm]? = some (.cells #[.int .i64 s2, .int .i64 (cols : Int), vc] 37 (0, 0))
  bF : W.heap[gF]? = some (.cells #[.int .i64 f0, .int .i64 f1] 115 (0, 0))
  bI : W.heap[gI]? = some (.cells #[.int .i64 x0, .int .i64 x1, .int .i64 x2, .int .i64 x3] 116 (0, 0))
  rL : Kd.R (Kd.int .i64) 2 W w0.heap.size (fun k => k = gO) (.slice (some ⟨gO, 0, none⟩) L.length cO) L
  rE : Kd.R (Kd.int .i64) 2 W w0.heap.size (fun k => k ≠ gO ∧ k ≠ gR) va s1
  own : w0.heap.size ≤ gm
section
variable {w0 W W1 : World} {gm gF gI gO cO gR g cols : Nat} {f0 f1 x0 x1 x2 x3 : Int} {L s1 s1' r : List Int} {s2 : Int} {vc va v1 : Value}
theorem MmL.stays (h : MmL w0 gm gF gI gO cO gR cols f0 f1 x0 x1 x2 x3 L s1 s2 vc va W) (hb : Below W.heap.size W W1) : MmL w0 gm gF gI gO cO gR cols f0 f1 x0 x1 x2 x3 L s1 s2 vc va W1 :=
  ⟨zN h.below hb, zO h.bM hb, zO h.bF hb, zO h.bI hb, Kd.ZV h.rL hb, Kd.ZV h.rE hb, h.own⟩
theorem MmL.again (h : MmL w0 gm gF gI gO cO gR cols f0 f1 x0 x1 x2 x3 L s1 s2 vc va W) : MmL w0 gm gF gI gO cO gO cols f0 f1 x0 x1 x2 x3 L s1 s2 vc va W :=
  ⟨h.below, h.bM, h.bF, h.bI, h.rL, Kd.qL h.rE (fun _ hk => ⟨hk.1, hk.1⟩), h.own⟩
theorem MmL.newrow (h : MmL w0 gm gF gI gO cO gO cols f0 f1 x0 x1 x2 x3 L s1 s2 vc va W) (hb : Below W.heap.size W W1) (hg : W.heap.size ≤ g) : MmL w0 gm gF gI gO cO g cols f0 f1 x0 x1 x2 x3 L s1 s2 vc va W1 :=
  ⟨zN h.below hb, zO h.bM hb, zO h.bF hb, zO h.bI hb, Kd.ZV h.rL hb, Kd.ZV (Kd.qL (Kd.Zw h.rE) (fun k hk => ⟨hk.1.1, by have := hk.2.2.1; omega⟩)) hb, h.own⟩
theorem MmL.put (h : MmL w0 gm gF gI gO cO gR cols f0 f1 x0 x1 x2 x3 L s1 s2 vc va W) {cR n : Nat} {ok : Nat → Prop} {b : Nat} (hr : Kd.R (Kd.int .i64) 2 W b ok (.slice (some ⟨gR, 0, none⟩) n cR) r) (hne : gR ≠ gO) (hg : w0.heap.size ≤ gR) (i : Nat) (u : Value) : MmL w0 gm gF gI gO cO gR cols f0 f1 x0 x1 x2 x3 L s1 s2 vc va (W.setCell ⟨gR, i, none⟩ u) := by
  obtain ⟨cells, hc⟩ := Kd.zBt hr gR (by simp [Value.ownBlock])
  exact ⟨zF h.below hg, zn (p := ⟨gR, i, none⟩) h.bM (Jo h.bM hc (by decide)) _, zn (p := ⟨gR, i, none⟩) h.bF (Jo h.bF hc (by decide)) _, zn (p := ⟨gR, i, none⟩) h.bI (Jo h.bI hc (by decide)) _, Kd.JI (p := ⟨gR, i, none⟩) h.rL (fun k hk => by rw [hk]; exact fun e => hne e.symm) _, Kd.JI (p := ⟨gR, i, none⟩) h.rE (fun k hk => hk.2) _, h.own⟩
theorem MmL.grown (h : MmL w0 gm gF gI gO cO gR cols f0 f1 x0 x1 x2 x3 L s1 s2 vc va W) (ho : Kd.R (Kd.int .i64) 2 W1 w0.heap.size (fun k => k ≠ gO ∧ k ≠ gR) v1 s1') (hb : Below w0.heap.size w0 W1) (hg : W.grownBy W1 va.ownBlock) : MmL w0 gm gF gI gO cO gR cols f0 f1 x0 x1 x2 x3 L s1' s2 vc v1 W1 := by
  have hne : ∀ (g : Nat) (T : TypeId) (c : Array Value), T ≠ 2 → W.heap[g]? = some (.cells c T (0, 0)) → some g ≠ va.ownBlock := fun g T c hT hc e => by
    obtain ⟨cells, hc2⟩ := Kd.zBt h.rE g e.symm
    exact Jo hc hc2 hT rfl
  exact ⟨hb, qa h.bM hg (hne _ _ _ (by decide) h.bM), qa h.bF hg (hne _ _ _ (by decide) h.bF), qa h.bI hg (hne _ _ _ (by decide) h.bI), Kd.zEG h.rL hg (fun k hk e => (h.rE.1 k e.symm).1 hk), ho, h.own⟩
theorem MmL.ents (h : MmL w0 gm gF gI gO cO gR cols f0 f1 x0 x1 x2 x3 L s1 s2 vc va W) : MmL w0 gm gF gI gO cO gR cols f0 f1 x0 x1 x2 x3 L s1 s2 va va (W.setCell ⟨gm, 2, none⟩ va) :=
  ⟨zF h.below h.own, zu h.bM 2 _ rfl, zn (p := ⟨gm, 2, none⟩) h.bF (Jo h.bF h.bM (by decide)) _, zn (p := ⟨gm, 2, none⟩) h.bI (Jo h.bI h.bM (by decide)) _, Kd.qL (Kd.zBq h.rL h.bM (by decide) 2 _) (fun _ hk => hk), Kd.qL (Kd.zBq h.rE h.bM (by decide) 2 _) (fun _ hk => hk), h.own⟩
theorem MmL.rows (h : MmL w0 gm gF gI gO cO gR cols f0 f1 x0 x1 x2 x3 L s1 s2 vc va W) (n : Int) : MmL w0 gm gF gI gO cO gR cols f0 f1 x0 x1 x2 x3 L s1 n vc va (W.setCell ⟨gm, 0, none⟩ (.int .i64 n)) :=
  ⟨zF h.below h.own, zu h.bM 0 _ rfl, zn (p := ⟨gm, 0, none⟩) h.bF (Jo h.bF h.bM (by decide)) _, zn (p := ⟨gm, 0, none⟩) h.bI (Jo h.bI h.bM (by decide)) _, Kd.qL (Kd.zBq h.rL h.bM (by decide) 0 _) (fun _ hk => hk), Kd.qL (Kd.zBq h.rE h.bM (by decide) 0 _) (fun _ hk => hk), h.own⟩
end
theorem zAG (p : Int) (h0 : 0 ≤ p) (h1 : p ≤ 23) : sm (zp p 0) ∧ sm (zp p 1) ∧ sm (zp p 2) ∧ sm (zp p 3) := by
  obtain ⟨n, rfl⟩ := Int.eq_ofNat_of_zero_le h0
  have hn : n < 24 := by omega
  have key : ∀ m : Fin 24, (0 ≤ zp (m.val : Int) 0 ∧ zp (m.val : Int) 0 ≤ 3) ∧ (0 ≤ zp (m.val : Int) 1 ∧ zp (m.val : Int) 1 ≤ 3) ∧ (0 ≤ zp (m.val : Int) 2 ∧ zp (m.val : Int) 2 ≤ 3) ∧ (0 ≤ zp (m.val : Int) 3 ∧ zp (m.val : Int) 3 ≤ 3) := by decide
  exact key ⟨n, hn⟩
def QS (l : List Int) : Nat → List Int
  | 0 => [0, 0, 0, 0]
  | i + 1 => (QS l i).set (rd l i).toNat i
theorem zAb (l : List Int) : ∀ i, i ≤ 4 → ∀ x ∈ QS l i, sm x
  | 0, _, x, hx => by
    have : x = 0 := by simp [QS] at hx; exact hx
    subst this; exact ⟨by omega, by omega⟩
  | i + 1, hi, x, hx => by
    rw [QS] at hx
    rcases List.mem_or_eq_of_mem_set hx with h | rfl
    · exact zAb l i (by omega) x h
    · exact ⟨by omega, by omega⟩
def zCh (p : Int) : Int := idxL (QS (qp p) 4)
theorem zAc {a b c d : Int} (ha : sm a) (hb : sm b) (hc : sm c) (hd : sm d) (f : Int) (h0 : 0 ≤ f) (h1 : f ≤ 3) : sm (rd [a, b, c, d] f) := by
  rcases (show f = 0 ∨ f = 1 ∨ f = 2 ∨ f = 3 by omega) with rfl | rfl | rfl | rfl <;> assumption
section
variable {W : World} {b g n cap e : Nat} {ok : Nat → Prop} {r : List Int} {i y : Int}
theorem zDI (h : Kd.R (Kd.int .i64) e W b ok (.slice (some ⟨g, 0, none⟩) n cap) r) (hy : rd r i = y) : Kd.R (Kd.int .i64) e (W.setCell ⟨g, i.toNat, none⟩ (.int .i64 (wrap64 (y + 1)))) b ok (.slice (some ⟨g, 0, none⟩) n cap) (JZ r i) := by subst hy; exact (Kd.JG h i _).1
theorem zDJ (h : Kd.R (Kd.int .i64) e W b ok (.slice (some ⟨g, 0, none⟩) n cap) r) (hy : rd r i = y) : Kd.R (Kd.int .i64) e (W.setCell ⟨g, i.toNat, none⟩ (.int .i64 (wrap64 (y - 1)))) b ok (.slice (some ⟨g, 0, none⟩) n cap) (Jj r i) := by subst hy; exact (Kd.JG h i _).1
theorem zEA (h : Kd.R (Kd.int .i64) e W b ok (.slice (some ⟨g, 0, none⟩) n cap) r) (h0 : 0 ≤ i) (h1 : i < n) (hy : rd r i = y) : W.cell? ⟨g, i.toNat, none⟩ = some (.int .i64 y) ∧ W.frozen? ⟨g, i.toNat, none⟩ = false := by subst hy; exact Kd.Zp 0 h i h0 h1
end
theorem wid {x : Int} (h0 : -9223372036854775808 ≤ x) (h1 : x ≤ 9223372036854775807) : wrap64 x = x := by unfold wrap64; omega
theorem Qg {w : World} {g : Nat} {T : TypeId} {a b c d e f : Int} (h : w.heap[g]? = some (.cells #[.int .i64 a, .int .i64 b, .int .i64 c, .int .i64 d] T (0, 0))) (h0 : 0 ≤ f) (h1 : f ≤ 3) (he : rd [a, b, c, d] f = e) : w.cell? ⟨g, f.toNat, none⟩ = some (.int .i64 e) := by
 rw [QP h f h0 h1, he]
set_option maxHeartbeats 8000000 in
set_option maxRecDepth 100000 in
theorem JB.calls (w0 w : World) (gm cols : Nat) (s : List Int × Int) (j f : Nat) (f0 f1 : Int) (hI : zBC w0 gm cols s w) (hn : s.2.toNat ≤ 1000) (hj : 7 * (j : Int) + 7 ≤ (cols : Int)) (hf : (f : Int) ≤ 3) (hf0 : 0 ≤ f0) (hf1 : 7 * f0 + 7 ≤ (cols : Int)) (hp0 : 0 ≤ f1) (hp1 : f1 ≤ 23) (hcols : cols ≤ 56) :
 Calls Try.prog 113 #[.int .i64 (j : Int), .int .i64 (f : Int), .agg #[.int .i64 f0, .int .i64 f1], .agg #[.int .i64 (zp f1 0), .int .i64 (zp f1 1), .int .i64 (zp f1 2), .int .i64 (zp f1 3)], .pointer (some ⟨gm, 0, none⟩)] w fun e w' => e = .returned (.tuple #[]) ∧ zBC w0 gm cols (Ja cols s j f ⟨f0, f1⟩) w' := by
 obtain ⟨y0, y1, y2, y3⟩ := zAG f1 hp0 hp1
 have hinj : ∀ a b : Int, sm a → sm b → a ≠ b → rd (qp f1) a ≠ rd (qp f1) b := fun a b ha hb hne => zBb hp0 hp1 ha hb hne
 have hstep : Ja cols s j f ⟨f0, f1⟩ = if 4 * f0 + rd (qp f1) (f : Int) < 4 * (j : Int) + (f : Int) then s else QL cols j f f0 (qp f1) (zCd [(f : Int)]) s := rfl
 have hpl : qp f1 = [zp f1 0, zp f1 1, zp f1 2, zp f1 3] := rfl
 rw [hpl] at hstep hinj
 have HPL := zA.mk hpl
 generalize zp f1 0 = x0 at *
 generalize zp f1 1 = x1 at *
 generalize zp f1 2 = x2 at *
 generalize zp f1 3 = x3 at *
 clear HPL hpl
 have HP : zA (∀ c, sm c → sm (rd [x0, x1, x2, x3] c)) := ⟨fun c hc => zAc y0 y1 y2 y3 c hc.1 hc.2⟩
 have HJ := zA.mk hinj
 have HF := zA.mk (show sm (f : Int) from ⟨by omega, hf⟩)
 have hxf := HP.out _ HF.out
 have HSP := zA.mk hstep
 generalize Ja cols s j f ⟨f0, f1⟩ = R at HSP ⊢
 generalize hxfe : rd [x0, x1, x2, x3] (f : Int) = xf at hxf HSP
 have HXF := zA.mk hxfe
 obtain ⟨hxf0, hxf1⟩ := hxf
 have HI := zA.mk hI
 have HN := zA.mk hn
 clear hI hn hxfe hstep hinj y0 y1 y2 y3
 have hf9 : (0 : Int) ≤ (f : Int) := by omega
 have hf4 : (f : Int) < 4 := by omega
 have ht := Try.underlying116
 go_enter Try.func113, Try.ntmps113
 go_wp2
 have BF := zA.mk (zH (QR (W := w) rfl (.cells #[.int .i64 f0, .int .i64 f1] 115)) (.cells #[.int .i64 x0, .int .i64 x1, .int .i64 x2, .int .i64 x3] 116))
 have BI := zA.mk (QR (W := w.alloc (.cells #[.int .i64 f0, .int .i64 f1] 115)) (n := w.heap.size + 1) (by simp) (.cells #[.int .i64 x0, .int .i64 x1, .int .i64 x2, .int .i64 x3] 116))
 have HB := zA.mk (zC (zC (ypy w.heap.size w) (.cells #[.int .i64 f0, .int .i64 f1] 115)) (.cells #[.int .i64 x0, .int .i64 x1, .int .i64 x2, .int .i64 x3] 116))
 generalize hgI : w.heap.size + 1 = gI at *
 generalize hgF : w.heap.size = gF at *
 have hne1 : gF < gI := by omega
 generalize World.alloc (World.alloc w _) _ = wB at *
 have q0 : wB.cell? ⟨gF, 0, none⟩ = some (.int .i64 f0) := (zK BF.out 0).trans rfl
 have q1 : wB.cell? ⟨gI, f, none⟩ = some (.int .i64 xf) := by have q := Qg BI.out hf9 hf HXF.out; rwa [Int.toNat_natCast] at q
 by_cases hgt : 4 * f0 + xf < 4 * (j : Int) + (f : Int)
 next =>
  have HS := zA.mk (HSP.out.trans (if_pos hgt))
  clear HSP
  refine Zf (n := 12) (S := fun w' => w'.cell? ⟨gF, 0, none⟩ = some (.int .i64 f0) ∧ w'.cell? ⟨gI, f, none⟩ = some (.int .i64 xf)) (ds := []) #[false, false, false, false, false, false, false, false, false, false, false, false] (by kernel_rfl) rfl rfl ⟨q0, q1⟩ (fun hHeld => ?_)
  refine za (i := 0) (N := some 12) (v := ?_) (a' := ?_) #[true, false, false, false, false, false, false, false, false, false, false, false] rfl rfl (by kernel_rfl) (fun _ _ _ h => h) (Or.inl ⟨by rfl, ?_⟩) ?_ ?_
  rotate_left
  next =>
   intro w'
   go_simp
   with_reducible rfl
  rotate_left
  next =>
   simp only [Act.put, yay, yby, ycy, zV, zW]
   rfl
  refine za (i := 1) (N := some 13) (v := ?_) (a' := ?_) #[true, true, false, false, false, false, false, false, false, false, false, false] rfl rfl (by kernel_rfl) (fun _ _ _ h => h) (Or.inl ⟨by rfl, ?_⟩) ?_ ?_
  rotate_left
  next =>
   intro w'
   go_simp
   with_reducible rfl
  rotate_left
  next =>
   simp only [Act.put, yay, yby, ycy, zV, zW]
   rfl
  refine za (i := 2) (N := some 14) (v := ?_) (a' := ?_) #[true, true, true, false, false, false, false, false, false, false, false, false] rfl rfl (by kernel_rfl) (fun _ _ _ h => h) (Or.inl ⟨by rfl, ?_⟩) ?_ ?_
  rotate_left
  next =>
   intro w'
   go_simp
   with_reducible rfl
  rotate_left
  next =>
   simp only [Act.put, yay, yby, ycy, zV, zW]
   rfl
  refine za (i := 3) (N := some 15) (v := ?_) (a' := ?_) #[true, true, true, true, false, false, false, false, false, false, false, false] rfl rfl (by kernel_rfl) (fun _ _ _ h => h) (Or.inl ⟨by rfl, ?_⟩) ?_ ?_
  rotate_left
  next =>
   intro w'
   go_simp
   with_reducible rfl
  rotate_left
  next =>
   simp only [Act.put, yay, yby, ycy, zV, zW]
   rfl
  refine za (i := 4) (N := some 16) (v := ?_) (a' := ?_) #[true, true, true, true, true, false, false, false, false, false, false, false] rfl rfl (by kernel_rfl) (fun _ _ _ h => h) (Or.inl ⟨by rfl, ?_⟩) ?_ ?_
  rotate_left
  next =>
   intro w'
   go_simp
   with_reducible rfl
  rotate_left
  next =>
   simp only [Act.put, yay, yby, ycy, zV, zW]
   rfl
  refine qf (i := 5) (N := some 17) (v := ?_) (a' := ?_) #[true, true, true, true, true, true, false, false, false, false, false, false] rfl rfl (by kernel_rfl) (fun _ _ _ h => h) (Or.inl ⟨by rfl, ?_⟩) hHeld ?_ ?_
  rotate_left
  next =>
   rintro w' ⟨s0, s1⟩
   go_simp
   with_reducible rfl
  rotate_left
  next =>
   simp only [Act.put, yay, yby, ycy, zV, zW]
   rfl
  refine za (i := 6) (N := some 18) (v := ?_) (a' := ?_) #[true, true, true, true, true, true, true, false, false, false, false, false] rfl rfl (by kernel_rfl) (fun _ _ _ h => h) (Or.inl ⟨by rfl, ?_⟩) ?_ ?_
  rotate_left
  next =>
   intro w'
   go_simp
   with_reducible rfl
  rotate_left
  next =>
   simp only [Act.put, yay, yby, ycy, zV, zW]
   rfl
  refine za (i := 7) (N := some 19) (v := ?_) (a' := ?_) #[true, true, true, true, true, true, true, true, false, false, false, false] rfl rfl (by kernel_rfl) (fun _ _ _ h => h) (Or.inl ⟨by rfl, ?_⟩) ?_ ?_
  rotate_left
  next =>
   intro w'
   go_simp
   with_reducible rfl
  rotate_left
  next =>
   simp only [Act.put, yay, yby, ycy, zV, zW]
   rfl
  refine za (i := 8) (N := some 20) (v := ?_) (a' := ?_) #[true, true, true, true, true, true, true, true, true, false, false, false] rfl rfl (by kernel_rfl) (fun _ _ _ h => h) (Or.inl ⟨by rfl, ?_⟩) ?_ ?_
  rotate_left
  next =>
   intro w'
   go_simp
   with_reducible rfl
  rotate_left
  next =>
   simp only [Act.put, yay, yby, ycy, zV, zW]
   rfl
  refine qf (i := 9) (N := some 21) (v := ?_) (a' := ?_) #[true, true, true, true, true, true, true, true, true, true, false, false] rfl rfl (by kernel_rfl) (fun _ _ _ h => h) (Or.inl ⟨by rfl, ?_⟩) hHeld ?_ ?_
  rotate_left
  next =>
   rintro w' ⟨s0, s1⟩
   go_simp
   with_reducible rfl
  rotate_left
  next =>
   simp only [Act.put, yay, yby, ycy, zV, zW]
   rfl
  refine za (i := 10) (N := some 22) (v := ?_) (a' := ?_) #[true, true, true, true, true, true, true, true, true, true, true, false] rfl rfl (by kernel_rfl) (fun _ _ _ h => h) (Or.inl ⟨by rfl, ?_⟩) ?_ ?_
  rotate_left
  next =>
   intro w'
   go_simp
   with_reducible rfl
  rotate_left
  next =>
   simp only [Act.put, yay, yby, ycy, zV, zW]
   rfl
  refine za (i := 11) (N := some 23) (v := ?_) (a' := ?_) #[true, true, true, true, true, true, true, true, true, true, true, true] rfl rfl (by kernel_rfl) (fun _ _ _ h => h) (Or.inl ⟨by rfl, ?_⟩) ?_ ?_
  rotate_left
  next =>
   intro w'
   go_simp
   with_reducible rfl
  rotate_left
  next =>
   simp only [Act.put, yay, yby, ycy, zV, zW]
   rfl
  refine QQ (by kernel_rfl) ?_
  have HB2 := zA.mk (zD HB.out)
  clear HB hHeld q0 q1
  generalize wB.drew = wd at *
  have d0 : decide (wrap64 (wrap64 (4 * f0) + xf) < wrap64 (wrap64 (4 * (j : Int)) + (f : Int))) = true := by rw [wid (show -9223372036854775808 ≤ 4 * f0 by omega) (by omega), wid (show -9223372036854775808 ≤ 4 * (j : Int) by omega) (by omega), wid (by omega) (by omega), wid (by omega) (by omega)]; exact ygy hgt
  rw [d0]
  clear d0
  go_wp2
  first | go_end0 | ((try simp only [Exit.inBlock, Exit.then]); refine bodyPost_ret (results_none rfl _ _ _) rfl ?_)
  refine ⟨?_, ?_⟩
  next =>
   first | rfl | (simp <;> rfl)
  next =>
   rw [HS.out]
   exact HI.out.stays (by rw [hgF]; exact HB2.out)
 next =>
  have HS := zA.mk (HSP.out.trans (if_neg hgt))
  clear HSP
  refine Zf (n := 12) (S := fun w' => w'.cell? ⟨gF, 0, none⟩ = some (.int .i64 f0) ∧ w'.cell? ⟨gI, f, none⟩ = some (.int .i64 xf)) (ds := []) #[false, false, false, false, false, false, false, false, false, false, false, false] (by kernel_rfl) rfl rfl ⟨q0, q1⟩ (fun hHeld => ?_)
  refine za (i := 0) (N := some 12) (v := ?_) (a' := ?_) #[true, false, false, false, false, false, false, false, false, false, false, false] rfl rfl (by kernel_rfl) (fun _ _ _ h => h) (Or.inl ⟨by rfl, ?_⟩) ?_ ?_
  rotate_left
  next =>
   intro w'
   go_simp
   with_reducible rfl
  rotate_left
  next =>
   simp only [Act.put, yay, yby, ycy, zV, zW]
   rfl
  refine za (i := 1) (N := some 13) (v := ?_) (a' := ?_) #[true, true, false, false, false, false, false, false, false, false, false, false] rfl rfl (by kernel_rfl) (fun _ _ _ h => h) (Or.inl ⟨by rfl, ?_⟩) ?_ ?_
  rotate_left
  next =>
   intro w'
   go_simp
   with_reducible rfl
  rotate_left
  next =>
   simp only [Act.put, yay, yby, ycy, zV, zW]
   rfl
  refine za (i := 2) (N := some 14) (v := ?_) (a' := ?_) #[true, true, true, false, false, false, false, false, false, false, false, false] rfl rfl (by kernel_rfl) (fun _ _ _ h => h) (Or.inl ⟨by rfl, ?_⟩) ?_ ?_
  rotate_left
  next =>
   intro w'
   go_simp
   with_reducible rfl
  rotate_left
  next =>
   simp only [Act.put, yay, yby, ycy, zV, zW]
   rfl
  refine za (i := 3) (N := some 15) (v := ?_) (a' := ?_) #[true, true, true, true, false, false, false, false, false, false, false, false] rfl rfl (by kernel_rfl) (fun _ _ _ h => h) (Or.inl ⟨by rfl, ?_⟩) ?_ ?_
  rotate_left
  next =>
   intro w'
   go_simp
   with_reducible rfl
  rotate_left
  next =>
   simp only [Act.put, yay, yby, ycy, zV, zW]
   rfl
  refine za (i := 4) (N := some 16) (v := ?_) (a' := ?_) #[true, true, true, true, true, false, false, false, false, false, false, false] rfl rfl (by kernel_rfl) (fun _ _ _ h => h) (Or.inl ⟨by rfl, ?_⟩) ?_ ?_
  rotate_left
  next =>
   intro w'
   go_simp
   with_reducible rfl
  rotate_left
  next =>
   simp only [Act.put, yay, yby, ycy, zV, zW]
   rfl
  refine qf (i := 5) (N := some 17) (v := ?_) (a' := ?_) #[true, true, true, true, true, true, false, false, false, false, false, false] rfl rfl (by kernel_rfl) (fun _ _ _ h => h) (Or.inl ⟨by rfl, ?_⟩) hHeld ?_ ?_
  rotate_left
  next =>
   rintro w' ⟨s0, s1⟩
   go_simp
   with_reducible rfl
  rotate_left
  next =>
   simp only [Act.put, yay, yby, ycy, zV, zW]
   rfl
  refine za (i := 6) (N := some 18) (v := ?_) (a' := ?_) #[true, true, true, true, true, true, true, false, false, false, false, false] rfl rfl (by kernel_rfl) (fun _ _ _ h => h) (Or.inl ⟨by rfl, ?_⟩) ?_ ?_
  rotate_left
  next =>
   intro w'
   go_simp
   with_reducible rfl
  rotate_left
  next =>
   simp only [Act.put, yay, yby, ycy, zV, zW]
   rfl
  refine za (i := 7) (N := some 19) (v := ?_) (a' := ?_) #[true, true, true, true, true, true, true, true, false, false, false, false] rfl rfl (by kernel_rfl) (fun _ _ _ h => h) (Or.inl ⟨by rfl, ?_⟩) ?_ ?_
  rotate_left
  next =>
   intro w'
   go_simp
   with_reducible rfl
  rotate_left
  next =>
   simp only [Act.put, yay, yby, ycy, zV, zW]
   rfl
  refine za (i := 8) (N := some 20) (v := ?_) (a' := ?_) #[true, true, true, true, true, true, true, true, true, false, false, false] rfl rfl (by kernel_rfl) (fun _ _ _ h => h) (Or.inl ⟨by rfl, ?_⟩) ?_ ?_
  rotate_left
  next =>
   intro w'
   go_simp
   with_reducible rfl
  rotate_left
  next =>
   simp only [Act.put, yay, yby, ycy, zV, zW]
   rfl
  refine qf (i := 9) (N := some 21) (v := ?_) (a' := ?_) #[true, true, true, true, true, true, true, true, true, true, false, false] rfl rfl (by kernel_rfl) (fun _ _ _ h => h) (Or.inl ⟨by rfl, ?_⟩) hHeld ?_ ?_
  rotate_left
  next =>
   rintro w' ⟨s0, s1⟩
   go_simp
   with_reducible rfl
  rotate_left
  next =>
   simp only [Act.put, yay, yby, ycy, zV, zW]
   rfl
  refine za (i := 10) (N := some 22) (v := ?_) (a' := ?_) #[true, true, true, true, true, true, true, true, true, true, true, false] rfl rfl (by kernel_rfl) (fun _ _ _ h => h) (Or.inl ⟨by rfl, ?_⟩) ?_ ?_
  rotate_left
  next =>
   intro w'
   go_simp
   with_reducible rfl
  rotate_left
  next =>
   simp only [Act.put, yay, yby, ycy, zV, zW]
   rfl
  refine za (i := 11) (N := some 23) (v := ?_) (a' := ?_) #[true, true, true, true, true, true, true, true, true, true, true, true] rfl rfl (by kernel_rfl) (fun _ _ _ h => h) (Or.inl ⟨by rfl, ?_⟩) ?_ ?_
  rotate_left
  next =>
   intro w'
   go_simp
   with_reducible rfl
  rotate_left
  next =>
   simp only [Act.put, yay, yby, ycy, zV, zW]
   rfl
  refine QQ (by kernel_rfl) ?_
  have HB2 := zA.mk (zD HB.out)
  have BF2 := zA.mk (zL BF.out)
  have BI2 := zA.mk (zL BI.out)
  clear HB hHeld q0 q1 BF BI
  generalize wB.drew = wd at *
  have d0 : decide (wrap64 (wrap64 (4 * f0) + xf) < wrap64 (wrap64 (4 * (j : Int)) + (f : Int))) = false := by rw [wid (show -9223372036854775808 ≤ 4 * f0 by omega) (by omega), wid (show -9223372036854775808 ≤ 4 * (j : Int) by omega) (by omega), wid (by omega) (by omega), wid (by omega) (by omega)]; exact yhy hgt
  rw [d0]
  clear d0
  have HCF : zA (Kd.C (Kd.int .i64) (wd.alloc (.cells #[.int .i64 (f : Int)] 2)) (some ⟨wd.heap.size, 0, none⟩) 1 [(f : Int)]) := ⟨(Kd.qC (show Kd.R (Kd.int .i64) 2 (wd.alloc (.cells #[.int .i64 (f : Int)] 2)) wd.heap.size (fun _ => True) (.slice (some ⟨wd.heap.size, 0, none⟩) 1 1) [(f : Int)] from
   Kd.zA1 ⟨by simp [Jp], .inr ⟨wd.heap.size, 1, #[.int .i64 (f : Int)], rfl, yoy _, QR rfl _, yoy 1, by decide, rfl, rfl⟩⟩ (fun _ _ => trivial))).2.2⟩
  have HL3 := zA.mk (zCg HF.out)
  have HLM := zA.mk (show ∀ c ∈ zCd [(f : Int)], sm c ∧ c ≠ (f : Int) from fun c hc => zDt hc)
  generalize hLe : zCd [(f : Int)] = L at HS HL3 HLM
  have HLE := zA.mk (show Qm.f [(f : Int)] = some L by rw [← hLe]; rfl)
  clear hLe
  go_wp2_with (first | (go_at_call 114; refine (Qm.calls (some ⟨wd.heap.size, 0, none⟩) 1 [(f : Int)] L _ HCF.out (yoy 1) HLE.out).mono ?_; rintro e w2 ⟨v0, rfl, ho, hb⟩; obtain ⟨gO, cO, rfl, hg1, hg2, _⟩ := Kd.Jq ho (by rw [HL3.out]; decide); have HO := zA.mk ho; have HBO := zA.mk hb; have HG := zA.mk (And.intro hg1 hg2); clear ho hb hg1 hg2 HCF))
  obtain ⟨v, hM, hE⟩ := HI.out.ex
  have hs0 := HI.out.below.size
  have hs1 := HB2.out.size
  have hs2 : (wd.alloc (.cells #[.int .i64 (f : Int)] 2)).heap.size = wd.heap.size + 1 := by simp
  have hgO := HG.out.1
  have HB3 := zA.mk (zN (zC (show Below w.heap.size w wd by rw [hgF]; exact HB2.out) (.cells #[.int .i64 (f : Int)] 2)) HBO.out)
  have HM := zA.mk (show MmL w0 gm gF gI gO cO gO cols f0 f1 x0 x1 x2 x3 L s.1 s.2 v v w2 from
   ⟨zN HI.out.below HB3.out, zO hM HB3.out, zO (zH BF2.out _) HBO.out, zO (zH BI2.out _) HBO.out,
    Kd.qL (Kd.QV rfl (Kd.ZR HO.out (by omega))) (fun k_ hk_ => by simpa [Value.ownBlock] using hk_),
    Kd.ZV (Kd.qL (Kd.Zw hE) (fun k hk => by have := hk.2.2.1; constructor <;> omega)) HB3.out, HI.out.own⟩)
  have HGO := zA.mk (show w0.heap.size ≤ gO ∧ gO < w2.heap.size from ⟨by omega, HG.out.2⟩)
  have HLN := zA.mk HI.out.len
  have HS0 : zA (QL cols j f f0 [x0, x1, x2, x3] (L.drop 0) (s.1, s.2) = R) := ⟨by rw [List.drop_zero]; exact HS.out.symm⟩
  have HLX := zA.mk (Kd.C_max (Kd.qC HO.out).2.2)
  clear hM hE hs0 hs1 hs2 hgO HB3 HO HBO HG HB2 BF2 BI2 HI HLE HS
  obtain ⟨e1, e2⟩ := s
  dsimp only at HM HLN HS0 HN
  have hlb : L.length ≤ 3 := by have := HL3.out; omega
  go_loopg [28] L.length (fun gg v28 w' => ∃ (i : Nat) (s1 : List Int) (s2 : Int) (v : Value), i ≤ L.length ∧ L.length - i ≤ gg ∧ v28 = .int .i64 i ∧ zA (QL cols j f f0 [x0, x1, x2, x3] (L.drop i) (s1, s2) = R) ∧ zA (MmL w0 gm gF gI gO cO gO cols f0 f1 x0 x1 x2 x3 L s1 s2 v v w') ∧ zA (s1.length ≤ 60 * s2.toNat ∧ 0 ≤ s2 ∧ s2 ≤ 1000 + i ∧ gO < w'.heap.size))
  case atStart => exact ⟨0, e1, e2, v, Nat.zero_le _, by omega, rfl, HS0, HM, ⟨HLN.out.1, HLN.out.2, by have := HN.out; have := HLN.out.2; omega, HGO.out.2⟩⟩
  case round =>
   clear HM HS0 HLN HN
   obtain ⟨i, s1, s2, vE, hi9, hgg, rfl, HS0, HM, HLN⟩ := hrel
   by_cases hlt : i < L.length
   next =>
    have hltz : (i : Int) < (L.length : Int) := by omega
    obtain ⟨hc, _⟩ := Kd.Zp 0 HM.out.rL (i : Int) (by omega) hltz
    replace hc : wr.cell? ⟨gO, i, none⟩ = some (.int .i64 (rd L (i : Int))) := hc
    have ex : rd L (i : Int) = L[i] := by simp [rd, hlt]
    rw [ex] at hc
    have HC := zA.mk (HLM.out L[i] (List.getElem_mem hlt))
    have HA2 := HS0.out
    rw [List.drop_eq_getElem_cons hlt, QL] at HA2
    have HS1 := zA.mk HA2
    clear HS0 HA2 ex
    generalize L[i] = c at hc HC HS1
    obtain ⟨hc0, hc1⟩ := HC.out.1
    have hc4 : c < 4 := by omega
    obtain ⟨k1, k2, k3⟩ := zBz HC.out.1 HF.out HC.out.2
    have k4 := HP.out c HC.out.1
    have k5 := HJ.out c (f : Int) HC.out.1 HF.out HC.out.2
    rw [HXF.out] at k5
    obtain ⟨k6, k7, k8⟩ := zBz k4 (show sm xf from ⟨hxf0, hxf1⟩) k5
    have HROW : zA (zBo cols (j : Int) (f : Int) f0 [x0, x1, x2, x3] c = Jj (Jj (JZ (JZ (List.replicate cols 0) (7 * (j : Int) + c)) (7 * (j : Int) + 4 + qd c (f : Int))) (7 * f0 + rd [x0, x1, x2, x3] c)) (7 * f0 + 4 + qd (rd [x0, x1, x2, x3] c) xf)) := ⟨by unfold zBo; rw [HXF.out]⟩
    have HQ1 := zA.mk k1
    have HQ2 := zA.mk k6
    clear k1 k6 k5
    generalize qd c (f : Int) = q at HQ1 HROW k2 k3
    have HD : zA (rd [x0, x1, x2, x3] c = rd [x0, x1, x2, x3] c ∧ True) := ⟨rfl, trivial⟩
    clear HD
    generalize hde : rd [x0, x1, x2, x3] c = d at HQ2 HROW k4 k7 k8
    have HD := zA.mk hde
    clear hde
    generalize qd d xf = q2 at HQ2 HROW k7 k8
    obtain ⟨hd0, hd1⟩ := k4
    generalize zBo cols (j : Int) (f : Int) f0 [x0, x1, x2, x3] c = rr at HS1 HROW
    have hm1 : wr.cell? ⟨gm, 1, none⟩ = some (.int .i64 (cols : Int)) := (zK HM.out.bM 1).trans rfl
    go_wp2_with (first
     | ((with_reducible refine ze (N := 34) rfl ?_); refine Kd.zCD (Kd.int .i64) (w0 := wr) wr.heap.size 2 rfl (N := 34) rfl 25 _ _ rfl (cols : Int) rfl rfl Try.underlying25 (.int .i64 0) 8 JN rfl (by decide) (by omega) 0 (ok := fun _ => True) (okp := fun _ => True) rfl (fun _ hk => hk) trivial (by omega) (by omega) (ypy _ _) (yoy _) ?_; intro v1 w3 ho hb _ hnew; obtain ⟨gR, hbs, hge⟩ := hnew; obtain ⟨cR, rfl⟩ := zDs ho hbs; rw [Int.toNat_natCast] at ho ⊢; rw [List.length_replicate] at ho ⊢; have HR1 := zA.mk (show Kd.R (Kd.int .i64) 2 w3 w0.heap.size (fun k => k = gR) (.slice (some ⟨gR, 0, none⟩) cols cR) (List.replicate cols 0) from Kd.qL (Kd.QV rfl (Kd.ZR ho HM.out.below.size)) (fun k_ hk_ => by simpa [Value.ownBlock] using hk_)); have HM1 := zA.mk (HM.out.newrow hb hge); have HGR := zA.mk (show gR ≠ gO ∧ w0.heap.size ≤ gR from ⟨by have := HLN.out.2.2.2; omega, by have := HM.out.below.size; omega⟩); clear ho hb hbs hge hm1 hc HM; generalize (List.replicate cols 0 : List Int) = r0 at HR1 HROW; generalize hy6 : rd r0 (7 * (j : Int) + c) = y6; have HY6 := zA.mk hy6; clear hy6; obtain ⟨p6, z6⟩ := zEA HR1.out (show (0 : Int) ≤ 7 * (j : Int) + c by omega) (show 7 * (j : Int) + c < (cols : Int) by omega) HY6.out)
     | ((with_reducible refine ZE (t := 2) (p := 43) rfl ?_); refine qt (t := 2) (p := 43) (v := ?vo43) (w1 := (w3.setCell ⟨gR, (7 * (j : Int) + c).toNat, none⟩ (.int .i64 (wrap64 (y6 + 1))))) ?hg ?ho ?hn ?hr ?_; (case ho => rfl); (case hg => rfl); (case hn => rfl); (case hr => first | (go_simp; done) | (go_simp; rfl)); intro w4 hw; have HM2 := zA.mk (show MmL w0 gm gF gI gO cO gR cols f0 f1 x0 x1 x2 x3 L s1 s2 vE vE w4 by rw [hw]; exact HM1.out.put HR1.out HGR.out.1 HGR.out.2 _ _); have HR2 := zA.mk (show Kd.R (Kd.int .i64) 2 w4 w0.heap.size (fun k => k = gR) (.slice (some ⟨gR, 0, none⟩) cols cR) (JZ r0 (7 * (j : Int) + c)) by rw [hw]; exact zDI HR1.out HY6.out); clear HM1 HR1 HY6 hw p6 z6; generalize JZ r0 (7 * (j : Int) + c) = r1 at HR2 HROW)
     | (go_at_call 115; (with_reducible refine (JA.calls c (f : Int) q _ HQ1.out).mono ?_); rintro e w5 ⟨rfl, hd⟩; have hb5 := zi.below hd; have HM3 := zA.mk (HM2.out.stays hb5); have HR3 := zA.mk (Kd.ZV HR2.out hb5); clear hd hb5 HM2 HR2; generalize hy7 : rd r1 (7 * (j : Int) + 4 + q) = y7; have HY7 := zA.mk hy7; clear hy7; obtain ⟨p7, z7⟩ := zEA HR3.out (show (0 : Int) ≤ 7 * (j : Int) + 4 + q by omega) (show 7 * (j : Int) + 4 + q < (cols : Int) by omega) HY7.out)
     | ((with_reducible refine ZE (t := 2) (p := 55) rfl ?_); refine qt (t := 2) (p := 55) (v := ?vo55) (w1 := (w5.setCell ⟨gR, (7 * (j : Int) + 4 + q).toNat, none⟩ (.int .i64 (wrap64 (y7 + 1))))) ?hg ?ho ?hn ?hr ?_; (case ho => rfl); (case hg => rfl); (case hn => rfl); (case hr => first | (go_simp; done) | (go_simp; rfl)); intro w6 hw; have HM4 := zA.mk (show MmL w0 gm gF gI gO cO gR cols f0 f1 x0 x1 x2 x3 L s1 s2 vE vE w6 by rw [hw]; exact HM3.out.put HR3.out HGR.out.1 HGR.out.2 _ _); have HR4 := zA.mk (show Kd.R (Kd.int .i64) 2 w6 w0.heap.size (fun k => k = gR) (.slice (some ⟨gR, 0, none⟩) cols cR) (JZ r1 (7 * (j : Int) + 4 + q)) by rw [hw]; exact zDI HR3.out HY7.out); clear HM3 HR3 HY7 hw p7 z7; generalize JZ r1 (7 * (j : Int) + 4 + q) = r2 at HR4 HROW))
    have HW8 := zA.mk (show wrap64 (wrap64 (7 * f0) + d) = 7 * f0 + d by rw [wid (show -9223372036854775808 ≤ 7 * f0 by omega) (by omega), wid (by omega) (by omega)])
    have HW9 := zA.mk (show wrap64 (wrap64 (wrap64 (7 * f0) + 4) + q2) = 7 * f0 + 4 + q2 by rw [wid (show -9223372036854775808 ≤ 7 * f0 by omega) (by omega), wid (show -9223372036854775808 ≤ 7 * f0 + 4 by omega) (by omega), wid (by omega) (by omega)])
    have HI8 := zA.mk (show (0 : Int) ≤ 7 * f0 + d ∧ 7 * f0 + d < (cols : Int) by omega)
    have HI9 := zA.mk (show (0 : Int) ≤ 7 * f0 + 4 + q2 ∧ 7 * f0 + 4 + q2 < (cols : Int) by omega)
    generalize hy8 : rd r2 (7 * f0 + d) = y8
    have HY8 := zA.mk hy8
    clear hy8
    refine Zf (n := 13) (S := fun w' => w'.cell? ⟨gF, 0, none⟩ = some (.int .i64 f0) ∧ w'.cell? ⟨gI, c.toNat, none⟩ = some (.int .i64 d) ∧ w'.cell? ⟨gR, (wrap64 (wrap64 (7 * f0) + d)).toNat, none⟩ = some (.int .i64 y8)) (ds := [12]) #[false, false, false, false, false, false, false, false, false, false, false, false, false] (by kernel_rfl) rfl rfl ⟨(zK HM4.out.bF 0).trans rfl, Qg HM4.out.bI hc0 hc1 HD.out, (by rw [HW8.out]; exact (zEA HR4.out HI8.out.1 HI8.out.2 HY8.out).1)⟩ (fun hHeld => ?_)
    have HM5 := zA.mk (HM4.out.stays (zD (ypy _ _)))
    have HR5 := zA.mk (Kd.zz HR4.out)
    clear HM4 HR4
    generalize w6.drew = w7 at HM5 HR5 hHeld ⊢
    have b8 : (0 : Int) ≤ wrap64 (wrap64 (7 * f0) + d) := by rw [HW8.out]; exact HI8.out.1
    have c8 : wrap64 (wrap64 (7 * f0) + d) < (cols : Int) := by rw [HW8.out]; exact HI8.out.2
    have z8 : w7.frozen? ⟨gR, (wrap64 (wrap64 (7 * f0) + d)).toNat, none⟩ = false := by rw [HW8.out]; exact (zEA HR5.out HI8.out.1 HI8.out.2 HY8.out).2
    have p8 : w7.cell? ⟨gR, (wrap64 (wrap64 (7 * f0) + d)).toNat, none⟩ = some (.int .i64 y8) := hHeld.2.2
    refine za (i := 0) (N := some 56) (v := ?_) (a' := ?_) #[true, false, false, false, false, false, false, false, false, false, false, false, false] rfl rfl (by kernel_rfl) (fun _ _ _ h => h) (Or.inl ⟨by rfl, ?_⟩) ?_ ?_
    rotate_left
    next =>
     intro w'
     go_simp
     with_reducible rfl
    rotate_left
    next =>
     simp only [Act.put, yay, yby, ycy, zV, zW]
     rfl
    refine za (i := 1) (N := some 57) (v := ?_) (a' := ?_) #[true, true, false, false, false, false, false, false, false, false, false, false, false] rfl rfl (by kernel_rfl) (fun _ _ _ h => h) (Or.inl ⟨by rfl, ?_⟩) ?_ ?_
    rotate_left
    next =>
     intro w'
     go_simp
     with_reducible rfl
    rotate_left
    next =>
     simp only [Act.put, yay, yby, ycy, zV, zW]
     rfl
    refine qf (i := 2) (N := some 58) (v := ?_) (a' := ?_) #[true, true, true, false, false, false, false, false, false, false, false, false, false] rfl rfl (by kernel_rfl) (fun _ _ _ h => h) (Or.inl ⟨by rfl, ?_⟩) hHeld ?_ ?_
    rotate_left
    next =>
     rintro w' ⟨s0, s1, s2⟩
     go_simp
     with_reducible rfl
    rotate_left
    next =>
     simp only [Act.put, yay, yby, ycy, zV, zW]
     rfl
    refine za (i := 3) (N := some 59) (v := ?_) (a' := ?_) #[true, true, true, true, false, false, false, false, false, false, false, false, false] rfl rfl (by kernel_rfl) (fun _ _ _ h => h) (Or.inl ⟨by rfl, ?_⟩) ?_ ?_
    rotate_left
    next =>
     intro w'
     go_simp
     with_reducible rfl
    rotate_left
    next =>
     simp only [Act.put, yay, yby, ycy, zV, zW]
     rfl
    refine za (i := 4) (N := some 60) (v := ?_) (a' := ?_) #[true, true, true, true, true, false, false, false, false, false, false, false, false] rfl rfl (by kernel_rfl) (fun _ _ _ h => h) (Or.inl ⟨by rfl, ?_⟩) ?_ ?_
    rotate_left
    next =>
     intro w'
     go_simp
     with_reducible rfl
    rotate_left
    next =>
     simp only [Act.put, yay, yby, ycy, zV, zW]
     rfl
    refine za (i := 5) (N := some 61) (v := ?_) (a' := ?_) #[true, true, true, true, true, true, false, false, false, false, false, false, false] rfl rfl (by kernel_rfl) (fun _ _ _ h => h) (Or.inl ⟨by rfl, ?_⟩) ?_ ?_
    rotate_left
    next =>
     intro w'
     go_simp
     with_reducible rfl
    rotate_left
    next =>
     simp only [Act.put, yay, yby, ycy, zV, zW]
     rfl
    refine qf (i := 6) (N := some 62) (v := ?_) (a' := ?_) #[true, true, true, true, true, true, true, false, false, false, false, false, false] rfl rfl (by kernel_rfl) (fun _ _ _ h => h) (Or.inl ⟨by rfl, ?_⟩) hHeld ?_ ?_
    rotate_left
    next =>
     rintro w' ⟨s0, s1, s2⟩
     go_simp
     with_reducible rfl
    rotate_left
    next =>
     simp only [Act.put, yay, yby, ycy, zV, zW]
     rfl
    refine za (i := 7) (N := some 63) (v := ?_) (a' := ?_) #[true, true, true, true, true, true, true, true, false, false, false, false, false] rfl rfl (by kernel_rfl) (fun _ _ _ h => h) (Or.inl ⟨by rfl, ?_⟩) ?_ ?_
    rotate_left
    next =>
     intro w'
     go_simp
     with_reducible rfl
    rotate_left
    next =>
     simp only [Act.put, yay, yby, ycy, zV, zW]
     rfl
    refine za (i := 8) (N := some 64) (v := ?_) (a' := ?_) #[true, true, true, true, true, true, true, true, true, false, false, false, false] rfl rfl (by kernel_rfl) (fun _ _ _ h => h) (Or.inl ⟨by rfl, ?_⟩) ?_ ?_
    rotate_left
    next =>
     intro w'
     go_simp
     with_reducible rfl
    rotate_left
    next =>
     simp only [Act.put, yay, yby, ycy, zV, zW]
     rfl
    refine qf (i := 9) (N := some 65) (v := ?_) (a' := ?_) #[true, true, true, true, true, true, true, true, true, true, false, false, false] rfl rfl (by kernel_rfl) (fun _ _ _ h => h) (Or.inl ⟨by rfl, ?_⟩) hHeld ?_ ?_
    rotate_left
    next =>
     rintro w' ⟨s0, s1, s2⟩
     go_simp
     with_reducible rfl
    rotate_left
    next =>
     simp only [Act.put, yay, yby, ycy, zV, zW]
     rfl
    refine za (i := 10) (N := some 66) (v := ?_) (a' := ?_) #[true, true, true, true, true, true, true, true, true, true, true, false, false] rfl rfl (by kernel_rfl) (fun _ _ _ h => h) (Or.inl ⟨by rfl, ?_⟩) ?_ ?_
    rotate_left
    next =>
     intro w'
     go_simp
     with_reducible rfl
    rotate_left
    next =>
     simp only [Act.put, yay, yby, ycy, zV, zW]
     rfl
    refine za (i := 11) (N := some 67) (v := ?_) (a' := ?_) #[true, true, true, true, true, true, true, true, true, true, true, true, false] rfl rfl (by kernel_rfl) (fun _ _ _ h => h) (Or.inl ⟨by rfl, ?_⟩) ?_ ?_
    rotate_left
    next =>
     intro w'
     go_simp
     with_reducible rfl
    rotate_left
    next =>
     simp only [Act.put, yay, yby, ycy, zV, zW]
     rfl
    refine zD4 (i := 12) (N := none) #[true, true, true, true, true, true, true, true, true, true, true, true, true] rfl rfl (by kernel_rfl) (by decide) (fun K hK => ?_)
    refine zEH (w1 := ?_) (by rfl) rfl ?_ ?_
    rotate_left
    next =>
     go_simp
     rfl
    refine hK.out _ _ ?_
    clear hK K
    refine QQ (by kernel_rfl) ?_
    clear b8 c8 z8 p8 hHeld
    have HM6 := zA.mk (show MmL w0 gm gF gI gO cO gR cols f0 f1 x0 x1 x2 x3 L s1 s2 vE vE (w7.setCell ⟨gR, (wrap64 (wrap64 (7 * f0) + d)).toNat, none⟩ (.int .i64 (wrap64 (y8 - 1)))) from HM5.out.put HR5.out HGR.out.1 HGR.out.2 _ _)
    have HR6 := zA.mk (show Kd.R (Kd.int .i64) 2 (w7.setCell ⟨gR, (wrap64 (wrap64 (7 * f0) + d)).toNat, none⟩ (.int .i64 (wrap64 (y8 - 1)))) w0.heap.size (fun k => k = gR) (.slice (some ⟨gR, 0, none⟩) cols cR) (Jj r2 (7 * f0 + d)) from by rw [HW8.out]; exact zDJ HR5.out HY8.out)
    clear HM5 HR5 HY8 HW8
    generalize Jj r2 (7 * f0 + d) = r3 at HR6 HROW
    generalize World.setCell w7 _ _ = w8 at *
    try go_wp2
    generalize hy9 : rd r3 (7 * f0 + 4 + q2) = y9
    have HY9 := zA.mk hy9
    clear hy9
    refine Zf (n := 18) (S := fun w' => w'.cell? ⟨gF, 0, none⟩ = some (.int .i64 f0) ∧ w'.cell? ⟨gI, c.toNat, none⟩ = some (.int .i64 d) ∧ w'.cell? ⟨gI, f, none⟩ = some (.int .i64 xf) ∧ w'.cell? ⟨gR, (wrap64 (wrap64 (wrap64 (7 * f0) + 4) + q2)).toNat, none⟩ = some (.int .i64 y9)) (ds := [17]) #[false, false, false, false, false, false, false, false, false, false, false, false, false, false, false, false, false, false] (by kernel_rfl) rfl rfl ⟨(zK HM6.out.bF 0).trans rfl, Qg HM6.out.bI hc0 hc1 HD.out, (by have q := Qg HM6.out.bI hf9 hf HXF.out; rwa [Int.toNat_natCast] at q), (by rw [HW9.out]; exact (zEA HR6.out HI9.out.1 HI9.out.2 HY9.out).1)⟩ (fun hHeld => ?_)
    have HM5 := zA.mk (HM6.out.stays (zD (ypy _ _)))
    have HR5 := zA.mk (Kd.zz HR6.out)
    clear HM6 HR6
    generalize w8.drew = w9 at HM5 HR5 hHeld ⊢
    refine za (i := 0) (N := some 68) (v := ?_) (a' := ?_) #[true, false, false, false, false, false, false, false, false, false, false, false, false, false, false, false, false, false] rfl rfl (by kernel_rfl) (fun _ _ _ h => h) (Or.inl ⟨by rfl, ?_⟩) ?_ ?_
    rotate_left
    next =>
     intro w'
     go_simp
     with_reducible rfl
    rotate_left
    next =>
     simp only [Act.put, yay, yby, ycy, zV, zW]
     rfl
    refine za (i := 1) (N := some 69) (v := ?_) (a' := ?_) #[true, true, false, false, false, false, false, false, false, false, false, false, false, false, false, false, false, false] rfl rfl (by kernel_rfl) (fun _ _ _ h => h) (Or.inl ⟨by rfl, ?_⟩) ?_ ?_
    rotate_left
    next =>
     intro w'
     go_simp
     with_reducible rfl
    rotate_left
    next =>
     simp only [Act.put, yay, yby, ycy, zV, zW]
     rfl
    refine qf (i := 2) (N := some 70) (v := ?_) (a' := ?_) #[true, true, true, false, false, false, false, false, false, false, false, false, false, false, false, false, false, false] rfl rfl (by kernel_rfl) (fun _ _ _ h => h) (Or.inl ⟨by rfl, ?_⟩) hHeld ?_ ?_
    rotate_left
    next =>
     rintro w' ⟨s0, s1, s2, s3⟩
     go_simp
     with_reducible rfl
    rotate_left
    next =>
     simp only [Act.put, yay, yby, ycy, zV, zW]
     rfl
    refine za (i := 3) (N := some 71) (v := ?_) (a' := ?_) #[true, true, true, true, false, false, false, false, false, false, false, false, false, false, false, false, false, false] rfl rfl (by kernel_rfl) (fun _ _ _ h => h) (Or.inl ⟨by rfl, ?_⟩) ?_ ?_
    rotate_left
    next =>
     intro w'
     go_simp
     with_reducible rfl
    rotate_left
    next =>
     simp only [Act.put, yay, yby, ycy, zV, zW]
     rfl
    refine za (i := 4) (N := some 72) (v := ?_) (a' := ?_) #[true, true, true, true, true, false, false, false, false, false, false, false, false, false, false, false, false, false] rfl rfl (by kernel_rfl) (fun _ _ _ h => h) (Or.inl ⟨by rfl, ?_⟩) ?_ ?_
    rotate_left
    next =>
     intro w'
     go_simp
     with_reducible rfl
    rotate_left
    next =>
     simp only [Act.put, yay, yby, ycy, zV, zW]
     rfl
    refine za (i := 5) (N := some 73) (v := ?_) (a' := ?_) #[true, true, true, true, true, true, false, false, false, false, false, false, false, false, false, false, false, false] rfl rfl (by kernel_rfl) (fun _ _ _ h => h) (Or.inl ⟨by rfl, ?_⟩) ?_ ?_
    rotate_left
    next =>
     intro w'
     go_simp
     with_reducible rfl
    rotate_left
    next =>
     simp only [Act.put, yay, yby, ycy, zV, zW]
     rfl
    refine za (i := 6) (N := some 74) (v := ?_) (a' := ?_) #[true, true, true, true, true, true, true, false, false, false, false, false, false, false, false, false, false, false] rfl rfl (by kernel_rfl) (fun _ _ _ h => h) (Or.inl ⟨by rfl, ?_⟩) ?_ ?_
    rotate_left
    next =>
     intro w'
     go_simp
     with_reducible rfl
    rotate_left
    next =>
     simp only [Act.put, yay, yby, ycy, zV, zW]
     rfl
    refine qf (i := 7) (N := some 75) (v := ?_) (a' := ?_) #[true, true, true, true, true, true, true, true, false, false, false, false, false, false, false, false, false, false] rfl rfl (by kernel_rfl) (fun _ _ _ h => h) (Or.inl ⟨by rfl, ?_⟩) hHeld ?_ ?_
    rotate_left
    next =>
     rintro w' ⟨s0, s1, s2, s3⟩
     go_simp
     with_reducible rfl
    rotate_left
    next =>
     simp only [Act.put, yay, yby, ycy, zV, zW]
     rfl
    refine za (i := 8) (N := some 76) (v := ?_) (a' := ?_) #[true, true, true, true, true, true, true, true, true, false, false, false, false, false, false, false, false, false] rfl rfl (by kernel_rfl) (fun _ _ _ h => h) (Or.inl ⟨by rfl, ?_⟩) ?_ ?_
    rotate_left
    next =>
     intro w'
     go_simp
     with_reducible rfl
    rotate_left
    next =>
     simp only [Act.put, yay, yby, ycy, zV, zW]
     rfl
    refine za (i := 9) (N := some 77) (v := ?_) (a' := ?_) #[true, true, true, true, true, true, true, true, true, true, false, false, false, false, false, false, false, false] rfl rfl (by kernel_rfl) (fun _ _ _ h => h) (Or.inl ⟨by rfl, ?_⟩) ?_ ?_
    rotate_left
    next =>
     intro w'
     go_simp
     with_reducible rfl
    rotate_left
    next =>
     simp only [Act.put, yay, yby, ycy, zV, zW]
     rfl
    refine qf (i := 10) (N := some 78) (v := ?_) (a' := ?_) #[true, true, true, true, true, true, true, true, true, true, true, false, false, false, false, false, false, false] rfl rfl (by kernel_rfl) (fun _ _ _ h => h) (Or.inl ⟨by rfl, ?_⟩) hHeld ?_ ?_
    rotate_left
    next =>
     rintro w' ⟨s0, s1, s2, s3⟩
     go_simp
     with_reducible rfl
    rotate_left
    next =>
     simp only [Act.put, yay, yby, ycy, zV, zW]
     rfl
    refine zA2 (i := 11) (N := some 79) #[true, true, true, true, true, true, true, true, true, true, true, true, false, false, false, false, false, false] rfl rfl (by kernel_rfl) (by decide) (fun K hK => ?_)
    refine Qr Try.func115 (by kernel_rfl) rfl #[.int .i64 d, .int .i64 xf] (by rfl) rfl rfl (by (try simp only [yiy, yjy, yky]); first | done | rfl) ?_
    refine (JA.calls d xf q2 _ HQ2.out).mono ?_
    rintro e w6_ ⟨rfl, hd⟩
    refine ⟨_, rfl, ?_⟩
    have hb6 := zi.below hd
    have HM6 := zA.mk (HM5.out.stays hb6)
    have HR6 := zA.mk (Kd.ZV HR5.out hb6)
    clear hd hb6
    refine hK.out _ _ ⟨(zK HM6.out.bF 0).trans rfl, Qg HM6.out.bI hc0 hc1 HD.out, (by have q := Qg HM6.out.bI hf9 hf HXF.out; rwa [Int.toNat_natCast] at q), (by rw [HW9.out]; exact (zEA HR6.out HI9.out.1 HI9.out.2 HY9.out).1)⟩ (fun hHeld => ?_)
    clear hK K
    refine QH (a' := ?_) ?_ ?_
    rotate_left
    next =>
     show Act.put _ (some 79) _ = _
     simp only [Act.put, yay, yby, ycy, zV, zW]
     rfl
    clear HM5 HR5
    have b9 : (0 : Int) ≤ wrap64 (wrap64 (wrap64 (7 * f0) + 4) + q2) := by rw [HW9.out]; exact HI9.out.1
    have c9 : wrap64 (wrap64 (wrap64 (7 * f0) + 4) + q2) < (cols : Int) := by rw [HW9.out]; exact HI9.out.2
    have z9 : w6_.frozen? ⟨gR, (wrap64 (wrap64 (wrap64 (7 * f0) + 4) + q2)).toNat, none⟩ = false := by rw [HW9.out]; exact (zEA HR6.out HI9.out.1 HI9.out.2 HY9.out).2
    have p9 : w6_.cell? ⟨gR, (wrap64 (wrap64 (wrap64 (7 * f0) + 4) + q2)).toNat, none⟩ = some (.int .i64 y9) := hHeld.2.2.2
    refine za (i := 12) (N := some 80) (v := ?_) (a' := ?_) #[true, true, true, true, true, true, true, true, true, true, true, true, true, false, false, false, false, false] rfl rfl (by kernel_rfl) (fun _ _ _ h => h) (Or.inl ⟨by rfl, ?_⟩) ?_ ?_
    rotate_left
    next =>
     intro w'
     go_simp
     with_reducible rfl
    rotate_left
    next =>
     simp only [Act.put, yay, yby, ycy, zV, zW]
     rfl
    refine za (i := 13) (N := some 81) (v := ?_) (a' := ?_) #[true, true, true, true, true, true, true, true, true, true, true, true, true, true, false, false, false, false] rfl rfl (by kernel_rfl) (fun _ _ _ h => h) (Or.inl ⟨by rfl, ?_⟩) ?_ ?_
    rotate_left
    next =>
     intro w'
     go_simp
     with_reducible rfl
    rotate_left
    next =>
     simp only [Act.put, yay, yby, ycy, zV, zW]
     rfl
    refine qf (i := 14) (N := some 82) (v := ?_) (a' := ?_) #[true, true, true, true, true, true, true, true, true, true, true, true, true, true, true, false, false, false] rfl rfl (by kernel_rfl) (fun _ _ _ h => h) (Or.inl ⟨by rfl, ?_⟩) hHeld ?_ ?_
    rotate_left
    next =>
     rintro w' ⟨s0, s1, s2, s3⟩
     go_simp
     with_reducible rfl
    rotate_left
    next =>
     simp only [Act.put, yay, yby, ycy, zV, zW]
     rfl
    refine za (i := 15) (N := some 83) (v := ?_) (a' := ?_) #[true, true, true, true, true, true, true, true, true, true, true, true, true, true, true, true, false, false] rfl rfl (by kernel_rfl) (fun _ _ _ h => h) (Or.inl ⟨by rfl, ?_⟩) ?_ ?_
    rotate_left
    next =>
     intro w'
     go_simp
     with_reducible rfl
    rotate_left
    next =>
     simp only [Act.put, yay, yby, ycy, zV, zW]
     rfl
    refine za (i := 16) (N := some 84) (v := ?_) (a' := ?_) #[true, true, true, true, true, true, true, true, true, true, true, true, true, true, true, true, true, false] rfl rfl (by kernel_rfl) (fun _ _ _ h => h) (Or.inl ⟨by rfl, ?_⟩) ?_ ?_
    rotate_left
    next =>
     intro w'
     go_simp
     with_reducible rfl
    rotate_left
    next =>
     simp only [Act.put, yay, yby, ycy, zV, zW]
     rfl
    refine zD4 (i := 17) (N := none) #[true, true, true, true, true, true, true, true, true, true, true, true, true, true, true, true, true, true] rfl rfl (by kernel_rfl) (by decide) (fun K hK => ?_)
    refine zEH (w1 := ?_) (by rfl) rfl ?_ ?_
    rotate_left
    next =>
     go_simp
     rfl
    refine hK.out _ _ ?_
    clear hK K
    refine QQ (by kernel_rfl) ?_
    clear b9 c9 z9 p9 hHeld
    have HM7 := zA.mk (show MmL w0 gm gF gI gO cO gR cols f0 f1 x0 x1 x2 x3 L s1 s2 vE vE (w6_.setCell ⟨gR, (wrap64 (wrap64 (wrap64 (7 * f0) + 4) + q2)).toNat, none⟩ (.int .i64 (wrap64 (y9 - 1)))) from HM6.out.put HR6.out HGR.out.1 HGR.out.2 _ _)
    have HR7 := zA.mk (show Kd.R (Kd.int .i64) 2 (w6_.setCell ⟨gR, (wrap64 (wrap64 (wrap64 (7 * f0) + 4) + q2)).toNat, none⟩ (.int .i64 (wrap64 (y9 - 1)))) w0.heap.size (fun k => k = gR) (.slice (some ⟨gR, 0, none⟩) cols cR) (Jj r3 (7 * f0 + 4 + q2)) from by rw [HW9.out]; exact zDJ HR6.out HY9.out)
    clear HM6 HR6 HY9 HW9
    rw [← HROW.out] at HR7
    have HLR := zA.mk (Kd.qC HR7.out).1
    have HRC := zA.mk (show Kd.C (Kd.int .i64) (w6_.setCell ⟨gR, (wrap64 (wrap64 (wrap64 (7 * f0) + 4) + q2)).toNat, none⟩ (.int .i64 (wrap64 (y9 - 1)))) (some ⟨gR, 0, none⟩) cols rr from by have q := (Kd.qC HR7.out).2.2; rwa [← HLR.out] at q)
    have HGL := zA.mk (And.intro (Kd.zAL HM7.out.rL gO (by simp [Value.ownBlock])) (Kd.zAL HR7.out gR (by simp [Value.ownBlock])))
    clear HR7 HROW
    generalize World.setCell w6_ _ _ = w10 at *
    have hm2 : w10.cell? ⟨gm, 2, none⟩ = some vE := (zK HM7.out.bM 2).trans rfl
    go_wp2_with (first
     | ((with_reducible refine Zh (b := .append) (xs := #[.tmp 86, .tmp 87]) rfl ?_); at_builtin; refine Kd.zAz (Kd.int .i64) (Rr := fun x cs => cs = [.int .i64 x]) (w0 := w0) w0.heap.size rfl (.tmp 86) (.tmp 87) 25 2 (.int .i64 0) 8 rfl Try.underlying25 JN rfl (by decide) (by omega) vE s1 rr (some ⟨gR, 0, none⟩) cols cR (fun k => k ≠ gO ∧ k ≠ gR) (fun _ => False) rfl rfl ?aO ?aR (fun _ _ h => h) (fun _ hk => hk.elim) ?aF ?aB ?aS ?aL ?_; (case aO => exact HM7.out.rE); (case aR => exact HRC.out); (case aF => exact (fun k hk => by have := HGL.out.1; have := HGL.out.2; constructor <;> omega)); (case aB => exact HM7.out.below); (case aS => exact zP HM7.out.below); (case aL => have := HLN.out.1; have := HLN.out.2; have := HL3.out; omega); intro v1 w11 ho hb hg hat; obtain ⟨A1, c1, rfl⟩ := Kd.ZK ho; have HM8 := zA.mk (HM7.out.grown ho hb hg); clear HM7 ho hb hg hat hm2 HRC HGL; have hm2 : w11.cell? ⟨gm, 2, none⟩ = some vE := (zK HM8.out.bM 2).trans rfl; have zm2 := zG HM8.out.bM 2)
     | ((with_reducible refine ZE (t := 25) (p := 89) rfl ?_); refine qt (t := 25) (p := 89) (v := ?vo89) (w1 := (w11.setCell ⟨gm, 2, none⟩ (.slice A1 (s1 ++ rr).length c1))) ?hg ?ho ?hn ?hr ?_; (case ho => rfl); (case hg => rfl); (case hn => rfl); (case hr => first | (go_simp; done) | (go_simp; rfl)); intro w12 hw; have HM9 := zA.mk (show MmL w0 gm gF gI gO cO gR cols f0 f1 x0 x1 x2 x3 L (s1 ++ rr) s2 (.slice A1 (s1 ++ rr).length c1) (.slice A1 (s1 ++ rr).length c1) w12 by rw [hw]; exact HM8.out.ents); clear HM8 hw hm2 zm2; have hm0 : w12.cell? ⟨gm, 0, none⟩ = some (.int .i64 s2) := (zK HM9.out.bM 0).trans rfl; have zm0 := zG HM9.out.bM 0; have hs20 := HLN.out.2.1; have hs21 : s2 ≤ 1010 := by have := HLN.out.2.2.1; have := HL3.out; omega)
     | ((with_reducible refine ZE (t := 2) (p := 93) rfl ?_); refine qt (t := 2) (p := 93) (v := ?vo93) (w1 := (w12.setCell ⟨gm, 0, none⟩ (.int .i64 (s2 + 1)))) ?hg ?ho ?hn ?hr ?_; (case ho => rfl); (case hg => rfl); (case hn => rfl); (case hr => first | (go_simp; done) | (go_simp; rfl)); intro w13 hw; have HMA := zA.mk (show MmL w0 gm gF gI gO cO gR cols f0 f1 x0 x1 x2 x3 L (s1 ++ rr) (s2 + 1) (.slice A1 (s1 ++ rr).length c1) (.slice A1 (s1 ++ rr).length c1) w13 by rw [hw]; exact HM9.out.rows (s2 + 1)); clear HM9 hw hm0 zm0))
    go_roundg (L.length - (i + 1))
    case measure => omega
    case rel => exact ⟨i + 1, s1 ++ rr, s2 + 1, _, by omega, by omega, by go_num, HS1, ⟨HMA.out.again⟩, ⟨by have := HLN.out.1; have := HLN.out.2.1; have := HLR.out; rw [List.length_append]; omega, by omega, by have := HLN.out.2.2.1; omega, Kd.zAL HMA.out.rL gO (by simp [Value.ownBlock])⟩⟩
   next =>
    obtain rfl : i = L.length := by omega
    have HA2 := HS0.out
    rw [List.drop_length, QL] at HA2
    subst HA2
    go_wp2
    first | go_end0 | ((try simp only [Exit.inBlock, Exit.then]); refine bodyPost_ret (results_none rfl _ _ _) rfl ?_)
    refine ⟨?_, ⟨HM.out.below, ⟨vE, HM.out.bM, Kd.qL HM.out.rE (fun _ _ => trivial)⟩, HM.out.own, ⟨HLN.out.1, HLN.out.2.1⟩⟩⟩
    first | rfl | (simp <;> rfl)
def zEX (l : List (List zo)) : Prop := l.length ≤ 8 ∧ (∀ r ∈ l, r.length ≤ 4) ∧ ∀ r ∈ l, ∀ x ∈ r, ¬ x.f0 < 0 → x.f0 < (l.length : Int) ∧ 0 ≤ x.f1 ∧ x.f1 ≤ 23
instance (l : List (List zo)) : Decidable (zEX l) := by unfold zEX; infer_instance
def zAQ (l : List (List zo)) : List Int × Int := zBB (Ja (7 * l.length)) l 0 ([], 0)
def zv.f (l : List (List zo)) : Option (Int × Int × List Int) := if zEX l then some ((zAQ l).2, (7 * (l.length : Int)), (zAQ l).1) else none
theorem sum_le {l : List (List zo)} (h : ∀ r ∈ l, r.length ≤ 4) : (l.map List.length).sum ≤ 4 * l.length := by
  induction l with
  | nil => simp
  | cons r rs ih =>
    have h1 := h r (List.mem_cons_self ..)
    have h2 := ih (fun x hx => h x (List.mem_cons_of_mem _ hx))
    simp only [yjy, List.sum_cons, List.length_cons]
    omega
theorem zCi {cols : Nat} (s : List Int × Int) (j f : Nat) (x : zo) : (Ja cols s j f x).2.toNat ≤ s.2.toNat + 4 := by
  unfold Ja
  split
  · omega
  · have := zAF cols j f x.f0 (qp x.f1) (zCd [(f : Int)]) s
    have := zCM (f : Int)
    omega
theorem zES {l : List (List zo)} (hok : zEX l) {w : World} {gm : Nat} (s : List Int × Int) (W : World) (j f : Nat) (x : zo) (hI : zBC w gm (7 * l.length) s W) (hF : zDH l j f x) (hb : ¬ x.f0 < 0) (hc : s.2.toNat + 4 ≤ 200) :
    Calls Try.prog 113 (#[.int .i64 (j : Int), .int .i64 (f : Int), .agg #[.int .i64 x.f0, .int .i64 x.f1], .agg #[.int .i64 (zp x.f1 0), .int .i64 (zp x.f1 1), .int .i64 (zp x.f1 2), .int .i64 (zp x.f1 3)]] ++ #[.pointer (some ⟨gm, 0, none⟩)]) W fun e W' => e = .returned (.tuple #[]) ∧ zBC w gm (7 * l.length) (Ja (7 * l.length) s j f x) W' := by
  obtain ⟨h1, h2, h3⟩ := hF
  obtain ⟨q0, q1, q2⟩ := hok
  have q3 := q1 _ (List.getElem_mem h1)
  have q4 := q2 _ (List.getElem_mem h1) x (by rw [← h3]; exact List.getElem_mem h2) hb
  have e : (#[.int .i64 (j : Int), .int .i64 (f : Int), .agg #[.int .i64 x.f0, .int .i64 x.f1], .agg #[.int .i64 (zp x.f1 0), .int .i64 (zp x.f1 1), .int .i64 (zp x.f1 2), .int .i64 (zp x.f1 3)]] ++ #[.pointer (some ⟨gm, 0, none⟩)] : Array Value) = #[.int .i64 (j : Int), .int .i64 (f : Int), .agg #[.int .i64 x.f0, .int .i64 x.f1], .agg #[.int .i64 (zp x.f1 0), .int .i64 (zp x.f1 1), .int .i64 (zp x.f1 2), .int .i64 (zp x.f1 3)], .pointer (some ⟨gm, 0, none⟩)] := rfl
  rw [e]
  exact JB.calls w W gm (7 * l.length) s j f x.f0 x.f1 hI (by omega) (by omega) (by omega) (by omega) (by omega) q4.2.1 q4.2.2 (by omega)
set_option maxHeartbeats 8000000 in
set_option maxRecDepth 100000 in
theorem zv.calls (A0_0 : Option Addr) (c0_0 : Nat) (l0_0 : List (List zo)) (r1 r2 : Int) (r3 : List Int) (w : World) (hr0_0 : Kd.C (Kd.slice 115 qh) w A0_0 l0_0.length l0_0) (hc0_0 : l0_0.length ≤ c0_0) (h : zv.f l0_0 = some (r1, r2, r3)) :
    Calls Try.prog 67 #[.agg #[.slice A0_0 l0_0.length c0_0]] w fun e w' => ∃ v2_ : Value, e = .returned (.agg #[.int .i64 r1, .int .i64 r2, v2_]) ∧ Kd.R (Kd.int .i64) 2 w' w.heap.size (fun _ => True) v2_ r3 ∧ Below w.heap.size w w' := by
  unfold zv.f at h
  by_cases hok : zEX l0_0
  case neg => rw [if_neg hok] at h; cases h
  rw [if_pos hok] at h
  have h' := yey h
  simp only [Prod.mk.injEq] at h'
  obtain ⟨q1, q2, q3⟩ := h'
  have HQ := zA.mk (And.intro q1 (And.intro q2 q3))
  have HOK := zA.mk hok
  have HR := zA.mk hr0_0
  have HC := zA.mk hc0_0
  have hl8 : l0_0.length ≤ 8 := hok.1
  clear h hok hr0_0 hc0_0 q1 q2 q3
  go_enter Try.func67, Try.ntmps67
  have BT := zA.mk (zH (QR (W := w) rfl (.cells #[.slice A0_0 l0_0.length c0_0] 30)) (.cells #[.int .i64 0, .int .i64 0, .slice none 0 0] 37))
  have BR := zA.mk (QR (W := w.alloc (.cells #[.slice A0_0 l0_0.length c0_0] 30)) (n := w.heap.size + 1) (by simp) (.cells #[.int .i64 0, .int .i64 0, .slice none 0 0] 37))
  have HB := zA.mk (zC (zC (ypy w.heap.size w) (.cells #[.slice A0_0 l0_0.length c0_0] 30)) (.cells #[.int .i64 0, .int .i64 0, .slice none 0 0] 37))
  go_wp2_with (first
    | (go_at_call 111; refine (qY.calls A0_0 c0_0 l0_0 (l0_0.length : Int) _ (Kd.qD HR.out HB.out) HC.out rfl).mono ?_; rintro e w2 ⟨rfl, hd⟩; have hb := zi.below hd; clear hd; have BT2 := zA.mk (zO BT.out hb); have BR2 := zA.mk (zO BR.out hb); have HB2 := zA.mk (zN HB.out hb); clear BT BR HB hb; have hT2 : w2.cell? ⟨w.heap.size, 0, none⟩ = some (.slice A0_0 l0_0.length c0_0) := (zK BT2.out 0).trans rfl; have hz2 : w.heap.size < w2.heap.size := qG BT2.out; have hzn : w.heap.size ≠ w2.heap.size := by omega)
    | (go_at_call 112; refine (zCf.calls 113 _ Try.func113 (by kernel_rfl) rfl #[.pointer (some ⟨w2.heap.size, 0, none⟩)] l0_0 A0_0 c0_0 w2 _ (zBC w2 w2.heap.size (7 * l0_0.length)) (Ja (7 * l0_0.length)) ([], 0) (fun s => s.2.toNat) 200 zCi ?aN (fun _ _ _ h hb => h.stays hb) (fun _ _ h => h.below) (Kd.qD HR.out HB2.out) (fun r hr x hx hb => ⟨(HOK.out.2.2 r hr x hx hb).2.1, (HOK.out.2.2 r hr x hx hb).2.2⟩) ?aS ?a0).mono ?_; (case aN => have := sum_le HOK.out.2.1; have := HOK.out.1; show 0 + _ ≤ _; omega); (case aS => exact zES HOK.out); (case a0 => exact ⟨zC (ypy _ _) _, ⟨.slice none 0 0, QR rfl _, Kd.zAx _ _ _ _ _⟩, yoy _, by simp⟩); rintro e w3 ⟨rfl, hI⟩; have HI := zA.mk (show zBC w2 w2.heap.size (7 * l0_0.length) (zAQ l0_0) w3 from hI); clear hI hT2 hz2 hzn; obtain ⟨v, hM, hE⟩ := HI.out.ex; obtain ⟨Av, cv, rfl⟩ := Kd.ZK hE; have HM := zA.mk hM; have HE := zA.mk hE; have BR3 := zA.mk (zO BR2.out HI.out.below); have HB3 := zA.mk (zN HB2.out HI.out.below); clear hM hE BR2; have hm0 : w3.cell? ⟨w2.heap.size, 0, none⟩ = some (.int .i64 (zAQ l0_0).2) := (zK HM.out 0).trans rfl; have hm1 : w3.cell? ⟨w2.heap.size, 1, none⟩ = some (.int .i64 ((7 * l0_0.length : Nat) : Int)) := (zK HM.out 1).trans rfl; have hm2 : w3.cell? ⟨w2.heap.size, 2, none⟩ = some (.slice Av (zAQ l0_0).1.length cv) := (zK HM.out 2).trans rfl; have hr0 := zG BR3.out 0; have hr1 := zG BR3.out 1; have hr2 := zG BR3.out 2; have hrc0 : w3.cell? ⟨w.heap.size + 1, 0, none⟩ = some (.int .i64 0) := (zK BR3.out 0).trans rfl; have hrc1 : w3.cell? ⟨w.heap.size + 1, 1, none⟩ = some (.int .i64 0) := (zK BR3.out 1).trans rfl; have hrc2 : w3.cell? ⟨w.heap.size + 1, 2, none⟩ = some (.slice none 0 0) := (zK BR3.out 2).trans rfl))
  refine bodyPost_ret (results_cell_row rfl _ _ (w.heap.size + 1) 37 #[.int .i64 (zAQ l0_0).2, .int .i64 ((7 * l0_0.length : Nat) : Int), .slice Av (zAQ l0_0).1.length cv] (0, 0) _ rfl (by refine zu (cs := #[.int .i64 (zAQ l0_0).2, .int .i64 ((7 * l0_0.length : Nat) : Int), .slice none 0 0]) ?_ 2 _ rfl; refine zu (cs := #[.int .i64 (zAQ l0_0).2, .int .i64 0, .slice none 0 0]) ?_ 1 _ rfl; refine zu (cs := #[.int .i64 0, .int .i64 0, .slice none 0 0]) ?_ 0 _ rfl; exact BR3.out) Try.underlying37 rfl (by kernel_rfl)) rfl ?_
  obtain ⟨e1, e2, e3⟩ := HQ.out
  refine ⟨_, by rw [← e1, ← e2]; rfl, ?_, ?_⟩
  · rw [← e3]
    exact Kd.qL (Kd.zBq (Kd.zBq (Kd.zBq (Kd.ZR HE.out HB2.out.size) BR3.out (by decide) 0 _) (zu BR3.out 0 _ rfl) (by decide) 1 _) (zu (zu BR3.out 0 _ rfl) 1 _ rfl) (by decide) 2 _) (fun _ _ => trivial)
  · exact zF (zF (zF HB3.out (by omega)) (by omega)) (by omega)
theorem zEB (d : Nat) (w : World) (x0 y0 : Int) (x1 y1 : Int) :
    (Op.equalIn (d + 2) 115 (.agg #[.int .i64 x0, .int .i64 x1]) (.agg #[.int .i64 y0, .int .i64 y1])).run Try.prog w = .ok (x0 == y0 && (x1 == y1)) w := by
  refine eqA_of Try.underlying115 (by kernel_rfl) ?_
  refine zDq (by rfl) (by go_simp; rfl) (by go_simp; rfl) (by go_simp) ?_
  exact zDp (by rfl) (by go_simp; rfl) (by go_simp; rfl) (by go_simp)
def Zs.f (a0 : Int) : Option Int := if 0 ≤ a0 ∧ a0 ≤ 23 then some (zCh a0) else none
set_option maxHeartbeats 8000000 in
set_option maxRecDepth 100000 in
theorem Zs.calls (a0 : Int) (r : Int) (w : World) (h : Zs.f a0 = some r) :
    Calls Try.prog 169 #[.int .i64 a0] w fun e w' => e = .returned (.int .i64 r) ∧ Below w.heap.size w w' := by
  unfold Zs.f at h
  by_cases hc : 0 ≤ a0 ∧ a0 ≤ 23
  case neg => rw [if_neg hc] at h; exact absurd h (by simp)
  rw [if_pos hc] at h
  have hr : zCh a0 = r := yey h
  clear h
  subst hr
  obtain ⟨h0, h1⟩ := hc
  have HS := zA.mk (zAG a0 h0 h1)
  have H0 := zA.mk h0
  have H1 := zA.mk h1
  clear h0 h1
  go_enter Try.func169, Try.ntmps169
  go_wp2_with fail
  refine (zAE.calls _ _ H0.out H1.out).mono ?_
  rintro e w1 ⟨rfl, hb⟩
  have B3 := zA.mk (zO (QR (W := w) rfl (.cells #[.int .i64 0, .int .i64 0, .int .i64 0, .int .i64 0] 116)) hb)
  have HB := zA.mk (zN (zC (ypy _ _) _) hb)
  clear hb
  have HPL := zA.mk (show qp a0 = [zp a0 0, zp a0 1, zp a0 2, zp a0 3] from rfl)
  have HIP := zA.mk (show zCh a0 = idxL (QS (qp a0) 4) from rfl)
  generalize qp a0 = pl at HPL HIP
  generalize zp a0 0 = x0 at HS HPL ⊢
  generalize zp a0 1 = x1 at HS HPL ⊢
  generalize zp a0 2 = x2 at HS HPL ⊢
  generalize zp a0 3 = x3 at HS HPL ⊢
  go_wp2_with fail
  go_loopg [8] 4 (fun gg v8 w' => ∃ (i : Nat) (b0 b1 b2 b3 : Int), i ≤ 4 ∧ 4 - i ≤ gg ∧ v8 = .int .i64 i ∧ zA ([b0, b1, b2, b3] = QS pl i) ∧
    zA (w'.heap[w.heap.size]? = some (.cells #[.int .i64 b0, .int .i64 b1, .int .i64 b2, .int .i64 b3] 116 (0, 0))) ∧ zA (Below w.heap.size w w'))
  case atStart => exact ⟨0, 0, 0, 0, 0, by omega, by omega, rfl, ⟨rfl⟩, B3, HB⟩
  case round =>
    clear HB B3
    obtain ⟨i, b0, b1, b2, b3, hi, hg, rfl, HI, B3, HB⟩ := hrel
    rcases (show i = 4 ∨ i = 3 ∨ i = 2 ∨ i = 1 ∨ i = 0 by omega) with rfl | rfl | rfl | rfl | rfl
    · have c0 : wr.cell? ⟨w.heap.size, 0, none⟩ = some (.int .i64 b0) := (zK B3.out 0).trans rfl
      have c1 : wr.cell? ⟨w.heap.size, 1, none⟩ = some (.int .i64 b1) := (zK B3.out 1).trans rfl
      have c2 : wr.cell? ⟨w.heap.size, 2, none⟩ = some (.int .i64 b2) := (zK B3.out 2).trans rfl
      have c3 : wr.cell? ⟨w.heap.size, 3, none⟩ = some (.int .i64 b3) := (zK B3.out 3).trans rfl
      have ht := Try.underlying116
      go_wp2_with fail
      have hsm := zAb pl 4 (by omega)
      rw [← HI.out] at hsm
      refine (zBa.calls b0 b1 b2 b3 _ (hsm _ (by simp)) (hsm _ (by simp)) (hsm _ (by simp)) (hsm _ (by simp))).mono ?_
      rintro e w2 ⟨rfl, hb⟩
      have HB2 := zA.mk (zN HB.out hb)
      clear hb hsm
      go_wp2
      go_ret
      exact ⟨by rw [HIP.out, ← HI.out]; rfl, HB2.out⟩
    · have ix := Qy x0 x1 x2 x3 3 (by omega) (by omega)
      have hx : rd [x0, x1, x2, x3] 3 = x3 := rfl
      rw [hx] at ix
      have hs : sm x3 := HS.out.2.2.2
      obtain ⟨hs0, hs1⟩ := hs
      have c3 := QP B3.out x3 hs0 hs1
      have f3 := zG B3.out x3.toNat
      have B3n := zA.mk (zB7 B3.out x3 3 hs0 hs1)
      have HN : [b0, b1, b2, b3].set x3.toNat 3 = QS pl (3 + 1) := by rw [HI.out, HPL.out]; rfl
      have hlen : ([b0, b1, b2, b3].set x3.toNat (3 : Int)).length = 4 := by simp
      have HF := zA.mk ((zB8 hlen).symm.trans HN)
      clear hx HN hlen
      go_wp2
      go_roundg (4 - (3 + 1))
      case measure => omega
      case rel => exact ⟨3 + 1, _, _, _, _, by omega, by omega, by first | rfl | go_num, HF, B3n, ⟨zF HB.out (yoy _)⟩⟩
    · have ix := Qy x0 x1 x2 x3 2 (by omega) (by omega)
      have hx : rd [x0, x1, x2, x3] 2 = x2 := rfl
      rw [hx] at ix
      have hs : sm x2 := HS.out.2.2.1
      obtain ⟨hs0, hs1⟩ := hs
      have c3 := QP B3.out x2 hs0 hs1
      have f3 := zG B3.out x2.toNat
      have B3n := zA.mk (zB7 B3.out x2 2 hs0 hs1)
      have HN : [b0, b1, b2, b3].set x2.toNat 2 = QS pl (2 + 1) := by rw [HI.out, HPL.out]; rfl
      have hlen : ([b0, b1, b2, b3].set x2.toNat (2 : Int)).length = 4 := by simp
      have HF := zA.mk ((zB8 hlen).symm.trans HN)
      clear hx HN hlen
      go_wp2
      go_roundg (4 - (2 + 1))
      case measure => omega
      case rel => exact ⟨2 + 1, _, _, _, _, by omega, by omega, by first | rfl | go_num, HF, B3n, ⟨zF HB.out (yoy _)⟩⟩
    · have ix := Qy x0 x1 x2 x3 1 (by omega) (by omega)
      have hx : rd [x0, x1, x2, x3] 1 = x1 := rfl
      rw [hx] at ix
      have hs : sm x1 := HS.out.2.1
      obtain ⟨hs0, hs1⟩ := hs
      have c3 := QP B3.out x1 hs0 hs1
      have f3 := zG B3.out x1.toNat
      have B3n := zA.mk (zB7 B3.out x1 1 hs0 hs1)
      have HN : [b0, b1, b2, b3].set x1.toNat 1 = QS pl (1 + 1) := by rw [HI.out, HPL.out]; rfl
      have hlen : ([b0, b1, b2, b3].set x1.toNat (1 : Int)).length = 4 := by simp
      have HF := zA.mk ((zB8 hlen).symm.trans HN)
      clear hx HN hlen
      go_wp2
      go_roundg (4 - (1 + 1))
      case measure => omega
      case rel => exact ⟨1 + 1, _, _, _, _, by omega, by omega, by first | rfl | go_num, HF, B3n, ⟨zF HB.out (yoy _)⟩⟩
    · have ix := Qy x0 x1 x2 x3 0 (by omega) (by omega)
      have hx : rd [x0, x1, x2, x3] 0 = x0 := rfl
      rw [hx] at ix
      have hs : sm x0 := HS.out.1
      obtain ⟨hs0, hs1⟩ := hs
      have c3 := QP B3.out x0 hs0 hs1
      have f3 := zG B3.out x0.toNat
      have B3n := zA.mk (zB7 B3.out x0 0 hs0 hs1)
      have HN : [b0, b1, b2, b3].set x0.toNat 0 = QS pl (0 + 1) := by rw [HI.out, HPL.out]; rfl
      have hlen : ([b0, b1, b2, b3].set x0.toNat (0 : Int)).length = 4 := by simp
      have HF := zA.mk ((zB8 hlen).symm.trans HN)
      clear hx HN hlen
      go_wp2
      go_roundg (4 - (0 + 1))
      case measure => omega
      case rel => exact ⟨0 + 1, _, _, _, _, by omega, by omega, by first | rfl | go_num, HF, B3n, ⟨zF HB.out (yoy _)⟩⟩
def qc.f (a0_0 : Int) (a0_1 : Int) (a1 : Int) : Option (Int × Int) := (Zs.f a0_1).bind fun t103 => (some (a1, t103))
set_option maxHeartbeats 8000000 in
set_option maxRecDepth 100000 in
theorem qc.calls (a0_0 : Int) (a0_1 : Int) (a1 : Int) (r1 : Int) (r2 : Int) (w : World) (h : qc.f a0_0 a0_1 a1 = some (r1, r2)) :
    Calls Try.prog 166 #[.agg #[.int .i64 a0_0, .int .i64 a0_1], .int .i64 a1] w fun e w' => e = .returned (.agg #[.int .i64 r1, .int .i64 r2]) ∧ Below w.heap.size w w' := by
  have hu115 := Try.underlying115
  have HB := zA.mk (ypy w.heap.size w)
  have H : ((Zs.f a0_1).bind fun t103 => (some (a1, t103))) = some (r1, r2) := h
  clear h
  replace H := ydy.mp H
  obtain ⟨t103, A30, H⟩ := H
  replace H : (some (a1, t103)) = some (r1, r2) := H
  have A3 := zA.mk A30
  clear A30
  simp only [Option.some.injEq, Prod.mk.injEq] at H
  obtain ⟨rfl, rfl⟩ := H
  go_enter Try.func166, Try.ntmps166
  go_wp2_with (first | ((with_reducible refine ze (N := 2) rfl ?_); refine zc ?hg (N := 2) ?hd (cs := #[.int .i64 a0_0, .int .i64 a0_1]) (t := 115) ?hr ?_; (case hd => rfl); (case hg => rfl); (case hr => first | (go_simp; done) | (go_simp; rfl)); intro gb101 hg w4 hbox hb; have n0_ := zA.mk (zN (by repeat (first | (with_reducible first | exact HB.out | apply zC | apply zB | apply zD) | exact HB.out)) hb); have n1_ := zA.mk (hbox); have n2_ := zA.mk ((by rw [hg]; exact (zP (by repeat (first | (with_reducible first | exact HB.out | apply zC | apply zB | apply zD) | exact HB.out))) : w.heap.size ≤ gb101)); have n3_ := zA.mk ((by rw [hg]; exact (zP (by repeat (first | (with_reducible first | exact HB.out | apply zC | apply zB | apply zD) | exact HB.out))) : w.heap.size ≤ gb101)); clear HB; have HB := n0_; have BK101 := n1_; have GW101 := n2_; have GE101 := n3_; clear n0_ n1_ n2_ n3_; clear hb hbox hg) | ((with_reducible refine ze (N := 4) rfl ?_); refine zc ?hg (N := 4) ?hd (cs := #[.int .i64 0, .int .i64 0]) (t := 115) ?hr ?_; (case hd => rfl); (case hg => rfl); (case hr => first | (go_simp; done) | (go_simp; rfl)); intro gb102 hg w5 hbox hb; have n0_ := zA.mk (zO (g := gb101) (o := .cells #[.int .i64 a0_0, .int .i64 a0_1] 115 (0, 0)) (by (with_reducible repeat (first | refine zI ?_ _ | refine zL ?_ | refine zH ?_ _)); exact BK101.out) hb); have n1_ := zA.mk (zN (by repeat (first | (with_reducible first | exact HB.out | apply zC | apply zB | apply zD | refine zF ?_ GE101.out) | exact HB.out)) hb); have n2_ := zA.mk (hbox); have n3_ := zA.mk ((by rw [hg]; exact (zP (by repeat (first | (with_reducible first | exact HB.out | apply zC | apply zB | apply zD | refine zF ?_ GE101.out) | exact HB.out))) : w.heap.size ≤ gb102)); have n4_ := zA.mk ((by rw [hg]; exact (zP (by repeat (first | (with_reducible first | exact HB.out | apply zC | apply zB | apply zD | refine zF ?_ GE101.out) | exact HB.out))) : w.heap.size ≤ gb102)); have n5_ := zA.mk ((by rw [hg]; exact Nat.ne_of_lt (qG (g := gb101) (o := .cells #[.int .i64 a0_0, .int .i64 a0_1] 115 (0, 0)) (by (with_reducible repeat (first | refine zI ?_ _ | refine zL ?_ | refine zH ?_ _)); exact BK101.out)) : gb101 ≠ gb102)); have n6_ := zA.mk ((by rw [hg]; exact Nat.ne_of_gt (qG (g := gb101) (o := .cells #[.int .i64 a0_0, .int .i64 a0_1] 115 (0, 0)) (by (with_reducible repeat (first | refine zI ?_ _ | refine zL ?_ | refine zH ?_ _)); exact BK101.out)) : gb102 ≠ gb101)); clear BK101; clear HB; have BK101 := n0_; have HB := n1_; have BK102 := n2_; have GW102 := n3_; have GE102 := n4_; have NB101_102 := n5_; have NB102_101 := n6_; clear n0_ n1_ n2_ n3_ n4_ n5_ n6_; clear hb hbox hg; have hnb6 := NB101_102.out; have hnc6 := NB102_101.out; have hcz7_0 : w5.cell? ⟨gb101, 0, none⟩ = some (.int .i64 a0_0) := (zK BK101.out 0).trans rfl; have hcz7_1 : w5.cell? ⟨gb101, 1, none⟩ = some (.int .i64 a0_1) := (zK BK101.out 1).trans rfl; have hfz7_0 := zG BK101.out 0; have hfz7_1 := zG BK101.out 1) | ((with_reducible refine zX (f := 169) rfl ?_); refine qI (some 8) rfl rfl Try.func169 (by kernel_rfl) rfl #[.int .i64 a0_1] rfl (by (try simp only [yiy, yjy, yky]); first | done | rfl | (simp only [yly, ymy]; rfl)) ?_; (with_reducible refine (Zs.calls a0_1 t103 _ A3.out).mono ?_); rintro e w8 ⟨rfl, hb⟩; refine ⟨_, rfl, ?_⟩; have n0_ := zA.mk (zO (g := gb101) (o := .cells #[.int .i64 a0_0, .int .i64 a0_1] 115 (0, 0)) (by (with_reducible repeat (first | refine zI ?_ _ | refine zL ?_ | refine zH ?_ _)); exact BK101.out) hb); have n1_ := zA.mk (zO (g := gb102) (o := .cells #[.int .i64 0, .int .i64 0] 115 (0, 0)) (by (with_reducible repeat (first | refine zI ?_ _ | refine zL ?_ | refine zH ?_ _)); exact BK102.out) hb); have n2_ := zA.mk (zN (by repeat (first | (with_reducible first | exact HB.out | apply zC | apply zB | apply zD | refine zF ?_ GE101.out | refine zF ?_ GE102.out) | exact HB.out)) hb); clear BK101; clear BK102; clear HB; have BK101 := n0_; have BK102 := n1_; have HB := n2_; clear n0_ n1_ n2_; (try clear hb); (try clear hb2); (try clear hk); (try clear hi); have hcz9_0 : w8.cell? ⟨gb102, 0, none⟩ = some (.int .i64 0) := (zK BK102.out 0).trans rfl; have hcz9_1 : w8.cell? ⟨gb102, 1, none⟩ = some (.int .i64 0) := (zK BK102.out 1).trans rfl; have hfz9_0 := zG BK102.out 0; have hfz9_1 := zG BK102.out 1))
  refine bodyPost_ret (results_cell_row rfl _ _ gb102 115 #[.int .i64 a1, .int .i64 t103] (0, 0) _ rfl (by (with_reducible repeat (first | refine zI ?_ _ | refine zL ?_ | refine zH ?_ _)); refine zu (cs := #[.int .i64 a1, .int .i64 0]) ?_ 1 _ rfl; (with_reducible repeat (first | refine zI ?_ _ | refine zL ?_ | refine zH ?_ _)); refine zu (cs := #[.int .i64 0, .int .i64 0]) ?_ 0 _ rfl; (with_reducible repeat (first | refine zI ?_ _ | refine zL ?_ | refine zH ?_ _)); exact BK102.out) Try.underlying115 rfl (by kernel_rfl)) rfl ?_
  exact ⟨by first | rfl | (simp [zS, zT] <;> rfl) | (simp [*, zS, zT] <;> rfl), by repeat (first | (with_reducible first | exact HB.out | apply zC | apply zB | apply zD | refine zF ?_ GE101.out | refine zF ?_ GE102.out) | exact HB.out)⟩
def qm.f (a0_0 : Int) (a0_1 : Int) (a1 : Int) : Option Int := if 0 ≤ a0_1 ∧ a0_1 ≤ 23 ∧ 0 ≤ a1 ∧ a1 ≤ 3 then some (rd (qp a0_1) a1) else none
set_option maxHeartbeats 800000 in
set_option maxRecDepth 100000 in
theorem qm.calls (a0_0 : Int) (a0_1 : Int) (a1 : Int) (r : Int) (w : World) (h : qm.f a0_0 a0_1 a1 = some r) :
    Calls Try.prog 165 #[.agg #[.int .i64 a0_0, .int .i64 a0_1], .int .i64 a1] w fun e w' => e = .returned (.int .i64 r) ∧ Below w.heap.size w w' := by
  unfold qm.f at h
  by_cases hc : 0 ≤ a0_1 ∧ a0_1 ≤ 23 ∧ 0 ≤ a1 ∧ a1 ≤ 3
  · rw [if_pos hc] at h
    obtain ⟨h0, h1, hf0, hf1⟩ := hc
    have ix := Qy (zp a0_1 0) (zp a0_1 1) (zp a0_1 2) (zp a0_1 3) a1 hf0 hf1
    have H0 := zA.mk h0
    have H1 := zA.mk h1
    clear h0 h1
    have hr : rd [zp a0_1 0, zp a0_1 1, zp a0_1 2, zp a0_1 3] a1 = r := yey h
    rw [hr] at ix
    clear hr h
    go_enter Try.func165, Try.ntmps165
    go_wp2_with fail
    refine (zAE.calls _ _ H0.out H1.out).mono ?_
    rintro e w' ⟨rfl, hb⟩
    have HB := zA.mk (zN (zC (ypy _ _) _) hb)
    clear hb
    go_wp2
    go_ret
    exact ⟨rfl, HB.out⟩
  · rw [if_neg hc] at h
    exact absurd h (by simp)
def ZD.f (a0 : Int) (a1 : Int) (a2 : Int) : Option (Bool) := if a1 ≤ a0 then (some (decide (a0 ≤ a2))) else (some false)
set_option maxHeartbeats 8000000 in
set_option maxRecDepth 100000 in
theorem ZD.calls (a0 : Int) (a1 : Int) (a2 : Int) (r : Bool) (w : World) (h : ZD.f a0 a1 a2 = some r) :
    Calls Try.prog 108 #[.int .i64 a0, .int .i64 a1, .int .i64 a2] w fun e w' => e = .returned (.bool r) ∧ zi w w' := by
  have H : (if a1 ≤ a0 then (some (decide (a0 ≤ a2))) else (some false)) = some r := h
  clear h
  by_cases c4 : a1 ≤ a0
  · rw [if_pos c4] at H
    have c4b0 : decide (a1 ≤ a0) = true := ygy c4
    clear c4
    obtain rfl := yey H
    go_enter Try.func108, Try.ntmps108
    go_wp2
    go_ret
    exact ⟨by first | rfl | (simp; done) | (simp [*]; done), by repeat (first | exact zi.refl _ | apply zi.step)⟩
  · rw [if_neg c4] at H
    have c4b0 : decide (a1 ≤ a0) = false := yhy c4
    clear c4
    obtain rfl := yey H
    go_enter Try.func108, Try.ntmps108
    go_wp2
    go_ret
    exact ⟨by first | rfl | (simp; done) | (simp [*]; done), by repeat (first | exact zi.refl _ | apply zi.step)⟩
def qX.f (l0 : List (List (zo))) (a1 : Int) : Option (Bool) := (qY.f l0).bind fun t101 => ((ZD.f a1 0 (wrap64 (t101 - 1))).bind fun t102 => (some t102))
set_option maxHeartbeats 8000000 in
set_option maxRecDepth 100000 in
theorem qX.calls (A0 : Option Addr) (c0 : Nat) (l0 : List (List (zo))) (a1 : Int) (r : Bool) (w : World) (hr0 : Kd.C (Kd.slice 115 qh) w A0 l0.length l0) (hc0 : l0.length ≤ c0) (h : qX.f l0 a1 = some r) :
    Calls Try.prog 163 #[.slice A0 l0.length c0, .int .i64 a1] w fun e w' => e = .returned (.bool r) ∧ zi w w' := by
  have HR0 := zA.mk hr0
  have HC0 := zA.mk hc0
  clear hr0 hc0
  have H : ((qY.f l0).bind fun t101 => ((ZD.f a1 0 (wrap64 (t101 - 1))).bind fun t102 => (some t102))) = some r := h
  clear h
  replace H := ydy.mp H
  obtain ⟨t101, A30, H⟩ := H
  replace H : ((ZD.f a1 0 (wrap64 (t101 - 1))).bind fun t102 => (some t102)) = some r := H
  have A3 := zA.mk A30
  clear A30
  replace H := ydy.mp H
  obtain ⟨t102, A40, H⟩ := H
  replace H : (some t102) = some r := H
  have A4 := zA.mk A40
  clear A40
  obtain rfl := yey H
  go_enter Try.func163, Try.ntmps163
  go_wp2_with (first | ((with_reducible refine zX (f := 111) rfl ?_); refine qI (some 7) rfl rfl Try.func111 (by kernel_rfl) rfl #[.slice A0 l0.length c0] rfl (by (try simp only [yiy, yjy, yky]); first | done | rfl | (simp only [yly, ymy]; rfl)) ?_; (with_reducible refine (qY.calls _ _ l0 t101 _ ?side1 ?side2 A3.out).mono ?_); (case side1 => repeat (first | exact HR0.out | (with_reducible refine Kd.qA ?_ _) | (with_reducible refine Kd.qB ?_ _) | (with_reducible refine Kd.qP ?_))); (case side2 => exact HC0.out); rintro e w' ⟨rfl, ⟨nd, rfl⟩⟩; refine ⟨_, rfl, ?_⟩) | ((with_reducible refine zX (f := 108) rfl ?_); refine qI (some 9) rfl rfl Try.func108 (by kernel_rfl) rfl #[.int .i64 a1, .int .i64 0, .int .i64 (wrap64 (t101 - 1))] rfl (by (try simp only [yiy, yjy, yky]); first | done | rfl | (simp only [yly, ymy]; rfl)) ?_; (with_reducible refine (ZD.calls a1 0 (wrap64 (t101 - 1)) t102 _ A4.out).mono ?_); rintro e w' ⟨rfl, ⟨nd, rfl⟩⟩; refine ⟨_, rfl, ?_⟩))
  go_ret
  exact ⟨by first | rfl | (simp; done) | (simp [*]; done), by repeat (first | exact zi.refl _ | apply zi.step)⟩
def ZY.f (a0 : Int) : Option (Bool) := (ZD.f a0 0 23).bind fun t101 => (some t101)
set_option maxHeartbeats 8000000 in
set_option maxRecDepth 100000 in
theorem ZY.calls (a0 : Int) (r : Bool) (w : World) (h : ZY.f a0 = some r) :
    Calls Try.prog 164 #[.int .i64 a0] w fun e w' => e = .returned (.bool r) ∧ zi w w' := by
  have H : ((ZD.f a0 0 23).bind fun t101 => (some t101)) = some r := h
  clear h
  replace H := ydy.mp H
  obtain ⟨t101, A20, H⟩ := H
  replace H : (some t101) = some r := H
  have A2 := zA.mk A20
  clear A20
  obtain rfl := yey H
  go_enter Try.func164, Try.ntmps164
  go_wp2_with (first | ((with_reducible refine zX (f := 108) rfl ?_); refine qI (some 4) rfl rfl Try.func108 (by kernel_rfl) rfl #[.int .i64 a0, .int .i64 0, .int .i64 23] rfl (by (try simp only [yiy, yjy, yky]); first | done | rfl | (simp only [yly, ymy]; rfl)) ?_; (with_reducible refine (ZD.calls a0 0 23 t101 _ A2.out).mono ?_); rintro e w' ⟨rfl, ⟨nd, rfl⟩⟩; refine ⟨_, rfl, ?_⟩))
  go_ret
  exact ⟨by first | rfl | (simp; done) | (simp [*]; done), by repeat (first | exact zi.refl _ | apply zi.step)⟩
end Go.Proofs.Ythjpdljdodalaaa.P
