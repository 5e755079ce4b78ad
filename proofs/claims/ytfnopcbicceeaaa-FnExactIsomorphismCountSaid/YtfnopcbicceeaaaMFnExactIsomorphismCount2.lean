/- The statement FnExactIsomorphismCountSaid, proved: part 2 of 9 (texts of this session and of the kit's print, put together and cut to what is used by a program of it). -/
import Derived.Test.YtfnopcbicceeaaaMFnExactIsomorphismCount1
import Derived.Test.YtfnopcbicceeaaaProg
import Derived.Below
import Derived.Deep.Draws
import Derived.Deep.AppendLies
import Derived.Maps.AppendAt
import Derived.OwnWalk
import Derived.Laws.BytesArg
import Derived.Laws.MakeOwn
import Derived.Laws.OwnMore
import Derived.Deep.OwnRows
import Derived.Tactics
import Derived.Lib.ConvBytes
import Derived.Laws.Slices
import Derived.WalkKit
import Derived.KernelRfl
import Derived.RowKit3
import Derived.Deep.LoopGhost
import Derived.Deep.QuietTactic
import Derived.BigQuiet
import Derived.WideLaws
import Derived.Deep.DeepCutAuto
import Derived.Deep.CutBlock
import Derived.Deep.RegionHeld3
import Derived.Laws.Rows
import Derived.Lib.AppendStr
import Derived.ArgAppend
import Derived.Laws.IdiomCopy
import Derived.OrdersHeld
import Derived.Laws.BitsLemmas
import Derived.RowKit
import Derived.Maps.OwnSet
import Derived.Shelf.SlicesG.Delete
import Derived.Ground.SlgnProg
import Derived.Sort.Row
import Derived.Lib.SliceRun
namespace Go.Proofs.Ytfnopcbicceeaaa
abbrev yay := @List.setIfInBounds_toArray
abbrev yby := @List.set_cons_zero
abbrev ycy := @List.set_cons_succ
abbrev ydy := @Option.bind_eq_some_iff
abbrev yey := @Option.some.inj
abbrev yfy := @Option.bind_some
abbrev ygy := @decide_eq_true
abbrev yhy := @decide_eq_false
abbrev yiy := @List.map_toArray
abbrev yjy := @List.map_cons
abbrev yky := @List.map_nil
abbrev yly := @List.length_drop
abbrev ymy := @List.length_take
abbrev yny := @Go.World.block_lt_of_cell?
abbrev yoy := @Nat.le_refl
abbrev ypy := @Go.RowKit.Below.refl
end Go.Proofs.Ytfnopcbicceeaaa
namespace Go.Proofs.Ytfnopcbicceeaaa.P
open Go.RowKit Go.Proofs.YtfnopcbicceeaaaW.PrintWords Go.Proofs.YtfnopcbicceeaaaW.PrintLast Go.Proofs.YtfnopcbicceeaaaW.PrintMore
attribute [local go_sem] QZ Qa JF JG QK QL Qb Qc
set_option linter.unusedVariables false
set_option linter.unusedSimpArgs false
def errW : Option Int → Value
  | none => .nilIface
  | some c => .iface 0 (.int .i64 c)
theorem zb : errW none = .nilIface := rfl
theorem zc (c : Int) : errW (some c) = .iface 0 (.int .i64 c) := rfl
theorem QR : (Try.prog.info? 2).map (fun i => (i.zero, i.size, i.bytes)) = some (some (.int .i64 0), 1, 8) := by kernel_rfl
theorem info59 : (Try.prog.info? 59).map (fun i => (i.zero, i.size, i.bytes)) = some (some (.agg #[(.int .i64 0), (.int .i64 0)]), 2, 16) := by kernel_rfl
theorem info60 : (Try.prog.info? 60).map (fun i => (i.zero, i.size, i.bytes)) = some (some (.slice none 0 0), 1, 24) := by kernel_rfl
structure qM where
  f0 : Int
  f1 : Int
def zBx : qM := ⟨(0 : Int), (0 : Int)⟩
def Zh : Kd qM := Kd.iso (Kd.pair (Kd.int .i64) (Kd.int .i64)) (fun x : qM => (x.f0, x.f1))
theorem zB0 {w : World} {x : qM} {cs : List Value} (h : Zh.K w x cs) : cs = [.int .i64 x.f0, .int .i64 x.f1] := by
  obtain ⟨_, _, rfl, rfl, rfl⟩ := h
  exact rfl
theorem zAG (w : World) (x : qM)  : Zh.K w x [.int .i64 x.f0, .int .i64 x.f1] := ⟨[.int .i64 x.f0], [.int .i64 x.f1], rfl, rfl, rfl⟩
def Zp (xs : List qM) (i : Int) : qM := xs.getD i.toNat zBx
theorem zCH {w : World} {A : Option Addr} {n : Nat} {xs : List qM} (h : Kd.C Zh w A n xs) (i : Int) (h0 : 0 ≤ i) (h1 : i < n) : ∃ ad , A = some ad ∧ w.cell? (ad.add (i.toNat * 2)) = some (.int .i64 (Zp xs i).f0) ∧ w.cell? ⟨(ad.add (i.toNat * 2)).block, (ad.add (i.toNat * 2)).off + 1, none⟩ = some (.int .i64 (Zp xs i).f1) := by
  obtain ⟨ad, c, e, _, hK, hc0⟩ := Kd.zDU h zBx i h0 h1
  have hc : ∀ j u, c[j]? = some u → w.cell? (ad.add (i.toNat * 2 + j)) = some u := hc0
  obtain rfl := zB0 hK
  exact ⟨ad, e, hc 0 _ rfl, by rw [← zBB _ _ 1 (by omega)]; exact hc 1 _ rfl⟩
def ZI (xs : List (List qM)) (i : Int) : (List qM) := xs.getD i.toNat ([] : List qM)
theorem Ja {w : World} {A : Option Addr} {n : Nat} {xs : List (List qM)} (h : Kd.C (Kd.slice 123 Zh) w A n xs) (i : Int) (h0 : 0 ≤ i) (h1 : i < n) : ∃ ad A0 c0, A = some ad ∧ w.cell? (ad.add i.toNat) = some (.slice A0 (ZI xs i).length c0) ∧ (ZI xs i).length ≤ c0 ∧ Zh.C w A0 (ZI xs i).length (ZI xs i) := by
  obtain ⟨ad, c, e, _, hK, hc0⟩ := Kd.zDU h ([] : List qM) i h0 h1
  have hc : ∀ j u, c[j]? = some u → w.cell? (ad.add (i.toNat * 1 + j)) = some u := hc0
  obtain ⟨A0, c0, rfl, l0, g0⟩ := hK
  exact ⟨ad, A0, c0, e, by have hq := hc 0 _ rfl; rwa [Nat.mul_one, Nat.add_zero] at hq, l0, g0⟩
structure qJ where
  f0 : Int
  f1 : Int
def Jk : qJ := ⟨(0 : Int), (0 : Int)⟩
def ZK : Kd qJ := Kd.iso (Kd.pair (Kd.int .i64) (Kd.int .i64)) (fun x : qJ => (x.f0, x.f1))
theorem zCI {w : World} {x : qJ} {cs : List Value} (h : ZK.K w x cs) : cs = [.int .i64 x.f0, .int .i64 x.f1] := by
  obtain ⟨_, _, rfl, rfl, rfl⟩ := h
  exact rfl
theorem zAH {w : World} {base : Nat} {ok : Nat → Prop} {x : qJ} {cs : List Value} (h : ZK.M w base ok x cs) : cs = [.int .i64 x.f0, .int .i64 x.f1] := by
  obtain ⟨_, _, rfl, rfl, rfl⟩ := h
  exact rfl
theorem zBI (w : World) (base : Nat) (ok : Nat → Prop) (x : qJ)  : ZK.M w base ok x [.int .i64 x.f0, .int .i64 x.f1] := ⟨[.int .i64 x.f0], [.int .i64 x.f1], rfl, rfl, rfl⟩
def zK (xs : List qJ) (i : Int) : qJ := xs.getD i.toNat Jk
theorem ZZ {w : World} {A : Option Addr} {n : Nat} {xs : List qJ} (h : Kd.C ZK w A n xs) (i : Int) (h0 : 0 ≤ i) (h1 : i < n) : ∃ ad , A = some ad ∧ w.cell? (ad.add (i.toNat * 2)) = some (.int .i64 (zK xs i).f0) ∧ w.cell? ⟨(ad.add (i.toNat * 2)).block, (ad.add (i.toNat * 2)).off + 1, none⟩ = some (.int .i64 (zK xs i).f1) := by
  obtain ⟨ad, c, e, _, hK, hc0⟩ := Kd.zDU h Jk i h0 h1
  have hc : ∀ j u, c[j]? = some u → w.cell? (ad.add (i.toNat * 2 + j)) = some u := hc0
  obtain rfl := zCI hK
  exact ⟨ad, e, hc 0 _ rfl, by rw [← zBB _ _ 1 (by omega)]; exact hc 1 _ rfl⟩
def zG (xs : List (List qJ)) (i : Int) : (List qJ) := xs.getD i.toNat ([] : List qJ)
theorem ZA {w : World} {A : Option Addr} {n : Nat} {xs : List (List qJ)} (h : Kd.C (Kd.slice 59 ZK) w A n xs) (i : Int) (h0 : 0 ≤ i) (h1 : i < n) : ∃ ad A0 c0, A = some ad ∧ w.cell? (ad.add i.toNat) = some (.slice A0 (zG xs i).length c0) ∧ (zG xs i).length ≤ c0 ∧ ZK.C w A0 (zG xs i).length (zG xs i) := by
  obtain ⟨ad, c, e, _, hK, hc0⟩ := Kd.zDU h ([] : List qJ) i h0 h1
  have hc : ∀ j u, c[j]? = some u → w.cell? (ad.add (i.toNat * 1 + j)) = some u := hc0
  obtain ⟨A0, c0, rfl, l0, g0⟩ := hK
  exact ⟨ad, A0, c0, e, by have hq := hc 0 _ rfl; rwa [Nat.mul_one, Nat.add_zero] at hq, l0, g0⟩
def qQ.f (a0_0 : Int) (a0_1 : Int) : Option (Bool) := some (decide (a0_0 < 0))
set_option maxHeartbeats 8000000 in
set_option maxRecDepth 100000 in
theorem qQ.calls (a0_0 : Int) (a0_1 : Int) (r : Bool) (w : World) (h : qQ.f a0_0 a0_1 = some r) :
    Calls Try.prog 114 #[.agg #[.int .i64 a0_0, .int .i64 a0_1]] w fun e w' => e = .returned (.bool r) ∧ Below w.heap.size w w' := by
  have hu59 := Try.underlying59
  have HB := zA.mk (ypy w.heap.size w)
  have H : (some (decide (a0_0 < 0))) = some r := h
  clear h
  obtain rfl := yey H
  go_enter Try.func114, Try.ntmps114
  go_wp2_with (first | ((with_reducible refine zq (N := 1) rfl ?_); refine zr ?hg (N := 1) ?hd (cs := #[.int .i64 a0_0, .int .i64 a0_1]) (t := 59) ?hr ?_; (case hd => rfl); (case hg => rfl); (case hr => first | (go_simp; done) | (go_simp; rfl)); intro gb101 hg w2 hbox hb; have n0_ := zA.mk (zN (by repeat (first | (with_reducible first | exact HB.out | apply zC | apply zB | apply zD) | exact HB.out)) hb); have n1_ := zA.mk (hbox); have n2_ := zA.mk ((by rw [hg]; exact (zO (by repeat (first | (with_reducible first | exact HB.out | apply zC | apply zB | apply zD) | exact HB.out))) : w.heap.size ≤ gb101)); have n3_ := zA.mk ((by rw [hg]; exact (zO (by repeat (first | (with_reducible first | exact HB.out | apply zC | apply zB | apply zD) | exact HB.out))) : w.heap.size ≤ gb101)); clear HB; have HB := n0_; have BK101 := n1_; have GW101 := n2_; have GE101 := n3_; clear n0_ n1_ n2_ n3_; clear hb hbox hg; have hcz3_0 : w2.cell? ⟨gb101, 0, none⟩ = some (.int .i64 a0_0) := (zL BK101.out 0).trans rfl; have hcz3_1 : w2.cell? ⟨gb101, 1, none⟩ = some (.int .i64 a0_1) := (zL BK101.out 1).trans rfl; have hfz3_0 := zQ BK101.out 0; have hfz3_1 := zQ BK101.out 1))
  go_ret
  exact ⟨by first | rfl | (simp [zb, zc] <;> rfl) | (simp [*, zb, zc] <;> rfl), by repeat (first | (with_reducible first | exact HB.out | apply zC | apply zB | apply zD | refine zE ?_ GE101.out) | exact HB.out)⟩
def qe.l0 : Nat → List Int → Int → Int → Option (List Int)
  | 0, _, _, _ => none
  | k + 1, x3, x5, x6 => if x6 < x5 then (if x3.length < 17592186044416 then (qe.l0 k (x3 ++ [x6]) x5 (wrap64 (x6 + 1))) else (none)) else (some x3)
def qe.f (k : Nat) (a0 : Int) : Option (List Int) := qe.l0 k ([] : List Int) a0 0
set_option maxHeartbeats 8000000 in
set_option maxRecDepth 100000 in
theorem qe.calls (k : Nat) (a0 : Int) (r : List Int) (w : World) (h : qe.f k a0 = some r) :
    Calls Try.prog 81 #[.int .i64 a0] w fun e w' => ∃ v0_ : Value, e = .returned (v0_) ∧ Kd.R (Kd.int .i64) 2 w' w.heap.size (fun _ => True) v0_ r ∧ Below w.heap.size w w' := by
  have HB := zA.mk (ypy w.heap.size w)
  have H : (qe.l0 k ([] : List Int) a0 0) = some r := h
  clear h
  have H' := zA.mk H
  clear H
  go_enter Try.func81, Try.ntmps81
  go_wp2
  go_loopg [3, 6] k (fun kq v3 v6 w' => ∃ (x3_1 : List Int) (x6_1 : Int), v6 = .int .i64 x6_1 ∧ zA (qe.l0 kq x3_1 a0 x6_1 = some r) ∧ zA (kq ≤ k) ∧ zA (Kd.R (Kd.int .i64) 2 w' w.heap.size (fun _ => True) v3 x3_1) ∧ zA (Below w.heap.size w w'))
  case atStart => exact ⟨(([] : List Int)), (0), (by first | rfl | (simp; done) | (simp [*]; done)), H', ⟨yoy _⟩, ⟨by first | exact Kd.zBD _ _ _ _ _ | exact Kd.N_nil _ _ _ _ _ | exact Kd.V_nil _ _ _ _ _ | exact Kd.Q_nil _ _ _ _ _ | exact Kd.S_nil _ _ _ _ _⟩, ⟨by repeat (first | (with_reducible first | exact HB.out | apply zC | apply zB | apply zD) | exact HB.out)⟩⟩
  case round =>
    clear H'
    obtain ⟨x3_1, x6_1, rfl, HA, HK1, HO_3, HB⟩ := hrel
    cases gk with
    | zero => exact absurd HA.out (by simp [qe.l0])
    | succ k1 =>
      have H := HA.out
      clear HA
      simp only [qe.l0] at H
      by_cases c2 : x6_1 < a0
      · rw [if_pos c2] at H
        have c2b0 : decide (x6_1 < a0) = true := ygy c2
        clear c2
        by_cases c3 : x3_1.length < 17592186044416
        · rw [if_pos c3] at H
          have LMc3 := zA.mk c3
          clear c3
          obtain ⟨y101, hy101⟩ : ∃ y_ : List Int, y_ = (x3_1 ++ [x6_1]) := ⟨_, rfl⟩
          replace H : (qe.l0 k1 y101 a0 (wrap64 (x6_1 + 1))) = some r := by first | (rw [hy101]; with_reducible exact H) | (have H2_ := (yfy _ _).symm.trans H; rw [hy101]; with_reducible exact H2_) | (have H2_ := (yfy _ _).symm.trans H; with_reducible exact H2_) | with_reducible exact H | (rw [hy101]; exact H) | exact H
          have Ny101 := zA.mk hy101
          clear hy101
          have H' := zA.mk H
          clear H
          go_wp2_with (first | ((with_reducible refine qm (b := .append) (xs := #[.tmp 9, .tmp 11]) rfl ?_); at_builtin; refine Kd.QI (Kd.int .i64) (w0 := w) w.heap.size rfl (.tmp 9) (.tmp 11) 44 2 (.int .i64 0) 8 rfl Try.underlying44 QR rfl (by decide) (by omega) u3 x3_1 x6_1 [.int .i64 x6_1] (fun _ => True) (fun _ => False) rfl rfl ?aP (fun _ hk => hk.elim) ?aF ?aO ?aB ?aS ?aL ?_; (case aP => exact rfl); (case aB => exact (by repeat (first | (with_reducible first | exact HB.out | apply zC | apply zB | apply zD) | exact HB.out))); (case aF => exact (fun _ _ => trivial)); (case aO => exact (by (with_reducible repeat (first | apply Kd.zd | apply Kd.zg | apply Kd.zj)); exact HO_3.out)); (case aS => exact (zO (by repeat (first | (with_reducible first | exact HB.out | apply zC | apply zB | apply zD) | exact HB.out)))); (case aL => have := LMc3.out; omega); intro v102 w4 ho hb hg hat; rw [← Ny101.out] at ho; have n0_ := zA.mk (hb); have n1_ := zA.mk (ho); clear HB; clear HO_3; have HB := n0_; have HO103 := n1_; clear n0_ n1_; clear ho hb hg hat))
          go_roundg k1
          case measure => have := HK1.out; omega
          case rel => exact ⟨(y101), (wrap64 (x6_1 + 1)), (by first | rfl | (simp; done) | (simp [*]; done)), H', ⟨by have := HK1.out; omega⟩, ⟨by (with_reducible repeat (first | apply Kd.zd | apply Kd.zg | apply Kd.zj)); exact HO103.out⟩, ⟨by repeat (first | (with_reducible first | exact HB.out | apply zC | apply zB | apply zD) | exact HB.out)⟩⟩
        · rw [if_neg c3] at H
          exact absurd H (by simp)
      · rw [if_neg c2] at H
        have c2b0 : decide (x6_1 < a0) = false := yhy c2
        clear c2
        obtain rfl := yey H
        go_wp2
        go_ret
        exact ⟨_, by first | rfl | (simp [zb, zc] <;> rfl) | (simp [*, zb, zc] <;> rfl), by (with_reducible repeat (first | apply Kd.zd | apply Kd.zg | apply Kd.zj)); exact HO_3.out, by repeat (first | (with_reducible first | exact HB.out | apply zC | apply zB | apply zD) | exact HB.out)⟩
end Go.Proofs.Ytfnopcbicceeaaa.P
namespace Go.Proofs.Ytfnopcbicceeaaa.Lib
open Go.RowKit Go.Proofs.YtfnopcbicceeaaaW.PrintWords
def zDb {α : Type} (f : α → Option Bool) : Nat → List α → Option Int
  | _, [] => some (-1)
  | i, x :: xs => (f x).bind fun b => if b = true then some (i : Int) else zDb f (i + 1) xs
theorem zBJ {α : Type} (f : α → Option Bool) (i : Nat) (x : α) (xs : List α) : zDb f i (x :: xs) = (f x).bind fun b => if b = true then some (i : Int) else zDb f (i + 1) xs := rfl
end Go.Proofs.Ytfnopcbicceeaaa.Lib
namespace Go.Proofs.Ytfnopcbicceeaaa.Lib
set_option linter.unusedVariables false
open Go.RowKit Go.Proofs.YtfnopcbicceeaaaW.PrintWords
theorem zBc {σ ρ : Type} (L : Nat → σ → Option ρ) (I : σ → Prop) (m : σ → Nat) (g : σ → ρ)
    (h : ∀ s, I s → (∃ K, ∀ k, K ≤ k → L (k + 1) s = some (g s)) ∨ (∃ s' K, I s' ∧ m s' < m s ∧ g s' = g s ∧ ∀ k, K ≤ k → L (k + 1) s = L k s')) :
    ∀ s, I s → Ev (fun k => L k s) (g s) := by
  have key : ∀ (n : Nat) (s : σ), m s < n → I s → Ev (fun k => L k s) (g s) := by
    intro n
    induction n with
    | zero => intro s hs; omega
    | succ n ih =>
      intro s hs hi
      rcases h s hi with ⟨K, hK⟩ | ⟨s', K, hi', hm, hg, hK⟩
      · refine ⟨K + 1, fun k hk => ?_⟩
        obtain ⟨j, rfl⟩ : ∃ j, k = j + 1 := ⟨k - 1, by omega⟩
        exact hK j (by omega)
      · obtain ⟨K', hK'⟩ := ih s' (by omega) hi'
        refine ⟨max K K' + 1, fun k hk => ?_⟩
        obtain ⟨j, rfl⟩ : ∃ j, k = j + 1 := ⟨k - 1, by omega⟩
        show L (j + 1) s = some (g s)
        rw [hK j (by omega), ← hg]
        exact hK' j (by omega)
  intro s hi
  exact key (m s + 1) s (by omega) hi
theorem zBy {σ ρ : Type} (L : Nat → σ → Option ρ) (I : σ → Prop) (m : σ → Nat) (g : σ → ρ)
    (h : ∀ s, I s → (∀ k, L (k + 1) s = some (g s)) ∨ (∃ s', I s' ∧ m s' < m s ∧ g s' = g s ∧ ∀ k, L (k + 1) s = L k s')) :
    ∀ s, I s → Ev (fun k => L k s) (g s) :=
  zBc L I m g fun s hi => by
    rcases h s hi with h1 | ⟨s', h1, h2, h3, h4⟩
    · exact .inl ⟨0, fun k _ => h1 k⟩
    · exact .inr ⟨s', 0, h1, h2, h3, fun k _ => h4 k⟩
theorem QE {x : Int} (h0 : -9223372036854775808 ≤ x) (h1 : x ≤ 9223372036854775807) : wrap64 x = x := by
  unfold wrap64; omega
theorem Zu {n : Nat} (h : n ≤ 4611686018427387904) : wrap64 ((n : Int) + 1) = ((n + 1 : Nat) : Int) := by
  rw [QE (by omega) (by omega)]; rfl
theorem zBK (xs : List Int) (n : Nat) (h : n < xs.length) : rd xs (n : Int) = xs[n] := by simp [rd, h]
theorem Zg {α : Type} {c : Prop} [Decidable c] {f g : Nat → Option α} {r : α} (h : ¬ c) (k : Ev g r) : Ev (fun n => if c then f n else g n) r := Ev.congr (fun _ => if_neg h) k
theorem qh {α : Type} {c : Prop} [Decidable c] {f g : Nat → Option α} {r : α} (h : c) (k : Ev f r) : Ev (fun n => if c then f n else g n) r := Ev.congr (fun _ => if_pos h) k
theorem zCs {α : Type} {r r' : α} (h : r = r') : Ev (fun _ => some r) r' := h ▸ Ev.now r
theorem zA5 {α : Type} {o : Option α} {r : α} (h : o = some r) : Ev (fun _ => o) r := ⟨0, fun _ _ => h⟩
theorem zAI {α : Type} {g : Nat → Option α} {r : α} (h : ∀ k, g k = some r) : Ev g r := ⟨0, fun k _ => h k⟩
theorem qg {α : Type} {g f : Nat → Option α} {r : α} (h : ∀ k, g (k + 1) = f k) (k : Ev f r) : Ev g r := Ev.step h k
theorem zBz {α : Type} {f : α → Option Bool} {p : α → Bool} : ∀ (i : Nat) (l : List α), (∀ x ∈ l, f x = some (p x)) → ∃ r, zDb f i l = some r ∧ decide (0 ≤ r) = l.any p
  | i, [], _ => ⟨-1, rfl, rfl⟩
  | i, x :: xs, h => by
    rw [zBJ, h x (List.mem_cons_self ..), yfy]
    cases hp : p x with
    | true => exact ⟨i, by rw [if_pos rfl], by simp [hp]⟩
    | false =>
      obtain ⟨r, h1, h2⟩ := zBz (i + 1) xs (fun y hy => h y (List.mem_cons_of_mem _ hy))
      exact ⟨r, by rw [if_neg (by simp)]; exact h1, by rw [h2]; simp [hp]⟩
theorem contO {α : Type} {f : α → Option Bool} {p : α → Bool} (l : List α) (h : ∀ x ∈ l, f x = some (p x)) : (zDb f 0 l).bind (fun i => some (decide (0 ≤ i))) = some (l.any p) := by
  obtain ⟨r, h1, h2⟩ := zBz 0 l h
  rw [h1, yfy, h2]
def Zv (a : Int) : Nat → List Int
  | 0 => []
  | n + 1 => a :: Zv (a + 1) n
theorem JH (a : Int) (n : Nat) : (Zv a n).length = n := by
  induction n generalizing a with
  | zero => rfl
  | succ n ih => simp [Zv, ih]
theorem zCJ (a : Int) (n i : Nat) (h : i < n) : (Zv a n).getD i 0 = a + i := by
  induction n generalizing a i with
  | zero => omega
  | succ n ih =>
    cases i with
    | zero => simp [Zv]
    | succ i => simp only [Zv, List.getD_cons_succ]; rw [ih (a + 1) i (by omega)]; omega
theorem zAJ (a : Int) (n : Nat) : Zv a (n + 1) = Zv a n ++ [a + n] := by
  induction n generalizing a with
  | zero => simp [Zv]
  | succ n ih => rw [Zv, ih (a + 1)]; simp [Zv]; omega
end Go.Proofs.Ytfnopcbicceeaaa.Lib
namespace Go.Proofs.Ytfnopcbicceeaaa.Lib
open Go.RowKit Go.Proofs.YtfnopcbicceeaaaW.PrintWords
set_option linter.unusedVariables false
def uni (s : List Int) (i k : Int) : List Int := s.map fun x => if x = rd s k then rd s i else x
def Ker (a b : List Int) : Prop := a.length = b.length ∧ ∀ i j : Nat, i < a.length → j < a.length → (a.getD i 0 = a.getD j 0 ↔ b.getD i 0 = b.getD j 0)
theorem zBd {α β : Type} (f : α → β) (l : List α) (i : Nat) (d : β) (e : α) (h : i < l.length) : (l.map f).getD i d = f (l.getD i e) := by
  simp [List.getD_eq_getElem?_getD, h]
theorem zCK (s : List Int) (i k : Int) : (uni s i k).length = s.length := by simp [uni]
theorem zED (s : List Int) (i k : Int) (n : Nat) (h : n < s.length) : (uni s i k).getD n 0 = if s.getD n 0 = rd s k then rd s i else s.getD n 0 := zBd _ s n 0 0 h
def Jb : List Int → List Int → List Int
  | _, [] => []
  | seen, x :: xs => if x ∈ seen then (seen.idxOf x : Int) :: Jb seen xs else (seen.length : Int) :: Jb (seen ++ [x]) xs
def zCt (l : List Int) : List Int := Jb [] l
def Cons2 (P : List (Int × Int)) : Prop := ∀ p ∈ P, ∀ q ∈ P, p.1 = q.1 ↔ p.2 = q.2
theorem zEE (S : List (Int × Int)) (p : Int × Int) (h : ∀ q ∈ S, q.1 = p.1 ↔ q.2 = p.2) : p.1 ∈ S.map (·.1) ↔ p.2 ∈ S.map (·.2) := by
  simp only [List.mem_map]
  exact ⟨fun ⟨q, hq, e⟩ => ⟨q, hq, (h q hq).1 e⟩, fun ⟨q, hq, e⟩ => ⟨q, hq, (h q hq).2 e⟩⟩
theorem zCu : ∀ (S : List (Int × Int)) (p : Int × Int), (∀ q ∈ S, q.1 = p.1 ↔ q.2 = p.2) → (S.map (·.1)).idxOf p.1 = (S.map (·.2)).idxOf p.2
  | [], _, _ => rfl
  | q :: S, p, h => by
    have h0 := h q (List.mem_cons_self ..)
    have ih := zCu S p (fun r hr => h r (List.mem_cons_of_mem _ hr))
    simp only [yjy, List.idxOf_cons]
    by_cases e : q.1 = p.1
    · have e2 := h0.1 e
      simp [e, e2]
    · have e2 : ¬ q.2 = p.2 := fun e2 => e (h0.2 e2)
      have b1 : (q.1 == p.1) = false := by simpa using e
      have b2 : (q.2 == p.2) = false := by simpa using e2
      rw [b1, b2, ih]
theorem Jc : ∀ (L S : List (Int × Int)), Cons2 (S ++ L) → Jb (S.map (·.1)) (L.map (·.1)) = Jb (S.map (·.2)) (L.map (·.2))
  | [], _, _ => rfl
  | p :: L, S, h => by
    have hS : ∀ q ∈ S, q.1 = p.1 ↔ q.2 = p.2 := fun q hq => h q (List.mem_append_left _ hq) p (List.mem_append_right _ (List.mem_cons_self ..))
    have hm := zEE S p hS
    simp only [yjy, Jb]
    by_cases e : p.1 ∈ S.map (·.1)
    · rw [if_pos e, if_pos (hm.1 e), zCu S p hS, Jc L S (fun a ha b hb => h a (by simp only [List.mem_append, List.mem_cons] at ha ⊢; rcases ha with ha | ha <;> simp [ha]) b (by simp only [List.mem_append, List.mem_cons] at hb ⊢; rcases hb with hb | hb <;> simp [hb]))]
    · rw [if_neg e, if_neg (fun e2 => e (hm.2 e2))]
      have ih := Jc L (S ++ [p]) (by rw [List.append_assoc]; exact h)
      simp only [List.map_append, yjy, yky] at ih
      rw [ih, List.length_map, List.length_map]
theorem Ker.zCt {a b : List Int} (h : Ker a b) : zCt a = zCt b := by
  have hz1 : (a.zip b).map (·.1) = a := by
    rw [List.map_fst_zip]; exact Nat.le_of_eq h.1
  have hz2 : (a.zip b).map (·.2) = b := by
    rw [List.map_snd_zip]; exact Nat.le_of_eq h.1.symm
  have hc : Cons2 (a.zip b) := by
    intro p hp q hq
    obtain ⟨i, hi, rfl⟩ := List.getElem_of_mem hp
    obtain ⟨j, hj, rfl⟩ := List.getElem_of_mem hq
    rw [List.length_zip] at hi hj
    have hi1 : i < a.length := by omega
    have hj1 : j < a.length := by omega
    have hi2 : i < b.length := by omega
    have hj2 : j < b.length := by omega
    have := h.2 i j hi1 hj1
    simpa [List.getElem_zip, List.getD_eq_getElem?_getD, hi1, hj1, hi2, hj2] using this
  have := Jc (a.zip b) [] (by rw [List.nil_append]; exact hc)
  rw [hz1, hz2] at this
  exact this
inductive QS : Nat → List Int → Prop
  | nil (m : Nat) : QS m []
  | old {m : Nat} {x : Int} {xs : List Int} (h0 : 0 ≤ x) (h1 : x < m) (h : QS m xs) : QS m (x :: xs)
  | new {m : Nat} {xs : List Int} (h : QS (m + 1) xs) : QS m ((m : Int) :: xs)
theorem zDc (a : Int) (n : Nat) (i : Nat) (h : i < n) : (Zv a n).idxOf (a + i) = i := by
  induction n generalizing a i with
  | zero => omega
  | succ n ih =>
    rw [Zv, List.idxOf_cons]
    cases i with
    | zero => simp
    | succ i =>
      have b : (a == a + ((i + 1 : Nat) : Int)) = false := by simp; omega
      have e : a + ((i + 1 : Nat) : Int) = (a + 1) + (i : Int) := by omega
      rw [b, e, ih (a + 1) i (by omega)]
      first | done | rfl
theorem zDx (a x : Int) (n : Nat) : x ∈ Zv a n ↔ a ≤ x ∧ x < a + n := by
  induction n generalizing a with
  | zero => simp [Zv]; try omega
  | succ n ih => rw [Zv, List.mem_cons, ih]; omega
theorem zCv {m : Nat} {l : List Int} (h : QS m l) : Jb (Zv 0 m) l = l := by
  induction h with
  | nil m => rfl
  | @old m x xs h0 h1 h ih =>
    obtain ⟨n, rfl⟩ := Int.eq_ofNat_of_zero_le h0
    rw [Jb, if_pos ((zDx _ _ _).2 ⟨by omega, by omega⟩), ih]
    have := zDc 0 m n (by omega)
    rw [Int.zero_add] at this
    rw [this]
  | @new m xs h ih =>
    rw [Jb, if_neg (fun hc => by have := (zDx _ _ _).1 hc; omega), JH]
    have := zAJ 0 m
    rw [Int.zero_add] at this
    rw [← this, ih]
theorem zDd {l : List Int} (h : QS 0 l) : zCt l = l := zCv h
end Go.Proofs.Ytfnopcbicceeaaa.Lib
namespace Go.Proofs.Ytfnopcbicceeaaa.P
open Go.RowKit Go.Proofs.YtfnopcbicceeaaaW.PrintWords Go.Proofs.YtfnopcbicceeaaaW.PrintLast Go.Proofs.YtfnopcbicceeaaaW.PrintMore
attribute [local go_sem] QZ Qa JF JG QK QL Qb Qc
set_option linter.unusedVariables false
set_option linter.unusedSimpArgs false
structure zB1 (seen : List Int) (D : DataW Unit) : Prop where
  tidy : Maps.Tidy D
  size : Maps.size D = seen.length
  has : ∀ x, Maps.has D (.int .i64 x) = seen.contains x
  at_ : ∀ x, x ∈ seen → D.atKey (.int .i64 x) (.lit (.int .i64 0)) = .lit (.int .i64 (seen.idxOf x : Int))
theorem zB1.empty : zB1 [] (.map []) := ⟨Maps.tidy_empty, rfl, fun _ => rfl, fun _ h => by cases h⟩
theorem zB1.put {seen : List Int} {D : DataW Unit} (h : zB1 seen D) {x : Int} (hx : x ∉ seen) : zB1 (seen ++ [x]) (D.put (.int .i64 x) (.lit (.int .i64 (seen.length : Int)))) := by
  refine ⟨h.tidy.put (show WideAt.IsKeyLit (.int .i64 x) from trivial) _, ?_, fun y => ?_, fun y hy => ?_⟩
  · rw [Maps.size_put h.tidy, h.has, h.size]
    have : seen.contains x = false := by simpa using hx
    rw [this]; simp
  · by_cases e : y = x
    · subst e
      rw [Maps.has_put_same h.tidy.isMap (show WideAt.IsKeyLit (.int .i64 y) from trivial)]; simp
    · rw [Maps.has_put_other (by simpa using e), h.has]
      simp [e]
  · by_cases e : y = x
    · subst e
      rw [Maps.atKey_put_same h.tidy.isMap (show WideAt.IsKeyLit (.int .i64 y) from trivial), List.idxOf_append]; simp [hx]
    · rw [Maps.atKey_put_other (by simpa using e)]
      have hm : y ∈ seen := by simpa [e] using hy
      rw [h.at_ y hm, List.idxOf_append, if_pos hm]
theorem zB1.get {seen : List Int} {D : DataW Unit} (h : zB1 seen D) {x c : Int} (hx : x ∈ seen) (hat : D.atKey (.int .i64 x) (.lit (.int .i64 0)) = .lit (.int .i64 c)) : c = (seen.idxOf x : Int) := by
  have := (h.at_ x hx).symm.trans hat
  simpa using this.symm
theorem zC0 {a : Int} (h0 : 0 ≤ a) (h1 : a ≤ 1000000) : (Lit.int .i64 a).wf = true := by
  unfold Lit.wf
  rw [Bool.and_eq_true]
  exact ⟨ygy (by show (-9223372036854775808 : Int) ≤ a; omega), ygy (by show a ≤ (9223372036854775807 : Int); omega)⟩
def zCw (l : List Int) : Bool := decide (l.length ≤ 1000000) && l.all fun x => decide (0 ≤ x ∧ x ≤ 1000000)
def QB.f (l0 : List Int) : Option (List Int) := if zCw l0 = true then some (Lib.zCt l0) else none
set_option maxHeartbeats 8000000 in
set_option maxRecDepth 100000 in
theorem QB.calls (A0 : Option Addr) (c0 : Nat) (l0 : List Int) (r : List Int) (w : World) (hr0 : Kd.C (Kd.int .i64) w A0 l0.length l0) (hc0 : l0.length ≤ c0) (h : QB.f l0 = some r) :
    Calls Try.prog 116 #[.slice A0 l0.length c0] w fun e w' => ∃ v0_ : Value, e = .returned (v0_) ∧ Kd.R (Kd.int .i64) 2 w' w.heap.size (fun _ => True) v0_ r ∧ Below w.heap.size w w' := by
  unfold QB.f at h
  by_cases hok : zCw l0 = true
  case neg => rw [if_neg hok] at h; cases h
  rw [if_pos hok] at h
  have hr := yey h
  subst hr
  clear h
  simp only [zCw, Bool.and_eq_true, decide_eq_true_eq, List.all_eq_true] at hok
  obtain ⟨hlen, hall⟩ := hok
  have HALL := zA.mk hall
  have HR := zA.mk hr0
  have HC := zA.mk hc0
  clear hr0 hc0 hall
  have hmm := @run_makeMap Try.prog
  have HK := zA.mk (Maps.int_keyed Try.underlying2 : Maps.Keyed Try.prog 2)
  have HZ := zA.mk (show ∀ w : World, (zeroValue 2).run Try.prog w = .ok (.int .i64 0) w from fun w => by kernel_rfl)
  have HA : zA ([] ++ Lib.Jb [] (l0.drop 0) = Lib.zCt l0) := ⟨rfl⟩
  generalize Lib.zCt l0 = R at HA ⊢
  go_enter Try.func116, Try.ntmps116
  go_wp2
  go_loopg [4, 12] l0.length (fun gg v4 v12 w' => ∃ (i : Nat) (seen acc : List Int) (D : DataW Unit), i ≤ l0.length ∧ l0.length - i ≤ gg ∧ v12 = .int .i64 i ∧ zA (acc ++ Lib.Jb seen (l0.drop i) = R) ∧ zA (zB1 seen D ∧ seen.length ≤ i ∧ acc.length = i) ∧ zA (w'.ownsMap Try.prog 2 (plainElem Try.prog 2) w.heap.size i D) ∧ zA (Kd.R (Kd.int .i64) 2 w' w.heap.size (fun k => k ≠ w.heap.size) v4 acc) ∧ zA (Below w.heap.size w w' ∧ w.heap.size + 1 ≤ w'.heap.size))
  case atStart => exact ⟨0, [], [], .map [], Nat.zero_le _, by omega, rfl, HA, ⟨zB1.empty, yoy _, rfl⟩, ⟨World.ownsMap_made _ _ _ _⟩, ⟨Kd.zBD _ _ _ _ _⟩, ⟨zC (ypy _ _) _, by simp⟩⟩
  case round =>
    clear HA
    obtain ⟨i, seen, acc, D, hi, hg, rfl, HA, HM, HO, HV, HB⟩ := hrel
    by_cases hlt : i < l0.length
    · have hltz : (i : Int) < (l0.length : Int) := by omega
      obtain ⟨ad, e1, hx⟩ := Kd.ZC HR.out (i : Int) (by omega) (by omega)
      have ex : rd l0 (i : Int) = l0[i] := by simp [rd, hlt]
      rw [ex, Int.toNat_natCast] at hx
      replace hx := (HB.out.1.cell (yny w _ hx)).trans hx
      have hy := HALL.out l0[i] (List.getElem_mem hlt)
      have HA2 := HA.out
      rw [List.drop_eq_getElem_cons hlt, Lib.Jb] at HA2
      have HA3 := zA.mk HA2
      clear HA HA2 ex
      generalize l0[i] = y at hx hy HA3
      cases e1
      have HKEY := zA.mk (Maps.keyOf_int_mk Try.underlying2 (zC0 hy.1 hy.2))
      clear hy
      by_cases hm : y ∈ seen
      · have hhas : Maps.has D (.int .i64 y) = true := by rw [HM.out.1.has]; simpa using hm
        have HMS := zA.mk hm
        have HA4 : zA (acc ++ (seen.idxOf y : Int) :: Lib.Jb seen (l0.drop (i + 1)) = R) := ⟨by have h := HA3.out; rwa [if_pos hm] at h⟩
        clear hm HA3
        go_wp2_with (first
          | (at_lookup; refine wpList_lookup_own_ok_int _ rfl _ _ 135 rfl 2 2 .i64 HK.out Try.underlying135 Try.underlying2 (HZ.out _) w.heap.size i D rfl HO.out _ _ rfl HKEY.out ?_; intro c1 hat1 hwc1; clear hat1 hwc1)
          | (at_lookup; refine wpList_lookup_own_int _ rfl _ _ 135 rfl 2 2 .i64 HK.out Try.underlying135 Try.underlying2 (HZ.out _) w.heap.size i D rfl HO.out _ _ rfl HKEY.out ?_; intro c hat hwc; have HCC := zA.mk (HM.out.1.get HMS.out hat); clear hat hwc)
          | ((with_reducible refine qm (b := .append) (xs := #[.tmp 28, .tmp 32]) rfl ?_); at_builtin; refine Kd.QI (Kd.int .i64) (w0 := w) w.heap.size rfl (.tmp 28) (.tmp 32) 44 2 (.int .i64 0) 8 rfl Try.underlying44 QR rfl (by decide) (by omega) u4 acc c [.int .i64 c] (fun k => k ≠ w.heap.size) (fun _ => False) rfl rfl ?aP (fun _ hk => hk.elim) ?aF ?aO ?aB ?aS ?aL ?_; (case aP => exact rfl); (case aB => exact HB.out.1); (case aF => exact (fun k hk e => by have := HB.out.2; omega)); (case aO => exact HV.out); (case aS => exact HB.out.1.size); (case aL => have := HM.out.2.2; omega); intro v102 w4 ho hb hg2 hat; have HO2 := zA.mk ((HO.out.kept hg2 (fun e => HV.out.1 _ e.symm rfl)).mono (Nat.le_succ i)); have HV2 := zA.mk ho; have HB2 := zA.mk (And.intro hb (Nat.le_trans HB.out.2 hg2.size)); clear HO HV HB ho hb hg2 hat))
        go_roundg (l0.length - (i + 1))
        case measure => omega
        case rel => exact ⟨i + 1, seen, acc ++ [c], D, by omega, by omega, by go_num, ⟨by have h := HA4.out; rw [← HCC.out] at h; rw [List.append_assoc]; exact h⟩, ⟨HM.out.1, by have := HM.out.2.1; omega, by have := HM.out.2.2; simp; omega⟩, HO2, HV2, HB2⟩
      · have hhas : Maps.has D (.int .i64 y) = false := by rw [HM.out.1.has]; simpa using hm
        have HM2 := zA.mk (HM.out.1.put hm)
        have HA4 : zA (acc ++ (seen.length : Int) :: Lib.Jb (seen ++ [y]) (l0.drop (i + 1)) = R) := ⟨by have h := HA3.out; rwa [if_neg hm] at h⟩
        have HIX : zA ((seen ++ [y]).idxOf y = seen.length) := ⟨by rw [List.idxOf_append, if_neg hm]; simp⟩
        have hsz : Maps.size D = seen.length := HM.out.1.size
        clear hm HA3
        have HSL := zA.mk HM.out.2.1
        have HWF := zA.mk (show (Lit.int .i64 ((seen.length : Nat) : Int)).wf = true from zC0 (by omega) (by have := HM.out.2.1; omega))
        go_wp2_with (first
          | (at_lookup; refine wpList_lookup_own_ok_int _ rfl _ _ 135 rfl 2 2 .i64 HK.out Try.underlying135 Try.underlying2 (HZ.out _) w.heap.size i D rfl HO.out _ _ rfl HKEY.out ?_; intro c1 hat1 hwc1; clear hat1 hwc1)
          | (at_len; refine wpList_len_own _ rfl _ 135 rfl 2 2 Try.underlying135 _ w.heap.size i D rfl HO.out ?_; rw [hsz])
          | (at_mapUpdate; refine wpList_mapUpdate_own _ rfl _ _ _ 135 rfl 2 2 HK.out Try.underlying135 _ w.heap.size i D rfl HO.out (by unfold maxLen; omega) _ _ _ rfl rfl HKEY.out (.lit (.int .i64 (seen.length : Int))) [] (plainElem_int Try.underlying2 HWF.out) ?_; intro w1 hown1 hgrow1; have HO1 := zA.mk hown1; have HV1 := zA.mk (Kd.JA HV.out hgrow1 (fun k hk e => hk (yey e))); have HB1 := zA.mk (And.intro (HB.out.1.grown hgrow1 HB.out.1.size (fun j hj => by cases hj; exact yoy _)) (Nat.le_trans HB.out.2 hgrow1.size)); clear HO HV HB hown1 hgrow1)
          | (at_lookup; refine wpList_lookup_own_int _ rfl _ _ 135 rfl 2 2 .i64 HK.out Try.underlying135 Try.underlying2 (HZ.out _) w.heap.size (i + 1) _ rfl HO1.out _ _ rfl HKEY.out ?_; intro c hat hwc; have HCC := zA.mk (HM2.out.get (by simp) hat); clear hat hwc)
          | ((with_reducible refine qm (b := .append) (xs := #[.tmp 28, .tmp 32]) rfl ?_); at_builtin; refine Kd.QI (Kd.int .i64) (w0 := w) w.heap.size rfl (.tmp 28) (.tmp 32) 44 2 (.int .i64 0) 8 rfl Try.underlying44 QR rfl (by decide) (by omega) u4 acc c [.int .i64 c] (fun k => k ≠ w.heap.size) (fun _ => False) rfl rfl ?aP (fun _ hk => hk.elim) ?aF ?aO ?aB ?aS ?aL ?_; (case aP => exact rfl); (case aB => exact HB1.out.1); (case aF => exact (fun k hk e => by have := HB1.out.2; omega)); (case aO => exact HV1.out); (case aS => exact HB1.out.1.size); (case aL => have := HM.out.2.2; omega); intro v102 w4 ho hb hg2 hat; have HO2 := zA.mk (HO1.out.kept hg2 (fun e => HV1.out.1 _ e.symm rfl)); have HV2 := zA.mk ho; have HB2 := zA.mk (And.intro hb (Nat.le_trans HB1.out.2 hg2.size)); clear HO1 HV1 HB1 ho hb hg2 hat))
        go_roundg (l0.length - (i + 1))
        case measure => omega
        case rel => exact ⟨i + 1, seen ++ [y], acc ++ [c], _, by omega, by omega, by go_num, ⟨by have h := HA4.out; rw [← HIX.out, ← HCC.out] at h; rw [List.append_assoc]; exact h⟩, ⟨HM2.out, by have := HSL.out; simp; omega, by have := HM.out.2.2; simp; omega⟩, HO2, HV2, HB2⟩
    · obtain rfl : i = l0.length := by omega
      have HA2 := HA.out
      rw [List.drop_length, Lib.Jb, List.append_nil] at HA2
      subst HA2
      go_wp2
      go_ret
      exact ⟨_, rfl, Kd.qY HV.out (fun _ _ => trivial), HB.out.1⟩
def qO.f (l0 : List (List (qJ))) : Option (Int) := some (l0.length : Int)
set_option maxHeartbeats 8000000 in
set_option maxRecDepth 100000 in
theorem qO.calls (A0 : Option Addr) (c0 : Nat) (l0 : List (List (qJ))) (r : Int) (w : World) (hr0 : Kd.C (Kd.slice 59 ZK) w A0 l0.length l0) (hc0 : l0.length ≤ c0) (h : qO.f l0 = some r) :
    Calls Try.prog 46 #[.slice A0 l0.length c0] w fun e w' => e = .returned (.int .i64 r) ∧ qA w w' := by
  have HR0 := zA.mk hr0
  have HC0 := zA.mk hc0
  clear hr0 hc0
  have H : (some (l0.length : Int)) = some r := h
  clear h
  obtain rfl := yey H
  go_enter Try.func46, Try.ntmps46
  go_wp2
  go_ret
  exact ⟨by first | rfl | (simp; done) | (simp [*]; done), by repeat (first | exact qA.refl _ | apply qA.step)⟩
def Ze.f (l : List Int) (i k : Int) : Option (List Int) := if 0 ≤ i ∧ i < l.length ∧ 0 ≤ k ∧ k < l.length then some (Lib.uni l i k) else none
theorem zDe {G : Int → Int} {l cur : List Int} {n : Nat} (h : cur = (l.take n).map G ++ l.drop n) (hn : n < l.length) : rd cur (n : Int) = l[n] := by
  subst h
  have h1 : ((l.take n).map G).length = n := by simp; omega
  simp only [rd, Int.toNat_natCast, List.getD_eq_getElem?_getD]
  rw [List.getElem?_append_right (by omega), h1, Nat.sub_self, List.getElem?_drop]
  simp [hn]
theorem zCx {G : Int → Int} {l cur : List Int} {n : Nat} (h : cur = (l.take n).map G ++ l.drop n) (hn : n < l.length) (e : G l[n] = l[n]) : cur = (l.take (n + 1)).map G ++ l.drop (n + 1) := by
  subst h
  rw [List.drop_eq_getElem_cons hn, List.take_succ_eq_append_getElem hn, List.map_append, yjy, yky, e, List.append_assoc]
  rfl
theorem zDf {G : Int → Int} {l cur : List Int} {n : Nat} (h : cur = (l.take n).map G ++ l.drop n) (hn : n < l.length) : cur.set n (G l[n]) = (l.take (n + 1)).map G ++ l.drop (n + 1) := by
  subst h
  have h1 : ((l.take n).map G).length = n := by simp; omega
  rw [List.set_append_right _ _ (by omega), h1, Nat.sub_self, List.drop_eq_getElem_cons hn, yby, List.take_succ_eq_append_getElem hn, List.map_append, yjy, yky, List.append_assoc]
  rfl
set_option maxHeartbeats 8000000 in
set_option maxRecDepth 100000 in
theorem Ze.calls (P0_ : Nat → Prop) (v : Value) (l : List Int) (i k : Int) (r : List Int) (w0 w : World) (hB : Below w0.heap.size w0 w) (ho0 : Kd.R (Kd.int .i64) 2 w w0.heap.size P0_ v l) (h : Ze.f l i k = some r) :
    Calls Try.prog 115 #[v, .int .i64 i, .int .i64 k] w fun e w' => e = .returned (.tuple #[]) ∧ Kd.R (Kd.int .i64) 2 w' w0.heap.size P0_ v r ∧ Below w0.heap.size w0 w' ∧ Kept w w' P0_ := by
  unfold Ze.f at h
  by_cases hok : 0 ≤ i ∧ i < l.length ∧ 0 ≤ k ∧ k < l.length
  case neg => rw [if_neg hok] at h; cases h
  rw [if_pos hok] at h
  have hr := yey h
  obtain ⟨hi0, hi1, hk0, hk1⟩ := hok
  obtain ⟨g, cap, rfl, hg1, _, _⟩ := Kd.QV ho0 (by omega)
  have hbig : l.length ≤ 9223372036854775807 := (Kd.C_max (Kd.zk ho0).2.2)
  have q0 := (Kd.qf 0 ho0 k hk0 hk1).1
  have q1 := (Kd.qf 0 ho0 i hi0 hi1).1
  replace q0 : w.cell? ⟨g, k.toNat, none⟩ = some (.int .i64 (rd l k)) := q0
  replace q1 : w.cell? ⟨g, i.toNat, none⟩ = some (.int .i64 (rd l i)) := q1
  have hR : zA (l.map (fun x => if x = rd l k then rd l i else x) = r) := ⟨hr⟩
  clear hr h
  generalize rd l k = q at q0 hR
  generalize rd l i = p at q1 hR
  have HO := zA.mk ho0
  have HB := zA.mk hB
  have HP := zA.mk (ho0.1 g rfl)
  clear ho0 hB
  go_enter Try.func115, Try.ntmps115
  go_wp2
  refine ZT (n := 10) (S := fun w' => w'.cell? ⟨g, k.toNat, none⟩ = some (.int .i64 q) ∧ w'.cell? ⟨g, i.toNat, none⟩ = some (.int .i64 p)) (ds := []) #[false, false, false, false, false, false, false, false, false, false] (by kernel_rfl) rfl rfl ⟨q0, q1⟩ (fun hHeld => ?_)
  refine zh (i := 0) (N := some 10) (v := ?_) (a' := ?_) #[true, false, false, false, false, false, false, false, false, false] rfl rfl (by kernel_rfl) (fun _ _ _ h => h) (Or.inl ⟨by rfl, ?_⟩) ?_ ?_
  rotate_left
  · intro w'
    go_simp
    with_reducible rfl
  rotate_left
  · simp only [Act.put, yay, yby, ycy, zT, zV]
    rfl
  refine zh (i := 1) (N := some 11) (v := ?_) (a' := ?_) #[true, true, false, false, false, false, false, false, false, false] rfl rfl (by kernel_rfl) (fun _ _ _ h => h) (Or.inl ⟨by rfl, ?_⟩) ?_ ?_
  rotate_left
  · intro w'
    go_simp
    with_reducible rfl
  rotate_left
  · simp only [Act.put, yay, yby, ycy, zT, zV]
    rfl
  refine zh (i := 2) (N := some 12) (v := ?_) (a' := ?_) #[true, true, true, false, false, false, false, false, false, false] rfl rfl (by kernel_rfl) (fun _ _ _ h => h) (Or.inl ⟨by rfl, ?_⟩) ?_ ?_
  rotate_left
  · intro w'
    go_simp
    with_reducible rfl
  rotate_left
  · simp only [Act.put, yay, yby, ycy, zT, zV]
    rfl
  refine qd (i := 3) (N := some 13) (v := ?_) (a' := ?_) #[true, true, true, true, false, false, false, false, false, false] rfl rfl (by kernel_rfl) (fun _ _ _ h => h) (Or.inl ⟨by rfl, ?_⟩) hHeld ?_ ?_
  rotate_left
  · rintro w' ⟨s0, s1⟩
    go_simp
    with_reducible rfl
  rotate_left
  · simp only [Act.put, yay, yby, ycy, zT, zV]
    rfl
  refine zh (i := 4) (N := some 14) (v := ?_) (a' := ?_) #[true, true, true, true, true, false, false, false, false, false] rfl rfl (by kernel_rfl) (fun _ _ _ h => h) (Or.inl ⟨by rfl, ?_⟩) ?_ ?_
  rotate_left
  · intro w'
    go_simp
    with_reducible rfl
  rotate_left
  · simp only [Act.put, yay, yby, ycy, zT, zV]
    rfl
  refine zh (i := 5) (N := some 15) (v := ?_) (a' := ?_) #[true, true, true, true, true, true, false, false, false, false] rfl rfl (by kernel_rfl) (fun _ _ _ h => h) (Or.inl ⟨by rfl, ?_⟩) ?_ ?_
  rotate_left
  · intro w'
    go_simp
    with_reducible rfl
  rotate_left
  · simp only [Act.put, yay, yby, ycy, zT, zV]
    rfl
  refine zh (i := 6) (N := some 16) (v := ?_) (a' := ?_) #[true, true, true, true, true, true, true, false, false, false] rfl rfl (by kernel_rfl) (fun _ _ _ h => h) (Or.inl ⟨by rfl, ?_⟩) ?_ ?_
  rotate_left
  · intro w'
    go_simp
    with_reducible rfl
  rotate_left
  · simp only [Act.put, yay, yby, ycy, zT, zV]
    rfl
  refine qd (i := 7) (N := some 17) (v := ?_) (a' := ?_) #[true, true, true, true, true, true, true, true, false, false] rfl rfl (by kernel_rfl) (fun _ _ _ h => h) (Or.inl ⟨by rfl, ?_⟩) hHeld ?_ ?_
  rotate_left
  · rintro w' ⟨s0, s1⟩
    go_simp
    with_reducible rfl
  rotate_left
  · simp only [Act.put, yay, yby, ycy, zT, zV]
    rfl
  refine zh (i := 8) (N := some 6) (v := ?_) (a' := ?_) #[true, true, true, true, true, true, true, true, true, false] rfl rfl (by kernel_rfl) (fun _ _ _ h => h) (Or.inl ⟨by rfl, ?_⟩) ?_ ?_
  rotate_left
  · intro w'
    go_simp
    with_reducible rfl
  rotate_left
  · simp only [Act.put, yay, yby, ycy, zT, zV]
    rfl
  refine zh (i := 9) (N := some 7) (v := ?_) (a' := ?_) #[true, true, true, true, true, true, true, true, true, true] rfl rfl (by kernel_rfl) (fun _ _ _ h => h) (Or.inl ⟨by rfl, ?_⟩) ?_ ?_
  rotate_left
  · intro w'
    go_simp
    with_reducible rfl
  rotate_left
  · simp only [Act.put, yay, yby, ycy, zT, zV]
    rfl
  refine Zy (by kernel_rfl) ?_
  have HO2 := zA.mk (Kd.zj HO.out)
  have HB2 := zA.mk (zD HB.out)
  have HK := zA.mk (Kept.drew (Kept.refl w P0_))
  have HC : zA (l = (l.take 0).map (fun x => if x = q then p else x) ++ l.drop 0) := ⟨by simp⟩
  clear HO HB hHeld q0 q1
  generalize w.drew = wd at *
  go_wp2
  go_loopg [20] l.length (fun gg v20 w' => ∃ (n : Nat) (cur : List Int), n ≤ l.length ∧ l.length - n ≤ gg ∧ v20 = .int .i64 n ∧ zA (cur = (l.take n).map (fun x => if x = q then p else x) ++ l.drop n) ∧ zA (Kd.R (Kd.int .i64) 2 w' w0.heap.size P0_ (.slice (some ⟨g, 0, none⟩) l.length cap) cur) ∧ zA (Below w0.heap.size w0 w') ∧ zA (Kept w w' P0_))
  case atStart => exact ⟨0, l, Nat.zero_le _, by omega, rfl, HC, HO2, HB2, HK⟩
  case round =>
    clear HC HO2 HB2 HK
    obtain ⟨n, cur, hn, hg, rfl, HC, HO, HB, HK⟩ := hrel
    by_cases hlt : n < l.length
    · have hltz : (n : Int) < (l.length : Int) := by omega
      obtain ⟨hc, hf⟩ := Kd.qf 0 HO.out (n : Int) (by omega) hltz
      replace hc : wr.cell? ⟨g, n, none⟩ = some (.int .i64 (rd cur (n : Int))) := hc
      replace hf : wr.frozen? ⟨g, n, none⟩ = false := hf
      rw [zDe HC.out hlt] at hc
      by_cases hy : l[n] = q
      · have HC2 := zA.mk (zDf HC.out hlt)
        rw [hy] at hc HC2
        have HC3 : zA (cur.set n p = (l.take (n + 1)).map (fun x => if x = q then p else x) ++ l.drop (n + 1)) := ⟨by have h := HC2.out; rwa [if_pos rfl] at h⟩
        have e1 : (q == q) = true := by simp
        clear hy HC2 HC
        go_wp2_with (first
          | ((with_reducible refine ZW (t := 2) (p := 31) rfl ?_); refine ZL (t := 2) (p := 31) (v := ?vo31) (w1 := (wr.setCell ⟨g, n, none⟩ (.int .i64 p))) ?hg ?ho ?hn ?hr ?_; (case ho => rfl); (case hg => rfl); (case hn => rfl); (case hr => first | (go_simp; done) | (go_simp; rfl)); intro w4 hw; have HO2 := zA.mk (show Kd.R (Kd.int .i64) 2 w4 w0.heap.size P0_ (.slice (some ⟨g, 0, none⟩) l.length cap) (cur.set n p) by rw [hw]; exact (Kd.QW HO.out (n : Int) p).1); have HB2 := zA.mk (show Below w0.heap.size w0 w4 by rw [hw]; exact zE HB.out hg1); have HK2 := zA.mk (show Kept w w4 P0_ by rw [hw]; exact HK.out.setCell (p := ⟨g, n, none⟩) (.inl HP.out) _); clear hw hc hf HO HB HK))
        go_roundg (l.length - (n + 1))
        case measure => omega
        case rel => exact ⟨n + 1, cur.set n p, by omega, by omega, by go_num, HC3, HO2, HB2, HK2⟩
      · have HC2 := zA.mk (zCx HC.out hlt (if_neg hy))
        have e1 : (l[n] == q) = false := by simpa using hy
        generalize l[n] = y at hc e1
        clear hy HC
        go_wp2
        go_roundg (l.length - (n + 1))
        case measure => omega
        case rel => exact ⟨n + 1, cur, by omega, by omega, by go_num, HC2, HO, HB, HK⟩
    · obtain rfl : n = l.length := by omega
      have hcr : cur = r := by rw [HC.out, ← hR.out]; simp
      have HCR := zA.mk hcr
      clear hcr HC
      go_wp2
      first | go_end0 | ((try simp only [Exit.inBlock, Exit.then]); refine bodyPost_ret (results_none rfl _ _ _) rfl ?_)
      refine ⟨?_, by rw [← HCR.out]; exact HO.out, HB.out, HK.out⟩
      first | rfl | (simp <;> rfl)
mutual
def zR.l0 : Nat → List Int → List (List (qJ)) → Int → Int → Option (List Int)
 | 0, _, _, _, _ => none
 | k + 1, x3, x13, x14, x15 => if x15 < x14 then (if 0 ≤ x15 then (if x15 < (x13.length : Int) then (zR.l1 k x3 x15 x13 x14 x15 (zG x13 x15) ((zG x13 x15).length : Int) 0) else (none)) else (none)) else ((QB.f x3).bind fun t106 => (some t106))
def zR.l1 : Nat → List Int → Int → List (List (qJ)) → Int → Int → List (qJ) → Int → Int → Option (List Int)
 | 0, _, _, _, _, _, _, _, _ => none
 | k + 1, x3, x4, x13, x14, x15, x20, x21, x22 => if x22 < x21 then (if 0 ≤ x22 then (if x22 < (x20.length : Int) then ((qQ.f ((zK x20 x22).f0) ((zK x20 x22).f1)).bind fun t112 => (if t112 = true then (zR.l1 k x3 x4 x13 x14 x15 x20 x21 (wrap64 (x22 + 1))) else ((Ze.f x3 x4 ((zK x20 x22).f0)).bind fun t113 => (zR.l1 k t113 x4 x13 x14 x15 x20 x21 (wrap64 (x22 + 1)))))) else (none)) else (none)) else (zR.l0 k x3 x13 x14 (wrap64 (x15 + 1)))
end
def zR.f (k : Nat) (l0_0 : List (List (qJ))) : Option (List Int) := (qO.f l0_0).bind fun t102 => ((qe.f k t102).bind fun t103 => (zR.l0 k t103 l0_0 (l0_0.length : Int) 0))
set_option maxHeartbeats 8000000 in
set_option maxRecDepth 100000 in
theorem zR.calls (k : Nat) (A0_0 : Option Addr) (c0_0 : Nat) (l0_0 : List (List (qJ))) (r : List Int) (w : World) (hr0_0 : Kd.C (Kd.slice 59 ZK) w A0_0 l0_0.length l0_0) (hc0_0 : l0_0.length ≤ c0_0) (h : zR.f k l0_0 = some r) :
 Calls Try.prog 66 #[.agg #[.slice A0_0 l0_0.length c0_0]] w fun e w' => ∃ v0_ : Value, e = .returned (v0_) ∧ Kd.R (Kd.int .i64) 2 w' w.heap.size (fun _ => True) v0_ r ∧ Below w.heap.size w w' := by
 have hu30 := Try.underlying30
 have hu59 := Try.underlying59
 have HR0_0 := zA.mk hr0_0
 have HC0_0 := zA.mk hc0_0
 clear hr0_0 hc0_0
 have HB := zA.mk (ypy w.heap.size w)
 have H : ((qO.f l0_0).bind fun t102 => ((qe.f k t102).bind fun t103 => (zR.l0 k t103 l0_0 (l0_0.length : Int) 0))) = some r := h
 clear h
 replace H := ydy.mp H
 obtain ⟨t102, A20, H⟩ := H
 replace H : ((qe.f k t102).bind fun t103 => (zR.l0 k t103 l0_0 (l0_0.length : Int) 0)) = some r := H
 have A2 := zA.mk A20
 clear A20
 replace H := ydy.mp H
 obtain ⟨t103, A30, H⟩ := H
 replace H : (zR.l0 k t103 l0_0 (l0_0.length : Int) 0) = some r := H
 have A3 := zA.mk A30
 clear A30
 have H' := zA.mk H
 clear H
 go_enter Try.func66, Try.ntmps66
 go_wp2_with (first | ((with_reducible refine zq (N := 1) rfl ?_); refine zr ?hg (N := 1) ?hd (cs := #[.slice A0_0 l0_0.length c0_0]) (t := 30) ?hr ?_; (case hd => rfl); (case hg => rfl); (case hr => first | (go_simp; done) | (go_simp; rfl)); intro gb101 hg w4 hbox hb; have n0_ := zA.mk (zN (by repeat (first | (with_reducible first | exact HB.out | apply zC | apply zB | apply zD) | exact HB.out)) hb); have n1_ := zA.mk (hbox); have n2_ := zA.mk ((by rw [hg]; exact (zO (by repeat (first | (with_reducible first | exact HB.out | apply zC | apply zB | apply zD) | exact HB.out))) : w.heap.size ≤ gb101)); have n3_ := zA.mk ((by rw [hg]; exact (zO (by repeat (first | (with_reducible first | exact HB.out | apply zC | apply zB | apply zD) | exact HB.out))) : w.heap.size ≤ gb101)); clear HB; have HB := n0_; have BK101 := n1_; have GW101 := n2_; have GE101 := n3_; clear n0_ n1_ n2_ n3_; clear hb hbox hg; have hcz5_0 : w4.cell? ⟨gb101, 0, none⟩ = some (.slice A0_0 l0_0.length c0_0) := (zL BK101.out 0).trans rfl; have hfz5_0 := zQ BK101.out 0) | ((with_reducible refine zf (f := 46) rfl ?_); refine qT (some 10) rfl rfl Try.func46 (by kernel_rfl) rfl #[.slice A0_0 l0_0.length c0_0] rfl (by (try simp only [yiy, yjy, yky]); first | done | rfl | (simp only [yly, ymy]; rfl)) ?_; (with_reducible refine (qO.calls _ _ l0_0 t102 _ ?side1 ?side2 A2.out).mono ?_); (case side1 => repeat (first | exact (Kd.zw HR0_0.out HB.out) | (with_reducible refine Kd.zn ?_ _) | (with_reducible refine Kd.zo ?_ _) | (with_reducible refine Kd.qD ?_))); (case side2 => exact HC0_0.out); rintro e w' ⟨rfl, ⟨nd, rfl⟩⟩; refine ⟨_, rfl, ?_⟩) | ((with_reducible refine zf (f := 81) rfl ?_); refine qT (some 11) rfl rfl Try.func81 (by kernel_rfl) rfl #[.int .i64 t102] rfl (by (try simp only [yiy, yjy, yky]); first | done | rfl | (simp only [yly, ymy]; rfl)) ?_; (with_reducible refine (qe.calls k t102 t103 _ A3.out).mono ?_); rintro e w6 ⟨v104, rfl, ho0, hb⟩; refine ⟨_, rfl, ?_⟩; have n0_ := zA.mk (Kd.qx ho0 (zO (by repeat (first | (with_reducible first | exact HB.out | apply zC | apply zB | apply zD | refine zE ?_ GE101.out) | exact HB.out)))); have n1_ := zA.mk (zJ (g := gb101) (o := .cells #[.slice A0_0 l0_0.length c0_0] 30 (0, 0)) (by (with_reducible repeat (first | refine zH ?_ _ | refine zI ?_ | refine zF ?_ _)); exact BK101.out) hb); have n2_ := zA.mk (zN (by repeat (first | (with_reducible first | exact HB.out | apply zC | apply zB | apply zD | refine zE ?_ GE101.out) | exact HB.out)) hb); clear BK101; clear HB; have HO105 := n0_; have BK101 := n1_; have HB := n2_; clear n0_ n1_ n2_; (try clear hb); (try clear hb2); (try clear hk); (try clear hi); (try clear ho0); have hcz7_0 : w6.cell? ⟨gb101, 0, none⟩ = some (.slice A0_0 l0_0.length c0_0) := (zL BK101.out 0).trans rfl; have hfz7_0 := zQ BK101.out 0))
 go_loopg [15] k (fun kq v15 w' => ∃ (x3_1 : List Int) (x15_1 : Int), v15 = .int .i64 x15_1 ∧ zA (zR.l0 kq x3_1 l0_0 (l0_0.length : Int) x15_1 = some r) ∧ zA (kq ≤ k) ∧ zA (Kd.R (Kd.int .i64) 2 w' w.heap.size (fun _ => True) v104 x3_1) ∧ zA (w'.heap[gb101]? = some (.cells #[(.slice A0_0 l0_0.length c0_0)] 30 (0, 0))) ∧ zA (Below w.heap.size w w'))
 case atStart => exact ⟨(t103), (0), (by first | rfl | (simp; done) | (simp [*]; done)), H', ⟨yoy _⟩, ⟨by (with_reducible repeat (first | apply Kd.zd | apply Kd.zg | apply Kd.zj)); exact HO105.out⟩, ⟨by (with_reducible repeat (first | refine zH ?_ _ | refine zI ?_ | refine zF ?_ _)); exact BK101.out⟩, ⟨by repeat (first | (with_reducible first | exact HB.out | apply zC | apply zB | apply zD | refine zE ?_ GE101.out) | exact HB.out)⟩⟩
 case round =>
  clear H'
  try clear p2
  try clear c4
  try clear c6
  try clear hcz5_0
  try clear hcz7_0
  try clear hfz5_0
  try clear hfz7_0
  obtain ⟨x3_1, x15_1, rfl, HA, HK1, HO_3, BK101, HB⟩ := hrel
  cases gk with
  | zero => exact absurd HA.out (by simp [zR.l0])
  | succ k1 =>
   have H := HA.out
   clear HA
   simp only [zR.l0] at H
   by_cases c8 : x15_1 < (l0_0.length : Int)
   rotate_left
   next =>
    rw [if_neg c8] at H
    have c8b0 : decide (x15_1 < (l0_0.length : Int)) = false := yhy c8
    clear c8
    replace H := ydy.mp H
    obtain ⟨t106, A280, H⟩ := H
    replace H : (some t106) = some r := H
    have A28 := zA.mk A280
    clear A280
    obtain rfl := yey H
    obtain ⟨Ao29, co29, eo29⟩ := Kd.ZN HO_3.out
    subst eo29
    go_wp2_with (first | ((with_reducible refine zf (f := 116) rfl ?_); refine qT (some 37) rfl rfl Try.func116 (by kernel_rfl) rfl #[.slice Ao29 x3_1.length co29] rfl (by (try simp only [yiy, yjy, yky]); first | done | rfl | (simp only [yly, ymy]; rfl)) ?_; (with_reducible refine (QB.calls _ _ x3_1 t106 _ ?side1 ?side2 A28.out).mono ?_); (case side1 => repeat (first | exact (Kd.zk HO_3.out).2.2 | (with_reducible refine Kd.zn ?_ _) | (with_reducible refine Kd.zo ?_ _) | (with_reducible refine Kd.qD ?_))); (case side2 => exact (Kd.zk HO_3.out).2.1); rintro e w30 ⟨v107, rfl, ho0, hb⟩; refine ⟨_, rfl, ?_⟩; have n0_ := zA.mk (Kd.Zr (by (with_reducible repeat (first | apply Kd.zd | apply Kd.zg | apply Kd.zj)); exact HO_3.out) (Kd.Zm ho0) hb); have n1_ := zA.mk (Kd.qx (Kd.Qm ho0 (Kd.JV (by (with_reducible repeat (first | apply Kd.zd | apply Kd.zg | apply Kd.zj)); exact HO_3.out))) (zO (by repeat (first | (with_reducible first | exact HB.out | apply zC | apply zB | apply zD | refine zE ?_ GE101.out) | exact HB.out)))); have n2_ := zA.mk (zJ (g := gb101) (o := .cells #[.slice A0_0 l0_0.length c0_0] 30 (0, 0)) (by (with_reducible repeat (first | refine zH ?_ _ | refine zI ?_ | refine zF ?_ _)); exact BK101.out) hb); have n3_ := zA.mk (zN (by repeat (first | (with_reducible first | exact HB.out | apply zC | apply zB | apply zD | refine zE ?_ GE101.out) | exact HB.out)) hb); clear HO_3; clear BK101; clear HB; have HO_3 := n0_; have HO108 := n1_; have BK101 := n2_; have HB := n3_; clear n0_ n1_ n2_ n3_; (try clear hb); (try clear hb2); (try clear hk); (try clear hi); (try clear ho0)))
    go_ret
    exact ⟨_, by first | rfl | (simp [zb, zc] <;> rfl) | (simp [*, zb, zc] <;> rfl), by (with_reducible repeat (first | apply Kd.zd | apply Kd.zg | apply Kd.zj)); exact Kd.qY HO108.out (fun _ hk => trivial), by repeat (first | (with_reducible first | exact HB.out | apply zC | apply zB | apply zD | refine zE ?_ GE101.out) | exact HB.out)⟩
   rw [if_pos c8] at H
   have c8b0 : decide (x15_1 < (l0_0.length : Int)) = true := ygy c8
   clear c8
   by_cases c9 : 0 ≤ x15_1
   rotate_left
   next =>
    rw [if_neg c9] at H
    exact absurd H (by simp)
   rw [if_pos c9] at H
   have c9b0 : decide (0 ≤ x15_1) = true := ygy c9
   clear c9
   by_cases c10 : x15_1 < (l0_0.length : Int)
   rotate_left
   next =>
    rw [if_neg c10] at H
    exact absurd H (by simp)
   rw [if_pos c10] at H
   have c10b0 : decide (x15_1 < (l0_0.length : Int)) = true := ygy c10
   clear c10
   have H' := zA.mk H
   clear H
   have p109 : 0 ≤ (x15_1 : Int) := of_decide_eq_true (by first | (with_reducible assumption) | assumption)
   have q109 : x15_1 < (l0_0.length : Int) := of_decide_eq_true (by first | (with_reducible assumption) | assumption)
   obtain ⟨ad109, A109_0, c109_0, e109, hx109_0, hl109_0, hi109_0⟩ := ZA HR0_0.out x15_1 p109 q109
   cases e109
   replace hx109_0 := (HB.out.cell (yny w _ hx109_0)).trans hx109_0
   have HR109_0 := zA.mk hi109_0
   have HC109_0 := zA.mk hl109_0
   clear hi109_0 hl109_0
   replace p109 := eq_true p109
   replace q109 := eq_true q109
   go_wp2
   go_loopg [22] k1 (fun kq v22 w' => ∃ (x3_2 : List Int) (x22_2 : Int), v22 = .int .i64 x22_2 ∧ zA (zR.l1 kq x3_2 x15_1 l0_0 (l0_0.length : Int) x15_1 (zG l0_0 x15_1) ((zG l0_0 x15_1).length : Int) x22_2 = some r) ∧ zA (kq ≤ k1) ∧ zA (Kd.R (Kd.int .i64) 2 w' w.heap.size (fun _ => True) v104 x3_2) ∧ zA (w'.heap[gb101]? = some (.cells #[(.slice (some ad109) l0_0.length c0_0)] 30 (0, 0))) ∧ zA (Below w.heap.size w w'))
   case atStart => exact ⟨(x3_1), (0), (by first | rfl | (simp; done) | (simp [*]; done)), H', ⟨yoy _⟩, ⟨by (with_reducible repeat (first | apply Kd.zd | apply Kd.zg | apply Kd.zj)); exact HO_3.out⟩, ⟨by (with_reducible repeat (first | refine zH ?_ _ | refine zI ?_ | refine zF ?_ _)); exact BK101.out⟩, ⟨by repeat (first | (with_reducible first | exact HB.out | apply zC | apply zB | apply zD | refine zE ?_ GE101.out) | exact HB.out)⟩⟩
   case round =>
    clear H'
    try clear c1
    try clear p1
    try clear q1
    try clear hx1
    try clear p2
    try clear c4
    try clear c6
    try clear c8
    try clear c8b0
    try clear c9
    try clear c9b0
    try clear c10
    try clear c10b0
    try clear p10
    try clear q10
    try clear hx10
    try clear hcz5_0
    try clear hcz7_0
    try clear hfz5_0
    try clear hfz7_0
    try clear hx109_0
    try clear p109
    try clear p2
    try clear q109
    obtain ⟨x3_2, x22_2, rfl, HA, HK2, HO_3, BK101, HB⟩ := hrel
    cases gk with
    | zero => exact absurd HA.out (by simp [zR.l1])
    | succ k2 =>
     have H := HA.out
     clear HA
     simp only [zR.l1] at H
     by_cases c11 : x22_2 < ((zG l0_0 x15_1).length : Int)
     rotate_left
     next =>
      rw [if_neg c11] at H
      have c11b0 : decide (x22_2 < ((zG l0_0 x15_1).length : Int)) = false := yhy c11
      clear c11
      have H' := zA.mk H
      clear H
      go_wp2
      go_roundg k2
      case measure => have := HK1.out; have := HK2.out; omega
      case rel => exact ⟨(x3_2), (wrap64 (x15_1 + 1)), (by first | rfl | (simp; done) | (simp [*]; done)), H', ⟨by have := HK1.out; have := HK2.out; omega⟩, ⟨by (with_reducible repeat (first | apply Kd.zd | apply Kd.zg | apply Kd.zj)); exact HO_3.out⟩, ⟨by (with_reducible repeat (first | refine zH ?_ _ | refine zI ?_ | refine zF ?_ _)); exact BK101.out⟩, ⟨by repeat (first | (with_reducible first | exact HB.out | apply zC | apply zB | apply zD | refine zE ?_ GE101.out) | exact HB.out)⟩⟩
     rw [if_pos c11] at H
     have c11b0 : decide (x22_2 < ((zG l0_0 x15_1).length : Int)) = true := ygy c11
     clear c11
     by_cases c12 : 0 ≤ x22_2
     rotate_left
     next =>
      rw [if_neg c12] at H
      exact absurd H (by simp)
     rw [if_pos c12] at H
     have c12b0 : decide (0 ≤ x22_2) = true := ygy c12
     clear c12
     by_cases c13 : x22_2 < ((zG l0_0 x15_1).length : Int)
     rotate_left
     next =>
      rw [if_neg c13] at H
      exact absurd H (by simp)
     rw [if_pos c13] at H
     have c13b0 : decide (x22_2 < ((zG l0_0 x15_1).length : Int)) = true := ygy c13
     clear c13
     replace H := ydy.mp H
     obtain ⟨t112, A140, H⟩ := H
     replace H : (if t112 = true then (zR.l1 k2 x3_2 x15_1 l0_0 (l0_0.length : Int) x15_1 (zG l0_0 x15_1) ((zG l0_0 x15_1).length : Int) (wrap64 (x22_2 + 1))) else ((Ze.f x3_2 x15_1 ((zK (zG l0_0 x15_1) x22_2).f0)).bind fun t113 => (zR.l1 k2 t113 x15_1 l0_0 (l0_0.length : Int) x15_1 (zG l0_0 x15_1) ((zG l0_0 x15_1).length : Int) (wrap64 (x22_2 + 1))))) = some r := H
     have A14 := zA.mk A140
     clear A140
     by_cases c15 : t112 = true
     next =>
      subst c15
      have H1 : (zR.l1 k2 x3_2 x15_1 l0_0 (l0_0.length : Int) x15_1 (zG l0_0 x15_1) ((zG l0_0 x15_1).length : Int) (wrap64 (x22_2 + 1))) = some r := by rw [if_pos rfl] at H; exact H
      clear H
      have H := H1
      clear H1
      have H' := zA.mk H
      clear H
      have p110 : 0 ≤ (x22_2 : Int) := of_decide_eq_true (by first | (with_reducible assumption) | assumption)
      have q110 : x22_2 < ((zG l0_0 x15_1).length : Int) := of_decide_eq_true (by first | (with_reducible assumption) | assumption)
      obtain ⟨ad110, e110, hx110_0, hx110_1⟩ := ZZ HR109_0.out x22_2 p110 q110
      cases e110
      replace hx110_0 := (HB.out.cell (yny w _ hx110_0)).trans hx110_0
      replace hx110_1 := (HB.out.cell (yny w _ hx110_1)).trans hx110_1
      replace p110 := eq_true p110
      replace q110 := eq_true q110
      go_wp2_with (first | ((with_reducible refine zq (N := 7) rfl ?_); refine zr ?hg (N := 7) ?hd (cs := #[.int .i64 0, .int .i64 0]) (t := 59) ?hr ?_; (case hd => rfl); (case hg => rfl); (case hr => first | (go_simp; done) | (go_simp; rfl)); intro gb111 hg w16 hbox hb; have n0_ := zA.mk (Kd.qq (by (with_reducible repeat (first | apply Kd.zd | apply Kd.zg | apply Kd.zj)); exact HO_3.out) hb); have n1_ := zA.mk (zJ (g := gb101) (o := .cells #[.slice (some ad109) l0_0.length c0_0] 30 (0, 0)) (by (with_reducible repeat (first | refine zH ?_ _ | refine zI ?_ | refine zF ?_ _)); exact BK101.out) hb); have n2_ := zA.mk (zN (by repeat (first | (with_reducible first | exact HB.out | apply zC | apply zB | apply zD | refine zE ?_ GE101.out) | exact HB.out)) hb); have n3_ := zA.mk (hbox); have n4_ := zA.mk ((by rw [hg]; exact (zO (by repeat (first | (with_reducible first | exact HB.out | apply zC | apply zB | apply zD | refine zE ?_ GE101.out) | exact HB.out))) : w.heap.size ≤ gb111)); have n5_ := zA.mk ((by rw [hg]; exact (zO (by repeat (first | (with_reducible first | exact HB.out | apply zC | apply zB | apply zD | refine zE ?_ GE101.out) | exact HB.out))) : w.heap.size ≤ gb111)); have n6_ := zA.mk ((by rw [hg]; exact Nat.ne_of_lt (zt (g := gb101) (o := .cells #[.slice (some ad109) l0_0.length c0_0] 30 (0, 0)) (by (with_reducible repeat (first | refine zH ?_ _ | refine zI ?_ | refine zF ?_ _)); exact BK101.out)) : gb101 ≠ gb111)); have n7_ := zA.mk ((by rw [hg]; exact Nat.ne_of_gt (zt (g := gb101) (o := .cells #[.slice (some ad109) l0_0.length c0_0] 30 (0, 0)) (by (with_reducible repeat (first | refine zH ?_ _ | refine zI ?_ | refine zF ?_ _)); exact BK101.out)) : gb111 ≠ gb101)); clear HO_3; clear BK101; clear HB; have HO_3 := n0_; have BK101 := n1_; have HB := n2_; have BK111 := n3_; have GW111 := n4_; have GE111 := n5_; have NB101_111 := n6_; have NB111_101 := n7_; clear n0_ n1_ n2_ n3_ n4_ n5_ n6_ n7_; clear hb hbox hg; have hnb17 := NB111_101.out; have hnc17 := NB101_111.out; have hcz18_0 : w16.cell? ⟨gb111, 0, none⟩ = some (.int .i64 0) := (zL BK111.out 0).trans rfl; have hcz18_1 : w16.cell? ⟨gb111, 1, none⟩ = some (.int .i64 0) := (zL BK111.out 1).trans rfl; have hfz18_0 := zQ BK111.out 0; have hfz18_1 := zQ BK111.out 1) | ((with_reducible refine zf (f := 114) rfl ?_); refine qT (some 27) rfl rfl Try.func114 (by kernel_rfl) rfl #[.agg #[.int .i64 ((zK (zG l0_0 x15_1) x22_2).f0), .int .i64 ((zK (zG l0_0 x15_1) x22_2).f1)]] rfl (by (try simp only [yiy, yjy, yky]); first | done | rfl | (simp only [yly, ymy]; rfl)) ?_; (with_reducible refine (qQ.calls ((zK (zG l0_0 x15_1) x22_2).f0) ((zK (zG l0_0 x15_1) x22_2).f1) true _ A14.out).mono ?_); rintro e w19 ⟨rfl, hb⟩; refine ⟨_, rfl, ?_⟩; have n0_ := zA.mk (Kd.qq (by (with_reducible repeat (first | apply Kd.zd | apply Kd.zg | apply Kd.zj)); exact (Kd.qY (Kd.Qq (p := ⟨gb111, 1, none⟩) (Kd.Qq (p := ⟨gb111, 0, none⟩) (Kd.zAt HO_3.out BK111.out (by decide)) (fun _ hk => hk.2) (.int .i64 ((zK (zG l0_0 x15_1) x22_2).f0))) (fun _ hk => hk.2) (.int .i64 ((zK (zG l0_0 x15_1) x22_2).f1))) (fun _ h_ => h_.1))) hb); have n1_ := zA.mk (zJ (g := gb101) (o := .cells #[.slice (some ad109) l0_0.length c0_0] 30 (0, 0)) (by (with_reducible repeat (first | refine zH ?_ _ | refine zI ?_ | refine zF ?_ _)); refine qK ?_ NB101_111.out _; (with_reducible repeat (first | refine zH ?_ _ | refine zI ?_ | refine zF ?_ _)); refine qK ?_ NB101_111.out _; (with_reducible repeat (first | refine zH ?_ _ | refine zI ?_ | refine zF ?_ _)); exact BK101.out) hb); have n2_ := zA.mk (zJ (g := gb111) (o := .cells #[.int .i64 ((zK (zG l0_0 x15_1) x22_2).f0), .int .i64 ((zK (zG l0_0 x15_1) x22_2).f1)] 59 (0, 0)) (by (with_reducible repeat (first | refine zH ?_ _ | refine zI ?_ | refine zF ?_ _)); refine qc (cs := #[.int .i64 ((zK (zG l0_0 x15_1) x22_2).f0), .int .i64 0]) ?_ 1 _ rfl; (with_reducible repeat (first | refine zH ?_ _ | refine zI ?_ | refine zF ?_ _)); refine qc (cs := #[.int .i64 0, .int .i64 0]) ?_ 0 _ rfl; (with_reducible repeat (first | refine zH ?_ _ | refine zI ?_ | refine zF ?_ _)); exact BK111.out) hb); have n3_ := zA.mk (zN (by repeat (first | (with_reducible first | exact HB.out | apply zC | apply zB | apply zD | refine zE ?_ GE101.out | refine zE ?_ GE111.out) | exact HB.out)) hb); clear HO_3; clear BK101; clear BK111; clear HB; have HO_3 := n0_; have BK101 := n1_; have BK111 := n2_; have HB := n3_; clear n0_ n1_ n2_ n3_; (try clear hb); (try clear hb2); (try clear hk); (try clear hi)))
      go_roundg k2
      case measure => have := HK1.out; have := HK2.out; omega
      case rel => exact ⟨(x3_2), (wrap64 (x22_2 + 1)), (by first | rfl | (simp; done) | (simp [*]; done)), H', ⟨by have := HK1.out; have := HK2.out; omega⟩, ⟨by (with_reducible repeat (first | apply Kd.zd | apply Kd.zg | apply Kd.zj)); exact HO_3.out⟩, ⟨by (with_reducible repeat (first | refine zH ?_ _ | refine zI ?_ | refine zF ?_ _)); exact BK101.out⟩, ⟨by repeat (first | (with_reducible first | exact HB.out | apply zC | apply zB | apply zD | refine zE ?_ GE101.out | refine zE ?_ GE111.out) | exact HB.out)⟩⟩
     next =>
      replace c15 := Bool.eq_false_iff.mpr c15
      subst c15
      have H1 : ((Ze.f x3_2 x15_1 ((zK (zG l0_0 x15_1) x22_2).f0)).bind fun t113 => (zR.l1 k2 t113 x15_1 l0_0 (l0_0.length : Int) x15_1 (zG l0_0 x15_1) ((zG l0_0 x15_1).length : Int) (wrap64 (x22_2 + 1)))) = some r := by rw [if_neg (show ¬ (false = true) by decide)] at H; exact H
      clear H
      have H := H1
      clear H1
      replace H := ydy.mp H
      obtain ⟨t113, A200, H⟩ := H
      replace H : (zR.l1 k2 t113 x15_1 l0_0 (l0_0.length : Int) x15_1 (zG l0_0 x15_1) ((zG l0_0 x15_1).length : Int) (wrap64 (x22_2 + 1))) = some r := H
      have A20 := zA.mk A200
      clear A200
      have H' := zA.mk H
      clear H
      have p110 : 0 ≤ (x22_2 : Int) := of_decide_eq_true (by first | (with_reducible assumption) | assumption)
      have q110 : x22_2 < ((zG l0_0 x15_1).length : Int) := of_decide_eq_true (by first | (with_reducible assumption) | assumption)
      obtain ⟨ad110, e110, hx110_0, hx110_1⟩ := ZZ HR109_0.out x22_2 p110 q110
      cases e110
      replace hx110_0 := (HB.out.cell (yny w _ hx110_0)).trans hx110_0
      replace hx110_1 := (HB.out.cell (yny w _ hx110_1)).trans hx110_1
      replace p110 := eq_true p110
      replace q110 := eq_true q110
      go_wp2_with (first | ((with_reducible refine zq (N := 7) rfl ?_); refine zr ?hg (N := 7) ?hd (cs := #[.int .i64 0, .int .i64 0]) (t := 59) ?hr ?_; (case hd => rfl); (case hg => rfl); (case hr => first | (go_simp; done) | (go_simp; rfl)); intro gb111 hg w21 hbox hb; have n0_ := zA.mk (Kd.qq (by (with_reducible repeat (first | apply Kd.zd | apply Kd.zg | apply Kd.zj)); exact HO_3.out) hb); have n1_ := zA.mk (zJ (g := gb101) (o := .cells #[.slice (some ad109) l0_0.length c0_0] 30 (0, 0)) (by (with_reducible repeat (first | refine zH ?_ _ | refine zI ?_ | refine zF ?_ _)); exact BK101.out) hb); have n2_ := zA.mk (zN (by repeat (first | (with_reducible first | exact HB.out | apply zC | apply zB | apply zD | refine zE ?_ GE101.out) | exact HB.out)) hb); have n3_ := zA.mk (hbox); have n4_ := zA.mk ((by rw [hg]; exact (zO (by repeat (first | (with_reducible first | exact HB.out | apply zC | apply zB | apply zD | refine zE ?_ GE101.out) | exact HB.out))) : w.heap.size ≤ gb111)); have n5_ := zA.mk ((by rw [hg]; exact (zO (by repeat (first | (with_reducible first | exact HB.out | apply zC | apply zB | apply zD | refine zE ?_ GE101.out) | exact HB.out))) : w.heap.size ≤ gb111)); have n6_ := zA.mk ((by rw [hg]; exact Nat.ne_of_lt (zt (g := gb101) (o := .cells #[.slice (some ad109) l0_0.length c0_0] 30 (0, 0)) (by (with_reducible repeat (first | refine zH ?_ _ | refine zI ?_ | refine zF ?_ _)); exact BK101.out)) : gb101 ≠ gb111)); have n7_ := zA.mk ((by rw [hg]; exact Nat.ne_of_gt (zt (g := gb101) (o := .cells #[.slice (some ad109) l0_0.length c0_0] 30 (0, 0)) (by (with_reducible repeat (first | refine zH ?_ _ | refine zI ?_ | refine zF ?_ _)); exact BK101.out)) : gb111 ≠ gb101)); clear HO_3; clear BK101; clear HB; have HO_3 := n0_; have BK101 := n1_; have HB := n2_; have BK111 := n3_; have GW111 := n4_; have GE111 := n5_; have NB101_111 := n6_; have NB111_101 := n7_; clear n0_ n1_ n2_ n3_ n4_ n5_ n6_ n7_; clear hb hbox hg; have hnb22 := NB111_101.out; have hnc22 := NB101_111.out; have hcz23_0 : w21.cell? ⟨gb111, 0, none⟩ = some (.int .i64 0) := (zL BK111.out 0).trans rfl; have hcz23_1 : w21.cell? ⟨gb111, 1, none⟩ = some (.int .i64 0) := (zL BK111.out 1).trans rfl; have hfz23_0 := zQ BK111.out 0; have hfz23_1 := zQ BK111.out 1) | ((with_reducible refine zf (f := 114) rfl ?_); refine qT (some 27) rfl rfl Try.func114 (by kernel_rfl) rfl #[.agg #[.int .i64 ((zK (zG l0_0 x15_1) x22_2).f0), .int .i64 ((zK (zG l0_0 x15_1) x22_2).f1)]] rfl (by (try simp only [yiy, yjy, yky]); first | done | rfl | (simp only [yly, ymy]; rfl)) ?_; (with_reducible refine (qQ.calls ((zK (zG l0_0 x15_1) x22_2).f0) ((zK (zG l0_0 x15_1) x22_2).f1) false _ A14.out).mono ?_); rintro e w24 ⟨rfl, hb⟩; refine ⟨_, rfl, ?_⟩; have n0_ := zA.mk (Kd.qq (by (with_reducible repeat (first | apply Kd.zd | apply Kd.zg | apply Kd.zj)); exact (Kd.qY (Kd.Qq (p := ⟨gb111, 1, none⟩) (Kd.Qq (p := ⟨gb111, 0, none⟩) (Kd.zAt HO_3.out BK111.out (by decide)) (fun _ hk => hk.2) (.int .i64 ((zK (zG l0_0 x15_1) x22_2).f0))) (fun _ hk => hk.2) (.int .i64 ((zK (zG l0_0 x15_1) x22_2).f1))) (fun _ h_ => h_.1))) hb); have n1_ := zA.mk (zJ (g := gb101) (o := .cells #[.slice (some ad109) l0_0.length c0_0] 30 (0, 0)) (by (with_reducible repeat (first | refine zH ?_ _ | refine zI ?_ | refine zF ?_ _)); refine qK ?_ NB101_111.out _; (with_reducible repeat (first | refine zH ?_ _ | refine zI ?_ | refine zF ?_ _)); refine qK ?_ NB101_111.out _; (with_reducible repeat (first | refine zH ?_ _ | refine zI ?_ | refine zF ?_ _)); exact BK101.out) hb); have n2_ := zA.mk (zJ (g := gb111) (o := .cells #[.int .i64 ((zK (zG l0_0 x15_1) x22_2).f0), .int .i64 ((zK (zG l0_0 x15_1) x22_2).f1)] 59 (0, 0)) (by (with_reducible repeat (first | refine zH ?_ _ | refine zI ?_ | refine zF ?_ _)); refine qc (cs := #[.int .i64 ((zK (zG l0_0 x15_1) x22_2).f0), .int .i64 0]) ?_ 1 _ rfl; (with_reducible repeat (first | refine zH ?_ _ | refine zI ?_ | refine zF ?_ _)); refine qc (cs := #[.int .i64 0, .int .i64 0]) ?_ 0 _ rfl; (with_reducible repeat (first | refine zH ?_ _ | refine zI ?_ | refine zF ?_ _)); exact BK111.out) hb); have n3_ := zA.mk (zN (by repeat (first | (with_reducible first | exact HB.out | apply zC | apply zB | apply zD | refine zE ?_ GE101.out | refine zE ?_ GE111.out) | exact HB.out)) hb); clear HO_3; clear BK101; clear BK111; clear HB; have HO_3 := n0_; have BK101 := n1_; have BK111 := n2_; have HB := n3_; clear n0_ n1_ n2_ n3_; (try clear hb); (try clear hb2); (try clear hk); (try clear hi); have hcz25_0 : w24.cell? ⟨gb111, 0, none⟩ = some (.int .i64 ((zK (zG l0_0 x15_1) x22_2).f0)) := (zL BK111.out 0).trans rfl; have hcz25_1 : w24.cell? ⟨gb111, 1, none⟩ = some (.int .i64 ((zK (zG l0_0 x15_1) x22_2).f1)) := (zL BK111.out 1).trans rfl; have hfz25_0 := zQ BK111.out 0; have hfz25_1 := zQ BK111.out 1; obtain ⟨Ao26, co26, eo26⟩ := Kd.ZN HO_3.out; subst eo26) | ((with_reducible refine zf (f := 115) rfl ?_); refine qT (some 33) rfl rfl Try.func115 (by kernel_rfl) rfl #[.slice Ao26 x3_2.length co26, .int .i64 x15_1, .int .i64 ((zK (zG l0_0 x15_1) x22_2).f0)] rfl (by (try simp only [yiy, yjy, yky]); first | done | rfl | (simp only [yly, ymy]; rfl)) ?_; (with_reducible refine (Ze.calls (fun k_ => some k_ = (.slice Ao26 x3_2.length co26 : Value).ownBlock) (.slice Ao26 x3_2.length co26) x3_2 x15_1 ((zK (zG l0_0 x15_1) x22_2).f0) t113 w _ ?side1 ?side2 A20.out).mono ?_); (case side1 => repeat (first | (with_reducible first | exact HB.out | apply zC | apply zB | apply zD | refine zE ?_ GE101.out | refine zE ?_ GE111.out) | exact HB.out)); (case side2 => exact Kd.JE rfl HO_3.out); rintro e w27 ⟨rfl, hy0, hb, hkp⟩; refine ⟨_, rfl, ?_⟩; have n0_ := zA.mk (Kd.R_reok rfl hy0 (fun k_ e_ => HO_3.out.1 k_ e_)); have n1_ := zA.mk (zBw (by (with_reducible repeat (first | refine zH ?_ _ | refine zI ?_ | refine zF ?_ _)); exact BK101.out) hkp (fun hs_ => (fun e_ => (Kd.zBp HO_3.out BK101.out (by decide)) e_) hs_)); have n2_ := zA.mk (zBw (by (with_reducible repeat (first | refine zH ?_ _ | refine zI ?_ | refine zF ?_ _)); exact BK111.out) hkp (fun hs_ => (fun e_ => (Kd.zBp HO_3.out BK111.out (by decide)) e_) hs_)); have n3_ := zA.mk (hb); clear HO_3; clear BK101; clear BK111; clear HB; have HO_3 := n0_; have BK101 := n1_; have BK111 := n2_; have HB := n3_; clear n0_ n1_ n2_ n3_; (try clear hb); (try clear hkp); (try clear hy0)))
      go_roundg k2
      case measure => have := HK1.out; have := HK2.out; omega
      case rel => exact ⟨(t113), (wrap64 (x22_2 + 1)), (by first | rfl | (simp; done) | (simp [*]; done)), H', ⟨by have := HK1.out; have := HK2.out; omega⟩, ⟨by (with_reducible repeat (first | apply Kd.zd | apply Kd.zg | apply Kd.zj)); exact HO_3.out⟩, ⟨by (with_reducible repeat (first | refine zH ?_ _ | refine zI ?_ | refine zF ?_ _)); exact BK101.out⟩, ⟨by repeat (first | (with_reducible first | exact HB.out | apply zC | apply zB | apply zD | refine zE ?_ GE101.out | refine zE ?_ GE111.out) | exact HB.out)⟩⟩
def ZX.f (l0 : List Int) : Option Int := match l0 with
  | [] => none
  | x :: xs => some (xs.foldl mx x)
set_option maxHeartbeats 8000000 in
set_option maxRecDepth 100000 in
theorem ZX.calls (A0 : Option Addr) (c0 : Nat) (l0 : List Int) (r : Int) (w : World) (hr0 : Kd.C (Kd.int .i64) w A0 l0.length l0) (hc0 : l0.length ≤ c0) (h : ZX.f l0 = some r) :
    Calls Try.prog 113 #[.slice A0 l0.length c0] w fun e w' => e = .returned (.int .i64 r) ∧ qA w w' := by
  obtain ⟨x0, xs, rfl⟩ : ∃ x xs, l0 = x :: xs := by
    cases l0 with
    | nil => cases h
    | cons x xs => exact ⟨x, xs, rfl⟩
  have hr : xs.foldl mx x0 = r := yey h
  have hbig : (x0 :: xs).length ≤ 9223372036854775807 := hr0.2.1
  have HR := zA.mk hr0
  have HA : zA (((x0 :: xs).drop 1).foldl mx x0 = r) := ⟨hr⟩
  obtain ⟨ad, e1, hx⟩ := Kd.ZC hr0 0 (by omega) (by simp)
  have hlen : 1 ≤ (x0 :: xs).length := by simp
  have ex : rd (x0 :: xs) 0 = x0 := by simp [rd]
  rw [ex] at hx
  replace hx : w.cell? ad = some (.int .i64 x0) := by have h2 := hx; rwa [show ad.add (Int.toNat 0) = ad from by cases ad; rfl] at h2
  clear hr h hr0 hc0 ex
  generalize x0 :: xs = l at *
  cases e1
  go_enter Try.func113, Try.ntmps113
  have b1 : decide ((l.length : Int) < 1) = false := yhy (by omega)
  go_wp2
  go_loopg [3, 4] l.length (fun gg v3 v4 w' => ∃ (i : Nat) (m : Int), 1 ≤ i ∧ i ≤ l.length ∧ l.length - i ≤ gg ∧ v3 = .int .i64 m ∧ v4 = .int .i64 i ∧ w' = w ∧ zA ((l.drop i).foldl mx m = r))
  case atStart => exact ⟨1, x0, yoy _, hlen, by omega, rfl, rfl, rfl, HA⟩
  case round =>
    clear HA
    obtain ⟨i, m, h1, hi, hg, rfl, rfl, rfl, HA⟩ := hrel
    by_cases hlt : i < l.length
    · have hltz : (i : Int) < (l.length : Int) := by omega
      obtain ⟨ad2, e2, hy⟩ := Kd.ZC HR.out (i : Int) (by omega) hltz
      have ex : rd l (i : Int) = l[i] := by simp [rd, hlt]
      rw [ex, Int.toNat_natCast] at hy
      have HA2 := HA.out
      rw [List.drop_eq_getElem_cons hlt, List.foldl_cons] at HA2
      have HA3 := zA.mk HA2
      clear HA HA2 ex
      generalize l[i] = y at hy HA3
      cases e2
      by_cases hmy : m < y
      · have HA4 : zA ((l.drop (i + 1)).foldl mx y = r) := ⟨by have q := HA3.out; rwa [show mx m y = y from by unfold mx; exact if_pos hmy] at q⟩
        clear HA3
        go_wp2
        go_roundg (l.length - (i + 1))
        case measure => omega
        case rel => exact ⟨i + 1, y, by omega, by omega, by omega, rfl, by go_num, rfl, HA4⟩
      · have HA4 : zA ((l.drop (i + 1)).foldl mx m = r) := ⟨by have q := HA3.out; rwa [show mx m y = m from by unfold mx; exact if_neg hmy] at q⟩
        clear HA3
        have hmy2 : y ≤ m := by omega
        clear hmy
        go_wp2
        go_roundg (l.length - (i + 1))
        case measure => omega
        case rel => exact ⟨i + 1, m, by omega, by omega, by omega, rfl, by go_num, rfl, HA4⟩
    · obtain rfl : i = l.length := by omega
      have HA2 := HA.out
      rw [List.drop_length, List.foldl_nil] at HA2
      have HM := zA.mk HA2
      clear HA HA2
      go_wp2
      go_ret
      exact ⟨by rw [← HM.out]; rfl, 0, rfl⟩
def ZO.f (l0 : List Int) : Option (Int) := if (l0.length : Int) = 0 then (some 0) else ((ZX.f l0).bind fun t101 => (some (wrap64 (t101 + 1))))
set_option maxHeartbeats 8000000 in
set_option maxRecDepth 100000 in
theorem ZO.calls (A0 : Option Addr) (c0 : Nat) (l0 : List Int) (r : Int) (w : World) (hr0 : Kd.C (Kd.int .i64) w A0 l0.length l0) (hc0 : l0.length ≤ c0) (h : ZO.f l0 = some r) :
    Calls Try.prog 65 #[.slice A0 l0.length c0] w fun e w' => e = .returned (.int .i64 r) ∧ qA w w' := by
  have HR0 := zA.mk hr0
  have HC0 := zA.mk hc0
  clear hr0 hc0
  have H : (if (l0.length : Int) = 0 then (some 0) else ((ZX.f l0).bind fun t101 => (some (wrap64 (t101 + 1))))) = some r := h
  clear h
  by_cases c2 : (l0.length : Int) = 0
  · rw [if_pos c2] at H
    have c2b0 : ((l0.length : Int) == 0) = true := beq_iff_eq.mpr c2
    have c2b1 : ((l0.length : Int) != 0) = false := bne_eq_false_iff_eq.mpr c2
    clear c2
    obtain rfl := yey H
    go_enter Try.func65, Try.ntmps65
    go_wp2
    go_ret
    exact ⟨by first | rfl | (simp; done) | (simp [*]; done), by repeat (first | exact qA.refl _ | apply qA.step)⟩
  · rw [if_neg c2] at H
    have c2b0 : ((l0.length : Int) == 0) = false := beq_eq_false_iff_ne.mpr c2
    have c2b1 : ((l0.length : Int) != 0) = true := bne_iff_ne.mpr c2
    have c2b2 : ¬ (l0 = []) := fun h_ => c2 (by rw [h_]; rfl)
    replace H := ydy.mp H
    obtain ⟨t101, A30, H⟩ := H
    replace H : (some (wrap64 (t101 + 1))) = some r := H
    have A3 := zA.mk A30
    clear A30
    obtain rfl := yey H
    go_enter Try.func65, Try.ntmps65
    go_wp2_with (first | ((with_reducible refine zf (f := 113) rfl ?_); refine qT (some 7) rfl rfl Try.func113 (by kernel_rfl) rfl #[.slice A0 l0.length c0] rfl (by (try simp only [yiy, yjy, yky]); first | done | rfl | (simp only [yly, ymy]; rfl)) ?_; (with_reducible refine (ZX.calls _ _ l0 t101 _ ?side1 ?side2 A3.out).mono ?_); (case side1 => repeat (first | exact HR0.out | (with_reducible refine Kd.zn ?_ _) | (with_reducible refine Kd.zo ?_ _) | (with_reducible refine Kd.qD ?_))); (case side2 => exact HC0.out); rintro e w' ⟨rfl, ⟨nd, rfl⟩⟩; refine ⟨_, rfl, ?_⟩))
    go_ret
    exact ⟨by first | rfl | (simp; done) | (simp [*]; done), by repeat (first | exact qA.refl _ | apply qA.step)⟩
theorem eqA59 (d : Nat) (w : World) (x0 y0 : Int) (x1 y1 : Int) :
    (Op.equalIn (d + 2) 59 (.agg #[.int .i64 x0, .int .i64 x1]) (.agg #[.int .i64 y0, .int .i64 y1])).run Try.prog w = .ok (x0 == y0 && (x1 == y1)) w := by
  refine eqA_of Try.underlying59 (by kernel_rfl) ?_
  refine zDa (by rfl) (by go_simp; rfl) (by go_simp; rfl) (by go_simp) ?_
  exact zDZ (by rfl) (by go_simp; rfl) (by go_simp; rfl) (by go_simp)
def zBe : Go.Shelf.Ren := ⟨fun | 45 => 85 | n => n, fun | 22 => 44 | 23 => 2 | 3 => 3 | 4 => 4 | 0 => 0 | n => n, fun | n => n⟩
theorem zEF : Go.Proofs.SlLaysN.n45 Try.prog zBe := {
  mixed := by kernel_rfl
  f45 := ⟨Try.f85.name, by decide, Try.func85.trans (congrArg some (by kernel_rfl))⟩
  t0 := Try.underlying0
  a0 := Try.isAgg0
  z0 := Try.sizeOf0
  v0 := Try.zeroValue0
  t3 := Try.underlying3
  a3 := Try.isAgg3
  z3 := Try.sizeOf3
  v3 := Try.zeroValue3
  t4 := Try.underlying4
  a4 := Try.isAgg4
  z4 := Try.sizeOf4
  v4 := Try.zeroValue4
  t22 := Try.underlying44
  a22 := Try.isAgg44
  z22 := Try.sizeOf44
  v22 := Try.zeroValue44
  t23 := Try.underlying2
  a23 := Try.isAgg2
  z23 := Try.sizeOf2
  v23 := Try.zeroValue2
  i23 := by kernel_rfl }
theorem erase_eq (xs : List Int) (i : Nat) : xs.take i ++ xs.drop (i + 1) = xs.eraseIdx i := (List.eraseIdx_eq_take_drop_succ xs i).symm
theorem Zi.zC1 (g cap i : Nat) (xs : List Int) (base : Nat) (ok : Nat → Prop) (w : World) (ho : Kd.R (Kd.int .i64) 2 w base ok (.slice (some ⟨g, 0, none⟩) xs.length cap) xs) (hi : i < xs.length) :
    Calls Try.prog 85 #[.slice (some ⟨g, 0, none⟩) xs.length cap, .int .i64 i, .int .i64 (i + 1)] w fun e w' => e = .returned (.slice (some ⟨g, 0, none⟩) (xs.length - 1) cap) ∧
      Kd.R (Kd.int .i64) 2 w' base ok (.slice (some ⟨g, 0, none⟩) (xs.length - 1) cap) (xs.eraseIdx i) ∧ w.grownBy w' (some g) := by
  have hown := Kd.zA4 ho
  rcases hown.2 with ⟨hv, _⟩ | ⟨g', cap', cur, hv, hbase, hh, hle, hmax, hcs, htake⟩
  · cases hv
  injection hv with hv1 _ hv3
  injection hv1 with hv1
  injection hv1 with hv1 _ _
  subst hv1 hv3
  rw [Nat.mul_one] at hcs htake
  have hcell : ∀ j, j < xs.length → w.cell? ⟨g, 0 + j, none⟩ = some (.int .i64 xs[j]!) := by
    intro j hj
    rw [Nat.zero_add]
    have h1 : cur.toList[j]? = some (.int .i64 xs[j]!) := by
      have h2 : (cur.toList.take xs.length)[j]? = some (.int .i64 xs[j]!) := by
        rw [htake, Qt, List.getElem?_map, List.getElem?_eq_getElem hj]
        simp [getElem!_pos, hj]
      rw [List.getElem?_take, if_pos hj] at h2
      exact h2
    rw [zL hh j, ← Array.getElem?_toList, h1]
  have hH : Go.Sort.Holds (Value.int .i64) w g 0 xs.toArray := by
    intro j hj
    have hj' : j < xs.length := by simpa using hj
    refine ⟨?_, by rw [Nat.zero_add]; exact zQ hh j⟩
    rw [hcell j hj']
    simp [getElem!_pos, hj']
  have hc := AnyG.slices_Delete_int zEF g 0 cap i (i + 1) xs w hH hle (by unfold maxLen at hmax; omega) (by omega) (by omega)
  have hc2 : Calls Try.prog 85 #[.slice (some ⟨g, 0, none⟩) xs.length cap, .int .i64 (i : Nat), .int .i64 ((i + 1 : Nat) : Int)] w fun e w' => e = .returned (.slice (some ⟨g, 0, none⟩) (xs.length - (i + 1 - i)) cap) ∧ ∃ q, w' = Go.Sort.putRow (Value.int .i64) (Go.Sort.ahead w q) g 0 (xs.take i ++ xs.drop (i + 1) ++ List.replicate (i + 1 - i) 0).toArray := hc
  refine hc2.mono ?_
  rintro e w' ⟨rfl, q, rfl⟩
  have hlen : (xs.eraseIdx i).length = xs.length - 1 := by rw [List.length_eraseIdx]; simp [hi]
  have hd : xs.take i ++ xs.drop (i + 1) ++ List.replicate (i + 1 - i) 0 = xs.eraseIdx i ++ [0] := by
    rw [erase_eq, show i + 1 - i = 1 by omega]; rfl
  rw [hd, show i + 1 - i = 1 by omega]
  have hheap : (Go.Sort.putRow (Value.int .i64) (Go.Sort.ahead w q) g 0 (xs.eraseIdx i ++ [0]).toArray).heap[g]? = some (.cells (Go.Sort.putCells (Value.int .i64) 0 (xs.eraseIdx i ++ [0]).toArray cur) 2 (0, 0)) := by
    show (w.heap.modify g _)[g]? = _
    rw [Array.getElem?_modify, if_pos rfl, hh]
    rfl
  have hfar : ∀ k, k ≠ g → (Go.Sort.putRow (Value.int .i64) (Go.Sort.ahead w q) g 0 (xs.eraseIdx i ++ [0]).toArray).heap[k]? = w.heap[k]? := by
    intro k hk
    show (w.heap.modify g _)[k]? = _
    rw [Array.getElem?_modify, if_neg (Ne.symm hk)]
  refine ⟨rfl, ?_, ⟨rfl, rfl, rfl, ?_, fun k _ hk => hfar k (fun e => hk (by rw [e]))⟩⟩
  · have e1 : xs.length - 1 = (xs.eraseIdx i).length := hlen.symm
    rw [e1]
    refine Kd.JB ⟨by simp [Qt], .inr ⟨g, cap, _, rfl, hbase, hheap, by omega, hmax, by simp [Go.Sort.putCells, hcs], ?_⟩⟩ (fun k hk => ho.1 k hk)
    rw [Nat.mul_one]
    apply List.ext_getElem?
    intro j
    rw [List.getElem?_take]
    by_cases hj : j < (xs.eraseIdx i).length
    · rw [if_pos hj, Array.getElem?_toList, Go.Sort.putCells, Array.getElem?_mapIdx, Array.getElem?_eq_getElem (by omega), Option.map_some, if_pos ⟨by omega, by simp; omega⟩, Nat.sub_zero, Qt, List.getElem?_map, List.getElem?_eq_getElem hj, Option.map_some]
      congr 2
      rw [List.getElem!_toArray, getElem!_pos _ j (by simp; omega), List.getElem_append_left hj]
    · rw [if_neg hj, List.getElem?_eq_none (by simp [Qt]; omega)]
  · show w.heap.size ≤ (w.heap.modify g _).size
    rw [Array.size_modify]
    omega
def zCy : Nat → Int
 | 0 => 6
 | 1 => 2
 | _ => 1
def ZF (p : Int) : Nat → Int
 | 0 => p
 | i + 1 => ZF p i % zCy i
def Zj (p : Int) (i : Nat) : Int := ZF p i / zCy i
def zu (p : Int) : Nat → List Int
 | 0 => [0, 1, 2, 3]
 | i + 1 => (zu p i).eraseIdx (Zj p i).toNat
def qG (p : Int) (i : Nat) : Int := (zu p i).getD (Zj p i).toNat 0
def Zb (p : Int) : List Int := [qG p 0, qG p 1, qG p 2, qG p 3]
theorem zC2 (p : Int) (h0 : 0 ≤ p) (h1 : p ≤ 23) : (0 ≤ ZF p 0 ∧ ZF p 0 ≤ 23) ∧ (0 ≤ ZF p 1 ∧ ZF p 1 ≤ 5) ∧ (0 ≤ ZF p 2 ∧ ZF p 2 ≤ 1) ∧ (0 ≤ ZF p 3 ∧ ZF p 3 ≤ 0) := by
 simp only [ZF, zCy]; omega
theorem zC3 (p : Int) (h0 : 0 ≤ p) (h1 : p ≤ 23) : (0 ≤ Zj p 0 ∧ Zj p 0 < 4) ∧ (0 ≤ Zj p 1 ∧ Zj p 1 < 3) ∧ (0 ≤ Zj p 2 ∧ Zj p 2 < 2) ∧ (0 ≤ Zj p 3 ∧ Zj p 3 < 1) := by
 have := zC2 p h0 h1
 simp only [Zj, zCy]; omega
theorem zBL (p : Int) (h0 : 0 ≤ p) (h1 : p ≤ 23) : (zu p 0).length = 4 ∧ (zu p 1).length = 3 ∧ (zu p 2).length = 2 ∧ (zu p 3).length = 1 ∧ (zu p 4).length = 0 := by
 obtain ⟨a, b, c, d⟩ := zC3 p h0 h1
 have e0 : (zu p 0).length = 4 := rfl
 have e1 : (zu p 1).length = 3 := by rw [zu, List.length_eraseIdx, e0, if_pos (by omega)]
 have e2 : (zu p 2).length = 2 := by rw [zu, List.length_eraseIdx, e1, if_pos (by omega)]
 have e3 : (zu p 3).length = 1 := by rw [zu, List.length_eraseIdx, e2, if_pos (by omega)]
 have e4 : (zu p 4).length = 0 := by rw [zu, List.length_eraseIdx, e3, if_pos (by omega)]
 exact ⟨e0, e1, e2, e3, e4⟩
theorem zC4 {W : World} {n : Nat} (h : W.heap.size = n) (o : Obj) : (W.alloc o).heap[n]? = some o := h ▸ zBZ W o
def Zo (p : Int) (i j : Nat) : Int := if j < i then qG p j else 0
set_option maxHeartbeats 8000000 in
set_option maxRecDepth 100000 in
theorem JS.calls (p : Int) (w : World) (h0 : 0 ≤ p) (h1 : p ≤ 23) :
 Calls Try.prog 79 #[.int .i64 p] w fun e w' => e = .returned (.agg #[.int .i64 (qG p 0), .int .i64 (qG p 1), .int .i64 (qG p 2), .int .i64 (qG p 3)]) ∧ Below w.heap.size w w' := by
 have HP := zA.mk (zC2 p h0 h1)
 have HK := zA.mk (zC3 p h0 h1)
 have HL := zA.mk (zBL p h0 h1)
 clear h0 h1
 go_enter Try.func79, Try.ntmps79
 go_wp2_with fail
 go_loopg [0, 4, 11] 4 (fun gg v0 v4 v11 w' => ∃ i : Nat, i ≤ 4 ∧ 4 - i ≤ gg ∧ v11 = .int .i64 i ∧ v0 = .int .i64 (ZF p i) ∧ v4 = .slice (some ⟨w.heap.size + 1 + 1, 0, none⟩) (zu p i).length 4 ∧
  zA (Kd.R (Kd.int .i64) 2 w' w.heap.size (fun k => k = w.heap.size + 1 + 1) (.slice (some ⟨w.heap.size + 1 + 1, 0, none⟩) (zu p i).length 4) (zu p i)) ∧
  zA (w'.heap[w.heap.size + 1]? = some (.cells #[.int .i64 (Zo p i 0), .int .i64 (Zo p i 1), .int .i64 (Zo p i 2), .int .i64 (Zo p i 3)] 94 (0, 0))) ∧
  zA (w'.heap[w.heap.size]? = some (.cells #[.int .i64 0, .int .i64 0, .int .i64 0, .int .i64 0] 94 (0, 0))) ∧
  zA (w'.heap[w.heap.size + 1 + 1 + 1]? = some (.cells #[.int .i64 6, .int .i64 2, .int .i64 1, .int .i64 1] 2 (0, 0))) ∧ zA (Below w.heap.size w w'))
 case atStart =>
  refine ⟨0, by omega, by omega, rfl, rfl, rfl, ⟨?_⟩, ⟨?_⟩, ⟨?_⟩, ⟨?_⟩, ⟨?_⟩⟩
  next =>
   refine Kd.JB ⟨by simp [Qt], .inr ⟨w.heap.size + 1 + 1, 4, #[.int .i64 0, .int .i64 1, .int .i64 2, .int .i64 3], rfl, by omega, ?_, yoy 4, by decide, rfl, rfl⟩⟩ (fun k hk => by simpa [Value.ownBlock] using hk.symm)
   exact zF (zC4 (by simp) _) _
  next =>
   exact zF (zF (zC4 (by simp) _) _) _
  next =>
   exact zF (zF (zF (zC4 rfl _) _) _) _
  next =>
   exact zC4 (by simp) _
  next =>
   exact zC (zC (zC (zC (ypy _ _) _) _) _) _
 case round =>
  obtain ⟨i, hi, hg, rfl, rfl, rfl, HR, B3, B2, B9, HB⟩ := hrel
  rcases (show i = 4 ∨ i = 3 ∨ i = 2 ∨ i = 1 ∨ i = 0 by omega) with rfl | rfl | rfl | rfl | rfl
  next =>
   have c0 : wr.cell? ⟨w.heap.size + 1, 0, none⟩ = some (.int .i64 (Zo p 4 0)) := (zL B3.out 0).trans rfl
   have c1 : wr.cell? ⟨w.heap.size + 1, 1, none⟩ = some (.int .i64 (Zo p 4 1)) := (zL B3.out 1).trans rfl
   have c2 : wr.cell? ⟨w.heap.size + 1, 2, none⟩ = some (.int .i64 (Zo p 4 2)) := (zL B3.out 2).trans rfl
   have c3 : wr.cell? ⟨w.heap.size + 1, 3, none⟩ = some (.int .i64 (Zo p 4 3)) := (zL B3.out 3).trans rfl
   have d0 : wr.cell? ⟨w.heap.size, 0, none⟩ = some (.int .i64 0) := (zL B2.out 0).trans rfl
   have d1 : wr.cell? ⟨w.heap.size, 1, none⟩ = some (.int .i64 0) := (zL B2.out 1).trans rfl
   have d2 : wr.cell? ⟨w.heap.size, 2, none⟩ = some (.int .i64 0) := (zL B2.out 2).trans rfl
   have d3 : wr.cell? ⟨w.heap.size, 3, none⟩ = some (.int .i64 0) := (zL B2.out 3).trans rfl
   have f0 := zQ B2.out 0
   have f1 := zQ B2.out 1
   have f2 := zQ B2.out 2
   have f3 := zQ B2.out 3
   have ht := Try.underlying94
   go_wp2
   refine bodyPost_ret (results_cell_row rfl _ _ w.heap.size 94 #[.int .i64 (Zo p 4 0), .int .i64 (Zo p 4 1), .int .i64 (Zo p 4 2), .int .i64 (Zo p 4 3)] (0, 0) _ rfl (qc (cs := #[.int .i64 (Zo p 4 0), .int .i64 (Zo p 4 1), .int .i64 (Zo p 4 2), .int .i64 0]) (qc (cs := #[.int .i64 (Zo p 4 0), .int .i64 (Zo p 4 1), .int .i64 0, .int .i64 0]) (qc (cs := #[.int .i64 (Zo p 4 0), .int .i64 0, .int .i64 0, .int .i64 0]) (qc B2.out 0 _ rfl) 1 _ rfl) 2 _ rfl) 3 _ rfl) ht rfl (by kernel_rfl)) rfl ⟨rfl, ?_⟩
   exact zE (zE (zE (zE HB.out (yoy _)) (yoy _)) (yoy _)) (yoy _)
  next =>
   have hK : 0 ≤ Zj p 3 ∧ Zj p 3 < (zu p 3).length := by have := HK.out; have := HL.out; omega
   have hP : 0 ≤ ZF p 3 ∧ ZF p 3 ≤ 23 := by have := HP.out; omega
   have HLN := zA.mk (show (zu p 3).length = 1 by have := HL.out; omega)
   have HLN2 := zA.mk (show (zu p 4).length = (zu p 3).length - 1 by have := HL.out; omega)
   obtain ⟨A1, q1, hA1, hq1, hC⟩ := Kd.JZ HR.out
   injection hA1 with hA1 hl1 hc1
   subst hA1
   clear hl1 hc1 hq1
   obtain ⟨ad, had, hx⟩ := Kd.ZC hC (Zj p 3) hK.1 (by omega)
   injection had with had
   subst had
   rw [add_plain] at hx
   have HAT := zA.mk (show rd (zu p 3) (Zj p 3) = qG p 3 from rfl)
   rw [HAT.out] at hx
   have HER := zA.mk (show (zu p 3).eraseIdx (Zj p 3).toNat = zu p 4 from rfl)
   have hX : Zj p 3 = ZF p 3 := by have e : Zj p 3 = ZF p 3 / 1 := rfl; rw [e]; exact Int.ediv_one _
   have HY := zA.mk (show 0 = ZF p 4 by have e : ZF p 4 = ZF p 3 % 1 := rfl; rw [e]; omega)
   rw [hX] at hx hK
   have HX := zA.mk hX
   clear hX hC
   obtain ⟨hk0, hk1⟩ := hK
   obtain ⟨hp0, hp1⟩ := hP
   have b9 : wr.cell? ⟨w.heap.size + 1 + 1 + 1, 3, none⟩ = some (.int .i64 1) := (zL B9.out 3).trans rfl
   have b3 : wr.cell? ⟨w.heap.size + 1, 3, none⟩ = some (.int .i64 (Zo p 3 3)) := (zL B3.out 3).trans rfl
   have f3 := zQ B3.out 3
   have hk2 : ZF p 3 < 9223372036854775807 := by omega
   go_wp2_with fail
   have HRw := zA.mk (show Kd.R (Kd.int .i64) 2 (wr.setCell ⟨w.heap.size + 1, 3, none⟩ (.int .i64 (qG p 3))) w.heap.size (fun k => k = w.heap.size + 1 + 1) (.slice (some ⟨w.heap.size + 1 + 1, 0, none⟩) (zu p 3).length 4) (zu p 3) from Kd.Qq (p := ⟨w.heap.size + 1, 3, none⟩) HR.out (fun k hk => by rw [hk]; show w.heap.size + 1 + 1 ≠ w.heap.size + 1; omega) _)
   refine Qd (args' := #[.slice (some ⟨w.heap.size + 1 + 1, 0, none⟩) (zu p 3).length 4, .int .i64 ((ZF p 3).toNat : Int), .int .i64 (((ZF p 3).toNat : Int) + 1)]) (by rw [Int.toNat_of_nonneg hk0]) ?_
   refine (Zi.zC1 (w.heap.size + 1 + 1) 4 (ZF p 3).toNat (zu p 3) w.heap.size (fun k => k = w.heap.size + 1 + 1) _ HRw.out (by omega)).mono ?_
   rintro e w1 ⟨rfl, hR1, hg1⟩
   have hl2 := HLN2.out
   have er : (zu p 3).eraseIdx (ZF p 3).toNat = zu p 4 := by rw [← HER.out, HX.out]
   rw [er, ← hl2] at hR1
   rw [← hl2]
   have HR2 := zA.mk hR1
   have B3a : (wr.setCell ⟨w.heap.size + 1, 3, none⟩ (.int .i64 (qG p 3))).heap[w.heap.size + 1]? = some (.cells #[.int .i64 (Zo p 4 0), .int .i64 (Zo p 4 1), .int .i64 (Zo p 4 2), .int .i64 (Zo p 4 3)] 94 (0, 0)) := qc B3.out 3 _ rfl
   have B3n := zA.mk (qp B3a hg1 (by simp))
   have B2n := zA.mk (qp (qK (p := ⟨w.heap.size + 1, 3, none⟩) B2.out (by show w.heap.size ≠ w.heap.size + 1; omega) (.int .i64 (qG p 3))) hg1 (by simp; omega))
   have B9n := zA.mk (qp (qK (p := ⟨w.heap.size + 1, 3, none⟩) B9.out (by show w.heap.size + 1 + 1 + 1 ≠ w.heap.size + 1; omega) (.int .i64 (qG p 3))) hg1 (by simp))
   have HBn := zA.mk (QP (zE (j := 3) (v := .int .i64 (qG p 3)) HB.out (show w.heap.size ≤ w.heap.size + 1 by omega)) (some (w.heap.size + 1 + 1)) (by have := HB.out.size; simp [World.setCell]; omega) hg1 (fun k hk => by injection hk with hk; omega))
   clear hR1 hg1 B3a HRw B3 B2 B9 HB HR er hl2 hx b9 b3 f3
   go_wp2
   go_roundg (4 - 4)
   case measure => omega
   case rel => exact ⟨4, by omega, by omega, by first | rfl | go_num, by rw [← HY.out], rfl, HR2, B3n, B2n, B9n, HBn⟩
  next =>
   have hK : 0 ≤ Zj p 2 ∧ Zj p 2 < (zu p 2).length := by have := HK.out; have := HL.out; omega
   have hP : 0 ≤ ZF p 2 ∧ ZF p 2 ≤ 23 := by have := HP.out; omega
   have HLN := zA.mk (show (zu p 2).length = 2 by have := HL.out; omega)
   have HLN2 := zA.mk (show (zu p 3).length = (zu p 2).length - 1 by have := HL.out; omega)
   obtain ⟨A1, q1, hA1, hq1, hC⟩ := Kd.JZ HR.out
   injection hA1 with hA1 hl1 hc1
   subst hA1
   clear hl1 hc1 hq1
   obtain ⟨ad, had, hx⟩ := Kd.ZC hC (Zj p 2) hK.1 (by omega)
   injection had with had
   subst had
   rw [add_plain] at hx
   have HAT := zA.mk (show rd (zu p 2) (Zj p 2) = qG p 2 from rfl)
   rw [HAT.out] at hx
   have HER := zA.mk (show (zu p 2).eraseIdx (Zj p 2).toNat = zu p 3 from rfl)
   have hX : Zj p 2 = ZF p 2 := by have e : Zj p 2 = ZF p 2 / 1 := rfl; rw [e]; exact Int.ediv_one _
   have HY := zA.mk (show 0 = ZF p 3 by have e : ZF p 3 = ZF p 2 % 1 := rfl; rw [e]; omega)
   rw [hX] at hx hK
   have HX := zA.mk hX
   clear hX hC
   obtain ⟨hk0, hk1⟩ := hK
   obtain ⟨hp0, hp1⟩ := hP
   have b9 : wr.cell? ⟨w.heap.size + 1 + 1 + 1, 2, none⟩ = some (.int .i64 1) := (zL B9.out 2).trans rfl
   have b3 : wr.cell? ⟨w.heap.size + 1, 2, none⟩ = some (.int .i64 (Zo p 2 2)) := (zL B3.out 2).trans rfl
   have f3 := zQ B3.out 2
   have hk2 : ZF p 2 < 9223372036854775807 := by omega
   go_wp2_with fail
   have HRw := zA.mk (show Kd.R (Kd.int .i64) 2 (wr.setCell ⟨w.heap.size + 1, 2, none⟩ (.int .i64 (qG p 2))) w.heap.size (fun k => k = w.heap.size + 1 + 1) (.slice (some ⟨w.heap.size + 1 + 1, 0, none⟩) (zu p 2).length 4) (zu p 2) from Kd.Qq (p := ⟨w.heap.size + 1, 2, none⟩) HR.out (fun k hk => by rw [hk]; show w.heap.size + 1 + 1 ≠ w.heap.size + 1; omega) _)
   refine Qd (args' := #[.slice (some ⟨w.heap.size + 1 + 1, 0, none⟩) (zu p 2).length 4, .int .i64 ((ZF p 2).toNat : Int), .int .i64 (((ZF p 2).toNat : Int) + 1)]) (by rw [Int.toNat_of_nonneg hk0]) ?_
   refine (Zi.zC1 (w.heap.size + 1 + 1) 4 (ZF p 2).toNat (zu p 2) w.heap.size (fun k => k = w.heap.size + 1 + 1) _ HRw.out (by omega)).mono ?_
   rintro e w1 ⟨rfl, hR1, hg1⟩
   have hl2 := HLN2.out
   have er : (zu p 2).eraseIdx (ZF p 2).toNat = zu p 3 := by rw [← HER.out, HX.out]
   rw [er, ← hl2] at hR1
   rw [← hl2]
   have HR2 := zA.mk hR1
   have B3a : (wr.setCell ⟨w.heap.size + 1, 2, none⟩ (.int .i64 (qG p 2))).heap[w.heap.size + 1]? = some (.cells #[.int .i64 (Zo p 3 0), .int .i64 (Zo p 3 1), .int .i64 (Zo p 3 2), .int .i64 (Zo p 3 3)] 94 (0, 0)) := qc B3.out 2 _ rfl
   have B3n := zA.mk (qp B3a hg1 (by simp))
   have B2n := zA.mk (qp (qK (p := ⟨w.heap.size + 1, 2, none⟩) B2.out (by show w.heap.size ≠ w.heap.size + 1; omega) (.int .i64 (qG p 2))) hg1 (by simp; omega))
   have B9n := zA.mk (qp (qK (p := ⟨w.heap.size + 1, 2, none⟩) B9.out (by show w.heap.size + 1 + 1 + 1 ≠ w.heap.size + 1; omega) (.int .i64 (qG p 2))) hg1 (by simp))
   have HBn := zA.mk (QP (zE (j := 2) (v := .int .i64 (qG p 2)) HB.out (show w.heap.size ≤ w.heap.size + 1 by omega)) (some (w.heap.size + 1 + 1)) (by have := HB.out.size; simp [World.setCell]; omega) hg1 (fun k hk => by injection hk with hk; omega))
   clear hR1 hg1 B3a HRw B3 B2 B9 HB HR er hl2 hx b9 b3 f3
   go_wp2
   go_roundg (4 - 3)
   case measure => omega
   case rel => exact ⟨3, by omega, by omega, by first | rfl | go_num, by rw [← HY.out], rfl, HR2, B3n, B2n, B9n, HBn⟩
  next =>
   have hK : 0 ≤ Zj p 1 ∧ Zj p 1 < (zu p 1).length := by have := HK.out; have := HL.out; omega
   have hP : 0 ≤ ZF p 1 ∧ ZF p 1 ≤ 23 := by have := HP.out; omega
   have HLN := zA.mk (show (zu p 1).length = 3 by have := HL.out; omega)
   have HLN2 := zA.mk (show (zu p 2).length = (zu p 1).length - 1 by have := HL.out; omega)
   obtain ⟨A1, q1, hA1, hq1, hC⟩ := Kd.JZ HR.out
   injection hA1 with hA1 hl1 hc1
   subst hA1
   clear hl1 hc1 hq1
   obtain ⟨ad, had, hx⟩ := Kd.ZC hC (Zj p 1) hK.1 (by omega)
   injection had with had
   subst had
   rw [add_plain] at hx
   have HAT := zA.mk (show rd (zu p 1) (Zj p 1) = qG p 1 from rfl)
   rw [HAT.out] at hx
   have HER := zA.mk (show (zu p 1).eraseIdx (Zj p 1).toNat = zu p 2 from rfl)
   have hX : Zj p 1 = ZF p 1 / 2 := by have e : Zj p 1 = ZF p 1 / 2 := rfl; rw [e]
   have HY := zA.mk (show ZF p 1 % 2 = ZF p 2 by have e : ZF p 2 = ZF p 1 % 2 := rfl; rw [e])
   rw [hX] at hx hK
   have HX := zA.mk hX
   clear hX hC
   obtain ⟨hk0, hk1⟩ := hK
   obtain ⟨hp0, hp1⟩ := hP
   have b9 : wr.cell? ⟨w.heap.size + 1 + 1 + 1, 1, none⟩ = some (.int .i64 2) := (zL B9.out 1).trans rfl
   have b3 : wr.cell? ⟨w.heap.size + 1, 1, none⟩ = some (.int .i64 (Zo p 1 1)) := (zL B3.out 1).trans rfl
   have f3 := zQ B3.out 1
   have hk2 : ZF p 1 / 2 < 9223372036854775807 := by omega
   go_wp2_with fail
   have HRw := zA.mk (show Kd.R (Kd.int .i64) 2 (wr.setCell ⟨w.heap.size + 1, 1, none⟩ (.int .i64 (qG p 1))) w.heap.size (fun k => k = w.heap.size + 1 + 1) (.slice (some ⟨w.heap.size + 1 + 1, 0, none⟩) (zu p 1).length 4) (zu p 1) from Kd.Qq (p := ⟨w.heap.size + 1, 1, none⟩) HR.out (fun k hk => by rw [hk]; show w.heap.size + 1 + 1 ≠ w.heap.size + 1; omega) _)
   refine Qd (args' := #[.slice (some ⟨w.heap.size + 1 + 1, 0, none⟩) (zu p 1).length 4, .int .i64 ((ZF p 1 / 2).toNat : Int), .int .i64 (((ZF p 1 / 2).toNat : Int) + 1)]) (by rw [Int.toNat_of_nonneg hk0]) ?_
   refine (Zi.zC1 (w.heap.size + 1 + 1) 4 (ZF p 1 / 2).toNat (zu p 1) w.heap.size (fun k => k = w.heap.size + 1 + 1) _ HRw.out (by omega)).mono ?_
   rintro e w1 ⟨rfl, hR1, hg1⟩
   have hl2 := HLN2.out
   have er : (zu p 1).eraseIdx (ZF p 1 / 2).toNat = zu p 2 := by rw [← HER.out, HX.out]
   rw [er, ← hl2] at hR1
   rw [← hl2]
   have HR2 := zA.mk hR1
   have B3a : (wr.setCell ⟨w.heap.size + 1, 1, none⟩ (.int .i64 (qG p 1))).heap[w.heap.size + 1]? = some (.cells #[.int .i64 (Zo p 2 0), .int .i64 (Zo p 2 1), .int .i64 (Zo p 2 2), .int .i64 (Zo p 2 3)] 94 (0, 0)) := qc B3.out 1 _ rfl
   have B3n := zA.mk (qp B3a hg1 (by simp))
   have B2n := zA.mk (qp (qK (p := ⟨w.heap.size + 1, 1, none⟩) B2.out (by show w.heap.size ≠ w.heap.size + 1; omega) (.int .i64 (qG p 1))) hg1 (by simp; omega))
   have B9n := zA.mk (qp (qK (p := ⟨w.heap.size + 1, 1, none⟩) B9.out (by show w.heap.size + 1 + 1 + 1 ≠ w.heap.size + 1; omega) (.int .i64 (qG p 1))) hg1 (by simp))
   have HBn := zA.mk (QP (zE (j := 1) (v := .int .i64 (qG p 1)) HB.out (show w.heap.size ≤ w.heap.size + 1 by omega)) (some (w.heap.size + 1 + 1)) (by have := HB.out.size; simp [World.setCell]; omega) hg1 (fun k hk => by injection hk with hk; omega))
   clear hR1 hg1 B3a HRw B3 B2 B9 HB HR er hl2 hx b9 b3 f3
   go_wp2
   go_roundg (4 - 2)
   case measure => omega
   case rel => exact ⟨2, by omega, by omega, by first | rfl | go_num, by rw [← HY.out], rfl, HR2, B3n, B2n, B9n, HBn⟩
  next =>
   have hK : 0 ≤ Zj p 0 ∧ Zj p 0 < (zu p 0).length := by have := HK.out; have := HL.out; omega
   have hP : 0 ≤ ZF p 0 ∧ ZF p 0 ≤ 23 := by have := HP.out; omega
   have HLN := zA.mk (show (zu p 0).length = 4 by have := HL.out; omega)
   have HLN2 := zA.mk (show (zu p 1).length = (zu p 0).length - 1 by have := HL.out; omega)
   obtain ⟨A1, q1, hA1, hq1, hC⟩ := Kd.JZ HR.out
   injection hA1 with hA1 hl1 hc1
   subst hA1
   clear hl1 hc1 hq1
   obtain ⟨ad, had, hx⟩ := Kd.ZC hC (Zj p 0) hK.1 (by omega)
   injection had with had
   subst had
   rw [add_plain] at hx
   have HAT := zA.mk (show rd (zu p 0) (Zj p 0) = qG p 0 from rfl)
   rw [HAT.out] at hx
   have HER := zA.mk (show (zu p 0).eraseIdx (Zj p 0).toNat = zu p 1 from rfl)
   have hX : Zj p 0 = ZF p 0 / 6 := by have e : Zj p 0 = ZF p 0 / 6 := rfl; rw [e]
   have HY := zA.mk (show ZF p 0 % 6 = ZF p 1 by have e : ZF p 1 = ZF p 0 % 6 := rfl; rw [e])
   rw [hX] at hx hK
   have HX := zA.mk hX
   clear hX hC
   obtain ⟨hk0, hk1⟩ := hK
   obtain ⟨hp0, hp1⟩ := hP
   have b9 : wr.cell? ⟨w.heap.size + 1 + 1 + 1, 0, none⟩ = some (.int .i64 6) := (zL B9.out 0).trans rfl
   have b3 : wr.cell? ⟨w.heap.size + 1, 0, none⟩ = some (.int .i64 (Zo p 0 0)) := (zL B3.out 0).trans rfl
   have f3 := zQ B3.out 0
   have hk2 : ZF p 0 / 6 < 9223372036854775807 := by omega
   go_wp2_with fail
   have HRw := zA.mk (show Kd.R (Kd.int .i64) 2 (wr.setCell ⟨w.heap.size + 1, 0, none⟩ (.int .i64 (qG p 0))) w.heap.size (fun k => k = w.heap.size + 1 + 1) (.slice (some ⟨w.heap.size + 1 + 1, 0, none⟩) (zu p 0).length 4) (zu p 0) from Kd.Qq (p := ⟨w.heap.size + 1, 0, none⟩) HR.out (fun k hk => by rw [hk]; show w.heap.size + 1 + 1 ≠ w.heap.size + 1; omega) _)
   refine Qd (args' := #[.slice (some ⟨w.heap.size + 1 + 1, 0, none⟩) (zu p 0).length 4, .int .i64 ((ZF p 0 / 6).toNat : Int), .int .i64 (((ZF p 0 / 6).toNat : Int) + 1)]) (by rw [Int.toNat_of_nonneg hk0]) ?_
   refine (Zi.zC1 (w.heap.size + 1 + 1) 4 (ZF p 0 / 6).toNat (zu p 0) w.heap.size (fun k => k = w.heap.size + 1 + 1) _ HRw.out (by omega)).mono ?_
   rintro e w1 ⟨rfl, hR1, hg1⟩
   have hl2 := HLN2.out
   have er : (zu p 0).eraseIdx (ZF p 0 / 6).toNat = zu p 1 := by rw [← HER.out, HX.out]
   rw [er, ← hl2] at hR1
   rw [← hl2]
   have HR2 := zA.mk hR1
   have B3a : (wr.setCell ⟨w.heap.size + 1, 0, none⟩ (.int .i64 (qG p 0))).heap[w.heap.size + 1]? = some (.cells #[.int .i64 (Zo p 1 0), .int .i64 (Zo p 1 1), .int .i64 (Zo p 1 2), .int .i64 (Zo p 1 3)] 94 (0, 0)) := qc B3.out 0 _ rfl
   have B3n := zA.mk (qp B3a hg1 (by simp))
   have B2n := zA.mk (qp (qK (p := ⟨w.heap.size + 1, 0, none⟩) B2.out (by show w.heap.size ≠ w.heap.size + 1; omega) (.int .i64 (qG p 0))) hg1 (by simp; omega))
   have B9n := zA.mk (qp (qK (p := ⟨w.heap.size + 1, 0, none⟩) B9.out (by show w.heap.size + 1 + 1 + 1 ≠ w.heap.size + 1; omega) (.int .i64 (qG p 0))) hg1 (by simp))
   have HBn := zA.mk (QP (zE (j := 0) (v := .int .i64 (qG p 0)) HB.out (show w.heap.size ≤ w.heap.size + 1 by omega)) (some (w.heap.size + 1 + 1)) (by have := HB.out.size; simp [World.setCell]; omega) hg1 (fun k hk => by injection hk with hk; omega))
   clear hR1 hg1 B3a HRw B3 B2 B9 HB HR er hl2 hx b9 b3 f3
   go_wp2
   go_roundg (4 - 1)
   case measure => omega
   case rel => exact ⟨1, by omega, by omega, by first | rfl | go_num, by rw [← HY.out], rfl, HR2, B3n, B2n, B9n, HBn⟩
theorem QM (a b c d : Int) (f : Int) (h0 : 0 ≤ f) (h1 : f ≤ 3) : ∀ w : World, (Instr.index 94 (.agg #[.int .i64 a, .int .i64 b, .int .i64 c, .int .i64 d]) (.int .i64 f)).run Try.prog w = .ok (.int .i64 (rd [a, b, c, d] f)) w := by
  intro w
  rcases (show f = 0 ∨ f = 1 ∨ f = 2 ∨ f = 3 by omega) with rfl | rfl | rfl | rfl
  · kernel_rfl
  · kernel_rfl
  · kernel_rfl
  · kernel_rfl
theorem QC {w : World} {g : Nat} {T : TypeId} {a b c d : Int} (h : w.heap[g]? = some (.cells #[.int .i64 a, .int .i64 b, .int .i64 c, .int .i64 d] T (0, 0))) (f : Int) (h0 : 0 ≤ f) (h1 : f ≤ 3) : w.cell? ⟨g, f.toNat, none⟩ = some (.int .i64 (rd [a, b, c, d] f)) := by
  rw [zL h]
  rcases (show f = 0 ∨ f = 1 ∨ f = 2 ∨ f = 3 by omega) with rfl | rfl | rfl | rfl <;> rfl
theorem JT {w : World} {g : Nat} {T : TypeId} {a b c d : Int} (h : w.heap[g]? = some (.cells #[.int .i64 a, .int .i64 b, .int .i64 c, .int .i64 d] T (0, 0))) (f v : Int) (h0 : 0 ≤ f) (h1 : f ≤ 3) :
    (w.setCell ⟨g, f.toNat, none⟩ (.int .i64 v)).heap[g]? = some (.cells #[.int .i64 (rd ([a, b, c, d].set f.toNat v) 0), .int .i64 (rd ([a, b, c, d].set f.toNat v) 1), .int .i64 (rd ([a, b, c, d].set f.toNat v) 2), .int .i64 (rd ([a, b, c, d].set f.toNat v) 3)] T (0, 0)) := by
  rcases (show f = 0 ∨ f = 1 ∨ f = 2 ∨ f = 3 by omega) with rfl | rfl | rfl | rfl
  · exact qc h 0 _ rfl
  · exact qc h 1 _ rfl
  · exact qc h 2 _ rfl
  · exact qc h 3 _ rfl
theorem ZR {W : World} {n : Nat} (h : W.heap.size = n) (o : Obj) : (W.alloc o).heap[n]? = some o := h ▸ zBZ W o
theorem zB2 {l : List Int} (h : l.length = 4) : l = [rd l 0, rd l 1, rd l 2, rd l 3] := by
  match l, h with
  | [a, b, c, d], _ => rfl
def ZJ (l : List Int) (i : Nat) : Nat → Int
  | 0 => rd l i
  | j + 1 => if rd l j < rd l i then ZJ l i j - 1 else ZJ l i j
def JO (l : List Int) : Nat → Int
  | 0 => 0
  | i + 1 => JO l i + ZJ l i i * zCy i
def zET (l : List Int) : Int := JO l 4
def sm (x : Int) : Prop := 0 ≤ x ∧ x ≤ 3
theorem JU (l : List Int) (i : Nat) (h : sm (rd l i)) : ∀ j : Nat, -(j : Int) ≤ ZJ l i j ∧ ZJ l i j ≤ 3
  | 0 => by have := h.1; have := h.2; unfold ZJ; omega
  | j + 1 => by
    have := JU l i h j
    unfold ZJ
    split <;> omega
set_option maxHeartbeats 8000000 in
set_option maxRecDepth 100000 in
theorem Jy.calls (a b c d : Int) (w : World) (ha : sm a) (hb : sm b) (hc : sm c) (hd : sm d) :
    Calls Try.prog 108 #[.agg #[.int .i64 a, .int .i64 b, .int .i64 c, .int .i64 d]] w fun e w' => e = .returned (.int .i64 (zET [a, b, c, d])) ∧ Below w.heap.size w w' := by
  have hl0 : sm (rd [a, b, c, d] (0 : Nat)) := ha
  have hl1 : sm (rd [a, b, c, d] (1 : Nat)) := hb
  have hl2 : sm (rd [a, b, c, d] (2 : Nat)) := hc
  have hl3 : sm (rd [a, b, c, d] (3 : Nat)) := hd
  have HL := zA.mk (And.intro (JU _ 0 hl0) (And.intro (JU _ 1 hl1) (And.intro (JU _ 2 hl2) (JU _ 3 hl3))))
  have HS := zA.mk (And.intro hl0 (And.intro hl1 (And.intro hl2 hl3)))
  clear ha hb hc hd hl0 hl1 hl2 hl3
  generalize hl : [a, b, c, d] = l at HL HS ⊢
  have HLL := zA.mk hl
  clear hl
  go_enter Try.func108, Try.ntmps108
  go_wp2_with fail
  go_loopg [3, 11] 4 (fun gg v3 v11 w' => ∃ i : Nat, i ≤ 4 ∧ 4 - i ≤ gg ∧ v11 = .int .i64 i ∧ v3 = .int .i64 (JO l i) ∧ zA (-24 * (i : Int) ≤ JO l i ∧ JO l i ≤ 24 * i) ∧
    zA (w'.heap[w.heap.size]? = some (.cells #[.int .i64 a, .int .i64 b, .int .i64 c, .int .i64 d] 94 (0, 0))) ∧
    zA (w'.heap[w.heap.size + 1]? = some (.cells #[.int .i64 6, .int .i64 2, .int .i64 1, .int .i64 1] 2 (0, 0))) ∧ zA (Below w.heap.size w w'))
  case atStart =>
    refine ⟨0, by omega, by omega, rfl, rfl, ⟨by simp [JO]⟩, ⟨?_⟩, ⟨?_⟩, ⟨?_⟩⟩
    · exact zF (ZR rfl _) _
    · exact ZR (by simp) _
    · exact zC (zC (ypy _ _) _) _
  case round =>
    obtain ⟨i, hi, hg, rfl, rfl, HI, B1, B9, HB⟩ := hrel
    rcases (show i = 4 ∨ i = 3 ∨ i = 2 ∨ i = 1 ∨ i = 0 by omega) with rfl | rfl | rfl | rfl | rfl
    · go_wp2
      go_ret
      exact ⟨rfl, HB.out⟩
    · have b9 : wr.cell? ⟨w.heap.size + 1, 3, none⟩ = some (.int .i64 1) := (zL B9.out 3).trans rfl
      have b1 : wr.cell? ⟨w.heap.size, 3, none⟩ = some (.int .i64 (rd l (3 : Nat))) := (zL B1.out 3).trans (by rw [← HLL.out]; rfl)
      have hx : sm (rd l (3 : Nat)) := by have := HS.out; exact this.2.2.2
      have HD := zA.mk (show ∀ j : Nat, ZJ l 3 (j + 1) = if rd l (j : Nat) < rd l (3 : Nat) then ZJ l 3 j - 1 else ZJ l 3 j from fun _ => rfl)
      have HD0 := zA.mk (show rd l (3 : Nat) = ZJ l 3 0 from rfl)
      generalize rd l (3 : Nat) = xi at b1 HD HD0 hx
      go_wp2_with fail
      go_loopg [6, 22] 3 (fun gg v6 v22 w' => ∃ j : Nat, j ≤ 3 ∧ 3 - j ≤ gg ∧ v22 = .int .i64 j ∧ v6 = .int .i64 (ZJ l 3 j) ∧ w' = wr)
      case atStart => exact ⟨0, by omega, by omega, rfl, by rw [HD0.out], rfl⟩
      case round =>
        obtain ⟨j, hj, hg2, rfl, rfl, rfl⟩ := hrel
        by_cases hlt : j < 3
        · have hltz : (j : Int) < 3 := by omega
          have bj : wr.cell? ⟨w.heap.size, j, none⟩ = some (.int .i64 (rd l (j : Nat))) := by
            have := QC B1.out (j : Int) (by omega) (by omega)
            rw [HLL.out, Int.toNat_natCast] at this
            exact this
          have hbd := (HL.out.2.2.2 j)
          obtain ⟨hbd1, hbd2⟩ := hbd
          have HN := zA.mk (HD.out j)
          generalize ZJ l 3 j = lv at HN hbd1 hbd2 ⊢
          generalize rd l (j : Nat) = xj at bj HN
          by_cases hless : xj < xi
          · have hd1 : decide (xj < xi) = true := ygy hless
            go_wp2
            go_roundg (3 - (j + 1))
            case measure => omega
            case rel => exact ⟨j + 1, by omega, by omega, by go_num, by rw [HN.out, if_pos hless], rfl⟩
          · have hd1 : decide (xj < xi) = false := yhy hless
            go_wp2
            go_roundg (3 - (j + 1))
            case measure => omega
            case rel => exact ⟨j + 1, by omega, by omega, by go_num, by rw [HN.out, if_neg (by omega)], rfl⟩
        · have hltz : ¬ (j : Int) < 3 := by omega
          obtain rfl : j = 3 := by omega
          have hbd := (HL.out.2.2.2 3)
          obtain ⟨hbd1, hbd2⟩ := hbd
          obtain ⟨hi1, hi2⟩ := HI.out
          have HN := zA.mk (show JO l 4 = JO l 3 + ZJ l 3 3 * 1 from rfl)
          generalize ZJ l 3 3 = lv at HN hbd1 hbd2 ⊢
          generalize JO l 3 = iv at HN hi1 hi2 ⊢
          go_wp2
          go_roundg (4 - 4)
          case measure => omega
          case rel => exact ⟨4, by omega, by omega, by first | rfl | go_num, by rw [HN.out]; rw [Int.mul_one], ⟨by rw [HN.out]; omega⟩, B1, B9, HB⟩
    · have b9 : wr.cell? ⟨w.heap.size + 1, 2, none⟩ = some (.int .i64 1) := (zL B9.out 2).trans rfl
      have b1 : wr.cell? ⟨w.heap.size, 2, none⟩ = some (.int .i64 (rd l (2 : Nat))) := (zL B1.out 2).trans (by rw [← HLL.out]; rfl)
      have hx : sm (rd l (2 : Nat)) := by have := HS.out; exact this.2.2.1
      have HD := zA.mk (show ∀ j : Nat, ZJ l 2 (j + 1) = if rd l (j : Nat) < rd l (2 : Nat) then ZJ l 2 j - 1 else ZJ l 2 j from fun _ => rfl)
      have HD0 := zA.mk (show rd l (2 : Nat) = ZJ l 2 0 from rfl)
      generalize rd l (2 : Nat) = xi at b1 HD HD0 hx
      go_wp2_with fail
      go_loopg [6, 22] 2 (fun gg v6 v22 w' => ∃ j : Nat, j ≤ 2 ∧ 2 - j ≤ gg ∧ v22 = .int .i64 j ∧ v6 = .int .i64 (ZJ l 2 j) ∧ w' = wr)
      case atStart => exact ⟨0, by omega, by omega, rfl, by rw [HD0.out], rfl⟩
      case round =>
        obtain ⟨j, hj, hg2, rfl, rfl, rfl⟩ := hrel
        by_cases hlt : j < 2
        · have hltz : (j : Int) < 2 := by omega
          have bj : wr.cell? ⟨w.heap.size, j, none⟩ = some (.int .i64 (rd l (j : Nat))) := by
            have := QC B1.out (j : Int) (by omega) (by omega)
            rw [HLL.out, Int.toNat_natCast] at this
            exact this
          have hbd := (HL.out.2.2.1 j)
          obtain ⟨hbd1, hbd2⟩ := hbd
          have HN := zA.mk (HD.out j)
          generalize ZJ l 2 j = lv at HN hbd1 hbd2 ⊢
          generalize rd l (j : Nat) = xj at bj HN
          by_cases hless : xj < xi
          · have hd1 : decide (xj < xi) = true := ygy hless
            go_wp2
            go_roundg (2 - (j + 1))
            case measure => omega
            case rel => exact ⟨j + 1, by omega, by omega, by go_num, by rw [HN.out, if_pos hless], rfl⟩
          · have hd1 : decide (xj < xi) = false := yhy hless
            go_wp2
            go_roundg (2 - (j + 1))
            case measure => omega
            case rel => exact ⟨j + 1, by omega, by omega, by go_num, by rw [HN.out, if_neg (by omega)], rfl⟩
        · have hltz : ¬ (j : Int) < 2 := by omega
          obtain rfl : j = 2 := by omega
          have hbd := (HL.out.2.2.1 2)
          obtain ⟨hbd1, hbd2⟩ := hbd
          obtain ⟨hi1, hi2⟩ := HI.out
          have HN := zA.mk (show JO l 3 = JO l 2 + ZJ l 2 2 * 1 from rfl)
          generalize ZJ l 2 2 = lv at HN hbd1 hbd2 ⊢
          generalize JO l 2 = iv at HN hi1 hi2 ⊢
          go_wp2
          go_roundg (4 - 3)
          case measure => omega
          case rel => exact ⟨3, by omega, by omega, by first | rfl | go_num, by rw [HN.out]; rw [Int.mul_one], ⟨by rw [HN.out]; omega⟩, B1, B9, HB⟩
    · have b9 : wr.cell? ⟨w.heap.size + 1, 1, none⟩ = some (.int .i64 2) := (zL B9.out 1).trans rfl
      have b1 : wr.cell? ⟨w.heap.size, 1, none⟩ = some (.int .i64 (rd l (1 : Nat))) := (zL B1.out 1).trans (by rw [← HLL.out]; rfl)
      have hx : sm (rd l (1 : Nat)) := by have := HS.out; exact this.2.1
      have HD := zA.mk (show ∀ j : Nat, ZJ l 1 (j + 1) = if rd l (j : Nat) < rd l (1 : Nat) then ZJ l 1 j - 1 else ZJ l 1 j from fun _ => rfl)
      have HD0 := zA.mk (show rd l (1 : Nat) = ZJ l 1 0 from rfl)
      generalize rd l (1 : Nat) = xi at b1 HD HD0 hx
      go_wp2_with fail
      go_loopg [6, 22] 1 (fun gg v6 v22 w' => ∃ j : Nat, j ≤ 1 ∧ 1 - j ≤ gg ∧ v22 = .int .i64 j ∧ v6 = .int .i64 (ZJ l 1 j) ∧ w' = wr)
      case atStart => exact ⟨0, by omega, by omega, rfl, by rw [HD0.out], rfl⟩
      case round =>
        obtain ⟨j, hj, hg2, rfl, rfl, rfl⟩ := hrel
        by_cases hlt : j < 1
        · have hltz : (j : Int) < 1 := by omega
          have bj : wr.cell? ⟨w.heap.size, j, none⟩ = some (.int .i64 (rd l (j : Nat))) := by
            have := QC B1.out (j : Int) (by omega) (by omega)
            rw [HLL.out, Int.toNat_natCast] at this
            exact this
          have hbd := (HL.out.2.1 j)
          obtain ⟨hbd1, hbd2⟩ := hbd
          have HN := zA.mk (HD.out j)
          generalize ZJ l 1 j = lv at HN hbd1 hbd2 ⊢
          generalize rd l (j : Nat) = xj at bj HN
          by_cases hless : xj < xi
          · have hd1 : decide (xj < xi) = true := ygy hless
            go_wp2
            go_roundg (1 - (j + 1))
            case measure => omega
            case rel => exact ⟨j + 1, by omega, by omega, by go_num, by rw [HN.out, if_pos hless], rfl⟩
          · have hd1 : decide (xj < xi) = false := yhy hless
            go_wp2
            go_roundg (1 - (j + 1))
            case measure => omega
            case rel => exact ⟨j + 1, by omega, by omega, by go_num, by rw [HN.out, if_neg (by omega)], rfl⟩
        · have hltz : ¬ (j : Int) < 1 := by omega
          obtain rfl : j = 1 := by omega
          have hbd := (HL.out.2.1 1)
          obtain ⟨hbd1, hbd2⟩ := hbd
          obtain ⟨hi1, hi2⟩ := HI.out
          have HN := zA.mk (show JO l 2 = JO l 1 + ZJ l 1 1 * 2 from rfl)
          generalize ZJ l 1 1 = lv at HN hbd1 hbd2 ⊢
          generalize JO l 1 = iv at HN hi1 hi2 ⊢
          go_wp2
          go_roundg (4 - 2)
          case measure => omega
          case rel => exact ⟨2, by omega, by omega, by first | rfl | go_num, by rw [HN.out], ⟨by rw [HN.out]; omega⟩, B1, B9, HB⟩
    · have b9 : wr.cell? ⟨w.heap.size + 1, 0, none⟩ = some (.int .i64 6) := (zL B9.out 0).trans rfl
      have b1 : wr.cell? ⟨w.heap.size, 0, none⟩ = some (.int .i64 (rd l (0 : Nat))) := (zL B1.out 0).trans (by rw [← HLL.out]; rfl)
      have hx : sm (rd l (0 : Nat)) := by have := HS.out; exact this.1
      have HD := zA.mk (show ∀ j : Nat, ZJ l 0 (j + 1) = if rd l (j : Nat) < rd l (0 : Nat) then ZJ l 0 j - 1 else ZJ l 0 j from fun _ => rfl)
      have HD0 := zA.mk (show rd l (0 : Nat) = ZJ l 0 0 from rfl)
      generalize rd l (0 : Nat) = xi at b1 HD HD0 hx
      go_wp2_with fail
      go_loopg [6, 22] 0 (fun gg v6 v22 w' => ∃ j : Nat, j ≤ 0 ∧ 0 - j ≤ gg ∧ v22 = .int .i64 j ∧ v6 = .int .i64 (ZJ l 0 j) ∧ w' = wr)
      case atStart => exact ⟨0, by omega, by omega, rfl, by rw [HD0.out], rfl⟩
      case round =>
        obtain ⟨j, hj, hg2, rfl, rfl, rfl⟩ := hrel
        by_cases hlt : j < 0
        · have hltz : (j : Int) < 0 := by omega
          have bj : wr.cell? ⟨w.heap.size, j, none⟩ = some (.int .i64 (rd l (j : Nat))) := by
            have := QC B1.out (j : Int) (by omega) (by omega)
            rw [HLL.out, Int.toNat_natCast] at this
            exact this
          have hbd := (HL.out.1 j)
          obtain ⟨hbd1, hbd2⟩ := hbd
          have HN := zA.mk (HD.out j)
          generalize ZJ l 0 j = lv at HN hbd1 hbd2 ⊢
          generalize rd l (j : Nat) = xj at bj HN
          by_cases hless : xj < xi
          · have hd1 : decide (xj < xi) = true := ygy hless
            go_wp2
            go_roundg (0 - (j + 1))
            case measure => omega
            case rel => exact ⟨j + 1, by omega, by omega, by go_num, by rw [HN.out, if_pos hless], rfl⟩
          · have hd1 : decide (xj < xi) = false := yhy hless
            go_wp2
            go_roundg (0 - (j + 1))
            case measure => omega
            case rel => exact ⟨j + 1, by omega, by omega, by go_num, by rw [HN.out, if_neg (by omega)], rfl⟩
        · have hltz : ¬ (j : Int) < 0 := by omega
          obtain rfl : j = 0 := by omega
          have hbd := (HL.out.1 0)
          obtain ⟨hbd1, hbd2⟩ := hbd
          obtain ⟨hi1, hi2⟩ := HI.out
          have HN := zA.mk (show JO l 1 = JO l 0 + ZJ l 0 0 * 6 from rfl)
          generalize ZJ l 0 0 = lv at HN hbd1 hbd2 ⊢
          generalize JO l 0 = iv at HN hi1 hi2 ⊢
          go_wp2
          go_roundg (4 - 1)
          case measure => omega
          case rel => exact ⟨1, by omega, by omega, by first | rfl | go_num, by rw [HN.out], ⟨by rw [HN.out]; omega⟩, B1, B9, HB⟩
theorem Jl (p : Int) (h0 : 0 ≤ p) (h1 : p ≤ 23) : sm (qG p 0) ∧ sm (qG p 1) ∧ sm (qG p 2) ∧ sm (qG p 3) := by
  obtain ⟨n, rfl⟩ := Int.eq_ofNat_of_zero_le h0
  have hn : n < 24 := by omega
  have key : ∀ m : Fin 24, (0 ≤ qG (m.val : Int) 0 ∧ qG (m.val : Int) 0 ≤ 3) ∧ (0 ≤ qG (m.val : Int) 1 ∧ qG (m.val : Int) 1 ≤ 3) ∧ (0 ≤ qG (m.val : Int) 2 ∧ qG (m.val : Int) 2 ≤ 3) ∧ (0 ≤ qG (m.val : Int) 3 ∧ qG (m.val : Int) 3 ≤ 3) := by decide
  exact key ⟨n, hn⟩
def Qh (l : List Int) : Nat → List Int
  | 0 => [0, 0, 0, 0]
  | i + 1 => (Qh l i).set (rd l i).toNat i
theorem zAg (l : List Int) : ∀ i, i ≤ 4 → ∀ x ∈ Qh l i, sm x
  | 0, _, x, hx => by
    have : x = 0 := by simp [Qh] at hx; exact hx
    subst this; exact ⟨by omega, by omega⟩
  | i + 1, hi, x, hx => by
    rw [Qh] at hx
    rcases List.mem_or_eq_of_mem_set hx with h | rfl
    · exact zAg l i (by omega) x h
    · exact ⟨by omega, by omega⟩
def Jd (p : Int) : Int := zET (Qh (Zb p) 4)
def zEG (a b : List Int) : List Int := [rd b (rd a 0), rd b (rd a 1), rd b (rd a 2), rd b (rd a 3)]
def Ju (l m : List Int) : Nat → List Int
  | 0 => [0, 0, 0, 0]
  | i + 1 => (Ju l m i).set i (rd m (rd l i))
def Qi (p q : Int) : Int := zET (zEG (Zb p) (Zb q))
theorem Qw {a b c d : Int} (ha : sm a) (hb : sm b) (hc : sm c) (hd : sm d) (f : Int) (h0 : 0 ≤ f) (h1 : f ≤ 3) : sm (rd [a, b, c, d] f) := by
  rcases (show f = 0 ∨ f = 1 ∨ f = 2 ∨ f = 3 by omega) with rfl | rfl | rfl | rfl <;> assumption
def Zk.f (a0 : Int) : Option Int := if 0 ≤ a0 ∧ a0 ≤ 23 then some (Jd a0) else none
set_option maxHeartbeats 8000000 in
set_option maxRecDepth 100000 in
theorem Zk.calls (a0 : Int) (r : Int) (w : World) (h : Zk.f a0 = some r) :
    Calls Try.prog 139 #[.int .i64 a0] w fun e w' => e = .returned (.int .i64 r) ∧ Below w.heap.size w w' := by
  unfold Zk.f at h
  by_cases hc : 0 ≤ a0 ∧ a0 ≤ 23
  case neg => rw [if_neg hc] at h; exact absurd h (by simp)
  rw [if_pos hc] at h
  have hr : Jd a0 = r := yey h
  clear h
  subst hr
  obtain ⟨h0, h1⟩ := hc
  have HS := zA.mk (Jl a0 h0 h1)
  have H0 := zA.mk h0
  have H1 := zA.mk h1
  clear h0 h1
  go_enter Try.func139, Try.ntmps139
  go_wp2_with fail
  refine (JS.calls _ _ H0.out H1.out).mono ?_
  rintro e w1 ⟨rfl, hb⟩
  have B3 := zA.mk (zJ (ZR (W := w) rfl (.cells #[.int .i64 0, .int .i64 0, .int .i64 0, .int .i64 0] 94)) hb)
  have HB := zA.mk (zN (zC (ypy _ _) _) hb)
  clear hb
  have HPL := zA.mk (show Zb a0 = [qG a0 0, qG a0 1, qG a0 2, qG a0 3] from rfl)
  have HIP := zA.mk (show Jd a0 = zET (Qh (Zb a0) 4) from rfl)
  generalize Zb a0 = pl at HPL HIP
  generalize qG a0 0 = x0 at HS HPL ⊢
  generalize qG a0 1 = x1 at HS HPL ⊢
  generalize qG a0 2 = x2 at HS HPL ⊢
  generalize qG a0 3 = x3 at HS HPL ⊢
  go_wp2_with fail
  go_loopg [8] 4 (fun gg v8 w' => ∃ (i : Nat) (b0 b1 b2 b3 : Int), i ≤ 4 ∧ 4 - i ≤ gg ∧ v8 = .int .i64 i ∧ zA ([b0, b1, b2, b3] = Qh pl i) ∧
    zA (w'.heap[w.heap.size]? = some (.cells #[.int .i64 b0, .int .i64 b1, .int .i64 b2, .int .i64 b3] 94 (0, 0))) ∧ zA (Below w.heap.size w w'))
  case atStart => exact ⟨0, 0, 0, 0, 0, by omega, by omega, rfl, ⟨rfl⟩, B3, HB⟩
  case round =>
    clear HB B3
    obtain ⟨i, b0, b1, b2, b3, hi, hg, rfl, HI, B3, HB⟩ := hrel
    rcases (show i = 4 ∨ i = 3 ∨ i = 2 ∨ i = 1 ∨ i = 0 by omega) with rfl | rfl | rfl | rfl | rfl
    · have c0 : wr.cell? ⟨w.heap.size, 0, none⟩ = some (.int .i64 b0) := (zL B3.out 0).trans rfl
      have c1 : wr.cell? ⟨w.heap.size, 1, none⟩ = some (.int .i64 b1) := (zL B3.out 1).trans rfl
      have c2 : wr.cell? ⟨w.heap.size, 2, none⟩ = some (.int .i64 b2) := (zL B3.out 2).trans rfl
      have c3 : wr.cell? ⟨w.heap.size, 3, none⟩ = some (.int .i64 b3) := (zL B3.out 3).trans rfl
      have ht := Try.underlying94
      go_wp2_with fail
      have hsm := zAg pl 4 (by omega)
      rw [← HI.out] at hsm
      refine (Jy.calls b0 b1 b2 b3 _ (hsm _ (by simp)) (hsm _ (by simp)) (hsm _ (by simp)) (hsm _ (by simp))).mono ?_
      rintro e w2 ⟨rfl, hb⟩
      have HB2 := zA.mk (zN HB.out hb)
      clear hb hsm
      go_wp2
      go_ret
      exact ⟨by rw [HIP.out, ← HI.out]; rfl, HB2.out⟩
    · have ix := QM x0 x1 x2 x3 3 (by omega) (by omega)
      have hx : rd [x0, x1, x2, x3] 3 = x3 := rfl
      rw [hx] at ix
      have hs : sm x3 := HS.out.2.2.2
      obtain ⟨hs0, hs1⟩ := hs
      have c3 := QC B3.out x3 hs0 hs1
      have f3 := zQ B3.out x3.toNat
      have B3n := zA.mk (JT B3.out x3 3 hs0 hs1)
      have HN : [b0, b1, b2, b3].set x3.toNat 3 = Qh pl (3 + 1) := by rw [HI.out, HPL.out]; rfl
      have hlen : ([b0, b1, b2, b3].set x3.toNat (3 : Int)).length = 4 := by simp
      have HF := zA.mk ((zB2 hlen).symm.trans HN)
      clear hx HN hlen
      go_wp2
      go_roundg (4 - (3 + 1))
      case measure => omega
      case rel => exact ⟨3 + 1, _, _, _, _, by omega, by omega, by first | rfl | go_num, HF, B3n, ⟨zE HB.out (yoy _)⟩⟩
    · have ix := QM x0 x1 x2 x3 2 (by omega) (by omega)
      have hx : rd [x0, x1, x2, x3] 2 = x2 := rfl
      rw [hx] at ix
      have hs : sm x2 := HS.out.2.2.1
      obtain ⟨hs0, hs1⟩ := hs
      have c3 := QC B3.out x2 hs0 hs1
      have f3 := zQ B3.out x2.toNat
      have B3n := zA.mk (JT B3.out x2 2 hs0 hs1)
      have HN : [b0, b1, b2, b3].set x2.toNat 2 = Qh pl (2 + 1) := by rw [HI.out, HPL.out]; rfl
      have hlen : ([b0, b1, b2, b3].set x2.toNat (2 : Int)).length = 4 := by simp
      have HF := zA.mk ((zB2 hlen).symm.trans HN)
      clear hx HN hlen
      go_wp2
      go_roundg (4 - (2 + 1))
      case measure => omega
      case rel => exact ⟨2 + 1, _, _, _, _, by omega, by omega, by first | rfl | go_num, HF, B3n, ⟨zE HB.out (yoy _)⟩⟩
    · have ix := QM x0 x1 x2 x3 1 (by omega) (by omega)
      have hx : rd [x0, x1, x2, x3] 1 = x1 := rfl
      rw [hx] at ix
      have hs : sm x1 := HS.out.2.1
      obtain ⟨hs0, hs1⟩ := hs
      have c3 := QC B3.out x1 hs0 hs1
      have f3 := zQ B3.out x1.toNat
      have B3n := zA.mk (JT B3.out x1 1 hs0 hs1)
      have HN : [b0, b1, b2, b3].set x1.toNat 1 = Qh pl (1 + 1) := by rw [HI.out, HPL.out]; rfl
      have hlen : ([b0, b1, b2, b3].set x1.toNat (1 : Int)).length = 4 := by simp
      have HF := zA.mk ((zB2 hlen).symm.trans HN)
      clear hx HN hlen
      go_wp2
      go_roundg (4 - (1 + 1))
      case measure => omega
      case rel => exact ⟨1 + 1, _, _, _, _, by omega, by omega, by first | rfl | go_num, HF, B3n, ⟨zE HB.out (yoy _)⟩⟩
    · have ix := QM x0 x1 x2 x3 0 (by omega) (by omega)
      have hx : rd [x0, x1, x2, x3] 0 = x0 := rfl
      rw [hx] at ix
      have hs : sm x0 := HS.out.1
      obtain ⟨hs0, hs1⟩ := hs
      have c3 := QC B3.out x0 hs0 hs1
      have f3 := zQ B3.out x0.toNat
      have B3n := zA.mk (JT B3.out x0 0 hs0 hs1)
      have HN : [b0, b1, b2, b3].set x0.toNat 0 = Qh pl (0 + 1) := by rw [HI.out, HPL.out]; rfl
      have hlen : ([b0, b1, b2, b3].set x0.toNat (0 : Int)).length = 4 := by simp
      have HF := zA.mk ((zB2 hlen).symm.trans HN)
      clear hx HN hlen
      go_wp2
      go_roundg (4 - (0 + 1))
      case measure => omega
      case rel => exact ⟨0 + 1, _, _, _, _, by omega, by omega, by first | rfl | go_num, HF, B3n, ⟨zE HB.out (yoy _)⟩⟩
def ql.f (a0_0 : Int) (a0_1 : Int) (a1 : Int) : Option (Int × Int) := (Zk.f a0_1).bind fun t103 => (some (a1, t103))
set_option maxHeartbeats 8000000 in
set_option maxRecDepth 100000 in
theorem ql.calls (a0_0 : Int) (a0_1 : Int) (a1 : Int) (r1 : Int) (r2 : Int) (w : World) (h : ql.f a0_0 a0_1 a1 = some (r1, r2)) :
    Calls Try.prog 129 #[.agg #[.int .i64 a0_0, .int .i64 a0_1], .int .i64 a1] w fun e w' => e = .returned (.agg #[.int .i64 r1, .int .i64 r2]) ∧ Below w.heap.size w w' := by
  have hu59 := Try.underlying59
  have HB := zA.mk (ypy w.heap.size w)
  have H : ((Zk.f a0_1).bind fun t103 => (some (a1, t103))) = some (r1, r2) := h
  clear h
  replace H := ydy.mp H
  obtain ⟨t103, A30, H⟩ := H
  replace H : (some (a1, t103)) = some (r1, r2) := H
  have A3 := zA.mk A30
  clear A30
  simp only [Option.some.injEq, Prod.mk.injEq] at H
  obtain ⟨rfl, rfl⟩ := H
  go_enter Try.func129, Try.ntmps129
  go_wp2_with (first | ((with_reducible refine zq (N := 2) rfl ?_); refine zr ?hg (N := 2) ?hd (cs := #[.int .i64 a0_0, .int .i64 a0_1]) (t := 59) ?hr ?_; (case hd => rfl); (case hg => rfl); (case hr => first | (go_simp; done) | (go_simp; rfl)); intro gb101 hg w4 hbox hb; have n0_ := zA.mk (zN (by repeat (first | (with_reducible first | exact HB.out | apply zC | apply zB | apply zD) | exact HB.out)) hb); have n1_ := zA.mk (hbox); have n2_ := zA.mk ((by rw [hg]; exact (zO (by repeat (first | (with_reducible first | exact HB.out | apply zC | apply zB | apply zD) | exact HB.out))) : w.heap.size ≤ gb101)); have n3_ := zA.mk ((by rw [hg]; exact (zO (by repeat (first | (with_reducible first | exact HB.out | apply zC | apply zB | apply zD) | exact HB.out))) : w.heap.size ≤ gb101)); clear HB; have HB := n0_; have BK101 := n1_; have GW101 := n2_; have GE101 := n3_; clear n0_ n1_ n2_ n3_; clear hb hbox hg) | ((with_reducible refine zq (N := 4) rfl ?_); refine zr ?hg (N := 4) ?hd (cs := #[.int .i64 0, .int .i64 0]) (t := 59) ?hr ?_; (case hd => rfl); (case hg => rfl); (case hr => first | (go_simp; done) | (go_simp; rfl)); intro gb102 hg w5 hbox hb; have n0_ := zA.mk (zJ (g := gb101) (o := .cells #[.int .i64 a0_0, .int .i64 a0_1] 59 (0, 0)) (by (with_reducible repeat (first | refine zH ?_ _ | refine zI ?_ | refine zF ?_ _)); exact BK101.out) hb); have n1_ := zA.mk (zN (by repeat (first | (with_reducible first | exact HB.out | apply zC | apply zB | apply zD | refine zE ?_ GE101.out) | exact HB.out)) hb); have n2_ := zA.mk (hbox); have n3_ := zA.mk ((by rw [hg]; exact (zO (by repeat (first | (with_reducible first | exact HB.out | apply zC | apply zB | apply zD | refine zE ?_ GE101.out) | exact HB.out))) : w.heap.size ≤ gb102)); have n4_ := zA.mk ((by rw [hg]; exact (zO (by repeat (first | (with_reducible first | exact HB.out | apply zC | apply zB | apply zD | refine zE ?_ GE101.out) | exact HB.out))) : w.heap.size ≤ gb102)); have n5_ := zA.mk ((by rw [hg]; exact Nat.ne_of_lt (zt (g := gb101) (o := .cells #[.int .i64 a0_0, .int .i64 a0_1] 59 (0, 0)) (by (with_reducible repeat (first | refine zH ?_ _ | refine zI ?_ | refine zF ?_ _)); exact BK101.out)) : gb101 ≠ gb102)); have n6_ := zA.mk ((by rw [hg]; exact Nat.ne_of_gt (zt (g := gb101) (o := .cells #[.int .i64 a0_0, .int .i64 a0_1] 59 (0, 0)) (by (with_reducible repeat (first | refine zH ?_ _ | refine zI ?_ | refine zF ?_ _)); exact BK101.out)) : gb102 ≠ gb101)); clear BK101; clear HB; have BK101 := n0_; have HB := n1_; have BK102 := n2_; have GW102 := n3_; have GE102 := n4_; have NB101_102 := n5_; have NB102_101 := n6_; clear n0_ n1_ n2_ n3_ n4_ n5_ n6_; clear hb hbox hg; have hnb6 := NB101_102.out; have hnc6 := NB102_101.out; have hcz7_0 : w5.cell? ⟨gb101, 0, none⟩ = some (.int .i64 a0_0) := (zL BK101.out 0).trans rfl; have hcz7_1 : w5.cell? ⟨gb101, 1, none⟩ = some (.int .i64 a0_1) := (zL BK101.out 1).trans rfl; have hfz7_0 := zQ BK101.out 0; have hfz7_1 := zQ BK101.out 1) | ((with_reducible refine zf (f := 139) rfl ?_); refine qT (some 8) rfl rfl Try.func139 (by kernel_rfl) rfl #[.int .i64 a0_1] rfl (by (try simp only [yiy, yjy, yky]); first | done | rfl | (simp only [yly, ymy]; rfl)) ?_; (with_reducible refine (Zk.calls a0_1 t103 _ A3.out).mono ?_); rintro e w8 ⟨rfl, hb⟩; refine ⟨_, rfl, ?_⟩; have n0_ := zA.mk (zJ (g := gb101) (o := .cells #[.int .i64 a0_0, .int .i64 a0_1] 59 (0, 0)) (by (with_reducible repeat (first | refine zH ?_ _ | refine zI ?_ | refine zF ?_ _)); exact BK101.out) hb); have n1_ := zA.mk (zJ (g := gb102) (o := .cells #[.int .i64 0, .int .i64 0] 59 (0, 0)) (by (with_reducible repeat (first | refine zH ?_ _ | refine zI ?_ | refine zF ?_ _)); exact BK102.out) hb); have n2_ := zA.mk (zN (by repeat (first | (with_reducible first | exact HB.out | apply zC | apply zB | apply zD | refine zE ?_ GE101.out | refine zE ?_ GE102.out) | exact HB.out)) hb); clear BK101; clear BK102; clear HB; have BK101 := n0_; have BK102 := n1_; have HB := n2_; clear n0_ n1_ n2_; (try clear hb); (try clear hb2); (try clear hk); (try clear hi); have hcz9_0 : w8.cell? ⟨gb102, 0, none⟩ = some (.int .i64 0) := (zL BK102.out 0).trans rfl; have hcz9_1 : w8.cell? ⟨gb102, 1, none⟩ = some (.int .i64 0) := (zL BK102.out 1).trans rfl; have hfz9_0 := zQ BK102.out 0; have hfz9_1 := zQ BK102.out 1))
  refine bodyPost_ret (results_cell_row rfl _ _ gb102 59 #[.int .i64 a1, .int .i64 t103] (0, 0) _ rfl (by (with_reducible repeat (first | refine zH ?_ _ | refine zI ?_ | refine zF ?_ _)); refine qc (cs := #[.int .i64 a1, .int .i64 0]) ?_ 1 _ rfl; (with_reducible repeat (first | refine zH ?_ _ | refine zI ?_ | refine zF ?_ _)); refine qc (cs := #[.int .i64 0, .int .i64 0]) ?_ 0 _ rfl; (with_reducible repeat (first | refine zH ?_ _ | refine zI ?_ | refine zF ?_ _)); exact BK102.out) Try.underlying59 rfl (by kernel_rfl)) rfl ?_
  exact ⟨by first | rfl | (simp [zb, zc] <;> rfl) | (simp [*, zb, zc] <;> rfl), by repeat (first | (with_reducible first | exact HB.out | apply zC | apply zB | apply zD | refine zE ?_ GE101.out | refine zE ?_ GE102.out) | exact HB.out)⟩
def ZB.f (a0_0 : Int) (a0_1 : Int) (a1 : Int) : Option Int := if 0 ≤ a0_1 ∧ a0_1 ≤ 23 ∧ 0 ≤ a1 ∧ a1 ≤ 3 then some (rd (Zb a0_1) a1) else none
set_option maxHeartbeats 800000 in
set_option maxRecDepth 100000 in
theorem ZB.calls (a0_0 : Int) (a0_1 : Int) (a1 : Int) (r : Int) (w : World) (h : ZB.f a0_0 a0_1 a1 = some r) :
    Calls Try.prog 41 #[.agg #[.int .i64 a0_0, .int .i64 a0_1], .int .i64 a1] w fun e w' => e = .returned (.int .i64 r) ∧ Below w.heap.size w w' := by
  unfold ZB.f at h
  by_cases hc : 0 ≤ a0_1 ∧ a0_1 ≤ 23 ∧ 0 ≤ a1 ∧ a1 ≤ 3
  · rw [if_pos hc] at h
    obtain ⟨h0, h1, hf0, hf1⟩ := hc
    have ix := QM (qG a0_1 0) (qG a0_1 1) (qG a0_1 2) (qG a0_1 3) a1 hf0 hf1
    have H0 := zA.mk h0
    have H1 := zA.mk h1
    clear h0 h1
    have hr : rd [qG a0_1 0, qG a0_1 1, qG a0_1 2, qG a0_1 3] a1 = r := yey h
    rw [hr] at ix
    clear hr h
    go_enter Try.func41, Try.ntmps41
    go_wp2_with fail
    refine (JS.calls _ _ H0.out H1.out).mono ?_
    rintro e w' ⟨rfl, hb⟩
    have HB := zA.mk (zN (zC (ypy _ _) _) hb)
    clear hb
    go_wp2
    go_ret
    exact ⟨rfl, HB.out⟩
  · rw [if_neg hc] at h
    exact absurd h (by simp)
def ZP.f (a0 : Int) (a1 : Int) (a2 : Int) : Option (Bool) := if a1 ≤ a0 then (some (decide (a0 ≤ a2))) else (some false)
set_option maxHeartbeats 8000000 in
set_option maxRecDepth 100000 in
theorem ZP.calls (a0 : Int) (a1 : Int) (a2 : Int) (r : Bool) (w : World) (h : ZP.f a0 a1 a2 = some r) :
    Calls Try.prog 51 #[.int .i64 a0, .int .i64 a1, .int .i64 a2] w fun e w' => e = .returned (.bool r) ∧ qA w w' := by
  have H : (if a1 ≤ a0 then (some (decide (a0 ≤ a2))) else (some false)) = some r := h
  clear h
  by_cases c4 : a1 ≤ a0
  · rw [if_pos c4] at H
    have c4b0 : decide (a1 ≤ a0) = true := ygy c4
    clear c4
    obtain rfl := yey H
    go_enter Try.func51, Try.ntmps51
    go_wp2
    go_ret
    exact ⟨by first | rfl | (simp; done) | (simp [*]; done), by repeat (first | exact qA.refl _ | apply qA.step)⟩
  · rw [if_neg c4] at H
    have c4b0 : decide (a1 ≤ a0) = false := yhy c4
    clear c4
    obtain rfl := yey H
    go_enter Try.func51, Try.ntmps51
    go_wp2
    go_ret
    exact ⟨by first | rfl | (simp; done) | (simp [*]; done), by repeat (first | exact qA.refl _ | apply qA.step)⟩
def qa.f (l0 : List (List (qJ))) (a1 : Int) : Option (Bool) := (qO.f l0).bind fun t101 => ((ZP.f a1 0 (wrap64 (t101 - 1))).bind fun t102 => (some t102))
set_option maxHeartbeats 8000000 in
set_option maxRecDepth 100000 in
theorem qa.calls (A0 : Option Addr) (c0 : Nat) (l0 : List (List (qJ))) (a1 : Int) (r : Bool) (w : World) (hr0 : Kd.C (Kd.slice 59 ZK) w A0 l0.length l0) (hc0 : l0.length ≤ c0) (h : qa.f l0 a1 = some r) :
    Calls Try.prog 132 #[.slice A0 l0.length c0, .int .i64 a1] w fun e w' => e = .returned (.bool r) ∧ qA w w' := by
  have HR0 := zA.mk hr0
  have HC0 := zA.mk hc0
  clear hr0 hc0
  have H : ((qO.f l0).bind fun t101 => ((ZP.f a1 0 (wrap64 (t101 - 1))).bind fun t102 => (some t102))) = some r := h
  clear h
  replace H := ydy.mp H
  obtain ⟨t101, A30, H⟩ := H
  replace H : ((ZP.f a1 0 (wrap64 (t101 - 1))).bind fun t102 => (some t102)) = some r := H
  have A3 := zA.mk A30
  clear A30
  replace H := ydy.mp H
  obtain ⟨t102, A40, H⟩ := H
  replace H : (some t102) = some r := H
  have A4 := zA.mk A40
  clear A40
  obtain rfl := yey H
  go_enter Try.func132, Try.ntmps132
  go_wp2_with (first | ((with_reducible refine zf (f := 46) rfl ?_); refine qT (some 7) rfl rfl Try.func46 (by kernel_rfl) rfl #[.slice A0 l0.length c0] rfl (by (try simp only [yiy, yjy, yky]); first | done | rfl | (simp only [yly, ymy]; rfl)) ?_; (with_reducible refine (qO.calls _ _ l0 t101 _ ?side1 ?side2 A3.out).mono ?_); (case side1 => repeat (first | exact HR0.out | (with_reducible refine Kd.zn ?_ _) | (with_reducible refine Kd.zo ?_ _) | (with_reducible refine Kd.qD ?_))); (case side2 => exact HC0.out); rintro e w' ⟨rfl, ⟨nd, rfl⟩⟩; refine ⟨_, rfl, ?_⟩) | ((with_reducible refine zf (f := 51) rfl ?_); refine qT (some 9) rfl rfl Try.func51 (by kernel_rfl) rfl #[.int .i64 a1, .int .i64 0, .int .i64 (wrap64 (t101 - 1))] rfl (by (try simp only [yiy, yjy, yky]); first | done | rfl | (simp only [yly, ymy]; rfl)) ?_; (with_reducible refine (ZP.calls a1 0 (wrap64 (t101 - 1)) t102 _ A4.out).mono ?_); rintro e w' ⟨rfl, ⟨nd, rfl⟩⟩; refine ⟨_, rfl, ?_⟩))
  go_ret
  exact ⟨by first | rfl | (simp; done) | (simp [*]; done), by repeat (first | exact qA.refl _ | apply qA.step)⟩
def Zl.f (a0 : Int) : Option (Bool) := (ZP.f a0 0 23).bind fun t101 => (some t101)
set_option maxHeartbeats 8000000 in
set_option maxRecDepth 100000 in
theorem Zl.calls (a0 : Int) (r : Bool) (w : World) (h : Zl.f a0 = some r) :
    Calls Try.prog 133 #[.int .i64 a0] w fun e w' => e = .returned (.bool r) ∧ qA w w' := by
  have H : ((ZP.f a0 0 23).bind fun t101 => (some t101)) = some r := h
  clear h
  replace H := ydy.mp H
  obtain ⟨t101, A20, H⟩ := H
  replace H : (some t101) = some r := H
  have A2 := zA.mk A20
  clear A20
  obtain rfl := yey H
  go_enter Try.func133, Try.ntmps133
  go_wp2_with (first | ((with_reducible refine zf (f := 51) rfl ?_); refine qT (some 4) rfl rfl Try.func51 (by kernel_rfl) rfl #[.int .i64 a0, .int .i64 0, .int .i64 23] rfl (by (try simp only [yiy, yjy, yky]); first | done | rfl | (simp only [yly, ymy]; rfl)) ?_; (with_reducible refine (ZP.calls a0 0 23 t101 _ A2.out).mono ?_); rintro e w' ⟨rfl, ⟨nd, rfl⟩⟩; refine ⟨_, rfl, ?_⟩))
  go_ret
  exact ⟨by first | rfl | (simp; done) | (simp [*]; done), by repeat (first | exact qA.refl _ | apply qA.step)⟩
section
attribute [local go_sem high] eqA59
def zU.j0 : Nat → Int → Int → Bool → List (List (qJ)) → Int → Int → Option (Bool)
 | 0, _, _, _, _, _, _ => none
 | k + 1, x1, x2, x34, x102000, x105000, x105001 => if x34 = true then (some false) else ((ZB.f x105000 x105001 x2).bind fun t107 => (if 0 ≤ x105000 then (if x105000 < (x102000.length : Int) then (if 0 ≤ t107 then (if t107 < ((zG x102000 x105000).length : Int) then ((ql.f x105000 x105001 x1).bind fun bt110 => (if (((zK (zG x102000 x105000) t107).f0) == bt110.1 && (((zK (zG x102000 x105000) t107).f1) == bt110.2)) = true then (if x105000 = x1 then (some (t107 != x2)) else (some true)) else (some false))) else (none)) else (none)) else (none)) else (none)))
def zU.f (k : Nat) (l0_0 : List (List (qJ))) (a1 : Int) (a2 : Int) : Option (Bool) := if 0 ≤ a1 then (if a1 < (l0_0.length : Int) then (if 0 ≤ a2 then (if a2 < ((zG l0_0 a1).length : Int) then (if ((zK (zG l0_0 a1) a2).f0) = (-1) then (some (((zK (zG l0_0 a1) a2).f1) == 0)) else ((qa.f l0_0 ((zK (zG l0_0 a1) a2).f0)).bind fun t105 => (if t105 = true then ((Zl.f ((zK (zG l0_0 a1) a2).f1)).bind fun t106 => (zU.j0 k a1 a2 (!t106) l0_0 ((zK (zG l0_0 a1) a2).f0) ((zK (zG l0_0 a1) a2).f1))) else (zU.j0 k a1 a2 true l0_0 ((zK (zG l0_0 a1) a2).f0) ((zK (zG l0_0 a1) a2).f1))))) else (none)) else (none)) else (none)) else (none)
def zU.T7 : Bool × List (List Nat × List Nat) := (true, [([], []), ([0], [0]), ([], []), ([2], [2]), ([1, 3], [1, 3]), ([4], [4]), ([], []), ([5, 6], [5, 6]), ([7], [7]), ([], []), ([], []), ([9, 10], [9, 10]), ([8, 11], [8, 11]), ([12, 11], [12]), ([13], [13]), ([14, 13], [13, 14]), ([13], [13]), ([15, 16, 13], [13, 15, 16]), ([17, 13, 13], [13, 17]), ([18], [18]), ([18], [18]), ([19, 20, 18], [18, 19, 20]), ([18, 21, 13], [13, 18, 21]), ([13, 22], [13, 22]), ([23, 18, 0, 1, 2, 3, 4, 5, 6, 7, 8, 9, 10, 11, 12, 13, 14, 15, 16, 17, 18, 19, 20, 21, 22, 23], [23])])
def zU.B7 : List Nat := [0, 1, 0, 4, 15, 31, 0, 127, 255, 0, 0, 1536, 4095, 8191, 16383, 32767, 16383, 131071, 262143, 524287, 524287, 2097151, 4194303, 8388607, 16777215]
theorem zU.tab7 : Jw .any (opsOf Try.f100 7) = zU.T7 := by kernel_rfl
theorem zU.zEH : Qr zU.T7.2 zU.B7 = true := by kernel_rfl
set_option maxHeartbeats 8000000 in
set_option maxRecDepth 100000 in
theorem zU.calls (k : Nat) (A0_0 : Option Addr) (c0_0 : Nat) (l0_0 : List (List (qJ))) (a1 : Int) (a2 : Int) (r : Bool) (w : World) (hr0_0 : Kd.C (Kd.slice 59 ZK) w A0_0 l0_0.length l0_0) (hc0_0 : l0_0.length ≤ c0_0) (h : zU.f k l0_0 a1 a2 = some r) :
 Calls Try.prog 100 #[.agg #[.slice A0_0 l0_0.length c0_0], .int .i64 a1, .int .i64 a2] w fun e w' => e = .returned (.bool r) ∧ Below w.heap.size w w' := by
 have hu30 := Try.underlying30
 have hu59 := Try.underlying59
 have HR0_0 := zA.mk hr0_0
 have HC0_0 := zA.mk hc0_0
 clear hr0_0 hc0_0
 have HB := zA.mk (ypy w.heap.size w)
 have H : (if 0 ≤ a1 then (if a1 < (l0_0.length : Int) then (if 0 ≤ a2 then (if a2 < ((zG l0_0 a1).length : Int) then (if ((zK (zG l0_0 a1) a2).f0) = (-1) then (some (((zK (zG l0_0 a1) a2).f1) == 0)) else ((qa.f l0_0 ((zK (zG l0_0 a1) a2).f0)).bind fun t105 => (if t105 = true then ((Zl.f ((zK (zG l0_0 a1) a2).f1)).bind fun t106 => (zU.j0 k a1 a2 (!t106) l0_0 ((zK (zG l0_0 a1) a2).f0) ((zK (zG l0_0 a1) a2).f1))) else (zU.j0 k a1 a2 true l0_0 ((zK (zG l0_0 a1) a2).f0) ((zK (zG l0_0 a1) a2).f1))))) else (none)) else (none)) else (none)) else (none)) = some r := h
 clear h
 by_cases c4 : 0 ≤ a1
 rotate_left
 next =>
  rw [if_neg c4] at H
  exact absurd H (by simp)
 rw [if_pos c4] at H
 have c4b0 : decide (0 ≤ a1) = true := ygy c4
 clear c4
 by_cases c5 : a1 < (l0_0.length : Int)
 rotate_left
 next =>
  rw [if_neg c5] at H
  exact absurd H (by simp)
 rw [if_pos c5] at H
 have c5b0 : decide (a1 < (l0_0.length : Int)) = true := ygy c5
 clear c5
 by_cases c6 : 0 ≤ a2
 rotate_left
 next =>
  rw [if_neg c6] at H
  exact absurd H (by simp)
 rw [if_pos c6] at H
 have c6b0 : decide (0 ≤ a2) = true := ygy c6
 clear c6
 by_cases c7 : a2 < ((zG l0_0 a1).length : Int)
 rotate_left
 next =>
  rw [if_neg c7] at H
  exact absurd H (by simp)
 rw [if_pos c7] at H
 have c7b0 : decide (a2 < ((zG l0_0 a1).length : Int)) = true := ygy c7
 clear c7
 by_cases c8 : ((zK (zG l0_0 a1) a2).f0) = (-1)
 next =>
  rw [if_pos c8] at H
  have c8b0 : (((zK (zG l0_0 a1) a2).f0) == (-1)) = true := beq_iff_eq.mpr c8
  have c8b1 : (((zK (zG l0_0 a1) a2).f0) != (-1)) = false := bne_eq_false_iff_eq.mpr c8
  clear c8
  obtain rfl := yey H
  go_enter Try.func100, Try.ntmps100
  go_wp2_with (first | ((with_reducible refine zq (N := 3) rfl ?_); refine zr ?hg (N := 3) ?hd (cs := #[.slice A0_0 l0_0.length c0_0]) (t := 30) ?hr ?_; (case hd => rfl); (case hg => rfl); (case hr => first | (go_simp; done) | (go_simp; rfl)); intro gb101 hg w9 hbox hb; have n0_ := zA.mk (zN (by repeat (first | (with_reducible first | exact HB.out | apply zC | apply zB | apply zD) | exact HB.out)) hb); have n1_ := zA.mk (hbox); have n2_ := zA.mk ((by rw [hg]; exact (zO (by repeat (first | (with_reducible first | exact HB.out | apply zC | apply zB | apply zD) | exact HB.out))) : w.heap.size ≤ gb101)); have n3_ := zA.mk ((by rw [hg]; exact (zO (by repeat (first | (with_reducible first | exact HB.out | apply zC | apply zB | apply zD) | exact HB.out))) : w.heap.size ≤ gb101)); clear HB; have HB := n0_; have BK101 := n1_; have GW101 := n2_; have GE101 := n3_; clear n0_ n1_ n2_ n3_; clear hb hbox hg; have hcz10_0 : w9.cell? ⟨gb101, 0, none⟩ = some (.slice A0_0 l0_0.length c0_0) := (zL BK101.out 0).trans rfl; have hfz10_0 := zQ BK101.out 0; have p102 : 0 ≤ (a1 : Int) := of_decide_eq_true (by first | (with_reducible assumption) | assumption); have q102 : a1 < (l0_0.length : Int) := of_decide_eq_true (by first | (with_reducible assumption) | assumption); obtain ⟨ad102, A102_0, c102_0, e102, hx102_0, hl102_0, hi102_0⟩ := ZA HR0_0.out a1 p102 q102; cases e102; replace hx102_0 := (HB.out.cell (yny w _ hx102_0)).trans hx102_0; have HR102_0 := zA.mk hi102_0; have HC102_0 := zA.mk hl102_0; clear hi102_0 hl102_0; replace p102 := eq_true p102; replace q102 := eq_true q102; have p103 : 0 ≤ (a2 : Int) := of_decide_eq_true (by first | (with_reducible assumption) | assumption); have q103 : a2 < ((zG l0_0 a1).length : Int) := of_decide_eq_true (by first | (with_reducible assumption) | assumption); obtain ⟨ad103, e103, hx103_0, hx103_1⟩ := ZZ HR102_0.out a2 p103 q103; cases e103; replace hx103_0 := (HB.out.cell (yny w _ hx103_0)).trans hx103_0; replace hx103_1 := (HB.out.cell (yny w _ hx103_1)).trans hx103_1; replace p103 := eq_true p103; replace q103 := eq_true q103) | ((with_reducible refine zq (N := 7) rfl ?_); refine zr ?hg (N := 7) ?hd (cs := #[.int .i64 0, .int .i64 0]) (t := 59) ?hr ?_; (case hd => rfl); (case hg => rfl); (case hr => first | (go_simp; done) | (go_simp; rfl)); intro gb104 hg w11 hbox hb; have n0_ := zA.mk (zJ (g := gb101) (o := .cells #[.slice (some ad102) l0_0.length c0_0] 30 (0, 0)) (by (with_reducible repeat (first | refine zH ?_ _ | refine zI ?_ | refine zF ?_ _)); exact BK101.out) hb); have n1_ := zA.mk (zN (by repeat (first | (with_reducible first | exact HB.out | apply zC | apply zB | apply zD | refine zE ?_ GE101.out) | exact HB.out)) hb); have n2_ := zA.mk (hbox); have n3_ := zA.mk ((by rw [hg]; exact (zO (by repeat (first | (with_reducible first | exact HB.out | apply zC | apply zB | apply zD | refine zE ?_ GE101.out) | exact HB.out))) : w.heap.size ≤ gb104)); have n4_ := zA.mk ((by rw [hg]; exact (zO (by repeat (first | (with_reducible first | exact HB.out | apply zC | apply zB | apply zD | refine zE ?_ GE101.out) | exact HB.out))) : w.heap.size ≤ gb104)); have n5_ := zA.mk ((by rw [hg]; exact Nat.ne_of_lt (zt (g := gb101) (o := .cells #[.slice (some ad102) l0_0.length c0_0] 30 (0, 0)) (by (with_reducible repeat (first | refine zH ?_ _ | refine zI ?_ | refine zF ?_ _)); exact BK101.out)) : gb101 ≠ gb104)); have n6_ := zA.mk ((by rw [hg]; exact Nat.ne_of_gt (zt (g := gb101) (o := .cells #[.slice (some ad102) l0_0.length c0_0] 30 (0, 0)) (by (with_reducible repeat (first | refine zH ?_ _ | refine zI ?_ | refine zF ?_ _)); exact BK101.out)) : gb104 ≠ gb101)); clear BK101; clear HB; have BK101 := n0_; have HB := n1_; have BK104 := n2_; have GW104 := n3_; have GE104 := n4_; have NB101_104 := n5_; have NB104_101 := n6_; clear n0_ n1_ n2_ n3_ n4_ n5_ n6_; clear hb hbox hg; have hnb12 := NB104_101.out; have hnc12 := NB101_104.out; have hcz13_0 : w11.cell? ⟨gb104, 0, none⟩ = some (.int .i64 0) := (zL BK104.out 0).trans rfl; have hcz13_1 : w11.cell? ⟨gb104, 1, none⟩ = some (.int .i64 0) := (zL BK104.out 1).trans rfl; have hfz13_0 := zQ BK104.out 0; have hfz13_1 := zQ BK104.out 1))
  go_ret
  exact ⟨by first | rfl | (simp [zb, zc] <;> rfl) | (simp [*, zb, zc] <;> rfl), by repeat (first | (with_reducible first | exact HB.out | apply zC | apply zB | apply zD | refine zE ?_ GE101.out | refine zE ?_ GE104.out) | exact HB.out)⟩
 next =>
  rw [if_neg c8] at H
  have c8b0 : (((zK (zG l0_0 a1) a2).f0) == (-1)) = false := beq_eq_false_iff_ne.mpr c8
  have c8b1 : (((zK (zG l0_0 a1) a2).f0) != (-1)) = true := bne_iff_ne.mpr c8
  have HC14 := zA.mk H
  clear H
  go_enter Try.func100, Try.ntmps100
  go_upto_region 4 with (first | ((with_reducible refine zq (N := 3) rfl ?_); refine zr ?hg (N := 3) ?hd (cs := #[.slice A0_0 l0_0.length c0_0]) (t := 30) ?hr ?_; (case hd => rfl); (case hg => rfl); (case hr => first | (go_simp; done) | (go_simp; rfl)); intro gb101 hg w15 hbox hb; have n0_ := zA.mk (zN (by repeat (first | (with_reducible first | exact HB.out | apply zC | apply zB | apply zD) | exact HB.out)) hb); have n1_ := zA.mk (hbox); have n2_ := zA.mk ((by rw [hg]; exact (zO (by repeat (first | (with_reducible first | exact HB.out | apply zC | apply zB | apply zD) | exact HB.out))) : w.heap.size ≤ gb101)); have n3_ := zA.mk ((by rw [hg]; exact (zO (by repeat (first | (with_reducible first | exact HB.out | apply zC | apply zB | apply zD) | exact HB.out))) : w.heap.size ≤ gb101)); clear HB; have HB := n0_; have BK101 := n1_; have GW101 := n2_; have GE101 := n3_; clear n0_ n1_ n2_ n3_; clear hb hbox hg; have hcz16_0 : w15.cell? ⟨gb101, 0, none⟩ = some (.slice A0_0 l0_0.length c0_0) := (zL BK101.out 0).trans rfl; have hfz16_0 := zQ BK101.out 0; have p102 : 0 ≤ (a1 : Int) := of_decide_eq_true (by first | (with_reducible assumption) | assumption); have q102 : a1 < (l0_0.length : Int) := of_decide_eq_true (by first | (with_reducible assumption) | assumption); obtain ⟨ad102, A102_0, c102_0, e102, hx102_0, hl102_0, hi102_0⟩ := ZA HR0_0.out a1 p102 q102; cases e102; replace hx102_0 := (HB.out.cell (yny w _ hx102_0)).trans hx102_0; have HR102_0 := zA.mk hi102_0; have HC102_0 := zA.mk hl102_0; clear hi102_0 hl102_0; replace p102 := eq_true p102; replace q102 := eq_true q102; have p103 : 0 ≤ (a2 : Int) := of_decide_eq_true (by first | (with_reducible assumption) | assumption); have q103 : a2 < ((zG l0_0 a1).length : Int) := of_decide_eq_true (by first | (with_reducible assumption) | assumption); obtain ⟨ad103, e103, hx103_0, hx103_1⟩ := ZZ HR102_0.out a2 p103 q103; cases e103; replace hx103_0 := (HB.out.cell (yny w _ hx103_0)).trans hx103_0; replace hx103_1 := (HB.out.cell (yny w _ hx103_1)).trans hx103_1; replace p103 := eq_true p103; replace q103 := eq_true q103) | ((with_reducible refine zq (N := 7) rfl ?_); refine zr ?hg (N := 7) ?hd (cs := #[.int .i64 0, .int .i64 0]) (t := 59) ?hr ?_; (case hd => rfl); (case hg => rfl); (case hr => first | (go_simp; done) | (go_simp; rfl)); intro gb104 hg w17 hbox hb; have n0_ := zA.mk (zJ (g := gb101) (o := .cells #[.slice (some ad102) l0_0.length c0_0] 30 (0, 0)) (by (with_reducible repeat (first | refine zH ?_ _ | refine zI ?_ | refine zF ?_ _)); exact BK101.out) hb); have n1_ := zA.mk (zN (by repeat (first | (with_reducible first | exact HB.out | apply zC | apply zB | apply zD | refine zE ?_ GE101.out) | exact HB.out)) hb); have n2_ := zA.mk (hbox); have n3_ := zA.mk ((by rw [hg]; exact (zO (by repeat (first | (with_reducible first | exact HB.out | apply zC | apply zB | apply zD | refine zE ?_ GE101.out) | exact HB.out))) : w.heap.size ≤ gb104)); have n4_ := zA.mk ((by rw [hg]; exact (zO (by repeat (first | (with_reducible first | exact HB.out | apply zC | apply zB | apply zD | refine zE ?_ GE101.out) | exact HB.out))) : w.heap.size ≤ gb104)); have n5_ := zA.mk ((by rw [hg]; exact Nat.ne_of_lt (zt (g := gb101) (o := .cells #[.slice (some ad102) l0_0.length c0_0] 30 (0, 0)) (by (with_reducible repeat (first | refine zH ?_ _ | refine zI ?_ | refine zF ?_ _)); exact BK101.out)) : gb101 ≠ gb104)); have n6_ := zA.mk ((by rw [hg]; exact Nat.ne_of_gt (zt (g := gb101) (o := .cells #[.slice (some ad102) l0_0.length c0_0] 30 (0, 0)) (by (with_reducible repeat (first | refine zH ?_ _ | refine zI ?_ | refine zF ?_ _)); exact BK101.out)) : gb104 ≠ gb101)); clear BK101; clear HB; have BK101 := n0_; have HB := n1_; have BK104 := n2_; have GW104 := n3_; have GE104 := n4_; have NB101_104 := n5_; have NB104_101 := n6_; clear n0_ n1_ n2_ n3_ n4_ n5_ n6_; clear hb hbox hg; have hnb18 := NB104_101.out; have hnc18 := NB101_104.out; have hcz19_0 : w17.cell? ⟨gb104, 0, none⟩ = some (.int .i64 0) := (zL BK104.out 0).trans rfl; have hcz19_1 : w17.cell? ⟨gb104, 1, none⟩ = some (.int .i64 0) := (zL BK104.out 1).trans rfl; have hfz19_0 := zQ BK104.out 0; have hfz19_1 := zQ BK104.out 1))
  (try simp only [Act.put, yay, yby, ycy])
  go_cut [34] (fun v34 wc => ∃ (kq : Nat) (x34_13 : Bool), v34 = .bool x34_13 ∧ zA (zU.j0 kq a1 a2 x34_13 l0_0 ((zK (zG l0_0 a1) a2).f0) ((zK (zG l0_0 a1) a2).f1) = some r) ∧ zA (kq ≤ k) ∧ zA (wc.heap[gb101]? = some (.cells #[(.slice (some ad102) l0_0.length c0_0)] 30 (0, 0))) ∧ zA (wc.heap[gb104]? = some (.cells #[.int .i64 ((zK (zG l0_0 a1) a2).f0), .int .i64 ((zK (zG l0_0 a1) a2).f1)] 59 (0, 0))) ∧ zA (Below w.heap.size w wc))
  case first =>
   have H := HC14.out
   clear HC14
   replace H := ydy.mp H
   obtain ⟨t105, A200, H⟩ := H
   replace H : (if t105 = true then ((Zl.f ((zK (zG l0_0 a1) a2).f1)).bind fun t106 => (zU.j0 k a1 a2 (!t106) l0_0 ((zK (zG l0_0 a1) a2).f0) ((zK (zG l0_0 a1) a2).f1))) else (zU.j0 k a1 a2 true l0_0 ((zK (zG l0_0 a1) a2).f0) ((zK (zG l0_0 a1) a2).f1))) = some r := H
   have A20 := zA.mk A200
   clear A200
   by_cases c21 : t105 = true
   rotate_left
   next =>
    replace c21 := Bool.eq_false_iff.mpr c21
    subst c21
    have H1 : (zU.j0 k a1 a2 true l0_0 ((zK (zG l0_0 a1) a2).f0) ((zK (zG l0_0 a1) a2).f1)) = some r := by rw [if_neg (show ¬ (false = true) by decide)] at H; exact H
    clear H
    have H := H1
    clear H1
    have H' := zA.mk H
    clear H
    have hnb26 := NB101_104.out
    have hnc26 := NB104_101.out
    have hcz27_0 : w17.cell? ⟨gb101, 0, none⟩ = some (.slice (some ad102) l0_0.length c0_0) := (zL BK101.out 0).trans rfl
    have hfz27_0 := zQ BK101.out 0
    have hcz28_0 : w17.cell? ⟨gb104, 0, none⟩ = some (.int .i64 0) := (zL BK104.out 0).trans rfl
    have hcz28_1 : w17.cell? ⟨gb104, 1, none⟩ = some (.int .i64 0) := (zL BK104.out 1).trans rfl
    have hfz28_0 := zQ BK104.out 0
    have hfz28_1 := zQ BK104.out 1
    go_wp2_with (first | ((with_reducible refine zf (f := 132) rfl ?_); refine qT (some 27) rfl rfl Try.func132 (by kernel_rfl) rfl #[.slice (some ad102) l0_0.length c0_0, .int .i64 ((zK (zG l0_0 a1) a2).f0)] rfl (by (try simp only [yiy, yjy, yky]); first | done | rfl | (simp only [yly, ymy]; rfl)) ?_; (with_reducible refine (qa.calls _ _ l0_0 ((zK (zG l0_0 a1) a2).f0) false _ ?side1 ?side2 A20.out).mono ?_); (case side1 => exact Kd.zw HR0_0.out (by repeat (first | (with_reducible first | exact HB.out | apply zC | apply zB | apply zD | refine zE ?_ GE101.out | refine zE ?_ GE104.out) | exact HB.out))); (case side2 => exact HC0_0.out); rintro e w' ⟨rfl, ⟨nd, rfl⟩⟩; refine ⟨_, rfl, ?_⟩))
    go_meet
    case rel => exact ⟨_, (true), (by first | rfl | (simp; done) | (simp [*]; done)), H', ⟨by first | omega | exact yoy _⟩, ⟨by (with_reducible repeat (first | refine zH ?_ _ | refine zI ?_ | refine zF ?_ _)); refine qK ?_ NB101_104.out _; (with_reducible repeat (first | refine zH ?_ _ | refine zI ?_ | refine zF ?_ _)); refine qK ?_ NB101_104.out _; (with_reducible repeat (first | refine zH ?_ _ | refine zI ?_ | refine zF ?_ _)); exact BK101.out⟩, ⟨by (with_reducible repeat (first | refine zH ?_ _ | refine zI ?_ | refine zF ?_ _)); refine qc (cs := #[.int .i64 ((zK (zG l0_0 a1) a2).f0), .int .i64 0]) ?_ 1 _ rfl; (with_reducible repeat (first | refine zH ?_ _ | refine zI ?_ | refine zF ?_ _)); refine qc (cs := #[.int .i64 0, .int .i64 0]) ?_ 0 _ rfl; (with_reducible repeat (first | refine zH ?_ _ | refine zI ?_ | refine zF ?_ _)); exact BK104.out⟩, ⟨by repeat (first | (with_reducible first | exact HB.out | apply zC | apply zB | apply zD | refine zE ?_ GE101.out | refine zE ?_ GE104.out) | exact HB.out)⟩⟩
   subst c21
   have H1 : ((Zl.f ((zK (zG l0_0 a1) a2).f1)).bind fun t106 => (zU.j0 k a1 a2 (!t106) l0_0 ((zK (zG l0_0 a1) a2).f0) ((zK (zG l0_0 a1) a2).f1))) = some r := by rw [if_pos rfl] at H; exact H
   clear H
   have H := H1
   clear H1
   replace H := ydy.mp H
   obtain ⟨t106, A220, H⟩ := H
   replace H : (zU.j0 k a1 a2 (!t106) l0_0 ((zK (zG l0_0 a1) a2).f0) ((zK (zG l0_0 a1) a2).f1)) = some r := H
   have A22 := zA.mk A220
   clear A220
   have H' := zA.mk H
   clear H
   have hnb23 := NB101_104.out
   have hnc23 := NB104_101.out
   have hcz24_0 : w17.cell? ⟨gb101, 0, none⟩ = some (.slice (some ad102) l0_0.length c0_0) := (zL BK101.out 0).trans rfl
   have hfz24_0 := zQ BK101.out 0
   have hcz25_0 : w17.cell? ⟨gb104, 0, none⟩ = some (.int .i64 0) := (zL BK104.out 0).trans rfl
   have hcz25_1 : w17.cell? ⟨gb104, 1, none⟩ = some (.int .i64 0) := (zL BK104.out 1).trans rfl
   have hfz25_0 := zQ BK104.out 0
   have hfz25_1 := zQ BK104.out 1
   go_wp2_with (first | ((with_reducible refine zf (f := 132) rfl ?_); refine qT (some 27) rfl rfl Try.func132 (by kernel_rfl) rfl #[.slice (some ad102) l0_0.length c0_0, .int .i64 ((zK (zG l0_0 a1) a2).f0)] rfl (by (try simp only [yiy, yjy, yky]); first | done | rfl | (simp only [yly, ymy]; rfl)) ?_; (with_reducible refine (qa.calls _ _ l0_0 ((zK (zG l0_0 a1) a2).f0) true _ ?side1 ?side2 A20.out).mono ?_); (case side1 => exact Kd.zw HR0_0.out (by repeat (first | (with_reducible first | exact HB.out | apply zC | apply zB | apply zD | refine zE ?_ GE101.out | refine zE ?_ GE104.out) | exact HB.out))); (case side2 => exact HC0_0.out); rintro e w' ⟨rfl, ⟨nd, rfl⟩⟩; refine ⟨_, rfl, ?_⟩) | (go_at_call 133; (with_reducible refine (Zl.calls ((zK (zG l0_0 a1) a2).f1) t106 _ A22.out).mono ?_); rintro e w' ⟨rfl, ⟨nd, rfl⟩⟩))
   go_meet
   case rel => exact ⟨_, (!t106), (by first | rfl | (simp; done) | (simp [*]; done)), H', ⟨by first | omega | exact yoy _⟩, ⟨by (with_reducible repeat (first | refine zH ?_ _ | refine zI ?_ | refine zF ?_ _)); refine qK ?_ NB101_104.out _; (with_reducible repeat (first | refine zH ?_ _ | refine zI ?_ | refine zF ?_ _)); refine qK ?_ NB101_104.out _; (with_reducible repeat (first | refine zH ?_ _ | refine zI ?_ | refine zF ?_ _)); exact BK101.out⟩, ⟨by (with_reducible repeat (first | refine zH ?_ _ | refine zI ?_ | refine zF ?_ _)); refine qc (cs := #[.int .i64 ((zK (zG l0_0 a1) a2).f0), .int .i64 0]) ?_ 1 _ rfl; (with_reducible repeat (first | refine zH ?_ _ | refine zI ?_ | refine zF ?_ _)); refine qc (cs := #[.int .i64 0, .int .i64 0]) ?_ 0 _ rfl; (with_reducible repeat (first | refine zH ?_ _ | refine zI ?_ | refine zF ?_ _)); exact BK104.out⟩, ⟨by repeat (first | (with_reducible first | exact HB.out | apply zC | apply zB | apply zD | refine zE ?_ GE101.out | refine zE ?_ GE104.out) | exact HB.out)⟩⟩
  case rest =>
   clear HC14
   try clear c1
   try clear p1
   try clear q1
   try clear hx1
   try clear c2
   try clear p2
   try clear c4
   try clear c4b0
   try clear c5
   try clear c5b0
   try clear c6
   try clear c6b0
   try clear c7
   try clear c7b0
   try clear c8
   try clear c8b0
   try clear c8b1
   try clear c10
   try clear p10
   try clear q10
   try clear hx10
   try clear c12
   try clear c13
   try clear c18
   try clear c21
   try clear c23
   try clear c26
   try clear hcz10_0
   try clear hcz13_0
   try clear hcz13_1
   try clear hcz16_0
   try clear hcz19_0
   try clear hcz19_1
   try clear hcz24_0
   try clear hcz25_0
   try clear hcz25_1
   try clear hcz27_0
   try clear hcz28_0
   try clear hcz28_1
   try clear hfz10_0
   try clear hfz13_0
   try clear hfz13_1
   try clear hfz16_0
   try clear hfz19_0
   try clear hfz19_1
   try clear hfz24_0
   try clear hfz25_0
   try clear hfz25_1
   try clear hfz27_0
   try clear hfz28_0
   try clear hfz28_1
   try clear hx102_0
   try clear hx103_0
   try clear hx103_1
   try clear p102
   try clear p103
   try clear q102
   try clear q103
   obtain ⟨kq, x34_13, rfl, HA, HJ13, BK101, BK104, HB⟩ := hcut
   cases kq with
   | zero => exact absurd HA.out (by simp [zU.j0])
   | succ kj13 =>
    have H := HA.out
    clear HA
    simp only [zU.j0] at H
    by_cases c29 : x34_13 = true
    next =>
     subst c29
     have H1 : (some false) = some r := by rw [if_pos rfl] at H; exact H
     clear H
     have H := H1
     clear H1
     obtain rfl := yey H
     go_wp2
     go_ret
     exact ⟨by first | rfl | (simp [zb, zc] <;> rfl) | (simp [*, zb, zc] <;> rfl), by repeat (first | (with_reducible first | exact HB.out | apply zC | apply zB | apply zD | refine zE ?_ GE101.out | refine zE ?_ GE104.out) | exact HB.out)⟩
    next =>
     replace c29 := Bool.eq_false_iff.mpr c29
     subst c29
     have H1 : ((ZB.f ((zK (zG l0_0 a1) a2).f0) ((zK (zG l0_0 a1) a2).f1) a2).bind fun t107 => (if 0 ≤ ((zK (zG l0_0 a1) a2).f0) then (if ((zK (zG l0_0 a1) a2).f0) < (l0_0.length : Int) then (if 0 ≤ t107 then (if t107 < ((zG l0_0 ((zK (zG l0_0 a1) a2).f0)).length : Int) then ((ql.f ((zK (zG l0_0 a1) a2).f0) ((zK (zG l0_0 a1) a2).f1) a1).bind fun bt110 => (if (((zK (zG l0_0 ((zK (zG l0_0 a1) a2).f0)) t107).f0) == bt110.1 && (((zK (zG l0_0 ((zK (zG l0_0 a1) a2).f0)) t107).f1) == bt110.2)) = true then (if ((zK (zG l0_0 a1) a2).f0) = a1 then (some (t107 != a2)) else (some true)) else (some false))) else (none)) else (none)) else (none)) else (none))) = some r := by rw [if_neg (show ¬ (false = true) by decide)] at H; exact H
     clear H
     have H := H1
     clear H1
     replace H := ydy.mp H
     obtain ⟨t107, A300, H⟩ := H
     replace H : (if 0 ≤ ((zK (zG l0_0 a1) a2).f0) then (if ((zK (zG l0_0 a1) a2).f0) < (l0_0.length : Int) then (if 0 ≤ t107 then (if t107 < ((zG l0_0 ((zK (zG l0_0 a1) a2).f0)).length : Int) then ((ql.f ((zK (zG l0_0 a1) a2).f0) ((zK (zG l0_0 a1) a2).f1) a1).bind fun bt110 => (if (((zK (zG l0_0 ((zK (zG l0_0 a1) a2).f0)) t107).f0) == bt110.1 && (((zK (zG l0_0 ((zK (zG l0_0 a1) a2).f0)) t107).f1) == bt110.2)) = true then (if ((zK (zG l0_0 a1) a2).f0) = a1 then (some (t107 != a2)) else (some true)) else (some false))) else (none)) else (none)) else (none)) else (none)) = some r := H
     have A30 := zA.mk A300
     clear A300
     by_cases c31 : 0 ≤ ((zK (zG l0_0 a1) a2).f0)
     rotate_left
     next =>
      rw [if_neg c31] at H
      exact absurd H (by simp)
     rw [if_pos c31] at H
     have c31b0 : decide (0 ≤ ((zK (zG l0_0 a1) a2).f0)) = true := ygy c31
     clear c31
     by_cases c32 : ((zK (zG l0_0 a1) a2).f0) < (l0_0.length : Int)
     rotate_left
     next =>
      rw [if_neg c32] at H
      exact absurd H (by simp)
     rw [if_pos c32] at H
     have c32b0 : decide (((zK (zG l0_0 a1) a2).f0) < (l0_0.length : Int)) = true := ygy c32
     clear c32
     by_cases c33 : 0 ≤ t107
     rotate_left
     next =>
      rw [if_neg c33] at H
      exact absurd H (by simp)
     rw [if_pos c33] at H
     have c33b0 : decide (0 ≤ t107) = true := ygy c33
     clear c33
     by_cases c34 : t107 < ((zG l0_0 ((zK (zG l0_0 a1) a2).f0)).length : Int)
     rotate_left
     next =>
      rw [if_neg c34] at H
      exact absurd H (by simp)
     rw [if_pos c34] at H
     have c34b0 : decide (t107 < ((zG l0_0 ((zK (zG l0_0 a1) a2).f0)).length : Int)) = true := ygy c34
     clear c34
     replace H := ydy.mp H
     obtain ⟨⟨t110, t111⟩, A350, H⟩ := H
     replace H : (if (((zK (zG l0_0 ((zK (zG l0_0 a1) a2).f0)) t107).f0) == t110 && (((zK (zG l0_0 ((zK (zG l0_0 a1) a2).f0)) t107).f1) == t111)) = true then (if ((zK (zG l0_0 a1) a2).f0) = a1 then (some (t107 != a2)) else (some true)) else (some false)) = some r := H
     have A35 := zA.mk A350
     clear A350
     by_cases c36 : (((zK (zG l0_0 ((zK (zG l0_0 a1) a2).f0)) t107).f0) == t110 && (((zK (zG l0_0 ((zK (zG l0_0 a1) a2).f0)) t107).f1) == t111)) = true
     rotate_left
     next =>
      rw [if_neg c36] at H
      have c36b0 : (((zK (zG l0_0 ((zK (zG l0_0 a1) a2).f0)) t107).f0) == t110 && (((zK (zG l0_0 ((zK (zG l0_0 a1) a2).f0)) t107).f1) == t111)) = false := by simpa using c36
      (try (have c36b1 : decide (((zK (zG l0_0 ((zK (zG l0_0 a1) a2).f0)) t107).f0) = t110 && (((zK (zG l0_0 ((zK (zG l0_0 a1) a2).f0)) t107).f1) == t111)) = false := by simpa using c36))
      (try (have c36b2 : (((zK (zG l0_0 ((zK (zG l0_0 a1) a2).f0)) t107).f0) == t110 && (((zK (zG l0_0 ((zK (zG l0_0 a1) a2).f0)) t107).f1) == t111)) = false := by simpa using c36))
      (try (have c36b3 : ¬ (((zK (zG l0_0 ((zK (zG l0_0 a1) a2).f0)) t107).f0) = t110 && (((zK (zG l0_0 ((zK (zG l0_0 a1) a2).f0)) t107).f1) == t111)) := by simpa using c36))
      clear c36
      obtain rfl := yey H
      have hnb48 := NB104_101.out
      have hnc48 := NB101_104.out
      have hcz49_0 : wc.cell? ⟨gb104, 0, none⟩ = some (.int .i64 ((zK (zG l0_0 a1) a2).f0)) := (zL BK104.out 0).trans rfl
      have hcz49_1 : wc.cell? ⟨gb104, 1, none⟩ = some (.int .i64 ((zK (zG l0_0 a1) a2).f1)) := (zL BK104.out 1).trans rfl
      have hfz49_0 := zQ BK104.out 0
      have hfz49_1 := zQ BK104.out 1
      try go_wp2_with (first | ((with_reducible refine zf (f := 41) rfl ?_); refine qT (some 37) rfl rfl Try.func41 (by kernel_rfl) rfl #[.agg #[.int .i64 ((zK (zG l0_0 a1) a2).f0), .int .i64 ((zK (zG l0_0 a1) a2).f1)], .int .i64 a2] rfl (by (try simp only [yiy, yjy, yky]); first | done | rfl | (simp only [yly, ymy]; rfl)) ?_; (with_reducible refine (ZB.calls ((zK (zG l0_0 a1) a2).f0) ((zK (zG l0_0 a1) a2).f1) a2 t107 _ A30.out).mono ?_); rintro e w50 ⟨rfl, hb⟩; refine ⟨_, rfl, ?_⟩; have n0_ := zA.mk (zJ (g := gb101) (o := .cells #[.slice (some ad102) l0_0.length c0_0] 30 (0, 0)) (by (with_reducible repeat (first | refine zH ?_ _ | refine zI ?_ | refine zF ?_ _)); exact BK101.out) hb); have n1_ := zA.mk (zJ (g := gb104) (o := .cells #[.int .i64 ((zK (zG l0_0 a1) a2).f0), .int .i64 ((zK (zG l0_0 a1) a2).f1)] 59 (0, 0)) (by (with_reducible repeat (first | refine zH ?_ _ | refine zI ?_ | refine zF ?_ _)); exact BK104.out) hb); have n2_ := zA.mk (zN (by repeat (first | (with_reducible first | exact HB.out | apply zC | apply zB | apply zD | refine zE ?_ GE101.out | refine zE ?_ GE104.out) | exact HB.out)) hb); clear BK101; clear BK104; clear HB; have BK101 := n0_; have BK104 := n1_; have HB := n2_; clear n0_ n1_ n2_; (try clear hb); (try clear hb2); (try clear hk); (try clear hi)))
      have n0_ := zA.mk (zI BK101.out)
      have n1_ := zA.mk (zI BK104.out)
      have n2_ := zA.mk (zD HB.out)
      clear BK101
      clear BK104
      clear HB
      have BK101 := n0_
      have BK104 := n1_
      have HB := n2_
      clear n0_ n1_ n2_
      have p108 : 0 ≤ (((zK (zG l0_0 a1) a2).f0) : Int) := of_decide_eq_true (by first | (with_reducible assumption) | assumption)
      have q108 : ((zK (zG l0_0 a1) a2).f0) < (l0_0.length : Int) := of_decide_eq_true (by first | (with_reducible assumption) | assumption)
      obtain ⟨ad108, A108_0, c108_0, e108, hx108_0, hl108_0, hi108_0⟩ := ZA HR0_0.out ((zK (zG l0_0 a1) a2).f0) p108 q108
      have hw108_0 := hx108_0
      obtain rfl : ad102 = ad108 := (by injection e108)
      replace hx108_0 := (HB.out.cell (yny w _ hx108_0)).trans hx108_0
      have HR108_0 := zA.mk hi108_0
      have HC108_0 := zA.mk hl108_0
      clear hi108_0 hl108_0
      replace p108 := eq_true p108
      replace q108 := eq_true q108
      have p109 : 0 ≤ (t107 : Int) := of_decide_eq_true (by first | (with_reducible assumption) | assumption)
      have q109 : t107 < ((zG l0_0 ((zK (zG l0_0 a1) a2).f0)).length : Int) := of_decide_eq_true (by first | (with_reducible assumption) | assumption)
      obtain ⟨ad109, e109, hx109_0, hx109_1⟩ := ZZ HR108_0.out t107 p109 q109
      have hw109_1 := hx109_1
      have hw109_0 := hx109_0
      cases e109
      replace hx109_0 := (HB.out.cell (yny w _ hx109_0)).trans hx109_0
      replace hx109_1 := (HB.out.cell (yny w _ hx109_1)).trans hx109_1
      replace p109 := eq_true p109
      replace q109 := eq_true q109
      refine ZT (n := 25) (S := fun w' => w'.cell? ⟨gb101, 0, none⟩ = some (.slice (some ad102) l0_0.length c0_0) ∧ w'.cell? ⟨gb104, 0, none⟩ = some (.int .i64 ((zK (zG l0_0 a1) a2).f0)) ∧ w'.cell? ⟨gb104, 1, none⟩ = some (.int .i64 ((zK (zG l0_0 a1) a2).f1)) ∧ w'.cell? (ad102.add (((zK (zG l0_0 a1) a2).f0)).toNat) = some (.slice (some ad109) (zG l0_0 ((zK (zG l0_0 a1) a2).f0)).length c108_0) ∧ w'.cell? (ad109.add ((t107).toNat * 2)) = some (.int .i64 ((zK (zG l0_0 ((zK (zG l0_0 a1) a2).f0)) t107).f0)) ∧ w'.cell? ⟨(ad109.add ((t107).toNat * 2)).block, (ad109.add ((t107).toNat * 2)).off + 1, none⟩ = some (.int .i64 ((zK (zG l0_0 ((zK (zG l0_0 a1) a2).f0)) t107).f1))) (ds := []) #[false, false, false, false, false, false, false, false, false, false, false, false, false, false, false, false, false, false, false, false, false, false, false, false, false] (by kernel_rfl) rfl rfl ⟨(zL BK101.out 0).trans rfl, (zL BK104.out 0).trans rfl, (zL BK104.out 1).trans rfl, ((HB.out.cell (yny w _ hw108_0)).trans hw108_0), ((HB.out.cell (yny w _ hw109_0)).trans hw109_0), ((HB.out.cell (yny w _ hw109_1)).trans hw109_1)⟩ (fun hHeld => ?_); refine Zn zU.tab7 zU.zEH (fun HT_ HW_ => ?_)
      generalize w50.drew = w51 at BK101 BK104 HB HR108_0 hx108_0 hx109_0 hx109_1 hHeld ⊢
      refine zh (i := 0) (N := some 38) (v := ?_) (a' := ?_) #[true, false, false, false, false, false, false, false, false, false, false, false, false, false, false, false, false, false, false, false, false, false, false, false, false] rfl rfl (zp HT_.out (by kernel_rfl)) (fun _ _ _ h => h) (Or.inl ⟨by rfl, ?_⟩) ?_ ?_
      rotate_left
      next =>
       intro w'
       go_simp
       with_reducible rfl
      rotate_left
      next =>
       simp only [Act.put, yay, yby, ycy, zT, zV]
       rfl
      refine zh (i := 2) (N := some 40) (v := ?_) (a' := ?_) #[true, false, true, false, false, false, false, false, false, false, false, false, false, false, false, false, false, false, false, false, false, false, false, false, false] rfl rfl (zp HT_.out (by kernel_rfl)) (fun _ _ _ h => h) (Or.inl ⟨by rfl, ?_⟩) ?_ ?_
      rotate_left
      next =>
       intro w'
       go_simp
       with_reducible rfl
      rotate_left
      next =>
       simp only [Act.put, yay, yby, ycy, zT, zV]
       rfl
      refine zh (i := 6) (N := some 44) (v := ?_) (a' := ?_) #[true, false, true, false, false, false, true, false, false, false, false, false, false, false, false, false, false, false, false, false, false, false, false, false, false] rfl rfl (zp HT_.out (by kernel_rfl)) (fun _ _ _ h => h) (Or.inl ⟨by rfl, ?_⟩) ?_ ?_
      rotate_left
      next =>
       intro w'
       go_simp
       with_reducible rfl
      rotate_left
      next =>
       simp only [Act.put, yay, yby, ycy, zT, zV]
       rfl
      refine zh (i := 10) (N := some 48) (v := ?_) (a' := ?_) #[true, false, true, false, false, false, true, false, false, false, true, false, false, false, false, false, false, false, false, false, false, false, false, false, false] rfl rfl (zp HT_.out (by kernel_rfl)) (fun _ _ _ h => h) (Or.inl ⟨by rfl, ?_⟩) ?_ ?_
      rotate_left
      next =>
       intro w'
       go_simp
       with_reducible rfl
      rotate_left
      next =>
       simp only [Act.put, yay, yby, ycy, zT, zV]
       rfl
      refine qd (i := 1) (N := some 39) (v := ?_) (a' := ?_) #[true, true, true, false, false, false, true, false, false, false, true, false, false, false, false, false, false, false, false, false, false, false, false, false, false] rfl rfl (qX HT_.out HW_.out (by kernel_rfl)) (fun _ _ _ h => h) (Or.inl ⟨by rfl, ?_⟩) hHeld ?_ ?_
      rotate_left
      next =>
       rintro w' ⟨s0, s1, s2, s3, s4, s5⟩
       go_simp
       with_reducible rfl
      rotate_left
      next =>
       simp only [Act.put, yay, yby, ycy, zT, zV]
       rfl
      refine qd (i := 3) (N := some 41) (v := ?_) (a' := ?_) #[true, true, true, true, false, false, true, false, false, false, true, false, false, false, false, false, false, false, false, false, false, false, false, false, false] rfl rfl (qX HT_.out HW_.out (by kernel_rfl)) (fun _ _ _ h => h) (Or.inl ⟨by rfl, ?_⟩) hHeld ?_ ?_
      rotate_left
      next =>
       rintro w' ⟨s0, s1, s2, s3, s4, s5⟩
       go_simp
       with_reducible rfl
      rotate_left
      next =>
       simp only [Act.put, yay, yby, ycy, zT, zV]
       rfl
      refine zh (i := 4) (N := some 42) (v := ?_) (a' := ?_) #[true, true, true, true, true, false, true, false, false, false, true, false, false, false, false, false, false, false, false, false, false, false, false, false, false] rfl rfl (zp HT_.out (by kernel_rfl)) (fun _ _ _ h => h) (Or.inl ⟨by rfl, ?_⟩) ?_ ?_
      rotate_left
      next =>
       intro w'
       go_simp
       with_reducible rfl
      rotate_left
      next =>
       simp only [Act.put, yay, yby, ycy, zT, zV]
       rfl
      refine qd (i := 5) (N := some 43) (v := ?_) (a' := ?_) #[true, true, true, true, true, true, true, false, false, false, true, false, false, false, false, false, false, false, false, false, false, false, false, false, false] rfl rfl (qX HT_.out HW_.out (by kernel_rfl)) (fun _ _ _ h => h) (Or.inl ⟨by rfl, ?_⟩) hHeld ?_ ?_
      rotate_left
      next =>
       rintro w' ⟨s0, s1, s2, s3, s4, s5⟩
       go_simp
       with_reducible rfl
      rotate_left
      next =>
       simp only [Act.put, yay, yby, ycy, zT, zV]
       rfl
      refine zh (i := 7) (N := some 45) (v := ?_) (a' := ?_) #[true, true, true, true, true, true, true, true, false, false, true, false, false, false, false, false, false, false, false, false, false, false, false, false, false] rfl rfl (zp HT_.out (by kernel_rfl)) (fun _ _ _ h => h) (Or.inl ⟨by rfl, ?_⟩) ?_ ?_
      rotate_left
      next =>
       intro w'
       go_simp
       with_reducible rfl
      rotate_left
      next =>
       simp only [Act.put, yay, yby, ycy, zT, zV]
       rfl
      refine qd (i := 8) (N := some 46) (v := ?_) (a' := ?_) #[true, true, true, true, true, true, true, true, true, false, true, false, false, false, false, false, false, false, false, false, false, false, false, false, false] rfl rfl (qX HT_.out HW_.out (by kernel_rfl)) (fun _ _ _ h => h) (Or.inl ⟨by rfl, ?_⟩) hHeld ?_ ?_
      rotate_left
      next =>
       rintro w' ⟨s0, s1, s2, s3, s4, s5⟩
       go_simp
       with_reducible rfl
      rotate_left
      next =>
       simp only [Act.put, yay, yby, ycy, zT, zV]
       rfl
      refine qd (i := 9) (N := some 47) (v := ?_) (a' := ?_) #[true, true, true, true, true, true, true, true, true, true, true, false, false, false, false, false, false, false, false, false, false, false, false, false, false] rfl rfl (qX HT_.out HW_.out (by kernel_rfl)) (fun _ _ _ h => h) (Or.inl ⟨by rfl, ?_⟩) hHeld ?_ ?_
      rotate_left
      next =>
       rintro w' ⟨s0, s1, s2, s3, s4, s5⟩
       go_simp
       with_reducible rfl
      rotate_left
      next =>
       simp only [Act.put, yay, yby, ycy, zT, zV]
       rfl
      refine QH (i := 11) (N := some 49) #[true, true, true, true, true, true, true, true, true, true, true, true, false, false, false, false, false, false, false, false, false, false, false, false, false] rfl rfl (QG HT_.out (by kernel_rfl)) (by decide) (fun K hK => ?_)
      refine ZV Try.func129 (by kernel_rfl) rfl #[.agg #[.int .i64 ((zK (zG l0_0 a1) a2).f0), .int .i64 ((zK (zG l0_0 a1) a2).f1)], .int .i64 a1] (by rfl) rfl rfl (by (try simp only [yiy, yjy, yky]); first | done | rfl | (simp only [yly, ymy]; rfl)) ?_
      with_reducible refine (ql.calls ((zK (zG l0_0 a1) a2).f0) ((zK (zG l0_0 a1) a2).f1) a1 t110 t111 _ A35.out).mono ?_
      rintro e w52 ⟨rfl, hb⟩
      refine ⟨_, rfl, ?_⟩
      have n0_ := zA.mk (zJ (g := gb101) (o := .cells #[.slice (some ad102) l0_0.length c0_0] 30 (0, 0)) (by (with_reducible repeat (first | refine zH ?_ _ | refine zI ?_ | refine zF ?_ _)); exact BK101.out) hb)
      have n1_ := zA.mk (zJ (g := gb104) (o := .cells #[.int .i64 ((zK (zG l0_0 a1) a2).f0), .int .i64 ((zK (zG l0_0 a1) a2).f1)] 59 (0, 0)) (by (with_reducible repeat (first | refine zH ?_ _ | refine zI ?_ | refine zF ?_ _)); exact BK104.out) hb)
      have n2_ := zA.mk (zN (by repeat (first | (with_reducible first | exact HB.out | apply zC | apply zB | apply zD | refine zE ?_ GE101.out | refine zE ?_ GE104.out) | exact HB.out)) hb)
      clear BK101
      clear BK104
      clear HB
      have BK101 := n0_
      have BK104 := n1_
      have HB := n2_
      clear n0_ n1_ n2_
      (try clear hb)
      (try clear hb2)
      (try clear hk)
      (try clear hi)
      refine hK.out _ _ ⟨(zL BK101.out 0).trans rfl, (zL BK104.out 0).trans rfl, (zL BK104.out 1).trans rfl, ((HB.out.cell (yny w _ hw108_0)).trans hw108_0), ((HB.out.cell (yny w _ hw109_0)).trans hw109_0), ((HB.out.cell (yny w _ hw109_1)).trans hw109_1)⟩ (fun hHeld => ?_)
      clear hK K
      refine qz (a' := ?_) ?_ ?_
      rotate_left
      next =>
       show Act.put _ (some 49) _ = _
       simp only [Act.put, yay, yby, ycy, zT, zV]
       rfl
      refine zh (i := 12) (N := some 50) (v := ?_) (a' := ?_) #[true, true, true, true, true, true, true, true, true, true, true, true, true, false, false, false, false, false, false, false, false, false, false, false, false] rfl rfl (zp HT_.out (by kernel_rfl)) (fun _ _ _ h => h) (Or.inl ⟨by rfl, ?_⟩) ?_ ?_
      rotate_left
      next =>
       intro w'
       go_simp
       with_reducible rfl
      rotate_left
      next =>
       simp only [Act.put, yay, yby, ycy, zT, zV]
       rfl
      refine zh (i := 13) (N := some 51) (v := ?_) (a' := ?_) #[true, true, true, true, true, true, true, true, true, true, true, true, true, true, false, false, false, false, false, false, false, false, false, false, false] rfl rfl (zp HT_.out (by kernel_rfl)) (fun _ _ _ h => h) (Or.inl ⟨by rfl, ?_⟩) ?_ ?_
      rotate_left
      next =>
       intro w'
       go_simp
       with_reducible rfl
      rotate_left
      next =>
       simp only [Act.put, yay, yby, ycy, zT, zV]
       rfl
      refine zh (i := 14) (N := some 52) (v := undef) (a' := ?_) #[true, true, true, true, true, true, true, true, true, true, true, true, true, true, true, false, false, false, false, false, false, false, false, false, false] rfl rfl (zp HT_.out (by kernel_rfl)) (fun _ _ _ h => h) (Or.inr ⟨by rfl, rfl⟩) ?_ ?_
      rotate_left
      next =>
       simp only [Act.put, yay, yby, ycy, zT, zV]
       rfl
      refine zh (i := 15) (N := some 53) (v := undef) (a' := ?_) #[true, true, true, true, true, true, true, true, true, true, true, true, true, true, true, true, false, false, false, false, false, false, false, false, false] rfl rfl (zp HT_.out (by kernel_rfl)) (fun _ _ _ h => h) (Or.inr ⟨by rfl, rfl⟩) ?_ ?_
      rotate_left
      next =>
       simp only [Act.put, yay, yby, ycy, zT, zV]
       rfl
      refine zh (i := 16) (N := some 54) (v := undef) (a' := ?_) #[true, true, true, true, true, true, true, true, true, true, true, true, true, true, true, true, true, false, false, false, false, false, false, false, false] rfl rfl (zp HT_.out (by kernel_rfl)) (fun _ _ _ h => h) (Or.inr ⟨by rfl, rfl⟩) ?_ ?_
      rotate_left
      next =>
       simp only [Act.put, yay, yby, ycy, zT, zV]
       rfl
      refine zh (i := 17) (N := some 55) (v := undef) (a' := ?_) #[true, true, true, true, true, true, true, true, true, true, true, true, true, true, true, true, true, true, false, false, false, false, false, false, false] rfl rfl (zp HT_.out (by kernel_rfl)) (fun _ _ _ h => h) (Or.inr ⟨by rfl, rfl⟩) ?_ ?_
      rotate_left
      next =>
       simp only [Act.put, yay, yby, ycy, zT, zV]
       rfl
      refine zh (i := 18) (N := some 56) (v := undef) (a' := ?_) #[true, true, true, true, true, true, true, true, true, true, true, true, true, true, true, true, true, true, true, false, false, false, false, false, false] rfl rfl (zp HT_.out (by kernel_rfl)) (fun _ _ _ h => h) (Or.inr ⟨by rfl, rfl⟩) ?_ ?_
      rotate_left
      next =>
       simp only [Act.put, yay, yby, ycy, zT, zV]
       rfl
      refine zh (i := 19) (N := some 57) (v := undef) (a' := ?_) #[true, true, true, true, true, true, true, true, true, true, true, true, true, true, true, true, true, true, true, true, false, false, false, false, false] rfl rfl (zp HT_.out (by kernel_rfl)) (fun _ _ _ h => h) (Or.inr ⟨by rfl, rfl⟩) ?_ ?_
      rotate_left
      next =>
       simp only [Act.put, yay, yby, ycy, zT, zV]
       rfl
      refine zh (i := 20) (N := some 58) (v := undef) (a' := ?_) #[true, true, true, true, true, true, true, true, true, true, true, true, true, true, true, true, true, true, true, true, true, false, false, false, false] rfl rfl (zp HT_.out (by kernel_rfl)) (fun _ _ _ h => h) (Or.inr ⟨by rfl, rfl⟩) ?_ ?_
      rotate_left
      next =>
       simp only [Act.put, yay, yby, ycy, zT, zV]
       rfl
      refine zh (i := 21) (N := some 59) (v := undef) (a' := ?_) #[true, true, true, true, true, true, true, true, true, true, true, true, true, true, true, true, true, true, true, true, true, true, false, false, false] rfl rfl (zp HT_.out (by kernel_rfl)) (fun _ _ _ h => h) (Or.inr ⟨by rfl, rfl⟩) ?_ ?_
      rotate_left
      next =>
       simp only [Act.put, yay, yby, ycy, zT, zV]
       rfl
      refine zh (i := 22) (N := some 60) (v := undef) (a' := ?_) #[true, true, true, true, true, true, true, true, true, true, true, true, true, true, true, true, true, true, true, true, true, true, true, false, false] rfl rfl (zp HT_.out (by kernel_rfl)) (fun _ _ _ h => h) (Or.inr ⟨by rfl, rfl⟩) ?_ ?_
      rotate_left
      next =>
       simp only [Act.put, yay, yby, ycy, zT, zV]
       rfl
      refine zh (i := 23) (N := some 61) (v := ?_) (a' := ?_) #[true, true, true, true, true, true, true, true, true, true, true, true, true, true, true, true, true, true, true, true, true, true, true, true, false] rfl rfl (zp HT_.out (by kernel_rfl)) (fun _ _ _ h => h) (Or.inl ⟨by rfl, ?_⟩) ?_ ?_
      rotate_left
      next =>
       intro w'
       go_simp
       with_reducible rfl
      rotate_left
      next =>
       simp only [Act.put, yay, yby, ycy, zT, zV]
       rfl
      refine zh (i := 24) (N := some 6) (v := ?_) (a' := ?_) #[true, true, true, true, true, true, true, true, true, true, true, true, true, true, true, true, true, true, true, true, true, true, true, true, true] rfl rfl (zp HT_.out (by kernel_rfl)) (fun _ _ _ h => h) (Or.inl ⟨by rfl, ?_⟩) ?_ ?_
      rotate_left
      next =>
       intro w'
       go_simp
       with_reducible rfl
      rotate_left
      next =>
       simp only [Act.put, yay, yby, ycy, zT, zV]
       rfl
      refine Zy (QQ HT_.out (by kernel_rfl)) ?_
      try go_wp2
      go_ret
      exact ⟨by first | rfl | (simp [zb, zc] <;> rfl) | (simp [*, zb, zc] <;> rfl), by repeat (first | (with_reducible first | exact HB.out | apply zC | apply zB | apply zD | refine zE ?_ GE101.out | refine zE ?_ GE104.out) | exact HB.out)⟩
     rw [if_pos c36] at H
     have c36b0 : (((zK (zG l0_0 ((zK (zG l0_0 a1) a2).f0)) t107).f0) == t110 && (((zK (zG l0_0 ((zK (zG l0_0 a1) a2).f0)) t107).f1) == t111)) = true := c36
     (try (have c36b1 : decide (((zK (zG l0_0 ((zK (zG l0_0 a1) a2).f0)) t107).f0) = t110 && (((zK (zG l0_0 ((zK (zG l0_0 a1) a2).f0)) t107).f1) == t111)) = true := by simpa using c36))
     (try (have c36b2 : (((zK (zG l0_0 ((zK (zG l0_0 a1) a2).f0)) t107).f0) == t110 && (((zK (zG l0_0 ((zK (zG l0_0 a1) a2).f0)) t107).f1) == t111)) = true := by simpa using c36))
     clear c36
     by_cases c37 : ((zK (zG l0_0 a1) a2).f0) = a1
     rotate_left
     next =>
      rw [if_neg c37] at H
      have c37b0 : (((zK (zG l0_0 a1) a2).f0) == a1) = false := beq_eq_false_iff_ne.mpr c37
      have c37b1 : (((zK (zG l0_0 a1) a2).f0) != a1) = true := bne_iff_ne.mpr c37
      obtain rfl := yey H
      have hnb43 := NB104_101.out
      have hnc43 := NB101_104.out
      have hcz44_0 : wc.cell? ⟨gb104, 0, none⟩ = some (.int .i64 ((zK (zG l0_0 a1) a2).f0)) := (zL BK104.out 0).trans rfl
      have hcz44_1 : wc.cell? ⟨gb104, 1, none⟩ = some (.int .i64 ((zK (zG l0_0 a1) a2).f1)) := (zL BK104.out 1).trans rfl
      have hfz44_0 := zQ BK104.out 0
      have hfz44_1 := zQ BK104.out 1
      try go_wp2_with (first | ((with_reducible refine zf (f := 41) rfl ?_); refine qT (some 37) rfl rfl Try.func41 (by kernel_rfl) rfl #[.agg #[.int .i64 ((zK (zG l0_0 a1) a2).f0), .int .i64 ((zK (zG l0_0 a1) a2).f1)], .int .i64 a2] rfl (by (try simp only [yiy, yjy, yky]); first | done | rfl | (simp only [yly, ymy]; rfl)) ?_; (with_reducible refine (ZB.calls ((zK (zG l0_0 a1) a2).f0) ((zK (zG l0_0 a1) a2).f1) a2 t107 _ A30.out).mono ?_); rintro e w45 ⟨rfl, hb⟩; refine ⟨_, rfl, ?_⟩; have n0_ := zA.mk (zJ (g := gb101) (o := .cells #[.slice (some ad102) l0_0.length c0_0] 30 (0, 0)) (by (with_reducible repeat (first | refine zH ?_ _ | refine zI ?_ | refine zF ?_ _)); exact BK101.out) hb); have n1_ := zA.mk (zJ (g := gb104) (o := .cells #[.int .i64 ((zK (zG l0_0 a1) a2).f0), .int .i64 ((zK (zG l0_0 a1) a2).f1)] 59 (0, 0)) (by (with_reducible repeat (first | refine zH ?_ _ | refine zI ?_ | refine zF ?_ _)); exact BK104.out) hb); have n2_ := zA.mk (zN (by repeat (first | (with_reducible first | exact HB.out | apply zC | apply zB | apply zD | refine zE ?_ GE101.out | refine zE ?_ GE104.out) | exact HB.out)) hb); clear BK101; clear BK104; clear HB; have BK101 := n0_; have BK104 := n1_; have HB := n2_; clear n0_ n1_ n2_; (try clear hb); (try clear hb2); (try clear hk); (try clear hi)))
      have n0_ := zA.mk (zI BK101.out)
      have n1_ := zA.mk (zI BK104.out)
      have n2_ := zA.mk (zD HB.out)
      clear BK101
      clear BK104
      clear HB
      have BK101 := n0_
      have BK104 := n1_
      have HB := n2_
      clear n0_ n1_ n2_
      have p108 : 0 ≤ (((zK (zG l0_0 a1) a2).f0) : Int) := of_decide_eq_true (by first | (with_reducible assumption) | assumption)
      have q108 : ((zK (zG l0_0 a1) a2).f0) < (l0_0.length : Int) := of_decide_eq_true (by first | (with_reducible assumption) | assumption)
      obtain ⟨ad108, A108_0, c108_0, e108, hx108_0, hl108_0, hi108_0⟩ := ZA HR0_0.out ((zK (zG l0_0 a1) a2).f0) p108 q108
      have hw108_0 := hx108_0
      obtain rfl : ad102 = ad108 := (by injection e108)
      replace hx108_0 := (HB.out.cell (yny w _ hx108_0)).trans hx108_0
      have HR108_0 := zA.mk hi108_0
      have HC108_0 := zA.mk hl108_0
      clear hi108_0 hl108_0
      replace p108 := eq_true p108
      replace q108 := eq_true q108
      have p109 : 0 ≤ (t107 : Int) := of_decide_eq_true (by first | (with_reducible assumption) | assumption)
      have q109 : t107 < ((zG l0_0 ((zK (zG l0_0 a1) a2).f0)).length : Int) := of_decide_eq_true (by first | (with_reducible assumption) | assumption)
      obtain ⟨ad109, e109, hx109_0, hx109_1⟩ := ZZ HR108_0.out t107 p109 q109
      have hw109_1 := hx109_1
      have hw109_0 := hx109_0
      cases e109
      replace hx109_0 := (HB.out.cell (yny w _ hx109_0)).trans hx109_0
      replace hx109_1 := (HB.out.cell (yny w _ hx109_1)).trans hx109_1
      replace p109 := eq_true p109
      replace q109 := eq_true q109
      refine ZT (n := 25) (S := fun w' => w'.cell? ⟨gb101, 0, none⟩ = some (.slice (some ad102) l0_0.length c0_0) ∧ w'.cell? ⟨gb104, 0, none⟩ = some (.int .i64 ((zK (zG l0_0 a1) a2).f0)) ∧ w'.cell? ⟨gb104, 1, none⟩ = some (.int .i64 ((zK (zG l0_0 a1) a2).f1)) ∧ w'.cell? (ad102.add (((zK (zG l0_0 a1) a2).f0)).toNat) = some (.slice (some ad109) (zG l0_0 ((zK (zG l0_0 a1) a2).f0)).length c108_0) ∧ w'.cell? (ad109.add ((t107).toNat * 2)) = some (.int .i64 ((zK (zG l0_0 ((zK (zG l0_0 a1) a2).f0)) t107).f0)) ∧ w'.cell? ⟨(ad109.add ((t107).toNat * 2)).block, (ad109.add ((t107).toNat * 2)).off + 1, none⟩ = some (.int .i64 ((zK (zG l0_0 ((zK (zG l0_0 a1) a2).f0)) t107).f1))) (ds := []) #[false, false, false, false, false, false, false, false, false, false, false, false, false, false, false, false, false, false, false, false, false, false, false, false, false] (by kernel_rfl) rfl rfl ⟨(zL BK101.out 0).trans rfl, (zL BK104.out 0).trans rfl, (zL BK104.out 1).trans rfl, ((HB.out.cell (yny w _ hw108_0)).trans hw108_0), ((HB.out.cell (yny w _ hw109_0)).trans hw109_0), ((HB.out.cell (yny w _ hw109_1)).trans hw109_1)⟩ (fun hHeld => ?_); refine Zn zU.tab7 zU.zEH (fun HT_ HW_ => ?_)
      generalize w45.drew = w46 at BK101 BK104 HB HR108_0 hx108_0 hx109_0 hx109_1 hHeld ⊢
      refine zh (i := 0) (N := some 38) (v := ?_) (a' := ?_) #[true, false, false, false, false, false, false, false, false, false, false, false, false, false, false, false, false, false, false, false, false, false, false, false, false] rfl rfl (zp HT_.out (by kernel_rfl)) (fun _ _ _ h => h) (Or.inl ⟨by rfl, ?_⟩) ?_ ?_
      rotate_left
      next =>
       intro w'
       go_simp
       with_reducible rfl
      rotate_left
      next =>
       simp only [Act.put, yay, yby, ycy, zT, zV]
       rfl
      refine zh (i := 2) (N := some 40) (v := ?_) (a' := ?_) #[true, false, true, false, false, false, false, false, false, false, false, false, false, false, false, false, false, false, false, false, false, false, false, false, false] rfl rfl (zp HT_.out (by kernel_rfl)) (fun _ _ _ h => h) (Or.inl ⟨by rfl, ?_⟩) ?_ ?_
      rotate_left
      next =>
       intro w'
       go_simp
       with_reducible rfl
      rotate_left
      next =>
       simp only [Act.put, yay, yby, ycy, zT, zV]
       rfl
      refine zh (i := 6) (N := some 44) (v := ?_) (a' := ?_) #[true, false, true, false, false, false, true, false, false, false, false, false, false, false, false, false, false, false, false, false, false, false, false, false, false] rfl rfl (zp HT_.out (by kernel_rfl)) (fun _ _ _ h => h) (Or.inl ⟨by rfl, ?_⟩) ?_ ?_
      rotate_left
      next =>
       intro w'
       go_simp
       with_reducible rfl
      rotate_left
      next =>
       simp only [Act.put, yay, yby, ycy, zT, zV]
       rfl
      refine zh (i := 10) (N := some 48) (v := ?_) (a' := ?_) #[true, false, true, false, false, false, true, false, false, false, true, false, false, false, false, false, false, false, false, false, false, false, false, false, false] rfl rfl (zp HT_.out (by kernel_rfl)) (fun _ _ _ h => h) (Or.inl ⟨by rfl, ?_⟩) ?_ ?_
      rotate_left
      next =>
       intro w'
       go_simp
       with_reducible rfl
      rotate_left
      next =>
       simp only [Act.put, yay, yby, ycy, zT, zV]
       rfl
      refine qd (i := 1) (N := some 39) (v := ?_) (a' := ?_) #[true, true, true, false, false, false, true, false, false, false, true, false, false, false, false, false, false, false, false, false, false, false, false, false, false] rfl rfl (qX HT_.out HW_.out (by kernel_rfl)) (fun _ _ _ h => h) (Or.inl ⟨by rfl, ?_⟩) hHeld ?_ ?_
      rotate_left
      next =>
       rintro w' ⟨s0, s1, s2, s3, s4, s5⟩
       go_simp
       with_reducible rfl
      rotate_left
      next =>
       simp only [Act.put, yay, yby, ycy, zT, zV]
       rfl
      refine qd (i := 3) (N := some 41) (v := ?_) (a' := ?_) #[true, true, true, true, false, false, true, false, false, false, true, false, false, false, false, false, false, false, false, false, false, false, false, false, false] rfl rfl (qX HT_.out HW_.out (by kernel_rfl)) (fun _ _ _ h => h) (Or.inl ⟨by rfl, ?_⟩) hHeld ?_ ?_
      rotate_left
      next =>
       rintro w' ⟨s0, s1, s2, s3, s4, s5⟩
       go_simp
       with_reducible rfl
      rotate_left
      next =>
       simp only [Act.put, yay, yby, ycy, zT, zV]
       rfl
      refine zh (i := 4) (N := some 42) (v := ?_) (a' := ?_) #[true, true, true, true, true, false, true, false, false, false, true, false, false, false, false, false, false, false, false, false, false, false, false, false, false] rfl rfl (zp HT_.out (by kernel_rfl)) (fun _ _ _ h => h) (Or.inl ⟨by rfl, ?_⟩) ?_ ?_
      rotate_left
      next =>
       intro w'
       go_simp
       with_reducible rfl
      rotate_left
      next =>
       simp only [Act.put, yay, yby, ycy, zT, zV]
       rfl
      refine qd (i := 5) (N := some 43) (v := ?_) (a' := ?_) #[true, true, true, true, true, true, true, false, false, false, true, false, false, false, false, false, false, false, false, false, false, false, false, false, false] rfl rfl (qX HT_.out HW_.out (by kernel_rfl)) (fun _ _ _ h => h) (Or.inl ⟨by rfl, ?_⟩) hHeld ?_ ?_
      rotate_left
      next =>
       rintro w' ⟨s0, s1, s2, s3, s4, s5⟩
       go_simp
       with_reducible rfl
      rotate_left
      next =>
       simp only [Act.put, yay, yby, ycy, zT, zV]
       rfl
      refine zh (i := 7) (N := some 45) (v := ?_) (a' := ?_) #[true, true, true, true, true, true, true, true, false, false, true, false, false, false, false, false, false, false, false, false, false, false, false, false, false] rfl rfl (zp HT_.out (by kernel_rfl)) (fun _ _ _ h => h) (Or.inl ⟨by rfl, ?_⟩) ?_ ?_
      rotate_left
      next =>
       intro w'
       go_simp
       with_reducible rfl
      rotate_left
      next =>
       simp only [Act.put, yay, yby, ycy, zT, zV]
       rfl
      refine qd (i := 8) (N := some 46) (v := ?_) (a' := ?_) #[true, true, true, true, true, true, true, true, true, false, true, false, false, false, false, false, false, false, false, false, false, false, false, false, false] rfl rfl (qX HT_.out HW_.out (by kernel_rfl)) (fun _ _ _ h => h) (Or.inl ⟨by rfl, ?_⟩) hHeld ?_ ?_
      rotate_left
      next =>
       rintro w' ⟨s0, s1, s2, s3, s4, s5⟩
       go_simp
       with_reducible rfl
      rotate_left
      next =>
       simp only [Act.put, yay, yby, ycy, zT, zV]
       rfl
      refine qd (i := 9) (N := some 47) (v := ?_) (a' := ?_) #[true, true, true, true, true, true, true, true, true, true, true, false, false, false, false, false, false, false, false, false, false, false, false, false, false] rfl rfl (qX HT_.out HW_.out (by kernel_rfl)) (fun _ _ _ h => h) (Or.inl ⟨by rfl, ?_⟩) hHeld ?_ ?_
      rotate_left
      next =>
       rintro w' ⟨s0, s1, s2, s3, s4, s5⟩
       go_simp
       with_reducible rfl
      rotate_left
      next =>
       simp only [Act.put, yay, yby, ycy, zT, zV]
       rfl
      refine QH (i := 11) (N := some 49) #[true, true, true, true, true, true, true, true, true, true, true, true, false, false, false, false, false, false, false, false, false, false, false, false, false] rfl rfl (QG HT_.out (by kernel_rfl)) (by decide) (fun K hK => ?_)
      refine ZV Try.func129 (by kernel_rfl) rfl #[.agg #[.int .i64 ((zK (zG l0_0 a1) a2).f0), .int .i64 ((zK (zG l0_0 a1) a2).f1)], .int .i64 a1] (by rfl) rfl rfl (by (try simp only [yiy, yjy, yky]); first | done | rfl | (simp only [yly, ymy]; rfl)) ?_
      with_reducible refine (ql.calls ((zK (zG l0_0 a1) a2).f0) ((zK (zG l0_0 a1) a2).f1) a1 t110 t111 _ A35.out).mono ?_
      rintro e w47 ⟨rfl, hb⟩
      refine ⟨_, rfl, ?_⟩
      have n0_ := zA.mk (zJ (g := gb101) (o := .cells #[.slice (some ad102) l0_0.length c0_0] 30 (0, 0)) (by (with_reducible repeat (first | refine zH ?_ _ | refine zI ?_ | refine zF ?_ _)); exact BK101.out) hb)
      have n1_ := zA.mk (zJ (g := gb104) (o := .cells #[.int .i64 ((zK (zG l0_0 a1) a2).f0), .int .i64 ((zK (zG l0_0 a1) a2).f1)] 59 (0, 0)) (by (with_reducible repeat (first | refine zH ?_ _ | refine zI ?_ | refine zF ?_ _)); exact BK104.out) hb)
      have n2_ := zA.mk (zN (by repeat (first | (with_reducible first | exact HB.out | apply zC | apply zB | apply zD | refine zE ?_ GE101.out | refine zE ?_ GE104.out) | exact HB.out)) hb)
      clear BK101
      clear BK104
      clear HB
      have BK101 := n0_
      have BK104 := n1_
      have HB := n2_
      clear n0_ n1_ n2_
      (try clear hb)
      (try clear hb2)
      (try clear hk)
      (try clear hi)
      refine hK.out _ _ ⟨(zL BK101.out 0).trans rfl, (zL BK104.out 0).trans rfl, (zL BK104.out 1).trans rfl, ((HB.out.cell (yny w _ hw108_0)).trans hw108_0), ((HB.out.cell (yny w _ hw109_0)).trans hw109_0), ((HB.out.cell (yny w _ hw109_1)).trans hw109_1)⟩ (fun hHeld => ?_)
      clear hK K
      refine qz (a' := ?_) ?_ ?_
      rotate_left
      next =>
       show Act.put _ (some 49) _ = _
       simp only [Act.put, yay, yby, ycy, zT, zV]
       rfl
      refine zh (i := 12) (N := some 50) (v := ?_) (a' := ?_) #[true, true, true, true, true, true, true, true, true, true, true, true, true, false, false, false, false, false, false, false, false, false, false, false, false] rfl rfl (zp HT_.out (by kernel_rfl)) (fun _ _ _ h => h) (Or.inl ⟨by rfl, ?_⟩) ?_ ?_
      rotate_left
      next =>
       intro w'
       go_simp
       with_reducible rfl
      rotate_left
      next =>
       simp only [Act.put, yay, yby, ycy, zT, zV]
       rfl
      refine zh (i := 13) (N := some 51) (v := ?_) (a' := ?_) #[true, true, true, true, true, true, true, true, true, true, true, true, true, true, false, false, false, false, false, false, false, false, false, false, false] rfl rfl (zp HT_.out (by kernel_rfl)) (fun _ _ _ h => h) (Or.inl ⟨by rfl, ?_⟩) ?_ ?_
      rotate_left
      next =>
       intro w'
       go_simp
       with_reducible rfl
      rotate_left
      next =>
       simp only [Act.put, yay, yby, ycy, zT, zV]
       rfl
      refine zh (i := 14) (N := some 52) (v := ?_) (a' := ?_) #[true, true, true, true, true, true, true, true, true, true, true, true, true, true, true, false, false, false, false, false, false, false, false, false, false] rfl rfl (zp HT_.out (by kernel_rfl)) (fun _ _ _ h => h) (Or.inl ⟨by rfl, ?_⟩) ?_ ?_
      rotate_left
      next =>
       intro w'
       go_simp
       with_reducible rfl
      rotate_left
      next =>
       simp only [Act.put, yay, yby, ycy, zT, zV]
       rfl
      refine zh (i := 16) (N := some 54) (v := ?_) (a' := ?_) #[true, true, true, true, true, true, true, true, true, true, true, true, true, true, true, false, true, false, false, false, false, false, false, false, false] rfl rfl (zp HT_.out (by kernel_rfl)) (fun _ _ _ h => h) (Or.inl ⟨by rfl, ?_⟩) ?_ ?_
      rotate_left
      next =>
       intro w'
       go_simp
       with_reducible rfl
      rotate_left
      next =>
       simp only [Act.put, yay, yby, ycy, zT, zV]
       rfl
      refine qd (i := 15) (N := some 53) (v := ?_) (a' := ?_) #[true, true, true, true, true, true, true, true, true, true, true, true, true, true, true, true, true, false, false, false, false, false, false, false, false] rfl rfl (qX HT_.out HW_.out (by kernel_rfl)) (fun _ _ _ h => h) (Or.inl ⟨by rfl, ?_⟩) hHeld ?_ ?_
      rotate_left
      next =>
       rintro w' ⟨s0, s1, s2, s3, s4, s5⟩
       go_simp
       with_reducible rfl
      rotate_left
      next =>
       simp only [Act.put, yay, yby, ycy, zT, zV]
       rfl
      refine zh (i := 17) (N := some 55) (v := ?_) (a' := ?_) #[true, true, true, true, true, true, true, true, true, true, true, true, true, true, true, true, true, true, false, false, false, false, false, false, false] rfl rfl (zp HT_.out (by kernel_rfl)) (fun _ _ _ h => h) (Or.inl ⟨by rfl, ?_⟩) ?_ ?_
      rotate_left
      next =>
       intro w'
       go_simp
       with_reducible rfl
      rotate_left
      next =>
       simp only [Act.put, yay, yby, ycy, zT, zV]
       rfl
      refine zh (i := 18) (N := some 56) (v := ?_) (a' := ?_) #[true, true, true, true, true, true, true, true, true, true, true, true, true, true, true, true, true, true, true, false, false, false, false, false, false] rfl rfl (zp HT_.out (by kernel_rfl)) (fun _ _ _ h => h) (Or.inl ⟨by rfl, ?_⟩) ?_ ?_
      rotate_left
      next =>
       intro w'
       go_simp
       with_reducible rfl
      rotate_left
      next =>
       simp only [Act.put, yay, yby, ycy, zT, zV]
       rfl
      refine zh (i := 19) (N := some 57) (v := undef) (a' := ?_) #[true, true, true, true, true, true, true, true, true, true, true, true, true, true, true, true, true, true, true, true, false, false, false, false, false] rfl rfl (zp HT_.out (by kernel_rfl)) (fun _ _ _ h => h) (Or.inr ⟨by rfl, rfl⟩) ?_ ?_
      rotate_left
      next =>
       simp only [Act.put, yay, yby, ycy, zT, zV]
       rfl
      refine zh (i := 20) (N := some 58) (v := undef) (a' := ?_) #[true, true, true, true, true, true, true, true, true, true, true, true, true, true, true, true, true, true, true, true, true, false, false, false, false] rfl rfl (zp HT_.out (by kernel_rfl)) (fun _ _ _ h => h) (Or.inr ⟨by rfl, rfl⟩) ?_ ?_
      rotate_left
      next =>
       simp only [Act.put, yay, yby, ycy, zT, zV]
       rfl
      refine zh (i := 21) (N := some 59) (v := undef) (a' := ?_) #[true, true, true, true, true, true, true, true, true, true, true, true, true, true, true, true, true, true, true, true, true, true, false, false, false] rfl rfl (zp HT_.out (by kernel_rfl)) (fun _ _ _ h => h) (Or.inr ⟨by rfl, rfl⟩) ?_ ?_
      rotate_left
      next =>
       simp only [Act.put, yay, yby, ycy, zT, zV]
       rfl
      refine zh (i := 22) (N := some 60) (v := ?_) (a' := ?_) #[true, true, true, true, true, true, true, true, true, true, true, true, true, true, true, true, true, true, true, true, true, true, true, false, false] rfl rfl (zp HT_.out (by kernel_rfl)) (fun _ _ _ h => h) (Or.inl ⟨by rfl, ?_⟩) ?_ ?_
      rotate_left
      next =>
       intro w'
       go_simp
       with_reducible rfl
      rotate_left
      next =>
       simp only [Act.put, yay, yby, ycy, zT, zV]
       rfl
      refine zh (i := 23) (N := some 61) (v := ?_) (a' := ?_) #[true, true, true, true, true, true, true, true, true, true, true, true, true, true, true, true, true, true, true, true, true, true, true, true, false] rfl rfl (zp HT_.out (by kernel_rfl)) (fun _ _ _ h => h) (Or.inl ⟨by rfl, ?_⟩) ?_ ?_
      rotate_left
      next =>
       intro w'
       go_simp
       with_reducible rfl
      rotate_left
      next =>
       simp only [Act.put, yay, yby, ycy, zT, zV]
       rfl
      refine zh (i := 24) (N := some 6) (v := ?_) (a' := ?_) #[true, true, true, true, true, true, true, true, true, true, true, true, true, true, true, true, true, true, true, true, true, true, true, true, true] rfl rfl (zp HT_.out (by kernel_rfl)) (fun _ _ _ h => h) (Or.inl ⟨by rfl, ?_⟩) ?_ ?_
      rotate_left
      next =>
       intro w'
       go_simp
       with_reducible rfl
      rotate_left
      next =>
       simp only [Act.put, yay, yby, ycy, zT, zV]
       rfl
      refine Zy (QQ HT_.out (by kernel_rfl)) ?_
      try go_wp2
      go_ret
      exact ⟨by first | rfl | (simp [zb, zc] <;> rfl) | (simp [*, zb, zc] <;> rfl), by repeat (first | (with_reducible first | exact HB.out | apply zC | apply zB | apply zD | refine zE ?_ GE101.out | refine zE ?_ GE104.out) | exact HB.out)⟩
     rw [if_pos c37] at H
     have c37b0 : (((zK (zG l0_0 a1) a2).f0) == a1) = true := beq_iff_eq.mpr c37
     have c37b1 : (((zK (zG l0_0 a1) a2).f0) != a1) = false := bne_eq_false_iff_eq.mpr c37
     clear c37
     obtain rfl := yey H
     have hnb38 := NB104_101.out
     have hnc38 := NB101_104.out
     have hcz39_0 : wc.cell? ⟨gb104, 0, none⟩ = some (.int .i64 ((zK (zG l0_0 a1) a2).f0)) := (zL BK104.out 0).trans rfl
     have hcz39_1 : wc.cell? ⟨gb104, 1, none⟩ = some (.int .i64 ((zK (zG l0_0 a1) a2).f1)) := (zL BK104.out 1).trans rfl
     have hfz39_0 := zQ BK104.out 0
     have hfz39_1 := zQ BK104.out 1
     try go_wp2_with (first | ((with_reducible refine zf (f := 41) rfl ?_); refine qT (some 37) rfl rfl Try.func41 (by kernel_rfl) rfl #[.agg #[.int .i64 ((zK (zG l0_0 a1) a2).f0), .int .i64 ((zK (zG l0_0 a1) a2).f1)], .int .i64 a2] rfl (by (try simp only [yiy, yjy, yky]); first | done | rfl | (simp only [yly, ymy]; rfl)) ?_; (with_reducible refine (ZB.calls ((zK (zG l0_0 a1) a2).f0) ((zK (zG l0_0 a1) a2).f1) a2 t107 _ A30.out).mono ?_); rintro e w40 ⟨rfl, hb⟩; refine ⟨_, rfl, ?_⟩; have n0_ := zA.mk (zJ (g := gb101) (o := .cells #[.slice (some ad102) l0_0.length c0_0] 30 (0, 0)) (by (with_reducible repeat (first | refine zH ?_ _ | refine zI ?_ | refine zF ?_ _)); exact BK101.out) hb); have n1_ := zA.mk (zJ (g := gb104) (o := .cells #[.int .i64 ((zK (zG l0_0 a1) a2).f0), .int .i64 ((zK (zG l0_0 a1) a2).f1)] 59 (0, 0)) (by (with_reducible repeat (first | refine zH ?_ _ | refine zI ?_ | refine zF ?_ _)); exact BK104.out) hb); have n2_ := zA.mk (zN (by repeat (first | (with_reducible first | exact HB.out | apply zC | apply zB | apply zD | refine zE ?_ GE101.out | refine zE ?_ GE104.out) | exact HB.out)) hb); clear BK101; clear BK104; clear HB; have BK101 := n0_; have BK104 := n1_; have HB := n2_; clear n0_ n1_ n2_; (try clear hb); (try clear hb2); (try clear hk); (try clear hi)))
     have n0_ := zA.mk (zI BK101.out)
     have n1_ := zA.mk (zI BK104.out)
     have n2_ := zA.mk (zD HB.out)
     clear BK101
     clear BK104
     clear HB
     have BK101 := n0_
     have BK104 := n1_
     have HB := n2_
     clear n0_ n1_ n2_
     have p108 : 0 ≤ (((zK (zG l0_0 a1) a2).f0) : Int) := of_decide_eq_true (by first | (with_reducible assumption) | assumption)
     have q108 : ((zK (zG l0_0 a1) a2).f0) < (l0_0.length : Int) := of_decide_eq_true (by first | (with_reducible assumption) | assumption)
     obtain ⟨ad108, A108_0, c108_0, e108, hx108_0, hl108_0, hi108_0⟩ := ZA HR0_0.out ((zK (zG l0_0 a1) a2).f0) p108 q108
     have hw108_0 := hx108_0
     obtain rfl : ad102 = ad108 := (by injection e108)
     replace hx108_0 := (HB.out.cell (yny w _ hx108_0)).trans hx108_0
     have HR108_0 := zA.mk hi108_0
     have HC108_0 := zA.mk hl108_0
     clear hi108_0 hl108_0
     replace p108 := eq_true p108
     replace q108 := eq_true q108
     have p109 : 0 ≤ (t107 : Int) := of_decide_eq_true (by first | (with_reducible assumption) | assumption)
     have q109 : t107 < ((zG l0_0 ((zK (zG l0_0 a1) a2).f0)).length : Int) := of_decide_eq_true (by first | (with_reducible assumption) | assumption)
     obtain ⟨ad109, e109, hx109_0, hx109_1⟩ := ZZ HR108_0.out t107 p109 q109
     have hw109_1 := hx109_1
     have hw109_0 := hx109_0
     cases e109
     replace hx109_0 := (HB.out.cell (yny w _ hx109_0)).trans hx109_0
     replace hx109_1 := (HB.out.cell (yny w _ hx109_1)).trans hx109_1
     replace p109 := eq_true p109
     replace q109 := eq_true q109
     refine ZT (n := 25) (S := fun w' => w'.cell? ⟨gb101, 0, none⟩ = some (.slice (some ad102) l0_0.length c0_0) ∧ w'.cell? ⟨gb104, 0, none⟩ = some (.int .i64 ((zK (zG l0_0 a1) a2).f0)) ∧ w'.cell? ⟨gb104, 1, none⟩ = some (.int .i64 ((zK (zG l0_0 a1) a2).f1)) ∧ w'.cell? (ad102.add (((zK (zG l0_0 a1) a2).f0)).toNat) = some (.slice (some ad109) (zG l0_0 ((zK (zG l0_0 a1) a2).f0)).length c108_0) ∧ w'.cell? (ad109.add ((t107).toNat * 2)) = some (.int .i64 ((zK (zG l0_0 ((zK (zG l0_0 a1) a2).f0)) t107).f0)) ∧ w'.cell? ⟨(ad109.add ((t107).toNat * 2)).block, (ad109.add ((t107).toNat * 2)).off + 1, none⟩ = some (.int .i64 ((zK (zG l0_0 ((zK (zG l0_0 a1) a2).f0)) t107).f1))) (ds := []) #[false, false, false, false, false, false, false, false, false, false, false, false, false, false, false, false, false, false, false, false, false, false, false, false, false] (by kernel_rfl) rfl rfl ⟨(zL BK101.out 0).trans rfl, (zL BK104.out 0).trans rfl, (zL BK104.out 1).trans rfl, ((HB.out.cell (yny w _ hw108_0)).trans hw108_0), ((HB.out.cell (yny w _ hw109_0)).trans hw109_0), ((HB.out.cell (yny w _ hw109_1)).trans hw109_1)⟩ (fun hHeld => ?_); refine Zn zU.tab7 zU.zEH (fun HT_ HW_ => ?_)
     generalize w40.drew = w41 at BK101 BK104 HB HR108_0 hx108_0 hx109_0 hx109_1 hHeld ⊢
     refine zh (i := 0) (N := some 38) (v := ?_) (a' := ?_) #[true, false, false, false, false, false, false, false, false, false, false, false, false, false, false, false, false, false, false, false, false, false, false, false, false] rfl rfl (zp HT_.out (by kernel_rfl)) (fun _ _ _ h => h) (Or.inl ⟨by rfl, ?_⟩) ?_ ?_
     rotate_left
     next =>
      intro w'
      go_simp
      with_reducible rfl
     rotate_left
     next =>
      simp only [Act.put, yay, yby, ycy, zT, zV]
      rfl
     refine zh (i := 2) (N := some 40) (v := ?_) (a' := ?_) #[true, false, true, false, false, false, false, false, false, false, false, false, false, false, false, false, false, false, false, false, false, false, false, false, false] rfl rfl (zp HT_.out (by kernel_rfl)) (fun _ _ _ h => h) (Or.inl ⟨by rfl, ?_⟩) ?_ ?_
     rotate_left
     next =>
      intro w'
      go_simp
      with_reducible rfl
     rotate_left
     next =>
      simp only [Act.put, yay, yby, ycy, zT, zV]
      rfl
     refine zh (i := 6) (N := some 44) (v := ?_) (a' := ?_) #[true, false, true, false, false, false, true, false, false, false, false, false, false, false, false, false, false, false, false, false, false, false, false, false, false] rfl rfl (zp HT_.out (by kernel_rfl)) (fun _ _ _ h => h) (Or.inl ⟨by rfl, ?_⟩) ?_ ?_
     rotate_left
     next =>
      intro w'
      go_simp
      with_reducible rfl
     rotate_left
     next =>
      simp only [Act.put, yay, yby, ycy, zT, zV]
      rfl
     refine zh (i := 10) (N := some 48) (v := ?_) (a' := ?_) #[true, false, true, false, false, false, true, false, false, false, true, false, false, false, false, false, false, false, false, false, false, false, false, false, false] rfl rfl (zp HT_.out (by kernel_rfl)) (fun _ _ _ h => h) (Or.inl ⟨by rfl, ?_⟩) ?_ ?_
     rotate_left
     next =>
      intro w'
      go_simp
      with_reducible rfl
     rotate_left
     next =>
      simp only [Act.put, yay, yby, ycy, zT, zV]
      rfl
     refine qd (i := 1) (N := some 39) (v := ?_) (a' := ?_) #[true, true, true, false, false, false, true, false, false, false, true, false, false, false, false, false, false, false, false, false, false, false, false, false, false] rfl rfl (qX HT_.out HW_.out (by kernel_rfl)) (fun _ _ _ h => h) (Or.inl ⟨by rfl, ?_⟩) hHeld ?_ ?_
     rotate_left
     next =>
      rintro w' ⟨s0, s1, s2, s3, s4, s5⟩
      go_simp
      with_reducible rfl
     rotate_left
     next =>
      simp only [Act.put, yay, yby, ycy, zT, zV]
      rfl
     refine qd (i := 3) (N := some 41) (v := ?_) (a' := ?_) #[true, true, true, true, false, false, true, false, false, false, true, false, false, false, false, false, false, false, false, false, false, false, false, false, false] rfl rfl (qX HT_.out HW_.out (by kernel_rfl)) (fun _ _ _ h => h) (Or.inl ⟨by rfl, ?_⟩) hHeld ?_ ?_
     rotate_left
     next =>
      rintro w' ⟨s0, s1, s2, s3, s4, s5⟩
      go_simp
      with_reducible rfl
     rotate_left
     next =>
      simp only [Act.put, yay, yby, ycy, zT, zV]
      rfl
     refine zh (i := 4) (N := some 42) (v := ?_) (a' := ?_) #[true, true, true, true, true, false, true, false, false, false, true, false, false, false, false, false, false, false, false, false, false, false, false, false, false] rfl rfl (zp HT_.out (by kernel_rfl)) (fun _ _ _ h => h) (Or.inl ⟨by rfl, ?_⟩) ?_ ?_
     rotate_left
     next =>
      intro w'
      go_simp
      with_reducible rfl
     rotate_left
     next =>
      simp only [Act.put, yay, yby, ycy, zT, zV]
      rfl
     refine qd (i := 5) (N := some 43) (v := ?_) (a' := ?_) #[true, true, true, true, true, true, true, false, false, false, true, false, false, false, false, false, false, false, false, false, false, false, false, false, false] rfl rfl (qX HT_.out HW_.out (by kernel_rfl)) (fun _ _ _ h => h) (Or.inl ⟨by rfl, ?_⟩) hHeld ?_ ?_
     rotate_left
     next =>
      rintro w' ⟨s0, s1, s2, s3, s4, s5⟩
      go_simp
      with_reducible rfl
     rotate_left
     next =>
      simp only [Act.put, yay, yby, ycy, zT, zV]
      rfl
     refine zh (i := 7) (N := some 45) (v := ?_) (a' := ?_) #[true, true, true, true, true, true, true, true, false, false, true, false, false, false, false, false, false, false, false, false, false, false, false, false, false] rfl rfl (zp HT_.out (by kernel_rfl)) (fun _ _ _ h => h) (Or.inl ⟨by rfl, ?_⟩) ?_ ?_
     rotate_left
     next =>
      intro w'
      go_simp
      with_reducible rfl
     rotate_left
     next =>
      simp only [Act.put, yay, yby, ycy, zT, zV]
      rfl
     refine qd (i := 8) (N := some 46) (v := ?_) (a' := ?_) #[true, true, true, true, true, true, true, true, true, false, true, false, false, false, false, false, false, false, false, false, false, false, false, false, false] rfl rfl (qX HT_.out HW_.out (by kernel_rfl)) (fun _ _ _ h => h) (Or.inl ⟨by rfl, ?_⟩) hHeld ?_ ?_
     rotate_left
     next =>
      rintro w' ⟨s0, s1, s2, s3, s4, s5⟩
      go_simp
      with_reducible rfl
     rotate_left
     next =>
      simp only [Act.put, yay, yby, ycy, zT, zV]
      rfl
     refine qd (i := 9) (N := some 47) (v := ?_) (a' := ?_) #[true, true, true, true, true, true, true, true, true, true, true, false, false, false, false, false, false, false, false, false, false, false, false, false, false] rfl rfl (qX HT_.out HW_.out (by kernel_rfl)) (fun _ _ _ h => h) (Or.inl ⟨by rfl, ?_⟩) hHeld ?_ ?_
     rotate_left
     next =>
      rintro w' ⟨s0, s1, s2, s3, s4, s5⟩
      go_simp
      with_reducible rfl
     rotate_left
     next =>
      simp only [Act.put, yay, yby, ycy, zT, zV]
      rfl
     refine QH (i := 11) (N := some 49) #[true, true, true, true, true, true, true, true, true, true, true, true, false, false, false, false, false, false, false, false, false, false, false, false, false] rfl rfl (QG HT_.out (by kernel_rfl)) (by decide) (fun K hK => ?_)
     refine ZV Try.func129 (by kernel_rfl) rfl #[.agg #[.int .i64 ((zK (zG l0_0 a1) a2).f0), .int .i64 ((zK (zG l0_0 a1) a2).f1)], .int .i64 a1] (by rfl) rfl rfl (by (try simp only [yiy, yjy, yky]); first | done | rfl | (simp only [yly, ymy]; rfl)) ?_
     with_reducible refine (ql.calls ((zK (zG l0_0 a1) a2).f0) ((zK (zG l0_0 a1) a2).f1) a1 t110 t111 _ A35.out).mono ?_
     rintro e w42 ⟨rfl, hb⟩
     refine ⟨_, rfl, ?_⟩
     have n0_ := zA.mk (zJ (g := gb101) (o := .cells #[.slice (some ad102) l0_0.length c0_0] 30 (0, 0)) (by (with_reducible repeat (first | refine zH ?_ _ | refine zI ?_ | refine zF ?_ _)); exact BK101.out) hb)
     have n1_ := zA.mk (zJ (g := gb104) (o := .cells #[.int .i64 ((zK (zG l0_0 a1) a2).f0), .int .i64 ((zK (zG l0_0 a1) a2).f1)] 59 (0, 0)) (by (with_reducible repeat (first | refine zH ?_ _ | refine zI ?_ | refine zF ?_ _)); exact BK104.out) hb)
     have n2_ := zA.mk (zN (by repeat (first | (with_reducible first | exact HB.out | apply zC | apply zB | apply zD | refine zE ?_ GE101.out | refine zE ?_ GE104.out) | exact HB.out)) hb)
     clear BK101
     clear BK104
     clear HB
     have BK101 := n0_
     have BK104 := n1_
     have HB := n2_
     clear n0_ n1_ n2_
     (try clear hb)
     (try clear hb2)
     (try clear hk)
     (try clear hi)
     refine hK.out _ _ ⟨(zL BK101.out 0).trans rfl, (zL BK104.out 0).trans rfl, (zL BK104.out 1).trans rfl, ((HB.out.cell (yny w _ hw108_0)).trans hw108_0), ((HB.out.cell (yny w _ hw109_0)).trans hw109_0), ((HB.out.cell (yny w _ hw109_1)).trans hw109_1)⟩ (fun hHeld => ?_)
     clear hK K
     refine qz (a' := ?_) ?_ ?_
     rotate_left
     next =>
      show Act.put _ (some 49) _ = _
      simp only [Act.put, yay, yby, ycy, zT, zV]
      rfl
     refine zh (i := 12) (N := some 50) (v := ?_) (a' := ?_) #[true, true, true, true, true, true, true, true, true, true, true, true, true, false, false, false, false, false, false, false, false, false, false, false, false] rfl rfl (zp HT_.out (by kernel_rfl)) (fun _ _ _ h => h) (Or.inl ⟨by rfl, ?_⟩) ?_ ?_
     rotate_left
     next =>
      intro w'
      go_simp
      with_reducible rfl
     rotate_left
     next =>
      simp only [Act.put, yay, yby, ycy, zT, zV]
      rfl
     refine zh (i := 13) (N := some 51) (v := ?_) (a' := ?_) #[true, true, true, true, true, true, true, true, true, true, true, true, true, true, false, false, false, false, false, false, false, false, false, false, false] rfl rfl (zp HT_.out (by kernel_rfl)) (fun _ _ _ h => h) (Or.inl ⟨by rfl, ?_⟩) ?_ ?_
     rotate_left
     next =>
      intro w'
      go_simp
      with_reducible rfl
     rotate_left
     next =>
      simp only [Act.put, yay, yby, ycy, zT, zV]
      rfl
     refine zh (i := 14) (N := some 52) (v := ?_) (a' := ?_) #[true, true, true, true, true, true, true, true, true, true, true, true, true, true, true, false, false, false, false, false, false, false, false, false, false] rfl rfl (zp HT_.out (by kernel_rfl)) (fun _ _ _ h => h) (Or.inl ⟨by rfl, ?_⟩) ?_ ?_
     rotate_left
     next =>
      intro w'
      go_simp
      with_reducible rfl
     rotate_left
     next =>
      simp only [Act.put, yay, yby, ycy, zT, zV]
      rfl
     refine zh (i := 16) (N := some 54) (v := ?_) (a' := ?_) #[true, true, true, true, true, true, true, true, true, true, true, true, true, true, true, false, true, false, false, false, false, false, false, false, false] rfl rfl (zp HT_.out (by kernel_rfl)) (fun _ _ _ h => h) (Or.inl ⟨by rfl, ?_⟩) ?_ ?_
     rotate_left
     next =>
      intro w'
      go_simp
      with_reducible rfl
     rotate_left
     next =>
      simp only [Act.put, yay, yby, ycy, zT, zV]
      rfl
     refine qd (i := 15) (N := some 53) (v := ?_) (a' := ?_) #[true, true, true, true, true, true, true, true, true, true, true, true, true, true, true, true, true, false, false, false, false, false, false, false, false] rfl rfl (qX HT_.out HW_.out (by kernel_rfl)) (fun _ _ _ h => h) (Or.inl ⟨by rfl, ?_⟩) hHeld ?_ ?_
     rotate_left
     next =>
      rintro w' ⟨s0, s1, s2, s3, s4, s5⟩
      go_simp
      with_reducible rfl
     rotate_left
     next =>
      simp only [Act.put, yay, yby, ycy, zT, zV]
      rfl
     refine zh (i := 17) (N := some 55) (v := ?_) (a' := ?_) #[true, true, true, true, true, true, true, true, true, true, true, true, true, true, true, true, true, true, false, false, false, false, false, false, false] rfl rfl (zp HT_.out (by kernel_rfl)) (fun _ _ _ h => h) (Or.inl ⟨by rfl, ?_⟩) ?_ ?_
     rotate_left
     next =>
      intro w'
      go_simp
      with_reducible rfl
     rotate_left
     next =>
      simp only [Act.put, yay, yby, ycy, zT, zV]
      rfl
     refine zh (i := 18) (N := some 56) (v := ?_) (a' := ?_) #[true, true, true, true, true, true, true, true, true, true, true, true, true, true, true, true, true, true, true, false, false, false, false, false, false] rfl rfl (zp HT_.out (by kernel_rfl)) (fun _ _ _ h => h) (Or.inl ⟨by rfl, ?_⟩) ?_ ?_
     rotate_left
     next =>
      intro w'
      go_simp
      with_reducible rfl
     rotate_left
     next =>
      simp only [Act.put, yay, yby, ycy, zT, zV]
      rfl
     refine zh (i := 19) (N := some 57) (v := ?_) (a' := ?_) #[true, true, true, true, true, true, true, true, true, true, true, true, true, true, true, true, true, true, true, true, false, false, false, false, false] rfl rfl (zp HT_.out (by kernel_rfl)) (fun _ _ _ h => h) (Or.inl ⟨by rfl, ?_⟩) ?_ ?_
     rotate_left
     next =>
      intro w'
      go_simp
      with_reducible rfl
     rotate_left
     next =>
      simp only [Act.put, yay, yby, ycy, zT, zV]
      rfl
     refine zh (i := 20) (N := some 58) (v := ?_) (a' := ?_) #[true, true, true, true, true, true, true, true, true, true, true, true, true, true, true, true, true, true, true, true, true, false, false, false, false] rfl rfl (zp HT_.out (by kernel_rfl)) (fun _ _ _ h => h) (Or.inl ⟨by rfl, ?_⟩) ?_ ?_
     rotate_left
     next =>
      intro w'
      go_simp
      with_reducible rfl
     rotate_left
     next =>
      simp only [Act.put, yay, yby, ycy, zT, zV]
      rfl
     refine zh (i := 21) (N := some 59) (v := ?_) (a' := ?_) #[true, true, true, true, true, true, true, true, true, true, true, true, true, true, true, true, true, true, true, true, true, true, false, false, false] rfl rfl (zp HT_.out (by kernel_rfl)) (fun _ _ _ h => h) (Or.inl ⟨by rfl, ?_⟩) ?_ ?_
     rotate_left
     next =>
      intro w'
      go_simp
      with_reducible rfl
     rotate_left
     next =>
      simp only [Act.put, yay, yby, ycy, zT, zV]
      rfl
     refine zh (i := 22) (N := some 60) (v := ?_) (a' := ?_) #[true, true, true, true, true, true, true, true, true, true, true, true, true, true, true, true, true, true, true, true, true, true, true, false, false] rfl rfl (zp HT_.out (by kernel_rfl)) (fun _ _ _ h => h) (Or.inl ⟨by rfl, ?_⟩) ?_ ?_
     rotate_left
     next =>
      intro w'
      go_simp
      with_reducible rfl
     rotate_left
     next =>
      simp only [Act.put, yay, yby, ycy, zT, zV]
      rfl
     refine zh (i := 23) (N := some 61) (v := ?_) (a' := ?_) #[true, true, true, true, true, true, true, true, true, true, true, true, true, true, true, true, true, true, true, true, true, true, true, true, false] rfl rfl (zp HT_.out (by kernel_rfl)) (fun _ _ _ h => h) (Or.inl ⟨by rfl, ?_⟩) ?_ ?_
     rotate_left
     next =>
      intro w'
      go_simp
      with_reducible rfl
     rotate_left
     next =>
      simp only [Act.put, yay, yby, ycy, zT, zV]
      rfl
     refine zh (i := 24) (N := some 6) (v := ?_) (a' := ?_) #[true, true, true, true, true, true, true, true, true, true, true, true, true, true, true, true, true, true, true, true, true, true, true, true, true] rfl rfl (zp HT_.out (by kernel_rfl)) (fun _ _ _ h => h) (Or.inl ⟨by rfl, ?_⟩) ?_ ?_
     rotate_left
     next =>
      intro w'
      go_simp
      with_reducible rfl
     rotate_left
     next =>
      simp only [Act.put, yay, yby, ycy, zT, zV]
      rfl
     refine Zy (QQ HT_.out (by kernel_rfl)) ?_
     try go_wp2
     go_ret
     exact ⟨by first | rfl | (simp [zb, zc] <;> rfl) | (simp [*, zb, zc] <;> rfl), by repeat (first | (with_reducible first | exact HB.out | apply zC | apply zB | apply zD | refine zE ?_ GE101.out | refine zE ?_ GE104.out) | exact HB.out)⟩
end
def qZ.f (l0 : List (qJ)) : Option (Bool) := some ((l0.length : Int) != 4)
set_option maxHeartbeats 8000000 in
set_option maxRecDepth 100000 in
theorem qZ.calls (A0 : Option Addr) (c0 : Nat) (l0 : List (qJ)) (r : Bool) (w : World) (hr0 : Kd.C ZK w A0 l0.length l0) (hc0 : l0.length ≤ c0) (h : qZ.f l0 = some r) :
    Calls Try.prog 99 #[.slice A0 l0.length c0] w fun e w' => e = .returned (.bool r) ∧ qA w w' := by
  have HR0 := zA.mk hr0
  have HC0 := zA.mk hc0
  clear hr0 hc0
  have H : (some ((l0.length : Int) != 4)) = some r := h
  clear h
  obtain rfl := yey H
  go_enter Try.func99, Try.ntmps99
  go_wp2
  go_ret
  exact ⟨by first | rfl | (simp; done) | (simp [*]; done), by repeat (first | exact qA.refl _ | apply qA.step)⟩
end Go.Proofs.Ytfnopcbicceeaaa.P
namespace Go.Proofs.Ytfnopcbicceeaaa.P
open Go.RowKit Go.Proofs.YtfnopcbicceeaaaW.PrintWords Go.Proofs.YtfnopcbicceeaaaW.PrintLast Go.Proofs.YtfnopcbicceeaaaW.PrintMore
attribute [local go_sem] QZ Qa JF JG QK QL Qb Qc
set_option linter.unusedVariables false
set_option linter.unusedSimpArgs false
open Go.Proofs.Ytfnopcbicceeaaa.Lib
def qB.f (l0 : List (List (qJ))) : Option Int := zDb (fun x => qZ.f x) 0 l0
set_option maxHeartbeats 8000000 in
set_option maxRecDepth 100000 in
theorem qB.calls (A0 : Option Addr) (c0 : Nat) (l0 : List (List (qJ))) (r : Int) (w : World) (hr0 : Kd.C (Kd.slice 59 ZK) w A0 l0.length l0) (hc0 : l0.length ≤ c0) (h : qB.f l0 = some r) :
    Calls Try.prog 131 #[.slice A0 l0.length c0, .func (.func 99) #[] #[]] w fun e w' => e = .returned (.int .i64 r) ∧ Below w.heap.size w w' := by
  have HR0 := zA.mk hr0
  clear hr0 hc0
  have hbig : l0.length ≤ 9223372036854775807 := HR0.out.2.1
  have HB := zA.mk (ypy w.heap.size w)
  have H' := zA.mk (show zDb (fun x => qZ.f x) 0 l0 = some r from h)
  clear h
  go_enter Try.func131, Try.ntmps131
  go_wp2
  go_loopg [5, 8] l0.length (fun gg v5 v8 w' => ∃ kk : Nat, kk ≤ l0.length ∧ l0.length - kk ≤ gg ∧ v8 = .int .i64 kk ∧ zA (zDb (fun x => qZ.f x) kk (l0.drop kk) = some r) ∧ zA (Below w.heap.size w w'))
  case atStart => exact ⟨0, Nat.zero_le _, by omega, rfl, H', HB⟩
  case round =>
    clear H' HB
    obtain ⟨kk, hkk, hg, rfl, HA, HB⟩ := hrel
    by_cases hlt : kk < l0.length
    · have hltz : (kk : Int) < (l0.length : Int) := by omega
      have H := HA.out
      clear HA
      rw [List.drop_eq_getElem_cons hlt, zBJ] at H
      replace H := ydy.mp H
      obtain ⟨b, hb, H⟩ := H
      obtain ⟨ad, A1, c1, e104, hx, hl1, hi1⟩ := ZA HR0.out (kk : Int) (by omega) (by omega)
      have ex : zG l0 (kk : Int) = l0[kk] := by simp [zG, hlt]
      rw [ex] at hx hl1 hi1
      rw [Int.toNat_natCast] at hx
      replace hx := (HB.out.cell (yny w _ hx)).trans hx
      replace hi1 := Kd.zw hi1 HB.out
      generalize l0[kk] = y at hx hl1 hi1 hb
      have HI1 := zA.mk hi1
      have HL1 := zA.mk hl1
      clear ex hi1 hl1
      cases e104
      have HC := zA.mk hb
      clear hb
      cases b with
      | true =>
        have H2 := zA.mk H
        clear H
        go_wp2_with fail
        refine (qZ.calls _ _ _ _ _ HI1.out HL1.out HC.out).mono ?_
        rintro e w' ⟨rfl, hd⟩
        have HB2 := zA.mk (zN HB.out hd.below)
        clear hd HB
        go_wp2
        go_ret
        exact ⟨by rw [yey H2.out]; rfl, HB2.out⟩
      | false =>
        have H2 := zA.mk H
        clear H
        go_wp2_with fail
        refine (qZ.calls _ _ _ _ _ HI1.out HL1.out HC.out).mono ?_
        rintro e w' ⟨rfl, hd⟩
        have HB2 := zA.mk (zN HB.out hd.below)
        clear hd HB
        go_wp2
        go_roundg (l0.length - (kk + 1))
        case measure => omega
        case rel => exact ⟨kk + 1, by omega, by omega, by go_num, H2, HB2⟩
    · have hltz : ¬ (kk : Int) < (l0.length : Int) := by omega
      have e : kk = l0.length := by omega
      subst e
      have H2 := zA.mk (yey (by simpa [zDb] using HA.out))
      clear HA
      go_wp2
      go_ret
      exact ⟨by rw [← H2.out]; rfl, HB.out⟩
def zl.f (l0 : List (List (qJ))) : Option Bool := (qB.f l0).bind fun i => some (decide (0 ≤ i))
set_option maxHeartbeats 8000000 in
set_option maxRecDepth 100000 in
theorem zl.calls (A0 : Option Addr) (c0 : Nat) (l0 : List (List (qJ))) (r : Bool) (w : World) (hr0 : Kd.C (Kd.slice 59 ZK) w A0 l0.length l0) (hc0 : l0.length ≤ c0) (h : zl.f l0 = some r) :
    Calls Try.prog 98 #[.slice A0 l0.length c0, .func (.func 99) #[] #[]] w fun e w' => e = .returned (.bool r) ∧ Below w.heap.size w w' := by
  obtain ⟨i, hi, h⟩ := ydy.mp h
  have H := zA.mk (yey h)
  clear h
  have HI := zA.mk hi
  clear hi
  have HR0 := zA.mk hr0
  have HC0 := zA.mk hc0
  clear hr0 hc0
  go_enter Try.func98, Try.ntmps98
  go_wp2_with fail
  refine (qB.calls _ _ _ _ _ HR0.out HC0.out HI.out).mono ?_
  rintro e w' ⟨rfl, hd⟩
  have HB := zA.mk hd
  clear hd
  go_wp2
  go_ret
  exact ⟨by rw [← H.out]; rfl, HB.out⟩
end Go.Proofs.Ytfnopcbicceeaaa.P
namespace Go.Proofs.Ytfnopcbicceeaaa.P
open Go.RowKit Go.Proofs.YtfnopcbicceeaaaW.PrintWords Go.Proofs.YtfnopcbicceeaaaW.PrintLast Go.Proofs.YtfnopcbicceeaaaW.PrintMore
attribute [local go_sem] QZ Qa JF JG QK QL Qb Qc
set_option linter.unusedVariables false
set_option linter.unusedSimpArgs false
mutual
def zW.j0 : Nat → Bool → List (List (qJ)) → Option (Bool)
  | 0, _, _ => none
  | k + 1, x13, x102000 => if x13 = true then (some false) else ((qO.f x102000).bind fun t103 => (zW.l0 k t103 0 x102000))
def zW.l0 : Nat → Int → Int → List (List (qJ)) → Option (Bool)
  | 0, _, _, _ => none
  | k + 1, x16, x17, x102000 => if x17 < x16 then (zW.l1 k x17 x16 x17 0 x102000) else (some true)
def zW.l1 : Nat → Int → Int → Int → Int → List (List (qJ)) → Option (Bool)
  | 0, _, _, _, _, _ => none
  | k + 1, x3, x16, x17, x20, x102000 => if x20 < 4 then ((zU.f k x102000 x3 x20).bind fun t104 => (if t104 = true then (zW.l1 k x3 x16 x17 (wrap64 (x20 + 1)) x102000) else (some false))) else (zW.l0 k x16 (wrap64 (x17 + 1)) x102000)
end
def zW.f (k : Nat) (l0_0 : List (List (qJ))) : Option (Bool) := if (l0_0.length : Int) > 8 then (zW.j0 k true l0_0) else ((zl.f l0_0).bind fun t102 => (zW.j0 k t102 l0_0))
set_option maxHeartbeats 8000000 in
set_option maxRecDepth 100000 in
theorem zW.calls (k : Nat) (A0_0 : Option Addr) (c0_0 : Nat) (l0_0 : List (List (qJ))) (r : Bool) (w : World) (hr0_0 : Kd.C (Kd.slice 59 ZK) w A0_0 l0_0.length l0_0) (hc0_0 : l0_0.length ≤ c0_0) (h : zW.f k l0_0 = some r) :
    Calls Try.prog 58 #[.agg #[.slice A0_0 l0_0.length c0_0]] w fun e w' => e = .returned (.bool r) ∧ Below w.heap.size w w' := by
  have hu30 := Try.underlying30
  have HR0_0 := zA.mk hr0_0
  have HC0_0 := zA.mk hc0_0
  clear hr0_0 hc0_0
  have HB := zA.mk (ypy w.heap.size w)
  have H : (if (l0_0.length : Int) > 8 then (zW.j0 k true l0_0) else ((zl.f l0_0).bind fun t102 => (zW.j0 k t102 l0_0))) = some r := h
  clear h
  have HC2 := zA.mk H
  clear H
  go_enter Try.func58, Try.ntmps58
  go_upto_region 1 with (first | ((with_reducible refine zq (N := 1) rfl ?_); refine zr ?hg (N := 1) ?hd (cs := #[.slice A0_0 l0_0.length c0_0]) (t := 30) ?hr ?_; (case hd => rfl); (case hg => rfl); (case hr => first | (go_simp; done) | (go_simp; rfl)); intro gb101 hg w3 hbox hb; have n0_ := zA.mk (zN (by repeat (first | (with_reducible first | exact HB.out | apply zC | apply zB | apply zD) | exact HB.out)) hb); have n1_ := zA.mk (hbox); have n2_ := zA.mk ((by rw [hg]; exact (zO (by repeat (first | (with_reducible first | exact HB.out | apply zC | apply zB | apply zD) | exact HB.out))) : w.heap.size ≤ gb101)); have n3_ := zA.mk ((by rw [hg]; exact (zO (by repeat (first | (with_reducible first | exact HB.out | apply zC | apply zB | apply zD) | exact HB.out))) : w.heap.size ≤ gb101)); clear HB; have HB := n0_; have BK101 := n1_; have GW101 := n2_; have GE101 := n3_; clear n0_ n1_ n2_ n3_; clear hb hbox hg))
  (try simp only [Act.put, yay, yby, ycy])
  go_cut [13] (fun v13 wc => ∃ (kq : Nat) (x13_1 : Bool), v13 = .bool x13_1 ∧ zA (zW.j0 kq x13_1 l0_0 = some r) ∧ zA (kq ≤ k) ∧ zA (wc.heap[gb101]? = some (.cells #[(.slice A0_0 l0_0.length c0_0)] 30 (0, 0))) ∧ zA (Below w.heap.size w wc))
  case first =>
    have H := HC2.out
    clear HC2
    by_cases c4 : (l0_0.length : Int) > 8
    · rw [if_pos c4] at H
      have c4b0 : decide (8 < (l0_0.length : Int)) = true := ygy c4
      have c4b1 : decide (8 < l0_0.length) = true := ygy (by omega)
      clear c4
      (first | rw [c4b0] | (simp only [zT, zV]; rw [c4b0]) | skip)
      have H' := zA.mk H
      clear H
      have hcz5_0 : w3.cell? ⟨gb101, 0, none⟩ = some (.slice A0_0 l0_0.length c0_0) := (zL BK101.out 0).trans rfl
      have hfz5_0 := zQ BK101.out 0
      go_wp2
      go_meet
      case rel => exact ⟨_, (true), (by first | rfl | (simp; done) | (simp [*]; done)), H', ⟨by first | omega | exact yoy _⟩, ⟨by (with_reducible repeat (first | refine zH ?_ _ | refine zI ?_ | refine zF ?_ _)); exact BK101.out⟩, ⟨by repeat (first | (with_reducible first | exact HB.out | apply zC | apply zB | apply zD | refine zE ?_ GE101.out) | exact HB.out)⟩⟩
    · rw [if_neg c4] at H
      have c4b0 : decide (8 < (l0_0.length : Int)) = false := yhy c4
      have c4b1 : decide (8 < l0_0.length) = false := yhy (by omega)
      clear c4
      (first | rw [c4b0] | (simp only [zT, zV]; rw [c4b0]) | skip)
      replace H := ydy.mp H
      obtain ⟨t102, A60, H⟩ := H
      replace H : (zW.j0 k t102 l0_0) = some r := H
      have A6 := zA.mk A60
      clear A60
      have H' := zA.mk H
      clear H
      have hcz7_0 : w3.cell? ⟨gb101, 0, none⟩ = some (.slice A0_0 l0_0.length c0_0) := (zL BK101.out 0).trans rfl
      have hfz7_0 := zQ BK101.out 0
      go_wp2_with (first | (go_at_call 98; (with_reducible refine (zl.calls _ _ l0_0 t102 _ ?side1 ?side2 A6.out).mono ?_); (case side1 => repeat (first | exact (Kd.zw HR0_0.out HB.out) | (with_reducible refine Kd.zn ?_ _) | (with_reducible refine Kd.zo ?_ _) | (with_reducible refine Kd.qD ?_))); (case side2 => exact HC0_0.out); rintro e w8 ⟨rfl, hb⟩; have n0_ := zA.mk (zJ (g := gb101) (o := .cells #[.slice A0_0 l0_0.length c0_0] 30 (0, 0)) (by (with_reducible repeat (first | refine zH ?_ _ | refine zI ?_ | refine zF ?_ _)); exact BK101.out) hb); have n1_ := zA.mk (zN (by repeat (first | (with_reducible first | exact HB.out | apply zC | apply zB | apply zD | refine zE ?_ GE101.out) | exact HB.out)) hb); clear BK101; clear HB; have BK101 := n0_; have HB := n1_; clear n0_ n1_; (try clear hb); (try clear hb2); (try clear hk); (try clear hi)))
      go_meet
      case rel => exact ⟨_, (t102), (by first | rfl | (simp; done) | (simp [*]; done)), H', ⟨by first | omega | exact yoy _⟩, ⟨by (with_reducible repeat (first | refine zH ?_ _ | refine zI ?_ | refine zF ?_ _)); exact BK101.out⟩, ⟨by repeat (first | (with_reducible first | exact HB.out | apply zC | apply zB | apply zD | refine zE ?_ GE101.out) | exact HB.out)⟩⟩
  case rest =>
    clear HC2
    try clear p2
    try clear c4
    try clear c4b0
    try clear c4b1
    try clear c5
    try clear hcz5_0
    try clear hcz7_0
    try clear hfz5_0
    try clear hfz7_0
    obtain ⟨kq, x13_1, rfl, HA, HJ1, BK101, HB⟩ := hcut
    cases kq with
    | zero => exact absurd HA.out (by simp [zW.j0])
    | succ kj1 =>
      have H := HA.out
      clear HA
      simp only [zW.j0] at H
      by_cases c9 : x13_1 = true
      · subst c9
        have H1 : (some false) = some r := by rw [if_pos rfl] at H; exact H
        clear H
        have H := H1
        clear H1
        obtain rfl := yey H
        go_wp2
        go_ret
        exact ⟨by first | rfl | (simp [zb, zc] <;> rfl) | (simp [*, zb, zc] <;> rfl), by repeat (first | (with_reducible first | exact HB.out | apply zC | apply zB | apply zD | refine zE ?_ GE101.out) | exact HB.out)⟩
      · replace c9 := Bool.eq_false_iff.mpr c9
        subst c9
        have H1 : ((qO.f l0_0).bind fun t103 => (zW.l0 kj1 t103 0 l0_0)) = some r := by rw [if_neg (show ¬ (false = true) by decide)] at H; exact H
        clear H
        have H := H1
        clear H1
        replace H := ydy.mp H
        obtain ⟨t103, A100, H⟩ := H
        replace H : (zW.l0 kj1 t103 0 l0_0) = some r := H
        have A10 := zA.mk A100
        clear A100
        have H' := zA.mk H
        clear H
        have hcz11_0 : wc.cell? ⟨gb101, 0, none⟩ = some (.slice A0_0 l0_0.length c0_0) := (zL BK101.out 0).trans rfl
        have hfz11_0 := zQ BK101.out 0
        go_wp2_with (first | ((with_reducible refine zf (f := 46) rfl ?_); refine qT (some 16) rfl rfl Try.func46 (by kernel_rfl) rfl #[.slice A0_0 l0_0.length c0_0] rfl (by (try simp only [yiy, yjy, yky]); first | done | rfl | (simp only [yly, ymy]; rfl)) ?_; (with_reducible refine (qO.calls _ _ l0_0 t103 _ ?side1 ?side2 A10.out).mono ?_); (case side1 => repeat (first | exact (Kd.zw HR0_0.out HB.out) | (with_reducible refine Kd.zn ?_ _) | (with_reducible refine Kd.zo ?_ _) | (with_reducible refine Kd.qD ?_))); (case side2 => exact HC0_0.out); rintro e w' ⟨rfl, ⟨nd, rfl⟩⟩; refine ⟨_, rfl, ?_⟩))
        go_loopg [17] kj1 (fun kq v17 w' => ∃ (x17_2 : Int), v17 = .int .i64 x17_2 ∧ zA (zW.l0 kq t103 x17_2 l0_0 = some r) ∧ zA (kq ≤ kj1) ∧ zA (w'.heap[gb101]? = some (.cells #[(.slice A0_0 l0_0.length c0_0)] 30 (0, 0))) ∧ zA (Below w.heap.size w w'))
        case atStart => exact ⟨(0), (by first | rfl | (simp; done) | (simp [*]; done)), H', ⟨yoy _⟩, ⟨by (with_reducible repeat (first | refine zH ?_ _ | refine zI ?_ | refine zF ?_ _)); exact BK101.out⟩, ⟨by repeat (first | (with_reducible first | exact HB.out | apply zC | apply zB | apply zD | refine zE ?_ GE101.out) | exact HB.out)⟩⟩
        case round =>
          clear H'
          try clear p2
          try clear c4
          try clear c4b0
          try clear c4b1
          try clear c5
          try clear c9
          try clear hcz11_0
          try clear hcz5_0
          try clear hcz7_0
          try clear hfz11_0
          try clear hfz5_0
          try clear hfz7_0
          try clear p2
          obtain ⟨x17_2, rfl, HA, HK2, BK101, HB⟩ := hrel
          cases gk with
          | zero => exact absurd HA.out (by simp [zW.l0])
          | succ k2 =>
            have H := HA.out
            clear HA
            simp only [zW.l0] at H
            by_cases c12 : x17_2 < t103
            · rw [if_pos c12] at H
              have c12b0 : decide (x17_2 < t103) = true := ygy c12
              clear c12
              have H' := zA.mk H
              clear H
              go_wp2
              go_loopg [20] k2 (fun kq v20 w' => ∃ (x20_3 : Int), v20 = .int .i64 x20_3 ∧ zA (zW.l1 kq x17_2 t103 x17_2 x20_3 l0_0 = some r) ∧ zA (kq ≤ k2) ∧ zA (w'.heap[gb101]? = some (.cells #[(.slice A0_0 l0_0.length c0_0)] 30 (0, 0))) ∧ zA (Below w.heap.size w w'))
              case atStart => exact ⟨(0), (by first | rfl | (simp; done) | (simp [*]; done)), H', ⟨yoy _⟩, ⟨by (with_reducible repeat (first | refine zH ?_ _ | refine zI ?_ | refine zF ?_ _)); exact BK101.out⟩, ⟨by repeat (first | (with_reducible first | exact HB.out | apply zC | apply zB | apply zD | refine zE ?_ GE101.out) | exact HB.out)⟩⟩
              case round =>
                clear H'
                try clear c1
                try clear p2
                try clear c4
                try clear c4b0
                try clear c4b1
                try clear c5
                try clear c9
                try clear c12
                try clear c12b0
                try clear hcz11_0
                try clear hcz5_0
                try clear hcz7_0
                try clear hfz11_0
                try clear hfz5_0
                try clear hfz7_0
                try clear p2
                obtain ⟨x20_3, rfl, HA, HK3, BK101, HB⟩ := hrel
                cases gk with
                | zero => exact absurd HA.out (by simp [zW.l1])
                | succ k3 =>
                  have H := HA.out
                  clear HA
                  simp only [zW.l1] at H
                  by_cases c13 : x20_3 < 4
                  · rw [if_pos c13] at H
                    have c13b0 : decide (x20_3 < 4) = true := ygy c13
                    clear c13
                    replace H := ydy.mp H
                    obtain ⟨t104, A140, H⟩ := H
                    replace H : (if t104 = true then (zW.l1 k3 x17_2 t103 x17_2 (wrap64 (x20_3 + 1)) l0_0) else (some false)) = some r := H
                    have A14 := zA.mk A140
                    clear A140
                    by_cases c15 : t104 = true
                    · subst c15
                      have H1 : (zW.l1 k3 x17_2 t103 x17_2 (wrap64 (x20_3 + 1)) l0_0) = some r := by rw [if_pos rfl] at H; exact H
                      clear H
                      have H := H1
                      clear H1
                      have H' := zA.mk H
                      clear H
                      have hcz16_0 : wr.cell? ⟨gb101, 0, none⟩ = some (.slice A0_0 l0_0.length c0_0) := (zL BK101.out 0).trans rfl
                      have hfz16_0 := zQ BK101.out 0
                      go_wp2_with (first | ((with_reducible refine zf (f := 100) rfl ?_); refine qT (some 26) rfl rfl Try.func100 (by kernel_rfl) rfl #[.agg #[.slice A0_0 l0_0.length c0_0], .int .i64 x17_2, .int .i64 x20_3] rfl (by (try simp only [yiy, yjy, yky]); first | done | rfl | (simp only [yly, ymy]; rfl)) ?_; (with_reducible refine (zU.calls k3 _ _ l0_0 x17_2 x20_3 true _ ?side1 ?side2 A14.out).mono ?_); (case side1 => repeat (first | exact (Kd.zw HR0_0.out HB.out) | (with_reducible refine Kd.zn ?_ _) | (with_reducible refine Kd.zo ?_ _) | (with_reducible refine Kd.qD ?_))); (case side2 => exact HC0_0.out); rintro e w17 ⟨rfl, hb⟩; refine ⟨_, rfl, ?_⟩; have n0_ := zA.mk (zJ (g := gb101) (o := .cells #[.slice A0_0 l0_0.length c0_0] 30 (0, 0)) (by (with_reducible repeat (first | refine zH ?_ _ | refine zI ?_ | refine zF ?_ _)); exact BK101.out) hb); have n1_ := zA.mk (zN (by repeat (first | (with_reducible first | exact HB.out | apply zC | apply zB | apply zD | refine zE ?_ GE101.out) | exact HB.out)) hb); clear BK101; clear HB; have BK101 := n0_; have HB := n1_; clear n0_ n1_; (try clear hb); (try clear hb2); (try clear hk); (try clear hi)))
                      go_roundg k3
                      case measure => have := HJ1.out; have := HK2.out; have := HK3.out; omega
                      case rel => exact ⟨(wrap64 (x20_3 + 1)), (by first | rfl | (simp; done) | (simp [*]; done)), H', ⟨by have := HJ1.out; have := HK2.out; have := HK3.out; omega⟩, ⟨by (with_reducible repeat (first | refine zH ?_ _ | refine zI ?_ | refine zF ?_ _)); exact BK101.out⟩, ⟨by repeat (first | (with_reducible first | exact HB.out | apply zC | apply zB | apply zD | refine zE ?_ GE101.out) | exact HB.out)⟩⟩
                    · replace c15 := Bool.eq_false_iff.mpr c15
                      subst c15
                      have H1 : (some false) = some r := by rw [if_neg (show ¬ (false = true) by decide)] at H; exact H
                      clear H
                      have H := H1
                      clear H1
                      obtain rfl := yey H
                      have hcz18_0 : wr.cell? ⟨gb101, 0, none⟩ = some (.slice A0_0 l0_0.length c0_0) := (zL BK101.out 0).trans rfl
                      have hfz18_0 := zQ BK101.out 0
                      go_wp2_with (first | ((with_reducible refine zf (f := 100) rfl ?_); refine qT (some 26) rfl rfl Try.func100 (by kernel_rfl) rfl #[.agg #[.slice A0_0 l0_0.length c0_0], .int .i64 x17_2, .int .i64 x20_3] rfl (by (try simp only [yiy, yjy, yky]); first | done | rfl | (simp only [yly, ymy]; rfl)) ?_; (with_reducible refine (zU.calls k3 _ _ l0_0 x17_2 x20_3 false _ ?side1 ?side2 A14.out).mono ?_); (case side1 => repeat (first | exact (Kd.zw HR0_0.out HB.out) | (with_reducible refine Kd.zn ?_ _) | (with_reducible refine Kd.zo ?_ _) | (with_reducible refine Kd.qD ?_))); (case side2 => exact HC0_0.out); rintro e w19 ⟨rfl, hb⟩; refine ⟨_, rfl, ?_⟩; have n0_ := zA.mk (zJ (g := gb101) (o := .cells #[.slice A0_0 l0_0.length c0_0] 30 (0, 0)) (by (with_reducible repeat (first | refine zH ?_ _ | refine zI ?_ | refine zF ?_ _)); exact BK101.out) hb); have n1_ := zA.mk (zN (by repeat (first | (with_reducible first | exact HB.out | apply zC | apply zB | apply zD | refine zE ?_ GE101.out) | exact HB.out)) hb); clear BK101; clear HB; have BK101 := n0_; have HB := n1_; clear n0_ n1_; (try clear hb); (try clear hb2); (try clear hk); (try clear hi)))
                      go_ret
                      exact ⟨by first | rfl | (simp [zb, zc] <;> rfl) | (simp [*, zb, zc] <;> rfl), by repeat (first | (with_reducible first | exact HB.out | apply zC | apply zB | apply zD | refine zE ?_ GE101.out) | exact HB.out)⟩
                  · rw [if_neg c13] at H
                    have c13b0 : decide (x20_3 < 4) = false := yhy c13
                    clear c13
                    have H' := zA.mk H
                    clear H
                    go_wp2
                    go_roundg k3
                    case measure => have := HJ1.out; have := HK2.out; have := HK3.out; omega
                    case rel => exact ⟨(wrap64 (x17_2 + 1)), (by first | rfl | (simp; done) | (simp [*]; done)), H', ⟨by have := HJ1.out; have := HK2.out; have := HK3.out; omega⟩, ⟨by (with_reducible repeat (first | refine zH ?_ _ | refine zI ?_ | refine zF ?_ _)); exact BK101.out⟩, ⟨by repeat (first | (with_reducible first | exact HB.out | apply zC | apply zB | apply zD | refine zE ?_ GE101.out) | exact HB.out)⟩⟩
            · rw [if_neg c12] at H
              have c12b0 : decide (x17_2 < t103) = false := yhy c12
              clear c12
              obtain rfl := yey H
              go_wp2
              go_ret
              exact ⟨by first | rfl | (simp [zb, zc] <;> rfl) | (simp [*, zb, zc] <;> rfl), by repeat (first | (with_reducible first | exact HB.out | apply zC | apply zB | apply zD | refine zE ?_ GE101.out) | exact HB.out)⟩
end Go.Proofs.Ytfnopcbicceeaaa.P
