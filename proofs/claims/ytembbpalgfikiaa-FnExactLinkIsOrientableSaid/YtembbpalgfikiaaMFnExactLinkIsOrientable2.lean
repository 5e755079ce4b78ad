/- The statement FnExactLinkIsOrientableSaid, proved: part 2 of 8 (texts of this session and of the kit's print, put together and cut to what is used by a program of it). -/
import Derived.Test.YtembbpalgfikiaaMFnExactLinkIsOrientable1
import Derived.Test.YtembbpalgfikiaaProg
import Derived.Below
import Derived.Deep.Draws
import Derived.Deep.AppendLies
import Derived.Maps.AppendAt
import Derived.OwnWalk
import Derived.Laws.BytesArg
import Derived.Laws.MakeOwn
import Derived.Laws.OwnMore
import Derived.Deep.OwnRows
import Derived.Tactics
import Derived.Lib.ConvBytes
import Derived.Laws.Slices
import Derived.WalkKit
import Derived.KernelRfl
import Derived.RowKit3
import Derived.Deep.LoopGhost
import Derived.Deep.QuietTactic
import Derived.BigQuiet
import Derived.WideLaws
import Derived.Deep.DeepCutAuto
import Derived.Deep.CutBlock
import Derived.Deep.RegionHeld3
import Derived.Laws.Rows
import Derived.Lib.AppendStr
import Derived.ArgAppend
import Derived.Laws.IdiomCopy
import Derived.OrdersHeld
import Derived.Laws.BitsLemmas
import Derived.RowKit
import Derived.Maps.OwnSet
import Derived.Shelf.SlicesG.Delete
import Derived.Ground.SlgnProg
import Derived.Sort.Row
import Derived.Lib.SliceRun
namespace Go.Proofs.Ytembbpalgfikiaa
abbrev yay := @List.setIfInBounds_toArray
abbrev yby := @List.set_cons_zero
abbrev ycy := @List.set_cons_succ
abbrev ydy := @Option.bind_eq_some_iff
abbrev yey := @Option.some.inj
abbrev yfy := @Option.bind_some
abbrev ygy := @decide_eq_true
abbrev yhy := @decide_eq_false
abbrev yiy := @List.map_toArray
abbrev yjy := @List.map_cons
abbrev yky := @List.map_nil
abbrev yly := @List.length_drop
abbrev ymy := @List.length_take
abbrev yny := @Int.toNat_natCast
abbrev yoy := @List.drop_eq_getElem_cons
abbrev ypy := @Go.World.block_lt_of_cell?
abbrev yqy := @Nat.le_refl
abbrev yry := @Go.RowKit.Below.refl
end Go.Proofs.Ytembbpalgfikiaa
namespace Go.Proofs.Ytembbpalgfikiaa.P
open Go.RowKit Go.Proofs.YtembbpalgfikiaaW.PrintWords Go.Proofs.YtembbpalgfikiaaW.PrintLast Go.Proofs.YtembbpalgfikiaaW.PrintMore
attribute [local go_sem] Qj Qk JQ JR QX QY Ql Qm
set_option linter.unusedVariables false
set_option linter.unusedSimpArgs false
def errW : Option Int → Value
  | none => .nilIface
  | some c => .iface 0 (.int .i64 c)
theorem zX : errW none = .nilIface := rfl
theorem zY (c : Int) : errW (some c) = .iface 0 (.int .i64 c) := rfl
theorem JS : (Try.prog.info? 2).map (fun i => (i.zero, i.size, i.bytes)) = some (some (.int .i64 0), 1, 8) := by kernel_rfl
theorem zEd : (Try.prog.info? 22).map (fun i => (i.zero, i.size, i.bytes)) = some (some (.slice none 0 0), 1, 24) := by kernel_rfl
theorem info75 : (Try.prog.info? 75).map (fun i => (i.zero, i.size, i.bytes)) = some (some (.agg #[(.int .i64 0), (.int .i64 0)]), 2, 16) := by kernel_rfl
theorem info76 : (Try.prog.info? 76).map (fun i => (i.zero, i.size, i.bytes)) = some (some (.slice none 0 0), 1, 24) := by kernel_rfl
def qj (xs : List (List Int)) (i : Int) : (List Int) := xs.getD i.toNat ([] : List Int)
theorem zBr {w : World} {A : Option Addr} {n : Nat} {xs : List (List Int)} (h : Kd.C (Kd.slice 2 (Kd.int .i64)) w A n xs) (i : Int) (h0 : 0 ≤ i) (h1 : i < n) : ∃ ad A0 c0, A = some ad ∧ w.cell? (ad.add i.toNat) = some (.slice A0 (qj xs i).length c0) ∧ (qj xs i).length ≤ c0 ∧ (Kd.int .i64).C w A0 (qj xs i).length (qj xs i) := by
  obtain ⟨ad, c, e, _, hK, hc0⟩ := Kd.zEP h ([] : List Int) i h0 h1
  have hc : ∀ j u, c[j]? = some u → w.cell? (ad.add (i.toNat * 1 + j)) = some u := hc0
  obtain ⟨A0, c0, rfl, l0, g0⟩ := hK
  exact ⟨ad, A0, c0, e, by have hq := hc 0 _ rfl; rwa [Nat.mul_one, Nat.add_zero] at hq, l0, g0⟩
structure qP where
  f0 : Int
  f1 : Int
def zDT : qP := ⟨(0 : Int), (0 : Int)⟩
def QG : Kd qP := Kd.iso (Kd.pair (Kd.int .i64) (Kd.int .i64)) (fun x : qP => (x.f0, x.f1))
theorem zBs {w : World} {x : qP} {cs : List Value} (h : QG.K w x cs) : cs = [.int .i64 x.f0, .int .i64 x.f1] := by
  obtain ⟨_, _, rfl, rfl, rfl⟩ := h
  exact rfl
theorem zCy (w : World) (x : qP)  : QG.K w x [.int .i64 x.f0, .int .i64 x.f1] := ⟨[.int .i64 x.f0], [.int .i64 x.f1], rfl, rfl, rfl⟩
def Zw (xs : List qP) (i : Int) : qP := xs.getD i.toNat zDT
theorem zDz {w : World} {A : Option Addr} {n : Nat} {xs : List qP} (h : Kd.C QG w A n xs) (i : Int) (h0 : 0 ≤ i) (h1 : i < n) : ∃ ad , A = some ad ∧ w.cell? (ad.add (i.toNat * 2)) = some (.int .i64 (Zw xs i).f0) ∧ w.cell? ⟨(ad.add (i.toNat * 2)).block, (ad.add (i.toNat * 2)).off + 1, none⟩ = some (.int .i64 (Zw xs i).f1) := by
  obtain ⟨ad, c, e, _, hK, hc0⟩ := Kd.zEP h zDT i h0 h1
  have hc : ∀ j u, c[j]? = some u → w.cell? (ad.add (i.toNat * 2 + j)) = some u := hc0
  obtain rfl := zBs hK
  exact ⟨ad, e, hc 0 _ rfl, by rw [← zCJ _ _ 1 (by omega)]; exact hc 1 _ rfl⟩
def ZL (xs : List (List qP)) (i : Int) : (List qP) := xs.getD i.toNat ([] : List qP)
theorem zA6 {w : World} {A : Option Addr} {n : Nat} {xs : List (List qP)} (h : Kd.C (Kd.slice 118 QG) w A n xs) (i : Int) (h0 : 0 ≤ i) (h1 : i < n) : ∃ ad A0 c0, A = some ad ∧ w.cell? (ad.add i.toNat) = some (.slice A0 (ZL xs i).length c0) ∧ (ZL xs i).length ≤ c0 ∧ QG.C w A0 (ZL xs i).length (ZL xs i) := by
  obtain ⟨ad, c, e, _, hK, hc0⟩ := Kd.zEP h ([] : List qP) i h0 h1
  have hc : ∀ j u, c[j]? = some u → w.cell? (ad.add (i.toNat * 1 + j)) = some u := hc0
  obtain ⟨A0, c0, rfl, l0, g0⟩ := hK
  exact ⟨ad, A0, c0, e, by have hq := hc 0 _ rfl; rwa [Nat.mul_one, Nat.add_zero] at hq, l0, g0⟩
structure qA where
  f0 : Int
  f1 : Int
def zAI : qA := ⟨(0 : Int), (0 : Int)⟩
def ZT : Kd qA := Kd.iso (Kd.pair (Kd.int .i64) (Kd.int .i64)) (fun x : qA => (x.f0, x.f1))
theorem zE0 {w : World} {x : qA} {cs : List Value} (h : ZT.K w x cs) : cs = [.int .i64 x.f0, .int .i64 x.f1] := by
  obtain ⟨_, _, rfl, rfl, rfl⟩ := h
  exact rfl
theorem zB5 {w : World} {base : Nat} {ok : Nat → Prop} {x : qA} {cs : List Value} (h : ZT.M w base ok x cs) : cs = [.int .i64 x.f0, .int .i64 x.f1] := by
  obtain ⟨_, _, rfl, rfl, rfl⟩ := h
  exact rfl
theorem zCU (w : World) (base : Nat) (ok : Nat → Prop) (x : qA)  : ZT.M w base ok x [.int .i64 x.f0, .int .i64 x.f1] := ⟨[.int .i64 x.f0], [.int .i64 x.f1], rfl, rfl, rfl⟩
def zI (xs : List qA) (i : Int) : qA := xs.getD i.toNat zAI
theorem Zp {w : World} {A : Option Addr} {n : Nat} {xs : List qA} (h : Kd.C ZT w A n xs) (i : Int) (h0 : 0 ≤ i) (h1 : i < n) : ∃ ad , A = some ad ∧ w.cell? (ad.add (i.toNat * 2)) = some (.int .i64 (zI xs i).f0) ∧ w.cell? ⟨(ad.add (i.toNat * 2)).block, (ad.add (i.toNat * 2)).off + 1, none⟩ = some (.int .i64 (zI xs i).f1) := by
  obtain ⟨ad, c, e, _, hK, hc0⟩ := Kd.zEP h zAI i h0 h1
  have hc : ∀ j u, c[j]? = some u → w.cell? (ad.add (i.toNat * 2 + j)) = some u := hc0
  obtain rfl := zE0 hK
  exact ⟨ad, e, hc 0 _ rfl, by rw [← zCJ _ _ 1 (by omega)]; exact hc 1 _ rfl⟩
def zE (xs : List (List qA)) (i : Int) : (List qA) := xs.getD i.toNat ([] : List qA)
theorem ZO {w : World} {A : Option Addr} {n : Nat} {xs : List (List qA)} (h : Kd.C (Kd.slice 75 ZT) w A n xs) (i : Int) (h0 : 0 ≤ i) (h1 : i < n) : ∃ ad A0 c0, A = some ad ∧ w.cell? (ad.add i.toNat) = some (.slice A0 (zE xs i).length c0) ∧ (zE xs i).length ≤ c0 ∧ ZT.C w A0 (zE xs i).length (zE xs i) := by
  obtain ⟨ad, c, e, _, hK, hc0⟩ := Kd.zEP h ([] : List qA) i h0 h1
  have hc : ∀ j u, c[j]? = some u → w.cell? (ad.add (i.toNat * 1 + j)) = some u := hc0
  obtain ⟨A0, c0, rfl, l0, g0⟩ := hK
  exact ⟨ad, A0, c0, e, by have hq := hc 0 _ rfl; rwa [Nat.mul_one, Nat.add_zero] at hq, l0, g0⟩
def qd.l0 : Nat → List Int → Int → Int → Option (List Int)
  | 0, _, _, _ => none
  | k + 1, x3, x5, x6 => if x6 < x5 then (if x3.length < 17592186044416 then (qd.l0 k (x3 ++ [x6]) x5 (wrap64 (x6 + 1))) else (none)) else (some x3)
def qd.f (k : Nat) (a0 : Int) : Option (List Int) := qd.l0 k ([] : List Int) a0 0
set_option maxHeartbeats 8000000 in
set_option maxRecDepth 100000 in
theorem qd.calls (k : Nat) (a0 : Int) (r : List Int) (w : World) (h : qd.f k a0 = some r) :
    Calls Try.prog 98 #[.int .i64 a0] w fun e w' => ∃ v0_ : Value, e = .returned (v0_) ∧ Kd.R (Kd.int .i64) 2 w' w.heap.size (fun _ => True) v0_ r ∧ Below w.heap.size w w' := by
  have HB := zA.mk (yry w.heap.size w)
  have H : (qd.l0 k ([] : List Int) a0 0) = some r := h
  clear h
  have H' := zA.mk H
  clear H
  go_enter Try.func98, Try.ntmps98
  go_wp2
  go_loopg [3, 6] k (fun kq v3 v6 w' => ∃ (x3_1 : List Int) (x6_1 : Int), v6 = .int .i64 x6_1 ∧ zA (qd.l0 kq x3_1 a0 x6_1 = some r) ∧ zA (kq ≤ k) ∧ zA (Kd.R (Kd.int .i64) 2 w' w.heap.size (fun _ => True) v3 x3_1) ∧ zA (Below w.heap.size w w'))
  case atStart => exact ⟨(([] : List Int)), (0), (by first | rfl | (simp; done) | (simp [*]; done)), H', ⟨yqy _⟩, ⟨by first | exact Kd.zCL _ _ _ _ _ | exact Kd.zGK _ _ _ _ _ | exact Kd.zGM _ _ _ _ _ | exact Kd.zGB _ _ _ _ _ | exact Kd.zGG _ _ _ _ _⟩, ⟨by repeat (first | (with_reducible first | exact HB.out | apply zC | apply zB | apply zD) | exact HB.out)⟩⟩
  case round =>
    clear H'
    obtain ⟨x3_1, x6_1, rfl, HA, HK1, HO_3, HB⟩ := hrel
    cases gk with
    | zero => exact absurd HA.out (by simp [qd.l0])
    | succ k1 =>
      have H := HA.out
      clear HA
      simp only [qd.l0] at H
      by_cases c2 : x6_1 < a0
      · rw [if_pos c2] at H
        have c2b0 : decide (x6_1 < a0) = true := ygy c2
        clear c2
        by_cases c3 : x3_1.length < 17592186044416
        · rw [if_pos c3] at H
          have LMc3 := zA.mk c3
          clear c3
          obtain ⟨y101, hy101⟩ : ∃ y_ : List Int, y_ = (x3_1 ++ [x6_1]) := ⟨_, rfl⟩
          replace H : (qd.l0 k1 y101 a0 (wrap64 (x6_1 + 1))) = some r := by first | (rw [hy101]; with_reducible exact H) | (have H2_ := (yfy _ _).symm.trans H; rw [hy101]; with_reducible exact H2_) | (have H2_ := (yfy _ _).symm.trans H; with_reducible exact H2_) | with_reducible exact H | (rw [hy101]; exact H) | exact H
          have Ny101 := zA.mk hy101
          clear hy101
          have H' := zA.mk H
          clear H
          go_wp2_with (first | ((with_reducible refine ZS (b := .append) (xs := #[.tmp 9, .tmp 11]) rfl ?_); at_builtin; refine Kd.Qf (Kd.int .i64) (w0 := w) w.heap.size rfl (.tmp 9) (.tmp 11) 22 2 (.int .i64 0) 8 rfl Try.underlying22 JS rfl (by decide) (by omega) u3 x3_1 x6_1 [.int .i64 x6_1] (fun _ => True) (fun _ => False) rfl rfl ?aP (fun _ hk => hk.elim) ?aF ?aO ?aB ?aS ?aL ?_; (case aP => exact rfl); (case aB => exact (by repeat (first | (with_reducible first | exact HB.out | apply zC | apply zB | apply zD) | exact HB.out))); (case aF => exact (fun _ _ => trivial)); (case aO => exact (by (with_reducible repeat (first | apply Kd.zR | apply Kd.zS | apply Kd.zW)); exact HO_3.out)); (case aS => exact (zO (by repeat (first | (with_reducible first | exact HB.out | apply zC | apply zB | apply zD) | exact HB.out)))); (case aL => have := LMc3.out; omega); intro v102 w4 ho hb hg hat; rw [← Ny101.out] at ho; have n0_ := zA.mk (hb); have n1_ := zA.mk (ho); clear HB; clear HO_3; have HB := n0_; have HO103 := n1_; clear n0_ n1_; clear ho hb hg hat))
          go_roundg k1
          case measure => have := HK1.out; omega
          case rel => exact ⟨(y101), (wrap64 (x6_1 + 1)), (by first | rfl | (simp; done) | (simp [*]; done)), H', ⟨by have := HK1.out; omega⟩, ⟨by (with_reducible repeat (first | apply Kd.zR | apply Kd.zS | apply Kd.zW)); exact HO103.out⟩, ⟨by repeat (first | (with_reducible first | exact HB.out | apply zC | apply zB | apply zD) | exact HB.out)⟩⟩
        · rw [if_neg c3] at H
          exact absurd H (by simp)
      · rw [if_neg c2] at H
        have c2b0 : decide (x6_1 < a0) = false := yhy c2
        clear c2
        obtain rfl := yey H
        go_wp2
        go_ret
        exact ⟨_, by first | rfl | (simp [zX, zY] <;> rfl) | (simp [*, zX, zY] <;> rfl), by (with_reducible repeat (first | apply Kd.zR | apply Kd.zS | apply Kd.zW)); exact HO_3.out, by repeat (first | (with_reducible first | exact HB.out | apply zC | apply zB | apply zD) | exact HB.out)⟩
end Go.Proofs.Ytembbpalgfikiaa.P
namespace Go.Proofs.Ytembbpalgfikiaa.Lib
open Go.RowKit Go.Proofs.YtembbpalgfikiaaW.PrintWords
def zFY {α : Type} (f : α → Option Bool) : Nat → List α → Option Int
  | _, [] => some (-1)
  | i, x :: xs => (f x).bind fun b => if b = true then some (i : Int) else zFY f (i + 1) xs
theorem zCV {α : Type} (f : α → Option Bool) (i : Nat) (x : α) (xs : List α) : zFY f i (x :: xs) = (f x).bind fun b => if b = true then some (i : Int) else zFY f (i + 1) xs := rfl
end Go.Proofs.Ytembbpalgfikiaa.Lib
namespace Go.Proofs.Ytembbpalgfikiaa.Lib
set_option linter.unusedVariables false
open Go.RowKit Go.Proofs.YtembbpalgfikiaaW.PrintWords
theorem zCz {σ ρ : Type} (L : Nat → σ → Option ρ) (I : σ → Prop) (m : σ → Nat) (g : σ → ρ)
    (h : ∀ s, I s → (∃ K, ∀ k, K ≤ k → L (k + 1) s = some (g s)) ∨ (∃ s' K, I s' ∧ m s' < m s ∧ g s' = g s ∧ ∀ k, K ≤ k → L (k + 1) s = L k s')) :
    ∀ s, I s → Ev (fun k => L k s) (g s) := by
  have key : ∀ (n : Nat) (s : σ), m s < n → I s → Ev (fun k => L k s) (g s) := by
    intro n
    induction n with
    | zero => intro s hs; omega
    | succ n ih =>
      intro s hs hi
      rcases h s hi with ⟨K, hK⟩ | ⟨s', K, hi', hm, hg, hK⟩
      · refine ⟨K + 1, fun k hk => ?_⟩
        obtain ⟨j, rfl⟩ : ∃ j, k = j + 1 := ⟨k - 1, by omega⟩
        exact hK j (by omega)
      · obtain ⟨K', hK'⟩ := ih s' (by omega) hi'
        refine ⟨max K K' + 1, fun k hk => ?_⟩
        obtain ⟨j, rfl⟩ : ∃ j, k = j + 1 := ⟨k - 1, by omega⟩
        show L (j + 1) s = some (g s)
        rw [hK j (by omega), ← hg]
        exact hK' j (by omega)
  intro s hi
  exact key (m s + 1) s (by omega) hi
theorem zDU {σ ρ : Type} (L : Nat → σ → Option ρ) (I : σ → Prop) (m : σ → Nat) (g : σ → ρ)
    (h : ∀ s, I s → (∀ k, L (k + 1) s = some (g s)) ∨ (∃ s', I s' ∧ m s' < m s ∧ g s' = g s ∧ ∀ k, L (k + 1) s = L k s')) :
    ∀ s, I s → Ev (fun k => L k s) (g s) :=
  zCz L I m g fun s hi => by
    rcases h s hi with h1 | ⟨s', h1, h2, h3, h4⟩
    · exact .inl ⟨0, fun k _ => h1 k⟩
    · exact .inr ⟨s', 0, h1, h2, h3, fun k _ => h4 k⟩
theorem qo {x : Int} (h0 : -9223372036854775808 ≤ x) (h1 : x ≤ 9223372036854775807) : wrap64 x = x := by
  unfold wrap64; omega
theorem Ze {n : Nat} (h : n ≤ 4611686018427387904) : wrap64 ((n : Int) + 1) = ((n + 1 : Nat) : Int) := by
  rw [qo (by omega) (by omega)]; rfl
theorem Qx (xs : List Int) (n : Nat) : rd xs (n : Int) = xs.getD n 0 := by simp [rd]
theorem zFZ (xs : List Int) (n : Nat) (h : n < xs.length) : rd xs (n : Int) = xs[n] := by simp [rd, h]
theorem QD {α : Type} {c : Prop} [Decidable c] {f g : Nat → Option α} {r : α} (h : ¬ c) (k : Ev g r) : Ev (fun n => if c then f n else g n) r := Ev.congr (fun _ => if_neg h) k
theorem ZD {α : Type} {c : Prop} [Decidable c] {f g : Nat → Option α} {r : α} (h : c) (k : Ev f r) : Ev (fun n => if c then f n else g n) r := Ev.congr (fun _ => if_pos h) k
theorem zD0 {α : Type} {r r' : α} (h : r = r') : Ev (fun _ => some r) r' := h ▸ Ev.now r
theorem Qg {α : Type} {o : Option α} {r : α} (h : o = some r) : Ev (fun _ => o) r := ⟨0, fun _ _ => h⟩
theorem zCW {α : Type} {g : Nat → Option α} {r : α} (h : ∀ k, g k = some r) : Ev g r := ⟨0, fun k _ => h k⟩
theorem qU {α : Type} {g f : Nat → Option α} {r : α} (h : ∀ k, g (k + 1) = f k) (k : Ev f r) : Ev g r := Ev.step h k
theorem zDV {α : Type} {f : α → Option Bool} {p : α → Bool} : ∀ (i : Nat) (l : List α), (∀ x ∈ l, f x = some (p x)) → ∃ r, zFY f i l = some r ∧ decide (0 ≤ r) = l.any p
  | i, [], _ => ⟨-1, rfl, rfl⟩
  | i, x :: xs, h => by
    rw [zCV, h x (List.mem_cons_self ..), yfy]
    cases hp : p x with
    | true => exact ⟨i, by rw [if_pos rfl], by simp [hp]⟩
    | false =>
      obtain ⟨r, h1, h2⟩ := zDV (i + 1) xs (fun y hy => h y (List.mem_cons_of_mem _ hy))
      exact ⟨r, by rw [if_neg (by simp)]; exact h1, by rw [h2]; simp [hp]⟩
theorem contO {α : Type} {f : α → Option Bool} {p : α → Bool} (l : List α) (h : ∀ x ∈ l, f x = some (p x)) : (zFY f 0 l).bind (fun i => some (decide (0 ≤ i))) = some (l.any p) := by
  obtain ⟨r, h1, h2⟩ := zDV 0 l h
  rw [h1, yfy, h2]
def ZU (a : Int) : Nat → List Int
  | 0 => []
  | n + 1 => a :: ZU (a + 1) n
theorem Za (a : Int) (n : Nat) : (ZU a n).length = n := by
  induction n generalizing a with
  | zero => rfl
  | succ n ih => simp [ZU, ih]
theorem zBR (a : Int) (n i : Nat) (h : i < n) : (ZU a n).getD i 0 = a + i := by
  induction n generalizing a i with
  | zero => omega
  | succ n ih =>
    cases i with
    | zero => simp [ZU]
    | succ i => simp only [ZU, List.getD_cons_succ]; rw [ih (a + 1) i (by omega)]; omega
end Go.Proofs.Ytembbpalgfikiaa.Lib
namespace Go.Proofs.Ytembbpalgfikiaa.Lib
open Go.RowKit Go.Proofs.YtembbpalgfikiaaW.PrintWords
set_option linter.unusedVariables false
def uni (s : List Int) (i k : Int) : List Int := s.map fun x => if x = rd s k then rd s i else x
def joi (s : List Int) (i k : Int) : List Int := s.map fun x => if x = max (rd s i) (rd s k) then min (rd s i) (rd s k) else x
def Ker (a b : List Int) : Prop := a.length = b.length ∧ ∀ i j : Nat, i < a.length → j < a.length → (a.getD i 0 = a.getD j 0 ↔ b.getD i 0 = b.getD j 0)
theorem Ker.refl (a : List Int) : Ker a a := ⟨rfl, fun _ _ _ _ => Iff.rfl⟩
theorem JT {α β : Type} (f : α → β) (l : List α) (i : Nat) (d : β) (e : α) (h : i < l.length) : (l.map f).getD i d = f (l.getD i e) := by
  simp [List.getD_eq_getElem?_getD, h]
theorem Qb (s : List Int) (i k : Int) : (uni s i k).length = s.length := by simp [uni]
theorem QH (s : List Int) (i k : Int) : (joi s i k).length = s.length := by simp [joi]
theorem zEe (s : List Int) (i k : Int) (n : Nat) (h : n < s.length) : (uni s i k).getD n 0 = if s.getD n 0 = rd s k then rd s i else s.getD n 0 := JT _ s n 0 0 h
theorem zD1 (s : List Int) (i k : Int) (n : Nat) (h : n < s.length) : (joi s i k).getD n 0 = if s.getD n 0 = max (rd s i) (rd s k) then min (rd s i) (rd s k) else s.getD n 0 := JT _ s n 0 0 h
theorem zDW (s : List Int) (i k : Int) (m n : Nat) (hm : m < s.length) (hn : n < s.length) :
    (uni s i k).getD m 0 = (uni s i k).getD n 0 ↔ (s.getD m 0 = s.getD n 0 ∨ ((s.getD m 0 = rd s i ∨ s.getD m 0 = rd s k) ∧ (s.getD n 0 = rd s i ∨ s.getD n 0 = rd s k))) := by
  rw [zEe s i k m hm, zEe s i k n hn]
  generalize s.getD m 0 = x
  generalize s.getD n 0 = y
  generalize rd s i = p
  generalize rd s k = q
  split <;> split <;> omega
theorem zFa (s : List Int) (i k : Int) (m n : Nat) (hm : m < s.length) (hn : n < s.length) :
    (joi s i k).getD m 0 = (joi s i k).getD n 0 ↔ (s.getD m 0 = s.getD n 0 ∨ ((s.getD m 0 = rd s i ∨ s.getD m 0 = rd s k) ∧ (s.getD n 0 = rd s i ∨ s.getD n 0 = rd s k))) := by
  rw [zD1 s i k m hm, zD1 s i k n hn]
  generalize s.getD m 0 = x
  generalize s.getD n 0 = y
  generalize rd s i = p
  generalize rd s k = q
  split <;> split <;> omega
theorem zEf (s : List Int) (i : Int) : rd s i = s.getD i.toNat 0 := rfl
theorem Ker.zGN {a b : List Int} (h : Ker a b) {i k : Int} (hi0 : 0 ≤ i) (hi1 : i < a.length) (hk0 : 0 ≤ k) (hk1 : k < a.length) : Ker (uni a i k) (joi b i k) := by
  refine ⟨by rw [Qb, QH]; exact h.1, fun m n hm hn => ?_⟩
  rw [Qb] at hm hn
  have hm2 : m < b.length := by rw [← h.1]; exact hm
  have hn2 : n < b.length := by rw [← h.1]; exact hn
  rw [zDW a i k m n hm hn, zFa b i k m n hm2 hn2]
  have hi2 : i.toNat < a.length := by omega
  have hk2 : k.toNat < a.length := by omega
  simp only [zEf]
  rw [h.2 m n hm hn, h.2 m _ hm hi2, h.2 m _ hm hk2, h.2 n _ hn hi2, h.2 n _ hn hk2]
def Jx : List Int → List Int → List Int
  | _, [] => []
  | seen, x :: xs => if x ∈ seen then (seen.idxOf x : Int) :: Jx seen xs else (seen.length : Int) :: Jx (seen ++ [x]) xs
def zBt (l : List Int) : List Int := Jx [] l
theorem zAf : ∀ (l seen : List Int), (Jx seen l).length = l.length
  | [], _ => rfl
  | x :: xs, seen => by
    rw [Jx]; split <;> simp [zAf xs]
theorem zD2 (l : List Int) : (zBt l).length = l.length := zAf l []
def Cons2 (P : List (Int × Int)) : Prop := ∀ p ∈ P, ∀ q ∈ P, p.1 = q.1 ↔ p.2 = q.2
theorem zGO (S : List (Int × Int)) (p : Int × Int) (h : ∀ q ∈ S, q.1 = p.1 ↔ q.2 = p.2) : p.1 ∈ S.map (·.1) ↔ p.2 ∈ S.map (·.2) := by
  simp only [List.mem_map]
  exact ⟨fun ⟨q, hq, e⟩ => ⟨q, hq, (h q hq).1 e⟩, fun ⟨q, hq, e⟩ => ⟨q, hq, (h q hq).2 e⟩⟩
theorem zEg : ∀ (S : List (Int × Int)) (p : Int × Int), (∀ q ∈ S, q.1 = p.1 ↔ q.2 = p.2) → (S.map (·.1)).idxOf p.1 = (S.map (·.2)).idxOf p.2
  | [], _, _ => rfl
  | q :: S, p, h => by
    have h0 := h q (List.mem_cons_self ..)
    have ih := zEg S p (fun r hr => h r (List.mem_cons_of_mem _ hr))
    simp only [yjy, List.idxOf_cons]
    by_cases e : q.1 = p.1
    · have e2 := h0.1 e
      simp [e, e2]
    · have e2 : ¬ q.2 = p.2 := fun e2 => e (h0.2 e2)
      have b1 : (q.1 == p.1) = false := by simpa using e
      have b2 : (q.2 == p.2) = false := by simpa using e2
      rw [b1, b2, ih]
theorem zA7 : ∀ (L S : List (Int × Int)), Cons2 (S ++ L) → Jx (S.map (·.1)) (L.map (·.1)) = Jx (S.map (·.2)) (L.map (·.2))
  | [], _, _ => rfl
  | p :: L, S, h => by
    have hS : ∀ q ∈ S, q.1 = p.1 ↔ q.2 = p.2 := fun q hq => h q (List.mem_append_left _ hq) p (List.mem_append_right _ (List.mem_cons_self ..))
    have hm := zGO S p hS
    simp only [yjy, Jx]
    by_cases e : p.1 ∈ S.map (·.1)
    · rw [if_pos e, if_pos (hm.1 e), zEg S p hS, zA7 L S (fun a ha b hb => h a (by simp only [List.mem_append, List.mem_cons] at ha ⊢; rcases ha with ha | ha <;> simp [ha]) b (by simp only [List.mem_append, List.mem_cons] at hb ⊢; rcases hb with hb | hb <;> simp [hb]))]
    · rw [if_neg e, if_neg (fun e2 => e (hm.2 e2))]
      have ih := zA7 L (S ++ [p]) (by rw [List.append_assoc]; exact h)
      simp only [List.map_append, yjy, yky] at ih
      rw [ih, List.length_map, List.length_map]
theorem Ker.zBt {a b : List Int} (h : Ker a b) : zBt a = zBt b := by
  have hz1 : (a.zip b).map (·.1) = a := by
    rw [List.map_fst_zip]; exact Nat.le_of_eq h.1
  have hz2 : (a.zip b).map (·.2) = b := by
    rw [List.map_snd_zip]; exact Nat.le_of_eq h.1.symm
  have hc : Cons2 (a.zip b) := by
    intro p hp q hq
    obtain ⟨i, hi, rfl⟩ := List.getElem_of_mem hp
    obtain ⟨j, hj, rfl⟩ := List.getElem_of_mem hq
    rw [List.length_zip] at hi hj
    have hi1 : i < a.length := by omega
    have hj1 : j < a.length := by omega
    have hi2 : i < b.length := by omega
    have hj2 : j < b.length := by omega
    have := h.2 i j hi1 hj1
    simpa [List.getElem_zip, List.getD_eq_getElem?_getD, hi1, hj1, hi2, hj2] using this
  have := zA7 (a.zip b) [] (by rw [List.nil_append]; exact hc)
  rw [hz1, hz2] at this
  exact this
theorem zG0 (a x : Int) (n : Nat) : x ∈ ZU a n ↔ a ≤ x ∧ x < a + n := by
  induction n generalizing a with
  | zero => simp [ZU]; try omega
  | succ n ih => rw [ZU, List.mem_cons, ih]; omega
end Go.Proofs.Ytembbpalgfikiaa.Lib
namespace Go.Proofs.Ytembbpalgfikiaa.P
open Go.RowKit Go.Proofs.YtembbpalgfikiaaW.PrintWords Go.Proofs.YtembbpalgfikiaaW.PrintLast Go.Proofs.YtembbpalgfikiaaW.PrintMore
attribute [local go_sem] Qj Qk JQ JR QX QY Ql Qm
set_option linter.unusedVariables false
set_option linter.unusedSimpArgs false
structure zBu (seen : List Int) (D : DataW Unit) : Prop where
  tidy : Maps.Tidy D
  size : Maps.size D = seen.length
  has : ∀ x, Maps.has D (.int .i64 x) = seen.contains x
  at_ : ∀ x, x ∈ seen → D.atKey (.int .i64 x) (.lit (.int .i64 0)) = .lit (.int .i64 (seen.idxOf x : Int))
theorem zBu.empty : zBu [] (.map []) := ⟨Maps.tidy_empty, rfl, fun _ => rfl, fun _ h => by cases h⟩
theorem zBu.put {seen : List Int} {D : DataW Unit} (h : zBu seen D) {x : Int} (hx : x ∉ seen) : zBu (seen ++ [x]) (D.put (.int .i64 x) (.lit (.int .i64 (seen.length : Int)))) := by
  refine ⟨h.tidy.put (show WideAt.IsKeyLit (.int .i64 x) from trivial) _, ?_, fun y => ?_, fun y hy => ?_⟩
  · rw [Maps.size_put h.tidy, h.has, h.size]
    have : seen.contains x = false := by simpa using hx
    rw [this]; simp
  · by_cases e : y = x
    · subst e
      rw [Maps.has_put_same h.tidy.isMap (show WideAt.IsKeyLit (.int .i64 y) from trivial)]; simp
    · rw [Maps.has_put_other (by simpa using e), h.has]
      simp [e]
  · by_cases e : y = x
    · subst e
      rw [Maps.atKey_put_same h.tidy.isMap (show WideAt.IsKeyLit (.int .i64 y) from trivial), List.idxOf_append]; simp [hx]
    · rw [Maps.atKey_put_other (by simpa using e)]
      have hm : y ∈ seen := by simpa [e] using hy
      rw [h.at_ y hm, List.idxOf_append, if_pos hm]
theorem zBu.get {seen : List Int} {D : DataW Unit} (h : zBu seen D) {x c : Int} (hx : x ∈ seen) (hat : D.atKey (.int .i64 x) (.lit (.int .i64 0)) = .lit (.int .i64 c)) : c = (seen.idxOf x : Int) := by
  have := (h.at_ x hx).symm.trans hat
  simpa using this.symm
theorem zDX {a : Int} (h0 : 0 ≤ a) (h1 : a ≤ 1000000) : (Lit.int .i64 a).wf = true := by
  unfold Lit.wf
  rw [Bool.and_eq_true]
  exact ⟨ygy (by show (-9223372036854775808 : Int) ≤ a; omega), ygy (by show a ≤ (9223372036854775807 : Int); omega)⟩
def zD3 (l : List Int) : Bool := decide (l.length ≤ 1000000) && l.all fun x => decide (0 ≤ x ∧ x ≤ 1000000)
def QZ.f (l0 : List Int) : Option (List Int) := if zD3 l0 = true then some (Lib.zBt l0) else none
set_option maxHeartbeats 8000000 in
set_option maxRecDepth 100000 in
theorem QZ.calls (A0 : Option Addr) (c0 : Nat) (l0 : List Int) (r : List Int) (w : World) (hr0 : Kd.C (Kd.int .i64) w A0 l0.length l0) (hc0 : l0.length ≤ c0) (h : QZ.f l0 = some r) :
    Calls Try.prog 109 #[.slice A0 l0.length c0] w fun e w' => ∃ v0_ : Value, e = .returned (v0_) ∧ Kd.R (Kd.int .i64) 2 w' w.heap.size (fun _ => True) v0_ r ∧ Below w.heap.size w w' := by
  unfold QZ.f at h
  by_cases hok : zD3 l0 = true
  case neg => rw [if_neg hok] at h; cases h
  rw [if_pos hok] at h
  have hr := yey h
  subst hr
  clear h
  simp only [zD3, Bool.and_eq_true, decide_eq_true_eq, List.all_eq_true] at hok
  obtain ⟨hlen, hall⟩ := hok
  have HALL := zA.mk hall
  have HR := zA.mk hr0
  have HC := zA.mk hc0
  clear hr0 hc0 hall
  have hmm := @run_makeMap Try.prog
  have HK := zA.mk (Maps.int_keyed Try.underlying2 : Maps.Keyed Try.prog 2)
  have HZ := zA.mk (show ∀ w : World, (zeroValue 2).run Try.prog w = .ok (.int .i64 0) w from fun w => by kernel_rfl)
  have HA : zA ([] ++ Lib.Jx [] (l0.drop 0) = Lib.zBt l0) := ⟨rfl⟩
  generalize Lib.zBt l0 = R at HA ⊢
  go_enter Try.func109, Try.ntmps109
  go_wp2
  go_loopg [4, 12] l0.length (fun gg v4 v12 w' => ∃ (i : Nat) (seen acc : List Int) (D : DataW Unit), i ≤ l0.length ∧ l0.length - i ≤ gg ∧ v12 = .int .i64 i ∧ zA (acc ++ Lib.Jx seen (l0.drop i) = R) ∧ zA (zBu seen D ∧ seen.length ≤ i ∧ acc.length = i) ∧ zA (w'.ownsMap Try.prog 2 (plainElem Try.prog 2) w.heap.size i D) ∧ zA (Kd.R (Kd.int .i64) 2 w' w.heap.size (fun k => k ≠ w.heap.size) v4 acc) ∧ zA (Below w.heap.size w w' ∧ w.heap.size + 1 ≤ w'.heap.size))
  case atStart => exact ⟨0, [], [], .map [], Nat.zero_le _, by omega, rfl, HA, ⟨zBu.empty, yqy _, rfl⟩, ⟨World.ownsMap_made _ _ _ _⟩, ⟨Kd.zCL _ _ _ _ _⟩, ⟨zC (yry _ _) _, by simp⟩⟩
  case round =>
    clear HA
    obtain ⟨i, seen, acc, D, hi, hg, rfl, HA, HM, HO, HV, HB⟩ := hrel
    by_cases hlt : i < l0.length
    · have hltz : (i : Int) < (l0.length : Int) := by omega
      obtain ⟨ad, e1, hx⟩ := Kd.ZK HR.out (i : Int) (by omega) (by omega)
      have ex : rd l0 (i : Int) = l0[i] := by simp [rd, hlt]
      rw [ex, yny] at hx
      replace hx := (HB.out.1.cell (ypy w _ hx)).trans hx
      have hy := HALL.out l0[i] (List.getElem_mem hlt)
      have HA2 := HA.out
      rw [yoy hlt, Lib.Jx] at HA2
      have HA3 := zA.mk HA2
      clear HA HA2 ex
      generalize l0[i] = y at hx hy HA3
      cases e1
      have HKEY := zA.mk (Maps.keyOf_int_mk Try.underlying2 (zDX hy.1 hy.2))
      clear hy
      by_cases hm : y ∈ seen
      · have hhas : Maps.has D (.int .i64 y) = true := by rw [HM.out.1.has]; simpa using hm
        have HMS := zA.mk hm
        have HA4 : zA (acc ++ (seen.idxOf y : Int) :: Lib.Jx seen (l0.drop (i + 1)) = R) := ⟨by have h := HA3.out; rwa [if_pos hm] at h⟩
        clear hm HA3
        go_wp2_with (first
          | (at_lookup; refine wpList_lookup_own_ok_int _ rfl _ _ 126 rfl 2 2 .i64 HK.out Try.underlying126 Try.underlying2 (HZ.out _) w.heap.size i D rfl HO.out _ _ rfl HKEY.out ?_; intro c1 hat1 hwc1; clear hat1 hwc1)
          | (at_lookup; refine wpList_lookup_own_int _ rfl _ _ 126 rfl 2 2 .i64 HK.out Try.underlying126 Try.underlying2 (HZ.out _) w.heap.size i D rfl HO.out _ _ rfl HKEY.out ?_; intro c hat hwc; have HCC := zA.mk (HM.out.1.get HMS.out hat); clear hat hwc)
          | ((with_reducible refine ZS (b := .append) (xs := #[.tmp 28, .tmp 32]) rfl ?_); at_builtin; refine Kd.Qf (Kd.int .i64) (w0 := w) w.heap.size rfl (.tmp 28) (.tmp 32) 22 2 (.int .i64 0) 8 rfl Try.underlying22 JS rfl (by decide) (by omega) u4 acc c [.int .i64 c] (fun k => k ≠ w.heap.size) (fun _ => False) rfl rfl ?aP (fun _ hk => hk.elim) ?aF ?aO ?aB ?aS ?aL ?_; (case aP => exact rfl); (case aB => exact HB.out.1); (case aF => exact (fun k hk e => by have := HB.out.2; omega)); (case aO => exact HV.out); (case aS => exact HB.out.1.size); (case aL => have := HM.out.2.2; omega); intro v102 w4 ho hb hg2 hat; have HO2 := zA.mk ((HO.out.kept hg2 (fun e => HV.out.1 _ e.symm rfl)).mono (Nat.le_succ i)); have HV2 := zA.mk ho; have HB2 := zA.mk (And.intro hb (Nat.le_trans HB.out.2 hg2.size)); clear HO HV HB ho hb hg2 hat))
        go_roundg (l0.length - (i + 1))
        case measure => omega
        case rel => exact ⟨i + 1, seen, acc ++ [c], D, by omega, by omega, by go_num, ⟨by have h := HA4.out; rw [← HCC.out] at h; rw [List.append_assoc]; exact h⟩, ⟨HM.out.1, by have := HM.out.2.1; omega, by have := HM.out.2.2; simp; omega⟩, HO2, HV2, HB2⟩
      · have hhas : Maps.has D (.int .i64 y) = false := by rw [HM.out.1.has]; simpa using hm
        have HM2 := zA.mk (HM.out.1.put hm)
        have HA4 : zA (acc ++ (seen.length : Int) :: Lib.Jx (seen ++ [y]) (l0.drop (i + 1)) = R) := ⟨by have h := HA3.out; rwa [if_neg hm] at h⟩
        have HIX : zA ((seen ++ [y]).idxOf y = seen.length) := ⟨by rw [List.idxOf_append, if_neg hm]; simp⟩
        have hsz : Maps.size D = seen.length := HM.out.1.size
        clear hm HA3
        have HSL := zA.mk HM.out.2.1
        have HWF := zA.mk (show (Lit.int .i64 ((seen.length : Nat) : Int)).wf = true from zDX (by omega) (by have := HM.out.2.1; omega))
        go_wp2_with (first
          | (at_lookup; refine wpList_lookup_own_ok_int _ rfl _ _ 126 rfl 2 2 .i64 HK.out Try.underlying126 Try.underlying2 (HZ.out _) w.heap.size i D rfl HO.out _ _ rfl HKEY.out ?_; intro c1 hat1 hwc1; clear hat1 hwc1)
          | (at_len; refine wpList_len_own _ rfl _ 126 rfl 2 2 Try.underlying126 _ w.heap.size i D rfl HO.out ?_; rw [hsz])
          | (at_mapUpdate; refine wpList_mapUpdate_own _ rfl _ _ _ 126 rfl 2 2 HK.out Try.underlying126 _ w.heap.size i D rfl HO.out (by unfold maxLen; omega) _ _ _ rfl rfl HKEY.out (.lit (.int .i64 (seen.length : Int))) [] (plainElem_int Try.underlying2 HWF.out) ?_; intro w1 hown1 hgrow1; have HO1 := zA.mk hown1; have HV1 := zA.mk (Kd.zBk HV.out hgrow1 (fun k hk e => hk (yey e))); have HB1 := zA.mk (And.intro (HB.out.1.grown hgrow1 HB.out.1.size (fun j hj => by cases hj; exact yqy _)) (Nat.le_trans HB.out.2 hgrow1.size)); clear HO HV HB hown1 hgrow1)
          | (at_lookup; refine wpList_lookup_own_int _ rfl _ _ 126 rfl 2 2 .i64 HK.out Try.underlying126 Try.underlying2 (HZ.out _) w.heap.size (i + 1) _ rfl HO1.out _ _ rfl HKEY.out ?_; intro c hat hwc; have HCC := zA.mk (HM2.out.get (by simp) hat); clear hat hwc)
          | ((with_reducible refine ZS (b := .append) (xs := #[.tmp 28, .tmp 32]) rfl ?_); at_builtin; refine Kd.Qf (Kd.int .i64) (w0 := w) w.heap.size rfl (.tmp 28) (.tmp 32) 22 2 (.int .i64 0) 8 rfl Try.underlying22 JS rfl (by decide) (by omega) u4 acc c [.int .i64 c] (fun k => k ≠ w.heap.size) (fun _ => False) rfl rfl ?aP (fun _ hk => hk.elim) ?aF ?aO ?aB ?aS ?aL ?_; (case aP => exact rfl); (case aB => exact HB1.out.1); (case aF => exact (fun k hk e => by have := HB1.out.2; omega)); (case aO => exact HV1.out); (case aS => exact HB1.out.1.size); (case aL => have := HM.out.2.2; omega); intro v102 w4 ho hb hg2 hat; have HO2 := zA.mk (HO1.out.kept hg2 (fun e => HV1.out.1 _ e.symm rfl)); have HV2 := zA.mk ho; have HB2 := zA.mk (And.intro hb (Nat.le_trans HB1.out.2 hg2.size)); clear HO1 HV1 HB1 ho hb hg2 hat))
        go_roundg (l0.length - (i + 1))
        case measure => omega
        case rel => exact ⟨i + 1, seen ++ [y], acc ++ [c], _, by omega, by omega, by go_num, ⟨by have h := HA4.out; rw [← HIX.out, ← HCC.out] at h; rw [List.append_assoc]; exact h⟩, ⟨HM2.out, by have := HSL.out; simp; omega, by have := HM.out.2.2; simp; omega⟩, HO2, HV2, HB2⟩
    · obtain rfl : i = l0.length := by omega
      have HA2 := HA.out
      rw [List.drop_length, Lib.Jx, List.append_nil] at HA2
      subst HA2
      go_wp2
      go_ret
      exact ⟨_, rfl, Kd.zv HV.out (fun _ _ => trivial), HB.out.1⟩
def zD4 : Go.Shelf.Ren := ⟨fun | 45 => 127 | n => n, fun | 22 => 22 | 23 => 2 | 3 => 3 | 4 => 4 | 0 => 0 | n => n, fun | n => n⟩
theorem zGP : Go.Proofs.SlLaysN.n45 Try.prog zD4 := {
  mixed := by kernel_rfl
  f45 := ⟨Try.f127.name, by decide, Try.func127.trans (congrArg some (by kernel_rfl))⟩
  t0 := Try.underlying0
  a0 := Try.isAgg0
  z0 := Try.sizeOf0
  v0 := Try.zeroValue0
  t3 := Try.underlying3
  a3 := Try.isAgg3
  z3 := Try.sizeOf3
  v3 := Try.zeroValue3
  t4 := Try.underlying4
  a4 := Try.isAgg4
  z4 := Try.sizeOf4
  v4 := Try.zeroValue4
  t22 := Try.underlying22
  a22 := Try.isAgg22
  z22 := Try.sizeOf22
  v22 := Try.zeroValue22
  t23 := Try.underlying2
  a23 := Try.isAgg2
  z23 := Try.sizeOf2
  v23 := Try.zeroValue2
  i23 := by kernel_rfl }
theorem erase_eq (xs : List Int) (i : Nat) : xs.take i ++ xs.drop (i + 1) = xs.eraseIdx i := (List.eraseIdx_eq_take_drop_succ xs i).symm
theorem Zq.zDY (g cap i : Nat) (xs : List Int) (base : Nat) (ok : Nat → Prop) (w : World) (ho : Kd.R (Kd.int .i64) 2 w base ok (.slice (some ⟨g, 0, none⟩) xs.length cap) xs) (hi : i < xs.length) :
    Calls Try.prog 127 #[.slice (some ⟨g, 0, none⟩) xs.length cap, .int .i64 i, .int .i64 (i + 1)] w fun e w' => e = .returned (.slice (some ⟨g, 0, none⟩) (xs.length - 1) cap) ∧
      Kd.R (Kd.int .i64) 2 w' base ok (.slice (some ⟨g, 0, none⟩) (xs.length - 1) cap) (xs.eraseIdx i) ∧ w.grownBy w' (some g) := by
  have hown := Kd.zBl ho
  rcases hown.2 with ⟨hv, _⟩ | ⟨g', cap', cur, hv, hbase, hh, hle, hmax, hcs, htake⟩
  · cases hv
  injection hv with hv1 _ hv3
  injection hv1 with hv1
  injection hv1 with hv1 _ _
  subst hv1 hv3
  rw [Nat.mul_one] at hcs htake
  have hcell : ∀ j, j < xs.length → w.cell? ⟨g, 0 + j, none⟩ = some (.int .i64 xs[j]!) := by
    intro j hj
    rw [Nat.zero_add]
    have h1 : cur.toList[j]? = some (.int .i64 xs[j]!) := by
      have h2 : (cur.toList.take xs.length)[j]? = some (.int .i64 xs[j]!) := by
        rw [htake, zAP, List.getElem?_map, List.getElem?_eq_getElem hj]
        simp [getElem!_pos, hj]
      rw [List.getElem?_take, if_pos hj] at h2
      exact h2
    rw [zK hh j, ← Array.getElem?_toList, h1]
  have hH : Go.Sort.Holds (Value.int .i64) w g 0 xs.toArray := by
    intro j hj
    have hj' : j < xs.length := by simpa using hj
    refine ⟨?_, by rw [Nat.zero_add]; exact zN hh j⟩
    rw [hcell j hj']
    simp [getElem!_pos, hj']
  have hc := AnyG.slices_Delete_int zGP g 0 cap i (i + 1) xs w hH hle (by unfold maxLen at hmax; omega) (by omega) (by omega)
  have hc2 : Calls Try.prog 127 #[.slice (some ⟨g, 0, none⟩) xs.length cap, .int .i64 (i : Nat), .int .i64 ((i + 1 : Nat) : Int)] w fun e w' => e = .returned (.slice (some ⟨g, 0, none⟩) (xs.length - (i + 1 - i)) cap) ∧ ∃ q, w' = Go.Sort.putRow (Value.int .i64) (Go.Sort.ahead w q) g 0 (xs.take i ++ xs.drop (i + 1) ++ List.replicate (i + 1 - i) 0).toArray := hc
  refine hc2.mono ?_
  rintro e w' ⟨rfl, q, rfl⟩
  have hlen : (xs.eraseIdx i).length = xs.length - 1 := by rw [List.length_eraseIdx]; simp [hi]
  have hd : xs.take i ++ xs.drop (i + 1) ++ List.replicate (i + 1 - i) 0 = xs.eraseIdx i ++ [0] := by
    rw [erase_eq, show i + 1 - i = 1 by omega]; rfl
  rw [hd, show i + 1 - i = 1 by omega]
  have hheap : (Go.Sort.putRow (Value.int .i64) (Go.Sort.ahead w q) g 0 (xs.eraseIdx i ++ [0]).toArray).heap[g]? = some (.cells (Go.Sort.putCells (Value.int .i64) 0 (xs.eraseIdx i ++ [0]).toArray cur) 2 (0, 0)) := by
    show (w.heap.modify g _)[g]? = _
    rw [Array.getElem?_modify, if_pos rfl, hh]
    rfl
  have hfar : ∀ k, k ≠ g → (Go.Sort.putRow (Value.int .i64) (Go.Sort.ahead w q) g 0 (xs.eraseIdx i ++ [0]).toArray).heap[k]? = w.heap[k]? := by
    intro k hk
    show (w.heap.modify g _)[k]? = _
    rw [Array.getElem?_modify, if_neg (Ne.symm hk)]
  refine ⟨rfl, ?_, ⟨rfl, rfl, rfl, ?_, fun k _ hk => hfar k (fun e => hk (by rw [e]))⟩⟩
  · have e1 : xs.length - 1 = (xs.eraseIdx i).length := hlen.symm
    rw [e1]
    refine Kd.Jt ⟨by simp [zAP], .inr ⟨g, cap, _, rfl, hbase, hheap, by omega, hmax, by simp [Go.Sort.putCells, hcs], ?_⟩⟩ (fun k hk => ho.1 k hk)
    rw [Nat.mul_one]
    apply List.ext_getElem?
    intro j
    rw [List.getElem?_take]
    by_cases hj : j < (xs.eraseIdx i).length
    · rw [if_pos hj, Array.getElem?_toList, Go.Sort.putCells, Array.getElem?_mapIdx, Array.getElem?_eq_getElem (by omega), Option.map_some, if_pos ⟨by omega, by simp; omega⟩, Nat.sub_zero, zAP, List.getElem?_map, List.getElem?_eq_getElem hj, Option.map_some]
      congr 2
      rw [List.getElem!_toArray, getElem!_pos _ j (by simp; omega), List.getElem_append_left hj]
    · rw [if_neg hj, List.getElem?_eq_none (by simp [zAP]; omega)]
  · show w.heap.size ≤ (w.heap.modify g _).size
    rw [Array.size_modify]
    omega
def zEh : Nat → Int
 | 0 => 6
 | 1 => 2
 | _ => 1
def ZF (p : Int) : Nat → Int
 | 0 => p
 | i + 1 => ZF p i % zEh i
def Zr (p : Int) (i : Nat) : Int := ZF p i / zEh i
def zr (p : Int) : Nat → List Int
 | 0 => [0, 1, 2, 3]
 | i + 1 => (zr p i).eraseIdx (Zr p i).toNat
def zp (p : Int) (i : Nat) : Int := (zr p i).getD (Zr p i).toNat 0
def qi (p : Int) : List Int := [zp p 0, zp p 1, zp p 2, zp p 3]
theorem zDZ (p : Int) (h0 : 0 ≤ p) (h1 : p ≤ 23) : (0 ≤ ZF p 0 ∧ ZF p 0 ≤ 23) ∧ (0 ≤ ZF p 1 ∧ ZF p 1 ≤ 5) ∧ (0 ≤ ZF p 2 ∧ ZF p 2 ≤ 1) ∧ (0 ≤ ZF p 3 ∧ ZF p 3 ≤ 0) := by
 simp only [ZF, zEh]; omega
theorem zDa (p : Int) (h0 : 0 ≤ p) (h1 : p ≤ 23) : (0 ≤ Zr p 0 ∧ Zr p 0 < 4) ∧ (0 ≤ Zr p 1 ∧ Zr p 1 < 3) ∧ (0 ≤ Zr p 2 ∧ Zr p 2 < 2) ∧ (0 ≤ Zr p 3 ∧ Zr p 3 < 1) := by
 have := zDZ p h0 h1
 simp only [Zr, zEh]; omega
theorem zCX (p : Int) (h0 : 0 ≤ p) (h1 : p ≤ 23) : (zr p 0).length = 4 ∧ (zr p 1).length = 3 ∧ (zr p 2).length = 2 ∧ (zr p 3).length = 1 ∧ (zr p 4).length = 0 := by
 obtain ⟨a, b, c, d⟩ := zDa p h0 h1
 have e0 : (zr p 0).length = 4 := rfl
 have e1 : (zr p 1).length = 3 := by rw [zr, List.length_eraseIdx, e0, if_pos (by omega)]
 have e2 : (zr p 2).length = 2 := by rw [zr, List.length_eraseIdx, e1, if_pos (by omega)]
 have e3 : (zr p 3).length = 1 := by rw [zr, List.length_eraseIdx, e2, if_pos (by omega)]
 have e4 : (zr p 4).length = 0 := by rw [zr, List.length_eraseIdx, e3, if_pos (by omega)]
 exact ⟨e0, e1, e2, e3, e4⟩
theorem zDb {W : World} {n : Nat} (h : W.heap.size = n) (o : Obj) : (W.alloc o).heap[n]? = some o := h ▸ zCs W o
def Zv (p : Int) (i j : Nat) : Int := if j < i then zp p j else 0
set_option maxHeartbeats 8000000 in
set_option maxRecDepth 100000 in
theorem Jl.calls (p : Int) (w : World) (h0 : 0 ≤ p) (h1 : p ≤ 23) :
 Calls Try.prog 105 #[.int .i64 p] w fun e w' => e = .returned (.agg #[.int .i64 (zp p 0), .int .i64 (zp p 1), .int .i64 (zp p 2), .int .i64 (zp p 3)]) ∧ Below w.heap.size w w' := by
 have HP := zA.mk (zDZ p h0 h1)
 have HK := zA.mk (zDa p h0 h1)
 have HL := zA.mk (zCX p h0 h1)
 clear h0 h1
 go_enter Try.func105, Try.ntmps105
 go_wp2_with fail
 go_loopg [0, 4, 11] 4 (fun gg v0 v4 v11 w' => ∃ i : Nat, i ≤ 4 ∧ 4 - i ≤ gg ∧ v11 = .int .i64 i ∧ v0 = .int .i64 (ZF p i) ∧ v4 = .slice (some ⟨w.heap.size + 1 + 1, 0, none⟩) (zr p i).length 4 ∧
  zA (Kd.R (Kd.int .i64) 2 w' w.heap.size (fun k => k = w.heap.size + 1 + 1) (.slice (some ⟨w.heap.size + 1 + 1, 0, none⟩) (zr p i).length 4) (zr p i)) ∧
  zA (w'.heap[w.heap.size + 1]? = some (.cells #[.int .i64 (Zv p i 0), .int .i64 (Zv p i 1), .int .i64 (Zv p i 2), .int .i64 (Zv p i 3)] 101 (0, 0))) ∧
  zA (w'.heap[w.heap.size]? = some (.cells #[.int .i64 0, .int .i64 0, .int .i64 0, .int .i64 0] 101 (0, 0))) ∧
  zA (w'.heap[w.heap.size + 1 + 1 + 1]? = some (.cells #[.int .i64 6, .int .i64 2, .int .i64 1, .int .i64 1] 2 (0, 0))) ∧ zA (Below w.heap.size w w'))
 case atStart =>
  refine ⟨0, by omega, by omega, rfl, rfl, rfl, ⟨?_⟩, ⟨?_⟩, ⟨?_⟩, ⟨?_⟩, ⟨?_⟩⟩
  next =>
   refine Kd.Jt ⟨by simp [zAP], .inr ⟨w.heap.size + 1 + 1, 4, #[.int .i64 0, .int .i64 1, .int .i64 2, .int .i64 3], rfl, by omega, ?_, yqy 4, by decide, rfl, rfl⟩⟩ (fun k hk => by simpa [Value.ownBlock] using hk.symm)
   exact zG (zDb (by simp) _) _
  next =>
   exact zG (zG (zDb (by simp) _) _) _
  next =>
   exact zG (zG (zG (zDb rfl _) _) _) _
  next =>
   exact zDb (by simp) _
  next =>
   exact zC (zC (zC (zC (yry _ _) _) _) _) _
 case round =>
  obtain ⟨i, hi, hg, rfl, rfl, rfl, HR, B3, B2, B9, HB⟩ := hrel
  rcases (show i = 4 ∨ i = 3 ∨ i = 2 ∨ i = 1 ∨ i = 0 by omega) with rfl | rfl | rfl | rfl | rfl
  next =>
   have c0 : wr.cell? ⟨w.heap.size + 1, 0, none⟩ = some (.int .i64 (Zv p 4 0)) := (zK B3.out 0).trans rfl
   have c1 : wr.cell? ⟨w.heap.size + 1, 1, none⟩ = some (.int .i64 (Zv p 4 1)) := (zK B3.out 1).trans rfl
   have c2 : wr.cell? ⟨w.heap.size + 1, 2, none⟩ = some (.int .i64 (Zv p 4 2)) := (zK B3.out 2).trans rfl
   have c3 : wr.cell? ⟨w.heap.size + 1, 3, none⟩ = some (.int .i64 (Zv p 4 3)) := (zK B3.out 3).trans rfl
   have d0 : wr.cell? ⟨w.heap.size, 0, none⟩ = some (.int .i64 0) := (zK B2.out 0).trans rfl
   have d1 : wr.cell? ⟨w.heap.size, 1, none⟩ = some (.int .i64 0) := (zK B2.out 1).trans rfl
   have d2 : wr.cell? ⟨w.heap.size, 2, none⟩ = some (.int .i64 0) := (zK B2.out 2).trans rfl
   have d3 : wr.cell? ⟨w.heap.size, 3, none⟩ = some (.int .i64 0) := (zK B2.out 3).trans rfl
   have f0 := zN B2.out 0
   have f1 := zN B2.out 1
   have f2 := zN B2.out 2
   have f3 := zN B2.out 3
   have ht := Try.underlying101
   go_wp2
   refine bodyPost_ret (results_cell_row rfl _ _ w.heap.size 101 #[.int .i64 (Zv p 4 0), .int .i64 (Zv p 4 1), .int .i64 (Zv p 4 2), .int .i64 (Zv p 4 3)] (0, 0) _ rfl (qT (cs := #[.int .i64 (Zv p 4 0), .int .i64 (Zv p 4 1), .int .i64 (Zv p 4 2), .int .i64 0]) (qT (cs := #[.int .i64 (Zv p 4 0), .int .i64 (Zv p 4 1), .int .i64 0, .int .i64 0]) (qT (cs := #[.int .i64 (Zv p 4 0), .int .i64 0, .int .i64 0, .int .i64 0]) (qT B2.out 0 _ rfl) 1 _ rfl) 2 _ rfl) 3 _ rfl) ht rfl (by kernel_rfl)) rfl ⟨rfl, ?_⟩
   exact zF (zF (zF (zF HB.out (yqy _)) (yqy _)) (yqy _)) (yqy _)
  next =>
   have hK : 0 ≤ Zr p 3 ∧ Zr p 3 < (zr p 3).length := by have := HK.out; have := HL.out; omega
   have hP : 0 ≤ ZF p 3 ∧ ZF p 3 ≤ 23 := by have := HP.out; omega
   have HLN := zA.mk (show (zr p 3).length = 1 by have := HL.out; omega)
   have HLN2 := zA.mk (show (zr p 4).length = (zr p 3).length - 1 by have := HL.out; omega)
   obtain ⟨A1, q1, hA1, hq1, hC⟩ := Kd.Jh HR.out
   injection hA1 with hA1 hl1 hc1
   subst hA1
   clear hl1 hc1 hq1
   obtain ⟨ad, had, hx⟩ := Kd.ZK hC (Zr p 3) hK.1 (by omega)
   injection had with had
   subst had
   rw [add_plain] at hx
   have HAT := zA.mk (show rd (zr p 3) (Zr p 3) = zp p 3 from rfl)
   rw [HAT.out] at hx
   have HER := zA.mk (show (zr p 3).eraseIdx (Zr p 3).toNat = zr p 4 from rfl)
   have hX : Zr p 3 = ZF p 3 := by have e : Zr p 3 = ZF p 3 / 1 := rfl; rw [e]; exact Int.ediv_one _
   have HY := zA.mk (show 0 = ZF p 4 by have e : ZF p 4 = ZF p 3 % 1 := rfl; rw [e]; omega)
   rw [hX] at hx hK
   have HX := zA.mk hX
   clear hX hC
   obtain ⟨hk0, hk1⟩ := hK
   obtain ⟨hp0, hp1⟩ := hP
   have b9 : wr.cell? ⟨w.heap.size + 1 + 1 + 1, 3, none⟩ = some (.int .i64 1) := (zK B9.out 3).trans rfl
   have b3 : wr.cell? ⟨w.heap.size + 1, 3, none⟩ = some (.int .i64 (Zv p 3 3)) := (zK B3.out 3).trans rfl
   have f3 := zN B3.out 3
   have hk2 : ZF p 3 < 9223372036854775807 := by omega
   go_wp2_with fail
   have HRw := zA.mk (show Kd.R (Kd.int .i64) 2 (wr.setCell ⟨w.heap.size + 1, 3, none⟩ (.int .i64 (zp p 3))) w.heap.size (fun k => k = w.heap.size + 1 + 1) (.slice (some ⟨w.heap.size + 1 + 1, 0, none⟩) (zr p 3).length 4) (zr p 3) from Kd.ZI (p := ⟨w.heap.size + 1, 3, none⟩) HR.out (fun k hk => by rw [hk]; show w.heap.size + 1 + 1 ≠ w.heap.size + 1; omega) _)
   refine Qn (args' := #[.slice (some ⟨w.heap.size + 1 + 1, 0, none⟩) (zr p 3).length 4, .int .i64 ((ZF p 3).toNat : Int), .int .i64 (((ZF p 3).toNat : Int) + 1)]) (by rw [Int.toNat_of_nonneg hk0]) ?_
   refine (Zq.zDY (w.heap.size + 1 + 1) 4 (ZF p 3).toNat (zr p 3) w.heap.size (fun k => k = w.heap.size + 1 + 1) _ HRw.out (by omega)).mono ?_
   rintro e w1 ⟨rfl, hR1, hg1⟩
   have hl2 := HLN2.out
   have er : (zr p 3).eraseIdx (ZF p 3).toNat = zr p 4 := by rw [← HER.out, HX.out]
   rw [er, ← hl2] at hR1
   rw [← hl2]
   have HR2 := zA.mk hR1
   have B3a : (wr.setCell ⟨w.heap.size + 1, 3, none⟩ (.int .i64 (zp p 3))).heap[w.heap.size + 1]? = some (.cells #[.int .i64 (Zv p 4 0), .int .i64 (Zv p 4 1), .int .i64 (Zv p 4 2), .int .i64 (Zv p 4 3)] 101 (0, 0)) := qT B3.out 3 _ rfl
   have B3n := zA.mk (qa B3a hg1 (by simp))
   have B2n := zA.mk (qa (qE (p := ⟨w.heap.size + 1, 3, none⟩) B2.out (by show w.heap.size ≠ w.heap.size + 1; omega) (.int .i64 (zp p 3))) hg1 (by simp; omega))
   have B9n := zA.mk (qa (qE (p := ⟨w.heap.size + 1, 3, none⟩) B9.out (by show w.heap.size + 1 + 1 + 1 ≠ w.heap.size + 1; omega) (.int .i64 (zp p 3))) hg1 (by simp))
   have HBn := zA.mk (Qe (zF (j := 3) (v := .int .i64 (zp p 3)) HB.out (show w.heap.size ≤ w.heap.size + 1 by omega)) (some (w.heap.size + 1 + 1)) (by have := HB.out.size; simp [World.setCell]; omega) hg1 (fun k hk => by injection hk with hk; omega))
   clear hR1 hg1 B3a HRw B3 B2 B9 HB HR er hl2 hx b9 b3 f3
   go_wp2
   go_roundg (4 - 4)
   case measure => omega
   case rel => exact ⟨4, by omega, by omega, by first | rfl | go_num, by rw [← HY.out], rfl, HR2, B3n, B2n, B9n, HBn⟩
  next =>
   have hK : 0 ≤ Zr p 2 ∧ Zr p 2 < (zr p 2).length := by have := HK.out; have := HL.out; omega
   have hP : 0 ≤ ZF p 2 ∧ ZF p 2 ≤ 23 := by have := HP.out; omega
   have HLN := zA.mk (show (zr p 2).length = 2 by have := HL.out; omega)
   have HLN2 := zA.mk (show (zr p 3).length = (zr p 2).length - 1 by have := HL.out; omega)
   obtain ⟨A1, q1, hA1, hq1, hC⟩ := Kd.Jh HR.out
   injection hA1 with hA1 hl1 hc1
   subst hA1
   clear hl1 hc1 hq1
   obtain ⟨ad, had, hx⟩ := Kd.ZK hC (Zr p 2) hK.1 (by omega)
   injection had with had
   subst had
   rw [add_plain] at hx
   have HAT := zA.mk (show rd (zr p 2) (Zr p 2) = zp p 2 from rfl)
   rw [HAT.out] at hx
   have HER := zA.mk (show (zr p 2).eraseIdx (Zr p 2).toNat = zr p 3 from rfl)
   have hX : Zr p 2 = ZF p 2 := by have e : Zr p 2 = ZF p 2 / 1 := rfl; rw [e]; exact Int.ediv_one _
   have HY := zA.mk (show 0 = ZF p 3 by have e : ZF p 3 = ZF p 2 % 1 := rfl; rw [e]; omega)
   rw [hX] at hx hK
   have HX := zA.mk hX
   clear hX hC
   obtain ⟨hk0, hk1⟩ := hK
   obtain ⟨hp0, hp1⟩ := hP
   have b9 : wr.cell? ⟨w.heap.size + 1 + 1 + 1, 2, none⟩ = some (.int .i64 1) := (zK B9.out 2).trans rfl
   have b3 : wr.cell? ⟨w.heap.size + 1, 2, none⟩ = some (.int .i64 (Zv p 2 2)) := (zK B3.out 2).trans rfl
   have f3 := zN B3.out 2
   have hk2 : ZF p 2 < 9223372036854775807 := by omega
   go_wp2_with fail
   have HRw := zA.mk (show Kd.R (Kd.int .i64) 2 (wr.setCell ⟨w.heap.size + 1, 2, none⟩ (.int .i64 (zp p 2))) w.heap.size (fun k => k = w.heap.size + 1 + 1) (.slice (some ⟨w.heap.size + 1 + 1, 0, none⟩) (zr p 2).length 4) (zr p 2) from Kd.ZI (p := ⟨w.heap.size + 1, 2, none⟩) HR.out (fun k hk => by rw [hk]; show w.heap.size + 1 + 1 ≠ w.heap.size + 1; omega) _)
   refine Qn (args' := #[.slice (some ⟨w.heap.size + 1 + 1, 0, none⟩) (zr p 2).length 4, .int .i64 ((ZF p 2).toNat : Int), .int .i64 (((ZF p 2).toNat : Int) + 1)]) (by rw [Int.toNat_of_nonneg hk0]) ?_
   refine (Zq.zDY (w.heap.size + 1 + 1) 4 (ZF p 2).toNat (zr p 2) w.heap.size (fun k => k = w.heap.size + 1 + 1) _ HRw.out (by omega)).mono ?_
   rintro e w1 ⟨rfl, hR1, hg1⟩
   have hl2 := HLN2.out
   have er : (zr p 2).eraseIdx (ZF p 2).toNat = zr p 3 := by rw [← HER.out, HX.out]
   rw [er, ← hl2] at hR1
   rw [← hl2]
   have HR2 := zA.mk hR1
   have B3a : (wr.setCell ⟨w.heap.size + 1, 2, none⟩ (.int .i64 (zp p 2))).heap[w.heap.size + 1]? = some (.cells #[.int .i64 (Zv p 3 0), .int .i64 (Zv p 3 1), .int .i64 (Zv p 3 2), .int .i64 (Zv p 3 3)] 101 (0, 0)) := qT B3.out 2 _ rfl
   have B3n := zA.mk (qa B3a hg1 (by simp))
   have B2n := zA.mk (qa (qE (p := ⟨w.heap.size + 1, 2, none⟩) B2.out (by show w.heap.size ≠ w.heap.size + 1; omega) (.int .i64 (zp p 2))) hg1 (by simp; omega))
   have B9n := zA.mk (qa (qE (p := ⟨w.heap.size + 1, 2, none⟩) B9.out (by show w.heap.size + 1 + 1 + 1 ≠ w.heap.size + 1; omega) (.int .i64 (zp p 2))) hg1 (by simp))
   have HBn := zA.mk (Qe (zF (j := 2) (v := .int .i64 (zp p 2)) HB.out (show w.heap.size ≤ w.heap.size + 1 by omega)) (some (w.heap.size + 1 + 1)) (by have := HB.out.size; simp [World.setCell]; omega) hg1 (fun k hk => by injection hk with hk; omega))
   clear hR1 hg1 B3a HRw B3 B2 B9 HB HR er hl2 hx b9 b3 f3
   go_wp2
   go_roundg (4 - 3)
   case measure => omega
   case rel => exact ⟨3, by omega, by omega, by first | rfl | go_num, by rw [← HY.out], rfl, HR2, B3n, B2n, B9n, HBn⟩
  next =>
   have hK : 0 ≤ Zr p 1 ∧ Zr p 1 < (zr p 1).length := by have := HK.out; have := HL.out; omega
   have hP : 0 ≤ ZF p 1 ∧ ZF p 1 ≤ 23 := by have := HP.out; omega
   have HLN := zA.mk (show (zr p 1).length = 3 by have := HL.out; omega)
   have HLN2 := zA.mk (show (zr p 2).length = (zr p 1).length - 1 by have := HL.out; omega)
   obtain ⟨A1, q1, hA1, hq1, hC⟩ := Kd.Jh HR.out
   injection hA1 with hA1 hl1 hc1
   subst hA1
   clear hl1 hc1 hq1
   obtain ⟨ad, had, hx⟩ := Kd.ZK hC (Zr p 1) hK.1 (by omega)
   injection had with had
   subst had
   rw [add_plain] at hx
   have HAT := zA.mk (show rd (zr p 1) (Zr p 1) = zp p 1 from rfl)
   rw [HAT.out] at hx
   have HER := zA.mk (show (zr p 1).eraseIdx (Zr p 1).toNat = zr p 2 from rfl)
   have hX : Zr p 1 = ZF p 1 / 2 := by have e : Zr p 1 = ZF p 1 / 2 := rfl; rw [e]
   have HY := zA.mk (show ZF p 1 % 2 = ZF p 2 by have e : ZF p 2 = ZF p 1 % 2 := rfl; rw [e])
   rw [hX] at hx hK
   have HX := zA.mk hX
   clear hX hC
   obtain ⟨hk0, hk1⟩ := hK
   obtain ⟨hp0, hp1⟩ := hP
   have b9 : wr.cell? ⟨w.heap.size + 1 + 1 + 1, 1, none⟩ = some (.int .i64 2) := (zK B9.out 1).trans rfl
   have b3 : wr.cell? ⟨w.heap.size + 1, 1, none⟩ = some (.int .i64 (Zv p 1 1)) := (zK B3.out 1).trans rfl
   have f3 := zN B3.out 1
   have hk2 : ZF p 1 / 2 < 9223372036854775807 := by omega
   go_wp2_with fail
   have HRw := zA.mk (show Kd.R (Kd.int .i64) 2 (wr.setCell ⟨w.heap.size + 1, 1, none⟩ (.int .i64 (zp p 1))) w.heap.size (fun k => k = w.heap.size + 1 + 1) (.slice (some ⟨w.heap.size + 1 + 1, 0, none⟩) (zr p 1).length 4) (zr p 1) from Kd.ZI (p := ⟨w.heap.size + 1, 1, none⟩) HR.out (fun k hk => by rw [hk]; show w.heap.size + 1 + 1 ≠ w.heap.size + 1; omega) _)
   refine Qn (args' := #[.slice (some ⟨w.heap.size + 1 + 1, 0, none⟩) (zr p 1).length 4, .int .i64 ((ZF p 1 / 2).toNat : Int), .int .i64 (((ZF p 1 / 2).toNat : Int) + 1)]) (by rw [Int.toNat_of_nonneg hk0]) ?_
   refine (Zq.zDY (w.heap.size + 1 + 1) 4 (ZF p 1 / 2).toNat (zr p 1) w.heap.size (fun k => k = w.heap.size + 1 + 1) _ HRw.out (by omega)).mono ?_
   rintro e w1 ⟨rfl, hR1, hg1⟩
   have hl2 := HLN2.out
   have er : (zr p 1).eraseIdx (ZF p 1 / 2).toNat = zr p 2 := by rw [← HER.out, HX.out]
   rw [er, ← hl2] at hR1
   rw [← hl2]
   have HR2 := zA.mk hR1
   have B3a : (wr.setCell ⟨w.heap.size + 1, 1, none⟩ (.int .i64 (zp p 1))).heap[w.heap.size + 1]? = some (.cells #[.int .i64 (Zv p 2 0), .int .i64 (Zv p 2 1), .int .i64 (Zv p 2 2), .int .i64 (Zv p 2 3)] 101 (0, 0)) := qT B3.out 1 _ rfl
   have B3n := zA.mk (qa B3a hg1 (by simp))
   have B2n := zA.mk (qa (qE (p := ⟨w.heap.size + 1, 1, none⟩) B2.out (by show w.heap.size ≠ w.heap.size + 1; omega) (.int .i64 (zp p 1))) hg1 (by simp; omega))
   have B9n := zA.mk (qa (qE (p := ⟨w.heap.size + 1, 1, none⟩) B9.out (by show w.heap.size + 1 + 1 + 1 ≠ w.heap.size + 1; omega) (.int .i64 (zp p 1))) hg1 (by simp))
   have HBn := zA.mk (Qe (zF (j := 1) (v := .int .i64 (zp p 1)) HB.out (show w.heap.size ≤ w.heap.size + 1 by omega)) (some (w.heap.size + 1 + 1)) (by have := HB.out.size; simp [World.setCell]; omega) hg1 (fun k hk => by injection hk with hk; omega))
   clear hR1 hg1 B3a HRw B3 B2 B9 HB HR er hl2 hx b9 b3 f3
   go_wp2
   go_roundg (4 - 2)
   case measure => omega
   case rel => exact ⟨2, by omega, by omega, by first | rfl | go_num, by rw [← HY.out], rfl, HR2, B3n, B2n, B9n, HBn⟩
  next =>
   have hK : 0 ≤ Zr p 0 ∧ Zr p 0 < (zr p 0).length := by have := HK.out; have := HL.out; omega
   have hP : 0 ≤ ZF p 0 ∧ ZF p 0 ≤ 23 := by have := HP.out; omega
   have HLN := zA.mk (show (zr p 0).length = 4 by have := HL.out; omega)
   have HLN2 := zA.mk (show (zr p 1).length = (zr p 0).length - 1 by have := HL.out; omega)
   obtain ⟨A1, q1, hA1, hq1, hC⟩ := Kd.Jh HR.out
   injection hA1 with hA1 hl1 hc1
   subst hA1
   clear hl1 hc1 hq1
   obtain ⟨ad, had, hx⟩ := Kd.ZK hC (Zr p 0) hK.1 (by omega)
   injection had with had
   subst had
   rw [add_plain] at hx
   have HAT := zA.mk (show rd (zr p 0) (Zr p 0) = zp p 0 from rfl)
   rw [HAT.out] at hx
   have HER := zA.mk (show (zr p 0).eraseIdx (Zr p 0).toNat = zr p 1 from rfl)
   have hX : Zr p 0 = ZF p 0 / 6 := by have e : Zr p 0 = ZF p 0 / 6 := rfl; rw [e]
   have HY := zA.mk (show ZF p 0 % 6 = ZF p 1 by have e : ZF p 1 = ZF p 0 % 6 := rfl; rw [e])
   rw [hX] at hx hK
   have HX := zA.mk hX
   clear hX hC
   obtain ⟨hk0, hk1⟩ := hK
   obtain ⟨hp0, hp1⟩ := hP
   have b9 : wr.cell? ⟨w.heap.size + 1 + 1 + 1, 0, none⟩ = some (.int .i64 6) := (zK B9.out 0).trans rfl
   have b3 : wr.cell? ⟨w.heap.size + 1, 0, none⟩ = some (.int .i64 (Zv p 0 0)) := (zK B3.out 0).trans rfl
   have f3 := zN B3.out 0
   have hk2 : ZF p 0 / 6 < 9223372036854775807 := by omega
   go_wp2_with fail
   have HRw := zA.mk (show Kd.R (Kd.int .i64) 2 (wr.setCell ⟨w.heap.size + 1, 0, none⟩ (.int .i64 (zp p 0))) w.heap.size (fun k => k = w.heap.size + 1 + 1) (.slice (some ⟨w.heap.size + 1 + 1, 0, none⟩) (zr p 0).length 4) (zr p 0) from Kd.ZI (p := ⟨w.heap.size + 1, 0, none⟩) HR.out (fun k hk => by rw [hk]; show w.heap.size + 1 + 1 ≠ w.heap.size + 1; omega) _)
   refine Qn (args' := #[.slice (some ⟨w.heap.size + 1 + 1, 0, none⟩) (zr p 0).length 4, .int .i64 ((ZF p 0 / 6).toNat : Int), .int .i64 (((ZF p 0 / 6).toNat : Int) + 1)]) (by rw [Int.toNat_of_nonneg hk0]) ?_
   refine (Zq.zDY (w.heap.size + 1 + 1) 4 (ZF p 0 / 6).toNat (zr p 0) w.heap.size (fun k => k = w.heap.size + 1 + 1) _ HRw.out (by omega)).mono ?_
   rintro e w1 ⟨rfl, hR1, hg1⟩
   have hl2 := HLN2.out
   have er : (zr p 0).eraseIdx (ZF p 0 / 6).toNat = zr p 1 := by rw [← HER.out, HX.out]
   rw [er, ← hl2] at hR1
   rw [← hl2]
   have HR2 := zA.mk hR1
   have B3a : (wr.setCell ⟨w.heap.size + 1, 0, none⟩ (.int .i64 (zp p 0))).heap[w.heap.size + 1]? = some (.cells #[.int .i64 (Zv p 1 0), .int .i64 (Zv p 1 1), .int .i64 (Zv p 1 2), .int .i64 (Zv p 1 3)] 101 (0, 0)) := qT B3.out 0 _ rfl
   have B3n := zA.mk (qa B3a hg1 (by simp))
   have B2n := zA.mk (qa (qE (p := ⟨w.heap.size + 1, 0, none⟩) B2.out (by show w.heap.size ≠ w.heap.size + 1; omega) (.int .i64 (zp p 0))) hg1 (by simp; omega))
   have B9n := zA.mk (qa (qE (p := ⟨w.heap.size + 1, 0, none⟩) B9.out (by show w.heap.size + 1 + 1 + 1 ≠ w.heap.size + 1; omega) (.int .i64 (zp p 0))) hg1 (by simp))
   have HBn := zA.mk (Qe (zF (j := 0) (v := .int .i64 (zp p 0)) HB.out (show w.heap.size ≤ w.heap.size + 1 by omega)) (some (w.heap.size + 1 + 1)) (by have := HB.out.size; simp [World.setCell]; omega) hg1 (fun k hk => by injection hk with hk; omega))
   clear hR1 hg1 B3a HRw B3 B2 B9 HB HR er hl2 hx b9 b3 f3
   go_wp2
   go_roundg (4 - 1)
   case measure => omega
   case rel => exact ⟨1, by omega, by omega, by first | rfl | go_num, by rw [← HY.out], rfl, HR2, B3n, B2n, B9n, HBn⟩
def qX.f (l0 : List (List (qA))) : Option (Int) := some (l0.length : Int)
set_option maxHeartbeats 8000000 in
set_option maxRecDepth 100000 in
theorem qX.calls (A0 : Option Addr) (c0 : Nat) (l0 : List (List (qA))) (r : Int) (w : World) (hr0 : Kd.C (Kd.slice 75 ZT) w A0 l0.length l0) (hc0 : l0.length ≤ c0) (h : qX.f l0 = some r) :
    Calls Try.prog 75 #[.slice A0 l0.length c0] w fun e w' => e = .returned (.int .i64 r) ∧ qJ w w' := by
  have HR0 := zA.mk hr0
  have HC0 := zA.mk hc0
  clear hr0 hc0
  have H : (some (l0.length : Int)) = some r := h
  clear h
  obtain rfl := yey H
  go_enter Try.func75, Try.ntmps75
  go_wp2
  go_ret
  exact ⟨by first | rfl | (simp; done) | (simp [*]; done), by repeat (first | exact qJ.refl _ | apply qJ.step)⟩
theorem QM (a b c d : Int) (f : Int) (h0 : 0 ≤ f) (h1 : f ≤ 3) : ∀ w : World, (Instr.index 101 (.agg #[.int .i64 a, .int .i64 b, .int .i64 c, .int .i64 d]) (.int .i64 f)).run Try.prog w = .ok (.int .i64 (rd [a, b, c, d] f)) w := by
  intro w
  rcases (show f = 0 ∨ f = 1 ∨ f = 2 ∨ f = 3 by omega) with rfl | rfl | rfl | rfl
  · kernel_rfl
  · kernel_rfl
  · kernel_rfl
  · kernel_rfl
theorem QI {w : World} {g : Nat} {T : TypeId} {a b c d : Int} (h : w.heap[g]? = some (.cells #[.int .i64 a, .int .i64 b, .int .i64 c, .int .i64 d] T (0, 0))) (f : Int) (h0 : 0 ≤ f) (h1 : f ≤ 3) : w.cell? ⟨g, f.toNat, none⟩ = some (.int .i64 (rd [a, b, c, d] f)) := by
  rw [zK h]
  rcases (show f = 0 ∨ f = 1 ∨ f = 2 ∨ f = 3 by omega) with rfl | rfl | rfl | rfl <;> rfl
theorem zBv {w : World} {g : Nat} {T : TypeId} {a b c d : Int} (h : w.heap[g]? = some (.cells #[.int .i64 a, .int .i64 b, .int .i64 c, .int .i64 d] T (0, 0))) (f v : Int) (h0 : 0 ≤ f) (h1 : f ≤ 3) :
    (w.setCell ⟨g, f.toNat, none⟩ (.int .i64 v)).heap[g]? = some (.cells #[.int .i64 (rd ([a, b, c, d].set f.toNat v) 0), .int .i64 (rd ([a, b, c, d].set f.toNat v) 1), .int .i64 (rd ([a, b, c, d].set f.toNat v) 2), .int .i64 (rd ([a, b, c, d].set f.toNat v) 3)] T (0, 0)) := by
  rcases (show f = 0 ∨ f = 1 ∨ f = 2 ∨ f = 3 by omega) with rfl | rfl | rfl | rfl
  · exact qT h 0 _ rfl
  · exact qT h 1 _ rfl
  · exact qT h 2 _ rfl
  · exact qT h 3 _ rfl
theorem Zb {W : World} {n : Nat} (h : W.heap.size = n) (o : Obj) : (W.alloc o).heap[n]? = some o := h ▸ zCs W o
theorem zBw {l : List Int} (h : l.length = 4) : l = [rd l 0, rd l 1, rd l 2, rd l 3] := by
  match l, h with
  | [a, b, c, d], _ => rfl
def qm.f (a0_0 : Int) (a0_1 : Int) : Option (Bool) := some (decide (a0_0 < 0))
set_option maxHeartbeats 8000000 in
set_option maxRecDepth 100000 in
theorem qm.calls (a0_0 : Int) (a0_1 : Int) (r : Bool) (w : World) (h : qm.f a0_0 a0_1 = some r) :
    Calls Try.prog 77 #[.agg #[.int .i64 a0_0, .int .i64 a0_1]] w fun e w' => e = .returned (.bool r) ∧ Below w.heap.size w w' := by
  have hu75 := Try.underlying75
  have HB := zA.mk (yry w.heap.size w)
  have H : (some (decide (a0_0 < 0))) = some r := h
  clear h
  obtain rfl := yey H
  go_enter Try.func77, Try.ntmps77
  go_wp2_with (first | ((with_reducible refine zq (N := 1) rfl ?_); refine zt ?hg (N := 1) ?hd (cs := #[.int .i64 a0_0, .int .i64 a0_1]) (t := 75) ?hr ?_; (case hd => rfl); (case hg => rfl); (case hr => first | (go_simp; done) | (go_simp; rfl)); intro gb101 hg w2 hbox hb; have n0_ := zA.mk (zM (by repeat (first | (with_reducible first | exact HB.out | apply zC | apply zB | apply zD) | exact HB.out)) hb); have n1_ := zA.mk (hbox); have n2_ := zA.mk ((by rw [hg]; exact (zO (by repeat (first | (with_reducible first | exact HB.out | apply zC | apply zB | apply zD) | exact HB.out))) : w.heap.size ≤ gb101)); have n3_ := zA.mk ((by rw [hg]; exact (zO (by repeat (first | (with_reducible first | exact HB.out | apply zC | apply zB | apply zD) | exact HB.out))) : w.heap.size ≤ gb101)); clear HB; have HB := n0_; have BK101 := n1_; have GW101 := n2_; have GE101 := n3_; clear n0_ n1_ n2_ n3_; clear hb hbox hg; have hcz3_0 : w2.cell? ⟨gb101, 0, none⟩ = some (.int .i64 a0_0) := (zK BK101.out 0).trans rfl; have hcz3_1 : w2.cell? ⟨gb101, 1, none⟩ = some (.int .i64 a0_1) := (zK BK101.out 1).trans rfl; have hfz3_0 := zN BK101.out 0; have hfz3_1 := zN BK101.out 1))
  go_ret
  exact ⟨by first | rfl | (simp [zX, zY] <;> rfl) | (simp [*, zX, zY] <;> rfl), by repeat (first | (with_reducible first | exact HB.out | apply zC | apply zB | apply zD | refine zF ?_ GE101.out) | exact HB.out)⟩
theorem zG1 {P : Program} {ops : Array Oper} {Q : Exit → Act → World → Prop} {oi : Oper} {N : Option Tmp} {a : Act} {w : World} {K : Act → World → Prop} {f : FuncId} {fn : Func} {t : Tmp} {as_ : Array Operand} {ts : Array TypeId} {caps : Array Value} (hf : P.funcs[f]? = some fn) (hname : (fn.name == "runtime.NumGoroutine") = false) (hb : fn.body.isSome = true) (args all : Array Value)
    (hw : Region.wanted oi (yielded ops a.tmps) = true) (hN : oi.dst = N) (hop : oi.op = .call { callee := .value (.tmp t), args := as_, argTypes := ts }) (ht : a.eval (.tmp t) = .func (.func f) #[] caps) (hargs : as_.map a.eval = args) (hall : args ++ caps = all)
    (h : Calls P f all w fun e w' => ∃ v, e = .returned v ∧ K (a.put N v) w') : if Region.wanted oi (yielded ops a.tmps) = true then Oper.wp P oi a w K Q else K (a.put N undef) w := by
  subst hall
  refine call_ f (args ++ caps) hw hN ?_ h
  have he := zCv hf hname hb (args ++ caps) w
  unfold execOp
  simp [hop, resolve, Deferred.ofValue, invoke, ht, hargs, he]
theorem zDc {α : Type} {w : World} {d : Kd α} {e base b : Nat} {ok : Nat → Prop} {v : Value} {xs : List α} (h : d.R e w base ok v xs) (hb : v.ownBlock = some b) : ∃ cap, v = .slice (some ⟨b, 0, none⟩) xs.length cap := by
  obtain ⟨inner, ho⟩ := Kd.zDt h
  rcases ho.2 with ⟨rfl, _⟩ | ⟨g, cap, cur, rfl, _⟩
  · simp [Value.ownBlock] at hb
  · have : g = b := by simpa [Value.ownBlock] using hb
    subst this
    exact ⟨cap, rfl⟩
def zD5 {σ : Type} (step : σ → Nat → Nat → qA → σ) (tet : Nat) : List qA → Nat → σ → σ
  | [], _, s => s
  | x :: xs, f, s => zD5 step tet xs (f + 1) (if x.f0 < 0 then s else step s tet f x)
def zAk {σ : Type} (step : σ → Nat → Nat → qA → σ) : List (List qA) → Nat → σ → σ
  | [], _, s => s
  | r :: rs, tet, s => zAk step rs (tet + 1) (zD5 step tet r 0 s)
def QK (l : List (List qA)) (j f : Nat) (x : qA) : Prop := ∃ h1 : j < l.length, ∃ h2 : f < l[j].length, l[j][f] = x
set_option maxHeartbeats 8000000 in
set_option maxRecDepth 100000 in
theorem zE1.calls {σ : Type} (F : FuncId) (fn : Func) (hf : Try.prog.funcs[F]? = some fn) (hname : (fn.name == "runtime.NumGoroutine") = false) (hbody : fn.body.isSome = true) (caps : Array Value)
    (l : List (List qA)) (A0 : Option Addr) (c0 : Nat) (w0 w : World) (Inv : σ → World → Prop) (step : σ → Nat → Nat → qA → σ) (st0 : σ)
    (cnt : σ → Nat) (N : Nat) (hcnt : ∀ s j f x, cnt (step s j f x) ≤ cnt s + 4) (hN : cnt st0 + 4 * (l.map List.length).sum ≤ N)
    (hB : ∀ s W W', Inv s W → Below W.heap.size W W' → Inv s W')
    (hK : ∀ s W, Inv s W → Below w0.heap.size w0 W)
    (hT : Kd.C (Kd.slice 75 ZT) w0 A0 l.length l)
    (hperm : ∀ r ∈ l, ∀ x ∈ r, ¬ x.f0 < 0 → 0 ≤ x.f1 ∧ x.f1 ≤ 23)
    (hstep : ∀ s W (j f : Nat) (x : qA), Inv s W → QK l j f x → ¬ x.f0 < 0 → cnt s + 4 ≤ N →
      Calls Try.prog F (#[.int .i64 (j : Int), .int .i64 (f : Int), .agg #[.int .i64 x.f0, .int .i64 x.f1], .agg #[.int .i64 (zp x.f1 0), .int .i64 (zp x.f1 1), .int .i64 (zp x.f1 2), .int .i64 (zp x.f1 3)]] ++ caps) W fun e W' => e = .returned (.tuple #[]) ∧ Inv (step s j f x) W')
    (h0 : Inv st0 w) :
    Calls Try.prog 99 #[.agg #[.slice A0 l.length c0], .func (.func F) #[] caps] w fun e w' => e = .returned (.tuple #[]) ∧ Inv (zAk step l 0 st0) w' := by
  have HB := zA.mk hB
  have HK := zA.mk hK
  have HT := zA.mk hT
  have HPM := zA.mk hperm
  have HST := zA.mk hstep
  have HCN := zA.mk hcnt
  have HN : zA (cnt st0 + 4 * ((l.drop 0).map List.length).sum ≤ N) := ⟨by rw [List.drop_zero]; exact hN⟩
  clear hcnt hN
  have HS := zA.mk (hB _ _ _ h0 (zC (yry w.heap.size w) (.cells #[.slice A0 l.length c0] 35)))
  have hbig : l.length ≤ 9223372036854775807 := hT.2.1
  clear hB hT hperm hstep h0 hK
  have HA : zA (zAk step (l.drop 0) 0 st0 = zAk step l 0 st0) := ⟨by rw [List.drop_zero]⟩
  generalize zAk step l 0 st0 = R at HA ⊢
  go_enter Try.func99, Try.ntmps99
  go_wp2
  go_loopg [11] l.length (fun gg v11 w' => ∃ (j : Nat) (s : σ), j ≤ l.length ∧ l.length - j ≤ gg ∧ v11 = .int .i64 j ∧ zA (zAk step (l.drop j) j s = R) ∧ zA (Inv s w') ∧ zA (cnt s + 4 * ((l.drop j).map List.length).sum ≤ N))
  case atStart => exact ⟨0, st0, Nat.zero_le _, by omega, rfl, HA, HS, HN⟩
  case round =>
    clear HS HA HN
    obtain ⟨j, st, hj, hg, rfl, HA, HS, HN⟩ := hrel
    by_cases hlt : j < l.length
    · have hltz : (j : Int) < (l.length : Int) := by omega
      obtain ⟨ad1, A1, c1, e1, hy1, hl1, hC1⟩ := ZO HT.out (j : Int) (by omega) hltz
      subst e1
      have ex : zE l (j : Int) = l[j] := by simp [zE, hlt]
      rw [ex] at hy1 hl1 hC1
      rw [yny] at hy1
      replace hy1 := ((HK.out _ _ HS.out).cell (ypy w0 _ hy1)).trans hy1
      have HA2 := HA.out
      rw [yoy hlt, zAk] at HA2
      have HI : zA (zAk step (l.drop (j + 1)) (j + 1) (zD5 step j (l[j].drop 0) 0 st) = R) := ⟨by rw [List.drop_zero]; exact HA2⟩
      have HN1 : zA (cnt st + 4 * (l[j].length - 0 + ((l.drop (j + 1)).map List.length).sum) ≤ N) := ⟨by have h := HN.out; rw [yoy hlt, yjy, List.sum_cons] at h; omega⟩
      clear HN
      have HP1 := zA.mk (HPM.out l[j] (List.getElem_mem hlt))
      have HX := zA.mk (show ∀ (f : Nat) (x : qA) (h2 : f < l[j].length), l[j][f] = x → QK l j f x from fun f x h2 h => ⟨hlt, h2, h⟩)
      have hbig1 : l[j].length ≤ 9223372036854775807 := hC1.2.1
      have HC1 := zA.mk hC1
      clear HA HA2 hl1 hC1 ex
      generalize l[j] = row at *
      go_wp2
      go_loopg [18] row.length (fun gg v18 w' => ∃ (f : Nat) (s : σ), f ≤ row.length ∧ row.length - f ≤ gg ∧ v18 = .int .i64 f ∧ zA (zAk step (l.drop (j + 1)) (j + 1) (zD5 step j (row.drop f) f s) = R) ∧ zA (Inv s w') ∧ zA (cnt s + 4 * (row.length - f + ((l.drop (j + 1)).map List.length).sum) ≤ N))
      case atStart => exact ⟨0, st, Nat.zero_le _, by omega, rfl, HI, HS, HN1⟩
      case round =>
        clear HI HS hy1 HN1
        obtain ⟨f, st, hf9, hgf, rfl, HI, HS, HN1⟩ := hrel
        by_cases hlf : f < row.length
        · have hlfz : (f : Int) < (row.length : Int) := by omega
          obtain ⟨ad2, e2, hy2, hy3⟩ := Zp HC1.out (f : Int) (by omega) hlfz
          subst e2
          replace hy2 := ((HK.out _ _ HS.out).cell (ypy w0 _ hy2)).trans hy2
          replace hy3 := ((HK.out _ _ HS.out).cell (ypy w0 _ hy3)).trans hy3
          have HF := zA.mk (HX.out f row[f] hlf rfl)
          have HY := zA.mk (HP1.out row[f] (List.getElem_mem hlf))
          have HI2 := HI.out
          rw [yoy hlf, zD5] at HI2
          have HI3 := zA.mk HI2
          clear HI HI2
          have ex : zI row (f : Int) = row[f] := by simp [zI, hlf]
          rw [ex, yny] at hy2 hy3
          generalize row[f] = y at hy2 hy3 HY HI3 HF
          obtain ⟨f0, f1⟩ := y
          clear ex
          have BF := zA.mk (Zb (W := wr) rfl (.cells #[.int .i64 f0, .int .i64 f1] 75))
          have HS1 := zA.mk (HB.out _ _ _ HS.out (zC (yry _ _) (.cells #[.int .i64 f0, .int .i64 f1] 75)))
          clear HS
          by_cases hb : f0 < 0
          · rw [if_pos hb] at HI3
            have d0 : decide (f0 < 0) = true := ygy hb
            go_wp2_with (first | (go_at_call 77; (with_reducible refine (qm.calls f0 f1 true _ (by unfold qm.f; rw [d0])).mono ?_); rintro e w2 ⟨rfl, hnd⟩; have HS2 := zA.mk (HB.out _ _ _ HS1.out hnd); clear HS1 BF hnd))
            go_roundg (row.length - (f + 1))
            case measure => omega
            case rel => exact ⟨f + 1, st, by omega, by omega, by go_num, HI3, HS2, ⟨by have := HN1.out; omega⟩⟩
          · rw [if_neg hb] at HI3
            have d0 : decide (f0 < 0) = false := yhy hb
            have HP := zA.mk (show 0 ≤ f1 ∧ f1 ≤ 23 from HY.out (by first | exact hb | (show (0 : Int) ≤ f0; omega)))
            have hb9 := zA.mk hb
            clear HY
            go_wp2_with (first | (go_at_call 77; (with_reducible refine (qm.calls f0 f1 false _ (by unfold qm.f; rw [d0])).mono ?_); rintro e w2 ⟨rfl, hnd⟩; have HS2 := zA.mk (HB.out _ _ _ HS1.out hnd); have BF2 := zA.mk (zP BF.out hnd); clear HS1 BF hnd; have BF := BF2; clear BF2))
            refine Zm (n := 8) (S := fun w' => w'.cell? ⟨wr.heap.size, 0, none⟩ = some (.int .i64 f0) ∧ w'.cell? ⟨wr.heap.size, 1, none⟩ = some (.int .i64 f1)) (ds := [7]) #[false, false, false, false, false, false, false, false] (by kernel_rfl) rfl rfl ⟨(zK BF.out 0).trans rfl, (zK BF.out 1).trans rfl⟩ (fun hHeld => ?_)
            have HS3 := zA.mk (HB.out _ _ _ HS2.out (zD (yry _ _)))
            have BF3 := zA.mk (zJ BF.out)
            clear HS2 BF
            have HS2 := HS3
            have BF := BF3
            clear HS3 BF3
            generalize w2.drew = w22 at HS2 BF hHeld ⊢
            refine zj (i := 0) (N := some 26) (v := ?_) (a' := ?_) #[true, false, false, false, false, false, false, false] rfl rfl (by kernel_rfl) (fun _ _ _ h => h) (Or.inl ⟨by rfl, ?_⟩) ?_ ?_
            rotate_left
            · intro w'
              go_simp
              with_reducible rfl
            rotate_left
            · simp only [Act.put, yay, yby, ycy, zZ, zb]
              rfl
            refine zj (i := 1) (N := some 27) (v := ?_) (a' := ?_) #[true, true, false, false, false, false, false, false] rfl rfl (by kernel_rfl) (fun _ _ _ h => h) (Or.inl ⟨by rfl, ?_⟩) ?_ ?_
            rotate_left
            · intro w'
              go_simp
              with_reducible rfl
            rotate_left
            · simp only [Act.put, yay, yby, ycy, zZ, zb]
              rfl
            refine zj (i := 2) (N := some 28) (v := ?_) (a' := ?_) #[true, true, true, false, false, false, false, false] rfl rfl (by kernel_rfl) (fun _ _ _ h => h) (Or.inl ⟨by rfl, ?_⟩) ?_ ?_
            rotate_left
            · intro w'
              go_simp
              with_reducible rfl
            rotate_left
            · simp only [Act.put, yay, yby, ycy, zZ, zb]
              rfl
            refine qz (i := 3) (N := some 29) (v := ?_) (a' := ?_) #[true, true, true, true, false, false, false, false] rfl rfl (by kernel_rfl) (fun _ _ _ h => h) (Or.inl ⟨by rfl, ?_⟩) hHeld ?_ ?_
            rotate_left
            · rintro w' ⟨s0, s1⟩
              go_simp
              with_reducible rfl
            rotate_left
            · simp only [Act.put, yay, yby, ycy, zZ, zb]
              rfl
            refine zj (i := 4) (N := some 30) (v := ?_) (a' := ?_) #[true, true, true, true, true, false, false, false] rfl rfl (by kernel_rfl) (fun _ _ _ h => h) (Or.inl ⟨by rfl, ?_⟩) ?_ ?_
            rotate_left
            · intro w'
              go_simp
              with_reducible rfl
            rotate_left
            · simp only [Act.put, yay, yby, ycy, zZ, zb]
              rfl
            refine qz (i := 5) (N := some 31) (v := ?_) (a' := ?_) #[true, true, true, true, true, true, false, false] rfl rfl (by kernel_rfl) (fun _ _ _ h => h) (Or.inl ⟨by rfl, ?_⟩) hHeld ?_ ?_
            rotate_left
            · rintro w' ⟨s0, s1⟩
              go_simp
              with_reducible rfl
            rotate_left
            · simp only [Act.put, yay, yby, ycy, zZ, zb]
              rfl
            refine Jj (i := 6) (N := some 32) #[true, true, true, true, true, true, true, false] rfl rfl (by kernel_rfl) (by decide) (fun K hK => ?_)
            refine QU Try.func105 (by kernel_rfl) rfl #[.int .i64 f1] (by rfl) rfl rfl (by (try simp only [yiy, yjy, yky]); first | done | rfl) ?_
            refine (Jl.calls f1 _ HP.out.1 HP.out.2).mono ?_
            rintro e w3 ⟨rfl, hb3⟩
            refine ⟨_, rfl, ?_⟩
            have HS3 := zA.mk (HB.out _ _ _ HS2.out hb3)
            have BF3 := zA.mk (zP BF.out hb3)
            clear HS2 BF hb3
            have BF := BF3
            have HS2 := HS3
            clear BF3 HS3
            refine hK.out _ _ ⟨(zK BF.out 0).trans rfl, (zK BF.out 1).trans rfl⟩ (fun hHeld => ?_)
            clear hK K
            refine Zx (a' := ?_) ?_ ?_
            rotate_left
            · show Act.put _ (some 32) _ = _
              simp only [Act.put, yay, yby, ycy, zZ, zb]
              rfl
            refine zFR (i := 7) (N := some 33) #[true, true, true, true, true, true, true, true] rfl rfl (by kernel_rfl) (by decide) (fun K hK => ?_)
            refine zG1 (f := F) (fn := fn) hf hname hbody #[.int .i64 (j : Int), .int .i64 (f : Int), .agg #[.int .i64 f0, .int .i64 f1], .agg #[.int .i64 (zp f1 0), .int .i64 (zp f1 1), .int .i64 (zp f1 2), .int .i64 (zp f1 3)]] (#[.int .i64 (j : Int), .int .i64 (f : Int), .agg #[.int .i64 f0, .int .i64 f1], .agg #[.int .i64 (zp f1 0), .int .i64 (zp f1 1), .int .i64 (zp f1 2), .int .i64 (zp f1 3)]] ++ caps) (by rfl) rfl rfl rfl (by (try simp only [yiy, yjy, yky]); first | done | rfl) rfl ?_
            refine (HST.out st _ j f ⟨f0, f1⟩ HS2.out HF.out hb9.out (by have := HN1.out; omega)).mono ?_
            rintro e w4 ⟨rfl, hS4⟩
            refine ⟨_, rfl, ?_⟩
            have HS4 := zA.mk hS4
            clear hS4 HS2
            refine hK.out _ _ ?_
            clear hK K
            refine Zx (a' := ?_) ?_ ?_
            rotate_left
            · show Act.put _ (some 33) _ = _
              simp only [Act.put, yay, yby, ycy, zZ, zb]
              rfl
            refine Qi (by kernel_rfl) ?_
            go_wp2
            go_roundg (row.length - (f + 1))
            case measure => omega
            case rel => exact ⟨f + 1, _, by omega, by omega, by go_num, HI3, HS4, ⟨by have := HN1.out; have := HCN.out st j f ⟨f0, f1⟩; omega⟩⟩
        · obtain rfl : f = row.length := by omega
          have HI2 := HI.out
          rw [List.drop_length, zD5] at HI2
          have HA := zA.mk HI2
          clear HI HI2
          go_wp2
          go_roundg (l.length - (j + 1))
          case measure => omega
          case rel => exact ⟨j + 1, st, by omega, by omega, by go_num, HA, HS, ⟨by have := HN1.out; omega⟩⟩
    · obtain rfl : j = l.length := by omega
      have HA2 := HA.out
      rw [List.drop_length, zAk] at HA2
      subst HA2
      go_wp2
      first | go_end0 | ((try simp only [Exit.inBlock, Exit.then]); refine bodyPost_ret (results_none rfl _ _ _) rfl ?_)
      refine ⟨?_, HS.out⟩
      first | rfl | (simp <;> rfl)
def ZM (l : List Int) (i : Nat) : Nat → Int
  | 0 => rd l i
  | j + 1 => if rd l j < rd l i then ZM l i j - 1 else ZM l i j
def Jg (l : List Int) : Nat → Int
  | 0 => 0
  | i + 1 => Jg l i + ZM l i i * zEh i
def idxL (l : List Int) : Int := Jg l 4
def sm (x : Int) : Prop := 0 ≤ x ∧ x ≤ 3
theorem Jm (l : List Int) (i : Nat) (h : sm (rd l i)) : ∀ j : Nat, -(j : Int) ≤ ZM l i j ∧ ZM l i j ≤ 3
  | 0 => by have := h.1; have := h.2; unfold ZM; omega
  | j + 1 => by
    have := Jm l i h j
    unfold ZM
    split <;> omega
set_option maxHeartbeats 8000000 in
set_option maxRecDepth 100000 in
theorem zCY.calls (a b c d : Int) (w : World) (ha : sm a) (hb : sm b) (hc : sm c) (hd : sm d) :
    Calls Try.prog 134 #[.agg #[.int .i64 a, .int .i64 b, .int .i64 c, .int .i64 d]] w fun e w' => e = .returned (.int .i64 (idxL [a, b, c, d])) ∧ Below w.heap.size w w' := by
  have hl0 : sm (rd [a, b, c, d] (0 : Nat)) := ha
  have hl1 : sm (rd [a, b, c, d] (1 : Nat)) := hb
  have hl2 : sm (rd [a, b, c, d] (2 : Nat)) := hc
  have hl3 : sm (rd [a, b, c, d] (3 : Nat)) := hd
  have HL := zA.mk (And.intro (Jm _ 0 hl0) (And.intro (Jm _ 1 hl1) (And.intro (Jm _ 2 hl2) (Jm _ 3 hl3))))
  have HS := zA.mk (And.intro hl0 (And.intro hl1 (And.intro hl2 hl3)))
  clear ha hb hc hd hl0 hl1 hl2 hl3
  generalize hl : [a, b, c, d] = l at HL HS ⊢
  have HLL := zA.mk hl
  clear hl
  go_enter Try.func134, Try.ntmps134
  go_wp2_with fail
  go_loopg [3, 11] 4 (fun gg v3 v11 w' => ∃ i : Nat, i ≤ 4 ∧ 4 - i ≤ gg ∧ v11 = .int .i64 i ∧ v3 = .int .i64 (Jg l i) ∧ zA (-24 * (i : Int) ≤ Jg l i ∧ Jg l i ≤ 24 * i) ∧
    zA (w'.heap[w.heap.size]? = some (.cells #[.int .i64 a, .int .i64 b, .int .i64 c, .int .i64 d] 101 (0, 0))) ∧
    zA (w'.heap[w.heap.size + 1]? = some (.cells #[.int .i64 6, .int .i64 2, .int .i64 1, .int .i64 1] 2 (0, 0))) ∧ zA (Below w.heap.size w w'))
  case atStart =>
    refine ⟨0, by omega, by omega, rfl, rfl, ⟨by simp [Jg]⟩, ⟨?_⟩, ⟨?_⟩, ⟨?_⟩⟩
    · exact zG (Zb rfl _) _
    · exact Zb (by simp) _
    · exact zC (zC (yry _ _) _) _
  case round =>
    obtain ⟨i, hi, hg, rfl, rfl, HI, B1, B9, HB⟩ := hrel
    rcases (show i = 4 ∨ i = 3 ∨ i = 2 ∨ i = 1 ∨ i = 0 by omega) with rfl | rfl | rfl | rfl | rfl
    · go_wp2
      go_ret
      exact ⟨rfl, HB.out⟩
    · have b9 : wr.cell? ⟨w.heap.size + 1, 3, none⟩ = some (.int .i64 1) := (zK B9.out 3).trans rfl
      have b1 : wr.cell? ⟨w.heap.size, 3, none⟩ = some (.int .i64 (rd l (3 : Nat))) := (zK B1.out 3).trans (by rw [← HLL.out]; rfl)
      have hx : sm (rd l (3 : Nat)) := by have := HS.out; exact this.2.2.2
      have HD := zA.mk (show ∀ j : Nat, ZM l 3 (j + 1) = if rd l (j : Nat) < rd l (3 : Nat) then ZM l 3 j - 1 else ZM l 3 j from fun _ => rfl)
      have HD0 := zA.mk (show rd l (3 : Nat) = ZM l 3 0 from rfl)
      generalize rd l (3 : Nat) = xi at b1 HD HD0 hx
      go_wp2_with fail
      go_loopg [6, 22] 3 (fun gg v6 v22 w' => ∃ j : Nat, j ≤ 3 ∧ 3 - j ≤ gg ∧ v22 = .int .i64 j ∧ v6 = .int .i64 (ZM l 3 j) ∧ w' = wr)
      case atStart => exact ⟨0, by omega, by omega, rfl, by rw [HD0.out], rfl⟩
      case round =>
        obtain ⟨j, hj, hg2, rfl, rfl, rfl⟩ := hrel
        by_cases hlt : j < 3
        · have hltz : (j : Int) < 3 := by omega
          have bj : wr.cell? ⟨w.heap.size, j, none⟩ = some (.int .i64 (rd l (j : Nat))) := by
            have := QI B1.out (j : Int) (by omega) (by omega)
            rw [HLL.out, yny] at this
            exact this
          have hbd := (HL.out.2.2.2 j)
          obtain ⟨hbd1, hbd2⟩ := hbd
          have HN := zA.mk (HD.out j)
          generalize ZM l 3 j = lv at HN hbd1 hbd2 ⊢
          generalize rd l (j : Nat) = xj at bj HN
          by_cases hless : xj < xi
          · have hd1 : decide (xj < xi) = true := ygy hless
            go_wp2
            go_roundg (3 - (j + 1))
            case measure => omega
            case rel => exact ⟨j + 1, by omega, by omega, by go_num, by rw [HN.out, if_pos hless], rfl⟩
          · have hd1 : decide (xj < xi) = false := yhy hless
            go_wp2
            go_roundg (3 - (j + 1))
            case measure => omega
            case rel => exact ⟨j + 1, by omega, by omega, by go_num, by rw [HN.out, if_neg (by omega)], rfl⟩
        · have hltz : ¬ (j : Int) < 3 := by omega
          obtain rfl : j = 3 := by omega
          have hbd := (HL.out.2.2.2 3)
          obtain ⟨hbd1, hbd2⟩ := hbd
          obtain ⟨hi1, hi2⟩ := HI.out
          have HN := zA.mk (show Jg l 4 = Jg l 3 + ZM l 3 3 * 1 from rfl)
          generalize ZM l 3 3 = lv at HN hbd1 hbd2 ⊢
          generalize Jg l 3 = iv at HN hi1 hi2 ⊢
          go_wp2
          go_roundg (4 - 4)
          case measure => omega
          case rel => exact ⟨4, by omega, by omega, by first | rfl | go_num, by rw [HN.out]; rw [Int.mul_one], ⟨by rw [HN.out]; omega⟩, B1, B9, HB⟩
    · have b9 : wr.cell? ⟨w.heap.size + 1, 2, none⟩ = some (.int .i64 1) := (zK B9.out 2).trans rfl
      have b1 : wr.cell? ⟨w.heap.size, 2, none⟩ = some (.int .i64 (rd l (2 : Nat))) := (zK B1.out 2).trans (by rw [← HLL.out]; rfl)
      have hx : sm (rd l (2 : Nat)) := by have := HS.out; exact this.2.2.1
      have HD := zA.mk (show ∀ j : Nat, ZM l 2 (j + 1) = if rd l (j : Nat) < rd l (2 : Nat) then ZM l 2 j - 1 else ZM l 2 j from fun _ => rfl)
      have HD0 := zA.mk (show rd l (2 : Nat) = ZM l 2 0 from rfl)
      generalize rd l (2 : Nat) = xi at b1 HD HD0 hx
      go_wp2_with fail
      go_loopg [6, 22] 2 (fun gg v6 v22 w' => ∃ j : Nat, j ≤ 2 ∧ 2 - j ≤ gg ∧ v22 = .int .i64 j ∧ v6 = .int .i64 (ZM l 2 j) ∧ w' = wr)
      case atStart => exact ⟨0, by omega, by omega, rfl, by rw [HD0.out], rfl⟩
      case round =>
        obtain ⟨j, hj, hg2, rfl, rfl, rfl⟩ := hrel
        by_cases hlt : j < 2
        · have hltz : (j : Int) < 2 := by omega
          have bj : wr.cell? ⟨w.heap.size, j, none⟩ = some (.int .i64 (rd l (j : Nat))) := by
            have := QI B1.out (j : Int) (by omega) (by omega)
            rw [HLL.out, yny] at this
            exact this
          have hbd := (HL.out.2.2.1 j)
          obtain ⟨hbd1, hbd2⟩ := hbd
          have HN := zA.mk (HD.out j)
          generalize ZM l 2 j = lv at HN hbd1 hbd2 ⊢
          generalize rd l (j : Nat) = xj at bj HN
          by_cases hless : xj < xi
          · have hd1 : decide (xj < xi) = true := ygy hless
            go_wp2
            go_roundg (2 - (j + 1))
            case measure => omega
            case rel => exact ⟨j + 1, by omega, by omega, by go_num, by rw [HN.out, if_pos hless], rfl⟩
          · have hd1 : decide (xj < xi) = false := yhy hless
            go_wp2
            go_roundg (2 - (j + 1))
            case measure => omega
            case rel => exact ⟨j + 1, by omega, by omega, by go_num, by rw [HN.out, if_neg (by omega)], rfl⟩
        · have hltz : ¬ (j : Int) < 2 := by omega
          obtain rfl : j = 2 := by omega
          have hbd := (HL.out.2.2.1 2)
          obtain ⟨hbd1, hbd2⟩ := hbd
          obtain ⟨hi1, hi2⟩ := HI.out
          have HN := zA.mk (show Jg l 3 = Jg l 2 + ZM l 2 2 * 1 from rfl)
          generalize ZM l 2 2 = lv at HN hbd1 hbd2 ⊢
          generalize Jg l 2 = iv at HN hi1 hi2 ⊢
          go_wp2
          go_roundg (4 - 3)
          case measure => omega
          case rel => exact ⟨3, by omega, by omega, by first | rfl | go_num, by rw [HN.out]; rw [Int.mul_one], ⟨by rw [HN.out]; omega⟩, B1, B9, HB⟩
    · have b9 : wr.cell? ⟨w.heap.size + 1, 1, none⟩ = some (.int .i64 2) := (zK B9.out 1).trans rfl
      have b1 : wr.cell? ⟨w.heap.size, 1, none⟩ = some (.int .i64 (rd l (1 : Nat))) := (zK B1.out 1).trans (by rw [← HLL.out]; rfl)
      have hx : sm (rd l (1 : Nat)) := by have := HS.out; exact this.2.1
      have HD := zA.mk (show ∀ j : Nat, ZM l 1 (j + 1) = if rd l (j : Nat) < rd l (1 : Nat) then ZM l 1 j - 1 else ZM l 1 j from fun _ => rfl)
      have HD0 := zA.mk (show rd l (1 : Nat) = ZM l 1 0 from rfl)
      generalize rd l (1 : Nat) = xi at b1 HD HD0 hx
      go_wp2_with fail
      go_loopg [6, 22] 1 (fun gg v6 v22 w' => ∃ j : Nat, j ≤ 1 ∧ 1 - j ≤ gg ∧ v22 = .int .i64 j ∧ v6 = .int .i64 (ZM l 1 j) ∧ w' = wr)
      case atStart => exact ⟨0, by omega, by omega, rfl, by rw [HD0.out], rfl⟩
      case round =>
        obtain ⟨j, hj, hg2, rfl, rfl, rfl⟩ := hrel
        by_cases hlt : j < 1
        · have hltz : (j : Int) < 1 := by omega
          have bj : wr.cell? ⟨w.heap.size, j, none⟩ = some (.int .i64 (rd l (j : Nat))) := by
            have := QI B1.out (j : Int) (by omega) (by omega)
            rw [HLL.out, yny] at this
            exact this
          have hbd := (HL.out.2.1 j)
          obtain ⟨hbd1, hbd2⟩ := hbd
          have HN := zA.mk (HD.out j)
          generalize ZM l 1 j = lv at HN hbd1 hbd2 ⊢
          generalize rd l (j : Nat) = xj at bj HN
          by_cases hless : xj < xi
          · have hd1 : decide (xj < xi) = true := ygy hless
            go_wp2
            go_roundg (1 - (j + 1))
            case measure => omega
            case rel => exact ⟨j + 1, by omega, by omega, by go_num, by rw [HN.out, if_pos hless], rfl⟩
          · have hd1 : decide (xj < xi) = false := yhy hless
            go_wp2
            go_roundg (1 - (j + 1))
            case measure => omega
            case rel => exact ⟨j + 1, by omega, by omega, by go_num, by rw [HN.out, if_neg (by omega)], rfl⟩
        · have hltz : ¬ (j : Int) < 1 := by omega
          obtain rfl : j = 1 := by omega
          have hbd := (HL.out.2.1 1)
          obtain ⟨hbd1, hbd2⟩ := hbd
          obtain ⟨hi1, hi2⟩ := HI.out
          have HN := zA.mk (show Jg l 2 = Jg l 1 + ZM l 1 1 * 2 from rfl)
          generalize ZM l 1 1 = lv at HN hbd1 hbd2 ⊢
          generalize Jg l 1 = iv at HN hi1 hi2 ⊢
          go_wp2
          go_roundg (4 - 2)
          case measure => omega
          case rel => exact ⟨2, by omega, by omega, by first | rfl | go_num, by rw [HN.out], ⟨by rw [HN.out]; omega⟩, B1, B9, HB⟩
    · have b9 : wr.cell? ⟨w.heap.size + 1, 0, none⟩ = some (.int .i64 6) := (zK B9.out 0).trans rfl
      have b1 : wr.cell? ⟨w.heap.size, 0, none⟩ = some (.int .i64 (rd l (0 : Nat))) := (zK B1.out 0).trans (by rw [← HLL.out]; rfl)
      have hx : sm (rd l (0 : Nat)) := by have := HS.out; exact this.1
      have HD := zA.mk (show ∀ j : Nat, ZM l 0 (j + 1) = if rd l (j : Nat) < rd l (0 : Nat) then ZM l 0 j - 1 else ZM l 0 j from fun _ => rfl)
      have HD0 := zA.mk (show rd l (0 : Nat) = ZM l 0 0 from rfl)
      generalize rd l (0 : Nat) = xi at b1 HD HD0 hx
      go_wp2_with fail
      go_loopg [6, 22] 0 (fun gg v6 v22 w' => ∃ j : Nat, j ≤ 0 ∧ 0 - j ≤ gg ∧ v22 = .int .i64 j ∧ v6 = .int .i64 (ZM l 0 j) ∧ w' = wr)
      case atStart => exact ⟨0, by omega, by omega, rfl, by rw [HD0.out], rfl⟩
      case round =>
        obtain ⟨j, hj, hg2, rfl, rfl, rfl⟩ := hrel
        by_cases hlt : j < 0
        · have hltz : (j : Int) < 0 := by omega
          have bj : wr.cell? ⟨w.heap.size, j, none⟩ = some (.int .i64 (rd l (j : Nat))) := by
            have := QI B1.out (j : Int) (by omega) (by omega)
            rw [HLL.out, yny] at this
            exact this
          have hbd := (HL.out.1 j)
          obtain ⟨hbd1, hbd2⟩ := hbd
          have HN := zA.mk (HD.out j)
          generalize ZM l 0 j = lv at HN hbd1 hbd2 ⊢
          generalize rd l (j : Nat) = xj at bj HN
          by_cases hless : xj < xi
          · have hd1 : decide (xj < xi) = true := ygy hless
            go_wp2
            go_roundg (0 - (j + 1))
            case measure => omega
            case rel => exact ⟨j + 1, by omega, by omega, by go_num, by rw [HN.out, if_pos hless], rfl⟩
          · have hd1 : decide (xj < xi) = false := yhy hless
            go_wp2
            go_roundg (0 - (j + 1))
            case measure => omega
            case rel => exact ⟨j + 1, by omega, by omega, by go_num, by rw [HN.out, if_neg (by omega)], rfl⟩
        · have hltz : ¬ (j : Int) < 0 := by omega
          obtain rfl : j = 0 := by omega
          have hbd := (HL.out.1 0)
          obtain ⟨hbd1, hbd2⟩ := hbd
          obtain ⟨hi1, hi2⟩ := HI.out
          have HN := zA.mk (show Jg l 1 = Jg l 0 + ZM l 0 0 * 6 from rfl)
          generalize ZM l 0 0 = lv at HN hbd1 hbd2 ⊢
          generalize Jg l 0 = iv at HN hi1 hi2 ⊢
          go_wp2
          go_roundg (4 - 1)
          case measure => omega
          case rel => exact ⟨1, by omega, by omega, by first | rfl | go_num, by rw [HN.out], ⟨by rw [HN.out]; omega⟩, B1, B9, HB⟩
def zE2 (p : Int → Bool) : Nat → List Int → Int
  | _, [] => -1
  | i, x :: xs => if p x = true then (i : Int) else zE2 p (i + 1) xs
theorem zBS (p : Int → Bool) : ∀ (l : List Int) (i : Nat), (zE2 p i l = -1 ∧ ∀ x ∈ l, p x = false) ∨ ∃ k, k < l.length ∧ zE2 p i l = ((i + k : Nat) : Int) ∧ (∀ h : k < l.length, p l[k] = true) ∧ ∀ x ∈ l.take k, p x = false
  | [], _ => .inl ⟨rfl, fun x hx => by cases hx⟩
  | x :: xs, i => by
    cases hp : p x with
    | true => exact .inr ⟨0, by simp, by rw [zE2, hp, if_pos rfl]; rfl, fun _ => hp, fun y hy => by simp at hy⟩
    | false =>
      rcases zBS p xs (i + 1) with ⟨h1, h2⟩ | ⟨k, h1, h2, h3, h4⟩
      · refine .inl ⟨by rw [zE2, hp, if_neg (by simp)]; exact h1, fun y hy => ?_⟩
        rcases List.mem_cons.1 hy with rfl | hy
        · exact hp
        · exact h2 y hy
      · refine .inr ⟨k + 1, by simp; omega, by rw [zE2, hp, if_neg (by simp), h2]; congr 1; omega, fun h => h3 (by simpa using h), fun y hy => ?_⟩
        rw [List.take_succ_cons] at hy
        rcases List.mem_cons.1 hy with rfl | hy
        · exact hp
        · exact h4 y hy
theorem zCZ {e B g n cap : Nat} {ok : Nat → Prop} {w0 : World} : ∀ (m i : Nat) (w : World) (dk : List Int), Kd.R (Kd.int .i64) e w B ok (.slice (some ⟨g, 0, none⟩) n cap) dk → B ≤ g → Below B w0 w →
    ∃ dk', Kd.R (Kd.int .i64) e (w.setCells g i (List.replicate m (.int .i64 0))) B ok (.slice (some ⟨g, 0, none⟩) n cap) dk' ∧ dk'.take i = dk.take i ∧ dk'.length = dk.length ∧ Below B w0 (w.setCells g i (List.replicate m (.int .i64 0)))
  | 0, i, w, dk, h, _, hb => ⟨dk, h, rfl, rfl, hb⟩
  | m + 1, i, w, dk, h, hg, hb => by
    have hn : n = dk.length := (Kd.zx h).1
    subst hn
    have h1 := (Kd.JZ h (i : Int) 0).1
    rw [yny] at h1
    have e1 : (.slice (some ⟨g, 0, none⟩) dk.length cap : Value) = .slice (some ⟨g, 0, none⟩) (dk.set i 0).length cap := by rw [List.length_set]
    rw [e1] at h1
    obtain ⟨dk', h2, h3, h4, h5⟩ := zCZ m (i + 1) _ _ h1 hg (hb.setCell (p := ⟨g, i, none⟩) hg (.int .i64 0))
    rw [← e1] at h2
    refine ⟨dk', h2, ?_, by rw [h4, List.length_set], h5⟩
    have := congrArg (List.take i) h3
    rw [List.take_take, List.take_take, Nat.min_eq_left (by omega)] at this
    rw [this, List.take_set_of_le (yqy i)]
structure Jc (p : Int → Bool) (xs dk : List Int) (i j : Nat) : Prop where
  lt : i < j
  le : j ≤ xs.length
  len : dk.length = xs.length
  done : dk.take i = (xs.take j).filter fun x => !p x
  left : dk.drop j = xs.drop j
theorem Jc.start {p : Int → Bool} {xs : List Int} {k : Nat} (h1 : k < xs.length) (h3 : p xs[k] = true) (h4 : ∀ x ∈ xs.take k, p x = false) : Jc p xs xs k (k + 1) := by
  refine ⟨by omega, by omega, rfl, ?_, rfl⟩
  rw [List.take_succ_eq_append_getElem h1, List.filter_append]
  have e1 : (xs.take k).filter (fun x => !p x) = xs.take k := List.filter_eq_self.2 (fun x hx => by rw [h4 x hx]; rfl)
  rw [e1]; simp [h3]
theorem Jc.get {p : Int → Bool} {xs dk : List Int} {i j : Nat} (h : Jc p xs dk i j) (hj : j < xs.length) : rd dk (j : Int) = xs[j] := by
  have h1 : dk[j]? = xs[j]? := by
    have := congrArg (fun l => l[0]?) h.left
    simpa [List.getElem?_drop] using this
  have h2 : j < dk.length := by rw [h.len]; exact hj
  simp [rd, List.getD_eq_getElem?_getD, h1, hj]
theorem Jc.keep {p : Int → Bool} {xs dk : List Int} {i j : Nat} (h : Jc p xs dk i j) (hj : j < xs.length) (hp : p xs[j] = false) : Jc p xs (dk.set i xs[j]) (i + 1) (j + 1) := by
  have hi : i < dk.length := by have := h.lt; have := h.len; omega
  refine ⟨by have := h.lt; omega, by omega, by rw [List.length_set]; exact h.len, ?_, ?_⟩
  · rw [List.take_succ_eq_append_getElem (by rw [List.length_set]; exact hi), List.take_set_of_le (yqy i), h.done, List.take_succ_eq_append_getElem hj, List.filter_append]
    simp [hp]
  · rw [List.drop_set_of_lt (by have := h.lt; omega), ← List.drop_drop, h.left, List.drop_drop]
theorem Jc.skip {p : Int → Bool} {xs dk : List Int} {i j : Nat} (h : Jc p xs dk i j) (hj : j < xs.length) (hp : p xs[j] = true) : Jc p xs dk i (j + 1) := by
  refine ⟨by have := h.lt; omega, by omega, h.len, ?_, ?_⟩
  · rw [h.done, List.take_succ_eq_append_getElem hj, List.filter_append]
    simp [hp]
  · rw [← List.drop_drop, h.left, List.drop_drop]
set_option maxHeartbeats 8000000 in
set_option maxRecDepth 100000 in
theorem JU.calls (p : Int → Bool) (k1_ : Value) (A0 : Option Addr) (c0 : Nat) (l0 : List Int) (w : World) (hr0 : Kd.C (Kd.int .i64) w A0 l0.length l0)
    (hp : ∀ (W : World) (x : Int), x ∈ l0 → Below w.heap.size w W → Calls Try.prog 124 #[.int .i64 x, k1_] W fun e W' => e = .returned (.bool (p x)) ∧ Below W.heap.size W W') :
    Calls Try.prog 122 #[.slice A0 l0.length c0, .func (.func 124) #[] #[k1_]] w fun e w' => e = .returned (.int .i64 (zE2 p 0 l0)) ∧ Below w.heap.size w w' := by
  have HR0 := zA.mk hr0
  have HP := zA.mk hp
  clear hr0 hp
  have hbig : l0.length ≤ 9223372036854775807 := HR0.out.2.1
  have HB := zA.mk (yry w.heap.size w)
  have H' : zA (zE2 p 0 (l0.drop 0) = zE2 p 0 l0) := ⟨by rw [List.drop_zero]⟩
  generalize zE2 p 0 l0 = r at H' ⊢
  go_enter Try.func122, Try.ntmps122
  go_wp2
  go_loopg [5, 8] l0.length (fun gg v5 v8 w' => ∃ kk : Nat, kk ≤ l0.length ∧ l0.length - kk ≤ gg ∧ v8 = .int .i64 kk ∧ zA (zE2 p kk (l0.drop kk) = r) ∧ zA (Below w.heap.size w w'))
  case atStart => exact ⟨0, Nat.zero_le _, by omega, rfl, H', HB⟩
  case round =>
    clear H' HB
    obtain ⟨kk, hkk, hg, rfl, HA, HB⟩ := hrel
    by_cases hlt : kk < l0.length
    · have hltz : (kk : Int) < (l0.length : Int) := by omega
      have H := HA.out
      clear HA
      rw [yoy hlt, zE2] at H
      obtain ⟨ad, e104, hx⟩ := Kd.ZK HR0.out (kk : Int) (by omega) (by omega)
      have ex : rd l0 (kk : Int) = l0[kk] := by simp [rd, hlt]
      rw [ex, yny] at hx
      replace hx := (HB.out.cell (ypy w _ hx)).trans hx
      have HC := zA.mk (HP.out wr l0[kk] (List.getElem_mem hlt) HB.out)
      generalize l0[kk] = y at hx H HC
      clear ex
      cases e104
      cases hq : p y with
      | true =>
        rw [hq] at HC H
        rw [if_pos rfl] at H
        have H2 := zA.mk H
        clear H
        go_wp2_with fail
        refine HC.out.mono ?_
        rintro e w' ⟨rfl, hd⟩
        have HB2 := zA.mk (zM HB.out hd)
        clear hd HB HC
        go_wp2
        go_ret
        exact ⟨by rw [← H2.out]; rfl, HB2.out⟩
      | false =>
        rw [hq] at HC H
        rw [if_neg (by simp)] at H
        have H2 := zA.mk H
        clear H
        go_wp2_with fail
        refine HC.out.mono ?_
        rintro e w' ⟨rfl, hd⟩
        have HB2 := zA.mk (zM HB.out hd)
        clear hd HB HC
        go_wp2
        go_roundg (l0.length - (kk + 1))
        case measure => omega
        case rel => exact ⟨kk + 1, by omega, by omega, by go_num, H2, HB2⟩
    · have hltz : ¬ (kk : Int) < (l0.length : Int) := by omega
      have e : kk = l0.length := by omega
      subst e
      have H2 := zA.mk (show (-1 : Int) = r by have := HA.out; rwa [List.drop_length, zE2] at this)
      clear HA
      go_wp2
      go_ret
      exact ⟨by rw [← H2.out]; rfl, HB.out⟩
set_option maxHeartbeats 8000000 in
set_option maxRecDepth 100000 in
theorem JM.calls (p : Int → Bool) (k1_ : Value) (g cap B : Nat) (ok : Nat → Prop) (xs : List Int) (w : World) (hR : Kd.R (Kd.int .i64) 2 w B ok (.slice (some ⟨g, 0, none⟩) xs.length cap) xs)
    (hp : ∀ (W : World) (x : Int), x ∈ xs → Below B w W → Calls Try.prog 124 #[.int .i64 x, k1_] W fun e W' => e = .returned (.bool (p x)) ∧ Below W.heap.size W W') :
    Calls Try.prog 123 #[.slice (some ⟨g, 0, none⟩) xs.length cap, .func (.func 124) #[] #[k1_]] w fun e w' => ∃ v', e = .returned v' ∧ Kd.R (Kd.int .i64) 2 w' B ok v' (xs.filter fun x => !p x) ∧ Below B w w' := by
  have hgB : B ≤ g := Kd.Zh hR g (by simp [Value.ownBlock])
  have hgW : g < w.heap.size := Kd.JC hR g (by simp [Value.ownBlock])
  have hcap : xs.length ≤ cap := (Kd.zx hR).2.1
  have hbig : xs.length ≤ 9223372036854775807 := Kd.zFJ (Kd.zx hR).2.2
  have HIX := zA.mk (JU.calls p k1_ (some ⟨g, 0, none⟩) cap xs w (Kd.zx hR).2.2 (fun W x hx hb => hp W x hx (hb.mono (by omega))))
  have HR := zA.mk hR
  have HP := zA.mk hp
  have HG := zA.mk (And.intro hgB hgW)
  clear hR hp hgB hgW
  rcases zBS p xs 0 with ⟨h1, h2⟩ | ⟨k, h1, h2, h3, h4⟩
  · rw [h1] at HIX
    have e1 : xs.filter (fun x => !p x) = xs := List.filter_eq_self.2 (fun x hx => by rw [h2 x hx]; rfl)
    rw [e1]
    clear h1 h2 e1 HP
    go_enter Try.func123, Try.ntmps123
    go_wp2_with fail
    refine HIX.out.mono ?_
    rintro e w' ⟨rfl, hd⟩
    have HB := zA.mk (hd.mono (show B ≤ w.heap.size by have := HG.out; omega))
    have HR2 := zA.mk (Kd.qM HR.out hd)
    clear hd HIX HR
    go_wp2
    go_ret
    exact ⟨_, rfl, HR2.out, HB.out⟩
  · rw [h2, Nat.zero_add] at HIX
    have HK0 := zA.mk (Jc.start h1 (h3 h1) h4)
    have hk9 : k < xs.length := h1
    have hne : ((k : Int) == -1) = false := beq_eq_false_iff_ne.2 (by omega)
    clear h2 h3 h4 h1
    go_enter Try.func123, Try.ntmps123
    go_wp2_with fail
    refine HIX.out.mono ?_
    rintro e w1 ⟨rfl, hd⟩
    have HB := zA.mk (hd.mono (show B ≤ w.heap.size by have := HG.out; omega))
    have HR2 := zA.mk (Kd.qM HR.out hd)
    clear hd HIX HR
    go_wp2
    clear hne
    go_loopg [5, 6, 7] xs.length (fun gg s5 s6 _ wr => ∃ (i j : Nat) (dk : List Int), s5 = .int .i64 i ∧ s6 = .int .i64 j ∧ xs.length - j ≤ gg ∧ zA (Jc p xs dk i j) ∧ zA (Kd.R (Kd.int .i64) 2 wr B ok (.slice (some ⟨g, 0, none⟩) xs.length cap) dk) ∧ zA (Below B w wr))
    case atStart => exact ⟨k, k + 1, xs, rfl, by go_num, by omega, HK0, HR2, HB⟩
    case round =>
      clear HK0 HR2 HB hk9
      obtain ⟨i, j, dk, rfl, rfl, hgg, HK, HR, HB⟩ := hrel
      have hij := HK.out.lt
      have hjl := HK.out.le
      have hdl := HK.out.len
      by_cases hlt : j < xs.length
      · have hltz : (j : Int) < (xs.length : Int) := by omega
        have hr2 := HR.out
        rw [← hdl] at hr2
        obtain ⟨cj, _⟩ := Kd.ZV 0 hr2 (j : Int) (by omega) (by omega)
        obtain ⟨ci, fi⟩ := Kd.ZV 0 hr2 (i : Int) (by omega) (by omega)
        replace cj : wr.cell? ⟨g, j, none⟩ = some (.int .i64 (rd dk (j : Int))) := cj
        replace ci : wr.cell? ⟨g, i, none⟩ = some (.int .i64 (rd dk (i : Int))) := ci
        replace fi : wr.frozen? ⟨g, i, none⟩ = false := fi
        rw [HK.out.get hlt] at cj
        have HC := zA.mk (HP.out wr xs[j] (List.getElem_mem hlt) HB.out)
        generalize hu : xs[j] = u at cj HC
        have HU := zA.mk hu
        generalize rd dk (i : Int) = old at ci
        clear hu hr2
        cases hq : p u with
        | false =>
          rw [hq] at HC
          go_wp2_with fail
          refine HC.out.mono ?_
          rintro e w2 ⟨rfl, hd⟩
          have HB2 := zA.mk (HB.out.trans (hd.mono (show B ≤ wr.heap.size by have := HB.out.size; have := HG.out; omega)))
          have hr3 := Kd.qM HR.out hd
          rw [← hdl] at hr3
          have HR3 := zA.mk (Kd.JZ hr3 (i : Int) u).1
          rw [yny] at HR3
          have ci2 := (hd.cell (ypy wr _ ci)).trans ci
          have fi2 := (hd.frozen (ypy wr _ ci)).trans fi
          clear hd HB HC cj ci fi hr3 HR
          go_wp2
          go_roundg (xs.length - (j + 1))
          case measure => omega
          case rel => exact ⟨i + 1, j + 1, dk.set i u, by go_num, by go_num, by omega, ⟨by have := HK.out.keep hlt (by rw [HU.out]; exact hq); rwa [HU.out] at this⟩, ⟨by rw [← hdl]; exact HR3.out⟩, ⟨HB2.out.setCell (p := ⟨g, i, none⟩) HG.out.1 _⟩⟩
        | true =>
          rw [hq] at HC
          go_wp2_with fail
          refine HC.out.mono ?_
          rintro e w2 ⟨rfl, hd⟩
          have HB2 := zA.mk (HB.out.trans (hd.mono (show B ≤ wr.heap.size by have := HB.out.size; have := HG.out; omega)))
          have HR3 := zA.mk (Kd.qM HR.out hd)
          clear hd HB HC cj ci fi HR
          go_wp2
          go_roundg (xs.length - (j + 1))
          case measure => omega
          case rel => exact ⟨i, j + 1, dk, rfl, by go_num, by omega, ⟨HK.out.skip hlt (by rw [HU.out]; exact hq)⟩, HR3, HB2⟩
      · obtain rfl : j = xs.length := by omega
        have hltz : ¬ (xs.length : Int) < (xs.length : Int) := by omega
        have hr2 := HR.out
        rw [← hdl] at hr2
        have hcl : ∀ ty, (Builtin.clear_ #[22] ty #[.slice (some ⟨g, i, none⟩) (xs.length - i) (cap - i)]).run Try.prog wr = .ok (.tuple #[]) (wr.setCells g i (List.replicate (xs.length - i) (.int .i64 0))) :=
          fun ty => Lib.run_clear_slice wr _ _ ty _ Try.underlying22 (fun w => Try.zeroValue2 w) rfl rfl g i _ _ (by omega) (fun t ht => by have q : wr.cell? ⟨g, i + t, none⟩ = some (.int .i64 (rd dk ((i + t : Nat) : Int))) := (Kd.ZV 0 hr2 ((i + t : Nat) : Int) (by omega) (by omega)).1; rw [q]; rfl) (fun t ht => (Kd.ZV 0 hr2 ((i + t : Nat) : Int) (by omega) (by omega)).2)
        obtain ⟨dk', q1, q2, q3, q4⟩ := zCZ (xs.length - i) i wr dk HR.out HG.out.1 HB.out
        have q5 := Kd.R_take (m := i) q1 (by omega)
        have q6 : dk'.take i = xs.filter fun x => !p x := by rw [q2, HK.out.done, List.take_length]
        rw [q6] at q5
        have Q5 := zA.mk q5
        have Q4 := zA.mk q4
        clear q1 q2 q3 q4 q5 q6 hr2 HR HB HP HK hdl
        go_wp2
        go_ret
        exact ⟨_, rfl, Q5.out, Q4.out⟩
def qI.l0 : Nat → List Int → Int → Int → Int → Option (Int)
  | 0, _, _, _, _ => none
  | k + 1, x0, x1, x7, x8 => if x8 < x7 then (if 0 ≤ x8 then (if x8 < (x0.length : Int) then (if x1 = (rd x0 x8) then (some x8) else (qI.l0 k x0 x1 x7 (wrap64 (x8 + 1)))) else (none)) else (none)) else (some (-1))
def qI.f (k : Nat) (l0 : List Int) (a1 : Int) : Option (Int) := qI.l0 k l0 a1 (l0.length : Int) 0
set_option maxHeartbeats 8000000 in
set_option maxRecDepth 100000 in
theorem qI.calls (k : Nat) (A0 : Option Addr) (c0 : Nat) (l0 : List Int) (a1 : Int) (r : Int) (w : World) (hr0 : Kd.C (Kd.int .i64) w A0 l0.length l0) (hc0 : l0.length ≤ c0) (h : qI.f k l0 a1 = some r) :
    Calls Try.prog 132 #[.slice A0 l0.length c0, .int .i64 a1] w fun e w' => e = .returned (.int .i64 r) ∧ qJ w w' := by
  have HR0 := zA.mk hr0
  have HC0 := zA.mk hc0
  clear hr0 hc0
  have H : (qI.l0 k l0 a1 (l0.length : Int) 0) = some r := h
  clear h
  have H' := zA.mk H
  clear H
  go_enter Try.func132, Try.ntmps132
  go_wp2
  go_loopg [8] k (fun kq v8 w' => ∃ (x8_1 : Int), v8 = .int .i64 x8_1 ∧ zA (qI.l0 kq l0 a1 (l0.length : Int) x8_1 = some r) ∧ zA (kq ≤ k) ∧ qJ w w')
  case atStart => exact ⟨(0), (by first | rfl | (simp; done) | (simp [*]; done)), H', ⟨yqy _⟩, by repeat (first | exact qJ.refl _ | apply qJ.step)⟩
  case round =>
    clear H'
    try clear c1
    try clear p2
    obtain ⟨x8_1, rfl, HA, HK1, ⟨m1, rfl⟩⟩ := hrel
    cases gk with
    | zero => exact absurd HA.out (by simp [qI.l0])
    | succ k1 =>
      have H := HA.out
      clear HA
      simp only [qI.l0] at H
      by_cases c3 : x8_1 < (l0.length : Int)
      · rw [if_pos c3] at H
        have c3b0 : decide (x8_1 < (l0.length : Int)) = true := ygy c3
        clear c3
        by_cases c4 : 0 ≤ x8_1
        · rw [if_pos c4] at H
          have c4b0 : decide (0 ≤ x8_1) = true := ygy c4
          clear c4
          by_cases c5 : x8_1 < (l0.length : Int)
          · rw [if_pos c5] at H
            have c5b0 : decide (x8_1 < (l0.length : Int)) = true := ygy c5
            clear c5
            by_cases c6 : a1 = (rd l0 x8_1)
            · rw [if_pos c6] at H
              have c6b0 : (a1 == (rd l0 x8_1)) = true := beq_iff_eq.mpr c6
              have c6b1 : (a1 != (rd l0 x8_1)) = false := bne_eq_false_iff_eq.mpr c6
              clear c6
              obtain rfl := yey H
              have p101 : 0 ≤ (x8_1 : Int) := of_decide_eq_true (by first | (with_reducible assumption) | assumption)
              have q101 : x8_1 < (l0.length : Int) := of_decide_eq_true (by first | (with_reducible assumption) | assumption)
              obtain ⟨ad101, e101, hx101_0⟩ := Kd.ZK HR0.out x8_1 p101 q101
              cases e101
              replace p101 := eq_true p101
              replace q101 := eq_true q101
              go_wp2
              go_ret
              exact ⟨by first | rfl | (simp; done) | (simp [*]; done), by repeat (first | exact qJ.refl _ | apply qJ.step)⟩
            · rw [if_neg c6] at H
              have c6b0 : (a1 == (rd l0 x8_1)) = false := beq_eq_false_iff_ne.mpr c6
              have c6b1 : (a1 != (rd l0 x8_1)) = true := bne_iff_ne.mpr c6
              have H' := zA.mk H
              clear H
              have p101 : 0 ≤ (x8_1 : Int) := of_decide_eq_true (by first | (with_reducible assumption) | assumption)
              have q101 : x8_1 < (l0.length : Int) := of_decide_eq_true (by first | (with_reducible assumption) | assumption)
              obtain ⟨ad101, e101, hx101_0⟩ := Kd.ZK HR0.out x8_1 p101 q101
              cases e101
              replace p101 := eq_true p101
              replace q101 := eq_true q101
              go_wp2
              go_roundg k1
              case measure => have := HK1.out; omega
              case rel => exact ⟨(wrap64 (x8_1 + 1)), (by first | rfl | (simp; done) | (simp [*]; done)), H', ⟨by have := HK1.out; omega⟩, by repeat (first | exact qJ.refl _ | apply qJ.step)⟩
          · rw [if_neg c5] at H
            exact absurd H (by simp)
        · rw [if_neg c4] at H
          exact absurd H (by simp)
      · rw [if_neg c3] at H
        have c3b0 : decide (x8_1 < (l0.length : Int)) = false := yhy c3
        clear c3
        obtain rfl := yey H
        go_wp2
        go_ret
        exact ⟨by first | rfl | (simp; done) | (simp [*]; done), by repeat (first | exact qJ.refl _ | apply qJ.step)⟩
def ZP.f (k : Nat) (l0 : List Int) (a1 : Int) : Option (Bool) := (qI.f k l0 a1).bind fun t101 => (some (decide (t101 ≥ 0)))
set_option maxHeartbeats 8000000 in
set_option maxRecDepth 100000 in
theorem ZP.calls (k : Nat) (A0 : Option Addr) (c0 : Nat) (l0 : List Int) (a1 : Int) (r : Bool) (w : World) (hr0 : Kd.C (Kd.int .i64) w A0 l0.length l0) (hc0 : l0.length ≤ c0) (h : ZP.f k l0 a1 = some r) :
    Calls Try.prog 125 #[.slice A0 l0.length c0, .int .i64 a1] w fun e w' => e = .returned (.bool r) ∧ qJ w w' := by
  have HR0 := zA.mk hr0
  have HC0 := zA.mk hc0
  clear hr0 hc0
  have H : ((qI.f k l0 a1).bind fun t101 => (some (decide (t101 ≥ 0)))) = some r := h
  clear h
  replace H := ydy.mp H
  obtain ⟨t101, A30, H⟩ := H
  replace H : (some (decide (t101 ≥ 0))) = some r := H
  have A3 := zA.mk A30
  clear A30
  obtain rfl := yey H
  go_enter Try.func125, Try.ntmps125
  go_wp2_with (first | ((with_reducible refine za (f := 132) rfl ?_); refine qL (some 7) rfl rfl Try.func132 (by kernel_rfl) rfl #[.slice A0 l0.length c0, .int .i64 a1] rfl (by (try simp only [yiy, yjy, yky]); first | done | rfl | (simp only [yly, ymy]; rfl)) ?_; (with_reducible refine (qI.calls k _ _ l0 a1 t101 _ ?side1 ?side2 A3.out).mono ?_); (case side1 => repeat (first | exact HR0.out | (with_reducible refine Kd.zu ?_ _) | (with_reducible refine Kd.zw ?_ _) | (with_reducible refine Kd.qK ?_))); (case side2 => exact HC0.out); rintro e w' ⟨rfl, ⟨nd, rfl⟩⟩; refine ⟨_, rfl, ?_⟩))
  go_ret
  exact ⟨by first | rfl | (simp; done) | (simp [*]; done), by repeat (first | exact qJ.refl _ | apply qJ.step)⟩
def zB6 (l0 : List Int) : List Int := [0, 1, 2, 3].filter fun x => !l0.contains x
def Qy.f (l0 : List Int) : Option (List Int) := some (zB6 l0)
theorem zDd (l : List Int) (x : Int) (hl : l.length ≤ 9223372036854775807) : ∀ (d n : Nat), n + d = l.length → ∃ r, qI.l0 (d + 1) l x (l.length : Int) (n : Int) = some r ∧ decide (r ≥ 0) = (l.drop n).contains x
  | 0, n, h => ⟨-1, by rw [qI.l0, if_neg (by omega)], by rw [List.drop_eq_nil_of_le (by omega)]; rfl⟩
  | d + 1, n, h => by
    have hlt : n < l.length := by omega
    obtain ⟨r, h1, h2⟩ := zDd l x hl d (n + 1) (by omega)
    have ex : rd l (n : Int) = l[n] := by simp [rd, hlt]
    rw [qI.l0, if_pos (by omega), if_pos (by omega), if_pos (by omega), ex, yoy hlt, List.contains_cons]
    by_cases c : x = l[n]
    · exact ⟨n, by rw [if_pos c], by rw [← c]; simp⟩
    · refine ⟨r, ?_, ?_⟩
      · rw [if_neg c, ← h1]; congr 1; unfold wrap64; omega
      · rw [h2]
        have : (x == l[n]) = false := by simpa using c
        rw [this, Bool.false_or]
theorem contains_eq (l : List Int) (x : Int) (hl : l.length ≤ 9223372036854775807) : ZP.f (l.length + 1) l x = some (l.contains x) := by
  obtain ⟨r, h1, h2⟩ := zDd l x hl l.length 0 (by omega)
  have h3 : qI.f (l.length + 1) l x = some r := h1
  unfold ZP.f
  rw [h3, yfy, h2, List.drop_zero]
set_option maxHeartbeats 8000000 in
set_option maxRecDepth 100000 in
theorem zBx.calls (A0 : Option Addr) (c0 gb : Nat) (l0 : List Int) (x : Int) (w : World) (hb : w.heap[gb]? = some (.cells #[.slice A0 l0.length c0] 22 (0, 0))) (hC : Kd.C (Kd.int .i64) w A0 l0.length l0) (hc : l0.length ≤ c0) :
    Calls Try.prog 124 #[.int .i64 x, .pointer (some ⟨gb, 0, none⟩)] w fun e w' => e = .returned (.bool (l0.contains x)) ∧ Below w.heap.size w w' := by
  have hx : w.cell? ⟨gb, 0, none⟩ = some (.slice A0 l0.length c0) := (zK hb 0).trans rfl
  have HCC := zA.mk (contains_eq l0 x hC.2.1)
  have HC := zA.mk hC
  have HL := zA.mk hc
  clear hb hC hc
  generalize l0.contains x = b at HCC ⊢
  go_enter Try.func124, Try.ntmps124
  go_wp2_with fail
  refine (ZP.calls _ A0 c0 l0 x b _ HC.out HL.out HCC.out).mono ?_
  rintro e w' ⟨rfl, hd⟩
  have HB := zA.mk (qJ.below hd)
  clear hd
  go_wp2
  go_ret
  exact ⟨rfl, HB.out⟩
theorem zBy : qd.f 10 4 = some [0, 1, 2, 3] := by decide +kernel
set_option maxHeartbeats 8000000 in
set_option maxRecDepth 100000 in
theorem Qy.calls (A0 : Option Addr) (c0 : Nat) (l0 : List Int) (r : List Int) (w : World) (hr0 : Kd.C (Kd.int .i64) w A0 l0.length l0) (hc0 : l0.length ≤ c0) (h : Qy.f l0 = some r) :
    Calls Try.prog 96 #[.slice A0 l0.length c0] w fun e w' => ∃ v0_ : Value, e = .returned (v0_) ∧ Kd.R (Kd.int .i64) 2 w' w.heap.size (fun _ => True) v0_ r ∧ Below w.heap.size w w' := by
  have hr : zB6 l0 = r := yey h
  subst hr
  clear h
  have HR := zA.mk hr0
  have HC := zA.mk hc0
  clear hr0 hc0
  go_enter Try.func96, Try.ntmps96
  have BB := zA.mk (Zb (W := w) rfl (.cells #[.slice A0 l0.length c0] 22))
  have HB := zA.mk (zC (yry w.heap.size w) (.cells #[.slice A0 l0.length c0] 22))
  have HS := zA.mk (show (w.alloc (.cells #[.slice A0 l0.length c0] 22)).heap.size = w.heap.size + 1 by simp)
  go_wp2_with fail
  refine (qd.calls 10 4 [0, 1, 2, 3] _ zBy).mono ?_
  rintro e w1 ⟨v1, rfl, ho, hb⟩
  obtain ⟨g, cap, rfl, hg1, hg2, _⟩ := Kd.JY ho (by decide)
  have BB1 := zA.mk (zP BB.out hb)
  have HB1 := zA.mk (zM HB.out hb)
  rw [HS.out] at ho hg1
  have HO := zA.mk ho
  have HG := zA.mk hg1
  clear ho hb hg1 hg2 BB HB HS
  go_wp2_with fail
  refine (JM.calls (fun x => l0.contains x) (.pointer (some ⟨w.heap.size, 0, none⟩)) g cap (w.heap.size + 1) (fun _ => True) [0, 1, 2, 3] _ HO.out (fun W x _ hb => zBx.calls A0 c0 w.heap.size l0 x W ((hb.block w.heap.size (by omega)).trans BB1.out) (Kd.qG HR.out (HB1.out.trans (hb.mono (by omega)))) HC.out)).mono ?_
  rintro e w2 ⟨v2, rfl, ho, hb⟩
  have HO2 := zA.mk (Kd.ZB ho (show w.heap.size ≤ w.heap.size + 1 by omega))
  have HB2 := zA.mk (HB1.out.trans (hb.mono (show w.heap.size ≤ w.heap.size + 1 by omega)))
  clear ho hb HO HB1 BB1
  go_wp2
  go_ret
  exact ⟨_, rfl, HO2.out, HB2.out⟩
theorem zAV {f c : Int} (h : c ∈ zB6 [f]) : sm c ∧ c ≠ f := by
  unfold zB6 at h
  obtain ⟨h1, h2⟩ := List.mem_filter.1 h
  refine ⟨?_, fun e => by simp [e] at h2⟩
  simp only [List.mem_cons, List.not_mem_nil, or_false] at h1
  unfold sm; omega
theorem zEi {f : Int} (h : sm f) : (zB6 [f]).length = 3 := by
  obtain ⟨h0, h1⟩ := h
  rcases (show f = 0 ∨ f = 1 ∨ f = 2 ∨ f = 3 by omega) with rfl | rfl | rfl | rfl <;> decide
theorem wid_ {x : Int} (h0 : -9223372036854775808 ≤ x) (h1 : x ≤ 9223372036854775807) : wrap64 x = x := by unfold wrap64; omega
theorem zFb {w : World} {g : Nat} {T : TypeId} {a b c d e f : Int} (h : w.heap[g]? = some (.cells #[.int .i64 a, .int .i64 b, .int .i64 c, .int .i64 d] T (0, 0))) (h0 : 0 ≤ f) (h1 : f ≤ 3) (he : rd [a, b, c, d] f = e) : w.cell? ⟨g, f.toNat, none⟩ = some (.int .i64 e) := by
  rw [QI h f h0 h1, he]
theorem zB7 (n : Nat) (hn : n ≤ 1000000) : ∀ (d i : Nat) (xs : List Int), i + d = n → xs.length = i → qd.l0 (d + 1) xs (n : Int) (i : Int) = some (xs ++ Lib.ZU (i : Int) d)
  | 0, i, xs, h, hl => by rw [qd.l0, if_neg (by omega)]; simp [Lib.ZU]
  | d + 1, i, xs, h, hl => by
    have e1 : wrap64 ((i : Int) + 1) = ((i + 1 : Nat) : Int) := by rw [wid_ (by omega) (by omega)]; rfl
    rw [qd.l0, if_pos (by omega), if_pos (by omega), e1, zB7 n hn d (i + 1) _ (by omega) (by simp [hl]), Lib.ZU, List.append_assoc]
    rfl
theorem zD6 (n : Nat) (hn : n ≤ 1000000) : qd.f (n + 1) (n : Int) = some (Lib.ZU 0 n) := by
  have h := zB7 n hn n 0 [] (by omega) rfl
  exact h
def zE3 (l : List (List qA)) : Prop := l.length ≤ 8 ∧ (∀ r ∈ l, r.length ≤ 4) ∧ ∀ r ∈ l, ∀ x ∈ r, ¬ x.f0 < 0 → x.f0 < (l.length : Int) ∧ 0 ≤ x.f1 ∧ x.f1 ≤ 23
instance (l : List (List qA)) : Decidable (zE3 l) := by unfold zE3; infer_instance
def Qq.f (l : List Int) (i k : Int) : Option (List Int) := if 0 ≤ i ∧ i < l.length ∧ 0 ≤ k ∧ k < l.length then some (Lib.uni l i k) else none
theorem zFc {G : Int → Int} {l cur : List Int} {n : Nat} (h : cur = (l.take n).map G ++ l.drop n) (hn : n < l.length) : rd cur (n : Int) = l[n] := by
  subst h
  have h1 : ((l.take n).map G).length = n := by simp; omega
  simp only [rd, yny, List.getD_eq_getElem?_getD]
  rw [List.getElem?_append_right (by omega), h1, Nat.sub_self, List.getElem?_drop]
  simp [hn]
theorem zEj {G : Int → Int} {l cur : List Int} {n : Nat} (h : cur = (l.take n).map G ++ l.drop n) (hn : n < l.length) (e : G l[n] = l[n]) : cur = (l.take (n + 1)).map G ++ l.drop (n + 1) := by
  subst h
  rw [yoy hn, List.take_succ_eq_append_getElem hn, List.map_append, yjy, yky, e, List.append_assoc]
  rfl
theorem zFd {G : Int → Int} {l cur : List Int} {n : Nat} (h : cur = (l.take n).map G ++ l.drop n) (hn : n < l.length) : cur.set n (G l[n]) = (l.take (n + 1)).map G ++ l.drop (n + 1) := by
  subst h
  have h1 : ((l.take n).map G).length = n := by simp; omega
  rw [List.set_append_right _ _ (by omega), h1, Nat.sub_self, yoy hn, yby, List.take_succ_eq_append_getElem hn, List.map_append, yjy, yky, List.append_assoc]
  rfl
set_option maxHeartbeats 8000000 in
set_option maxRecDepth 100000 in
theorem Qq.calls (P0_ : Nat → Prop) (v : Value) (l : List Int) (i k : Int) (r : List Int) (w0 w : World) (hB : Below w0.heap.size w0 w) (ho0 : Kd.R (Kd.int .i64) 2 w w0.heap.size P0_ v l) (h : Qq.f l i k = some r) :
    Calls Try.prog 101 #[v, .int .i64 i, .int .i64 k] w fun e w' => e = .returned (.tuple #[]) ∧ Kd.R (Kd.int .i64) 2 w' w0.heap.size P0_ v r ∧ Below w0.heap.size w0 w' ∧ Kept w w' P0_ := by
  unfold Qq.f at h
  by_cases hok : 0 ≤ i ∧ i < l.length ∧ 0 ≤ k ∧ k < l.length
  case neg => rw [if_neg hok] at h; cases h
  rw [if_pos hok] at h
  have hr := yey h
  obtain ⟨hi0, hi1, hk0, hk1⟩ := hok
  obtain ⟨g, cap, rfl, hg1, _, _⟩ := Kd.JY ho0 (by omega)
  have hbig : l.length ≤ 9223372036854775807 := (Kd.zFJ (Kd.zx ho0).2.2)
  have q0 := (Kd.ZV 0 ho0 k hk0 hk1).1
  have q1 := (Kd.ZV 0 ho0 i hi0 hi1).1
  replace q0 : w.cell? ⟨g, k.toNat, none⟩ = some (.int .i64 (rd l k)) := q0
  replace q1 : w.cell? ⟨g, i.toNat, none⟩ = some (.int .i64 (rd l i)) := q1
  have hR : zA (l.map (fun x => if x = rd l k then rd l i else x) = r) := ⟨hr⟩
  clear hr h
  generalize rd l k = q at q0 hR
  generalize rd l i = p at q1 hR
  have HO := zA.mk ho0
  have HB := zA.mk hB
  have HP := zA.mk (ho0.1 g rfl)
  clear ho0 hB
  go_enter Try.func101, Try.ntmps101
  go_wp2
  refine Zm (n := 10) (S := fun w' => w'.cell? ⟨g, k.toNat, none⟩ = some (.int .i64 q) ∧ w'.cell? ⟨g, i.toNat, none⟩ = some (.int .i64 p)) (ds := []) #[false, false, false, false, false, false, false, false, false, false] (by kernel_rfl) rfl rfl ⟨q0, q1⟩ (fun hHeld => ?_)
  refine zj (i := 0) (N := some 10) (v := ?_) (a' := ?_) #[true, false, false, false, false, false, false, false, false, false] rfl rfl (by kernel_rfl) (fun _ _ _ h => h) (Or.inl ⟨by rfl, ?_⟩) ?_ ?_
  rotate_left
  · intro w'
    go_simp
    with_reducible rfl
  rotate_left
  · simp only [Act.put, yay, yby, ycy, zZ, zb]
    rfl
  refine zj (i := 1) (N := some 11) (v := ?_) (a' := ?_) #[true, true, false, false, false, false, false, false, false, false] rfl rfl (by kernel_rfl) (fun _ _ _ h => h) (Or.inl ⟨by rfl, ?_⟩) ?_ ?_
  rotate_left
  · intro w'
    go_simp
    with_reducible rfl
  rotate_left
  · simp only [Act.put, yay, yby, ycy, zZ, zb]
    rfl
  refine zj (i := 2) (N := some 12) (v := ?_) (a' := ?_) #[true, true, true, false, false, false, false, false, false, false] rfl rfl (by kernel_rfl) (fun _ _ _ h => h) (Or.inl ⟨by rfl, ?_⟩) ?_ ?_
  rotate_left
  · intro w'
    go_simp
    with_reducible rfl
  rotate_left
  · simp only [Act.put, yay, yby, ycy, zZ, zb]
    rfl
  refine qz (i := 3) (N := some 13) (v := ?_) (a' := ?_) #[true, true, true, true, false, false, false, false, false, false] rfl rfl (by kernel_rfl) (fun _ _ _ h => h) (Or.inl ⟨by rfl, ?_⟩) hHeld ?_ ?_
  rotate_left
  · rintro w' ⟨s0, s1⟩
    go_simp
    with_reducible rfl
  rotate_left
  · simp only [Act.put, yay, yby, ycy, zZ, zb]
    rfl
  refine zj (i := 4) (N := some 14) (v := ?_) (a' := ?_) #[true, true, true, true, true, false, false, false, false, false] rfl rfl (by kernel_rfl) (fun _ _ _ h => h) (Or.inl ⟨by rfl, ?_⟩) ?_ ?_
  rotate_left
  · intro w'
    go_simp
    with_reducible rfl
  rotate_left
  · simp only [Act.put, yay, yby, ycy, zZ, zb]
    rfl
  refine zj (i := 5) (N := some 15) (v := ?_) (a' := ?_) #[true, true, true, true, true, true, false, false, false, false] rfl rfl (by kernel_rfl) (fun _ _ _ h => h) (Or.inl ⟨by rfl, ?_⟩) ?_ ?_
  rotate_left
  · intro w'
    go_simp
    with_reducible rfl
  rotate_left
  · simp only [Act.put, yay, yby, ycy, zZ, zb]
    rfl
  refine zj (i := 6) (N := some 16) (v := ?_) (a' := ?_) #[true, true, true, true, true, true, true, false, false, false] rfl rfl (by kernel_rfl) (fun _ _ _ h => h) (Or.inl ⟨by rfl, ?_⟩) ?_ ?_
  rotate_left
  · intro w'
    go_simp
    with_reducible rfl
  rotate_left
  · simp only [Act.put, yay, yby, ycy, zZ, zb]
    rfl
  refine qz (i := 7) (N := some 17) (v := ?_) (a' := ?_) #[true, true, true, true, true, true, true, true, false, false] rfl rfl (by kernel_rfl) (fun _ _ _ h => h) (Or.inl ⟨by rfl, ?_⟩) hHeld ?_ ?_
  rotate_left
  · rintro w' ⟨s0, s1⟩
    go_simp
    with_reducible rfl
  rotate_left
  · simp only [Act.put, yay, yby, ycy, zZ, zb]
    rfl
  refine zj (i := 8) (N := some 6) (v := ?_) (a' := ?_) #[true, true, true, true, true, true, true, true, true, false] rfl rfl (by kernel_rfl) (fun _ _ _ h => h) (Or.inl ⟨by rfl, ?_⟩) ?_ ?_
  rotate_left
  · intro w'
    go_simp
    with_reducible rfl
  rotate_left
  · simp only [Act.put, yay, yby, ycy, zZ, zb]
    rfl
  refine zj (i := 9) (N := some 7) (v := ?_) (a' := ?_) #[true, true, true, true, true, true, true, true, true, true] rfl rfl (by kernel_rfl) (fun _ _ _ h => h) (Or.inl ⟨by rfl, ?_⟩) ?_ ?_
  rotate_left
  · intro w'
    go_simp
    with_reducible rfl
  rotate_left
  · simp only [Act.put, yay, yby, ycy, zZ, zb]
    rfl
  refine Qi (by kernel_rfl) ?_
  have HO2 := zA.mk (Kd.zW HO.out)
  have HB2 := zA.mk (zD HB.out)
  have HK := zA.mk (Kept.drew (Kept.refl w P0_))
  have HC : zA (l = (l.take 0).map (fun x => if x = q then p else x) ++ l.drop 0) := ⟨by simp⟩
  clear HO HB hHeld q0 q1
  generalize w.drew = wd at *
  go_wp2
  go_loopg [20] l.length (fun gg v20 w' => ∃ (n : Nat) (cur : List Int), n ≤ l.length ∧ l.length - n ≤ gg ∧ v20 = .int .i64 n ∧ zA (cur = (l.take n).map (fun x => if x = q then p else x) ++ l.drop n) ∧ zA (Kd.R (Kd.int .i64) 2 w' w0.heap.size P0_ (.slice (some ⟨g, 0, none⟩) l.length cap) cur) ∧ zA (Below w0.heap.size w0 w') ∧ zA (Kept w w' P0_))
  case atStart => exact ⟨0, l, Nat.zero_le _, by omega, rfl, HC, HO2, HB2, HK⟩
  case round =>
    clear HC HO2 HB2 HK
    obtain ⟨n, cur, hn, hg, rfl, HC, HO, HB, HK⟩ := hrel
    by_cases hlt : n < l.length
    · have hltz : (n : Int) < (l.length : Int) := by omega
      obtain ⟨hc, hf⟩ := Kd.ZV 0 HO.out (n : Int) (by omega) hltz
      replace hc : wr.cell? ⟨g, n, none⟩ = some (.int .i64 (rd cur (n : Int))) := hc
      replace hf : wr.frozen? ⟨g, n, none⟩ = false := hf
      rw [zFc HC.out hlt] at hc
      by_cases hy : l[n] = q
      · have HC2 := zA.mk (zFd HC.out hlt)
        rw [hy] at hc HC2
        have HC3 : zA (cur.set n p = (l.take (n + 1)).map (fun x => if x = q then p else x) ++ l.drop (n + 1)) := ⟨by have h := HC2.out; rwa [if_pos rfl] at h⟩
        have e1 : (q == q) = true := by simp
        clear hy HC2 HC
        go_wp2_with (first
          | ((with_reducible refine ZQ (t := 2) (p := 31) rfl ?_); refine ZE (t := 2) (p := 31) (v := ?vo31) (w1 := (wr.setCell ⟨g, n, none⟩ (.int .i64 p))) ?hg ?ho ?hn ?hr ?_; (case ho => rfl); (case hg => rfl); (case hn => rfl); (case hr => first | (go_simp; done) | (go_simp; rfl)); intro w4 hw; have HO2 := zA.mk (show Kd.R (Kd.int .i64) 2 w4 w0.heap.size P0_ (.slice (some ⟨g, 0, none⟩) l.length cap) (cur.set n p) by rw [hw]; exact (Kd.JZ HO.out (n : Int) p).1); have HB2 := zA.mk (show Below w0.heap.size w0 w4 by rw [hw]; exact zF HB.out hg1); have HK2 := zA.mk (show Kept w w4 P0_ by rw [hw]; exact HK.out.setCell (p := ⟨g, n, none⟩) (.inl HP.out) _); clear hw hc hf HO HB HK))
        go_roundg (l.length - (n + 1))
        case measure => omega
        case rel => exact ⟨n + 1, cur.set n p, by omega, by omega, by go_num, HC3, HO2, HB2, HK2⟩
      · have HC2 := zA.mk (zEj HC.out hlt (if_neg hy))
        have e1 : (l[n] == q) = false := by simpa using hy
        generalize l[n] = y at hc e1
        clear hy HC
        go_wp2
        go_roundg (l.length - (n + 1))
        case measure => omega
        case rel => exact ⟨n + 1, cur, by omega, by omega, by go_num, HC2, HO, HB, HK⟩
    · obtain rfl : n = l.length := by omega
      have hcr : cur = r := by rw [HC.out, ← hR.out]; simp
      have HCR := zA.mk hcr
      clear hcr HC
      go_wp2
      first | go_end0 | ((try simp only [Exit.inBlock, Exit.then]); refine bodyPost_ret (results_none rfl _ _ _) rfl ?_)
      refine ⟨?_, by rw [← HCR.out]; exact HO.out, HB.out, HK.out⟩
      first | rfl | (simp <;> rfl)
theorem Jn (p : Int) (h0 : 0 ≤ p) (h1 : p ≤ 23) : sm (zp p 0) ∧ sm (zp p 1) ∧ sm (zp p 2) ∧ sm (zp p 3) := by
  obtain ⟨n, rfl⟩ := Int.eq_ofNat_of_zero_le h0
  have hn : n < 24 := by omega
  have key : ∀ m : Fin 24, (0 ≤ zp (m.val : Int) 0 ∧ zp (m.val : Int) 0 ≤ 3) ∧ (0 ≤ zp (m.val : Int) 1 ∧ zp (m.val : Int) 1 ≤ 3) ∧ (0 ≤ zp (m.val : Int) 2 ∧ zp (m.val : Int) 2 ≤ 3) ∧ (0 ≤ zp (m.val : Int) 3 ∧ zp (m.val : Int) 3 ≤ 3) := by decide
  exact key ⟨n, hn⟩
def Qz (l : List Int) : Nat → List Int
  | 0 => [0, 0, 0, 0]
  | i + 1 => (Qz l i).set (rd l i).toNat i
theorem zBT (l : List Int) : ∀ i, i ≤ 4 → ∀ x ∈ Qz l i, sm x
  | 0, _, x, hx => by
    have : x = 0 := by simp [Qz] at hx; exact hx
    subst this; exact ⟨by omega, by omega⟩
  | i + 1, hi, x, hx => by
    rw [Qz] at hx
    rcases List.mem_or_eq_of_mem_set hx with h | rfl
    · exact zBT l i (by omega) x h
    · exact ⟨by omega, by omega⟩
def zD7 (p : Int) : Int := idxL (Qz (qi p) 4)
theorem Jv {a b c d : Int} (ha : sm a) (hb : sm b) (hc : sm c) (hd : sm d) (f : Int) (h0 : 0 ≤ f) (h1 : f ≤ 3) : sm (rd [a, b, c, d] f) := by
  rcases (show f = 0 ∨ f = 1 ∨ f = 2 ∨ f = 3 by omega) with rfl | rfl | rfl | rfl <;> assumption
def QE (j b : Int) (p : List Int) : List Int → List Int → List Int
  | [], s => s
  | c :: cs, s => QE j b p cs (Lib.uni s (4 * j + c) (4 * b + rd p c))
theorem Qh (j b : Int) (p : List Int) : ∀ (L s : List Int), (QE j b p L s).length = s.length
  | [], _ => rfl
  | c :: cs, s => by rw [QE, Qh j b p cs, Lib.Qb]
def Jd (s : List Int) (j f : Nat) (x : qA) : List Int := QE j x.f0 (qi x.f1) (zB6 [(f : Int)]) s
structure zBz (w0 : World) (gs n : Nat) (s : List Int) (W : World) : Prop where
  below : Below w0.heap.size w0 W
  ex : ∃ v, W.heap[gs]? = some (.cells #[v] 22 (0, 0)) ∧ Kd.R (Kd.int .i64) 2 W w0.heap.size (fun _ => True) v s
  own : w0.heap.size ≤ gs
  len : s.length = n
theorem zBz.stays {w0 W W1 : World} {gs n : Nat} {s : List Int} (h : zBz w0 gs n s W) (hb : Below W.heap.size W W1) : zBz w0 gs n s W1 := by
  obtain ⟨v, h1, h2⟩ := h.ex
  exact ⟨zM h.below hb, ⟨v, zP h1 hb, Kd.qM h2 hb⟩, h.own, h.len⟩
structure VcL (w0 : World) (gs gF gI gO cO : Nat) (f0 f1 x0 x1 x2 x3 : Int) (L s : List Int) (v : Value) (W : World) : Prop where
  below : Below w0.heap.size w0 W
  bS : W.heap[gs]? = some (.cells #[v] 22 (0, 0))
  bF : W.heap[gF]? = some (.cells #[.int .i64 f0, .int .i64 f1] 75 (0, 0))
  bI : W.heap[gI]? = some (.cells #[.int .i64 x0, .int .i64 x1, .int .i64 x2, .int .i64 x3] 101 (0, 0))
  rL : Kd.R (Kd.int .i64) 2 W w0.heap.size (fun k => k = gO) (.slice (some ⟨gO, 0, none⟩) L.length cO) L
  rE : Kd.R (Kd.int .i64) 2 W w0.heap.size (fun k => k ≠ gO) v s
  own : w0.heap.size ≤ gs
section
variable {w0 W W1 : World} {gs gF gI gO cO : Nat} {f0 f1 x0 x1 x2 x3 : Int} {L s s1 : List Int} {v : Value}
theorem VcL.stays (h : VcL w0 gs gF gI gO cO f0 f1 x0 x1 x2 x3 L s v W) (hb : Below W.heap.size W W1) : VcL w0 gs gF gI gO cO f0 f1 x0 x1 x2 x3 L s v W1 :=
  ⟨zM h.below hb, zP h.bS hb, zP h.bF hb, zP h.bI hb, Kd.qM h.rL hb, Kd.qM h.rE hb, h.own⟩
theorem VcL.uni (h : VcL w0 gs gF gI gO cO f0 f1 x0 x1 x2 x3 L s v W) (hR : Kd.R (Kd.int .i64) 2 W1 w0.heap.size (fun k_ => some k_ = v.ownBlock) v s1) (hB : Below w0.heap.size w0 W1) (hK : Kept W W1 (fun k_ => some k_ = v.ownBlock)) : VcL w0 gs gF gI gO cO f0 f1 x0 x1 x2 x3 L s1 v W1 := by
  have hne : ∀ (g : Nat) (T : TypeId) (c : Array Value), T ≠ 2 → W.heap[g]? = some (.cells c T (0, 0)) → ¬ some g = v.ownBlock := fun g T c hT hc e => by
    obtain ⟨cells, hc2⟩ := Kd.zAR h.rE g e.symm
    exact Qr hc hc2 hT rfl
  exact ⟨hB, QP h.bS hK (hne _ _ _ (by decide) h.bS), QP h.bF hK (hne _ _ _ (by decide) h.bF), QP h.bI hK (hne _ _ _ (by decide) h.bI), Kd.zEZ h.rL hK (fun k hk e => h.rE.1 k e.symm hk), Kd.zv hR (fun k hk => h.rE.1 k hk.symm), h.own⟩
end
set_option maxHeartbeats 8000000 in
set_option maxRecDepth 100000 in
theorem Jy.calls (w0 w : World) (gs n : Nat) (s : List Int) (j f : Nat) (f0 f1 : Int) (hI : zBz w0 gs n s w) (hj : 4 * (j : Int) + 4 ≤ (n : Int)) (hf : (f : Int) ≤ 3) (hf0 : 0 ≤ f0) (hf1 : 4 * f0 + 4 ≤ (n : Int)) (hp0 : 0 ≤ f1) (hp1 : f1 ≤ 23) (hn : n ≤ 64) :
    Calls Try.prog 120 #[.int .i64 (j : Int), .int .i64 (f : Int), .agg #[.int .i64 f0, .int .i64 f1], .agg #[.int .i64 (zp f1 0), .int .i64 (zp f1 1), .int .i64 (zp f1 2), .int .i64 (zp f1 3)], .pointer (some ⟨gs, 0, none⟩)] w fun e w' => e = .returned (.tuple #[]) ∧ zBz w0 gs n (Jd s j f ⟨f0, f1⟩) w' := by
  obtain ⟨y0, y1, y2, y3⟩ := Jn f1 hp0 hp1
  have hstep : Jd s j f ⟨f0, f1⟩ = QE j f0 (qi f1) (zB6 [(f : Int)]) s := rfl
  have hpl : qi f1 = [zp f1 0, zp f1 1, zp f1 2, zp f1 3] := rfl
  rw [hpl] at hstep
  have HPL := zA.mk hpl
  generalize zp f1 0 = x0 at *
  generalize zp f1 1 = x1 at *
  generalize zp f1 2 = x2 at *
  generalize zp f1 3 = x3 at *
  clear HPL hpl
  have HP : zA (∀ c, sm c → sm (rd [x0, x1, x2, x3] c)) := ⟨fun c hc => Jv y0 y1 y2 y3 c hc.1 hc.2⟩
  have HF := zA.mk (show sm (f : Int) from ⟨by omega, hf⟩)
  have HS := zA.mk hstep
  generalize Jd s j f ⟨f0, f1⟩ = R at HS ⊢
  have HI := zA.mk hI
  clear hI hstep y0 y1 y2 y3
  have ht := Try.underlying101
  have HCF : zA (∀ (W : World) (g : Nat), W.heap.size = g → Kd.C (Kd.int .i64) (W.alloc (.cells #[.int .i64 (f : Int)] 2)) (some ⟨g, 0, none⟩) 1 [(f : Int)]) := ⟨fun W g hg => by subst hg; exact (Kd.zx (show Kd.R (Kd.int .i64) 2 (W.alloc (.cells #[.int .i64 (f : Int)] 2)) W.heap.size (fun _ => True) (.slice (some ⟨W.heap.size, 0, none⟩) 1 1) [(f : Int)] from
      Kd.Jt ⟨by simp [zAP], .inr ⟨W.heap.size, 1, #[.int .i64 (f : Int)], rfl, yqy _, Zb rfl _, yqy 1, by decide, rfl, rfl⟩⟩ (fun _ _ => trivial))).2.2⟩
  have HL3 := zA.mk (zEi HF.out)
  have HLM := zA.mk (show ∀ c ∈ zB6 [(f : Int)], sm c ∧ c ≠ (f : Int) from fun c hc => zAV hc)
  generalize hLe : zB6 [(f : Int)] = L at HS HL3 HLM
  have HLE := zA.mk (show Qy.f [(f : Int)] = some L by rw [← hLe]; rfl)
  clear hLe
  have BF := zA.mk (zG (Zb (W := w) rfl (.cells #[.int .i64 f0, .int .i64 f1] 75)) (.cells #[.int .i64 x0, .int .i64 x1, .int .i64 x2, .int .i64 x3] 101))
  have BI := zA.mk (Zb (W := w.alloc (.cells #[.int .i64 f0, .int .i64 f1] 75)) (n := w.heap.size + 1) (by simp) (.cells #[.int .i64 x0, .int .i64 x1, .int .i64 x2, .int .i64 x3] 101))
  have HB := zA.mk (zC (zC (yry w.heap.size w) (.cells #[.int .i64 f0, .int .i64 f1] 75)) (.cells #[.int .i64 x0, .int .i64 x1, .int .i64 x2, .int .i64 x3] 101))
  have HWZ : zA (((w.alloc (.cells #[.int .i64 f0, .int .i64 f1] 75)).alloc (.cells #[.int .i64 x0, .int .i64 x1, .int .i64 x2, .int .i64 x3] 101)).heap.size = w.heap.size + 1 + 1) := ⟨by simp⟩
  go_enter Try.func120, Try.ntmps120
  go_wp2_with fail
  generalize hwB : World.alloc (World.alloc w _) _ = wB at *
  refine (Qy.calls _ 1 [(f : Int)] L _ (HCF.out _ _ HWZ.out) (yqy 1) HLE.out).mono ?_
  rintro e w2 ⟨v0, rfl, ho, hb⟩
  obtain ⟨gO, cO, rfl, hg1, hg2, _⟩ := Kd.JY ho (by rw [HL3.out]; decide)
  have HO := zA.mk ho
  have HBO := zA.mk hb
  have HG := zA.mk (And.intro hg1 hg2)
  clear ho hb hg1 hg2 HCF
  go_wp2
  obtain ⟨v, hM, hE⟩ := HI.out.ex
  have hs0 := HI.out.below.size
  have hs1 := HB.out.size
  have hs2 : (wB.alloc (.cells #[.int .i64 (f : Int)] 2)).heap.size = wB.heap.size + 1 := by simp
  have hgO := HG.out.1
  have HB3 := zA.mk (zM (zC HB.out (.cells #[.int .i64 (f : Int)] 2)) HBO.out)
  generalize hgI : w.heap.size + 1 = gI at *
  have HM := zA.mk (show VcL w0 gs w.heap.size gI gO cO f0 f1 x0 x1 x2 x3 L s v w2 from
    ⟨zM HI.out.below HB3.out, zP hM HB3.out, zP (zG BF.out _) HBO.out, zP (zG BI.out _) HBO.out,
      Kd.zv (Kd.Qu rfl (Kd.ZB HO.out (by omega))) (fun k_ hk_ => by simpa [Value.ownBlock] using hk_),
      Kd.qM (Kd.zv (Kd.QB hE) (fun k hk => by have := hk.2.2.1; omega)) HB3.out, HI.out.own⟩)
  have HLN := zA.mk HI.out.len
  have HS0 : zA (QE j f0 [x0, x1, x2, x3] (L.drop 0) s = R) := ⟨by rw [List.drop_zero]; exact HS.out.symm⟩
  have HLX := zA.mk (Kd.zFJ (Kd.zx HO.out).2.2)
  clear hM hE hs0 hs1 hs2 hgO HB3 HO HBO HG HB BF BI HI HLE HS hwB
  generalize hgF : w.heap.size = gF at *
  have hlb : L.length ≤ 3 := by have := HL3.out; omega
  go_loopg [15] L.length (fun gg v15 w' => ∃ (i : Nat) (s1 : List Int), i ≤ L.length ∧ L.length - i ≤ gg ∧ v15 = .int .i64 i ∧ zA (QE j f0 [x0, x1, x2, x3] (L.drop i) s1 = R) ∧ zA (VcL w0 gs gF gI gO cO f0 f1 x0 x1 x2 x3 L s1 v w') ∧ zA (s1.length = n))
  case atStart => exact ⟨0, s, Nat.zero_le _, by omega, rfl, HS0, HM, HLN⟩
  case round =>
    clear HM HS0 HLN
    obtain ⟨i, s1, hi9, hgg, rfl, HS0, HM, HLN⟩ := hrel
    by_cases hlt : i < L.length
    · have hltz : (i : Int) < (L.length : Int) := by omega
      obtain ⟨hc, _⟩ := Kd.ZV 0 HM.out.rL (i : Int) (by omega) hltz
      replace hc : wr.cell? ⟨gO, i, none⟩ = some (.int .i64 (rd L (i : Int))) := hc
      have ex : rd L (i : Int) = L[i] := by simp [rd, hlt]
      rw [ex] at hc
      have HC := zA.mk (HLM.out L[i] (List.getElem_mem hlt))
      have HA2 := HS0.out
      rw [yoy hlt, QE] at HA2
      have HS1 := zA.mk HA2
      clear HS0 HA2 ex
      generalize L[i] = c at hc HC HS1
      obtain ⟨hc0, hc1⟩ := HC.out.1
      have hc4 : c < 4 := by omega
      have k4 := HP.out c HC.out.1
      generalize hde : rd [x0, x1, x2, x3] c = d at k4 HS1
      have HD := zA.mk hde
      obtain ⟨hd0, hd1⟩ := k4
      go_wp2
      have HUN : zA (Qq.f s1 (wrap64 (wrap64 (4 * (j : Int)) + c)) (wrap64 (wrap64 (4 * f0) + d)) = some (Lib.uni s1 (4 * (j : Int) + c) (4 * f0 + d))) := ⟨by
        have hl := HLN.out
        rw [wid_ (show -9223372036854775808 ≤ 4 * (j : Int) by omega) (by omega), wid_ (show -9223372036854775808 ≤ 4 * f0 by omega) (by omega), wid_ (show -9223372036854775808 ≤ 4 * (j : Int) + c by omega) (by omega), wid_ (show -9223372036854775808 ≤ 4 * f0 + d by omega) (by omega)]
        unfold Qq.f
        rw [if_pos (by omega)]⟩
      refine Zm (n := 13) (S := fun w' => w'.cell? ⟨gs, 0, none⟩ = some v ∧ w'.cell? ⟨gF, 0, none⟩ = some (.int .i64 f0) ∧ w'.cell? ⟨gI, c.toNat, none⟩ = some (.int .i64 d)) (ds := [12]) #[false, false, false, false, false, false, false, false, false, false, false, false, false] (by kernel_rfl) rfl rfl ⟨(zK HM.out.bS 0).trans rfl, (zK HM.out.bF 0).trans rfl, zFb HM.out.bI hc0 hc1 hde⟩ (fun hHeld => ?_)
      have HM5 := zA.mk (HM.out.stays (zD (yry _ _)))
      clear HM hde hc
      generalize wr.drew = w7 at HM5 hHeld ⊢
      refine qz (i := 0) (N := some 19) (v := ?_) (a' := ?_) #[true, false, false, false, false, false, false, false, false, false, false, false, false] rfl rfl (by kernel_rfl) (fun _ _ _ h => h) (Or.inl ⟨by rfl, ?_⟩) hHeld ?_ ?_
      rotate_left
      · rintro w' ⟨s0, s1, s2⟩
        go_simp
        with_reducible rfl
      rotate_left
      · simp only [Act.put, yay, yby, ycy, zZ, zb]
        rfl
      refine zj (i := 1) (N := some 20) (v := ?_) (a' := ?_) #[true, true, false, false, false, false, false, false, false, false, false, false, false] rfl rfl (by kernel_rfl) (fun _ _ _ h => h) (Or.inl ⟨by rfl, ?_⟩) ?_ ?_
      rotate_left
      · intro w'
        go_simp
        with_reducible rfl
      rotate_left
      · simp only [Act.put, yay, yby, ycy, zZ, zb]
        rfl
      refine zj (i := 2) (N := some 21) (v := ?_) (a' := ?_) #[true, true, true, false, false, false, false, false, false, false, false, false, false] rfl rfl (by kernel_rfl) (fun _ _ _ h => h) (Or.inl ⟨by rfl, ?_⟩) ?_ ?_
      rotate_left
      · intro w'
        go_simp
        with_reducible rfl
      rotate_left
      · simp only [Act.put, yay, yby, ycy, zZ, zb]
        rfl
      refine zj (i := 3) (N := some 22) (v := ?_) (a' := ?_) #[true, true, true, true, false, false, false, false, false, false, false, false, false] rfl rfl (by kernel_rfl) (fun _ _ _ h => h) (Or.inl ⟨by rfl, ?_⟩) ?_ ?_
      rotate_left
      · intro w'
        go_simp
        with_reducible rfl
      rotate_left
      · simp only [Act.put, yay, yby, ycy, zZ, zb]
        rfl
      refine zj (i := 4) (N := some 23) (v := ?_) (a' := ?_) #[true, true, true, true, true, false, false, false, false, false, false, false, false] rfl rfl (by kernel_rfl) (fun _ _ _ h => h) (Or.inl ⟨by rfl, ?_⟩) ?_ ?_
      rotate_left
      · intro w'
        go_simp
        with_reducible rfl
      rotate_left
      · simp only [Act.put, yay, yby, ycy, zZ, zb]
        rfl
      refine zj (i := 5) (N := some 24) (v := ?_) (a' := ?_) #[true, true, true, true, true, true, false, false, false, false, false, false, false] rfl rfl (by kernel_rfl) (fun _ _ _ h => h) (Or.inl ⟨by rfl, ?_⟩) ?_ ?_
      rotate_left
      · intro w'
        go_simp
        with_reducible rfl
      rotate_left
      · simp only [Act.put, yay, yby, ycy, zZ, zb]
        rfl
      refine qz (i := 6) (N := some 25) (v := ?_) (a' := ?_) #[true, true, true, true, true, true, true, false, false, false, false, false, false] rfl rfl (by kernel_rfl) (fun _ _ _ h => h) (Or.inl ⟨by rfl, ?_⟩) hHeld ?_ ?_
      rotate_left
      · rintro w' ⟨s0, s1, s2⟩
        go_simp
        with_reducible rfl
      rotate_left
      · simp only [Act.put, yay, yby, ycy, zZ, zb]
        rfl
      refine zj (i := 7) (N := some 26) (v := ?_) (a' := ?_) #[true, true, true, true, true, true, true, true, false, false, false, false, false] rfl rfl (by kernel_rfl) (fun _ _ _ h => h) (Or.inl ⟨by rfl, ?_⟩) ?_ ?_
      rotate_left
      · intro w'
        go_simp
        with_reducible rfl
      rotate_left
      · simp only [Act.put, yay, yby, ycy, zZ, zb]
        rfl
      refine zj (i := 8) (N := some 27) (v := ?_) (a' := ?_) #[true, true, true, true, true, true, true, true, true, false, false, false, false] rfl rfl (by kernel_rfl) (fun _ _ _ h => h) (Or.inl ⟨by rfl, ?_⟩) ?_ ?_
      rotate_left
      · intro w'
        go_simp
        with_reducible rfl
      rotate_left
      · simp only [Act.put, yay, yby, ycy, zZ, zb]
        rfl
      refine zj (i := 9) (N := some 28) (v := ?_) (a' := ?_) #[true, true, true, true, true, true, true, true, true, true, false, false, false] rfl rfl (by kernel_rfl) (fun _ _ _ h => h) (Or.inl ⟨by rfl, ?_⟩) ?_ ?_
      rotate_left
      · intro w'
        go_simp
        with_reducible rfl
      rotate_left
      · simp only [Act.put, yay, yby, ycy, zZ, zb]
        rfl
      refine qz (i := 10) (N := some 29) (v := ?_) (a' := ?_) #[true, true, true, true, true, true, true, true, true, true, true, false, false] rfl rfl (by kernel_rfl) (fun _ _ _ h => h) (Or.inl ⟨by rfl, ?_⟩) hHeld ?_ ?_
      rotate_left
      · rintro w' ⟨s0, s1, s2⟩
        go_simp
        with_reducible rfl
      rotate_left
      · simp only [Act.put, yay, yby, ycy, zZ, zb]
        rfl
      refine zj (i := 11) (N := some 30) (v := ?_) (a' := ?_) #[true, true, true, true, true, true, true, true, true, true, true, true, false] rfl rfl (by kernel_rfl) (fun _ _ _ h => h) (Or.inl ⟨by rfl, ?_⟩) ?_ ?_
      rotate_left
      · intro w'
        go_simp
        with_reducible rfl
      rotate_left
      · simp only [Act.put, yay, yby, ycy, zZ, zb]
        rfl
      refine zFR (i := 12) (N := some 31) #[true, true, true, true, true, true, true, true, true, true, true, true, true] rfl rfl (by kernel_rfl) (by decide) (fun K hK => ?_)
      refine QU Try.func101 (by kernel_rfl) rfl #[v, .int .i64 (wrap64 (wrap64 (4 * (j : Int)) + c)), .int .i64 (wrap64 (wrap64 (4 * f0) + d))] (by rfl) rfl rfl (by (try simp only [yiy, yjy, yky]); first | done | rfl) ?_
      refine (Qq.calls (fun k_ => some k_ = v.ownBlock) v s1 _ _ _ w0 _ HM5.out.below (Kd.Qu rfl HM5.out.rE) HUN.out).mono ?_
      rintro e w9 ⟨rfl, hR9, hB9, hK9⟩
      refine ⟨_, rfl, ?_⟩
      have HM9 := zA.mk (HM5.out.uni hR9 hB9 hK9)
      clear hR9 hB9 hK9 HM5 HUN
      refine hK.out _ _ ?_
      clear hK K
      refine Zx (a' := ?_) ?_ ?_
      rotate_left
      · show Act.put _ (some 31) _ = _
        simp only [Act.put, yay, yby, ycy, zZ, zb]
        rfl
      refine Qi (by kernel_rfl) ?_
      go_wp2
      go_roundg (L.length - (i + 1))
      case measure => omega
      case rel => exact ⟨i + 1, _, by omega, by omega, by go_num, ⟨HS1.out⟩, HM9, ⟨by rw [Lib.Qb]; exact HLN.out⟩⟩
    · obtain rfl : i = L.length := by omega
      have HA2 := HS0.out
      rw [List.drop_length, QE] at HA2
      subst HA2
      go_wp2
      first | go_end0 | ((try simp only [Exit.inBlock, Exit.then]); refine bodyPost_ret (results_none rfl _ _ _) rfl ?_)
      refine ⟨?_, ⟨HM.out.below, ⟨v, HM.out.bS, Kd.zv HM.out.rE (fun _ _ => trivial)⟩, HM.out.own, HLN.out⟩⟩
      first | rfl | (simp <;> rfl)
def JV (l : List (List qA)) : List Int := zAk Jd l 0 (Lib.ZU 0 (4 * l.length))
def zm.f (l : List (List qA)) : Option (List Int) := if zE3 l ∧ zD3 (JV l) = true then some (Lib.zBt (JV l)) else none
theorem zGQ {l : List (List qA)} (hok : zE3 l) {w : World} {gs : Nat} (s : List Int) (W : World) (j f : Nat) (x : qA) (hI : zBz w gs (4 * l.length) s W) (hF : QK l j f x) (hb : ¬ x.f0 < 0) :
    Calls Try.prog 120 (#[.int .i64 (j : Int), .int .i64 (f : Int), .agg #[.int .i64 x.f0, .int .i64 x.f1], .agg #[.int .i64 (zp x.f1 0), .int .i64 (zp x.f1 1), .int .i64 (zp x.f1 2), .int .i64 (zp x.f1 3)]] ++ #[.pointer (some ⟨gs, 0, none⟩)]) W fun e W' => e = .returned (.tuple #[]) ∧ zBz w gs (4 * l.length) (Jd s j f x) W' := by
  obtain ⟨h1, h2, h3⟩ := hF
  obtain ⟨q0, q1, q2⟩ := hok
  have q3 := q1 _ (List.getElem_mem h1)
  have q4 := q2 _ (List.getElem_mem h1) x (by rw [← h3]; exact List.getElem_mem h2) hb
  have e : (#[.int .i64 (j : Int), .int .i64 (f : Int), .agg #[.int .i64 x.f0, .int .i64 x.f1], .agg #[.int .i64 (zp x.f1 0), .int .i64 (zp x.f1 1), .int .i64 (zp x.f1 2), .int .i64 (zp x.f1 3)]] ++ #[.pointer (some ⟨gs, 0, none⟩)] : Array Value) = #[.int .i64 (j : Int), .int .i64 (f : Int), .agg #[.int .i64 x.f0, .int .i64 x.f1], .agg #[.int .i64 (zp x.f1 0), .int .i64 (zp x.f1 1), .int .i64 (zp x.f1 2), .int .i64 (zp x.f1 3)], .pointer (some ⟨gs, 0, none⟩)] := rfl
  rw [e]
  exact Jy.calls w W gs (4 * l.length) s j f x.f0 x.f1 hI (by omega) (by omega) (by omega) (by omega) q4.2.1 q4.2.2 (by omega)
set_option maxHeartbeats 8000000 in
set_option maxRecDepth 100000 in
theorem zm.calls (A0_0 : Option Addr) (c0_0 : Nat) (l0_0 : List (List qA)) (r : List Int) (w : World) (hr0_0 : Kd.C (Kd.slice 75 ZT) w A0_0 l0_0.length l0_0) (hc0_0 : l0_0.length ≤ c0_0) (h : zm.f l0_0 = some r) :
    Calls Try.prog 88 #[.agg #[.slice A0_0 l0_0.length c0_0]] w fun e w' => ∃ v0_ : Value, e = .returned (v0_) ∧ Kd.R (Kd.int .i64) 2 w' w.heap.size (fun _ => True) v0_ r ∧ Below w.heap.size w w' := by
  unfold zm.f at h
  by_cases hok : zE3 l0_0 ∧ zD3 (JV l0_0) = true
  case neg => rw [if_neg hok] at h; cases h
  rw [if_pos hok] at h
  have hr := yey h
  subst hr
  have HOK := zA.mk hok
  have HR := zA.mk hr0_0
  have HC := zA.mk hc0_0
  have hl8 : l0_0.length ≤ 8 := hok.1.1
  have HCN := zA.mk (show qd.f (4 * l0_0.length + 1) (4 * (l0_0.length : Int)) = some (Lib.ZU 0 (4 * l0_0.length)) from zD6 (4 * l0_0.length) (by omega))
  have HNB := zA.mk (show QZ.f (JV l0_0) = some (Lib.zBt (JV l0_0)) from if_pos hok.2)
  clear h hok hr0_0 hc0_0
  go_enter Try.func88, Try.ntmps88
  have BT := zA.mk (Zb (W := w) rfl (.cells #[.slice A0_0 l0_0.length c0_0] 35))
  have HB := zA.mk (zC (yry w.heap.size w) (.cells #[.slice A0_0 l0_0.length c0_0] 35))
  go_wp2_with (first
    | (go_at_call 75; refine (qX.calls A0_0 c0_0 l0_0 (l0_0.length : Int) _ (Kd.qG HR.out HB.out) HC.out rfl).mono ?_; rintro e w2 ⟨rfl, hd⟩; have hb := qJ.below hd; clear hd; have BT2 := zA.mk (zP BT.out hb); have HB2 := zA.mk (zM HB.out hb); clear BT HB hb; have hT2 : w2.cell? ⟨w.heap.size, 0, none⟩ = some (.slice A0_0 l0_0.length c0_0) := (zK BT2.out 0).trans rfl)
    | (go_at_call 98; refine (qd.calls (4 * l0_0.length + 1) (4 * (l0_0.length : Int)) _ _ HCN.out).mono ?_; rintro e w3 ⟨v3, rfl, ho, hb⟩; obtain ⟨A3, c3, rfl⟩ := Kd.ZH ho; generalize (Lib.ZU 0 (4 * l0_0.length)).length = m3 at ho; have HB23 := zA.mk hb; have HV3 := zA.mk (Kd.zv (Kd.QB ho) (ok' := fun k => k < w3.heap.size) (fun _ hk => hk.2.2.1)); have BT3 := zA.mk (zP BT2.out hb); clear BT2 ho hb hT2; have hT3 : w3.cell? ⟨w.heap.size, 0, none⟩ = some (.slice A0_0 l0_0.length c0_0) := (zK BT3.out 0).trans rfl; have hz3 : w.heap.size < w3.heap.size := qN BT3.out; have hzn : w.heap.size ≠ w3.heap.size := by omega)
    | (go_at_call 99; refine (zE1.calls 120 _ Try.func120 (by kernel_rfl) rfl #[.pointer (some ⟨w3.heap.size, 0, none⟩)] l0_0 A0_0 c0_0 w2 _ (zBz w2 w3.heap.size (4 * l0_0.length)) Jd (Lib.ZU 0 (4 * l0_0.length)) (fun _ => 0) (4 * (l0_0.map List.length).sum) (fun _ _ _ _ => Nat.zero_le _) (Nat.le_of_eq (Nat.zero_add _)) (fun _ _ _ h hb => h.stays hb) (fun _ _ h => h.below) (Kd.qG HR.out HB2.out) (fun r hr x hx hb => (HOK.out.1.2.2 r hr x hx hb).2) ?aS ?a0).mono ?_; (case aS => exact fun s W j f x hI hF hb _ => zGQ HOK.out.1 s W j f x hI hF hb); (case a0 => exact ⟨zC HB23.out _, ⟨_, Zb rfl _, Kd.zv (Kd.zR HV3.out _) (fun _ _ => trivial)⟩, HB23.out.size, Lib.Za _ _⟩); rintro e w4 ⟨rfl, hI⟩; have HI := zA.mk (show zBz w2 w3.heap.size (4 * l0_0.length) (JV l0_0) w4 from hI); clear hI hT3 hz3 hzn HV3; obtain ⟨v4, hM, hE⟩ := HI.out.ex; obtain ⟨A4, c4, rfl⟩ := Kd.ZH hE; have hm4 : w4.cell? ⟨w3.heap.size, 0, none⟩ = some (.slice A4 (JV l0_0).length c4) := (zK hM 0).trans rfl; have HRD := zA.mk (Kd.zx hE); have HB4 := zA.mk (zM HB2.out HI.out.below); clear hM hE)
    | (go_at_call 109; refine (QZ.calls A4 c4 (JV l0_0) _ _ HRD.out.2.2 HRD.out.2.1 HNB.out).mono ?_; rintro e w5 ⟨v5, rfl, ho, hb⟩; have HV5 := zA.mk (Kd.ZB ho HB4.out.size); have HB5 := zA.mk (zM HB4.out hb); clear ho hb hm4))
  go_ret
  exact ⟨_, rfl, HV5.out, HB5.out⟩
def sgJ (l : List Int) (i : Nat) (s : Int) : Nat → Int
  | 0 => s
  | j + 1 => if rd l j > rd l i then -(sgJ l i s j) else sgJ l i s j
def sgI (l : List Int) : Nat → Int
  | 0 => 1
  | i + 1 => sgJ l i (sgI l i) i
def zAl (p : Int) : Int := sgI (qi p) 4
theorem zBU (l : List Int) (i : Nat) (s : Int) (h : -1 ≤ s ∧ s ≤ 1) : ∀ j, -1 ≤ sgJ l i s j ∧ sgJ l i s j ≤ 1
  | 0 => h
  | j + 1 => by have := zBU l i s h j; unfold sgJ; split <;> omega
theorem zEk (l : List Int) : ∀ i, -1 ≤ sgI l i ∧ sgI l i ≤ 1
  | 0 => by unfold sgI; omega
  | i + 1 => zBU l i _ (zEk l i) i
def JA.f (a0 : Int) : Option Int := if 0 ≤ a0 ∧ a0 ≤ 23 then some (zAl a0) else none
set_option maxHeartbeats 8000000 in
set_option maxRecDepth 100000 in
theorem JA.calls (a0 : Int) (r : Int) (w : World) (h : JA.f a0 = some r) :
    Calls Try.prog 73 #[.int .i64 a0] w fun e w' => e = .returned (.int .i64 r) ∧ Below w.heap.size w w' := by
  unfold JA.f at h
  by_cases hc : 0 ≤ a0 ∧ a0 ≤ 23
  case neg => rw [if_neg hc] at h; exact absurd h (by simp)
  rw [if_pos hc] at h
  have hr : zAl a0 = r := yey h
  clear h
  subst hr
  obtain ⟨h0, h1⟩ := hc
  have H0 := zA.mk h0
  have H1 := zA.mk h1
  clear h0 h1
  go_enter Try.func73, Try.ntmps73
  go_wp2_with fail
  refine (Jl.calls _ _ H0.out H1.out).mono ?_
  rintro e w1 ⟨rfl, hb⟩
  have HB := zA.mk hb
  clear hb
  have HPL := zA.mk (show qi a0 = [zp a0 0, zp a0 1, zp a0 2, zp a0 3] from rfl)
  have HIP := zA.mk (show zAl a0 = sgI (qi a0) 4 from rfl)
  generalize qi a0 = l at HPL HIP
  generalize zp a0 0 = x0 at HPL ⊢
  generalize zp a0 1 = x1 at HPL ⊢
  generalize zp a0 2 = x2 at HPL ⊢
  generalize zp a0 3 = x3 at HPL ⊢
  have HL := zA.mk (zEk l)
  go_wp2_with fail
  go_loopg [4, 12] 4 (fun gg v4 v12 w' => ∃ i : Nat, i ≤ 4 ∧ 4 - i ≤ gg ∧ v12 = .int .i64 i ∧ v4 = .int .i64 (sgI l i) ∧
    zA (w'.heap[w1.heap.size]? = some (.cells #[.int .i64 x0, .int .i64 x1, .int .i64 x2, .int .i64 x3] 101 (0, 0))) ∧ zA (Below w.heap.size w w'))
  case atStart => exact ⟨0, by omega, by omega, rfl, rfl, ⟨Zb rfl _⟩, ⟨zC HB.out _⟩⟩
  case round =>
    clear HB
    obtain ⟨i, hi, hg, rfl, rfl, B, HB⟩ := hrel
    rcases (show i = 4 ∨ i = 3 ∨ i = 2 ∨ i = 1 ∨ i = 0 by omega) with rfl | rfl | rfl | rfl | rfl
    · go_wp2
      go_ret
      exact ⟨by rw [HIP.out]; rfl, HB.out⟩
    · have HD := zA.mk (show ∀ j : Nat, sgJ l 3 (sgI l 3) (j + 1) = if rd l j > rd l (3 : Nat) then -(sgJ l 3 (sgI l 3) j) else sgJ l 3 (sgI l 3) j from fun _ => rfl)
      have HE := zA.mk (show sgI l (3 + 1) = sgJ l 3 (sgI l 3) 3 from rfl)
      have HJ := zA.mk (zBU l 3 _ (HL.out 3))
      have HX := zA.mk (show rd l (3 : Nat) = x3 by rw [HPL.out]; rfl)
      have HZ := zA.mk (show sgI l 3 = sgJ l 3 (sgI l 3) 0 from rfl)
      have hidx : ∀ w_ : World, (Instr.index 101 (.agg #[.int .i64 x0, .int .i64 x1, .int .i64 x2, .int .i64 x3]) (.int .i64 3)).run Try.prog w_ = .ok (.int .i64 x3) w_ := QM x0 x1 x2 x3 3 (by omega) (by omega)
      go_wp2_with fail
      go_loopg [4, 19] 3 (fun gg v4 v19 w' => ∃ j : Nat, j ≤ 3 ∧ 3 - j ≤ gg ∧ v19 = .int .i64 j ∧ v4 = .int .i64 (sgJ l 3 (sgI l 3) j) ∧ w' = wr)
      case atStart => exact ⟨0, by omega, by omega, rfl, by rw [← HZ.out], rfl⟩
      case round =>
        obtain ⟨j, hj, hg2, rfl, rfl, rfl⟩ := hrel
        by_cases hlt : j < 3
        · have hltz : (j : Int) < 3 := by omega
          have bj : wr.cell? ⟨w1.heap.size, j, none⟩ = some (.int .i64 (rd l (j : Nat))) := by
            have := QI B.out (j : Int) (by omega) (by omega)
            rw [← HPL.out, yny] at this
            exact this
          have hbd := HJ.out j
          obtain ⟨hbd1, hbd2⟩ := hbd
          have HN := zA.mk (HD.out j)
          rw [HX.out] at HN
          generalize sgJ l 3 (sgI l 3) j = sv at HN hbd1 hbd2 ⊢
          generalize rd l (j : Nat) = xj at bj HN
          by_cases hless : xj > x3
          · have hd1 : decide (x3 < xj) = true := ygy hless
            go_wp2
            go_roundg (3 - (j + 1))
            case measure => omega
            case rel => exact ⟨j + 1, by omega, by omega, by go_num, by rw [HN.out, if_pos hless], rfl⟩
          · have hd1 : decide (x3 < xj) = false := yhy hless
            go_wp2
            go_roundg (3 - (j + 1))
            case measure => omega
            case rel => exact ⟨j + 1, by omega, by omega, by go_num, by rw [HN.out, if_neg (by omega)], rfl⟩
        · obtain rfl : j = 3 := by omega
          have HK := zA.mk HE.out.symm
          generalize sgJ l 3 (sgI l 3) 3 = sv at HK ⊢
          go_wp2
          go_roundg (4 - (3 + 1))
          case measure => omega
          case rel => exact ⟨3 + 1, by omega, by omega, by first | rfl | go_num, by rw [HK.out], B, HB⟩
    · have HD := zA.mk (show ∀ j : Nat, sgJ l 2 (sgI l 2) (j + 1) = if rd l j > rd l (2 : Nat) then -(sgJ l 2 (sgI l 2) j) else sgJ l 2 (sgI l 2) j from fun _ => rfl)
      have HE := zA.mk (show sgI l (2 + 1) = sgJ l 2 (sgI l 2) 2 from rfl)
      have HJ := zA.mk (zBU l 2 _ (HL.out 2))
      have HX := zA.mk (show rd l (2 : Nat) = x2 by rw [HPL.out]; rfl)
      have HZ := zA.mk (show sgI l 2 = sgJ l 2 (sgI l 2) 0 from rfl)
      have hidx : ∀ w_ : World, (Instr.index 101 (.agg #[.int .i64 x0, .int .i64 x1, .int .i64 x2, .int .i64 x3]) (.int .i64 2)).run Try.prog w_ = .ok (.int .i64 x2) w_ := QM x0 x1 x2 x3 2 (by omega) (by omega)
      go_wp2_with fail
      go_loopg [4, 19] 2 (fun gg v4 v19 w' => ∃ j : Nat, j ≤ 2 ∧ 2 - j ≤ gg ∧ v19 = .int .i64 j ∧ v4 = .int .i64 (sgJ l 2 (sgI l 2) j) ∧ w' = wr)
      case atStart => exact ⟨0, by omega, by omega, rfl, by rw [← HZ.out], rfl⟩
      case round =>
        obtain ⟨j, hj, hg2, rfl, rfl, rfl⟩ := hrel
        by_cases hlt : j < 2
        · have hltz : (j : Int) < 2 := by omega
          have bj : wr.cell? ⟨w1.heap.size, j, none⟩ = some (.int .i64 (rd l (j : Nat))) := by
            have := QI B.out (j : Int) (by omega) (by omega)
            rw [← HPL.out, yny] at this
            exact this
          have hbd := HJ.out j
          obtain ⟨hbd1, hbd2⟩ := hbd
          have HN := zA.mk (HD.out j)
          rw [HX.out] at HN
          generalize sgJ l 2 (sgI l 2) j = sv at HN hbd1 hbd2 ⊢
          generalize rd l (j : Nat) = xj at bj HN
          by_cases hless : xj > x2
          · have hd1 : decide (x2 < xj) = true := ygy hless
            go_wp2
            go_roundg (2 - (j + 1))
            case measure => omega
            case rel => exact ⟨j + 1, by omega, by omega, by go_num, by rw [HN.out, if_pos hless], rfl⟩
          · have hd1 : decide (x2 < xj) = false := yhy hless
            go_wp2
            go_roundg (2 - (j + 1))
            case measure => omega
            case rel => exact ⟨j + 1, by omega, by omega, by go_num, by rw [HN.out, if_neg (by omega)], rfl⟩
        · obtain rfl : j = 2 := by omega
          have HK := zA.mk HE.out.symm
          generalize sgJ l 2 (sgI l 2) 2 = sv at HK ⊢
          go_wp2
          go_roundg (4 - (2 + 1))
          case measure => omega
          case rel => exact ⟨2 + 1, by omega, by omega, by first | rfl | go_num, by rw [HK.out], B, HB⟩
    · have HD := zA.mk (show ∀ j : Nat, sgJ l 1 (sgI l 1) (j + 1) = if rd l j > rd l (1 : Nat) then -(sgJ l 1 (sgI l 1) j) else sgJ l 1 (sgI l 1) j from fun _ => rfl)
      have HE := zA.mk (show sgI l (1 + 1) = sgJ l 1 (sgI l 1) 1 from rfl)
      have HJ := zA.mk (zBU l 1 _ (HL.out 1))
      have HX := zA.mk (show rd l (1 : Nat) = x1 by rw [HPL.out]; rfl)
      have HZ := zA.mk (show sgI l 1 = sgJ l 1 (sgI l 1) 0 from rfl)
      have hidx : ∀ w_ : World, (Instr.index 101 (.agg #[.int .i64 x0, .int .i64 x1, .int .i64 x2, .int .i64 x3]) (.int .i64 1)).run Try.prog w_ = .ok (.int .i64 x1) w_ := QM x0 x1 x2 x3 1 (by omega) (by omega)
      go_wp2_with fail
      go_loopg [4, 19] 1 (fun gg v4 v19 w' => ∃ j : Nat, j ≤ 1 ∧ 1 - j ≤ gg ∧ v19 = .int .i64 j ∧ v4 = .int .i64 (sgJ l 1 (sgI l 1) j) ∧ w' = wr)
      case atStart => exact ⟨0, by omega, by omega, rfl, by rw [← HZ.out], rfl⟩
      case round =>
        obtain ⟨j, hj, hg2, rfl, rfl, rfl⟩ := hrel
        by_cases hlt : j < 1
        · have hltz : (j : Int) < 1 := by omega
          have bj : wr.cell? ⟨w1.heap.size, j, none⟩ = some (.int .i64 (rd l (j : Nat))) := by
            have := QI B.out (j : Int) (by omega) (by omega)
            rw [← HPL.out, yny] at this
            exact this
          have hbd := HJ.out j
          obtain ⟨hbd1, hbd2⟩ := hbd
          have HN := zA.mk (HD.out j)
          rw [HX.out] at HN
          generalize sgJ l 1 (sgI l 1) j = sv at HN hbd1 hbd2 ⊢
          generalize rd l (j : Nat) = xj at bj HN
          by_cases hless : xj > x1
          · have hd1 : decide (x1 < xj) = true := ygy hless
            go_wp2
            go_roundg (1 - (j + 1))
            case measure => omega
            case rel => exact ⟨j + 1, by omega, by omega, by go_num, by rw [HN.out, if_pos hless], rfl⟩
          · have hd1 : decide (x1 < xj) = false := yhy hless
            go_wp2
            go_roundg (1 - (j + 1))
            case measure => omega
            case rel => exact ⟨j + 1, by omega, by omega, by go_num, by rw [HN.out, if_neg (by omega)], rfl⟩
        · obtain rfl : j = 1 := by omega
          have HK := zA.mk HE.out.symm
          generalize sgJ l 1 (sgI l 1) 1 = sv at HK ⊢
          go_wp2
          go_roundg (4 - (1 + 1))
          case measure => omega
          case rel => exact ⟨1 + 1, by omega, by omega, by first | rfl | go_num, by rw [HK.out], B, HB⟩
    · have HD := zA.mk (show ∀ j : Nat, sgJ l 0 (sgI l 0) (j + 1) = if rd l j > rd l (0 : Nat) then -(sgJ l 0 (sgI l 0) j) else sgJ l 0 (sgI l 0) j from fun _ => rfl)
      have HE := zA.mk (show sgI l (0 + 1) = sgJ l 0 (sgI l 0) 0 from rfl)
      have HJ := zA.mk (zBU l 0 _ (HL.out 0))
      have HX := zA.mk (show rd l (0 : Nat) = x0 by rw [HPL.out]; rfl)
      have HZ := zA.mk (show sgI l 0 = sgJ l 0 (sgI l 0) 0 from rfl)
      have hidx : ∀ w_ : World, (Instr.index 101 (.agg #[.int .i64 x0, .int .i64 x1, .int .i64 x2, .int .i64 x3]) (.int .i64 0)).run Try.prog w_ = .ok (.int .i64 x0) w_ := QM x0 x1 x2 x3 0 (by omega) (by omega)
      go_wp2_with fail
      go_loopg [4, 19] 0 (fun gg v4 v19 w' => ∃ j : Nat, j ≤ 0 ∧ 0 - j ≤ gg ∧ v19 = .int .i64 j ∧ v4 = .int .i64 (sgJ l 0 (sgI l 0) j) ∧ w' = wr)
      case atStart => exact ⟨0, by omega, by omega, rfl, by rw [← HZ.out], rfl⟩
      case round =>
        obtain ⟨j, hj, hg2, rfl, rfl, rfl⟩ := hrel
        by_cases hlt : j < 0
        · have hltz : (j : Int) < 0 := by omega
          have bj : wr.cell? ⟨w1.heap.size, j, none⟩ = some (.int .i64 (rd l (j : Nat))) := by
            have := QI B.out (j : Int) (by omega) (by omega)
            rw [← HPL.out, yny] at this
            exact this
          have hbd := HJ.out j
          obtain ⟨hbd1, hbd2⟩ := hbd
          have HN := zA.mk (HD.out j)
          rw [HX.out] at HN
          generalize sgJ l 0 (sgI l 0) j = sv at HN hbd1 hbd2 ⊢
          generalize rd l (j : Nat) = xj at bj HN
          by_cases hless : xj > x0
          · have hd1 : decide (x0 < xj) = true := ygy hless
            go_wp2
            go_roundg (0 - (j + 1))
            case measure => omega
            case rel => exact ⟨j + 1, by omega, by omega, by go_num, by rw [HN.out, if_pos hless], rfl⟩
          · have hd1 : decide (x0 < xj) = false := yhy hless
            go_wp2
            go_roundg (0 - (j + 1))
            case measure => omega
            case rel => exact ⟨j + 1, by omega, by omega, by go_num, by rw [HN.out, if_neg (by omega)], rfl⟩
        · obtain rfl : j = 0 := by omega
          have HK := zA.mk HE.out.symm
          generalize sgJ l 0 (sgI l 0) 0 = sv at HK ⊢
          go_wp2
          go_roundg (4 - (0 + 1))
          case measure => omega
          case rel => exact ⟨0 + 1, by omega, by omega, by first | rfl | go_num, by rw [HK.out], B, HB⟩
def vis (sg qu : List Int) (ok : Bool) (i k t : Int) : List Int × List Int × Bool :=
  if rd sg k = 0 then (sg.set k.toNat (wrap64 (rd sg (rd qu i) * t)), qu ++ [k], ok) else if rd sg k = wrap64 (-(wrap64 (rd sg (rd qu i) * t))) then (sg, qu, false) else (sg, qu, ok)
structure Sg0 (w0 w : World) (gs gq gi go bs cs : Nat) (i : Int) (sg qu : List Int) (ok : Bool) (vq vr : Value) : Prop where
  below : Below w0.heap.size w0 w
  bS : w.heap[gs]? = some (.cells #[.slice (some ⟨bs, 0, none⟩) sg.length cs] 22 (0, 0))
  bQ : w.heap[gq]? = some (.cells #[vq] 22 (0, 0))
  bI : w.heap[gi]? = some (.cells #[.int .i64 i] 3 (0, 0))
  bO : w.heap[go]? = some (.cells #[.bool ok] 4 (0, 0))
  rS : Kd.R (Kd.int .i64) 2 w w0.heap.size (fun k => k = bs) (.slice (some ⟨bs, 0, none⟩) sg.length cs) sg
  rQ : Kd.R (Kd.int .i64) 2 w w0.heap.size (fun k => k ≠ bs) vr qu
  nsq : gs ≠ gq
  own : w0.heap.size ≤ gq ∧ w0.heap.size ≤ go ∧ w0.heap.size ≤ gi
abbrev Sg (w0 w : World) (gs gq gi go bs cs : Nat) (i : Int) (sg qu : List Int) (ok : Bool) (vq : Value) : Prop := Sg0 w0 w gs gq gi go bs cs i sg qu ok vq vq
section
variable {w0 w w1 : World} {gs gq gi go bs cs : Nat} {i : Int} {sg qu qu' : List Int} {ok : Bool} {vq vr v1 : Value}
theorem Sg0.row (h : Sg0 w0 w gs gq gi go bs cs i sg qu ok vq vr) : ∃ cells, w.heap[bs]? = some (.cells cells 2 (0, 0)) := Kd.zAR h.rS bs (by simp [Value.ownBlock])
theorem Sg0.far (h : Sg0 w0 w gs gq gi go bs cs i sg qu ok vq vr) : gs ≠ bs ∧ gq ≠ bs ∧ gi ≠ bs ∧ go ≠ bs := by
  obtain ⟨cells, hc⟩ := h.row
  exact ⟨Qr h.bS hc (by decide), Qr h.bQ hc (by decide), Qr h.bI hc (by decide), Qr h.bO hc (by decide)⟩
theorem Sg0.drew (h : Sg0 w0 w gs gq gi go bs cs i sg qu ok vq vr) : Sg0 w0 w.drew gs gq gi go bs cs i sg qu ok vq vr :=
  ⟨zD h.below, h.bS, h.bQ, h.bI, h.bO, Kd.zW h.rS, Kd.zW h.rQ, h.nsq, h.own⟩
theorem Sg0.stays (h : Sg0 w0 w gs gq gi go bs cs i sg qu ok vq vr) (hb : Below w.heap.size w w1) : Sg0 w0 w1 gs gq gi go bs cs i sg qu ok vq vr :=
  ⟨zM h.below hb, zP h.bS hb, zP h.bQ hb, zP h.bI hb, zP h.bO hb, Kd.qM h.rS hb, Kd.qM h.rQ hb, h.nsq, h.own⟩
theorem Sg0.sign (h : Sg0 w0 w gs gq gi go bs cs i sg qu ok vq vr) (k v : Int) : Sg0 w0 (w.setCell ⟨bs, k.toNat, none⟩ (.int .i64 v)) gs gq gi go bs cs i (sg.set k.toNat v) qu ok vq vr := by
  obtain ⟨f1, f2, f3, f4⟩ := h.far
  refine ⟨zF h.below (Kd.Zh h.rS bs (by simp [Value.ownBlock])), ?_, qE (p := ⟨bs, k.toNat, none⟩) h.bQ f2 _, qE (p := ⟨bs, k.toNat, none⟩) h.bI f3 _, qE (p := ⟨bs, k.toNat, none⟩) h.bO f4 _, ?_, Kd.ZI (p := ⟨bs, k.toNat, none⟩) h.rQ (fun _ hk => hk) _, h.nsq, h.own⟩
  · rw [List.length_set]; exact qE (p := ⟨bs, k.toNat, none⟩) h.bS f1 _
  · rw [List.length_set]; exact (Kd.JZ h.rS k v).1
theorem Sg0.grown (h : Sg0 w0 w gs gq gi go bs cs i sg qu ok vq vr) (ho : Kd.R (Kd.int .i64) 2 w1 w0.heap.size (fun k => k ≠ bs) v1 qu') (hb : Below w0.heap.size w0 w1) (hg : w.grownBy w1 vr.ownBlock) : Sg0 w0 w1 gs gq gi go bs cs i sg qu' ok vq v1 := by
  have hty := Kd.zAR h.rQ
  have hne : ∀ (g : Nat) (T : TypeId) (c : Array Value), T ≠ 2 → w.heap[g]? = some (.cells c T (0, 0)) → some g ≠ vr.ownBlock := fun g T c hT hc e => by
    obtain ⟨cells, hc2⟩ := hty g e.symm
    exact Qr hc hc2 hT rfl
  exact ⟨hb, qa h.bS hg (hne _ _ _ (by decide) h.bS), qa h.bQ hg (hne _ _ _ (by decide) h.bQ), qa h.bI hg (hne _ _ _ (by decide) h.bI), qa h.bO hg (hne _ _ _ (by decide) h.bO), Kd.zBk h.rS hg (fun k hk e => h.rQ.1 k e.symm hk), ho, h.nsq, h.own⟩
theorem Sg0.queue (h : Sg0 w0 w gs gq gi go bs cs i sg qu ok vq vr) : Sg0 w0 (w.setCell ⟨gq, 0, none⟩ vr) gs gq gi go bs cs i sg qu ok vr vr := by
  obtain ⟨f1, f2, f3, f4⟩ := h.far
  refine ⟨zF h.below h.own.1, qE (p := ⟨gq, 0, none⟩) h.bS h.nsq _, qT h.bQ 0 _ rfl, qE (p := ⟨gq, 0, none⟩) h.bI (Qr h.bI h.bQ (by decide)) _, qE (p := ⟨gq, 0, none⟩) h.bO (Qr h.bO h.bQ (by decide)) _, Kd.ZI (p := ⟨gq, 0, none⟩) h.rS (fun k hk => by rw [hk]; exact fun e => f2 e.symm) _, Kd.zv (Kd.R_set h.rQ h.bQ (by decide) 0 _) (fun _ hk => hk), h.nsq, h.own⟩
theorem Sg0.fails (h : Sg0 w0 w gs gq gi go bs cs i sg qu ok vq vr) (b : Bool) : Sg0 w0 (w.setCell ⟨go, 0, none⟩ (.bool b)) gs gq gi go bs cs i sg qu b vq vr := by
  obtain ⟨f1, f2, f3, f4⟩ := h.far
  refine ⟨zF h.below h.own.2.1, qE (p := ⟨go, 0, none⟩) h.bS (Qr h.bS h.bO (by decide)) _, qE (p := ⟨go, 0, none⟩) h.bQ (Qr h.bQ h.bO (by decide)) _, qE (p := ⟨go, 0, none⟩) h.bI (Qr h.bI h.bO (by decide)) _, qT h.bO 0 _ rfl, Kd.ZI (p := ⟨go, 0, none⟩) h.rS (fun k hk => by rw [hk]; exact fun e => f4 e.symm) _, Kd.zv (Kd.R_set h.rQ h.bO (by decide) 0 _) (fun _ hk => hk), h.nsq, h.own⟩
end
section
variable {w0 w w1 w2 : World} {gs gq gi go bs cs : Nat} {i : Int} {sg qu qu' : List Int} {ok : Bool} {vq vr v1 : Value}
end
abbrev QS (bs gq go : Nat) (b0 : Option Nat) (k : Nat) : Prop := k = bs ∨ k = gq ∨ k = go ∨ some k = b0
set_option maxHeartbeats 8000000 in
set_option maxRecDepth 100000 in
theorem zC0.calls (gs gq gi go bs cs : Nat) (i k t : Int) (sg qu : List Int) (ok : Bool) (vq : Value) (w0 w : World) (hS : Sg w0 w gs gq gi go bs cs i sg qu ok vq)
    (hi0 : 0 ≤ i) (hi1 : i < qu.length) (hq0 : 0 ≤ rd qu i) (hq1 : rd qu i < sg.length) (hk0 : 0 ≤ k) (hk1 : k < sg.length) (hn : qu.length < 1000000) :
    Calls Try.prog 126 #[.int .i64 k, .int .i64 t, .pointer (some ⟨gs, 0, none⟩), .pointer (some ⟨gq, 0, none⟩), .pointer (some ⟨gi, 0, none⟩), .pointer (some ⟨go, 0, none⟩)] w
      fun e w' => e = .returned (.tuple #[]) ∧ ∃ vq', Sg w0 w' gs gq gi go bs cs i (vis sg qu ok i k t).1 (vis sg qu ok i k t).2.1 (vis sg qu ok i k t).2.2 vq' ∧ Kept w w' (QS bs gq go vq.ownBlock) ∧ (vq'.ownBlock = vq.ownBlock ∨ ∃ b, vq'.ownBlock = some b ∧ w.heap.size ≤ b) := by
  obtain ⟨bq, cq, rfl, hbq, hbl, _, HGQ⟩ := Kd.JY hS.rQ (by omega)
  have hqs : bq ≠ bs := hS.rQ.1 bq (by simp [Value.ownBlock])
  have hxS : w.cell? ⟨gs, 0, none⟩ = some (.slice (some ⟨bs, 0, none⟩) sg.length cs) := (zK hS.bS 0).trans rfl
  have hxQ : w.cell? ⟨gq, 0, none⟩ = some (.slice (some ⟨bq, 0, none⟩) qu.length cq) := (zK hS.bQ 0).trans rfl
  have hxI : w.cell? ⟨gi, 0, none⟩ = some (.int .i64 i) := (zK hS.bI 0).trans rfl
  have hxO : w.cell? ⟨go, 0, none⟩ = some (.bool ok) := (zK hS.bO 0).trans rfl
  have hfQ := zN hS.bQ 0
  have hfO := zN hS.bO 0
  obtain ⟨hx1, _⟩ := Kd.ZV 0 hS.rQ i hi0 hi1
  obtain ⟨hx2, _⟩ := Kd.ZV 0 hS.rS (rd qu i) hq0 hq1
  obtain ⟨hx3, hf3⟩ := Kd.ZV 0 hS.rS k hk0 hk1
  replace hx1 : w.cell? ⟨bq, i.toNat, none⟩ = some (.int .i64 (rd qu i)) := hx1
  replace hx2 : w.cell? ⟨bs, (rd qu i).toNat, none⟩ = some (.int .i64 (rd sg (rd qu i))) := hx2
  replace hx3 : w.cell? ⟨bs, k.toNat, none⟩ = some (.int .i64 (rd sg k)) := hx3
  have HV := zA.mk (show vis sg qu ok i k t = if rd sg k = 0 then (sg.set k.toNat (wrap64 (rd sg (rd qu i) * t)), qu ++ [k], ok) else if rd sg k = wrap64 (-(wrap64 (rd sg (rd qu i) * t))) then (sg, qu, false) else (sg, qu, ok) from rfl)
  have HS := zA.mk hS
  have HN := zA.mk hn
  clear hS HGQ hbl hn
  have HQ := zA.mk (And.intro hqs hbq)
  clear hqs hbq
  generalize vis sg qu ok i k t = res at HV ⊢
  generalize rd qu i = q at hx1 hx2 hq0 hq1 HV
  generalize rd sg q = s at hx2 HV
  generalize hsk : rd sg k = sk at hx3 HV
  have HSK := zA.mk hsk
  clear hsk
  go_enter Try.func126, Try.ntmps126
  try go_wp2
  refine Zm (n := 10) (S := fun w' => w'.cell? ⟨gs, 0, none⟩ = some (.slice (some ⟨bs, 0, none⟩) sg.length cs) ∧ w'.cell? ⟨gq, 0, none⟩ = some (.slice (some ⟨bq, 0, none⟩) qu.length cq) ∧ w'.cell? ⟨gi, 0, none⟩ = some (.int .i64 i) ∧ w'.cell? ⟨bq, i.toNat, none⟩ = some (.int .i64 q) ∧ w'.cell? ⟨bs, q.toNat, none⟩ = some (.int .i64 s)) (ds := []) #[false, false, false, false, false, false, false, false, false, false] (by kernel_rfl) rfl rfl ⟨hxS, hxQ, hxI, hx1, hx2⟩ (fun hHeld => ?_)
  refine qz (i := 0) (N := some 9) (v := ?_) (a' := ?_) #[true, false, false, false, false, false, false, false, false, false] rfl rfl (by kernel_rfl) (fun _ _ _ h => h) (Or.inl ⟨by rfl, ?_⟩) hHeld ?_ ?_
  rotate_left
  · rintro w' ⟨s0, s1, s2, s3, s4⟩
    go_simp
    with_reducible rfl
  rotate_left
  · simp only [Act.put, yay, yby, ycy, zZ, zb]
    rfl
  refine qz (i := 1) (N := some 10) (v := ?_) (a' := ?_) #[true, true, false, false, false, false, false, false, false, false] rfl rfl (by kernel_rfl) (fun _ _ _ h => h) (Or.inl ⟨by rfl, ?_⟩) hHeld ?_ ?_
  rotate_left
  · rintro w' ⟨s0, s1, s2, s3, s4⟩
    go_simp
    with_reducible rfl
  rotate_left
  · simp only [Act.put, yay, yby, ycy, zZ, zb]
    rfl
  refine qz (i := 2) (N := some 11) (v := ?_) (a' := ?_) #[true, true, true, false, false, false, false, false, false, false] rfl rfl (by kernel_rfl) (fun _ _ _ h => h) (Or.inl ⟨by rfl, ?_⟩) hHeld ?_ ?_
  rotate_left
  · rintro w' ⟨s0, s1, s2, s3, s4⟩
    go_simp
    with_reducible rfl
  rotate_left
  · simp only [Act.put, yay, yby, ycy, zZ, zb]
    rfl
  refine zj (i := 3) (N := some 12) (v := ?_) (a' := ?_) #[true, true, true, true, false, false, false, false, false, false] rfl rfl (by kernel_rfl) (fun _ _ _ h => h) (Or.inl ⟨by rfl, ?_⟩) ?_ ?_
  rotate_left
  · intro w'
    go_simp
    with_reducible rfl
  rotate_left
  · simp only [Act.put, yay, yby, ycy, zZ, zb]
    rfl
  refine qz (i := 4) (N := some 13) (v := ?_) (a' := ?_) #[true, true, true, true, true, false, false, false, false, false] rfl rfl (by kernel_rfl) (fun _ _ _ h => h) (Or.inl ⟨by rfl, ?_⟩) hHeld ?_ ?_
  rotate_left
  · rintro w' ⟨s0, s1, s2, s3, s4⟩
    go_simp
    with_reducible rfl
  rotate_left
  · simp only [Act.put, yay, yby, ycy, zZ, zb]
    rfl
  refine zj (i := 5) (N := some 14) (v := ?_) (a' := ?_) #[true, true, true, true, true, true, false, false, false, false] rfl rfl (by kernel_rfl) (fun _ _ _ h => h) (Or.inl ⟨by rfl, ?_⟩) ?_ ?_
  rotate_left
  · intro w'
    go_simp
    with_reducible rfl
  rotate_left
  · simp only [Act.put, yay, yby, ycy, zZ, zb]
    rfl
  refine qz (i := 6) (N := some 15) (v := ?_) (a' := ?_) #[true, true, true, true, true, true, true, false, false, false] rfl rfl (by kernel_rfl) (fun _ _ _ h => h) (Or.inl ⟨by rfl, ?_⟩) hHeld ?_ ?_
  rotate_left
  · rintro w' ⟨s0, s1, s2, s3, s4⟩
    go_simp
    with_reducible rfl
  rotate_left
  · simp only [Act.put, yay, yby, ycy, zZ, zb]
    rfl
  refine zj (i := 7) (N := some 16) (v := ?_) (a' := ?_) #[true, true, true, true, true, true, true, true, false, false] rfl rfl (by kernel_rfl) (fun _ _ _ h => h) (Or.inl ⟨by rfl, ?_⟩) ?_ ?_
  rotate_left
  · intro w'
    go_simp
    with_reducible rfl
  rotate_left
  · simp only [Act.put, yay, yby, ycy, zZ, zb]
    rfl
  refine zj (i := 8) (N := some 17) (v := ?_) (a' := ?_) #[true, true, true, true, true, true, true, true, true, false] rfl rfl (by kernel_rfl) (fun _ _ _ h => h) (Or.inl ⟨by rfl, ?_⟩) ?_ ?_
  rotate_left
  · intro w'
    go_simp
    with_reducible rfl
  rotate_left
  · simp only [Act.put, yay, yby, ycy, zZ, zb]
    rfl
  refine zj (i := 9) (N := some 8) (v := ?_) (a' := ?_) #[true, true, true, true, true, true, true, true, true, true] rfl rfl (by kernel_rfl) (fun _ _ _ h => h) (Or.inl ⟨by rfl, ?_⟩) ?_ ?_
  rotate_left
  · intro w'
    go_simp
    with_reducible rfl
  rotate_left
  · simp only [Act.put, yay, yby, ycy, zZ, zb]
    rfl
  refine Qi (by kernel_rfl) ?_
  have HS2 := zA.mk HS.out.drew
  have HO := zA.mk (Kept.drew (Kept.refl w (QS bs gq go (Value.slice (some ⟨bq, 0, none⟩) qu.length cq).ownBlock)))
  clear HS hHeld
  replace hxS : w.drew.cell? ⟨gs, 0, none⟩ = some (.slice (some ⟨bs, 0, none⟩) sg.length cs) := hxS
  replace hxQ : w.drew.cell? ⟨gq, 0, none⟩ = some (.slice (some ⟨bq, 0, none⟩) qu.length cq) := hxQ
  replace hx3 : w.drew.cell? ⟨bs, k.toNat, none⟩ = some (.int .i64 sk) := hx3
  replace hf3 : w.drew.frozen? ⟨bs, k.toNat, none⟩ = false := hf3
  replace hfQ : w.drew.frozen? ⟨gq, 0, none⟩ = false := hfQ
  replace hfO : w.drew.frozen? ⟨go, 0, none⟩ = false := hfO
  replace hxO : w.drew.cell? ⟨go, 0, none⟩ = some (.bool ok) := hxO
  clear hx1 hx2 hxI
  generalize w.drew = wd at *
  generalize wrap64 (s * t) = want at HV ⊢
  by_cases c0 : sk = 0
  · subst c0
    rw [if_pos rfl] at HV
    clear hxO hfO
    go_wp2_with (first
      | ((with_reducible refine ZQ (t := 2) (p := 27) rfl ?_); refine ZE (t := 2) (p := 27) (v := ?vo) (w1 := (wd.setCell ⟨bs, k.toNat, none⟩ (.int .i64 want))) ?hg ?ho ?hn ?hr ?_; (case ho => rfl); (case hg => rfl); (case hn => rfl); (case hr => first | (go_simp; done) | (go_simp; rfl)); intro w2 hw; have HS3 := zA.mk (show Sg0 w0 w2 gs gq gi go bs cs i (sg.set k.toNat want) qu ok _ _ by rw [hw]; exact HS2.out.sign k want); have HO3 := zA.mk (show Kept w w2 (QS bs gq go (Value.slice (some ⟨bq, 0, none⟩) qu.length cq).ownBlock) by rw [hw]; exact HO.out.setCell (p := ⟨bs, k.toNat, none⟩) (.inl (.inl rfl)) _); clear HS2 HO hw hxS hxQ hx3 hf3 hfQ; have hxQ : w2.cell? ⟨gq, 0, none⟩ = some (.slice (some ⟨bq, 0, none⟩) qu.length cq) := (zK HS3.out.bQ 0).trans rfl)
      | ((with_reducible refine ZS (b := .append) (xs := #[.tmp 28, .tmp 30]) rfl ?_); at_builtin; refine Kd.Qf (Kd.int .i64) (w0 := w0) w0.heap.size rfl (.tmp 28) (.tmp 30) 22 2 (.int .i64 0) 8 rfl Try.underlying22 JS rfl (by decide) (by omega) (.slice (some ⟨bq, 0, none⟩) qu.length cq) qu k [.int .i64 k] (fun k => k ≠ bs) (fun _ => False) rfl rfl ?aP (fun _ hk => hk.elim) ?aF ?aO ?aB ?aS ?aL ?_; (case aP => exact rfl); (case aB => exact HS3.out.below); (case aF => exact (fun k_ hk_ e_ => by obtain ⟨_, hc_⟩ := HS3.out.row; have := qN hc_; omega)); (case aO => exact HS3.out.rQ); (case aS => exact zO HS3.out.below); (case aL => have := HN.out; omega); intro v1 w3 ho hb hg hat; obtain ⟨A1, c1, rfl⟩ := Kd.ZH ho; have HS4 := zA.mk (HS3.out.grown ho hb hg); have HAT : zA ((Value.slice A1 (qu ++ [k]).length c1).ownBlock = (Value.slice (some ⟨bq, 0, none⟩) qu.length cq).ownBlock ∨ ∃ b, (Value.slice A1 (qu ++ [k]).length c1).ownBlock = some b ∧ w.heap.size ≤ b) := ⟨by rcases hat with h_ | ⟨b_, h1_, h2_⟩; exact .inl h_; exact .inr ⟨b_, h1_, Nat.le_trans HO3.out.1 h2_⟩⟩; have HO4 := zA.mk (Kept.zFU hg HO3.out (fun k_ hk_ => .inl (.inr (.inr (.inr hk_.symm))))); clear HO3 HS3 ho hb hg hat hxQ; have hxQ : w3.cell? ⟨gq, 0, none⟩ = some (.slice (some ⟨bq, 0, none⟩) qu.length cq) := (zK HS4.out.bQ 0).trans rfl; have hfQ := zN HS4.out.bQ 0))
    try go_wp2
    first | go_end0 | ((try simp only [Exit.inBlock, Exit.then]); refine bodyPost_ret (results_none rfl _ _ _) rfl ?_)
    refine ⟨?_, .slice A1 (qu.length + 1) c1, ?_, HO4.out.setCell (p := ⟨gq, 0, none⟩) (.inl (.inr (.inl rfl))) _, by have q_ := HAT.out; rw [List.length_append] at q_; exact q_⟩
    · first | rfl | (simp <;> rfl)
    · rw [HV.out]
      have h5 := HS4.out.queue
      rw [List.length_append] at h5
      exact h5
  · have d0 : (sk == 0) = false := by simp [c0]
    have d0' : decide (sk = 0) = false := yhy c0
    rw [if_neg c0] at HV
    by_cases c1 : sk = wrap64 (-want)
    · rw [if_pos c1] at HV
      have d1 : (sk == wrap64 (-want)) = true := beq_iff_eq.mpr c1
      have d1' : decide (sk = wrap64 (-want)) = true := ygy c1
      clear c0 c1
      try go_wp2
      first | go_end0 | ((try simp only [Exit.inBlock, Exit.then]); refine bodyPost_ret (results_none rfl _ _ _) rfl ?_)
      refine ⟨?_, _, by rw [HV.out]; exact HS2.out.fails false, HO.out.setCell (p := ⟨go, 0, none⟩) (.inl (.inr (.inr (.inl rfl)))) _, .inl rfl⟩
      first | rfl | (simp <;> rfl)
    · rw [if_neg c1] at HV
      have d1 : (sk == wrap64 (-want)) = false := by simp [c1]
      have d1' : decide (sk = wrap64 (-want)) = false := yhy c1
      clear c0 c1
      go_wp2
      first | go_end0 | ((try simp only [Exit.inBlock, Exit.then]); refine bodyPost_ret (results_none rfl _ _ _) rfl ?_)
      refine ⟨?_, _, by rw [HV.out]; exact HS2.out, HO.out, .inl rfl⟩
      first | rfl | (simp <;> rfl)
def zAg (t : List (List qA)) (cls : List Int) (c i x : Int) : List Int → List Int × List Int × Bool → List Int × List Int × Bool
 | [], s => s
 | f :: fs, s => zAg t cls c i x fs (if rd cls x = c ∧ ¬ (zI (zE t (x / 4)) f).f0 < 0 then vis s.1 s.2.1 s.2.2 i (4 * (zI (zE t (x / 4)) f).f0 + rd (qi (zI (zE t (x / 4)) f).f1) (x % 4)) (wrap64 (-(zAl (zI (zE t (x / 4)) f).f1))) else s)
theorem lo_sg (sg qu : List Int) (ok : Bool) (i k t : Int) : (vis sg qu ok i k t).1.length = sg.length := by
 unfold vis
 split
 next =>
  simp
 next =>
  split <;> rfl
theorem lo_qu (sg qu : List Int) (ok : Bool) (i k t : Int) : (vis sg qu ok i k t).2.1 = qu ∨ (vis sg qu ok i k t).2.1 = qu ++ [k] := by
 unfold vis
 split
 next =>
  right; rfl
 next =>
  split <;> (left; rfl)
theorem zG2 (qu : List Int) (k i : Int) (h0 : 0 ≤ i) (h1 : i < qu.length) : rd (qu ++ [k]) i = rd qu i := by
 obtain ⟨n, rfl⟩ := Int.eq_ofNat_of_zero_le h0
 rw [rd, rd, yny, List.getD_eq_getElem?_getD, List.getD_eq_getElem?_getD, List.getElem?_append_left (by omega)]
theorem zFe {w w' : World} {b bs gq go : Nat} {b0 b1 : Option Nat} {v : Value} {L : List Int} (h : Kd.R (Kd.int .i64) 2 w b (fun k => k ≠ bs ∧ k ≠ gq ∧ k ≠ go ∧ some k ≠ b0) v L) (hk : Kept w w' (QS bs gq go b0)) (hq : b1 = b0 ∨ ∃ q, b1 = some q ∧ w.heap.size ≤ q) : Kd.R (Kd.int .i64) 2 w' b (fun k => k ≠ bs ∧ k ≠ gq ∧ k ≠ go ∧ some k ≠ b1) v L := by
 refine Kd.zv (Kd.zEZ (Kd.QB h) hk (fun k h1 h2 => ?_)) (fun k h1 => ⟨h1.1.1, h1.1.2.1, h1.1.2.2.1, fun e => ?_⟩)
 next =>
  rcases h2 with e | e | e | e
  next =>
   exact h1.1.1 e
  next =>
   exact h1.1.2.1 e
  next =>
   exact h1.1.2.2.1 e
  next =>
   exact h1.1.2.2.2 e
 next =>
  rcases hq with rfl | ⟨q, rfl, hq⟩
  next =>
   exact h1.1.2.2.2 e
  next =>
   cases e
   have := h1.2.2.1
   omega
theorem lo_bd (p : Int) : -1 ≤ zAl p ∧ zAl p ≤ 1 := zEk _ _
set_option maxHeartbeats 8000000 in
set_option maxRecDepth 100000 in
theorem JW.calls (l : List (List qA)) (A0 : Option Addr) (c0 gt gK ge : Nat) (AK : Option Addr) (ck : Nat) (cls : List Int) (c x : Int) (gs gq gi go bs cs : Nat) (i : Int) (sg0 qu0 : List Int) (ok0 : Bool) (vq0 : Value) (w0 w : World)
 (hS : Sg w0 w gs gq gi go bs cs i sg0 qu0 ok0 vq0) (bT : w0.heap[gt]? = some (.cells #[.slice A0 l.length c0] 35 (0, 0))) (hT : Kd.C (Kd.slice 75 ZT) w0 A0 l.length l)
 (bK : w0.heap[gK]? = some (.cells #[.slice AK cls.length ck] 22 (0, 0))) (hK : Kd.C (Kd.int .i64) w0 AK cls.length cls) (bE : w0.heap[ge]? = some (.cells #[.int .i64 c] 2 (0, 0)))
 (hl8 : l.length ≤ 8) (hcl : cls.length = 4 * l.length) (hx0 : 0 ≤ x) (hx1 : x < 4 * (l.length : Int)) (hsg : sg0.length = 4 * l.length) (hi0 : 0 ≤ i) (hi1 : i < qu0.length) (hq0 : 0 ≤ rd qu0 i) (hq1 : rd qu0 i < 4 * (l.length : Int))
 (hr : ∀ r ∈ l, r.length = 4) (hF : ∀ r ∈ l, ∀ y ∈ r, ¬ y.f0 < 0 → 0 ≤ y.f0 ∧ y.f0 < (l.length : Int) ∧ 0 ≤ y.f1 ∧ y.f1 ≤ 23) (hn : qu0.length < 999000) :
 Calls Try.prog 104 #[.int .i64 x, .func (.func 126) #[] #[.pointer (some ⟨gs, 0, none⟩), .pointer (some ⟨gq, 0, none⟩), .pointer (some ⟨gi, 0, none⟩), .pointer (some ⟨go, 0, none⟩)], .pointer (some ⟨gt, 0, none⟩), .pointer (some ⟨gK, 0, none⟩), .pointer (some ⟨ge, 0, none⟩)] w
  fun e w' => e = .returned (.tuple #[]) ∧ ∃ vq', Sg w0 w' gs gq gi go bs cs i (zAg l cls c i x (zB6 [x % 4]) (sg0, qu0, ok0)).1 (zAg l cls c i x (zB6 [x % 4]) (sg0, qu0, ok0)).2.1 (zAg l cls c i x (zB6 [x % 4]) (sg0, qu0, ok0)).2.2 vq' := by
 have hdv : Int.tdiv x 4 = x / 4 := Int.tdiv_eq_ediv_of_nonneg hx0
 have hmd : Int.tmod x 4 = x % 4 := Int.tmod_eq_emod_of_nonneg hx0
 have hwd : wrap64 (Int.tdiv x 4) = x / 4 := by rw [hdv]; exact Lib.qo (by omega) (by omega)
 have ha0 : 0 ≤ x / 4 := by omega
 have ha1 : x / 4 < (l.length : Int) := by omega
 have hv0 : 0 ≤ x % 4 := by omega
 have hv1 : x % 4 ≤ 3 := by omega
 have HV := zA.mk (show ∀ L s, zAg l cls c i x L s = zAg l cls c i x L s from fun _ _ => rfl)
 have hrd : zE l (x / 4) ∈ l := by
  obtain ⟨d, hd⟩ := Int.eq_ofNat_of_zero_le ha0
  rw [hd] at ha1 ⊢
  have hd2 : d < l.length := by omega
  have e : zE l (d : Int) = l[d] := by simp [zE, hd2]
  rw [e]; exact List.getElem_mem _
 have hr4 := hr _ hrd
 have hFr := hF _ hrd
 obtain ⟨ad1, A1, c1, e1, hy1, hl1, hC1⟩ := ZO hT (x / 4) ha0 ha1
 subst e1
 obtain ⟨adk, ek, hkx⟩ := Kd.ZK hK x hx0 (by omega)
 subst ek
 have hyT : w0.cell? ⟨gt, 0, none⟩ = some (.slice (some ad1) l.length c0) := (zK bT 0).trans rfl
 have hyK : w0.cell? ⟨gK, 0, none⟩ = some (.slice (some adk) cls.length ck) := (zK bK 0).trans rfl
 have hyE : w0.cell? ⟨ge, 0, none⟩ = some (.int .i64 c) := (zK bE 0).trans rfl
 have H0T := zA.mk hyT
 have H0K := zA.mk hyK
 have H0E := zA.mk hyE
 have H0Y := zA.mk hy1
 have H0X := zA.mk hkx
 have HC1 := zA.mk hC1
 have HS := zA.mk hS
 have HF := zA.mk hFr
 have HR := zA.mk (And.intro hr4 (And.intro hsg hn))
 have HQ := zA.mk (And.intro hi0 (And.intro hi1 (And.intro hq0 hq1)))
 clear hC1 hS hF hr hsg hn hi0 hi1 hq0 hq1 hT bT hK bK bE hrd hr4 hFr hyT hyK hyE hy1 hkx HV
 have HCF : zA (∀ (W : World) (g : Nat), W.heap.size = g → Kd.C (Kd.int .i64) (W.alloc (.cells #[.int .i64 (x % 4)] 2)) (some ⟨g, 0, none⟩) 1 [x % 4]) := ⟨fun W g hg => by subst hg; exact (Kd.zx (show Kd.R (Kd.int .i64) 2 (W.alloc (.cells #[.int .i64 (x % 4)] 2)) W.heap.size (fun _ => True) (.slice (some ⟨W.heap.size, 0, none⟩) 1 1) [x % 4] from
  Kd.Jt ⟨by simp [zAP], .inr ⟨W.heap.size, 1, #[.int .i64 (x % 4)], rfl, yqy _, Zb rfl _, yqy 1, by decide, rfl, rfl⟩⟩ (fun _ _ => trivial))).2.2⟩
 generalize hRR : zAg l cls c i x (zB6 [x % 4]) (sg0, qu0, ok0) = RR
 have HRR := zA.mk hRR
 clear hRR
 go_enter Try.func104, Try.ntmps104
 go_wp2_with fail
 refine (Qy.calls _ 1 [x % 4] (zB6 [x % 4]) _ (HCF.out _ _ rfl) (yqy 1) rfl).mono ?_
 rintro ed w2 ⟨v0, rfl, ho, hb⟩
 have hb2 : Below w.heap.size w w2 := zM (zC (yry _ _) _) hb
 have hgq := qN HS.out.bQ
 have hgo := qN HS.out.bO
 have hbs := qN HS.out.row.choose_spec
 have hvq := Kd.JC HS.out.rQ
 have hw0 := HS.out.below.size
 have hsz : (w.alloc (.cells #[.int .i64 (x % 4)] 2)).heap.size = w.heap.size + 1 := by simp
 have HO : zA (Kd.R (Kd.int .i64) 2 w2 w0.heap.size (fun k => k ≠ bs ∧ k ≠ gq ∧ k ≠ go ∧ some k ≠ vq0.ownBlock) v0 (zB6 [x % 4])) := ⟨Kd.ZB (Kd.zv (Kd.QB ho) (fun k hk => by
  have h1 := hk.2.1
  rw [hsz] at h1
  exact ⟨by omega, by omega, by omega, fun e => by have := hvq k e.symm; omega⟩)) (by omega)⟩
 have HS2 := zA.mk (HS.out.stays hb2)
 have HLM := zA.mk (show ∀ q ∈ zB6 [x % 4], sm q from fun q hq => (zAV hq).1)
 have hl4 : (zB6 [x % 4]).length ≤ 4 := List.length_filter_le _ _
 clear HS ho hb hb2 hgq hgo hbs hvq hw0 hsz HCF
 have HS := HS2
 clear HS2
 obtain ⟨A2, c2, ev⟩ := Kd.ZH HO.out
 subst ev
 generalize zB6 [x % 4] = L at HO HLM hl4 HRR ⊢
 have HA0 : zA (zAg l cls c i x (L.drop 0) (sg0, qu0, ok0) = RR) := ⟨by rw [List.drop_zero]; exact HRR.out⟩
 generalize hgA : x / 4 = a at *
 generalize hgV : x % 4 = v at *
 go_wp2
 go_loopg [20] L.length (fun gg v20 w' => ∃ (j : Nat) (sg qu : List Int) (ok : Bool) (vq : Value), j ≤ L.length ∧ L.length - j ≤ gg ∧ v20 = .int .i64 j ∧ zA (zAg l cls c i x (L.drop j) (sg, qu, ok) = RR) ∧ zA (Sg w0 w' gs gq gi go bs cs i sg qu ok vq) ∧ zA (sg.length = 4 * l.length ∧ i < qu.length ∧ rd qu i = rd qu0 i ∧ qu.length ≤ qu0.length + j) ∧ zA (Kd.R (Kd.int .i64) 2 w' w0.heap.size (fun k => k ≠ bs ∧ k ≠ gq ∧ k ≠ go ∧ some k ≠ vq.ownBlock) (.slice A2 L.length c2) L))
 case atStart => exact ⟨0, sg0, qu0, ok0, vq0, Nat.zero_le _, by omega, rfl, HA0, HS, ⟨HR.out.2.1, HQ.out.2.1, rfl, by omega⟩, HO⟩
 case round =>
  clear HS HA0 HO
  obtain ⟨j, sg, qu, ok, vq, hj, hg, rfl, HA, HS, HX, HO⟩ := hrel
  by_cases hlt : j < L.length
  rotate_left
  next =>
   obtain rfl : j = L.length := by omega
   go_wp2
   first | go_end0 | ((try simp only [Exit.inBlock, Exit.then]); refine bodyPost_ret (results_none rfl _ _ _) rfl ?_)
   have HA2 := HA.out
   rw [List.drop_length, zAg] at HA2
   refine ⟨?_, vq, ?_⟩
   next =>
    first | rfl | (simp <;> rfl)
   next =>
    rw [← HA2]; exact HS.out
  have hltz : (j : Int) < (L.length : Int) := by omega
  obtain ⟨ad2, e2, hx2⟩ := Kd.ZK (Kd.zx HO.out).2.2 (j : Int) (by omega) hltz
  have ex : rd L (j : Int) = L[j] := by simp [rd, hlt]
  rw [ex, yny] at hx2
  obtain ⟨hf0, hf1⟩ := HLM.out L[j] (List.getElem_mem hlt)
  have HA2 := HA.out
  rw [yoy hlt, zAg, hgA, hgV] at HA2
  have HA3 := zA.mk HA2
  clear HA HA2 ex
  generalize L[j] = f at hx2 hf0 hf1 HA3
  have hf4 : f < 4 := by omega
  have hr4 : (zE l a).length = 4 := HR.out.1
  obtain ⟨adf, ef, hz0, hz1⟩ := Zp HC1.out f hf0 (by omega)
  subst ef
  rw [hr4] at H0Y
  have HFB := zA.mk (show ¬ (zI (zE l a) f).f0 < 0 → 0 ≤ (zI (zE l a) f).f0 ∧ (zI (zE l a) f).f0 < (l.length : Int) ∧ 0 ≤ (zI (zE l a) f).f1 ∧ (zI (zE l a) f).f1 ≤ 23 from by
   obtain ⟨fn, hfn⟩ := Int.eq_ofNat_of_zero_le hf0
   rw [hfn] at hf4 ⊢
   have hlf : fn < (zE l a).length := by omega
   have e2 : zI (zE l a) (fn : Int) = (zE l a)[fn] := by simp [zI, hlf]
   rw [e2]
   exact fun hq => HF.out _ (List.getElem_mem hlf) (by omega))
  have hyT := (HS.out.below.cell (ypy w0 _ H0T.out)).trans H0T.out
  have hy1 := (HS.out.below.cell (ypy w0 _ H0Y.out)).trans H0Y.out
  replace hz0 := (HS.out.below.cell (ypy w0 _ hz0)).trans hz0
  replace hz1 := (HS.out.below.cell (ypy w0 _ hz1)).trans hz1
  have HCC := zA.mk ((HS.out.below.cell (ypy w0 _ H0K.out)).trans H0K.out)
  have HCE := zA.mk ((HS.out.below.cell (ypy w0 _ H0X.out)).trans H0X.out)
  have HCL := zA.mk ((HS.out.below.cell (ypy w0 _ H0E.out)).trans H0E.out)
  generalize zI (zE l a) f = y at hz0 hz1 HFB HA3
  obtain ⟨f0, f1⟩ := y
  subst e2
  dsimp only at HA3 HFB
  go_wp2
  have BF := zA.mk (Zb (W := wr) rfl (.cells #[.int .i64 f0, .int .i64 f1] 75))
  have hal : Below wr.heap.size wr (wr.alloc (.cells #[.int .i64 f0, .int .i64 f1] 75)) := zC (yry _ _) _
  have HS3 := zA.mk (HS.out.stays hal)
  have HO3 := zA.mk (Kd.qM HO.out hal)
  have HC53 := (hal.cell (ypy _ _ HCC.out)).trans HCC.out
  have HC63 := (hal.cell (ypy _ _ HCL.out)).trans HCL.out
  have HC73 := (hal.cell (ypy _ _ HCE.out)).trans HCE.out
  clear HS HO HCC HCL HCE hal hyT hy1 hz0 hz1 hx2
  have HS := HS3
  have HO := HO3
  have HCC := zA.mk HC53
  have HCL := zA.mk HC63
  have HCE := zA.mk HC73
  clear HS3 HO3 HC53 HC63 HC73
  generalize World.alloc wr _ = w3 at BF HS HO HCC HCL HCE ⊢
  generalize wr.heap.size = gf at BF ⊢
  obtain ⟨y, hyx⟩ : ∃ y, rd cls x = y := ⟨_, rfl⟩
  rw [hyx] at HA3 HCE
  have hx0' := hx0
  have px := eq_true hx0
  have px2 := eq_true (show x < (cls.length : Int) by omega)
  obtain ⟨bb, hbb⟩ : ∃ b, decide (f0 < 0) = b := ⟨_, rfl⟩
  have HISB := zA.mk (show qm.f f0 f1 = some bb by unfold qm.f; rw [hbb])
  have HBB := zA.mk hbb
  clear hbb
  by_cases hcc : y = c
  rotate_left
  next =>
   have b1 : (y == c) = false := by simpa using hcc
   have HA4 := zA.mk (show zAg l cls c i x (L.drop (j + 1)) (sg, qu, ok) = RR by have h9 := HA3.out; rwa [if_neg (fun k => hcc k.1)] at h9)
   clear HA3 HISB HBB
   refine Zm (n := 11) (S := fun w' => w'.cell? ⟨gK, 0, none⟩ = some (.slice (some adk) cls.length ck) ∧ w'.cell? (adk.add x.toNat) = some (.int .i64 y) ∧ w'.cell? ⟨ge, 0, none⟩ = some (.int .i64 c) ∧ w'.cell? ⟨gf, 0, none⟩ = some (.int .i64 f0) ∧ w'.cell? ⟨gf, 1, none⟩ = some (.int .i64 f1)) (ds := []) #[false, false, false, false, false, false, false, false, false, false, false] (by kernel_rfl) rfl rfl ⟨HCC.out, HCE.out, HCL.out, (zK BF.out 0).trans rfl, (zK BF.out 1).trans rfl⟩ (fun hHeld => ?_)
   have HS3 := zA.mk HS.out.drew
   have BF3 := zA.mk (zJ BF.out)
   have HO3 := zA.mk (Kd.zW HO.out)
   replace HCC := zA.mk (show w3.drew.cell? ⟨gK, 0, none⟩ = _ from HCC.out)
   replace HCE := zA.mk (show w3.drew.cell? (adk.add x.toNat) = _ from HCE.out)
   replace HCL := zA.mk (show w3.drew.cell? ⟨ge, 0, none⟩ = _ from HCL.out)
   clear HS BF HO
   have HS := HS3
   have BF := BF3
   have HO := HO3
   clear HS3 BF3 HO3
   generalize w3.drew = w4 at HS BF HO HCC HCL HCE hHeld ⊢
   refine qz (i := 0) (N := some 32) (v := ?_) (a' := ?_) #[true, false, false, false, false, false, false, false, false, false, false] rfl rfl (by kernel_rfl) (fun _ _ _ h => h) (Or.inl ⟨by rfl, ?_⟩) hHeld ?_ ?_
   rotate_left
   next =>
    rintro w' ⟨s0, s1, s2, s3, s4⟩
    go_simp
    with_reducible rfl
   rotate_left
   next =>
    simp only [Act.put, yay, yby, ycy, zZ, zb]
    rfl
   refine zj (i := 1) (N := some 33) (v := ?_) (a' := ?_) #[true, true, false, false, false, false, false, false, false, false, false] rfl rfl (by kernel_rfl) (fun _ _ _ h => h) (Or.inl ⟨by rfl, ?_⟩) ?_ ?_
   rotate_left
   next =>
    intro w'
    go_simp
    with_reducible rfl
   rotate_left
   next =>
    simp only [Act.put, yay, yby, ycy, zZ, zb]
    rfl
   refine zj (i := 2) (N := some 34) (v := ?_) (a' := ?_) #[true, true, true, false, false, false, false, false, false, false, false] rfl rfl (by kernel_rfl) (fun _ _ _ h => h) (Or.inl ⟨by rfl, ?_⟩) ?_ ?_
   rotate_left
   next =>
    intro w'
    go_simp
    with_reducible rfl
   rotate_left
   next =>
    simp only [Act.put, yay, yby, ycy, zZ, zb]
    rfl
   refine qz (i := 3) (N := some 35) (v := ?_) (a' := ?_) #[true, true, true, true, false, false, false, false, false, false, false] rfl rfl (by kernel_rfl) (fun _ _ _ h => h) (Or.inl ⟨by rfl, ?_⟩) hHeld ?_ ?_
   rotate_left
   next =>
    rintro w' ⟨s0, s1, s2, s3, s4⟩
    go_simp
    with_reducible rfl
   rotate_left
   next =>
    simp only [Act.put, yay, yby, ycy, zZ, zb]
    rfl
   refine qz (i := 4) (N := some 36) (v := ?_) (a' := ?_) #[true, true, true, true, true, false, false, false, false, false, false] rfl rfl (by kernel_rfl) (fun _ _ _ h => h) (Or.inl ⟨by rfl, ?_⟩) hHeld ?_ ?_
   rotate_left
   next =>
    rintro w' ⟨s0, s1, s2, s3, s4⟩
    go_simp
    with_reducible rfl
   rotate_left
   next =>
    simp only [Act.put, yay, yby, ycy, zZ, zb]
    rfl
   refine zj (i := 5) (N := some 37) (v := ?_) (a' := ?_) #[true, true, true, true, true, true, false, false, false, false, false] rfl rfl (by kernel_rfl) (fun _ _ _ h => h) (Or.inl ⟨by rfl, ?_⟩) ?_ ?_
   rotate_left
   next =>
    intro w'
    go_simp
    with_reducible rfl
   rotate_left
   next =>
    simp only [Act.put, yay, yby, ycy, zZ, zb]
    rfl
   refine zj (i := 6) (N := some 38) (v := ?_) (a' := ?_) #[true, true, true, true, true, true, true, false, false, false, false] rfl rfl (by kernel_rfl) (fun _ _ _ h => h) (Or.inl ⟨by rfl, ?_⟩) ?_ ?_
   rotate_left
   next =>
    intro w'
    go_simp
    with_reducible rfl
   rotate_left
   next =>
    simp only [Act.put, yay, yby, ycy, zZ, zb]
    rfl
   refine zj (i := 7) (N := some 39) (v := undef) (a' := ?_) #[true, true, true, true, true, true, true, true, false, false, false] rfl rfl (by kernel_rfl) (fun _ _ _ h => h) (Or.inr ⟨by rfl, rfl⟩) ?_ ?_
   rotate_left
   next =>
    simp only [Act.put, yay, yby, ycy, zZ, zb]
    rfl
   refine zj (i := 8) (N := some 40) (v := undef) (a' := ?_) #[true, true, true, true, true, true, true, true, true, false, false] rfl rfl (by kernel_rfl) (fun _ _ _ h => h) (Or.inr ⟨by rfl, rfl⟩) ?_ ?_
   rotate_left
   next =>
    simp only [Act.put, yay, yby, ycy, zZ, zb]
    rfl
   refine zj (i := 9) (N := some 41) (v := undef) (a' := ?_) #[true, true, true, true, true, true, true, true, true, true, false] rfl rfl (by kernel_rfl) (fun _ _ _ h => h) (Or.inr ⟨by rfl, rfl⟩) ?_ ?_
   rotate_left
   next =>
    simp only [Act.put, yay, yby, ycy, zZ, zb]
    rfl
   refine zj (i := 10) (N := some 42) (v := ?_) (a' := ?_) #[true, true, true, true, true, true, true, true, true, true, true] rfl rfl (by kernel_rfl) (fun _ _ _ h => h) (Or.inl ⟨by rfl, ?_⟩) ?_ ?_
   rotate_left
   next =>
    intro w'
    go_simp
    with_reducible rfl
   rotate_left
   next =>
    simp only [Act.put, yay, yby, ycy, zZ, zb]
    rfl
   refine Qi (by kernel_rfl) ?_
   clear hHeld HCC HCL HCE
   go_wp2
   go_roundg (L.length - (j + 1))
   case measure => omega
   case rel => exact ⟨j + 1, sg, qu, ok, vq, by omega, by omega, by go_num, HA4, HS, ⟨HX.out.1, HX.out.2.1, HX.out.2.2.1, by have := HX.out.2.2.2; omega⟩, HO⟩
  have b1 : (y == c) = true := by rw [hcc]; exact beq_self_eq_true _
  have HA4 : zA (zAg l cls c i x (L.drop (j + 1)) (if ¬ f0 < 0 then vis sg qu ok i (4 * f0 + rd (qi f1) v) (wrap64 (-(zAl f1))) else (sg, qu, ok)) = RR) := ⟨by
   have h9 := HA3.out
   by_cases hb : f0 < 0
   next =>
    rw [if_neg (fun k => by have := k.2; omega)] at h9
    rw [if_neg (fun k => k hb)]; exact h9
   next =>
    rw [if_pos ⟨hcc, by omega⟩] at h9
    rw [if_pos hb]; exact h9⟩
  clear HA3
  refine Zm (n := 11) (S := fun w' => w'.cell? ⟨gK, 0, none⟩ = some (.slice (some adk) cls.length ck) ∧ w'.cell? (adk.add x.toNat) = some (.int .i64 y) ∧ w'.cell? ⟨ge, 0, none⟩ = some (.int .i64 c) ∧ w'.cell? ⟨gf, 0, none⟩ = some (.int .i64 f0) ∧ w'.cell? ⟨gf, 1, none⟩ = some (.int .i64 f1)) (ds := []) #[false, false, false, false, false, false, false, false, false, false, false] (by kernel_rfl) rfl rfl ⟨HCC.out, HCE.out, HCL.out, (zK BF.out 0).trans rfl, (zK BF.out 1).trans rfl⟩ (fun hHeld => ?_)
  have HS3 := zA.mk HS.out.drew
  have BF3 := zA.mk (zJ BF.out)
  have HO3 := zA.mk (Kd.zW HO.out)
  replace HCC := zA.mk (show w3.drew.cell? ⟨gK, 0, none⟩ = _ from HCC.out)
  replace HCE := zA.mk (show w3.drew.cell? (adk.add x.toNat) = _ from HCE.out)
  replace HCL := zA.mk (show w3.drew.cell? ⟨ge, 0, none⟩ = _ from HCL.out)
  clear HS BF HO
  have HS := HS3
  have BF := BF3
  have HO := HO3
  clear HS3 BF3 HO3
  generalize w3.drew = w4 at HS BF HO HCC HCL HCE hHeld ⊢
  refine qz (i := 0) (N := some 32) (v := ?_) (a' := ?_) #[true, false, false, false, false, false, false, false, false, false, false] rfl rfl (by kernel_rfl) (fun _ _ _ h => h) (Or.inl ⟨by rfl, ?_⟩) hHeld ?_ ?_
  rotate_left
  next =>
   rintro w' ⟨s0, s1, s2, s3, s4⟩
   go_simp
   with_reducible rfl
  rotate_left
  next =>
   simp only [Act.put, yay, yby, ycy, zZ, zb]
   rfl
  refine zj (i := 1) (N := some 33) (v := ?_) (a' := ?_) #[true, true, false, false, false, false, false, false, false, false, false] rfl rfl (by kernel_rfl) (fun _ _ _ h => h) (Or.inl ⟨by rfl, ?_⟩) ?_ ?_
  rotate_left
  next =>
   intro w'
   go_simp
   with_reducible rfl
  rotate_left
  next =>
   simp only [Act.put, yay, yby, ycy, zZ, zb]
   rfl
  refine zj (i := 2) (N := some 34) (v := ?_) (a' := ?_) #[true, true, true, false, false, false, false, false, false, false, false] rfl rfl (by kernel_rfl) (fun _ _ _ h => h) (Or.inl ⟨by rfl, ?_⟩) ?_ ?_
  rotate_left
  next =>
   intro w'
   go_simp
   with_reducible rfl
  rotate_left
  next =>
   simp only [Act.put, yay, yby, ycy, zZ, zb]
   rfl
  refine qz (i := 3) (N := some 35) (v := ?_) (a' := ?_) #[true, true, true, true, false, false, false, false, false, false, false] rfl rfl (by kernel_rfl) (fun _ _ _ h => h) (Or.inl ⟨by rfl, ?_⟩) hHeld ?_ ?_
  rotate_left
  next =>
   rintro w' ⟨s0, s1, s2, s3, s4⟩
   go_simp
   with_reducible rfl
  rotate_left
  next =>
   simp only [Act.put, yay, yby, ycy, zZ, zb]
   rfl
  refine qz (i := 4) (N := some 36) (v := ?_) (a' := ?_) #[true, true, true, true, true, false, false, false, false, false, false] rfl rfl (by kernel_rfl) (fun _ _ _ h => h) (Or.inl ⟨by rfl, ?_⟩) hHeld ?_ ?_
  rotate_left
  next =>
   rintro w' ⟨s0, s1, s2, s3, s4⟩
   go_simp
   with_reducible rfl
  rotate_left
  next =>
   simp only [Act.put, yay, yby, ycy, zZ, zb]
   rfl
  refine zj (i := 5) (N := some 37) (v := ?_) (a' := ?_) #[true, true, true, true, true, true, false, false, false, false, false] rfl rfl (by kernel_rfl) (fun _ _ _ h => h) (Or.inl ⟨by rfl, ?_⟩) ?_ ?_
  rotate_left
  next =>
   intro w'
   go_simp
   with_reducible rfl
  rotate_left
  next =>
   simp only [Act.put, yay, yby, ycy, zZ, zb]
   rfl
  refine zj (i := 6) (N := some 38) (v := ?_) (a' := ?_) #[true, true, true, true, true, true, true, false, false, false, false] rfl rfl (by kernel_rfl) (fun _ _ _ h => h) (Or.inl ⟨by rfl, ?_⟩) ?_ ?_
  rotate_left
  next =>
   intro w'
   go_simp
   with_reducible rfl
  rotate_left
  next =>
   simp only [Act.put, yay, yby, ycy, zZ, zb]
   rfl
  refine qz (i := 7) (N := some 39) (v := ?_) (a' := ?_) #[true, true, true, true, true, true, true, true, false, false, false] rfl rfl (by kernel_rfl) (fun _ _ _ h => h) (Or.inl ⟨by rfl, ?_⟩) hHeld ?_ ?_
  rotate_left
  next =>
   rintro w' ⟨s0, s1, s2, s3, s4⟩
   go_simp
   with_reducible rfl
  rotate_left
  next =>
   simp only [Act.put, yay, yby, ycy, zZ, zb]
   rfl
  refine Jj (i := 8) (N := some 40) #[true, true, true, true, true, true, true, true, true, false, false] rfl rfl (by kernel_rfl) (by decide) (fun K hK => ?_)
  refine QU Try.func77 (by kernel_rfl) rfl #[.agg #[.int .i64 f0, .int .i64 f1]] (by rfl) rfl rfl (by (try simp only [yiy, yjy, yky]); first | done | rfl) ?_
  refine (qm.calls f0 f1 bb _ HISB.out).mono ?_
  rintro ed w8 ⟨rfl, hnd⟩
  refine ⟨_, rfl, ?_⟩
  have HS3 := zA.mk (HS.out.stays hnd)
  have BF3 := zA.mk (zP BF.out hnd)
  have HO3 := zA.mk (Kd.qM HO.out hnd)
  have HC53 := (hnd.cell (ypy _ _ HCC.out)).trans HCC.out
  have HC63 := (hnd.cell (ypy _ _ HCL.out)).trans HCL.out
  have HC73 := (hnd.cell (ypy _ _ HCE.out)).trans HCE.out
  clear HS BF HO HCC HCL HCE hnd
  have HS := HS3
  have BF := BF3
  have HO := HO3
  have HCC := zA.mk HC53
  have HCL := zA.mk HC63
  have HCE := zA.mk HC73
  clear HS3 BF3 HO3 HC53 HC63 HC73
  refine hK.out _ _ ⟨HCC.out, HCE.out, HCL.out, (zK BF.out 0).trans rfl, (zK BF.out 1).trans rfl⟩ (fun hHeld => ?_)
  clear hK K
  refine Zx (a' := ?_) ?_ ?_
  rotate_left
  next =>
   show Act.put _ (some 40) _ = _
   simp only [Act.put, yay, yby, ycy, zZ, zb]
   rfl
  refine zj (i := 9) (N := some 41) (v := ?_) (a' := ?_) #[true, true, true, true, true, true, true, true, true, true, false] rfl rfl (by kernel_rfl) (fun _ _ _ h => h) (Or.inl ⟨by rfl, ?_⟩) ?_ ?_
  rotate_left
  next =>
   intro w'
   go_simp
   with_reducible rfl
  rotate_left
  next =>
   simp only [Act.put, yay, yby, ycy, zZ, zb]
   rfl
  refine zj (i := 10) (N := some 42) (v := ?_) (a' := ?_) #[true, true, true, true, true, true, true, true, true, true, true] rfl rfl (by kernel_rfl) (fun _ _ _ h => h) (Or.inl ⟨by rfl, ?_⟩) ?_ ?_
  rotate_left
  next =>
   intro w'
   go_simp
   with_reducible rfl
  rotate_left
  next =>
   simp only [Act.put, yay, yby, ycy, zZ, zb]
   rfl
  refine Qi (by kernel_rfl) ?_
  clear hHeld HCC HCL HCE
  cases bb with
  | true =>
   have hb : f0 < 0 := of_decide_eq_true HBB.out
   have HA5 := zA.mk (show zAg l cls c i x (L.drop (j + 1)) (sg, qu, ok) = RR by have h9 := HA4.out; rwa [if_neg (fun k => k hb)] at h9)
   clear HA4
   go_wp2
   go_roundg (L.length - (j + 1))
   case measure => omega
   case rel => exact ⟨j + 1, sg, qu, ok, vq, by omega, by omega, by go_num, HA5, HS, ⟨HX.out.1, HX.out.2.1, HX.out.2.2.1, by have := HX.out.2.2.2; omega⟩, HO⟩
  | false =>
   have hb : ¬ f0 < 0 := of_decide_eq_false HBB.out
   have HA5 := zA.mk (show zAg l cls c i x (L.drop (j + 1)) (vis sg qu ok i (4 * f0 + rd (qi f1) v) (wrap64 (-(zAl f1)))) = RR by have h9 := HA4.out; rwa [if_pos hb] at h9)
   obtain ⟨hg0, hg1, hp0, hp1⟩ := HFB.out (by first | exact hb | omega)
   have HP := zA.mk (And.intro hp0 hp1)
   have HSG := zA.mk (show JA.f f1 = some (zAl f1) from if_pos ⟨hp0, hp1⟩)
   have hbd := lo_bd f1
   have ix := QM (zp f1 0) (zp f1 1) (zp f1 2) (zp f1 3) v hv0 hv1
   have hpv : 0 ≤ rd (qi f1) v ∧ rd (qi f1) v ≤ 3 := by obtain ⟨z1, z2, z3, z4⟩ := Jn f1 hp0 hp1; exact Jv z1 z2 z3 z4 v hv0 hv1
   rw [show rd [zp f1 0, zp f1 1, zp f1 2, zp f1 3] v = rd (qi f1) v from rfl] at ix
   generalize rd (qi f1) v = pv at ix hpv HA5
   generalize zAl f1 = sv at hbd HSG HA5
   obtain ⟨hpv0, hpv1⟩ := hpv
   have HWP := zA.mk (show wrap64 (wrap64 (4 * f0) + pv) = 4 * f0 + pv by rw [Lib.qo (x := 4 * f0) (by omega) (by omega), Lib.qo (x := 4 * f0 + pv) (by omega) (by omega)])
   have hv4 : v < 4 := by omega
   clear HA4 HFB HISB HBB hp0 hp1
   obtain ⟨bq, cq, eq_, _, _, _⟩ := Kd.JY HS.out.rQ (by have := HX.out.2.1; have := HQ.out.1; omega)
   go_wp2
   refine Zm (n := 15) (S := fun w' => w'.cell? ⟨gf, 0, none⟩ = some (.int .i64 f0) ∧ w'.cell? ⟨gf, 1, none⟩ = some (.int .i64 f1)) (ds := [14]) #[false, false, false, false, false, false, false, false, false, false, false, false, false, false, false] (by kernel_rfl) rfl rfl ⟨(zK BF.out 0).trans rfl, (zK BF.out 1).trans rfl⟩ (fun hHeld => ?_)
   have HS3 := zA.mk HS.out.drew
   have BF3 := zA.mk (zJ BF.out)
   have HO3 := zA.mk (Kd.zW HO.out)
   clear HS BF HO
   have HS := HS3
   have BF := BF3
   have HO := HO3
   clear HS3 BF3 HO3
   generalize World.drew _ = w6 at HS BF HO hHeld ⊢
   refine zj (i := 0) (N := some 43) (v := ?_) (a' := ?_) #[true, false, false, false, false, false, false, false, false, false, false, false, false, false, false] rfl rfl (by kernel_rfl) (fun _ _ _ h => h) (Or.inl ⟨by rfl, ?_⟩) ?_ ?_
   rotate_left
   next =>
    intro w'
    go_simp
    with_reducible rfl
   rotate_left
   next =>
    simp only [Act.put, yay, yby, ycy, zZ, zb]
    rfl
   refine zj (i := 1) (N := some 44) (v := ?_) (a' := ?_) #[true, true, false, false, false, false, false, false, false, false, false, false, false, false, false] rfl rfl (by kernel_rfl) (fun _ _ _ h => h) (Or.inl ⟨by rfl, ?_⟩) ?_ ?_
   rotate_left
   next =>
    intro w'
    go_simp
    with_reducible rfl
   rotate_left
   next =>
    simp only [Act.put, yay, yby, ycy, zZ, zb]
    rfl
   refine qz (i := 2) (N := some 45) (v := ?_) (a' := ?_) #[true, true, true, false, false, false, false, false, false, false, false, false, false, false, false] rfl rfl (by kernel_rfl) (fun _ _ _ h => h) (Or.inl ⟨by rfl, ?_⟩) hHeld ?_ ?_
   rotate_left
   next =>
    rintro w' ⟨s0, s1⟩
    go_simp
    with_reducible rfl
   rotate_left
   next =>
    simp only [Act.put, yay, yby, ycy, zZ, zb]
    rfl
   refine zj (i := 3) (N := some 46) (v := ?_) (a' := ?_) #[true, true, true, true, false, false, false, false, false, false, false, false, false, false, false] rfl rfl (by kernel_rfl) (fun _ _ _ h => h) (Or.inl ⟨by rfl, ?_⟩) ?_ ?_
   rotate_left
   next =>
    intro w'
    go_simp
    with_reducible rfl
   rotate_left
   next =>
    simp only [Act.put, yay, yby, ycy, zZ, zb]
    rfl
   refine zj (i := 4) (N := some 47) (v := ?_) (a' := ?_) #[true, true, true, true, true, false, false, false, false, false, false, false, false, false, false] rfl rfl (by kernel_rfl) (fun _ _ _ h => h) (Or.inl ⟨by rfl, ?_⟩) ?_ ?_
   rotate_left
   next =>
    intro w'
    go_simp
    with_reducible rfl
   rotate_left
   next =>
    simp only [Act.put, yay, yby, ycy, zZ, zb]
    rfl
   refine qz (i := 5) (N := some 48) (v := ?_) (a' := ?_) #[true, true, true, true, true, true, false, false, false, false, false, false, false, false, false] rfl rfl (by kernel_rfl) (fun _ _ _ h => h) (Or.inl ⟨by rfl, ?_⟩) hHeld ?_ ?_
   rotate_left
   next =>
    rintro w' ⟨s0, s1⟩
    go_simp
    with_reducible rfl
   rotate_left
   next =>
    simp only [Act.put, yay, yby, ycy, zZ, zb]
    rfl
   refine zj (i := 7) (N := some 50) (v := ?_) (a' := ?_) #[true, true, true, true, true, true, false, true, false, false, false, false, false, false, false] rfl rfl (by kernel_rfl) (fun _ _ _ h => h) (Or.inl ⟨by rfl, ?_⟩) ?_ ?_
   rotate_left
   next =>
    intro w'
    go_simp
    with_reducible rfl
   rotate_left
   next =>
    simp only [Act.put, yay, yby, ycy, zZ, zb]
    rfl
   refine zj (i := 10) (N := some 53) (v := ?_) (a' := ?_) #[true, true, true, true, true, true, false, true, false, false, true, false, false, false, false] rfl rfl (by kernel_rfl) (fun _ _ _ h => h) (Or.inl ⟨by rfl, ?_⟩) ?_ ?_
   rotate_left
   next =>
    intro w'
    go_simp
    with_reducible rfl
   rotate_left
   next =>
    simp only [Act.put, yay, yby, ycy, zZ, zb]
    rfl
   refine qz (i := 11) (N := some 54) (v := ?_) (a' := ?_) #[true, true, true, true, true, true, false, true, false, false, true, true, false, false, false] rfl rfl (by kernel_rfl) (fun _ _ _ h => h) (Or.inl ⟨by rfl, ?_⟩) hHeld ?_ ?_
   rotate_left
   next =>
    rintro w' ⟨s0, s1⟩
    go_simp
    with_reducible rfl
   rotate_left
   next =>
    simp only [Act.put, yay, yby, ycy, zZ, zb]
    rfl
   refine Jj (i := 6) (N := some 49) #[true, true, true, true, true, true, true, true, false, false, true, true, false, false, false] rfl rfl (by kernel_rfl) (by decide) (fun K hK => ?_)
   refine QU Try.func105 (by kernel_rfl) rfl #[.int .i64 f1] (by rfl) rfl rfl (by (try simp only [yiy, yjy, yky]); first | done | rfl) ?_
   refine (Jl.calls f1 _ HP.out.1 HP.out.2).mono ?_
   rintro ed w9 ⟨rfl, hnd⟩
   refine ⟨_, rfl, ?_⟩
   have HS3 := zA.mk (HS.out.stays hnd)
   have BF3 := zA.mk (zP BF.out hnd)
   have HO3 := zA.mk (Kd.qM HO.out hnd)
   clear HS BF HO hnd
   have HS := HS3
   have BF := BF3
   have HO := HO3
   clear HS3 BF3 HO3
   refine hK.out _ _ ⟨(zK BF.out 0).trans rfl, (zK BF.out 1).trans rfl⟩ (fun hHeld => ?_)
   clear hK K
   refine Zx (a' := ?_) ?_ ?_
   rotate_left
   next =>
    show Act.put _ (some 49) _ = _
    simp only [Act.put, yay, yby, ycy, zZ, zb]
    rfl
   refine zj (i := 8) (N := some 51) (v := ?_) (a' := ?_) #[true, true, true, true, true, true, true, true, true, false, true, true, false, false, false] rfl rfl (by kernel_rfl) (fun _ _ _ h => h) (Or.inl ⟨by rfl, ?_⟩) ?_ ?_
   rotate_left
   next =>
    intro w'
    go_simp
    with_reducible rfl
   rotate_left
   next =>
    simp only [Act.put, yay, yby, ycy, zZ, zb]
    rfl
   refine zj (i := 9) (N := some 52) (v := ?_) (a' := ?_) #[true, true, true, true, true, true, true, true, true, true, true, true, false, false, false] rfl rfl (by kernel_rfl) (fun _ _ _ h => h) (Or.inl ⟨by rfl, ?_⟩) ?_ ?_
   rotate_left
   next =>
    intro w'
    go_simp
    with_reducible rfl
   rotate_left
   next =>
    simp only [Act.put, yay, yby, ycy, zZ, zb]
    rfl
   refine Jj (i := 12) (N := some 55) #[true, true, true, true, true, true, true, true, true, true, true, true, true, false, false] rfl rfl (by kernel_rfl) (by decide) (fun K hK => ?_)
   refine QU Try.func73 (by kernel_rfl) rfl #[.int .i64 f1] (by rfl) rfl rfl (by (try simp only [yiy, yjy, yky]); first | done | rfl) ?_
   refine (JA.calls f1 sv _ HSG.out).mono ?_
   rintro ed w10 ⟨rfl, hnd⟩
   refine ⟨_, rfl, ?_⟩
   have HS3 := zA.mk (HS.out.stays hnd)
   have BF3 := zA.mk (zP BF.out hnd)
   have HO3 := zA.mk (Kd.qM HO.out hnd)
   clear HS BF HO hnd
   have HS := HS3
   have BF := BF3
   have HO := HO3
   clear HS3 BF3 HO3
   refine hK.out _ _ ⟨(zK BF.out 0).trans rfl, (zK BF.out 1).trans rfl⟩ (fun hHeld => ?_)
   clear hK K
   refine Zx (a' := ?_) ?_ ?_
   rotate_left
   next =>
    show Act.put _ (some 55) _ = _
    simp only [Act.put, yay, yby, ycy, zZ, zb]
    rfl
   refine zj (i := 13) (N := some 56) (v := ?_) (a' := ?_) #[true, true, true, true, true, true, true, true, true, true, true, true, true, true, false] rfl rfl (by kernel_rfl) (fun _ _ _ h => h) (Or.inl ⟨by rfl, ?_⟩) ?_ ?_
   rotate_left
   next =>
    intro w'
    go_simp
    with_reducible rfl
   rotate_left
   next =>
    simp only [Act.put, yay, yby, ycy, zZ, zb]
    rfl
   refine zFR (i := 14) (N := some 57) #[true, true, true, true, true, true, true, true, true, true, true, true, true, true, true] rfl rfl (by kernel_rfl) (by decide) (fun K hK => ?_)
   refine zG1 (f := 126) Try.func126 (by kernel_rfl) rfl #[.int .i64 (wrap64 (wrap64 (4 * f0) + pv)), .int .i64 (wrap64 (-sv))] #[.int .i64 (wrap64 (wrap64 (4 * f0) + pv)), .int .i64 (wrap64 (-sv)), .pointer (some ⟨gs, 0, none⟩), .pointer (some ⟨gq, 0, none⟩), .pointer (some ⟨gi, 0, none⟩), .pointer (some ⟨go, 0, none⟩)] (by rfl) rfl rfl rfl (by (try simp only [yiy, yjy, yky]); first | done | rfl) (by rfl) ?_
   rw [HWP.out]
   refine (zC0.calls gs gq gi go bs cs i (4 * f0 + pv) (wrap64 (-sv)) sg qu ok _ w0 _ HS.out HQ.out.1 HX.out.2.1 (by rw [HX.out.2.2.1]; exact HQ.out.2.2.1) (by rw [HX.out.2.2.1, HX.out.1]; have := HQ.out.2.2.2; omega) (by omega) (by rw [HX.out.1]; omega) (by have := HX.out.2.2.2; have := HR.out.2.2; omega)).mono ?_
   rintro ed w11 ⟨rfl, vq', hS4, hK4, hq4⟩
   refine ⟨_, rfl, ?_⟩
   have HS4 := zA.mk hS4
   have HO4 := zA.mk (zFe HO.out hK4 hq4)
   clear hS4 hK4 hq4 HS HO BF
   refine hK.out _ _ ?_
   clear hK K
   refine Qi (by kernel_rfl) ?_
   have HX2 := zA.mk (show (vis sg qu ok i (4 * f0 + pv) (wrap64 (-sv))).1.length = 4 * l.length ∧ i < (vis sg qu ok i (4 * f0 + pv) (wrap64 (-sv))).2.1.length ∧ rd (vis sg qu ok i (4 * f0 + pv) (wrap64 (-sv))).2.1 i = rd qu0 i ∧ (vis sg qu ok i (4 * f0 + pv) (wrap64 (-sv))).2.1.length ≤ qu0.length + (j + 1) from by
    obtain ⟨x1, x2, x3, x4⟩ := HX.out
    refine ⟨by rw [lo_sg]; exact x1, ?_, ?_, ?_⟩ <;> rcases lo_qu sg qu ok i (4 * f0 + pv) (wrap64 (-sv)) with e_ | e_ <;> rw [e_]
    next =>
     exact x2
    next =>
     rw [List.length_append]; have := x2; simp; omega
    next =>
     exact x3
    next =>
     rw [zG2 qu _ i HQ.out.1 x2]; exact x3
    next =>
     omega
    next =>
     rw [List.length_append]; simp; omega)
   generalize vis sg qu ok i (4 * f0 + pv) (wrap64 (-sv)) = st at HS4 HA5 HX2
   obtain ⟨sg2, qu2, ok2⟩ := st
   dsimp only at HS4 HA5 HX2
   clear HWP HSG HP ix
   go_wp2
   go_roundg (L.length - (j + 1))
   case measure => omega
   case rel => exact ⟨j + 1, sg2, qu2, ok2, vq', by omega, by omega, by go_num, HA5, HS4, HX2, HO4⟩
abbrev okQ (l : List (List qA)) (x : Int) (m : Nat) : Prop := 0 ≤ x ∧ x < 4 * (l.length : Int) ∧ m < 999000
def zCa (t : List (List qA)) (cls : List Int) : Bool := (decide (t.length ≤ 8) && decide (cls.length = 4 * t.length)) && t.all (fun r => decide (r.length = 4) && r.all (fun x => decide (x.f0 < 0) || ((decide (0 ≤ x.f0) && decide (x.f0 < (t.length : Int))) && (decide (0 ≤ x.f1) && decide (x.f1 ≤ 23)))))
theorem zEl {t : List (List qA)} {cls : List Int} (h : zCa t cls = true) : t.length ≤ 8 ∧ cls.length = 4 * t.length ∧ (∀ r ∈ t, r.length = 4) ∧ (∀ r ∈ t, ∀ x ∈ r, ¬ x.f0 < 0 → 0 ≤ x.f0 ∧ x.f0 < (t.length : Int) ∧ 0 ≤ x.f1 ∧ x.f1 ≤ 23) := by
  unfold zCa at h
  simp only [Bool.and_eq_true, decide_eq_true_eq, List.all_eq_true, Bool.or_eq_true] at h
  refine ⟨h.1.1, h.1.2, fun r hr => (h.2 r hr).1, fun r hr x hx hb => ?_⟩
  rcases (h.2 r hr).2 x hx with a | a
  · exact absurd a hb
  · exact ⟨a.1.1, a.1.2, a.2.1, a.2.2⟩
def zCH (l : List (List qA)) (cls : List Int) (c : Int) : Nat → Int → List Int × List Int × Bool → Option (List Int × Bool)
  | 0, _, _ => none
  | k + 1, i, s => if i < s.2.1.length then (if okQ l (rd s.2.1 i) s.2.1.length then zCH l cls c k (i + 1) (zAg l cls c i (rd s.2.1 i) (zB6 [rd s.2.1 i % 4]) s) else none) else some (s.1, s.2.2)
def Jz (l : List (List qA)) (cls : List Int) (c : Int) (k : Nat) : Nat → Int → List Int → Bool → Option (List Int × Bool)
  | 0, _, sg, ok => some (sg, ok)
  | d + 1, a, sg, ok => if rd sg a = 0 then (zCH l cls c k 0 (sg.set a.toNat 1, [a], ok)).bind fun s => Jz l cls c k d (a + 1) s.1 s.2 else Jz l cls c k d (a + 1) sg ok
def zDe (k : Nat) (l : List (List qA)) (cls : List Int) (c : Int) : Option (List Int × Bool) := if zCa l cls = true then Jz l cls c k (4 * l.length) 0 (List.replicate (4 * l.length) 0) true else none
theorem zD8 (l : List (List qA)) (cls : List Int) (c i x : Int) : ∀ (r : List Int) (s : List Int × List Int × Bool), (zAg l cls c i x r s).1.length = s.1.length
  | [], _ => rfl
  | f :: fs, s => by
    rw [zAg, zD8 l cls c i x fs]
    split
    · exact lo_sg _ _ _ _ _ _
    · rfl
theorem zEm (l : List (List qA)) (cls : List Int) (c : Int) : ∀ k i s r, zCH l cls c k i s = some r → r.1.length = s.1.length
  | 0, _, _, _, h => by simp [zCH] at h
  | k + 1, i, s, r, h => by
    rw [zCH] at h
    split at h
    · split at h
      · rw [zEm l cls c k _ _ _ h, zD8]
      · cases h
    · rw [← yey h]
structure SgP (w0 w : World) (gs go bs cs : Nat) (sg : List Int) (ok : Bool) : Prop where
  below : Below w0.heap.size w0 w
  bS : w.heap[gs]? = some (.cells #[.slice (some ⟨bs, 0, none⟩) sg.length cs] 22 (0, 0))
  bO : w.heap[go]? = some (.cells #[.bool ok] 4 (0, 0))
  rS : Kd.R (Kd.int .i64) 2 w w0.heap.size (fun k => k = bs) (.slice (some ⟨bs, 0, none⟩) sg.length cs) sg
  own : w0.heap.size ≤ go
section
variable {w0 w w1 : World} {gs gq gi go bs cs : Nat} {i : Int} {sg qu : List Int} {ok : Bool} {vq vr : Value}
theorem Sg0.closeP (h : Sg0 w0 w gs gq gi go bs cs i sg qu ok vq vr) : SgP w0 w gs go bs cs sg ok := ⟨h.below, h.bS, h.bO, h.rS, h.own.2.1⟩
theorem SgP.drew (h : SgP w0 w gs go bs cs sg ok) : SgP w0 w.drew gs go bs cs sg ok := ⟨zD h.below, h.bS, h.bO, Kd.zW h.rS, h.own⟩
theorem SgP.row (h : SgP w0 w gs go bs cs sg ok) : ∃ cells, w.heap[bs]? = some (.cells cells 2 (0, 0)) := Kd.zAR h.rS bs (by simp [Value.ownBlock])
theorem SgP.sign (h : SgP w0 w gs go bs cs sg ok) (k v : Int) : SgP w0 (w.setCell ⟨bs, k.toNat, none⟩ (.int .i64 v)) gs go bs cs (sg.set k.toNat v) ok := by
  obtain ⟨cells, hc⟩ := h.row
  refine ⟨zF h.below (Kd.Zh h.rS bs (by simp [Value.ownBlock])), ?_, qE (p := ⟨bs, k.toNat, none⟩) h.bO (Qr h.bO hc (by decide)) _, ?_, h.own⟩
  · rw [List.length_set]; exact qE (p := ⟨bs, k.toNat, none⟩) h.bS (Qr h.bS hc (by decide)) _
  · rw [List.length_set]; exact (Kd.JZ h.rS k v).1
theorem SgP.start (h : SgP w0 w gs go bs cs sg ok) (a : Int) :
    Sg w0 (((w.alloc (.cells #[.int .i64 a] 2)).alloc (.cells #[.slice (some ⟨w.heap.size, 0, none⟩) 1 1] 22)).alloc (.cells #[.int .i64 0] 3)) gs (w.heap.size + 1) (w.heap.size + 1 + 1) go bs cs 0 sg [a] ok (.slice (some ⟨w.heap.size, 0, none⟩) 1 1) := by
  have hbs := qN h.row.choose_spec
  have hsz := zO h.below
  refine ⟨zC (zC (zC h.below _) _) _, zG (zG (zG h.bS _) _) _, zG (Zb (by simp) _) _, Zb (by simp) _, zG (zG (zG h.bO _) _) _, Kd.zR (Kd.zR (Kd.zR h.rS _) _) _, ?_, by have := qN h.bS; omega, by omega, h.own, by omega⟩
  refine Kd.Jt ⟨by simp [zAP], .inr ⟨w.heap.size, 1, #[.int .i64 a], rfl, hsz, ?_, yqy 1, by decide, rfl, rfl⟩⟩ (fun k hk => ?_)
  rotate_left
  · have e : w.heap.size = k := by simpa [Value.ownBlock] using hk
    show k ≠ bs
    omega
  exact zG (zG (Zb rfl _) _) _
theorem Sg0.nextP (h : Sg0 w0 w gs gq gi go bs cs i sg qu ok vq vr) (j : Int) :
    Sg0 w0 (w.alloc (.cells #[.int .i64 j] 3)) gs gq w.heap.size go bs cs j sg qu ok vq vr := by
  have h1 := h.stays (zC (yry _ _) (.cells #[.int .i64 j] 3))
  exact ⟨h1.below, h1.bS, h1.bQ, Zb rfl _, h1.bO, h1.rS, h1.rQ, h.nsq, h.own.1, h.own.2.1, zO h.below⟩
end
set_option maxHeartbeats 8000000 in
set_option maxRecDepth 100000 in
theorem zC1.calls (k : Nat) (l : List (List qA)) (A0 : Option Addr) (c0 gt : Nat) (gK ge : Nat) (AK : Option Addr) (ck : Nat) (cls : List Int) (c : Int) (r1 : List Int) (r2 : Bool) (w : World) (bT : w.heap[gt]? = some (.cells #[.slice A0 l.length c0] 35 (0, 0))) (hT : Kd.C (Kd.slice 75 ZT) w A0 l.length l) (bK : w.heap[gK]? = some (.cells #[.slice AK cls.length ck] 22 (0, 0))) (hK : Kd.C (Kd.int .i64) w AK cls.length cls) (bE : w.heap[ge]? = some (.cells #[.int .i64 c] 2 (0, 0))) (h : zDe k l cls c = some (r1, r2)) :
    Calls Try.prog 103 #[.int .i64 ((4 * l.length : Nat) : Int), .func (.func 104) #[] #[.pointer (some ⟨gt, 0, none⟩), .pointer (some ⟨gK, 0, none⟩), .pointer (some ⟨ge, 0, none⟩)]] w fun e w' => ∃ v0_ : Value, e = .returned (.tuple #[v0_, .bool r2]) ∧ Kd.R (Kd.int .i64) 2 w' w.heap.size (fun _ => True) v0_ r1 ∧ Below w.heap.size w w' := by
  unfold zDe at h
  by_cases hl0 : zCa l cls = true
  case neg => rw [if_neg hl0] at h; cases h
  rw [if_pos hl0] at h
  have HKS := zA.mk (zEl hl0)
  have hl : 4 * l.length ≤ 100000 := by have := HKS.out.1; omega
  have BK := zA.mk bK
  have HKC := zA.mk hK
  have BE := zA.mk bE
  clear bK hK bE hl0
  obtain ⟨n, hn⟩ : ∃ n, 4 * l.length = n := ⟨_, rfl⟩
  rw [hn] at h hl ⊢
  have HN := zA.mk hn
  clear hn
  have H := zA.mk h
  have BT := zA.mk bT
  have HTC := zA.mk hT
  have HL := zA.mk hl
  clear h bT hT
  go_enter Try.func103, Try.ntmps103
  go_wp2_with (first
    | ((with_reducible refine zq (N := 12) rfl ?_); refine Kd.zCN (Kd.int .i64) (w0 := w) w.heap.size 2 rfl (N := 12) rfl 22 _ _ rfl (n : Int) rfl rfl Try.underlying22 (.int .i64 0) 8 JS rfl (by decide) (by omega) 0 (ok := fun _ => True) (okp := fun _ => True) rfl (fun _ hk => hk) trivial (by omega) (by omega) (yry _ _) (yqy _) ?_; intro v1 w1 ho hb _ hnew; obtain ⟨bs, hbs, _⟩ := hnew; obtain ⟨cs, rfl⟩ := zDc ho hbs; rw [yny] at ho; have HR := zA.mk ho; have HB := zA.mk hb; have HBS := zA.mk hbs; clear ho hb hbs))
  have HO := zA.mk (show SgP w ((w1.alloc (.cells #[.slice (some ⟨bs, 0, none⟩) n cs] 22)).alloc (.cells #[.bool true] 4)) w1.heap.size (w1.heap.size + 1) bs cs (List.replicate n 0) true from
    ⟨zC (zC HB.out _) _, by rw [List.length_replicate]; exact zG (Zb rfl _) _, Zb (by simp) _, Kd.zR (Kd.zR (Kd.zv (Kd.Qu rfl HR.out) (fun k_ hk_ => by simpa [Value.ownBlock] using hk_)) _) _, by have := zO HB.out; omega⟩)
  clear HR HB HBS
  generalize w1.heap.size + 1 = go at HO ⊢
  generalize w1.heap.size = gs at HO ⊢
  generalize World.alloc _ _ = wA at HO ⊢
  go_loopg [14] n (fun gg v14 w' => ∃ (d a : Nat) (sg : List Int) (ok : Bool), a + d = n ∧ d ≤ gg ∧ v14 = .int .i64 a ∧ zA (Jz l cls c k d a sg ok = some (r1, r2)) ∧ zA (sg.length = n) ∧ zA (SgP w w' gs go bs cs sg ok))
  case atStart => exact ⟨n, 0, List.replicate n 0, true, by omega, yqy _, rfl, H, ⟨List.length_replicate⟩, HO⟩
  case round =>
    clear H HO
    obtain ⟨d, a, sg, ok, had, hg, rfl, HA, HG, HO⟩ := hrel
    have hxS : wr.cell? ⟨gs, 0, none⟩ = some (.slice (some ⟨bs, 0, none⟩) sg.length cs) := (zK HO.out.bS 0).trans rfl
    have hxO : wr.cell? ⟨go, 0, none⟩ = some (.bool ok) := (zK HO.out.bO 0).trans rfl
    cases d with
    | zero =>
      obtain rfl : a = n := by omega
      have H2 := HA.out
      rw [Jz] at H2
      obtain ⟨e1, e2⟩ := Prod.mk.inj (yey H2)
      subst e1 e2
      clear H2 HA
      try go_wp2
      refine Zm (n := 4) (S := fun w' => w'.cell? ⟨gs, 0, none⟩ = some (.slice (some ⟨bs, 0, none⟩) sg.length cs) ∧ w'.cell? ⟨go, 0, none⟩ = some (.bool ok)) (ds := []) #[false, false, false, false] (by kernel_rfl) rfl rfl ⟨hxS, hxO⟩ (fun hHeld => ?_)
      refine qz (i := 0) (N := some 42) (v := ?_) (a' := ?_) #[true, false, false, false] rfl rfl (by kernel_rfl) (fun _ _ _ h => h) (Or.inl ⟨by rfl, ?_⟩) hHeld ?_ ?_
      rotate_left
      · rintro w' ⟨s0, s1⟩
        go_simp
        with_reducible rfl
      rotate_left
      · simp only [Act.put, yay, yby, ycy, zZ, zb]
        rfl
      refine qz (i := 1) (N := some 43) (v := ?_) (a' := ?_) #[true, true, false, false] rfl rfl (by kernel_rfl) (fun _ _ _ h => h) (Or.inl ⟨by rfl, ?_⟩) hHeld ?_ ?_
      rotate_left
      · rintro w' ⟨s0, s1⟩
        go_simp
        with_reducible rfl
      rotate_left
      · simp only [Act.put, yay, yby, ycy, zZ, zb]
        rfl
      refine zj (i := 2) (N := some 4) (v := ?_) (a' := ?_) #[true, true, true, false] rfl rfl (by kernel_rfl) (fun _ _ _ h => h) (Or.inl ⟨by rfl, ?_⟩) ?_ ?_
      rotate_left
      · intro w'
        go_simp
        with_reducible rfl
      rotate_left
      · simp only [Act.put, yay, yby, ycy, zZ, zb]
        rfl
      refine zj (i := 3) (N := some 5) (v := ?_) (a' := ?_) #[true, true, true, true] rfl rfl (by kernel_rfl) (fun _ _ _ h => h) (Or.inl ⟨by rfl, ?_⟩) ?_ ?_
      rotate_left
      · intro w'
        go_simp
        with_reducible rfl
      rotate_left
      · simp only [Act.put, yay, yby, ycy, zZ, zb]
        rfl
      refine Qi (by kernel_rfl) ?_
      try go_wp2
      go_ret2
      refine ⟨_, rfl, ?_, ?_⟩
      · exact Kd.zv (HO.out.drew).rS (fun _ _ => trivial)
      · exact HO.out.drew.below
    | succ d =>
      have hltz : (a : Int) < (n : Int) := by omega
      have h1 : (a : Int) < (sg.length : Int) := by rw [HG.out]; exact hltz
      obtain ⟨hx3, hf3⟩ := Kd.ZV 0 HO.out.rS (a : Int) (by omega) h1
      rw [yny] at hx3 hf3
      replace hx3 : wr.cell? ⟨bs, a, none⟩ = some (.int .i64 (rd sg (a : Int))) := hx3
      have HA2 := HA.out
      rw [Jz] at HA2
      clear HA
      by_cases hz : rd sg (a : Int) = 0
      · rw [if_pos hz] at HA2
        rw [hz] at hx3
        obtain ⟨st, hst, HA2⟩ := ydy.mp HA2
        have HA := zA.mk HA2
        have HI := zA.mk hst
        have HGS := zA.mk (zEm l cls c k _ _ _ hst)
        clear HA2 hst hz
        rw [yny] at HI HGS
        go_wp2_with (first
          | ((with_reducible refine ZQ (t := 2) (p := 24) rfl ?_); refine ZE (t := 2) (p := 24) (v := ?vo) (w1 := (wr.setCell ⟨bs, a, none⟩ (.int .i64 1))) ?hg ?ho ?hn ?hr ?_; (case ho => rfl); (case hg => rfl); (case hn => rfl); (case hr => first | (go_simp; done) | (go_simp; rfl)); intro w2 hw; have HO2 := zA.mk (show SgP w w2 gs go bs cs (sg.set a 1) ok by rw [hw]; have := HO.out.sign (a : Int) 1; rwa [yny] at this); clear HO hw hxS hxO hx3 hf3))
        have HS := zA.mk (HO2.out.start (a : Int))
        clear HO2
        have HG1 := zA.mk (show (sg.set a 1).length = n by rw [List.length_set]; exact HG.out)
        clear HG
        generalize sg.set a 1 = sg1 at HS HI HG1 HGS
        generalize hgq : w2.heap.size + 1 = gq at HS ⊢
        generalize hgi : gq + 1 = gi at HS ⊢
        generalize (Value.slice (some ⟨w2.heap.size, 0, none⟩) 1 1) = vq at HS
        generalize World.alloc _ _ = wB at HS ⊢
        go_loopg [10] k (fun kq v10 w' => ∃ (i : Int) (gi : Nat) (sg qu : List Int) (ok : Bool) (vq : Value), v10 = .pointer (some ⟨gi, 0, none⟩) ∧ zA (kq ≤ k) ∧ zA (zCH l cls c kq i (sg, qu, ok) = some st) ∧ zA (Sg w w' gs gq gi go bs cs i sg qu ok vq) ∧ zA (sg.length = n ∧ 0 ≤ i))
        case atStart => exact ⟨0, gi, sg1, [(a : Int)], ok, vq, rfl, ⟨yqy _⟩, HI, HS, ⟨HG1.out, by omega⟩⟩
        case round =>
          clear HS HI
          obtain ⟨i, gi2, sg2, qu, ok2, vq2, rfl, HK, HI, HS, HG2⟩ := hrel
          have hxI : wr.cell? ⟨gi2, 0, none⟩ = some (.int .i64 i) := (zK HS.out.bI 0).trans rfl
          obtain ⟨Aq, cq, eq_⟩ := Kd.ZH HS.out.rQ
          subst eq_
          have hxQ : wr.cell? ⟨gq, 0, none⟩ = some (.slice Aq qu.length cq) := (zK HS.out.bQ 0).trans rfl
          cases gk with
          | zero => exact absurd HI.out (by simp [zCH])
          | succ gk =>
            have HI2 := HI.out
            rw [zCH] at HI2
            clear HI
            dsimp only at HI2
            by_cases hlt : i < (qu.length : Int)
            · rw [if_pos hlt] at HI2
              by_cases hok : okQ l (rd qu i) qu.length
              case neg => rw [if_neg hok] at HI2; cases HI2
              rw [if_pos hok] at HI2
              have HI := zA.mk HI2
              have HOK := zA.mk hok
              clear HI2 hok
              have hi0 := HG2.out.2
              obtain ⟨bq, cq2, eA, _, _, _⟩ := Kd.JY HS.out.rQ (by omega)
              injection eA with eA _ eC
              subst eA eC
              obtain ⟨hx4, _⟩ := Kd.ZV 0 HS.out.rQ i hi0 hlt
              replace hx4 : wr.cell? ⟨bq, i.toNat, none⟩ = some (.int .i64 (rd qu i)) := hx4
              have HQ := zA.mk (show rd qu i = rd qu i from rfl)
              have hi9 : i < 1000000 := by have := HOK.out.2.2; omega
              generalize hq_ : rd qu i = q at hx4 HOK HI HQ
              have HQ2 := zA.mk hq_
              clear hq_ HQ
              go_wp2_with (first | (go_at_call 104; refine (JW.calls l A0 c0 gt gK ge AK ck cls c q gs gq gi2 go bs cs i sg2 qu ok2 _ w _ HS.out BT.out HTC.out BK.out HKC.out BE.out HKS.out.1 HKS.out.2.1 HOK.out.1 HOK.out.2.1 (by rw [HG2.out.1]; exact HN.out.symm) HG2.out.2 hlt (by rw [HQ2.out]; exact HOK.out.1) (by rw [HQ2.out]; exact HOK.out.2.1) HKS.out.2.2.1 (fun r hr x hx hb => HKS.out.2.2.2 r hr x hx (by first | exact hb | omega)) HOK.out.2.2).mono ?_; rintro e w4 ⟨rfl, vq', hS4⟩; have HS4 := zA.mk hS4; clear hS4 HS hxI hxQ hx4; have hxI : w4.cell? ⟨gi2, 0, none⟩ = some (.int .i64 i) := (zK HS4.out.bI 0).trans rfl))
              go_roundg gk
              case measure => omega
              case rel => exact ⟨i + 1, w4.heap.size, _, _, _, vq', rfl, ⟨by have := HK.out; omega⟩, HI, ⟨HS4.out.nextP (i + 1)⟩, ⟨by rw [zD8]; exact HG2.out.1, by omega⟩⟩
            · rw [if_neg hlt] at HI2
              have e_ := yey HI2
              subst e_
              clear HI2
              have hge : ¬ i < (qu.length : Int) := hlt
              have d0 : decide (i < (qu.length : Int)) = false := yhy hlt
              go_wp2
              go_roundg d
              case measure => omega
              case rel => exact ⟨d, a + 1, sg2, ok2, by omega, by omega, by go_num, by simpa using HA, ⟨HG2.out.1⟩, ⟨HS.out.closeP⟩⟩
      · rw [if_neg hz] at HA2
        have HA := zA.mk HA2
        clear HA2
        generalize rd sg (a : Int) = sa at hx3 hz
        have d0 : (sa == 0) = false := by simp [hz]
        have d1 : (sa != 0) = true := by simp [bne, d0]
        go_wp2
        go_roundg d
        case measure => omega
        case rel => exact ⟨d, a + 1, sg, ok, by omega, by omega, by go_num, by simpa using HA, HG, HO⟩
def qH.f (k : Nat) (t : List (List qA)) (c : Int) : Option Bool := (zm.f t).bind fun cls => (zDe k t cls c).bind fun r => some r.2
set_option maxHeartbeats 8000000 in
set_option maxRecDepth 100000 in
theorem qH.calls (k : Nat) (A0_0 : Option Addr) (c0_0 : Nat) (l0_0 : List (List qA)) (a1 : Int) (r : Bool) (w : World) (hr0_0 : Kd.C (Kd.slice 75 ZT) w A0_0 l0_0.length l0_0) (hc0_0 : l0_0.length ≤ c0_0) (h : qH.f k l0_0 a1 = some r) :
    Calls Try.prog 58 #[.agg #[.slice A0_0 l0_0.length c0_0], .int .i64 a1] w fun e w' => e = .returned (.bool r) ∧ Below w.heap.size w w' := by
  unfold qH.f at h
  obtain ⟨cls, hcls, h⟩ := ydy.mp h
  obtain ⟨⟨sg, ok⟩, hsg, h⟩ := ydy.mp h
  obtain rfl : ok = r := yey h
  have hok : zCa l0_0 cls = true := by
    unfold zDe at hsg
    by_cases q : zCa l0_0 cls = true
    · exact q
    · rw [if_neg q] at hsg; cases hsg
  have hl8 := (zEl hok).1
  have HR := zA.mk hr0_0
  have HC := zA.mk hc0_0
  have HV := zA.mk hcls
  have HG := zA.mk hsg
  clear hr0_0 hc0_0 h hcls hsg hok
  have B0 := zA.mk (zG (Zb (W := w) rfl (.cells #[.slice A0_0 l0_0.length c0_0] 35)) (.cells #[.int .i64 a1] 2))
  have BE := zA.mk (Zb (W := w.alloc (.cells #[.slice A0_0 l0_0.length c0_0] 35)) (n := w.heap.size + 1) (by simp) (.cells #[.int .i64 a1] 2))
  have HB := zA.mk (zC (zC (yry w.heap.size w) (.cells #[.slice A0_0 l0_0.length c0_0] 35)) (.cells #[.int .i64 a1] 2))
  go_enter Try.func58, Try.ntmps58
  go_wp2_with fail
  generalize World.alloc (World.alloc w _) _ = w1 at B0 BE HB ⊢
  generalize w.heap.size + 1 = ge at BE ⊢
  refine (zm.calls A0_0 c0_0 l0_0 cls w1 (Kd.qG HR.out HB.out) HC.out HV.out).mono ?_
  rintro ed w2 ⟨v9, rfl, ho, hb⟩
  have B02 := zA.mk (zP B0.out hb)
  have BE2 := zA.mk (zP BE.out hb)
  have HB2 := zA.mk (zM HB.out hb)
  obtain ⟨AK, ck, ev⟩ := Kd.ZH ho
  subst ev
  have HK := zA.mk (Kd.zx ho).2.2
  clear ho hb B0 BE HB
  have B03 := zA.mk (zG B02.out (.cells #[.slice AK cls.length ck] 22))
  have BE3 := zA.mk (zG BE2.out (.cells #[.slice AK cls.length ck] 22))
  have BK3 := zA.mk (Zb (W := w2) rfl (.cells #[.slice AK cls.length ck] 22))
  have HB3 := zA.mk (zC HB2.out (.cells #[.slice AK cls.length ck] 22))
  have HK3 := zA.mk (Kd.zu HK.out (.cells #[.slice AK cls.length ck] 22))
  clear HK
  have hT : (w2.alloc (.cells #[.slice AK cls.length ck] 22)).cell? ⟨w.heap.size, 0, none⟩ = some (.slice A0_0 l0_0.length c0_0) := (zK B03.out 0).trans rfl
  go_wp2_with fail
  generalize World.alloc w2 _ = w3 at B03 BE3 BK3 HB3 HK3 hT ⊢
  generalize w2.heap.size = gK at BK3 ⊢
  refine (qX.calls A0_0 c0_0 l0_0 (l0_0.length : Int) w3 (Kd.qG HR.out HB3.out) HC.out rfl).mono ?_
  rintro ed w4 ⟨rfl, hd⟩
  have hb := qJ.below hd
  have B04 := zA.mk (zP B03.out hb)
  have BE4 := zA.mk (zP BE3.out hb)
  have BK4 := zA.mk (zP BK3.out hb)
  have HB4 := zA.mk (zM HB3.out hb)
  have HK4 := zA.mk (Kd.qG HK3.out hb)
  clear B03 BE3 BK3 HB3 HK3 hT hd hb B02 BE2 HB2
  go_wp2_with fail
  have e4 : (4 * (l0_0.length : Int)) = ((4 * l0_0.length : Nat) : Int) := by omega
  rw [e4]
  refine (zC1.calls k l0_0 A0_0 c0_0 w.heap.size gK ge AK ck cls a1 sg ok w4 B04.out (Kd.qG HR.out HB4.out) BK4.out HK4.out BE4.out HG.out).mono ?_
  rintro ed w5 ⟨v0_, rfl, ho, hb⟩
  have HB5 := zA.mk (zM HB4.out hb)
  clear ho hb
  dsimp only
  go_wp2_with fail
  go_ret
  exact ⟨rfl, HB5.out⟩
def Zc.f (l0 : List Int) : Option Int := match l0 with
  | [] => none
  | x :: xs => some (xs.foldl mx x)
set_option maxHeartbeats 8000000 in
set_option maxRecDepth 100000 in
theorem Zc.calls (A0 : Option Addr) (c0 : Nat) (l0 : List Int) (r : Int) (w : World) (hr0 : Kd.C (Kd.int .i64) w A0 l0.length l0) (hc0 : l0.length ≤ c0) (h : Zc.f l0 = some r) :
    Calls Try.prog 119 #[.slice A0 l0.length c0] w fun e w' => e = .returned (.int .i64 r) ∧ qJ w w' := by
  obtain ⟨x0, xs, rfl⟩ : ∃ x xs, l0 = x :: xs := by
    cases l0 with
    | nil => cases h
    | cons x xs => exact ⟨x, xs, rfl⟩
  have hr : xs.foldl mx x0 = r := yey h
  have hbig : (x0 :: xs).length ≤ 9223372036854775807 := hr0.2.1
  have HR := zA.mk hr0
  have HA : zA (((x0 :: xs).drop 1).foldl mx x0 = r) := ⟨hr⟩
  obtain ⟨ad, e1, hx⟩ := Kd.ZK hr0 0 (by omega) (by simp)
  have hlen : 1 ≤ (x0 :: xs).length := by simp
  have ex : rd (x0 :: xs) 0 = x0 := by simp [rd]
  rw [ex] at hx
  replace hx : w.cell? ad = some (.int .i64 x0) := by have h2 := hx; rwa [show ad.add (Int.toNat 0) = ad from by cases ad; rfl] at h2
  clear hr h hr0 hc0 ex
  generalize x0 :: xs = l at *
  cases e1
  go_enter Try.func119, Try.ntmps119
  have b1 : decide ((l.length : Int) < 1) = false := yhy (by omega)
  go_wp2
  go_loopg [3, 4] l.length (fun gg v3 v4 w' => ∃ (i : Nat) (m : Int), 1 ≤ i ∧ i ≤ l.length ∧ l.length - i ≤ gg ∧ v3 = .int .i64 m ∧ v4 = .int .i64 i ∧ w' = w ∧ zA ((l.drop i).foldl mx m = r))
  case atStart => exact ⟨1, x0, yqy _, hlen, by omega, rfl, rfl, rfl, HA⟩
  case round =>
    clear HA
    obtain ⟨i, m, h1, hi, hg, rfl, rfl, rfl, HA⟩ := hrel
    by_cases hlt : i < l.length
    · have hltz : (i : Int) < (l.length : Int) := by omega
      obtain ⟨ad2, e2, hy⟩ := Kd.ZK HR.out (i : Int) (by omega) hltz
      have ex : rd l (i : Int) = l[i] := by simp [rd, hlt]
      rw [ex, yny] at hy
      have HA2 := HA.out
      rw [yoy hlt, List.foldl_cons] at HA2
      have HA3 := zA.mk HA2
      clear HA HA2 ex
      generalize l[i] = y at hy HA3
      cases e2
      by_cases hmy : m < y
      · have HA4 : zA ((l.drop (i + 1)).foldl mx y = r) := ⟨by have q := HA3.out; rwa [show mx m y = y from by unfold mx; exact if_pos hmy] at q⟩
        clear HA3
        go_wp2
        go_roundg (l.length - (i + 1))
        case measure => omega
        case rel => exact ⟨i + 1, y, by omega, by omega, by omega, rfl, by go_num, rfl, HA4⟩
      · have HA4 : zA ((l.drop (i + 1)).foldl mx m = r) := ⟨by have q := HA3.out; rwa [show mx m y = m from by unfold mx; exact if_neg hmy] at q⟩
        clear HA3
        have hmy2 : y ≤ m := by omega
        clear hmy
        go_wp2
        go_roundg (l.length - (i + 1))
        case measure => omega
        case rel => exact ⟨i + 1, m, by omega, by omega, by omega, rfl, by go_num, rfl, HA4⟩
    · obtain rfl : i = l.length := by omega
      have HA2 := HA.out
      rw [List.drop_length, List.foldl_nil] at HA2
      have HM := zA.mk HA2
      clear HA HA2
      go_wp2
      go_ret
      exact ⟨by rw [← HM.out]; rfl, 0, rfl⟩
def ZA.f (l0 : List Int) : Option (Int) := if (l0.length : Int) = 0 then (some 0) else ((Zc.f l0).bind fun t101 => (some (wrap64 (t101 + 1))))
set_option maxHeartbeats 8000000 in
set_option maxRecDepth 100000 in
theorem ZA.calls (A0 : Option Addr) (c0 : Nat) (l0 : List Int) (r : Int) (w : World) (hr0 : Kd.C (Kd.int .i64) w A0 l0.length l0) (hc0 : l0.length ≤ c0) (h : ZA.f l0 = some r) :
    Calls Try.prog 87 #[.slice A0 l0.length c0] w fun e w' => e = .returned (.int .i64 r) ∧ qJ w w' := by
  have HR0 := zA.mk hr0
  have HC0 := zA.mk hc0
  clear hr0 hc0
  have H : (if (l0.length : Int) = 0 then (some 0) else ((Zc.f l0).bind fun t101 => (some (wrap64 (t101 + 1))))) = some r := h
  clear h
  by_cases c2 : (l0.length : Int) = 0
  · rw [if_pos c2] at H
    have c2b0 : ((l0.length : Int) == 0) = true := beq_iff_eq.mpr c2
    have c2b1 : ((l0.length : Int) != 0) = false := bne_eq_false_iff_eq.mpr c2
    clear c2
    obtain rfl := yey H
    go_enter Try.func87, Try.ntmps87
    go_wp2
    go_ret
    exact ⟨by first | rfl | (simp; done) | (simp [*]; done), by repeat (first | exact qJ.refl _ | apply qJ.step)⟩
  · rw [if_neg c2] at H
    have c2b0 : ((l0.length : Int) == 0) = false := beq_eq_false_iff_ne.mpr c2
    have c2b1 : ((l0.length : Int) != 0) = true := bne_iff_ne.mpr c2
    have c2b2 : ¬ (l0 = []) := fun h_ => c2 (by rw [h_]; rfl)
    replace H := ydy.mp H
    obtain ⟨t101, A30, H⟩ := H
    replace H : (some (wrap64 (t101 + 1))) = some r := H
    have A3 := zA.mk A30
    clear A30
    obtain rfl := yey H
    go_enter Try.func87, Try.ntmps87
    go_wp2_with (first | ((with_reducible refine za (f := 119) rfl ?_); refine qL (some 7) rfl rfl Try.func119 (by kernel_rfl) rfl #[.slice A0 l0.length c0] rfl (by (try simp only [yiy, yjy, yky]); first | done | rfl | (simp only [yly, ymy]; rfl)) ?_; (with_reducible refine (Zc.calls _ _ l0 t101 _ ?side1 ?side2 A3.out).mono ?_); (case side1 => repeat (first | exact HR0.out | (with_reducible refine Kd.zu ?_ _) | (with_reducible refine Kd.zw ?_ _) | (with_reducible refine Kd.qK ?_))); (case side2 => exact HC0.out); rintro e w' ⟨rfl, ⟨nd, rfl⟩⟩; refine ⟨_, rfl, ?_⟩))
    go_ret
    exact ⟨by first | rfl | (simp; done) | (simp [*]; done), by repeat (first | exact qJ.refl _ | apply qJ.step)⟩
def qk.f (a0 : Int) (a1 : Int) (a2 : Int) : Option (Bool) := if a1 ≤ a0 then (some (decide (a0 ≤ a2))) else (some false)
set_option maxHeartbeats 8000000 in
set_option maxRecDepth 100000 in
theorem qk.calls (a0 : Int) (a1 : Int) (a2 : Int) (r : Bool) (w : World) (h : qk.f a0 a1 a2 = some r) :
    Calls Try.prog 86 #[.int .i64 a0, .int .i64 a1, .int .i64 a2] w fun e w' => e = .returned (.bool r) ∧ qJ w w' := by
  have H : (if a1 ≤ a0 then (some (decide (a0 ≤ a2))) else (some false)) = some r := h
  clear h
  by_cases c4 : a1 ≤ a0
  · rw [if_pos c4] at H
    have c4b0 : decide (a1 ≤ a0) = true := ygy c4
    clear c4
    obtain rfl := yey H
    go_enter Try.func86, Try.ntmps86
    go_wp2
    go_ret
    exact ⟨by first | rfl | (simp; done) | (simp [*]; done), by repeat (first | exact qJ.refl _ | apply qJ.step)⟩
  · rw [if_neg c4] at H
    have c4b0 : decide (a1 ≤ a0) = false := yhy c4
    clear c4
    obtain rfl := yey H
    go_enter Try.func86, Try.ntmps86
    go_wp2
    go_ret
    exact ⟨by first | rfl | (simp; done) | (simp [*]; done), by repeat (first | exact qJ.refl _ | apply qJ.step)⟩
theorem eqA75 (d : Nat) (w : World) (x0 y0 : Int) (x1 y1 : Int) :
    (Op.equalIn (d + 2) 75 (.agg #[.int .i64 x0, .int .i64 x1]) (.agg #[.int .i64 y0, .int .i64 y1])).run Try.prog w = .ok (x0 == y0 && (x1 == y1)) w := by
  refine eqA_of Try.underlying75 (by kernel_rfl) ?_
  refine zFX (by rfl) (by go_simp; rfl) (by go_simp; rfl) (by go_simp) ?_
  exact zFW (by rfl) (by go_simp; rfl) (by go_simp; rfl) (by go_simp)
def QQ.f (a0 : Int) : Option Int := if 0 ≤ a0 ∧ a0 ≤ 23 then some (zD7 a0) else none
set_option maxHeartbeats 8000000 in
set_option maxRecDepth 100000 in
theorem QQ.calls (a0 : Int) (r : Int) (w : World) (h : QQ.f a0 = some r) :
    Calls Try.prog 133 #[.int .i64 a0] w fun e w' => e = .returned (.int .i64 r) ∧ Below w.heap.size w w' := by
  unfold QQ.f at h
  by_cases hc : 0 ≤ a0 ∧ a0 ≤ 23
  case neg => rw [if_neg hc] at h; exact absurd h (by simp)
  rw [if_pos hc] at h
  have hr : zD7 a0 = r := yey h
  clear h
  subst hr
  obtain ⟨h0, h1⟩ := hc
  have HS := zA.mk (Jn a0 h0 h1)
  have H0 := zA.mk h0
  have H1 := zA.mk h1
  clear h0 h1
  go_enter Try.func133, Try.ntmps133
  go_wp2_with fail
  refine (Jl.calls _ _ H0.out H1.out).mono ?_
  rintro e w1 ⟨rfl, hb⟩
  have B3 := zA.mk (zP (Zb (W := w) rfl (.cells #[.int .i64 0, .int .i64 0, .int .i64 0, .int .i64 0] 101)) hb)
  have HB := zA.mk (zM (zC (yry _ _) _) hb)
  clear hb
  have HPL := zA.mk (show qi a0 = [zp a0 0, zp a0 1, zp a0 2, zp a0 3] from rfl)
  have HIP := zA.mk (show zD7 a0 = idxL (Qz (qi a0) 4) from rfl)
  generalize qi a0 = pl at HPL HIP
  generalize zp a0 0 = x0 at HS HPL ⊢
  generalize zp a0 1 = x1 at HS HPL ⊢
  generalize zp a0 2 = x2 at HS HPL ⊢
  generalize zp a0 3 = x3 at HS HPL ⊢
  go_wp2_with fail
  go_loopg [8] 4 (fun gg v8 w' => ∃ (i : Nat) (b0 b1 b2 b3 : Int), i ≤ 4 ∧ 4 - i ≤ gg ∧ v8 = .int .i64 i ∧ zA ([b0, b1, b2, b3] = Qz pl i) ∧
    zA (w'.heap[w.heap.size]? = some (.cells #[.int .i64 b0, .int .i64 b1, .int .i64 b2, .int .i64 b3] 101 (0, 0))) ∧ zA (Below w.heap.size w w'))
  case atStart => exact ⟨0, 0, 0, 0, 0, by omega, by omega, rfl, ⟨rfl⟩, B3, HB⟩
  case round =>
    clear HB B3
    obtain ⟨i, b0, b1, b2, b3, hi, hg, rfl, HI, B3, HB⟩ := hrel
    rcases (show i = 4 ∨ i = 3 ∨ i = 2 ∨ i = 1 ∨ i = 0 by omega) with rfl | rfl | rfl | rfl | rfl
    · have c0 : wr.cell? ⟨w.heap.size, 0, none⟩ = some (.int .i64 b0) := (zK B3.out 0).trans rfl
      have c1 : wr.cell? ⟨w.heap.size, 1, none⟩ = some (.int .i64 b1) := (zK B3.out 1).trans rfl
      have c2 : wr.cell? ⟨w.heap.size, 2, none⟩ = some (.int .i64 b2) := (zK B3.out 2).trans rfl
      have c3 : wr.cell? ⟨w.heap.size, 3, none⟩ = some (.int .i64 b3) := (zK B3.out 3).trans rfl
      have ht := Try.underlying101
      go_wp2_with fail
      have hsm := zBT pl 4 (by omega)
      rw [← HI.out] at hsm
      refine (zCY.calls b0 b1 b2 b3 _ (hsm _ (by simp)) (hsm _ (by simp)) (hsm _ (by simp)) (hsm _ (by simp))).mono ?_
      rintro e w2 ⟨rfl, hb⟩
      have HB2 := zA.mk (zM HB.out hb)
      clear hb hsm
      go_wp2
      go_ret
      exact ⟨by rw [HIP.out, ← HI.out]; rfl, HB2.out⟩
    · have ix := QM x0 x1 x2 x3 3 (by omega) (by omega)
      have hx : rd [x0, x1, x2, x3] 3 = x3 := rfl
      rw [hx] at ix
      have hs : sm x3 := HS.out.2.2.2
      obtain ⟨hs0, hs1⟩ := hs
      have c3 := QI B3.out x3 hs0 hs1
      have f3 := zN B3.out x3.toNat
      have B3n := zA.mk (zBv B3.out x3 3 hs0 hs1)
      have HN : [b0, b1, b2, b3].set x3.toNat 3 = Qz pl (3 + 1) := by rw [HI.out, HPL.out]; rfl
      have hlen : ([b0, b1, b2, b3].set x3.toNat (3 : Int)).length = 4 := by simp
      have HF := zA.mk ((zBw hlen).symm.trans HN)
      clear hx HN hlen
      go_wp2
      go_roundg (4 - (3 + 1))
      case measure => omega
      case rel => exact ⟨3 + 1, _, _, _, _, by omega, by omega, by first | rfl | go_num, HF, B3n, ⟨zF HB.out (yqy _)⟩⟩
    · have ix := QM x0 x1 x2 x3 2 (by omega) (by omega)
      have hx : rd [x0, x1, x2, x3] 2 = x2 := rfl
      rw [hx] at ix
      have hs : sm x2 := HS.out.2.2.1
      obtain ⟨hs0, hs1⟩ := hs
      have c3 := QI B3.out x2 hs0 hs1
      have f3 := zN B3.out x2.toNat
      have B3n := zA.mk (zBv B3.out x2 2 hs0 hs1)
      have HN : [b0, b1, b2, b3].set x2.toNat 2 = Qz pl (2 + 1) := by rw [HI.out, HPL.out]; rfl
      have hlen : ([b0, b1, b2, b3].set x2.toNat (2 : Int)).length = 4 := by simp
      have HF := zA.mk ((zBw hlen).symm.trans HN)
      clear hx HN hlen
      go_wp2
      go_roundg (4 - (2 + 1))
      case measure => omega
      case rel => exact ⟨2 + 1, _, _, _, _, by omega, by omega, by first | rfl | go_num, HF, B3n, ⟨zF HB.out (yqy _)⟩⟩
    · have ix := QM x0 x1 x2 x3 1 (by omega) (by omega)
      have hx : rd [x0, x1, x2, x3] 1 = x1 := rfl
      rw [hx] at ix
      have hs : sm x1 := HS.out.2.1
      obtain ⟨hs0, hs1⟩ := hs
      have c3 := QI B3.out x1 hs0 hs1
      have f3 := zN B3.out x1.toNat
      have B3n := zA.mk (zBv B3.out x1 1 hs0 hs1)
      have HN : [b0, b1, b2, b3].set x1.toNat 1 = Qz pl (1 + 1) := by rw [HI.out, HPL.out]; rfl
      have hlen : ([b0, b1, b2, b3].set x1.toNat (1 : Int)).length = 4 := by simp
      have HF := zA.mk ((zBw hlen).symm.trans HN)
      clear hx HN hlen
      go_wp2
      go_roundg (4 - (1 + 1))
      case measure => omega
      case rel => exact ⟨1 + 1, _, _, _, _, by omega, by omega, by first | rfl | go_num, HF, B3n, ⟨zF HB.out (yqy _)⟩⟩
    · have ix := QM x0 x1 x2 x3 0 (by omega) (by omega)
      have hx : rd [x0, x1, x2, x3] 0 = x0 := rfl
      rw [hx] at ix
      have hs : sm x0 := HS.out.1
      obtain ⟨hs0, hs1⟩ := hs
      have c3 := QI B3.out x0 hs0 hs1
      have f3 := zN B3.out x0.toNat
      have B3n := zA.mk (zBv B3.out x0 0 hs0 hs1)
      have HN : [b0, b1, b2, b3].set x0.toNat 0 = Qz pl (0 + 1) := by rw [HI.out, HPL.out]; rfl
      have hlen : ([b0, b1, b2, b3].set x0.toNat (0 : Int)).length = 4 := by simp
      have HF := zA.mk ((zBw hlen).symm.trans HN)
      clear hx HN hlen
      go_wp2
      go_roundg (4 - (0 + 1))
      case measure => omega
      case rel => exact ⟨0 + 1, _, _, _, _, by omega, by omega, by first | rfl | go_num, HF, B3n, ⟨zF HB.out (yqy _)⟩⟩
end Go.Proofs.Ytembbpalgfikiaa.P
