/- The statement FnExactLinkIsClosedSaid, proved: part 2 of 8 (texts of this session and of the kit's print, put together and cut to what is used by a program of it). -/
import Derived.Test.YtembbpalgfikiaaMFnExactLinkIsClosed1
import Derived.Test.YtembbpalgfikiaaProg
import Derived.Below
import Derived.Deep.Draws
import Derived.Deep.AppendLies
import Derived.Maps.AppendAt
import Derived.OwnWalk
import Derived.Laws.BytesArg
import Derived.Laws.MakeOwn
import Derived.Laws.OwnMore
import Derived.Deep.OwnRows
import Derived.Tactics
import Derived.Lib.ConvBytes
import Derived.Laws.Slices
import Derived.WalkKit
import Derived.KernelRfl
import Derived.RowKit3
import Derived.Deep.LoopGhost
import Derived.Deep.QuietTactic
import Derived.BigQuiet
import Derived.WideLaws
import Derived.Deep.DeepCutAuto
import Derived.Deep.CutBlock
import Derived.Deep.RegionHeld3
import Derived.Laws.Rows
import Derived.Lib.AppendStr
import Derived.ArgAppend
import Derived.Laws.IdiomCopy
import Derived.OrdersHeld
import Derived.Laws.BitsLemmas
import Derived.RowKit
import Derived.Maps.OwnSet
import Derived.Shelf.SlicesG.Delete
import Derived.Ground.SlgnProg
import Derived.Sort.Row
import Derived.Lib.SliceRun
namespace Go.Proofs.Ytembbpalgfikiaa
abbrev yay := @List.setIfInBounds_toArray
abbrev yby := @List.set_cons_zero
abbrev ycy := @List.set_cons_succ
abbrev ydy := @Option.bind_eq_some_iff
abbrev yey := @Option.some.inj
abbrev yfy := @Option.bind_some
abbrev ygy := @decide_eq_true
abbrev yhy := @decide_eq_false
abbrev yiy := @List.map_toArray
abbrev yjy := @List.map_cons
abbrev yky := @List.map_nil
abbrev yly := @List.length_drop
abbrev ymy := @List.length_take
abbrev yny := @Int.toNat_natCast
abbrev yoy := @List.drop_eq_getElem_cons
abbrev ypy := @Go.World.block_lt_of_cell?
abbrev yqy := @Nat.le_refl
abbrev yry := @Go.RowKit.Below.refl
end Go.Proofs.Ytembbpalgfikiaa
namespace Go.Proofs.Ytembbpalgfikiaa.P
open Go.RowKit Go.Proofs.YtembbpalgfikiaaW.PrintWords Go.Proofs.YtembbpalgfikiaaW.PrintLast Go.Proofs.YtembbpalgfikiaaW.PrintMore
attribute [local go_sem] Qu Qv JY JZ QZ Qa Qw Qx
set_option linter.unusedVariables false
set_option linter.unusedSimpArgs false
def errW : Option Int → Value
  | none => .nilIface
  | some c => .iface 0 (.int .i64 c)
theorem zW : errW none = .nilIface := rfl
theorem zX (c : Int) : errW (some c) = .iface 0 (.int .i64 c) := rfl
theorem JU : (Try.prog.info? 2).map (fun i => (i.zero, i.size, i.bytes)) = some (some (.int .i64 0), 1, 8) := by kernel_rfl
theorem zEI : (Try.prog.info? 22).map (fun i => (i.zero, i.size, i.bytes)) = some (some (.slice none 0 0), 1, 24) := by kernel_rfl
theorem info75 : (Try.prog.info? 75).map (fun i => (i.zero, i.size, i.bytes)) = some (some (.agg #[(.int .i64 0), (.int .i64 0)]), 2, 16) := by kernel_rfl
theorem info76 : (Try.prog.info? 76).map (fun i => (i.zero, i.size, i.bytes)) = some (some (.slice none 0 0), 1, 24) := by kernel_rfl
def qo (xs : List (List Int)) (i : Int) : (List Int) := xs.getD i.toNat ([] : List Int)
theorem zBi {w : World} {A : Option Addr} {n : Nat} {xs : List (List Int)} (h : Kd.C (Kd.slice 2 (Kd.int .i64)) w A n xs) (i : Int) (h0 : 0 ≤ i) (h1 : i < n) : ∃ ad A0 c0, A = some ad ∧ w.cell? (ad.add i.toNat) = some (.slice A0 (qo xs i).length c0) ∧ (qo xs i).length ≤ c0 ∧ (Kd.int .i64).C w A0 (qo xs i).length (qo xs i) := by
  obtain ⟨ad, c, e, _, hK, hc0⟩ := Kd.zE2 h ([] : List Int) i h0 h1
  have hc : ∀ j u, c[j]? = some u → w.cell? (ad.add (i.toNat * 1 + j)) = some u := hc0
  obtain ⟨A0, c0, rfl, l0, g0⟩ := hK
  exact ⟨ad, A0, c0, e, by have hq := hc 0 _ rfl; rwa [Nat.mul_one, Nat.add_zero] at hq, l0, g0⟩
structure qN where
  f0 : Int
  f1 : Int
def zDB : qN := ⟨(0 : Int), (0 : Int)⟩
def QE : Kd qN := Kd.iso (Kd.pair (Kd.int .i64) (Kd.int .i64)) (fun x : qN => (x.f0, x.f1))
theorem zBj {w : World} {x : qN} {cs : List Value} (h : QE.K w x cs) : cs = [.int .i64 x.f0, .int .i64 x.f1] := by
  obtain ⟨_, _, rfl, rfl, rfl⟩ := h
  exact rfl
theorem zCj (w : World) (x : qN)  : QE.K w x [.int .i64 x.f0, .int .i64 x.f1] := ⟨[.int .i64 x.f0], [.int .i64 x.f1], rfl, rfl, rfl⟩
def Zv (xs : List qN) (i : Int) : qN := xs.getD i.toNat zDB
theorem zDY {w : World} {A : Option Addr} {n : Nat} {xs : List qN} (h : Kd.C QE w A n xs) (i : Int) (h0 : 0 ≤ i) (h1 : i < n) : ∃ ad , A = some ad ∧ w.cell? (ad.add (i.toNat * 2)) = some (.int .i64 (Zv xs i).f0) ∧ w.cell? ⟨(ad.add (i.toNat * 2)).block, (ad.add (i.toNat * 2)).off + 1, none⟩ = some (.int .i64 (Zv xs i).f1) := by
  obtain ⟨ad, c, e, _, hK, hc0⟩ := Kd.zE2 h zDB i h0 h1
  have hc : ∀ j u, c[j]? = some u → w.cell? (ad.add (i.toNat * 2 + j)) = some u := hc0
  obtain rfl := zBj hK
  exact ⟨ad, e, hc 0 _ rfl, by rw [← zC9 _ _ 1 (by omega)]; exact hc 1 _ rfl⟩
def ZD (xs : List (List qN)) (i : Int) : (List qN) := xs.getD i.toNat ([] : List qN)
theorem Js {w : World} {A : Option Addr} {n : Nat} {xs : List (List qN)} (h : Kd.C (Kd.slice 118 QE) w A n xs) (i : Int) (h0 : 0 ≤ i) (h1 : i < n) : ∃ ad A0 c0, A = some ad ∧ w.cell? (ad.add i.toNat) = some (.slice A0 (ZD xs i).length c0) ∧ (ZD xs i).length ≤ c0 ∧ QE.C w A0 (ZD xs i).length (ZD xs i) := by
  obtain ⟨ad, c, e, _, hK, hc0⟩ := Kd.zE2 h ([] : List qN) i h0 h1
  have hc : ∀ j u, c[j]? = some u → w.cell? (ad.add (i.toNat * 1 + j)) = some u := hc0
  obtain ⟨A0, c0, rfl, l0, g0⟩ := hK
  exact ⟨ad, A0, c0, e, by have hq := hc 0 _ rfl; rwa [Nat.mul_one, Nat.add_zero] at hq, l0, g0⟩
structure qC where
  f0 : Int
  f1 : Int
def zAB : qC := ⟨(0 : Int), (0 : Int)⟩
def ZQ : Kd qC := Kd.iso (Kd.pair (Kd.int .i64) (Kd.int .i64)) (fun x : qC => (x.f0, x.f1))
theorem zDZ {w : World} {x : qC} {cs : List Value} (h : ZQ.K w x cs) : cs = [.int .i64 x.f0, .int .i64 x.f1] := by
  obtain ⟨_, _, rfl, rfl, rfl⟩ := h
  exact rfl
theorem zAt {w : World} {base : Nat} {ok : Nat → Prop} {x : qC} {cs : List Value} (h : ZQ.M w base ok x cs) : cs = [.int .i64 x.f0, .int .i64 x.f1] := by
  obtain ⟨_, _, rfl, rfl, rfl⟩ := h
  exact rfl
theorem zCJ (w : World) (base : Nat) (ok : Nat → Prop) (x : qC)  : ZQ.M w base ok x [.int .i64 x.f0, .int .i64 x.f1] := ⟨[.int .i64 x.f0], [.int .i64 x.f1], rfl, rfl, rfl⟩
def zI (xs : List qC) (i : Int) : qC := xs.getD i.toNat zAB
theorem Zp {w : World} {A : Option Addr} {n : Nat} {xs : List qC} (h : Kd.C ZQ w A n xs) (i : Int) (h0 : 0 ≤ i) (h1 : i < n) : ∃ ad , A = some ad ∧ w.cell? (ad.add (i.toNat * 2)) = some (.int .i64 (zI xs i).f0) ∧ w.cell? ⟨(ad.add (i.toNat * 2)).block, (ad.add (i.toNat * 2)).off + 1, none⟩ = some (.int .i64 (zI xs i).f1) := by
  obtain ⟨ad, c, e, _, hK, hc0⟩ := Kd.zE2 h zAB i h0 h1
  have hc : ∀ j u, c[j]? = some u → w.cell? (ad.add (i.toNat * 2 + j)) = some u := hc0
  obtain rfl := zDZ hK
  exact ⟨ad, e, hc 0 _ rfl, by rw [← zC9 _ _ 1 (by omega)]; exact hc 1 _ rfl⟩
def zE (xs : List (List qC)) (i : Int) : (List qC) := xs.getD i.toNat ([] : List qC)
theorem ZL {w : World} {A : Option Addr} {n : Nat} {xs : List (List qC)} (h : Kd.C (Kd.slice 75 ZQ) w A n xs) (i : Int) (h0 : 0 ≤ i) (h1 : i < n) : ∃ ad A0 c0, A = some ad ∧ w.cell? (ad.add i.toNat) = some (.slice A0 (zE xs i).length c0) ∧ (zE xs i).length ≤ c0 ∧ ZQ.C w A0 (zE xs i).length (zE xs i) := by
  obtain ⟨ad, c, e, _, hK, hc0⟩ := Kd.zE2 h ([] : List qC) i h0 h1
  have hc : ∀ j u, c[j]? = some u → w.cell? (ad.add (i.toNat * 1 + j)) = some u := hc0
  obtain ⟨A0, c0, rfl, l0, g0⟩ := hK
  exact ⟨ad, A0, c0, e, by have hq := hc 0 _ rfl; rwa [Nat.mul_one, Nat.add_zero] at hq, l0, g0⟩
def qZ.l0 : Nat → List Int → Int → Int → Option (List Int)
  | 0, _, _, _ => none
  | k + 1, x3, x5, x6 => if x6 < x5 then (if x3.length < 17592186044416 then (qZ.l0 k (x3 ++ [x6]) x5 (wrap64 (x6 + 1))) else (none)) else (some x3)
def qZ.f (k : Nat) (a0 : Int) : Option (List Int) := qZ.l0 k ([] : List Int) a0 0
set_option maxHeartbeats 8000000 in
set_option maxRecDepth 100000 in
theorem qZ.calls (k : Nat) (a0 : Int) (r : List Int) (w : World) (h : qZ.f k a0 = some r) :
    Calls Try.prog 98 #[.int .i64 a0] w fun e w' => ∃ v0_ : Value, e = .returned (v0_) ∧ Kd.R (Kd.int .i64) 2 w' w.heap.size (fun _ => True) v0_ r ∧ Below w.heap.size w w' := by
  have HB := zA.mk (yry w.heap.size w)
  have H : (qZ.l0 k ([] : List Int) a0 0) = some r := h
  clear h
  have H' := zA.mk H
  clear H
  go_enter Try.func98, Try.ntmps98
  go_wp2
  go_loopg [3, 6] k (fun kq v3 v6 w' => ∃ (x3_1 : List Int) (x6_1 : Int), v6 = .int .i64 x6_1 ∧ zA (qZ.l0 kq x3_1 a0 x6_1 = some r) ∧ zA (kq ≤ k) ∧ zA (Kd.R (Kd.int .i64) 2 w' w.heap.size (fun _ => True) v3 x3_1) ∧ zA (Below w.heap.size w w'))
  case atStart => exact ⟨(([] : List Int)), (0), (by first | rfl | (simp; done) | (simp [*]; done)), H', ⟨yqy _⟩, ⟨by first | exact Kd.zBa _ _ _ _ _ | exact Kd.zFE _ _ _ _ _ | exact Kd.zFH _ _ _ _ _ | exact Kd.zF6 _ _ _ _ _ | exact Kd.zFB _ _ _ _ _⟩, ⟨by repeat (first | (with_reducible first | exact HB.out | apply zC | apply zB | apply zD) | exact HB.out)⟩⟩
  case round =>
    clear H'
    obtain ⟨x3_1, x6_1, rfl, HA, HK1, HO_3, HB⟩ := hrel
    cases gk with
    | zero => exact absurd HA.out (by simp [qZ.l0])
    | succ k1 =>
      have H := HA.out
      clear HA
      simp only [qZ.l0] at H
      by_cases c2 : x6_1 < a0
      · rw [if_pos c2] at H
        have c2b0 : decide (x6_1 < a0) = true := ygy c2
        clear c2
        by_cases c3 : x3_1.length < 17592186044416
        · rw [if_pos c3] at H
          have LMc3 := zA.mk c3
          clear c3
          obtain ⟨y101, hy101⟩ : ∃ y_ : List Int, y_ = (x3_1 ++ [x6_1]) := ⟨_, rfl⟩
          replace H : (qZ.l0 k1 y101 a0 (wrap64 (x6_1 + 1))) = some r := by first | (rw [hy101]; with_reducible exact H) | (have H2_ := (yfy _ _).symm.trans H; rw [hy101]; with_reducible exact H2_) | (have H2_ := (yfy _ _).symm.trans H; with_reducible exact H2_) | with_reducible exact H | (rw [hy101]; exact H) | exact H
          have Ny101 := zA.mk hy101
          clear hy101
          have H' := zA.mk H
          clear H
          go_wp2_with (first | ((with_reducible refine ZI (b := .append) (xs := #[.tmp 9, .tmp 11]) rfl ?_); at_builtin; refine Kd.QX (Kd.int .i64) (w0 := w) w.heap.size rfl (.tmp 9) (.tmp 11) 22 2 (.int .i64 0) 8 rfl Try.underlying22 JU rfl (by decide) (by omega) u3 x3_1 x6_1 [.int .i64 x6_1] (fun _ => True) (fun _ => False) rfl rfl ?aP (fun _ hk => hk.elim) ?aF ?aO ?aB ?aS ?aL ?_; (case aP => exact rfl); (case aB => exact (by repeat (first | (with_reducible first | exact HB.out | apply zC | apply zB | apply zD) | exact HB.out))); (case aF => exact (fun _ _ => trivial)); (case aO => exact (by (with_reducible repeat (first | apply Kd.zR | apply Kd.zS | apply Kd.zV)); exact HO_3.out)); (case aS => exact (zO (by repeat (first | (with_reducible first | exact HB.out | apply zC | apply zB | apply zD) | exact HB.out)))); (case aL => have := LMc3.out; omega); intro v102 w4 ho hb hg hat; rw [← Ny101.out] at ho; have n0_ := zA.mk (hb); have n1_ := zA.mk (ho); clear HB; clear HO_3; have HB := n0_; have HO103 := n1_; clear n0_ n1_; clear ho hb hg hat))
          go_roundg k1
          case measure => have := HK1.out; omega
          case rel => exact ⟨(y101), (wrap64 (x6_1 + 1)), (by first | rfl | (simp; done) | (simp [*]; done)), H', ⟨by have := HK1.out; omega⟩, ⟨by (with_reducible repeat (first | apply Kd.zR | apply Kd.zS | apply Kd.zV)); exact HO103.out⟩, ⟨by repeat (first | (with_reducible first | exact HB.out | apply zC | apply zB | apply zD) | exact HB.out)⟩⟩
        · rw [if_neg c3] at H
          exact absurd H (by simp)
      · rw [if_neg c2] at H
        have c2b0 : decide (x6_1 < a0) = false := yhy c2
        clear c2
        obtain rfl := yey H
        go_wp2
        go_ret
        exact ⟨_, by first | rfl | (simp [zW, zX] <;> rfl) | (simp [*, zW, zX] <;> rfl), by (with_reducible repeat (first | apply Kd.zR | apply Kd.zS | apply Kd.zV)); exact HO_3.out, by repeat (first | (with_reducible first | exact HB.out | apply zC | apply zB | apply zD) | exact HB.out)⟩
end Go.Proofs.Ytembbpalgfikiaa.P
namespace Go.Proofs.Ytembbpalgfikiaa.Lib
open Go.RowKit Go.Proofs.YtembbpalgfikiaaW.PrintWords
def zFI {α : Type} (f : α → Option Bool) : Nat → List α → Option Int
  | _, [] => some (-1)
  | i, x :: xs => (f x).bind fun b => if b = true then some (i : Int) else zFI f (i + 1) xs
theorem zCK {α : Type} (f : α → Option Bool) (i : Nat) (x : α) (xs : List α) : zFI f i (x :: xs) = (f x).bind fun b => if b = true then some (i : Int) else zFI f (i + 1) xs := rfl
end Go.Proofs.Ytembbpalgfikiaa.Lib
namespace Go.Proofs.Ytembbpalgfikiaa.Lib
set_option linter.unusedVariables false
open Go.RowKit Go.Proofs.YtembbpalgfikiaaW.PrintWords
theorem zCk {σ ρ : Type} (L : Nat → σ → Option ρ) (I : σ → Prop) (m : σ → Nat) (g : σ → ρ)
    (h : ∀ s, I s → (∃ K, ∀ k, K ≤ k → L (k + 1) s = some (g s)) ∨ (∃ s' K, I s' ∧ m s' < m s ∧ g s' = g s ∧ ∀ k, K ≤ k → L (k + 1) s = L k s')) :
    ∀ s, I s → Ev (fun k => L k s) (g s) := by
  have key : ∀ (n : Nat) (s : σ), m s < n → I s → Ev (fun k => L k s) (g s) := by
    intro n
    induction n with
    | zero => intro s hs; omega
    | succ n ih =>
      intro s hs hi
      rcases h s hi with ⟨K, hK⟩ | ⟨s', K, hi', hm, hg, hK⟩
      · refine ⟨K + 1, fun k hk => ?_⟩
        obtain ⟨j, rfl⟩ : ∃ j, k = j + 1 := ⟨k - 1, by omega⟩
        exact hK j (by omega)
      · obtain ⟨K', hK'⟩ := ih s' (by omega) hi'
        refine ⟨max K K' + 1, fun k hk => ?_⟩
        obtain ⟨j, rfl⟩ : ∃ j, k = j + 1 := ⟨k - 1, by omega⟩
        show L (j + 1) s = some (g s)
        rw [hK j (by omega), ← hg]
        exact hK' j (by omega)
  intro s hi
  exact key (m s + 1) s (by omega) hi
theorem zDC {σ ρ : Type} (L : Nat → σ → Option ρ) (I : σ → Prop) (m : σ → Nat) (g : σ → ρ)
    (h : ∀ s, I s → (∀ k, L (k + 1) s = some (g s)) ∨ (∃ s', I s' ∧ m s' < m s ∧ g s' = g s ∧ ∀ k, L (k + 1) s = L k s')) :
    ∀ s, I s → Ev (fun k => L k s) (g s) :=
  zCk L I m g fun s hi => by
    rcases h s hi with h1 | ⟨s', h1, h2, h3, h4⟩
    · exact .inl ⟨0, fun k _ => h1 k⟩
    · exact .inr ⟨s', 0, h1, h2, h3, fun k _ => h4 k⟩
theorem qk {x : Int} (h0 : -9223372036854775808 ≤ x) (h1 : x ≤ 9223372036854775807) : wrap64 x = x := by
  unfold wrap64; omega
theorem ZE {n : Nat} (h : n ≤ 4611686018427387904) : wrap64 ((n : Int) + 1) = ((n + 1 : Nat) : Int) := by
  rw [qk (by omega) (by omega)]; rfl
theorem zBG (xs : List Int) (n : Nat) : rd xs (n : Int) = xs.getD n 0 := by simp [rd]
theorem zFJ (xs : List Int) (n : Nat) (h : n < xs.length) : rd xs (n : Int) = xs[n] := by simp [rd, h]
theorem QC {α : Type} {c : Prop} [Decidable c] {f g : Nat → Option α} {r : α} (h : ¬ c) (k : Ev g r) : Ev (fun n => if c then f n else g n) r := Ev.congr (fun _ => if_neg h) k
theorem qw {α : Type} {c : Prop} [Decidable c] {f g : Nat → Option α} {r : α} (h : c) (k : Ev f r) : Ev (fun n => if c then f n else g n) r := Ev.congr (fun _ => if_pos h) k
theorem zCl {α : Type} {r r' : α} (h : r = r') : Ev (fun _ => some r) r' := h ▸ Ev.now r
theorem QY {α : Type} {o : Option α} {r : α} (h : o = some r) : Ev (fun _ => o) r := ⟨0, fun _ _ => h⟩
theorem zEJ {α : Type} {g : Nat → Option α} {r : α} (h : ∀ k, g k = some r) : Ev g r := ⟨0, fun k _ => h k⟩
theorem qQ {α : Type} {g f : Nat → Option α} {r : α} (h : ∀ k, g (k + 1) = f k) (k : Ev f r) : Ev g r := Ev.step h k
theorem zDD {α : Type} {f : α → Option Bool} {p : α → Bool} : ∀ (i : Nat) (l : List α), (∀ x ∈ l, f x = some (p x)) → ∃ r, zFI f i l = some r ∧ decide (0 ≤ r) = l.any p
  | i, [], _ => ⟨-1, rfl, rfl⟩
  | i, x :: xs, h => by
    rw [zCK, h x (List.mem_cons_self ..), yfy]
    cases hp : p x with
    | true => exact ⟨i, by rw [if_pos rfl], by simp [hp]⟩
    | false =>
      obtain ⟨r, h1, h2⟩ := zDD (i + 1) xs (fun y hy => h y (List.mem_cons_of_mem _ hy))
      exact ⟨r, by rw [if_neg (by simp)]; exact h1, by rw [h2]; simp [hp]⟩
theorem contO {α : Type} {f : α → Option Bool} {p : α → Bool} (l : List α) (h : ∀ x ∈ l, f x = some (p x)) : (zFI f 0 l).bind (fun i => some (decide (0 ≤ i))) = some (l.any p) := by
  obtain ⟨r, h1, h2⟩ := zDD 0 l h
  rw [h1, yfy, h2]
def ZP (a : Int) : Nat → List Int
  | 0 => []
  | n + 1 => a :: ZP (a + 1) n
theorem Ze (a : Int) (n : Nat) : (ZP a n).length = n := by
  induction n generalizing a with
  | zero => rfl
  | succ n ih => simp [ZP, ih]
theorem zDa (a : Int) (n i : Nat) (h : i < n) : (ZP a n).getD i 0 = a + i := by
  induction n generalizing a i with
  | zero => omega
  | succ n ih =>
    cases i with
    | zero => simp [ZP]
    | succ i => simp only [ZP, List.getD_cons_succ]; rw [ih (a + 1) i (by omega)]; omega
end Go.Proofs.Ytembbpalgfikiaa.Lib
namespace Go.Proofs.Ytembbpalgfikiaa.Lib
open Go.RowKit Go.Proofs.YtembbpalgfikiaaW.PrintWords
set_option linter.unusedVariables false
def uni (s : List Int) (i k : Int) : List Int := s.map fun x => if x = rd s k then rd s i else x
def joi (s : List Int) (i k : Int) : List Int := s.map fun x => if x = max (rd s i) (rd s k) then min (rd s i) (rd s k) else x
def Ker (a b : List Int) : Prop := a.length = b.length ∧ ∀ i j : Nat, i < a.length → j < a.length → (a.getD i 0 = a.getD j 0 ↔ b.getD i 0 = b.getD j 0)
theorem Ker.refl (a : List Int) : Ker a a := ⟨rfl, fun _ _ _ _ => Iff.rfl⟩
theorem zAu {α β : Type} (f : α → β) (l : List α) (i : Nat) (d : β) (e : α) (h : i < l.length) : (l.map f).getD i d = f (l.getD i e) := by
  simp [List.getD_eq_getElem?_getD, h]
theorem JH (s : List Int) (i k : Int) : (uni s i k).length = s.length := by simp [uni]
theorem Zl (s : List Int) (i k : Int) : (joi s i k).length = s.length := by simp [joi]
theorem zEK (s : List Int) (i k : Int) (n : Nat) (h : n < s.length) : (uni s i k).getD n 0 = if s.getD n 0 = rd s k then rd s i else s.getD n 0 := zAu _ s n 0 0 h
theorem zCm (s : List Int) (i k : Int) (n : Nat) (h : n < s.length) : (joi s i k).getD n 0 = if s.getD n 0 = max (rd s i) (rd s k) then min (rd s i) (rd s k) else s.getD n 0 := zAu _ s n 0 0 h
theorem zFK (s : List Int) (i k : Int) (m n : Nat) (hm : m < s.length) (hn : n < s.length) :
    (uni s i k).getD m 0 = (uni s i k).getD n 0 ↔ (s.getD m 0 = s.getD n 0 ∨ ((s.getD m 0 = rd s i ∨ s.getD m 0 = rd s k) ∧ (s.getD n 0 = rd s i ∨ s.getD n 0 = rd s k))) := by
  rw [zEK s i k m hm, zEK s i k n hn]
  generalize s.getD m 0 = x
  generalize s.getD n 0 = y
  generalize rd s i = p
  generalize rd s k = q
  split <;> split <;> omega
theorem zFL (s : List Int) (i k : Int) (m n : Nat) (hm : m < s.length) (hn : n < s.length) :
    (joi s i k).getD m 0 = (joi s i k).getD n 0 ↔ (s.getD m 0 = s.getD n 0 ∨ ((s.getD m 0 = rd s i ∨ s.getD m 0 = rd s k) ∧ (s.getD n 0 = rd s i ∨ s.getD n 0 = rd s k))) := by
  rw [zCm s i k m hm, zCm s i k n hn]
  generalize s.getD m 0 = x
  generalize s.getD n 0 = y
  generalize rd s i = p
  generalize rd s k = q
  split <;> split <;> omega
theorem zEL (s : List Int) (i : Int) : rd s i = s.getD i.toNat 0 := rfl
theorem Ker.zFz {a b : List Int} (h : Ker a b) {i k : Int} (hi0 : 0 ≤ i) (hi1 : i < a.length) (hk0 : 0 ≤ k) (hk1 : k < a.length) : Ker (uni a i k) (joi b i k) := by
  refine ⟨by rw [JH, Zl]; exact h.1, fun m n hm hn => ?_⟩
  rw [JH] at hm hn
  have hm2 : m < b.length := by rw [← h.1]; exact hm
  have hn2 : n < b.length := by rw [← h.1]; exact hn
  rw [zFK a i k m n hm hn, zFL b i k m n hm2 hn2]
  have hi2 : i.toNat < a.length := by omega
  have hk2 : k.toNat < a.length := by omega
  simp only [zEL]
  rw [h.2 m n hm hn, h.2 m _ hm hi2, h.2 m _ hm hk2, h.2 n _ hn hi2, h.2 n _ hn hk2]
def Ji : List Int → List Int → List Int
  | _, [] => []
  | seen, x :: xs => if x ∈ seen then (seen.idxOf x : Int) :: Ji seen xs else (seen.length : Int) :: Ji (seen ++ [x]) xs
def zBk (l : List Int) : List Int := Ji [] l
theorem zAT : ∀ (l seen : List Int), (Ji seen l).length = l.length
  | [], _ => rfl
  | x :: xs, seen => by
    rw [Ji]; split <;> simp [zAT xs]
theorem zCn (l : List Int) : (zBk l).length = l.length := zAT l []
def Cons2 (P : List (Int × Int)) : Prop := ∀ p ∈ P, ∀ q ∈ P, p.1 = q.1 ↔ p.2 = q.2
theorem zG0 (S : List (Int × Int)) (p : Int × Int) (h : ∀ q ∈ S, q.1 = p.1 ↔ q.2 = p.2) : p.1 ∈ S.map (·.1) ↔ p.2 ∈ S.map (·.2) := by
  simp only [List.mem_map]
  exact ⟨fun ⟨q, hq, e⟩ => ⟨q, hq, (h q hq).1 e⟩, fun ⟨q, hq, e⟩ => ⟨q, hq, (h q hq).2 e⟩⟩
theorem zEM : ∀ (S : List (Int × Int)) (p : Int × Int), (∀ q ∈ S, q.1 = p.1 ↔ q.2 = p.2) → (S.map (·.1)).idxOf p.1 = (S.map (·.2)).idxOf p.2
  | [], _, _ => rfl
  | q :: S, p, h => by
    have h0 := h q (List.mem_cons_self ..)
    have ih := zEM S p (fun r hr => h r (List.mem_cons_of_mem _ hr))
    simp only [yjy, List.idxOf_cons]
    by_cases e : q.1 = p.1
    · have e2 := h0.1 e
      simp [e, e2]
    · have e2 : ¬ q.2 = p.2 := fun e2 => e (h0.2 e2)
      have b1 : (q.1 == p.1) = false := by simpa using e
      have b2 : (q.2 == p.2) = false := by simpa using e2
      rw [b1, b2, ih]
theorem Jt : ∀ (L S : List (Int × Int)), Cons2 (S ++ L) → Ji (S.map (·.1)) (L.map (·.1)) = Ji (S.map (·.2)) (L.map (·.2))
  | [], _, _ => rfl
  | p :: L, S, h => by
    have hS : ∀ q ∈ S, q.1 = p.1 ↔ q.2 = p.2 := fun q hq => h q (List.mem_append_left _ hq) p (List.mem_append_right _ (List.mem_cons_self ..))
    have hm := zG0 S p hS
    simp only [yjy, Ji]
    by_cases e : p.1 ∈ S.map (·.1)
    · rw [if_pos e, if_pos (hm.1 e), zEM S p hS, Jt L S (fun a ha b hb => h a (by simp only [List.mem_append, List.mem_cons] at ha ⊢; rcases ha with ha | ha <;> simp [ha]) b (by simp only [List.mem_append, List.mem_cons] at hb ⊢; rcases hb with hb | hb <;> simp [hb]))]
    · rw [if_neg e, if_neg (fun e2 => e (hm.2 e2))]
      have ih := Jt L (S ++ [p]) (by rw [List.append_assoc]; exact h)
      simp only [List.map_append, yjy, yky] at ih
      rw [ih, List.length_map, List.length_map]
theorem Ker.zBk {a b : List Int} (h : Ker a b) : zBk a = zBk b := by
  have hz1 : (a.zip b).map (·.1) = a := by
    rw [List.map_fst_zip]; exact Nat.le_of_eq h.1
  have hz2 : (a.zip b).map (·.2) = b := by
    rw [List.map_snd_zip]; exact Nat.le_of_eq h.1.symm
  have hc : Cons2 (a.zip b) := by
    intro p hp q hq
    obtain ⟨i, hi, rfl⟩ := List.getElem_of_mem hp
    obtain ⟨j, hj, rfl⟩ := List.getElem_of_mem hq
    rw [List.length_zip] at hi hj
    have hi1 : i < a.length := by omega
    have hj1 : j < a.length := by omega
    have hi2 : i < b.length := by omega
    have hj2 : j < b.length := by omega
    have := h.2 i j hi1 hj1
    simpa [List.getElem_zip, List.getD_eq_getElem?_getD, hi1, hj1, hi2, hj2] using this
  have := Jt (a.zip b) [] (by rw [List.nil_append]; exact hc)
  rw [hz1, hz2] at this
  exact this
theorem zFf (a x : Int) (n : Nat) : x ∈ ZP a n ↔ a ≤ x ∧ x < a + n := by
  induction n generalizing a with
  | zero => simp [ZP]; try omega
  | succ n ih => rw [ZP, List.mem_cons, ih]; omega
end Go.Proofs.Ytembbpalgfikiaa.Lib
namespace Go.Proofs.Ytembbpalgfikiaa.P
open Go.RowKit Go.Proofs.YtembbpalgfikiaaW.PrintWords Go.Proofs.YtembbpalgfikiaaW.PrintLast Go.Proofs.YtembbpalgfikiaaW.PrintMore
attribute [local go_sem] Qu Qv JY JZ QZ Qa Qw Qx
set_option linter.unusedVariables false
set_option linter.unusedSimpArgs false
structure zBl (seen : List Int) (D : DataW Unit) : Prop where
  tidy : Maps.Tidy D
  size : Maps.size D = seen.length
  has : ∀ x, Maps.has D (.int .i64 x) = seen.contains x
  at_ : ∀ x, x ∈ seen → D.atKey (.int .i64 x) (.lit (.int .i64 0)) = .lit (.int .i64 (seen.idxOf x : Int))
theorem zBl.empty : zBl [] (.map []) := ⟨Maps.tidy_empty, rfl, fun _ => rfl, fun _ h => by cases h⟩
theorem zBl.put {seen : List Int} {D : DataW Unit} (h : zBl seen D) {x : Int} (hx : x ∉ seen) : zBl (seen ++ [x]) (D.put (.int .i64 x) (.lit (.int .i64 (seen.length : Int)))) := by
  refine ⟨h.tidy.put (show WideAt.IsKeyLit (.int .i64 x) from trivial) _, ?_, fun y => ?_, fun y hy => ?_⟩
  · rw [Maps.size_put h.tidy, h.has, h.size]
    have : seen.contains x = false := by simpa using hx
    rw [this]; simp
  · by_cases e : y = x
    · subst e
      rw [Maps.has_put_same h.tidy.isMap (show WideAt.IsKeyLit (.int .i64 y) from trivial)]; simp
    · rw [Maps.has_put_other (by simpa using e), h.has]
      simp [e]
  · by_cases e : y = x
    · subst e
      rw [Maps.atKey_put_same h.tidy.isMap (show WideAt.IsKeyLit (.int .i64 y) from trivial), List.idxOf_append]; simp [hx]
    · rw [Maps.atKey_put_other (by simpa using e)]
      have hm : y ∈ seen := by simpa [e] using hy
      rw [h.at_ y hm, List.idxOf_append, if_pos hm]
theorem zBl.get {seen : List Int} {D : DataW Unit} (h : zBl seen D) {x c : Int} (hx : x ∈ seen) (hat : D.atKey (.int .i64 x) (.lit (.int .i64 0)) = .lit (.int .i64 c)) : c = (seen.idxOf x : Int) := by
  have := (h.at_ x hx).symm.trans hat
  simpa using this.symm
theorem zDE {a : Int} (h0 : 0 ≤ a) (h1 : a ≤ 1000000) : (Lit.int .i64 a).wf = true := by
  unfold Lit.wf
  rw [Bool.and_eq_true]
  exact ⟨ygy (by show (-9223372036854775808 : Int) ≤ a; omega), ygy (by show a ≤ (9223372036854775807 : Int); omega)⟩
def zCo (l : List Int) : Bool := decide (l.length ≤ 1000000) && l.all fun x => decide (0 ≤ x ∧ x ≤ 1000000)
def QP.f (l0 : List Int) : Option (List Int) := if zCo l0 = true then some (Lib.zBk l0) else none
set_option maxHeartbeats 8000000 in
set_option maxRecDepth 100000 in
theorem QP.calls (A0 : Option Addr) (c0 : Nat) (l0 : List Int) (r : List Int) (w : World) (hr0 : Kd.C (Kd.int .i64) w A0 l0.length l0) (hc0 : l0.length ≤ c0) (h : QP.f l0 = some r) :
    Calls Try.prog 109 #[.slice A0 l0.length c0] w fun e w' => ∃ v0_ : Value, e = .returned (v0_) ∧ Kd.R (Kd.int .i64) 2 w' w.heap.size (fun _ => True) v0_ r ∧ Below w.heap.size w w' := by
  unfold QP.f at h
  by_cases hok : zCo l0 = true
  case neg => rw [if_neg hok] at h; cases h
  rw [if_pos hok] at h
  have hr := yey h
  subst hr
  clear h
  simp only [zCo, Bool.and_eq_true, decide_eq_true_eq, List.all_eq_true] at hok
  obtain ⟨hlen, hall⟩ := hok
  have HALL := zA.mk hall
  have HR := zA.mk hr0
  have HC := zA.mk hc0
  clear hr0 hc0 hall
  have hmm := @run_makeMap Try.prog
  have HK := zA.mk (Maps.int_keyed Try.underlying2 : Maps.Keyed Try.prog 2)
  have HZ := zA.mk (show ∀ w : World, (zeroValue 2).run Try.prog w = .ok (.int .i64 0) w from fun w => by kernel_rfl)
  have HA : zA ([] ++ Lib.Ji [] (l0.drop 0) = Lib.zBk l0) := ⟨rfl⟩
  generalize Lib.zBk l0 = R at HA ⊢
  go_enter Try.func109, Try.ntmps109
  go_wp2
  go_loopg [4, 12] l0.length (fun gg v4 v12 w' => ∃ (i : Nat) (seen acc : List Int) (D : DataW Unit), i ≤ l0.length ∧ l0.length - i ≤ gg ∧ v12 = .int .i64 i ∧ zA (acc ++ Lib.Ji seen (l0.drop i) = R) ∧ zA (zBl seen D ∧ seen.length ≤ i ∧ acc.length = i) ∧ zA (w'.ownsMap Try.prog 2 (plainElem Try.prog 2) w.heap.size i D) ∧ zA (Kd.R (Kd.int .i64) 2 w' w.heap.size (fun k => k ≠ w.heap.size) v4 acc) ∧ zA (Below w.heap.size w w' ∧ w.heap.size + 1 ≤ w'.heap.size))
  case atStart => exact ⟨0, [], [], .map [], Nat.zero_le _, by omega, rfl, HA, ⟨zBl.empty, yqy _, rfl⟩, ⟨World.ownsMap_made _ _ _ _⟩, ⟨Kd.zBa _ _ _ _ _⟩, ⟨zC (yry _ _) _, by simp⟩⟩
  case round =>
    clear HA
    obtain ⟨i, seen, acc, D, hi, hg, rfl, HA, HM, HO, HV, HB⟩ := hrel
    by_cases hlt : i < l0.length
    · have hltz : (i : Int) < (l0.length : Int) := by omega
      obtain ⟨ad, e1, hx⟩ := Kd.ZA HR.out (i : Int) (by omega) (by omega)
      have ex : rd l0 (i : Int) = l0[i] := by simp [rd, hlt]
      rw [ex, yny] at hx
      replace hx := (HB.out.1.cell (ypy w _ hx)).trans hx
      have hy := HALL.out l0[i] (List.getElem_mem hlt)
      have HA2 := HA.out
      rw [yoy hlt, Lib.Ji] at HA2
      have HA3 := zA.mk HA2
      clear HA HA2 ex
      generalize l0[i] = y at hx hy HA3
      cases e1
      have HKEY := zA.mk (Maps.keyOf_int_mk Try.underlying2 (zDE hy.1 hy.2))
      clear hy
      by_cases hm : y ∈ seen
      · have hhas : Maps.has D (.int .i64 y) = true := by rw [HM.out.1.has]; simpa using hm
        have HMS := zA.mk hm
        have HA4 : zA (acc ++ (seen.idxOf y : Int) :: Lib.Ji seen (l0.drop (i + 1)) = R) := ⟨by have h := HA3.out; rwa [if_pos hm] at h⟩
        clear hm HA3
        go_wp2_with (first
          | (at_lookup; refine wpList_lookup_own_ok_int _ rfl _ _ 126 rfl 2 2 .i64 HK.out Try.underlying126 Try.underlying2 (HZ.out _) w.heap.size i D rfl HO.out _ _ rfl HKEY.out ?_; intro c1 hat1 hwc1; clear hat1 hwc1)
          | (at_lookup; refine wpList_lookup_own_int _ rfl _ _ 126 rfl 2 2 .i64 HK.out Try.underlying126 Try.underlying2 (HZ.out _) w.heap.size i D rfl HO.out _ _ rfl HKEY.out ?_; intro c hat hwc; have HCC := zA.mk (HM.out.1.get HMS.out hat); clear hat hwc)
          | ((with_reducible refine ZI (b := .append) (xs := #[.tmp 28, .tmp 32]) rfl ?_); at_builtin; refine Kd.QX (Kd.int .i64) (w0 := w) w.heap.size rfl (.tmp 28) (.tmp 32) 22 2 (.int .i64 0) 8 rfl Try.underlying22 JU rfl (by decide) (by omega) u4 acc c [.int .i64 c] (fun k => k ≠ w.heap.size) (fun _ => False) rfl rfl ?aP (fun _ hk => hk.elim) ?aF ?aO ?aB ?aS ?aL ?_; (case aP => exact rfl); (case aB => exact HB.out.1); (case aF => exact (fun k hk e => by have := HB.out.2; omega)); (case aO => exact HV.out); (case aS => exact HB.out.1.size); (case aL => have := HM.out.2.2; omega); intro v102 w4 ho hb hg2 hat; have HO2 := zA.mk ((HO.out.kept hg2 (fun e => HV.out.1 _ e.symm rfl)).mono (Nat.le_succ i)); have HV2 := zA.mk ho; have HB2 := zA.mk (And.intro hb (Nat.le_trans HB.out.2 hg2.size)); clear HO HV HB ho hb hg2 hat))
        go_roundg (l0.length - (i + 1))
        case measure => omega
        case rel => exact ⟨i + 1, seen, acc ++ [c], D, by omega, by omega, by go_num, ⟨by have h := HA4.out; rw [← HCC.out] at h; rw [List.append_assoc]; exact h⟩, ⟨HM.out.1, by have := HM.out.2.1; omega, by have := HM.out.2.2; simp; omega⟩, HO2, HV2, HB2⟩
      · have hhas : Maps.has D (.int .i64 y) = false := by rw [HM.out.1.has]; simpa using hm
        have HM2 := zA.mk (HM.out.1.put hm)
        have HA4 : zA (acc ++ (seen.length : Int) :: Lib.Ji (seen ++ [y]) (l0.drop (i + 1)) = R) := ⟨by have h := HA3.out; rwa [if_neg hm] at h⟩
        have HIX : zA ((seen ++ [y]).idxOf y = seen.length) := ⟨by rw [List.idxOf_append, if_neg hm]; simp⟩
        have hsz : Maps.size D = seen.length := HM.out.1.size
        clear hm HA3
        have HSL := zA.mk HM.out.2.1
        have HWF := zA.mk (show (Lit.int .i64 ((seen.length : Nat) : Int)).wf = true from zDE (by omega) (by have := HM.out.2.1; omega))
        go_wp2_with (first
          | (at_lookup; refine wpList_lookup_own_ok_int _ rfl _ _ 126 rfl 2 2 .i64 HK.out Try.underlying126 Try.underlying2 (HZ.out _) w.heap.size i D rfl HO.out _ _ rfl HKEY.out ?_; intro c1 hat1 hwc1; clear hat1 hwc1)
          | (at_len; refine wpList_len_own _ rfl _ 126 rfl 2 2 Try.underlying126 _ w.heap.size i D rfl HO.out ?_; rw [hsz])
          | (at_mapUpdate; refine wpList_mapUpdate_own _ rfl _ _ _ 126 rfl 2 2 HK.out Try.underlying126 _ w.heap.size i D rfl HO.out (by unfold maxLen; omega) _ _ _ rfl rfl HKEY.out (.lit (.int .i64 (seen.length : Int))) [] (plainElem_int Try.underlying2 HWF.out) ?_; intro w1 hown1 hgrow1; have HO1 := zA.mk hown1; have HV1 := zA.mk (Kd.zCe HV.out hgrow1 (fun k hk e => hk (yey e))); have HB1 := zA.mk (And.intro (HB.out.1.grown hgrow1 HB.out.1.size (fun j hj => by cases hj; exact yqy _)) (Nat.le_trans HB.out.2 hgrow1.size)); clear HO HV HB hown1 hgrow1)
          | (at_lookup; refine wpList_lookup_own_int _ rfl _ _ 126 rfl 2 2 .i64 HK.out Try.underlying126 Try.underlying2 (HZ.out _) w.heap.size (i + 1) _ rfl HO1.out _ _ rfl HKEY.out ?_; intro c hat hwc; have HCC := zA.mk (HM2.out.get (by simp) hat); clear hat hwc)
          | ((with_reducible refine ZI (b := .append) (xs := #[.tmp 28, .tmp 32]) rfl ?_); at_builtin; refine Kd.QX (Kd.int .i64) (w0 := w) w.heap.size rfl (.tmp 28) (.tmp 32) 22 2 (.int .i64 0) 8 rfl Try.underlying22 JU rfl (by decide) (by omega) u4 acc c [.int .i64 c] (fun k => k ≠ w.heap.size) (fun _ => False) rfl rfl ?aP (fun _ hk => hk.elim) ?aF ?aO ?aB ?aS ?aL ?_; (case aP => exact rfl); (case aB => exact HB1.out.1); (case aF => exact (fun k hk e => by have := HB1.out.2; omega)); (case aO => exact HV1.out); (case aS => exact HB1.out.1.size); (case aL => have := HM.out.2.2; omega); intro v102 w4 ho hb hg2 hat; have HO2 := zA.mk (HO1.out.kept hg2 (fun e => HV1.out.1 _ e.symm rfl)); have HV2 := zA.mk ho; have HB2 := zA.mk (And.intro hb (Nat.le_trans HB1.out.2 hg2.size)); clear HO1 HV1 HB1 ho hb hg2 hat))
        go_roundg (l0.length - (i + 1))
        case measure => omega
        case rel => exact ⟨i + 1, seen ++ [y], acc ++ [c], _, by omega, by omega, by go_num, ⟨by have h := HA4.out; rw [← HIX.out, ← HCC.out] at h; rw [List.append_assoc]; exact h⟩, ⟨HM2.out, by have := HSL.out; simp; omega, by have := HM.out.2.2; simp; omega⟩, HO2, HV2, HB2⟩
    · obtain rfl : i = l0.length := by omega
      have HA2 := HA.out
      rw [List.drop_length, Lib.Ji, List.append_nil] at HA2
      subst HA2
      go_wp2
      go_ret
      exact ⟨_, rfl, Kd.zx HV.out (fun _ _ => trivial), HB.out.1⟩
def zCp : Go.Shelf.Ren := ⟨fun | 45 => 127 | n => n, fun | 22 => 22 | 23 => 2 | 3 => 3 | 4 => 4 | 0 => 0 | n => n, fun | n => n⟩
theorem zG1 : Go.Proofs.SlLaysN.n45 Try.prog zCp := {
  mixed := by kernel_rfl
  f45 := ⟨Try.f127.name, by decide, Try.func127.trans (congrArg some (by kernel_rfl))⟩
  t0 := Try.underlying0
  a0 := Try.isAgg0
  z0 := Try.sizeOf0
  v0 := Try.zeroValue0
  t3 := Try.underlying3
  a3 := Try.isAgg3
  z3 := Try.sizeOf3
  v3 := Try.zeroValue3
  t4 := Try.underlying4
  a4 := Try.isAgg4
  z4 := Try.sizeOf4
  v4 := Try.zeroValue4
  t22 := Try.underlying22
  a22 := Try.isAgg22
  z22 := Try.sizeOf22
  v22 := Try.zeroValue22
  t23 := Try.underlying2
  a23 := Try.isAgg2
  z23 := Try.sizeOf2
  v23 := Try.zeroValue2
  i23 := by kernel_rfl }
theorem erase_eq (xs : List Int) (i : Nat) : xs.take i ++ xs.drop (i + 1) = xs.eraseIdx i := (List.eraseIdx_eq_take_drop_succ xs i).symm
theorem Zq.zDF (g cap i : Nat) (xs : List Int) (base : Nat) (ok : Nat → Prop) (w : World) (ho : Kd.R (Kd.int .i64) 2 w base ok (.slice (some ⟨g, 0, none⟩) xs.length cap) xs) (hi : i < xs.length) :
    Calls Try.prog 127 #[.slice (some ⟨g, 0, none⟩) xs.length cap, .int .i64 i, .int .i64 (i + 1)] w fun e w' => e = .returned (.slice (some ⟨g, 0, none⟩) (xs.length - 1) cap) ∧
      Kd.R (Kd.int .i64) 2 w' base ok (.slice (some ⟨g, 0, none⟩) (xs.length - 1) cap) (xs.eraseIdx i) ∧ w.grownBy w' (some g) := by
  have hown := Kd.zBb ho
  rcases hown.2 with ⟨hv, _⟩ | ⟨g', cap', cur, hv, hbase, hh, hle, hmax, hcs, htake⟩
  · cases hv
  injection hv with hv1 _ hv3
  injection hv1 with hv1
  injection hv1 with hv1 _ _
  subst hv1 hv3
  rw [Nat.mul_one] at hcs htake
  have hcell : ∀ j, j < xs.length → w.cell? ⟨g, 0 + j, none⟩ = some (.int .i64 xs[j]!) := by
    intro j hj
    rw [Nat.zero_add]
    have h1 : cur.toList[j]? = some (.int .i64 xs[j]!) := by
      have h2 : (cur.toList.take xs.length)[j]? = some (.int .i64 xs[j]!) := by
        rw [htake, zAH, List.getElem?_map, List.getElem?_eq_getElem hj]
        simp [getElem!_pos, hj]
      rw [List.getElem?_take, if_pos hj] at h2
      exact h2
    rw [zL hh j, ← Array.getElem?_toList, h1]
  have hH : Go.Sort.Holds (Value.int .i64) w g 0 xs.toArray := by
    intro j hj
    have hj' : j < xs.length := by simpa using hj
    refine ⟨?_, by rw [Nat.zero_add]; exact zN hh j⟩
    rw [hcell j hj']
    simp [getElem!_pos, hj']
  have hc := AnyG.slices_Delete_int zG1 g 0 cap i (i + 1) xs w hH hle (by unfold maxLen at hmax; omega) (by omega) (by omega)
  have hc2 : Calls Try.prog 127 #[.slice (some ⟨g, 0, none⟩) xs.length cap, .int .i64 (i : Nat), .int .i64 ((i + 1 : Nat) : Int)] w fun e w' => e = .returned (.slice (some ⟨g, 0, none⟩) (xs.length - (i + 1 - i)) cap) ∧ ∃ q, w' = Go.Sort.putRow (Value.int .i64) (Go.Sort.ahead w q) g 0 (xs.take i ++ xs.drop (i + 1) ++ List.replicate (i + 1 - i) 0).toArray := hc
  refine hc2.mono ?_
  rintro e w' ⟨rfl, q, rfl⟩
  have hlen : (xs.eraseIdx i).length = xs.length - 1 := by rw [List.length_eraseIdx]; simp [hi]
  have hd : xs.take i ++ xs.drop (i + 1) ++ List.replicate (i + 1 - i) 0 = xs.eraseIdx i ++ [0] := by
    rw [erase_eq, show i + 1 - i = 1 by omega]; rfl
  rw [hd, show i + 1 - i = 1 by omega]
  have hheap : (Go.Sort.putRow (Value.int .i64) (Go.Sort.ahead w q) g 0 (xs.eraseIdx i ++ [0]).toArray).heap[g]? = some (.cells (Go.Sort.putCells (Value.int .i64) 0 (xs.eraseIdx i ++ [0]).toArray cur) 2 (0, 0)) := by
    show (w.heap.modify g _)[g]? = _
    rw [Array.getElem?_modify, if_pos rfl, hh]
    rfl
  have hfar : ∀ k, k ≠ g → (Go.Sort.putRow (Value.int .i64) (Go.Sort.ahead w q) g 0 (xs.eraseIdx i ++ [0]).toArray).heap[k]? = w.heap[k]? := by
    intro k hk
    show (w.heap.modify g _)[k]? = _
    rw [Array.getElem?_modify, if_neg (Ne.symm hk)]
  refine ⟨rfl, ?_, ⟨rfl, rfl, rfl, ?_, fun k _ hk => hfar k (fun e => hk (by rw [e]))⟩⟩
  · have e1 : xs.length - 1 = (xs.eraseIdx i).length := hlen.symm
    rw [e1]
    refine Kd.zA3 ⟨by simp [zAH], .inr ⟨g, cap, _, rfl, hbase, hheap, by omega, hmax, by simp [Go.Sort.putCells, hcs], ?_⟩⟩ (fun k hk => ho.1 k hk)
    rw [Nat.mul_one]
    apply List.ext_getElem?
    intro j
    rw [List.getElem?_take]
    by_cases hj : j < (xs.eraseIdx i).length
    · rw [if_pos hj, Array.getElem?_toList, Go.Sort.putCells, Array.getElem?_mapIdx, Array.getElem?_eq_getElem (by omega), Option.map_some, if_pos ⟨by omega, by simp; omega⟩, Nat.sub_zero, zAH, List.getElem?_map, List.getElem?_eq_getElem hj, Option.map_some]
      congr 2
      rw [List.getElem!_toArray, getElem!_pos _ j (by simp; omega), List.getElem_append_left hj]
    · rw [if_neg hj, List.getElem?_eq_none (by simp [zAH]; omega)]
  · show w.heap.size ≤ (w.heap.modify g _).size
    rw [Array.size_modify]
    omega
def zEN : Nat → Int
 | 0 => 6
 | 1 => 2
 | _ => 1
def ZB (p : Int) : Nat → Int
 | 0 => p
 | i + 1 => ZB p i % zEN i
def Zr (p : Int) (i : Nat) : Int := ZB p i / zEN i
def zt (p : Int) : Nat → List Int
 | 0 => [0, 1, 2, 3]
 | i + 1 => (zt p i).eraseIdx (Zr p i).toNat
def zy (p : Int) (i : Nat) : Int := (zt p i).getD (Zr p i).toNat 0
def qt (p : Int) : List Int := [zy p 0, zy p 1, zy p 2, zy p 3]
theorem zDG (p : Int) (h0 : 0 ≤ p) (h1 : p ≤ 23) : (0 ≤ ZB p 0 ∧ ZB p 0 ≤ 23) ∧ (0 ≤ ZB p 1 ∧ ZB p 1 ≤ 5) ∧ (0 ≤ ZB p 2 ∧ ZB p 2 ≤ 1) ∧ (0 ≤ ZB p 3 ∧ ZB p 3 ≤ 0) := by
 simp only [ZB, zEN]; omega
theorem zDH (p : Int) (h0 : 0 ≤ p) (h1 : p ≤ 23) : (0 ≤ Zr p 0 ∧ Zr p 0 < 4) ∧ (0 ≤ Zr p 1 ∧ Zr p 1 < 3) ∧ (0 ≤ Zr p 2 ∧ Zr p 2 < 2) ∧ (0 ≤ Zr p 3 ∧ Zr p 3 < 1) := by
 have := zDG p h0 h1
 simp only [Zr, zEN]; omega
theorem zCL (p : Int) (h0 : 0 ≤ p) (h1 : p ≤ 23) : (zt p 0).length = 4 ∧ (zt p 1).length = 3 ∧ (zt p 2).length = 2 ∧ (zt p 3).length = 1 ∧ (zt p 4).length = 0 := by
 obtain ⟨a, b, c, d⟩ := zDH p h0 h1
 have e0 : (zt p 0).length = 4 := rfl
 have e1 : (zt p 1).length = 3 := by rw [zt, List.length_eraseIdx, e0, if_pos (by omega)]
 have e2 : (zt p 2).length = 2 := by rw [zt, List.length_eraseIdx, e1, if_pos (by omega)]
 have e3 : (zt p 3).length = 1 := by rw [zt, List.length_eraseIdx, e2, if_pos (by omega)]
 have e4 : (zt p 4).length = 0 := by rw [zt, List.length_eraseIdx, e3, if_pos (by omega)]
 exact ⟨e0, e1, e2, e3, e4⟩
theorem zDI {W : World} {n : Nat} (h : W.heap.size = n) (o : Obj) : (W.alloc o).heap[n]? = some o := h ▸ zCd W o
def Zt (p : Int) (i j : Nat) : Int := if j < i then zy p j else 0
set_option maxHeartbeats 8000000 in
set_option maxRecDepth 100000 in
theorem zAv.calls (p : Int) (w : World) (h0 : 0 ≤ p) (h1 : p ≤ 23) :
 Calls Try.prog 105 #[.int .i64 p] w fun e w' => e = .returned (.agg #[.int .i64 (zy p 0), .int .i64 (zy p 1), .int .i64 (zy p 2), .int .i64 (zy p 3)]) ∧ Below w.heap.size w w' := by
 have HP := zA.mk (zDG p h0 h1)
 have HK := zA.mk (zDH p h0 h1)
 have HL := zA.mk (zCL p h0 h1)
 clear h0 h1
 go_enter Try.func105, Try.ntmps105
 go_wp2_with fail
 go_loopg [0, 4, 11] 4 (fun gg v0 v4 v11 w' => ∃ i : Nat, i ≤ 4 ∧ 4 - i ≤ gg ∧ v11 = .int .i64 i ∧ v0 = .int .i64 (ZB p i) ∧ v4 = .slice (some ⟨w.heap.size + 1 + 1, 0, none⟩) (zt p i).length 4 ∧
  zA (Kd.R (Kd.int .i64) 2 w' w.heap.size (fun k => k = w.heap.size + 1 + 1) (.slice (some ⟨w.heap.size + 1 + 1, 0, none⟩) (zt p i).length 4) (zt p i)) ∧
  zA (w'.heap[w.heap.size + 1]? = some (.cells #[.int .i64 (Zt p i 0), .int .i64 (Zt p i 1), .int .i64 (Zt p i 2), .int .i64 (Zt p i 3)] 101 (0, 0))) ∧
  zA (w'.heap[w.heap.size]? = some (.cells #[.int .i64 0, .int .i64 0, .int .i64 0, .int .i64 0] 101 (0, 0))) ∧
  zA (w'.heap[w.heap.size + 1 + 1 + 1]? = some (.cells #[.int .i64 6, .int .i64 2, .int .i64 1, .int .i64 1] 2 (0, 0))) ∧ zA (Below w.heap.size w w'))
 case atStart =>
  refine ⟨0, by omega, by omega, rfl, rfl, rfl, ⟨?_⟩, ⟨?_⟩, ⟨?_⟩, ⟨?_⟩, ⟨?_⟩⟩
  next =>
   refine Kd.zA3 ⟨by simp [zAH], .inr ⟨w.heap.size + 1 + 1, 4, #[.int .i64 0, .int .i64 1, .int .i64 2, .int .i64 3], rfl, by omega, ?_, yqy 4, by decide, rfl, rfl⟩⟩ (fun k hk => by simpa [Value.ownBlock] using hk.symm)
   exact zG (zDI (by simp) _) _
  next =>
   exact zG (zG (zDI (by simp) _) _) _
  next =>
   exact zG (zG (zG (zDI rfl _) _) _) _
  next =>
   exact zDI (by simp) _
  next =>
   exact zC (zC (zC (zC (yry _ _) _) _) _) _
 case round =>
  obtain ⟨i, hi, hg, rfl, rfl, rfl, HR, B3, B2, B9, HB⟩ := hrel
  rcases (show i = 4 ∨ i = 3 ∨ i = 2 ∨ i = 1 ∨ i = 0 by omega) with rfl | rfl | rfl | rfl | rfl
  next =>
   have c0 : wr.cell? ⟨w.heap.size + 1, 0, none⟩ = some (.int .i64 (Zt p 4 0)) := (zL B3.out 0).trans rfl
   have c1 : wr.cell? ⟨w.heap.size + 1, 1, none⟩ = some (.int .i64 (Zt p 4 1)) := (zL B3.out 1).trans rfl
   have c2 : wr.cell? ⟨w.heap.size + 1, 2, none⟩ = some (.int .i64 (Zt p 4 2)) := (zL B3.out 2).trans rfl
   have c3 : wr.cell? ⟨w.heap.size + 1, 3, none⟩ = some (.int .i64 (Zt p 4 3)) := (zL B3.out 3).trans rfl
   have d0 : wr.cell? ⟨w.heap.size, 0, none⟩ = some (.int .i64 0) := (zL B2.out 0).trans rfl
   have d1 : wr.cell? ⟨w.heap.size, 1, none⟩ = some (.int .i64 0) := (zL B2.out 1).trans rfl
   have d2 : wr.cell? ⟨w.heap.size, 2, none⟩ = some (.int .i64 0) := (zL B2.out 2).trans rfl
   have d3 : wr.cell? ⟨w.heap.size, 3, none⟩ = some (.int .i64 0) := (zL B2.out 3).trans rfl
   have f0 := zN B2.out 0
   have f1 := zN B2.out 1
   have f2 := zN B2.out 2
   have f3 := zN B2.out 3
   have ht := Try.underlying101
   go_wp2
   refine bodyPost_ret (results_cell_row rfl _ _ w.heap.size 101 #[.int .i64 (Zt p 4 0), .int .i64 (Zt p 4 1), .int .i64 (Zt p 4 2), .int .i64 (Zt p 4 3)] (0, 0) _ rfl (qV (cs := #[.int .i64 (Zt p 4 0), .int .i64 (Zt p 4 1), .int .i64 (Zt p 4 2), .int .i64 0]) (qV (cs := #[.int .i64 (Zt p 4 0), .int .i64 (Zt p 4 1), .int .i64 0, .int .i64 0]) (qV (cs := #[.int .i64 (Zt p 4 0), .int .i64 0, .int .i64 0, .int .i64 0]) (qV B2.out 0 _ rfl) 1 _ rfl) 2 _ rfl) 3 _ rfl) ht rfl (by kernel_rfl)) rfl ⟨rfl, ?_⟩
   exact zF (zF (zF (zF HB.out (yqy _)) (yqy _)) (yqy _)) (yqy _)
  next =>
   have hK : 0 ≤ Zr p 3 ∧ Zr p 3 < (zt p 3).length := by have := HK.out; have := HL.out; omega
   have hP : 0 ≤ ZB p 3 ∧ ZB p 3 ≤ 23 := by have := HP.out; omega
   have HLN := zA.mk (show (zt p 3).length = 1 by have := HL.out; omega)
   have HLN2 := zA.mk (show (zt p 4).length = (zt p 3).length - 1 by have := HL.out; omega)
   obtain ⟨A1, q1, hA1, hq1, hC⟩ := Kd.Jq HR.out
   injection hA1 with hA1 hl1 hc1
   subst hA1
   clear hl1 hc1 hq1
   obtain ⟨ad, had, hx⟩ := Kd.ZA hC (Zr p 3) hK.1 (by omega)
   injection had with had
   subst had
   rw [add_plain] at hx
   have HAT := zA.mk (show rd (zt p 3) (Zr p 3) = zy p 3 from rfl)
   rw [HAT.out] at hx
   have HER := zA.mk (show (zt p 3).eraseIdx (Zr p 3).toNat = zt p 4 from rfl)
   have hX : Zr p 3 = ZB p 3 := by have e : Zr p 3 = ZB p 3 / 1 := rfl; rw [e]; exact Int.ediv_one _
   have HY := zA.mk (show 0 = ZB p 4 by have e : ZB p 4 = ZB p 3 % 1 := rfl; rw [e]; omega)
   rw [hX] at hx hK
   have HX := zA.mk hX
   clear hX hC
   obtain ⟨hk0, hk1⟩ := hK
   obtain ⟨hp0, hp1⟩ := hP
   have b9 : wr.cell? ⟨w.heap.size + 1 + 1 + 1, 3, none⟩ = some (.int .i64 1) := (zL B9.out 3).trans rfl
   have b3 : wr.cell? ⟨w.heap.size + 1, 3, none⟩ = some (.int .i64 (Zt p 3 3)) := (zL B3.out 3).trans rfl
   have f3 := zN B3.out 3
   have hk2 : ZB p 3 < 9223372036854775807 := by omega
   go_wp2_with fail
   have HRw := zA.mk (show Kd.R (Kd.int .i64) 2 (wr.setCell ⟨w.heap.size + 1, 3, none⟩ (.int .i64 (zy p 3))) w.heap.size (fun k => k = w.heap.size + 1 + 1) (.slice (some ⟨w.heap.size + 1 + 1, 0, none⟩) (zt p 3).length 4) (zt p 3) from Kd.ZN (p := ⟨w.heap.size + 1, 3, none⟩) HR.out (fun k hk => by rw [hk]; show w.heap.size + 1 + 1 ≠ w.heap.size + 1; omega) _)
   refine Qg (args' := #[.slice (some ⟨w.heap.size + 1 + 1, 0, none⟩) (zt p 3).length 4, .int .i64 ((ZB p 3).toNat : Int), .int .i64 (((ZB p 3).toNat : Int) + 1)]) (by rw [Int.toNat_of_nonneg hk0]) ?_
   refine (Zq.zDF (w.heap.size + 1 + 1) 4 (ZB p 3).toNat (zt p 3) w.heap.size (fun k => k = w.heap.size + 1 + 1) _ HRw.out (by omega)).mono ?_
   rintro e w1 ⟨rfl, hR1, hg1⟩
   have hl2 := HLN2.out
   have er : (zt p 3).eraseIdx (ZB p 3).toNat = zt p 4 := by rw [← HER.out, HX.out]
   rw [er, ← hl2] at hR1
   rw [← hl2]
   have HR2 := zA.mk hR1
   have B3a : (wr.setCell ⟨w.heap.size + 1, 3, none⟩ (.int .i64 (zy p 3))).heap[w.heap.size + 1]? = some (.cells #[.int .i64 (Zt p 4 0), .int .i64 (Zt p 4 1), .int .i64 (Zt p 4 2), .int .i64 (Zt p 4 3)] 101 (0, 0)) := qV B3.out 3 _ rfl
   have B3n := zA.mk (ql B3a hg1 (by simp))
   have B2n := zA.mk (ql (qK (p := ⟨w.heap.size + 1, 3, none⟩) B2.out (by show w.heap.size ≠ w.heap.size + 1; omega) (.int .i64 (zy p 3))) hg1 (by simp; omega))
   have B9n := zA.mk (ql (qK (p := ⟨w.heap.size + 1, 3, none⟩) B9.out (by show w.heap.size + 1 + 1 + 1 ≠ w.heap.size + 1; omega) (.int .i64 (zy p 3))) hg1 (by simp))
   have HBn := zA.mk (QW (zF (j := 3) (v := .int .i64 (zy p 3)) HB.out (show w.heap.size ≤ w.heap.size + 1 by omega)) (some (w.heap.size + 1 + 1)) (by have := HB.out.size; simp [World.setCell]; omega) hg1 (fun k hk => by injection hk with hk; omega))
   clear hR1 hg1 B3a HRw B3 B2 B9 HB HR er hl2 hx b9 b3 f3
   go_wp2
   go_roundg (4 - 4)
   case measure => omega
   case rel => exact ⟨4, by omega, by omega, by first | rfl | go_num, by rw [← HY.out], rfl, HR2, B3n, B2n, B9n, HBn⟩
  next =>
   have hK : 0 ≤ Zr p 2 ∧ Zr p 2 < (zt p 2).length := by have := HK.out; have := HL.out; omega
   have hP : 0 ≤ ZB p 2 ∧ ZB p 2 ≤ 23 := by have := HP.out; omega
   have HLN := zA.mk (show (zt p 2).length = 2 by have := HL.out; omega)
   have HLN2 := zA.mk (show (zt p 3).length = (zt p 2).length - 1 by have := HL.out; omega)
   obtain ⟨A1, q1, hA1, hq1, hC⟩ := Kd.Jq HR.out
   injection hA1 with hA1 hl1 hc1
   subst hA1
   clear hl1 hc1 hq1
   obtain ⟨ad, had, hx⟩ := Kd.ZA hC (Zr p 2) hK.1 (by omega)
   injection had with had
   subst had
   rw [add_plain] at hx
   have HAT := zA.mk (show rd (zt p 2) (Zr p 2) = zy p 2 from rfl)
   rw [HAT.out] at hx
   have HER := zA.mk (show (zt p 2).eraseIdx (Zr p 2).toNat = zt p 3 from rfl)
   have hX : Zr p 2 = ZB p 2 := by have e : Zr p 2 = ZB p 2 / 1 := rfl; rw [e]; exact Int.ediv_one _
   have HY := zA.mk (show 0 = ZB p 3 by have e : ZB p 3 = ZB p 2 % 1 := rfl; rw [e]; omega)
   rw [hX] at hx hK
   have HX := zA.mk hX
   clear hX hC
   obtain ⟨hk0, hk1⟩ := hK
   obtain ⟨hp0, hp1⟩ := hP
   have b9 : wr.cell? ⟨w.heap.size + 1 + 1 + 1, 2, none⟩ = some (.int .i64 1) := (zL B9.out 2).trans rfl
   have b3 : wr.cell? ⟨w.heap.size + 1, 2, none⟩ = some (.int .i64 (Zt p 2 2)) := (zL B3.out 2).trans rfl
   have f3 := zN B3.out 2
   have hk2 : ZB p 2 < 9223372036854775807 := by omega
   go_wp2_with fail
   have HRw := zA.mk (show Kd.R (Kd.int .i64) 2 (wr.setCell ⟨w.heap.size + 1, 2, none⟩ (.int .i64 (zy p 2))) w.heap.size (fun k => k = w.heap.size + 1 + 1) (.slice (some ⟨w.heap.size + 1 + 1, 0, none⟩) (zt p 2).length 4) (zt p 2) from Kd.ZN (p := ⟨w.heap.size + 1, 2, none⟩) HR.out (fun k hk => by rw [hk]; show w.heap.size + 1 + 1 ≠ w.heap.size + 1; omega) _)
   refine Qg (args' := #[.slice (some ⟨w.heap.size + 1 + 1, 0, none⟩) (zt p 2).length 4, .int .i64 ((ZB p 2).toNat : Int), .int .i64 (((ZB p 2).toNat : Int) + 1)]) (by rw [Int.toNat_of_nonneg hk0]) ?_
   refine (Zq.zDF (w.heap.size + 1 + 1) 4 (ZB p 2).toNat (zt p 2) w.heap.size (fun k => k = w.heap.size + 1 + 1) _ HRw.out (by omega)).mono ?_
   rintro e w1 ⟨rfl, hR1, hg1⟩
   have hl2 := HLN2.out
   have er : (zt p 2).eraseIdx (ZB p 2).toNat = zt p 3 := by rw [← HER.out, HX.out]
   rw [er, ← hl2] at hR1
   rw [← hl2]
   have HR2 := zA.mk hR1
   have B3a : (wr.setCell ⟨w.heap.size + 1, 2, none⟩ (.int .i64 (zy p 2))).heap[w.heap.size + 1]? = some (.cells #[.int .i64 (Zt p 3 0), .int .i64 (Zt p 3 1), .int .i64 (Zt p 3 2), .int .i64 (Zt p 3 3)] 101 (0, 0)) := qV B3.out 2 _ rfl
   have B3n := zA.mk (ql B3a hg1 (by simp))
   have B2n := zA.mk (ql (qK (p := ⟨w.heap.size + 1, 2, none⟩) B2.out (by show w.heap.size ≠ w.heap.size + 1; omega) (.int .i64 (zy p 2))) hg1 (by simp; omega))
   have B9n := zA.mk (ql (qK (p := ⟨w.heap.size + 1, 2, none⟩) B9.out (by show w.heap.size + 1 + 1 + 1 ≠ w.heap.size + 1; omega) (.int .i64 (zy p 2))) hg1 (by simp))
   have HBn := zA.mk (QW (zF (j := 2) (v := .int .i64 (zy p 2)) HB.out (show w.heap.size ≤ w.heap.size + 1 by omega)) (some (w.heap.size + 1 + 1)) (by have := HB.out.size; simp [World.setCell]; omega) hg1 (fun k hk => by injection hk with hk; omega))
   clear hR1 hg1 B3a HRw B3 B2 B9 HB HR er hl2 hx b9 b3 f3
   go_wp2
   go_roundg (4 - 3)
   case measure => omega
   case rel => exact ⟨3, by omega, by omega, by first | rfl | go_num, by rw [← HY.out], rfl, HR2, B3n, B2n, B9n, HBn⟩
  next =>
   have hK : 0 ≤ Zr p 1 ∧ Zr p 1 < (zt p 1).length := by have := HK.out; have := HL.out; omega
   have hP : 0 ≤ ZB p 1 ∧ ZB p 1 ≤ 23 := by have := HP.out; omega
   have HLN := zA.mk (show (zt p 1).length = 3 by have := HL.out; omega)
   have HLN2 := zA.mk (show (zt p 2).length = (zt p 1).length - 1 by have := HL.out; omega)
   obtain ⟨A1, q1, hA1, hq1, hC⟩ := Kd.Jq HR.out
   injection hA1 with hA1 hl1 hc1
   subst hA1
   clear hl1 hc1 hq1
   obtain ⟨ad, had, hx⟩ := Kd.ZA hC (Zr p 1) hK.1 (by omega)
   injection had with had
   subst had
   rw [add_plain] at hx
   have HAT := zA.mk (show rd (zt p 1) (Zr p 1) = zy p 1 from rfl)
   rw [HAT.out] at hx
   have HER := zA.mk (show (zt p 1).eraseIdx (Zr p 1).toNat = zt p 2 from rfl)
   have hX : Zr p 1 = ZB p 1 / 2 := by have e : Zr p 1 = ZB p 1 / 2 := rfl; rw [e]
   have HY := zA.mk (show ZB p 1 % 2 = ZB p 2 by have e : ZB p 2 = ZB p 1 % 2 := rfl; rw [e])
   rw [hX] at hx hK
   have HX := zA.mk hX
   clear hX hC
   obtain ⟨hk0, hk1⟩ := hK
   obtain ⟨hp0, hp1⟩ := hP
   have b9 : wr.cell? ⟨w.heap.size + 1 + 1 + 1, 1, none⟩ = some (.int .i64 2) := (zL B9.out 1).trans rfl
   have b3 : wr.cell? ⟨w.heap.size + 1, 1, none⟩ = some (.int .i64 (Zt p 1 1)) := (zL B3.out 1).trans rfl
   have f3 := zN B3.out 1
   have hk2 : ZB p 1 / 2 < 9223372036854775807 := by omega
   go_wp2_with fail
   have HRw := zA.mk (show Kd.R (Kd.int .i64) 2 (wr.setCell ⟨w.heap.size + 1, 1, none⟩ (.int .i64 (zy p 1))) w.heap.size (fun k => k = w.heap.size + 1 + 1) (.slice (some ⟨w.heap.size + 1 + 1, 0, none⟩) (zt p 1).length 4) (zt p 1) from Kd.ZN (p := ⟨w.heap.size + 1, 1, none⟩) HR.out (fun k hk => by rw [hk]; show w.heap.size + 1 + 1 ≠ w.heap.size + 1; omega) _)
   refine Qg (args' := #[.slice (some ⟨w.heap.size + 1 + 1, 0, none⟩) (zt p 1).length 4, .int .i64 ((ZB p 1 / 2).toNat : Int), .int .i64 (((ZB p 1 / 2).toNat : Int) + 1)]) (by rw [Int.toNat_of_nonneg hk0]) ?_
   refine (Zq.zDF (w.heap.size + 1 + 1) 4 (ZB p 1 / 2).toNat (zt p 1) w.heap.size (fun k => k = w.heap.size + 1 + 1) _ HRw.out (by omega)).mono ?_
   rintro e w1 ⟨rfl, hR1, hg1⟩
   have hl2 := HLN2.out
   have er : (zt p 1).eraseIdx (ZB p 1 / 2).toNat = zt p 2 := by rw [← HER.out, HX.out]
   rw [er, ← hl2] at hR1
   rw [← hl2]
   have HR2 := zA.mk hR1
   have B3a : (wr.setCell ⟨w.heap.size + 1, 1, none⟩ (.int .i64 (zy p 1))).heap[w.heap.size + 1]? = some (.cells #[.int .i64 (Zt p 2 0), .int .i64 (Zt p 2 1), .int .i64 (Zt p 2 2), .int .i64 (Zt p 2 3)] 101 (0, 0)) := qV B3.out 1 _ rfl
   have B3n := zA.mk (ql B3a hg1 (by simp))
   have B2n := zA.mk (ql (qK (p := ⟨w.heap.size + 1, 1, none⟩) B2.out (by show w.heap.size ≠ w.heap.size + 1; omega) (.int .i64 (zy p 1))) hg1 (by simp; omega))
   have B9n := zA.mk (ql (qK (p := ⟨w.heap.size + 1, 1, none⟩) B9.out (by show w.heap.size + 1 + 1 + 1 ≠ w.heap.size + 1; omega) (.int .i64 (zy p 1))) hg1 (by simp))
   have HBn := zA.mk (QW (zF (j := 1) (v := .int .i64 (zy p 1)) HB.out (show w.heap.size ≤ w.heap.size + 1 by omega)) (some (w.heap.size + 1 + 1)) (by have := HB.out.size; simp [World.setCell]; omega) hg1 (fun k hk => by injection hk with hk; omega))
   clear hR1 hg1 B3a HRw B3 B2 B9 HB HR er hl2 hx b9 b3 f3
   go_wp2
   go_roundg (4 - 2)
   case measure => omega
   case rel => exact ⟨2, by omega, by omega, by first | rfl | go_num, by rw [← HY.out], rfl, HR2, B3n, B2n, B9n, HBn⟩
  next =>
   have hK : 0 ≤ Zr p 0 ∧ Zr p 0 < (zt p 0).length := by have := HK.out; have := HL.out; omega
   have hP : 0 ≤ ZB p 0 ∧ ZB p 0 ≤ 23 := by have := HP.out; omega
   have HLN := zA.mk (show (zt p 0).length = 4 by have := HL.out; omega)
   have HLN2 := zA.mk (show (zt p 1).length = (zt p 0).length - 1 by have := HL.out; omega)
   obtain ⟨A1, q1, hA1, hq1, hC⟩ := Kd.Jq HR.out
   injection hA1 with hA1 hl1 hc1
   subst hA1
   clear hl1 hc1 hq1
   obtain ⟨ad, had, hx⟩ := Kd.ZA hC (Zr p 0) hK.1 (by omega)
   injection had with had
   subst had
   rw [add_plain] at hx
   have HAT := zA.mk (show rd (zt p 0) (Zr p 0) = zy p 0 from rfl)
   rw [HAT.out] at hx
   have HER := zA.mk (show (zt p 0).eraseIdx (Zr p 0).toNat = zt p 1 from rfl)
   have hX : Zr p 0 = ZB p 0 / 6 := by have e : Zr p 0 = ZB p 0 / 6 := rfl; rw [e]
   have HY := zA.mk (show ZB p 0 % 6 = ZB p 1 by have e : ZB p 1 = ZB p 0 % 6 := rfl; rw [e])
   rw [hX] at hx hK
   have HX := zA.mk hX
   clear hX hC
   obtain ⟨hk0, hk1⟩ := hK
   obtain ⟨hp0, hp1⟩ := hP
   have b9 : wr.cell? ⟨w.heap.size + 1 + 1 + 1, 0, none⟩ = some (.int .i64 6) := (zL B9.out 0).trans rfl
   have b3 : wr.cell? ⟨w.heap.size + 1, 0, none⟩ = some (.int .i64 (Zt p 0 0)) := (zL B3.out 0).trans rfl
   have f3 := zN B3.out 0
   have hk2 : ZB p 0 / 6 < 9223372036854775807 := by omega
   go_wp2_with fail
   have HRw := zA.mk (show Kd.R (Kd.int .i64) 2 (wr.setCell ⟨w.heap.size + 1, 0, none⟩ (.int .i64 (zy p 0))) w.heap.size (fun k => k = w.heap.size + 1 + 1) (.slice (some ⟨w.heap.size + 1 + 1, 0, none⟩) (zt p 0).length 4) (zt p 0) from Kd.ZN (p := ⟨w.heap.size + 1, 0, none⟩) HR.out (fun k hk => by rw [hk]; show w.heap.size + 1 + 1 ≠ w.heap.size + 1; omega) _)
   refine Qg (args' := #[.slice (some ⟨w.heap.size + 1 + 1, 0, none⟩) (zt p 0).length 4, .int .i64 ((ZB p 0 / 6).toNat : Int), .int .i64 (((ZB p 0 / 6).toNat : Int) + 1)]) (by rw [Int.toNat_of_nonneg hk0]) ?_
   refine (Zq.zDF (w.heap.size + 1 + 1) 4 (ZB p 0 / 6).toNat (zt p 0) w.heap.size (fun k => k = w.heap.size + 1 + 1) _ HRw.out (by omega)).mono ?_
   rintro e w1 ⟨rfl, hR1, hg1⟩
   have hl2 := HLN2.out
   have er : (zt p 0).eraseIdx (ZB p 0 / 6).toNat = zt p 1 := by rw [← HER.out, HX.out]
   rw [er, ← hl2] at hR1
   rw [← hl2]
   have HR2 := zA.mk hR1
   have B3a : (wr.setCell ⟨w.heap.size + 1, 0, none⟩ (.int .i64 (zy p 0))).heap[w.heap.size + 1]? = some (.cells #[.int .i64 (Zt p 1 0), .int .i64 (Zt p 1 1), .int .i64 (Zt p 1 2), .int .i64 (Zt p 1 3)] 101 (0, 0)) := qV B3.out 0 _ rfl
   have B3n := zA.mk (ql B3a hg1 (by simp))
   have B2n := zA.mk (ql (qK (p := ⟨w.heap.size + 1, 0, none⟩) B2.out (by show w.heap.size ≠ w.heap.size + 1; omega) (.int .i64 (zy p 0))) hg1 (by simp; omega))
   have B9n := zA.mk (ql (qK (p := ⟨w.heap.size + 1, 0, none⟩) B9.out (by show w.heap.size + 1 + 1 + 1 ≠ w.heap.size + 1; omega) (.int .i64 (zy p 0))) hg1 (by simp))
   have HBn := zA.mk (QW (zF (j := 0) (v := .int .i64 (zy p 0)) HB.out (show w.heap.size ≤ w.heap.size + 1 by omega)) (some (w.heap.size + 1 + 1)) (by have := HB.out.size; simp [World.setCell]; omega) hg1 (fun k hk => by injection hk with hk; omega))
   clear hR1 hg1 B3a HRw B3 B2 B9 HB HR er hl2 hx b9 b3 f3
   go_wp2
   go_roundg (4 - 1)
   case measure => omega
   case rel => exact ⟨1, by omega, by omega, by first | rfl | go_num, by rw [← HY.out], rfl, HR2, B3n, B2n, B9n, HBn⟩
def qc.f (l0 : List (List (qC))) : Option (Int) := some (l0.length : Int)
set_option maxHeartbeats 8000000 in
set_option maxRecDepth 100000 in
theorem qc.calls (A0 : Option Addr) (c0 : Nat) (l0 : List (List (qC))) (r : Int) (w : World) (hr0 : Kd.C (Kd.slice 75 ZQ) w A0 l0.length l0) (hc0 : l0.length ≤ c0) (h : qc.f l0 = some r) :
    Calls Try.prog 75 #[.slice A0 l0.length c0] w fun e w' => e = .returned (.int .i64 r) ∧ qB w w' := by
  have HR0 := zA.mk hr0
  have HC0 := zA.mk hc0
  clear hr0 hc0
  have H : (some (l0.length : Int)) = some r := h
  clear h
  obtain rfl := yey H
  go_enter Try.func75, Try.ntmps75
  go_wp2
  go_ret
  exact ⟨by first | rfl | (simp; done) | (simp [*]; done), by repeat (first | exact qB.refl _ | apply qB.step)⟩
theorem Ja (a b c d : Int) (f : Int) (h0 : 0 ≤ f) (h1 : f ≤ 3) : ∀ w : World, (Instr.index 101 (.agg #[.int .i64 a, .int .i64 b, .int .i64 c, .int .i64 d]) (.int .i64 f)).run Try.prog w = .ok (.int .i64 (rd [a, b, c, d] f)) w := by
  intro w
  rcases (show f = 0 ∨ f = 1 ∨ f = 2 ∨ f = 3 by omega) with rfl | rfl | rfl | rfl
  · kernel_rfl
  · kernel_rfl
  · kernel_rfl
  · kernel_rfl
theorem Qh {w : World} {g : Nat} {T : TypeId} {a b c d : Int} (h : w.heap[g]? = some (.cells #[.int .i64 a, .int .i64 b, .int .i64 c, .int .i64 d] T (0, 0))) (f : Int) (h0 : 0 ≤ f) (h1 : f ≤ 3) : w.cell? ⟨g, f.toNat, none⟩ = some (.int .i64 (rd [a, b, c, d] f)) := by
  rw [zL h]
  rcases (show f = 0 ∨ f = 1 ∨ f = 2 ∨ f = 3 by omega) with rfl | rfl | rfl | rfl <;> rfl
theorem zBm {w : World} {g : Nat} {T : TypeId} {a b c d : Int} (h : w.heap[g]? = some (.cells #[.int .i64 a, .int .i64 b, .int .i64 c, .int .i64 d] T (0, 0))) (f v : Int) (h0 : 0 ≤ f) (h1 : f ≤ 3) :
    (w.setCell ⟨g, f.toNat, none⟩ (.int .i64 v)).heap[g]? = some (.cells #[.int .i64 (rd ([a, b, c, d].set f.toNat v) 0), .int .i64 (rd ([a, b, c, d].set f.toNat v) 1), .int .i64 (rd ([a, b, c, d].set f.toNat v) 2), .int .i64 (rd ([a, b, c, d].set f.toNat v) 3)] T (0, 0)) := by
  rcases (show f = 0 ∨ f = 1 ∨ f = 2 ∨ f = 3 by omega) with rfl | rfl | rfl | rfl
  · exact qV h 0 _ rfl
  · exact qV h 1 _ rfl
  · exact qV h 2 _ rfl
  · exact qV h 3 _ rfl
theorem QS {W : World} {n : Nat} (h : W.heap.size = n) (o : Obj) : (W.alloc o).heap[n]? = some o := h ▸ zCd W o
theorem zBn {l : List Int} (h : l.length = 4) : l = [rd l 0, rd l 1, rd l 2, rd l 3] := by
  match l, h with
  | [a, b, c, d], _ => rfl
def qh.f (a0_0 : Int) (a0_1 : Int) : Option (Bool) := some (decide (a0_0 < 0))
set_option maxHeartbeats 8000000 in
set_option maxRecDepth 100000 in
theorem qh.calls (a0_0 : Int) (a0_1 : Int) (r : Bool) (w : World) (h : qh.f a0_0 a0_1 = some r) :
    Calls Try.prog 77 #[.agg #[.int .i64 a0_0, .int .i64 a0_1]] w fun e w' => e = .returned (.bool r) ∧ Below w.heap.size w w' := by
  have hu75 := Try.underlying75
  have HB := zA.mk (yry w.heap.size w)
  have H : (some (decide (a0_0 < 0))) = some r := h
  clear h
  obtain rfl := yey H
  go_enter Try.func77, Try.ntmps77
  go_wp2_with (first | ((with_reducible refine zn (N := 1) rfl ?_); refine zp ?hg (N := 1) ?hd (cs := #[.int .i64 a0_0, .int .i64 a0_1]) (t := 75) ?hr ?_; (case hd => rfl); (case hg => rfl); (case hr => first | (go_simp; done) | (go_simp; rfl)); intro gb101 hg w2 hbox hb; have n0_ := zA.mk (zM (by repeat (first | (with_reducible first | exact HB.out | apply zC | apply zB | apply zD) | exact HB.out)) hb); have n1_ := zA.mk (hbox); have n2_ := zA.mk ((by rw [hg]; exact (zO (by repeat (first | (with_reducible first | exact HB.out | apply zC | apply zB | apply zD) | exact HB.out))) : w.heap.size ≤ gb101)); have n3_ := zA.mk ((by rw [hg]; exact (zO (by repeat (first | (with_reducible first | exact HB.out | apply zC | apply zB | apply zD) | exact HB.out))) : w.heap.size ≤ gb101)); clear HB; have HB := n0_; have BK101 := n1_; have GW101 := n2_; have GE101 := n3_; clear n0_ n1_ n2_ n3_; clear hb hbox hg; have hcz3_0 : w2.cell? ⟨gb101, 0, none⟩ = some (.int .i64 a0_0) := (zL BK101.out 0).trans rfl; have hcz3_1 : w2.cell? ⟨gb101, 1, none⟩ = some (.int .i64 a0_1) := (zL BK101.out 1).trans rfl; have hfz3_0 := zN BK101.out 0; have hfz3_1 := zN BK101.out 1))
  go_ret
  exact ⟨by first | rfl | (simp [zW, zX] <;> rfl) | (simp [*, zW, zX] <;> rfl), by repeat (first | (with_reducible first | exact HB.out | apply zC | apply zB | apply zD | refine zF ?_ GE101.out) | exact HB.out)⟩
theorem goesF_ {P : Program} {ops : Array Oper} {Q : Exit → Act → World → Prop} {oi : Oper} {N : Option Tmp} {a : Act} {w : World} {K : Act → World → Prop} {f : FuncId} {fn : Func} {t : Tmp} {as_ : Array Operand} {ts : Array TypeId} {caps : Array Value} (hf : P.funcs[f]? = some fn) (hname : (fn.name == "runtime.NumGoroutine") = false) (hb : fn.body.isSome = true) (args all : Array Value)
    (hw : Region.wanted oi (yielded ops a.tmps) = true) (hN : oi.dst = N) (hop : oi.op = .call { callee := .value (.tmp t), args := as_, argTypes := ts }) (ht : a.eval (.tmp t) = .func (.func f) #[] caps) (hargs : as_.map a.eval = args) (hall : args ++ caps = all)
    (h : Calls P f all w fun e w' => ∃ v, e = .returned v ∧ K (a.put N v) w') : if Region.wanted oi (yielded ops a.tmps) = true then Oper.wp P oi a w K Q else K (a.put N undef) w := by
  subst hall
  refine call_ f (args ++ caps) hw hN ?_ h
  have he := zCg hf hname hb (args ++ caps) w
  unfold execOp
  simp [hop, resolve, Deferred.ofValue, invoke, ht, hargs, he]
def zDs {σ : Type} (step : σ → Nat → Nat → qC → σ) (tet : Nat) : List qC → Nat → σ → σ
  | [], _, s => s
  | x :: xs, f, s => zDs step tet xs (f + 1) (if x.f0 < 0 then s else step s tet f x)
def zBH {σ : Type} (step : σ → Nat → Nat → qC → σ) : List (List qC) → Nat → σ → σ
  | [], _, s => s
  | r :: rs, tet, s => zBH step rs (tet + 1) (zDs step tet r 0 s)
def zAU (l : List (List qC)) (j f : Nat) (x : qC) : Prop := ∃ h1 : j < l.length, ∃ h2 : f < l[j].length, l[j][f] = x
set_option maxHeartbeats 8000000 in
set_option maxRecDepth 100000 in
theorem zDb.calls {σ : Type} (F : FuncId) (fn : Func) (hf : Try.prog.funcs[F]? = some fn) (hname : (fn.name == "runtime.NumGoroutine") = false) (hbody : fn.body.isSome = true) (caps : Array Value)
    (l : List (List qC)) (A0 : Option Addr) (c0 : Nat) (w0 w : World) (Inv : σ → World → Prop) (step : σ → Nat → Nat → qC → σ) (st0 : σ)
    (cnt : σ → Nat) (N : Nat) (hcnt : ∀ s j f x, cnt (step s j f x) ≤ cnt s + 4) (hN : cnt st0 + 4 * (l.map List.length).sum ≤ N)
    (hB : ∀ s W W', Inv s W → Below W.heap.size W W' → Inv s W')
    (hK : ∀ s W, Inv s W → Below w0.heap.size w0 W)
    (hT : Kd.C (Kd.slice 75 ZQ) w0 A0 l.length l)
    (hperm : ∀ r ∈ l, ∀ x ∈ r, ¬ x.f0 < 0 → 0 ≤ x.f1 ∧ x.f1 ≤ 23)
    (hstep : ∀ s W (j f : Nat) (x : qC), Inv s W → zAU l j f x → ¬ x.f0 < 0 → cnt s + 4 ≤ N →
      Calls Try.prog F (#[.int .i64 (j : Int), .int .i64 (f : Int), .agg #[.int .i64 x.f0, .int .i64 x.f1], .agg #[.int .i64 (zy x.f1 0), .int .i64 (zy x.f1 1), .int .i64 (zy x.f1 2), .int .i64 (zy x.f1 3)]] ++ caps) W fun e W' => e = .returned (.tuple #[]) ∧ Inv (step s j f x) W')
    (h0 : Inv st0 w) :
    Calls Try.prog 99 #[.agg #[.slice A0 l.length c0], .func (.func F) #[] caps] w fun e w' => e = .returned (.tuple #[]) ∧ Inv (zBH step l 0 st0) w' := by
  have HB := zA.mk hB
  have HK := zA.mk hK
  have HT := zA.mk hT
  have HPM := zA.mk hperm
  have HST := zA.mk hstep
  have HCN := zA.mk hcnt
  have HN : zA (cnt st0 + 4 * ((l.drop 0).map List.length).sum ≤ N) := ⟨by rw [List.drop_zero]; exact hN⟩
  clear hcnt hN
  have HS := zA.mk (hB _ _ _ h0 (zC (yry w.heap.size w) (.cells #[.slice A0 l.length c0] 35)))
  have hbig : l.length ≤ 9223372036854775807 := hT.2.1
  clear hB hT hperm hstep h0 hK
  have HA : zA (zBH step (l.drop 0) 0 st0 = zBH step l 0 st0) := ⟨by rw [List.drop_zero]⟩
  generalize zBH step l 0 st0 = R at HA ⊢
  go_enter Try.func99, Try.ntmps99
  go_wp2
  go_loopg [11] l.length (fun gg v11 w' => ∃ (j : Nat) (s : σ), j ≤ l.length ∧ l.length - j ≤ gg ∧ v11 = .int .i64 j ∧ zA (zBH step (l.drop j) j s = R) ∧ zA (Inv s w') ∧ zA (cnt s + 4 * ((l.drop j).map List.length).sum ≤ N))
  case atStart => exact ⟨0, st0, Nat.zero_le _, by omega, rfl, HA, HS, HN⟩
  case round =>
    clear HS HA HN
    obtain ⟨j, st, hj, hg, rfl, HA, HS, HN⟩ := hrel
    by_cases hlt : j < l.length
    · have hltz : (j : Int) < (l.length : Int) := by omega
      obtain ⟨ad1, A1, c1, e1, hy1, hl1, hC1⟩ := ZL HT.out (j : Int) (by omega) hltz
      subst e1
      have ex : zE l (j : Int) = l[j] := by simp [zE, hlt]
      rw [ex] at hy1 hl1 hC1
      rw [yny] at hy1
      replace hy1 := ((HK.out _ _ HS.out).cell (ypy w0 _ hy1)).trans hy1
      have HA2 := HA.out
      rw [yoy hlt, zBH] at HA2
      have HI : zA (zBH step (l.drop (j + 1)) (j + 1) (zDs step j (l[j].drop 0) 0 st) = R) := ⟨by rw [List.drop_zero]; exact HA2⟩
      have HN1 : zA (cnt st + 4 * (l[j].length - 0 + ((l.drop (j + 1)).map List.length).sum) ≤ N) := ⟨by have h := HN.out; rw [yoy hlt, yjy, List.sum_cons] at h; omega⟩
      clear HN
      have HP1 := zA.mk (HPM.out l[j] (List.getElem_mem hlt))
      have HX := zA.mk (show ∀ (f : Nat) (x : qC) (h2 : f < l[j].length), l[j][f] = x → zAU l j f x from fun f x h2 h => ⟨hlt, h2, h⟩)
      have hbig1 : l[j].length ≤ 9223372036854775807 := hC1.2.1
      have HC1 := zA.mk hC1
      clear HA HA2 hl1 hC1 ex
      generalize l[j] = row at *
      go_wp2
      go_loopg [18] row.length (fun gg v18 w' => ∃ (f : Nat) (s : σ), f ≤ row.length ∧ row.length - f ≤ gg ∧ v18 = .int .i64 f ∧ zA (zBH step (l.drop (j + 1)) (j + 1) (zDs step j (row.drop f) f s) = R) ∧ zA (Inv s w') ∧ zA (cnt s + 4 * (row.length - f + ((l.drop (j + 1)).map List.length).sum) ≤ N))
      case atStart => exact ⟨0, st, Nat.zero_le _, by omega, rfl, HI, HS, HN1⟩
      case round =>
        clear HI HS hy1 HN1
        obtain ⟨f, st, hf9, hgf, rfl, HI, HS, HN1⟩ := hrel
        by_cases hlf : f < row.length
        · have hlfz : (f : Int) < (row.length : Int) := by omega
          obtain ⟨ad2, e2, hy2, hy3⟩ := Zp HC1.out (f : Int) (by omega) hlfz
          subst e2
          replace hy2 := ((HK.out _ _ HS.out).cell (ypy w0 _ hy2)).trans hy2
          replace hy3 := ((HK.out _ _ HS.out).cell (ypy w0 _ hy3)).trans hy3
          have HF := zA.mk (HX.out f row[f] hlf rfl)
          have HY := zA.mk (HP1.out row[f] (List.getElem_mem hlf))
          have HI2 := HI.out
          rw [yoy hlf, zDs] at HI2
          have HI3 := zA.mk HI2
          clear HI HI2
          have ex : zI row (f : Int) = row[f] := by simp [zI, hlf]
          rw [ex, yny] at hy2 hy3
          generalize row[f] = y at hy2 hy3 HY HI3 HF
          obtain ⟨f0, f1⟩ := y
          clear ex
          have BF := zA.mk (QS (W := wr) rfl (.cells #[.int .i64 f0, .int .i64 f1] 75))
          have HS1 := zA.mk (HB.out _ _ _ HS.out (zC (yry _ _) (.cells #[.int .i64 f0, .int .i64 f1] 75)))
          clear HS
          by_cases hb : f0 < 0
          · rw [if_pos hb] at HI3
            have d0 : decide (f0 < 0) = true := ygy hb
            go_wp2_with (first | (go_at_call 77; (with_reducible refine (qh.calls f0 f1 true _ (by unfold qh.f; rw [d0])).mono ?_); rintro e w2 ⟨rfl, hnd⟩; have HS2 := zA.mk (HB.out _ _ _ HS1.out hnd); clear HS1 BF hnd))
            go_roundg (row.length - (f + 1))
            case measure => omega
            case rel => exact ⟨f + 1, st, by omega, by omega, by go_num, HI3, HS2, ⟨by have := HN1.out; omega⟩⟩
          · rw [if_neg hb] at HI3
            have d0 : decide (f0 < 0) = false := yhy hb
            have HP := zA.mk (show 0 ≤ f1 ∧ f1 ≤ 23 from HY.out (by first | exact hb | (show (0 : Int) ≤ f0; omega)))
            have hb9 := zA.mk hb
            clear HY
            go_wp2_with (first | (go_at_call 77; (with_reducible refine (qh.calls f0 f1 false _ (by unfold qh.f; rw [d0])).mono ?_); rintro e w2 ⟨rfl, hnd⟩; have HS2 := zA.mk (HB.out _ _ _ HS1.out hnd); have BF2 := zA.mk (zP BF.out hnd); clear HS1 BF hnd; have BF := BF2; clear BF2))
            refine QG (n := 8) (S := fun w' => w'.cell? ⟨wr.heap.size, 0, none⟩ = some (.int .i64 f0) ∧ w'.cell? ⟨wr.heap.size, 1, none⟩ = some (.int .i64 f1)) (ds := [7]) #[false, false, false, false, false, false, false, false] (by kernel_rfl) rfl rfl ⟨(zL BF.out 0).trans rfl, (zL BF.out 1).trans rfl⟩ (fun hHeld => ?_)
            have HS3 := zA.mk (HB.out _ _ _ HS2.out (zD (yry _ _)))
            have BF3 := zA.mk (zJ BF.out)
            clear HS2 BF
            have HS2 := HS3
            have BF := BF3
            clear HS3 BF3
            generalize w2.drew = w22 at HS2 BF hHeld ⊢
            refine zq (i := 0) (N := some 26) (v := ?_) (a' := ?_) #[true, false, false, false, false, false, false, false] rfl rfl (by kernel_rfl) (fun _ _ _ h => h) (Or.inl ⟨by rfl, ?_⟩) ?_ ?_
            rotate_left
            · intro w'
              go_simp
              with_reducible rfl
            rotate_left
            · simp only [Act.put, yay, yby, ycy, za, zc]
              rfl
            refine zq (i := 1) (N := some 27) (v := ?_) (a' := ?_) #[true, true, false, false, false, false, false, false] rfl rfl (by kernel_rfl) (fun _ _ _ h => h) (Or.inl ⟨by rfl, ?_⟩) ?_ ?_
            rotate_left
            · intro w'
              go_simp
              with_reducible rfl
            rotate_left
            · simp only [Act.put, yay, yby, ycy, za, zc]
              rfl
            refine zq (i := 2) (N := some 28) (v := ?_) (a' := ?_) #[true, true, true, false, false, false, false, false] rfl rfl (by kernel_rfl) (fun _ _ _ h => h) (Or.inl ⟨by rfl, ?_⟩) ?_ ?_
            rotate_left
            · intro w'
              go_simp
              with_reducible rfl
            rotate_left
            · simp only [Act.put, yay, yby, ycy, za, zc]
              rfl
            refine ZO (i := 3) (N := some 29) (v := ?_) (a' := ?_) #[true, true, true, true, false, false, false, false] rfl rfl (by kernel_rfl) (fun _ _ _ h => h) (Or.inl ⟨by rfl, ?_⟩) hHeld ?_ ?_
            rotate_left
            · rintro w' ⟨s0, s1⟩
              go_simp
              with_reducible rfl
            rotate_left
            · simp only [Act.put, yay, yby, ycy, za, zc]
              rfl
            refine zq (i := 4) (N := some 30) (v := ?_) (a' := ?_) #[true, true, true, true, true, false, false, false] rfl rfl (by kernel_rfl) (fun _ _ _ h => h) (Or.inl ⟨by rfl, ?_⟩) ?_ ?_
            rotate_left
            · intro w'
              go_simp
              with_reducible rfl
            rotate_left
            · simp only [Act.put, yay, yby, ycy, za, zc]
              rfl
            refine ZO (i := 5) (N := some 31) (v := ?_) (a' := ?_) #[true, true, true, true, true, true, false, false] rfl rfl (by kernel_rfl) (fun _ _ _ h => h) (Or.inl ⟨by rfl, ?_⟩) hHeld ?_ ?_
            rotate_left
            · rintro w' ⟨s0, s1⟩
              go_simp
              with_reducible rfl
            rotate_left
            · simp only [Act.put, yay, yby, ycy, za, zc]
              rfl
            refine Jh (i := 6) (N := some 32) #[true, true, true, true, true, true, true, false] rfl rfl (by kernel_rfl) (by decide) (fun K hK => ?_)
            refine QR Try.func105 (by kernel_rfl) rfl #[.int .i64 f1] (by rfl) rfl rfl (by (try simp only [yiy, yjy, yky]); first | done | rfl) ?_
            refine (zAv.calls f1 _ HP.out.1 HP.out.2).mono ?_
            rintro e w3 ⟨rfl, hb3⟩
            refine ⟨_, rfl, ?_⟩
            have HS3 := zA.mk (HB.out _ _ _ HS2.out hb3)
            have BF3 := zA.mk (zP BF.out hb3)
            clear HS2 BF hb3
            have BF := BF3
            have HS2 := HS3
            clear BF3 HS3
            refine hK.out _ _ ⟨(zL BF.out 0).trans rfl, (zL BF.out 1).trans rfl⟩ (fun hHeld => ?_)
            clear hK K
            refine QB (a' := ?_) ?_ ?_
            rotate_left
            · show Act.put _ (some 32) _ = _
              simp only [Act.put, yay, yby, ycy, za, zc]
              rfl
            refine last_ (i := 7) (N := some 33) #[true, true, true, true, true, true, true, true] rfl rfl (by kernel_rfl) (by decide) (fun K hK => ?_)
            refine goesF_ (f := F) (fn := fn) hf hname hbody #[.int .i64 (j : Int), .int .i64 (f : Int), .agg #[.int .i64 f0, .int .i64 f1], .agg #[.int .i64 (zy f1 0), .int .i64 (zy f1 1), .int .i64 (zy f1 2), .int .i64 (zy f1 3)]] (#[.int .i64 (j : Int), .int .i64 (f : Int), .agg #[.int .i64 f0, .int .i64 f1], .agg #[.int .i64 (zy f1 0), .int .i64 (zy f1 1), .int .i64 (zy f1 2), .int .i64 (zy f1 3)]] ++ caps) (by rfl) rfl rfl rfl (by (try simp only [yiy, yjy, yky]); first | done | rfl) rfl ?_
            refine (HST.out st _ j f ⟨f0, f1⟩ HS2.out HF.out hb9.out (by have := HN1.out; omega)).mono ?_
            rintro e w4 ⟨rfl, hS4⟩
            refine ⟨_, rfl, ?_⟩
            have HS4 := zA.mk hS4
            clear hS4 HS2
            refine hK.out _ _ ?_
            clear hK K
            refine QB (a' := ?_) ?_ ?_
            rotate_left
            · show Act.put _ (some 33) _ = _
              simp only [Act.put, yay, yby, ycy, za, zc]
              rfl
            refine Qz (by kernel_rfl) ?_
            go_wp2
            go_roundg (row.length - (f + 1))
            case measure => omega
            case rel => exact ⟨f + 1, _, by omega, by omega, by go_num, HI3, HS4, ⟨by have := HN1.out; have := HCN.out st j f ⟨f0, f1⟩; omega⟩⟩
        · obtain rfl : f = row.length := by omega
          have HI2 := HI.out
          rw [List.drop_length, zDs] at HI2
          have HA := zA.mk HI2
          clear HI HI2
          go_wp2
          go_roundg (l.length - (j + 1))
          case measure => omega
          case rel => exact ⟨j + 1, st, by omega, by omega, by go_num, HA, HS, ⟨by have := HN1.out; omega⟩⟩
    · obtain rfl : j = l.length := by omega
      have HA2 := HA.out
      rw [List.drop_length, zBH] at HA2
      subst HA2
      go_wp2
      first | go_end0 | ((try simp only [Exit.inBlock, Exit.then]); refine bodyPost_ret (results_none rfl _ _ _) rfl ?_)
      refine ⟨?_, HS.out⟩
      first | rfl | (simp <;> rfl)
def ZF (l : List Int) (i : Nat) : Nat → Int
  | 0 => rd l i
  | j + 1 => if rd l j < rd l i then ZF l i j - 1 else ZF l i j
def JV (l : List Int) : Nat → Int
  | 0 => 0
  | i + 1 => JV l i + ZF l i i * zEN i
def idxL (l : List Int) : Int := JV l 4
def sm (x : Int) : Prop := 0 ≤ x ∧ x ≤ 3
theorem Jb (l : List Int) (i : Nat) (h : sm (rd l i)) : ∀ j : Nat, -(j : Int) ≤ ZF l i j ∧ ZF l i j ≤ 3
  | 0 => by have := h.1; have := h.2; unfold ZF; omega
  | j + 1 => by
    have := Jb l i h j
    unfold ZF
    split <;> omega
set_option maxHeartbeats 8000000 in
set_option maxRecDepth 100000 in
theorem zCM.calls (a b c d : Int) (w : World) (ha : sm a) (hb : sm b) (hc : sm c) (hd : sm d) :
    Calls Try.prog 134 #[.agg #[.int .i64 a, .int .i64 b, .int .i64 c, .int .i64 d]] w fun e w' => e = .returned (.int .i64 (idxL [a, b, c, d])) ∧ Below w.heap.size w w' := by
  have hl0 : sm (rd [a, b, c, d] (0 : Nat)) := ha
  have hl1 : sm (rd [a, b, c, d] (1 : Nat)) := hb
  have hl2 : sm (rd [a, b, c, d] (2 : Nat)) := hc
  have hl3 : sm (rd [a, b, c, d] (3 : Nat)) := hd
  have HL := zA.mk (And.intro (Jb _ 0 hl0) (And.intro (Jb _ 1 hl1) (And.intro (Jb _ 2 hl2) (Jb _ 3 hl3))))
  have HS := zA.mk (And.intro hl0 (And.intro hl1 (And.intro hl2 hl3)))
  clear ha hb hc hd hl0 hl1 hl2 hl3
  generalize hl : [a, b, c, d] = l at HL HS ⊢
  have HLL := zA.mk hl
  clear hl
  go_enter Try.func134, Try.ntmps134
  go_wp2_with fail
  go_loopg [3, 11] 4 (fun gg v3 v11 w' => ∃ i : Nat, i ≤ 4 ∧ 4 - i ≤ gg ∧ v11 = .int .i64 i ∧ v3 = .int .i64 (JV l i) ∧ zA (-24 * (i : Int) ≤ JV l i ∧ JV l i ≤ 24 * i) ∧
    zA (w'.heap[w.heap.size]? = some (.cells #[.int .i64 a, .int .i64 b, .int .i64 c, .int .i64 d] 101 (0, 0))) ∧
    zA (w'.heap[w.heap.size + 1]? = some (.cells #[.int .i64 6, .int .i64 2, .int .i64 1, .int .i64 1] 2 (0, 0))) ∧ zA (Below w.heap.size w w'))
  case atStart =>
    refine ⟨0, by omega, by omega, rfl, rfl, ⟨by simp [JV]⟩, ⟨?_⟩, ⟨?_⟩, ⟨?_⟩⟩
    · exact zG (QS rfl _) _
    · exact QS (by simp) _
    · exact zC (zC (yry _ _) _) _
  case round =>
    obtain ⟨i, hi, hg, rfl, rfl, HI, B1, B9, HB⟩ := hrel
    rcases (show i = 4 ∨ i = 3 ∨ i = 2 ∨ i = 1 ∨ i = 0 by omega) with rfl | rfl | rfl | rfl | rfl
    · go_wp2
      go_ret
      exact ⟨rfl, HB.out⟩
    · have b9 : wr.cell? ⟨w.heap.size + 1, 3, none⟩ = some (.int .i64 1) := (zL B9.out 3).trans rfl
      have b1 : wr.cell? ⟨w.heap.size, 3, none⟩ = some (.int .i64 (rd l (3 : Nat))) := (zL B1.out 3).trans (by rw [← HLL.out]; rfl)
      have hx : sm (rd l (3 : Nat)) := by have := HS.out; exact this.2.2.2
      have HD := zA.mk (show ∀ j : Nat, ZF l 3 (j + 1) = if rd l (j : Nat) < rd l (3 : Nat) then ZF l 3 j - 1 else ZF l 3 j from fun _ => rfl)
      have HD0 := zA.mk (show rd l (3 : Nat) = ZF l 3 0 from rfl)
      generalize rd l (3 : Nat) = xi at b1 HD HD0 hx
      go_wp2_with fail
      go_loopg [6, 22] 3 (fun gg v6 v22 w' => ∃ j : Nat, j ≤ 3 ∧ 3 - j ≤ gg ∧ v22 = .int .i64 j ∧ v6 = .int .i64 (ZF l 3 j) ∧ w' = wr)
      case atStart => exact ⟨0, by omega, by omega, rfl, by rw [HD0.out], rfl⟩
      case round =>
        obtain ⟨j, hj, hg2, rfl, rfl, rfl⟩ := hrel
        by_cases hlt : j < 3
        · have hltz : (j : Int) < 3 := by omega
          have bj : wr.cell? ⟨w.heap.size, j, none⟩ = some (.int .i64 (rd l (j : Nat))) := by
            have := Qh B1.out (j : Int) (by omega) (by omega)
            rw [HLL.out, yny] at this
            exact this
          have hbd := (HL.out.2.2.2 j)
          obtain ⟨hbd1, hbd2⟩ := hbd
          have HN := zA.mk (HD.out j)
          generalize ZF l 3 j = lv at HN hbd1 hbd2 ⊢
          generalize rd l (j : Nat) = xj at bj HN
          by_cases hless : xj < xi
          · have hd1 : decide (xj < xi) = true := ygy hless
            go_wp2
            go_roundg (3 - (j + 1))
            case measure => omega
            case rel => exact ⟨j + 1, by omega, by omega, by go_num, by rw [HN.out, if_pos hless], rfl⟩
          · have hd1 : decide (xj < xi) = false := yhy hless
            go_wp2
            go_roundg (3 - (j + 1))
            case measure => omega
            case rel => exact ⟨j + 1, by omega, by omega, by go_num, by rw [HN.out, if_neg (by omega)], rfl⟩
        · have hltz : ¬ (j : Int) < 3 := by omega
          obtain rfl : j = 3 := by omega
          have hbd := (HL.out.2.2.2 3)
          obtain ⟨hbd1, hbd2⟩ := hbd
          obtain ⟨hi1, hi2⟩ := HI.out
          have HN := zA.mk (show JV l 4 = JV l 3 + ZF l 3 3 * 1 from rfl)
          generalize ZF l 3 3 = lv at HN hbd1 hbd2 ⊢
          generalize JV l 3 = iv at HN hi1 hi2 ⊢
          go_wp2
          go_roundg (4 - 4)
          case measure => omega
          case rel => exact ⟨4, by omega, by omega, by first | rfl | go_num, by rw [HN.out]; rw [Int.mul_one], ⟨by rw [HN.out]; omega⟩, B1, B9, HB⟩
    · have b9 : wr.cell? ⟨w.heap.size + 1, 2, none⟩ = some (.int .i64 1) := (zL B9.out 2).trans rfl
      have b1 : wr.cell? ⟨w.heap.size, 2, none⟩ = some (.int .i64 (rd l (2 : Nat))) := (zL B1.out 2).trans (by rw [← HLL.out]; rfl)
      have hx : sm (rd l (2 : Nat)) := by have := HS.out; exact this.2.2.1
      have HD := zA.mk (show ∀ j : Nat, ZF l 2 (j + 1) = if rd l (j : Nat) < rd l (2 : Nat) then ZF l 2 j - 1 else ZF l 2 j from fun _ => rfl)
      have HD0 := zA.mk (show rd l (2 : Nat) = ZF l 2 0 from rfl)
      generalize rd l (2 : Nat) = xi at b1 HD HD0 hx
      go_wp2_with fail
      go_loopg [6, 22] 2 (fun gg v6 v22 w' => ∃ j : Nat, j ≤ 2 ∧ 2 - j ≤ gg ∧ v22 = .int .i64 j ∧ v6 = .int .i64 (ZF l 2 j) ∧ w' = wr)
      case atStart => exact ⟨0, by omega, by omega, rfl, by rw [HD0.out], rfl⟩
      case round =>
        obtain ⟨j, hj, hg2, rfl, rfl, rfl⟩ := hrel
        by_cases hlt : j < 2
        · have hltz : (j : Int) < 2 := by omega
          have bj : wr.cell? ⟨w.heap.size, j, none⟩ = some (.int .i64 (rd l (j : Nat))) := by
            have := Qh B1.out (j : Int) (by omega) (by omega)
            rw [HLL.out, yny] at this
            exact this
          have hbd := (HL.out.2.2.1 j)
          obtain ⟨hbd1, hbd2⟩ := hbd
          have HN := zA.mk (HD.out j)
          generalize ZF l 2 j = lv at HN hbd1 hbd2 ⊢
          generalize rd l (j : Nat) = xj at bj HN
          by_cases hless : xj < xi
          · have hd1 : decide (xj < xi) = true := ygy hless
            go_wp2
            go_roundg (2 - (j + 1))
            case measure => omega
            case rel => exact ⟨j + 1, by omega, by omega, by go_num, by rw [HN.out, if_pos hless], rfl⟩
          · have hd1 : decide (xj < xi) = false := yhy hless
            go_wp2
            go_roundg (2 - (j + 1))
            case measure => omega
            case rel => exact ⟨j + 1, by omega, by omega, by go_num, by rw [HN.out, if_neg (by omega)], rfl⟩
        · have hltz : ¬ (j : Int) < 2 := by omega
          obtain rfl : j = 2 := by omega
          have hbd := (HL.out.2.2.1 2)
          obtain ⟨hbd1, hbd2⟩ := hbd
          obtain ⟨hi1, hi2⟩ := HI.out
          have HN := zA.mk (show JV l 3 = JV l 2 + ZF l 2 2 * 1 from rfl)
          generalize ZF l 2 2 = lv at HN hbd1 hbd2 ⊢
          generalize JV l 2 = iv at HN hi1 hi2 ⊢
          go_wp2
          go_roundg (4 - 3)
          case measure => omega
          case rel => exact ⟨3, by omega, by omega, by first | rfl | go_num, by rw [HN.out]; rw [Int.mul_one], ⟨by rw [HN.out]; omega⟩, B1, B9, HB⟩
    · have b9 : wr.cell? ⟨w.heap.size + 1, 1, none⟩ = some (.int .i64 2) := (zL B9.out 1).trans rfl
      have b1 : wr.cell? ⟨w.heap.size, 1, none⟩ = some (.int .i64 (rd l (1 : Nat))) := (zL B1.out 1).trans (by rw [← HLL.out]; rfl)
      have hx : sm (rd l (1 : Nat)) := by have := HS.out; exact this.2.1
      have HD := zA.mk (show ∀ j : Nat, ZF l 1 (j + 1) = if rd l (j : Nat) < rd l (1 : Nat) then ZF l 1 j - 1 else ZF l 1 j from fun _ => rfl)
      have HD0 := zA.mk (show rd l (1 : Nat) = ZF l 1 0 from rfl)
      generalize rd l (1 : Nat) = xi at b1 HD HD0 hx
      go_wp2_with fail
      go_loopg [6, 22] 1 (fun gg v6 v22 w' => ∃ j : Nat, j ≤ 1 ∧ 1 - j ≤ gg ∧ v22 = .int .i64 j ∧ v6 = .int .i64 (ZF l 1 j) ∧ w' = wr)
      case atStart => exact ⟨0, by omega, by omega, rfl, by rw [HD0.out], rfl⟩
      case round =>
        obtain ⟨j, hj, hg2, rfl, rfl, rfl⟩ := hrel
        by_cases hlt : j < 1
        · have hltz : (j : Int) < 1 := by omega
          have bj : wr.cell? ⟨w.heap.size, j, none⟩ = some (.int .i64 (rd l (j : Nat))) := by
            have := Qh B1.out (j : Int) (by omega) (by omega)
            rw [HLL.out, yny] at this
            exact this
          have hbd := (HL.out.2.1 j)
          obtain ⟨hbd1, hbd2⟩ := hbd
          have HN := zA.mk (HD.out j)
          generalize ZF l 1 j = lv at HN hbd1 hbd2 ⊢
          generalize rd l (j : Nat) = xj at bj HN
          by_cases hless : xj < xi
          · have hd1 : decide (xj < xi) = true := ygy hless
            go_wp2
            go_roundg (1 - (j + 1))
            case measure => omega
            case rel => exact ⟨j + 1, by omega, by omega, by go_num, by rw [HN.out, if_pos hless], rfl⟩
          · have hd1 : decide (xj < xi) = false := yhy hless
            go_wp2
            go_roundg (1 - (j + 1))
            case measure => omega
            case rel => exact ⟨j + 1, by omega, by omega, by go_num, by rw [HN.out, if_neg (by omega)], rfl⟩
        · have hltz : ¬ (j : Int) < 1 := by omega
          obtain rfl : j = 1 := by omega
          have hbd := (HL.out.2.1 1)
          obtain ⟨hbd1, hbd2⟩ := hbd
          obtain ⟨hi1, hi2⟩ := HI.out
          have HN := zA.mk (show JV l 2 = JV l 1 + ZF l 1 1 * 2 from rfl)
          generalize ZF l 1 1 = lv at HN hbd1 hbd2 ⊢
          generalize JV l 1 = iv at HN hi1 hi2 ⊢
          go_wp2
          go_roundg (4 - 2)
          case measure => omega
          case rel => exact ⟨2, by omega, by omega, by first | rfl | go_num, by rw [HN.out], ⟨by rw [HN.out]; omega⟩, B1, B9, HB⟩
    · have b9 : wr.cell? ⟨w.heap.size + 1, 0, none⟩ = some (.int .i64 6) := (zL B9.out 0).trans rfl
      have b1 : wr.cell? ⟨w.heap.size, 0, none⟩ = some (.int .i64 (rd l (0 : Nat))) := (zL B1.out 0).trans (by rw [← HLL.out]; rfl)
      have hx : sm (rd l (0 : Nat)) := by have := HS.out; exact this.1
      have HD := zA.mk (show ∀ j : Nat, ZF l 0 (j + 1) = if rd l (j : Nat) < rd l (0 : Nat) then ZF l 0 j - 1 else ZF l 0 j from fun _ => rfl)
      have HD0 := zA.mk (show rd l (0 : Nat) = ZF l 0 0 from rfl)
      generalize rd l (0 : Nat) = xi at b1 HD HD0 hx
      go_wp2_with fail
      go_loopg [6, 22] 0 (fun gg v6 v22 w' => ∃ j : Nat, j ≤ 0 ∧ 0 - j ≤ gg ∧ v22 = .int .i64 j ∧ v6 = .int .i64 (ZF l 0 j) ∧ w' = wr)
      case atStart => exact ⟨0, by omega, by omega, rfl, by rw [HD0.out], rfl⟩
      case round =>
        obtain ⟨j, hj, hg2, rfl, rfl, rfl⟩ := hrel
        by_cases hlt : j < 0
        · have hltz : (j : Int) < 0 := by omega
          have bj : wr.cell? ⟨w.heap.size, j, none⟩ = some (.int .i64 (rd l (j : Nat))) := by
            have := Qh B1.out (j : Int) (by omega) (by omega)
            rw [HLL.out, yny] at this
            exact this
          have hbd := (HL.out.1 j)
          obtain ⟨hbd1, hbd2⟩ := hbd
          have HN := zA.mk (HD.out j)
          generalize ZF l 0 j = lv at HN hbd1 hbd2 ⊢
          generalize rd l (j : Nat) = xj at bj HN
          by_cases hless : xj < xi
          · have hd1 : decide (xj < xi) = true := ygy hless
            go_wp2
            go_roundg (0 - (j + 1))
            case measure => omega
            case rel => exact ⟨j + 1, by omega, by omega, by go_num, by rw [HN.out, if_pos hless], rfl⟩
          · have hd1 : decide (xj < xi) = false := yhy hless
            go_wp2
            go_roundg (0 - (j + 1))
            case measure => omega
            case rel => exact ⟨j + 1, by omega, by omega, by go_num, by rw [HN.out, if_neg (by omega)], rfl⟩
        · have hltz : ¬ (j : Int) < 0 := by omega
          obtain rfl : j = 0 := by omega
          have hbd := (HL.out.1 0)
          obtain ⟨hbd1, hbd2⟩ := hbd
          obtain ⟨hi1, hi2⟩ := HI.out
          have HN := zA.mk (show JV l 1 = JV l 0 + ZF l 0 0 * 6 from rfl)
          generalize ZF l 0 0 = lv at HN hbd1 hbd2 ⊢
          generalize JV l 0 = iv at HN hi1 hi2 ⊢
          go_wp2
          go_roundg (4 - 1)
          case measure => omega
          case rel => exact ⟨1, by omega, by omega, by first | rfl | go_num, by rw [HN.out], ⟨by rw [HN.out]; omega⟩, B1, B9, HB⟩
def zDc (p : Int → Bool) : Nat → List Int → Int
  | _, [] => -1
  | i, x :: xs => if p x = true then (i : Int) else zDc p (i + 1) xs
theorem zBI (p : Int → Bool) : ∀ (l : List Int) (i : Nat), (zDc p i l = -1 ∧ ∀ x ∈ l, p x = false) ∨ ∃ k, k < l.length ∧ zDc p i l = ((i + k : Nat) : Int) ∧ (∀ h : k < l.length, p l[k] = true) ∧ ∀ x ∈ l.take k, p x = false
  | [], _ => .inl ⟨rfl, fun x hx => by cases hx⟩
  | x :: xs, i => by
    cases hp : p x with
    | true => exact .inr ⟨0, by simp, by rw [zDc, hp, if_pos rfl]; rfl, fun _ => hp, fun y hy => by simp at hy⟩
    | false =>
      rcases zBI p xs (i + 1) with ⟨h1, h2⟩ | ⟨k, h1, h2, h3, h4⟩
      · refine .inl ⟨by rw [zDc, hp, if_neg (by simp)]; exact h1, fun y hy => ?_⟩
        rcases List.mem_cons.1 hy with rfl | hy
        · exact hp
        · exact h2 y hy
      · refine .inr ⟨k + 1, by simp; omega, by rw [zDc, hp, if_neg (by simp), h2]; congr 1; omega, fun h => h3 (by simpa using h), fun y hy => ?_⟩
        rw [List.take_succ_cons] at hy
        rcases List.mem_cons.1 hy with rfl | hy
        · exact hp
        · exact h4 y hy
theorem zCN {e B g n cap : Nat} {ok : Nat → Prop} {w0 : World} : ∀ (m i : Nat) (w : World) (dk : List Int), Kd.R (Kd.int .i64) e w B ok (.slice (some ⟨g, 0, none⟩) n cap) dk → B ≤ g → Below B w0 w →
    ∃ dk', Kd.R (Kd.int .i64) e (w.setCells g i (List.replicate m (.int .i64 0))) B ok (.slice (some ⟨g, 0, none⟩) n cap) dk' ∧ dk'.take i = dk.take i ∧ dk'.length = dk.length ∧ Below B w0 (w.setCells g i (List.replicate m (.int .i64 0)))
  | 0, i, w, dk, h, _, hb => ⟨dk, h, rfl, rfl, hb⟩
  | m + 1, i, w, dk, h, hg, hb => by
    have hn : n = dk.length := (Kd.zr h).1
    subst hn
    have h1 := (Kd.zA6 h (i : Int) 0).1
    rw [yny] at h1
    have e1 : (.slice (some ⟨g, 0, none⟩) dk.length cap : Value) = .slice (some ⟨g, 0, none⟩) (dk.set i 0).length cap := by rw [List.length_set]
    rw [e1] at h1
    obtain ⟨dk', h2, h3, h4, h5⟩ := zCN m (i + 1) _ _ h1 hg (hb.setCell (p := ⟨g, i, none⟩) hg (.int .i64 0))
    rw [← e1] at h2
    refine ⟨dk', h2, ?_, by rw [h4, List.length_set], h5⟩
    have := congrArg (List.take i) h3
    rw [List.take_take, List.take_take, Nat.min_eq_left (by omega)] at this
    rw [this, List.take_set_of_le (yqy i)]
structure JR (p : Int → Bool) (xs dk : List Int) (i j : Nat) : Prop where
  lt : i < j
  le : j ≤ xs.length
  len : dk.length = xs.length
  done : dk.take i = (xs.take j).filter fun x => !p x
  left : dk.drop j = xs.drop j
theorem JR.start {p : Int → Bool} {xs : List Int} {k : Nat} (h1 : k < xs.length) (h3 : p xs[k] = true) (h4 : ∀ x ∈ xs.take k, p x = false) : JR p xs xs k (k + 1) := by
  refine ⟨by omega, by omega, rfl, ?_, rfl⟩
  rw [List.take_succ_eq_append_getElem h1, List.filter_append]
  have e1 : (xs.take k).filter (fun x => !p x) = xs.take k := List.filter_eq_self.2 (fun x hx => by rw [h4 x hx]; rfl)
  rw [e1]; simp [h3]
theorem JR.get {p : Int → Bool} {xs dk : List Int} {i j : Nat} (h : JR p xs dk i j) (hj : j < xs.length) : rd dk (j : Int) = xs[j] := by
  have h1 : dk[j]? = xs[j]? := by
    have := congrArg (fun l => l[0]?) h.left
    simpa [List.getElem?_drop] using this
  have h2 : j < dk.length := by rw [h.len]; exact hj
  simp [rd, List.getD_eq_getElem?_getD, h1, hj]
theorem JR.keep {p : Int → Bool} {xs dk : List Int} {i j : Nat} (h : JR p xs dk i j) (hj : j < xs.length) (hp : p xs[j] = false) : JR p xs (dk.set i xs[j]) (i + 1) (j + 1) := by
  have hi : i < dk.length := by have := h.lt; have := h.len; omega
  refine ⟨by have := h.lt; omega, by omega, by rw [List.length_set]; exact h.len, ?_, ?_⟩
  · rw [List.take_succ_eq_append_getElem (by rw [List.length_set]; exact hi), List.take_set_of_le (yqy i), h.done, List.take_succ_eq_append_getElem hj, List.filter_append]
    simp [hp]
  · rw [List.drop_set_of_lt (by have := h.lt; omega), ← List.drop_drop, h.left, List.drop_drop]
theorem JR.skip {p : Int → Bool} {xs dk : List Int} {i j : Nat} (h : JR p xs dk i j) (hj : j < xs.length) (hp : p xs[j] = true) : JR p xs dk i (j + 1) := by
  refine ⟨by have := h.lt; omega, by omega, h.len, ?_, ?_⟩
  · rw [h.done, List.take_succ_eq_append_getElem hj, List.filter_append]
    simp [hp]
  · rw [← List.drop_drop, h.left, List.drop_drop]
set_option maxHeartbeats 8000000 in
set_option maxRecDepth 100000 in
theorem JN.calls (p : Int → Bool) (k1_ : Value) (A0 : Option Addr) (c0 : Nat) (l0 : List Int) (w : World) (hr0 : Kd.C (Kd.int .i64) w A0 l0.length l0)
    (hp : ∀ (W : World) (x : Int), x ∈ l0 → Below w.heap.size w W → Calls Try.prog 124 #[.int .i64 x, k1_] W fun e W' => e = .returned (.bool (p x)) ∧ Below W.heap.size W W') :
    Calls Try.prog 122 #[.slice A0 l0.length c0, .func (.func 124) #[] #[k1_]] w fun e w' => e = .returned (.int .i64 (zDc p 0 l0)) ∧ Below w.heap.size w w' := by
  have HR0 := zA.mk hr0
  have HP := zA.mk hp
  clear hr0 hp
  have hbig : l0.length ≤ 9223372036854775807 := HR0.out.2.1
  have HB := zA.mk (yry w.heap.size w)
  have H' : zA (zDc p 0 (l0.drop 0) = zDc p 0 l0) := ⟨by rw [List.drop_zero]⟩
  generalize zDc p 0 l0 = r at H' ⊢
  go_enter Try.func122, Try.ntmps122
  go_wp2
  go_loopg [5, 8] l0.length (fun gg v5 v8 w' => ∃ kk : Nat, kk ≤ l0.length ∧ l0.length - kk ≤ gg ∧ v8 = .int .i64 kk ∧ zA (zDc p kk (l0.drop kk) = r) ∧ zA (Below w.heap.size w w'))
  case atStart => exact ⟨0, Nat.zero_le _, by omega, rfl, H', HB⟩
  case round =>
    clear H' HB
    obtain ⟨kk, hkk, hg, rfl, HA, HB⟩ := hrel
    by_cases hlt : kk < l0.length
    · have hltz : (kk : Int) < (l0.length : Int) := by omega
      have H := HA.out
      clear HA
      rw [yoy hlt, zDc] at H
      obtain ⟨ad, e104, hx⟩ := Kd.ZA HR0.out (kk : Int) (by omega) (by omega)
      have ex : rd l0 (kk : Int) = l0[kk] := by simp [rd, hlt]
      rw [ex, yny] at hx
      replace hx := (HB.out.cell (ypy w _ hx)).trans hx
      have HC := zA.mk (HP.out wr l0[kk] (List.getElem_mem hlt) HB.out)
      generalize l0[kk] = y at hx H HC
      clear ex
      cases e104
      cases hq : p y with
      | true =>
        rw [hq] at HC H
        rw [if_pos rfl] at H
        have H2 := zA.mk H
        clear H
        go_wp2_with fail
        refine HC.out.mono ?_
        rintro e w' ⟨rfl, hd⟩
        have HB2 := zA.mk (zM HB.out hd)
        clear hd HB HC
        go_wp2
        go_ret
        exact ⟨by rw [← H2.out]; rfl, HB2.out⟩
      | false =>
        rw [hq] at HC H
        rw [if_neg (by simp)] at H
        have H2 := zA.mk H
        clear H
        go_wp2_with fail
        refine HC.out.mono ?_
        rintro e w' ⟨rfl, hd⟩
        have HB2 := zA.mk (zM HB.out hd)
        clear hd HB HC
        go_wp2
        go_roundg (l0.length - (kk + 1))
        case measure => omega
        case rel => exact ⟨kk + 1, by omega, by omega, by go_num, H2, HB2⟩
    · have hltz : ¬ (kk : Int) < (l0.length : Int) := by omega
      have e : kk = l0.length := by omega
      subst e
      have H2 := zA.mk (show (-1 : Int) = r by have := HA.out; rwa [List.drop_length, zDc] at this)
      clear HA
      go_wp2
      go_ret
      exact ⟨by rw [← H2.out]; rfl, HB.out⟩
set_option maxHeartbeats 8000000 in
set_option maxRecDepth 100000 in
theorem JI.calls (p : Int → Bool) (k1_ : Value) (g cap B : Nat) (ok : Nat → Prop) (xs : List Int) (w : World) (hR : Kd.R (Kd.int .i64) 2 w B ok (.slice (some ⟨g, 0, none⟩) xs.length cap) xs)
    (hp : ∀ (W : World) (x : Int), x ∈ xs → Below B w W → Calls Try.prog 124 #[.int .i64 x, k1_] W fun e W' => e = .returned (.bool (p x)) ∧ Below W.heap.size W W') :
    Calls Try.prog 123 #[.slice (some ⟨g, 0, none⟩) xs.length cap, .func (.func 124) #[] #[k1_]] w fun e w' => ∃ v', e = .returned v' ∧ Kd.R (Kd.int .i64) 2 w' B ok v' (xs.filter fun x => !p x) ∧ Below B w w' := by
  have hgB : B ≤ g := Kd.Zg hR g (by simp [Value.ownBlock])
  have hgW : g < w.heap.size := Kd.Qs hR g (by simp [Value.ownBlock])
  have hcap : xs.length ≤ cap := (Kd.zr hR).2.1
  have hbig : xs.length ≤ 9223372036854775807 := Kd.zF3 (Kd.zr hR).2.2
  have HIX := zA.mk (JN.calls p k1_ (some ⟨g, 0, none⟩) cap xs w (Kd.zr hR).2.2 (fun W x hx hb => hp W x hx (hb.mono (by omega))))
  have HR := zA.mk hR
  have HP := zA.mk hp
  have HG := zA.mk (And.intro hgB hgW)
  clear hR hp hgB hgW
  rcases zBI p xs 0 with ⟨h1, h2⟩ | ⟨k, h1, h2, h3, h4⟩
  · rw [h1] at HIX
    have e1 : xs.filter (fun x => !p x) = xs := List.filter_eq_self.2 (fun x hx => by rw [h2 x hx]; rfl)
    rw [e1]
    clear h1 h2 e1 HP
    go_enter Try.func123, Try.ntmps123
    go_wp2_with fail
    refine HIX.out.mono ?_
    rintro e w' ⟨rfl, hd⟩
    have HB := zA.mk (hd.mono (show B ≤ w.heap.size by have := HG.out; omega))
    have HR2 := zA.mk (Kd.qL HR.out hd)
    clear hd HIX HR
    go_wp2
    go_ret
    exact ⟨_, rfl, HR2.out, HB.out⟩
  · rw [h2, Nat.zero_add] at HIX
    have HK0 := zA.mk (JR.start h1 (h3 h1) h4)
    have hk9 : k < xs.length := h1
    have hne : ((k : Int) == -1) = false := beq_eq_false_iff_ne.2 (by omega)
    clear h2 h3 h4 h1
    go_enter Try.func123, Try.ntmps123
    go_wp2_with fail
    refine HIX.out.mono ?_
    rintro e w1 ⟨rfl, hd⟩
    have HB := zA.mk (hd.mono (show B ≤ w.heap.size by have := HG.out; omega))
    have HR2 := zA.mk (Kd.qL HR.out hd)
    clear hd HIX HR
    go_wp2
    clear hne
    go_loopg [5, 6, 7] xs.length (fun gg s5 s6 _ wr => ∃ (i j : Nat) (dk : List Int), s5 = .int .i64 i ∧ s6 = .int .i64 j ∧ xs.length - j ≤ gg ∧ zA (JR p xs dk i j) ∧ zA (Kd.R (Kd.int .i64) 2 wr B ok (.slice (some ⟨g, 0, none⟩) xs.length cap) dk) ∧ zA (Below B w wr))
    case atStart => exact ⟨k, k + 1, xs, rfl, by go_num, by omega, HK0, HR2, HB⟩
    case round =>
      clear HK0 HR2 HB hk9
      obtain ⟨i, j, dk, rfl, rfl, hgg, HK, HR, HB⟩ := hrel
      have hij := HK.out.lt
      have hjl := HK.out.le
      have hdl := HK.out.len
      by_cases hlt : j < xs.length
      · have hltz : (j : Int) < (xs.length : Int) := by omega
        have hr2 := HR.out
        rw [← hdl] at hr2
        obtain ⟨cj, _⟩ := Kd.Zn 0 hr2 (j : Int) (by omega) (by omega)
        obtain ⟨ci, fi⟩ := Kd.Zn 0 hr2 (i : Int) (by omega) (by omega)
        replace cj : wr.cell? ⟨g, j, none⟩ = some (.int .i64 (rd dk (j : Int))) := cj
        replace ci : wr.cell? ⟨g, i, none⟩ = some (.int .i64 (rd dk (i : Int))) := ci
        replace fi : wr.frozen? ⟨g, i, none⟩ = false := fi
        rw [HK.out.get hlt] at cj
        have HC := zA.mk (HP.out wr xs[j] (List.getElem_mem hlt) HB.out)
        generalize hu : xs[j] = u at cj HC
        have HU := zA.mk hu
        generalize rd dk (i : Int) = old at ci
        clear hu hr2
        cases hq : p u with
        | false =>
          rw [hq] at HC
          go_wp2_with fail
          refine HC.out.mono ?_
          rintro e w2 ⟨rfl, hd⟩
          have HB2 := zA.mk (HB.out.trans (hd.mono (show B ≤ wr.heap.size by have := HB.out.size; have := HG.out; omega)))
          have hr3 := Kd.qL HR.out hd
          rw [← hdl] at hr3
          have HR3 := zA.mk (Kd.zA6 hr3 (i : Int) u).1
          rw [yny] at HR3
          have ci2 := (hd.cell (ypy wr _ ci)).trans ci
          have fi2 := (hd.frozen (ypy wr _ ci)).trans fi
          clear hd HB HC cj ci fi hr3 HR
          go_wp2
          go_roundg (xs.length - (j + 1))
          case measure => omega
          case rel => exact ⟨i + 1, j + 1, dk.set i u, by go_num, by go_num, by omega, ⟨by have := HK.out.keep hlt (by rw [HU.out]; exact hq); rwa [HU.out] at this⟩, ⟨by rw [← hdl]; exact HR3.out⟩, ⟨HB2.out.setCell (p := ⟨g, i, none⟩) HG.out.1 _⟩⟩
        | true =>
          rw [hq] at HC
          go_wp2_with fail
          refine HC.out.mono ?_
          rintro e w2 ⟨rfl, hd⟩
          have HB2 := zA.mk (HB.out.trans (hd.mono (show B ≤ wr.heap.size by have := HB.out.size; have := HG.out; omega)))
          have HR3 := zA.mk (Kd.qL HR.out hd)
          clear hd HB HC cj ci fi HR
          go_wp2
          go_roundg (xs.length - (j + 1))
          case measure => omega
          case rel => exact ⟨i, j + 1, dk, rfl, by go_num, by omega, ⟨HK.out.skip hlt (by rw [HU.out]; exact hq)⟩, HR3, HB2⟩
      · obtain rfl : j = xs.length := by omega
        have hltz : ¬ (xs.length : Int) < (xs.length : Int) := by omega
        have hr2 := HR.out
        rw [← hdl] at hr2
        have hcl : ∀ ty, (Builtin.clear_ #[22] ty #[.slice (some ⟨g, i, none⟩) (xs.length - i) (cap - i)]).run Try.prog wr = .ok (.tuple #[]) (wr.setCells g i (List.replicate (xs.length - i) (.int .i64 0))) :=
          fun ty => Lib.run_clear_slice wr _ _ ty _ Try.underlying22 (fun w => Try.zeroValue2 w) rfl rfl g i _ _ (by omega) (fun t ht => by have q : wr.cell? ⟨g, i + t, none⟩ = some (.int .i64 (rd dk ((i + t : Nat) : Int))) := (Kd.Zn 0 hr2 ((i + t : Nat) : Int) (by omega) (by omega)).1; rw [q]; rfl) (fun t ht => (Kd.Zn 0 hr2 ((i + t : Nat) : Int) (by omega) (by omega)).2)
        obtain ⟨dk', q1, q2, q3, q4⟩ := zCN (xs.length - i) i wr dk HR.out HG.out.1 HB.out
        have q5 := Kd.R_take (m := i) q1 (by omega)
        have q6 : dk'.take i = xs.filter fun x => !p x := by rw [q2, HK.out.done, List.take_length]
        rw [q6] at q5
        have Q5 := zA.mk q5
        have Q4 := zA.mk q4
        clear q1 q2 q3 q4 q5 q6 hr2 HR HB HP HK hdl
        go_wp2
        go_ret
        exact ⟨_, rfl, Q5.out, Q4.out⟩
def qH.l0 : Nat → List Int → Int → Int → Int → Option (Int)
  | 0, _, _, _, _ => none
  | k + 1, x0, x1, x7, x8 => if x8 < x7 then (if 0 ≤ x8 then (if x8 < (x0.length : Int) then (if x1 = (rd x0 x8) then (some x8) else (qH.l0 k x0 x1 x7 (wrap64 (x8 + 1)))) else (none)) else (none)) else (some (-1))
def qH.f (k : Nat) (l0 : List Int) (a1 : Int) : Option (Int) := qH.l0 k l0 a1 (l0.length : Int) 0
set_option maxHeartbeats 8000000 in
set_option maxRecDepth 100000 in
theorem qH.calls (k : Nat) (A0 : Option Addr) (c0 : Nat) (l0 : List Int) (a1 : Int) (r : Int) (w : World) (hr0 : Kd.C (Kd.int .i64) w A0 l0.length l0) (hc0 : l0.length ≤ c0) (h : qH.f k l0 a1 = some r) :
    Calls Try.prog 132 #[.slice A0 l0.length c0, .int .i64 a1] w fun e w' => e = .returned (.int .i64 r) ∧ qB w w' := by
  have HR0 := zA.mk hr0
  have HC0 := zA.mk hc0
  clear hr0 hc0
  have H : (qH.l0 k l0 a1 (l0.length : Int) 0) = some r := h
  clear h
  have H' := zA.mk H
  clear H
  go_enter Try.func132, Try.ntmps132
  go_wp2
  go_loopg [8] k (fun kq v8 w' => ∃ (x8_1 : Int), v8 = .int .i64 x8_1 ∧ zA (qH.l0 kq l0 a1 (l0.length : Int) x8_1 = some r) ∧ zA (kq ≤ k) ∧ qB w w')
  case atStart => exact ⟨(0), (by first | rfl | (simp; done) | (simp [*]; done)), H', ⟨yqy _⟩, by repeat (first | exact qB.refl _ | apply qB.step)⟩
  case round =>
    clear H'
    try clear c1
    try clear p2
    obtain ⟨x8_1, rfl, HA, HK1, ⟨m1, rfl⟩⟩ := hrel
    cases gk with
    | zero => exact absurd HA.out (by simp [qH.l0])
    | succ k1 =>
      have H := HA.out
      clear HA
      simp only [qH.l0] at H
      by_cases c3 : x8_1 < (l0.length : Int)
      · rw [if_pos c3] at H
        have c3b0 : decide (x8_1 < (l0.length : Int)) = true := ygy c3
        clear c3
        by_cases c4 : 0 ≤ x8_1
        · rw [if_pos c4] at H
          have c4b0 : decide (0 ≤ x8_1) = true := ygy c4
          clear c4
          by_cases c5 : x8_1 < (l0.length : Int)
          · rw [if_pos c5] at H
            have c5b0 : decide (x8_1 < (l0.length : Int)) = true := ygy c5
            clear c5
            by_cases c6 : a1 = (rd l0 x8_1)
            · rw [if_pos c6] at H
              have c6b0 : (a1 == (rd l0 x8_1)) = true := beq_iff_eq.mpr c6
              have c6b1 : (a1 != (rd l0 x8_1)) = false := bne_eq_false_iff_eq.mpr c6
              clear c6
              obtain rfl := yey H
              have p101 : 0 ≤ (x8_1 : Int) := of_decide_eq_true (by first | (with_reducible assumption) | assumption)
              have q101 : x8_1 < (l0.length : Int) := of_decide_eq_true (by first | (with_reducible assumption) | assumption)
              obtain ⟨ad101, e101, hx101_0⟩ := Kd.ZA HR0.out x8_1 p101 q101
              cases e101
              replace p101 := eq_true p101
              replace q101 := eq_true q101
              go_wp2
              go_ret
              exact ⟨by first | rfl | (simp; done) | (simp [*]; done), by repeat (first | exact qB.refl _ | apply qB.step)⟩
            · rw [if_neg c6] at H
              have c6b0 : (a1 == (rd l0 x8_1)) = false := beq_eq_false_iff_ne.mpr c6
              have c6b1 : (a1 != (rd l0 x8_1)) = true := bne_iff_ne.mpr c6
              have H' := zA.mk H
              clear H
              have p101 : 0 ≤ (x8_1 : Int) := of_decide_eq_true (by first | (with_reducible assumption) | assumption)
              have q101 : x8_1 < (l0.length : Int) := of_decide_eq_true (by first | (with_reducible assumption) | assumption)
              obtain ⟨ad101, e101, hx101_0⟩ := Kd.ZA HR0.out x8_1 p101 q101
              cases e101
              replace p101 := eq_true p101
              replace q101 := eq_true q101
              go_wp2
              go_roundg k1
              case measure => have := HK1.out; omega
              case rel => exact ⟨(wrap64 (x8_1 + 1)), (by first | rfl | (simp; done) | (simp [*]; done)), H', ⟨by have := HK1.out; omega⟩, by repeat (first | exact qB.refl _ | apply qB.step)⟩
          · rw [if_neg c5] at H
            exact absurd H (by simp)
        · rw [if_neg c4] at H
          exact absurd H (by simp)
      · rw [if_neg c3] at H
        have c3b0 : decide (x8_1 < (l0.length : Int)) = false := yhy c3
        clear c3
        obtain rfl := yey H
        go_wp2
        go_ret
        exact ⟨by first | rfl | (simp; done) | (simp [*]; done), by repeat (first | exact qB.refl _ | apply qB.step)⟩
def ZM.f (k : Nat) (l0 : List Int) (a1 : Int) : Option (Bool) := (qH.f k l0 a1).bind fun t101 => (some (decide (t101 ≥ 0)))
set_option maxHeartbeats 8000000 in
set_option maxRecDepth 100000 in
theorem ZM.calls (k : Nat) (A0 : Option Addr) (c0 : Nat) (l0 : List Int) (a1 : Int) (r : Bool) (w : World) (hr0 : Kd.C (Kd.int .i64) w A0 l0.length l0) (hc0 : l0.length ≤ c0) (h : ZM.f k l0 a1 = some r) :
    Calls Try.prog 125 #[.slice A0 l0.length c0, .int .i64 a1] w fun e w' => e = .returned (.bool r) ∧ qB w w' := by
  have HR0 := zA.mk hr0
  have HC0 := zA.mk hc0
  clear hr0 hc0
  have H : ((qH.f k l0 a1).bind fun t101 => (some (decide (t101 ≥ 0)))) = some r := h
  clear h
  replace H := ydy.mp H
  obtain ⟨t101, A30, H⟩ := H
  replace H : (some (decide (t101 ≥ 0))) = some r := H
  have A3 := zA.mk A30
  clear A30
  obtain rfl := yey H
  go_enter Try.func125, Try.ntmps125
  go_wp2_with (first | ((with_reducible refine zZ (f := 132) rfl ?_); refine qJ (some 7) rfl rfl Try.func132 (by kernel_rfl) rfl #[.slice A0 l0.length c0, .int .i64 a1] rfl (by (try simp only [yiy, yjy, yky]); first | done | rfl | (simp only [yly, ymy]; rfl)) ?_; (with_reducible refine (qH.calls k _ _ l0 a1 t101 _ ?side1 ?side2 A3.out).mono ?_); (case side1 => repeat (first | exact HR0.out | (with_reducible refine Kd.zu ?_ _) | (with_reducible refine Kd.zv ?_ _) | (with_reducible refine Kd.qI ?_))); (case side2 => exact HC0.out); rintro e w' ⟨rfl, ⟨nd, rfl⟩⟩; refine ⟨_, rfl, ?_⟩))
  go_ret
  exact ⟨by first | rfl | (simp; done) | (simp [*]; done), by repeat (first | exact qB.refl _ | apply qB.step)⟩
def zBJ (l0 : List Int) : List Int := [0, 1, 2, 3].filter fun x => !l0.contains x
def QT.f (l0 : List Int) : Option (List Int) := some (zBJ l0)
theorem zDJ (l : List Int) (x : Int) (hl : l.length ≤ 9223372036854775807) : ∀ (d n : Nat), n + d = l.length → ∃ r, qH.l0 (d + 1) l x (l.length : Int) (n : Int) = some r ∧ decide (r ≥ 0) = (l.drop n).contains x
  | 0, n, h => ⟨-1, by rw [qH.l0, if_neg (by omega)], by rw [List.drop_eq_nil_of_le (by omega)]; rfl⟩
  | d + 1, n, h => by
    have hlt : n < l.length := by omega
    obtain ⟨r, h1, h2⟩ := zDJ l x hl d (n + 1) (by omega)
    have ex : rd l (n : Int) = l[n] := by simp [rd, hlt]
    rw [qH.l0, if_pos (by omega), if_pos (by omega), if_pos (by omega), ex, yoy hlt, List.contains_cons]
    by_cases c : x = l[n]
    · exact ⟨n, by rw [if_pos c], by rw [← c]; simp⟩
    · refine ⟨r, ?_, ?_⟩
      · rw [if_neg c, ← h1]; congr 1; unfold wrap64; omega
      · rw [h2]
        have : (x == l[n]) = false := by simpa using c
        rw [this, Bool.false_or]
theorem contains_eq (l : List Int) (x : Int) (hl : l.length ≤ 9223372036854775807) : ZM.f (l.length + 1) l x = some (l.contains x) := by
  obtain ⟨r, h1, h2⟩ := zDJ l x hl l.length 0 (by omega)
  have h3 : qH.f (l.length + 1) l x = some r := h1
  unfold ZM.f
  rw [h3, yfy, h2, List.drop_zero]
set_option maxHeartbeats 8000000 in
set_option maxRecDepth 100000 in
theorem zBo.calls (A0 : Option Addr) (c0 gb : Nat) (l0 : List Int) (x : Int) (w : World) (hb : w.heap[gb]? = some (.cells #[.slice A0 l0.length c0] 22 (0, 0))) (hC : Kd.C (Kd.int .i64) w A0 l0.length l0) (hc : l0.length ≤ c0) :
    Calls Try.prog 124 #[.int .i64 x, .pointer (some ⟨gb, 0, none⟩)] w fun e w' => e = .returned (.bool (l0.contains x)) ∧ Below w.heap.size w w' := by
  have hx : w.cell? ⟨gb, 0, none⟩ = some (.slice A0 l0.length c0) := (zL hb 0).trans rfl
  have HCC := zA.mk (contains_eq l0 x hC.2.1)
  have HC := zA.mk hC
  have HL := zA.mk hc
  clear hb hC hc
  generalize l0.contains x = b at HCC ⊢
  go_enter Try.func124, Try.ntmps124
  go_wp2_with fail
  refine (ZM.calls _ A0 c0 l0 x b _ HC.out HL.out HCC.out).mono ?_
  rintro e w' ⟨rfl, hd⟩
  have HB := zA.mk (qB.below hd)
  clear hd
  go_wp2
  go_ret
  exact ⟨rfl, HB.out⟩
theorem zBp : qZ.f 10 4 = some [0, 1, 2, 3] := by decide +kernel
set_option maxHeartbeats 8000000 in
set_option maxRecDepth 100000 in
theorem QT.calls (A0 : Option Addr) (c0 : Nat) (l0 : List Int) (r : List Int) (w : World) (hr0 : Kd.C (Kd.int .i64) w A0 l0.length l0) (hc0 : l0.length ≤ c0) (h : QT.f l0 = some r) :
    Calls Try.prog 96 #[.slice A0 l0.length c0] w fun e w' => ∃ v0_ : Value, e = .returned (v0_) ∧ Kd.R (Kd.int .i64) 2 w' w.heap.size (fun _ => True) v0_ r ∧ Below w.heap.size w w' := by
  have hr : zBJ l0 = r := yey h
  subst hr
  clear h
  have HR := zA.mk hr0
  have HC := zA.mk hc0
  clear hr0 hc0
  go_enter Try.func96, Try.ntmps96
  have BB := zA.mk (QS (W := w) rfl (.cells #[.slice A0 l0.length c0] 22))
  have HB := zA.mk (zC (yry w.heap.size w) (.cells #[.slice A0 l0.length c0] 22))
  have HS := zA.mk (show (w.alloc (.cells #[.slice A0 l0.length c0] 22)).heap.size = w.heap.size + 1 by simp)
  go_wp2_with fail
  refine (qZ.calls 10 4 [0, 1, 2, 3] _ zBp).mono ?_
  rintro e w1 ⟨v1, rfl, ho, hb⟩
  obtain ⟨g, cap, rfl, hg1, hg2, _⟩ := Kd.zA4 ho (by decide)
  have BB1 := zA.mk (zP BB.out hb)
  have HB1 := zA.mk (zM HB.out hb)
  rw [HS.out] at ho hg1
  have HO := zA.mk ho
  have HG := zA.mk hg1
  clear ho hb hg1 hg2 BB HB HS
  go_wp2_with fail
  refine (JI.calls (fun x => l0.contains x) (.pointer (some ⟨w.heap.size, 0, none⟩)) g cap (w.heap.size + 1) (fun _ => True) [0, 1, 2, 3] _ HO.out (fun W x _ hb => zBo.calls A0 c0 w.heap.size l0 x W ((hb.block w.heap.size (by omega)).trans BB1.out) (Kd.qF HR.out (HB1.out.trans (hb.mono (by omega)))) HC.out)).mono ?_
  rintro e w2 ⟨v2, rfl, ho, hb⟩
  have HO2 := zA.mk (Kd.qx ho (show w.heap.size ≤ w.heap.size + 1 by omega))
  have HB2 := zA.mk (HB1.out.trans (hb.mono (show w.heap.size ≤ w.heap.size + 1 by omega)))
  clear ho hb HO HB1 BB1
  go_wp2
  go_ret
  exact ⟨_, rfl, HO2.out, HB2.out⟩
theorem zCq {f c : Int} (h : c ∈ zBJ [f]) : sm c ∧ c ≠ f := by
  unfold zBJ at h
  obtain ⟨h1, h2⟩ := List.mem_filter.1 h
  refine ⟨?_, fun e => by simp [e] at h2⟩
  simp only [List.mem_cons, List.not_mem_nil, or_false] at h1
  unfold sm; omega
theorem zEO {f : Int} (h : sm f) : (zBJ [f]).length = 3 := by
  obtain ⟨h0, h1⟩ := h
  rcases (show f = 0 ∨ f = 1 ∨ f = 2 ∨ f = 3 by omega) with rfl | rfl | rfl | rfl <;> decide
theorem wid_ {x : Int} (h0 : -9223372036854775808 ≤ x) (h1 : x ≤ 9223372036854775807) : wrap64 x = x := by unfold wrap64; omega
theorem zFM {w : World} {g : Nat} {T : TypeId} {a b c d e f : Int} (h : w.heap[g]? = some (.cells #[.int .i64 a, .int .i64 b, .int .i64 c, .int .i64 d] T (0, 0))) (h0 : 0 ≤ f) (h1 : f ≤ 3) (he : rd [a, b, c, d] f = e) : w.cell? ⟨g, f.toNat, none⟩ = some (.int .i64 e) := by
  rw [Qh h f h0 h1, he]
theorem zAw (n : Nat) (hn : n ≤ 1000000) : ∀ (d i : Nat) (xs : List Int), i + d = n → xs.length = i → qZ.l0 (d + 1) xs (n : Int) (i : Int) = some (xs ++ Lib.ZP (i : Int) d)
  | 0, i, xs, h, hl => by rw [qZ.l0, if_neg (by omega)]; simp [Lib.ZP]
  | d + 1, i, xs, h, hl => by
    have e1 : wrap64 ((i : Int) + 1) = ((i + 1 : Nat) : Int) := by rw [wid_ (by omega) (by omega)]; rfl
    rw [qZ.l0, if_pos (by omega), if_pos (by omega), e1, zAw n hn d (i + 1) _ (by omega) (by simp [hl]), Lib.ZP, List.append_assoc]
    rfl
theorem zCr (n : Nat) (hn : n ≤ 1000000) : qZ.f (n + 1) (n : Int) = some (Lib.ZP 0 n) := by
  have h := zAw n hn n 0 [] (by omega) rfl
  exact h
def zDd (l : List (List qC)) : Prop := l.length ≤ 8 ∧ (∀ r ∈ l, r.length ≤ 4) ∧ ∀ r ∈ l, ∀ x ∈ r, ¬ x.f0 < 0 → x.f0 < (l.length : Int) ∧ 0 ≤ x.f1 ∧ x.f1 ≤ 23
instance (l : List (List qC)) : Decidable (zDd l) := by unfold zDd; infer_instance
def Ql.f (l : List Int) (i k : Int) : Option (List Int) := if 0 ≤ i ∧ i < l.length ∧ 0 ≤ k ∧ k < l.length then some (Lib.uni l i k) else none
theorem zFN {G : Int → Int} {l cur : List Int} {n : Nat} (h : cur = (l.take n).map G ++ l.drop n) (hn : n < l.length) : rd cur (n : Int) = l[n] := by
  subst h
  have h1 : ((l.take n).map G).length = n := by simp; omega
  simp only [rd, yny, List.getD_eq_getElem?_getD]
  rw [List.getElem?_append_right (by omega), h1, Nat.sub_self, List.getElem?_drop]
  simp [hn]
theorem zEP {G : Int → Int} {l cur : List Int} {n : Nat} (h : cur = (l.take n).map G ++ l.drop n) (hn : n < l.length) (e : G l[n] = l[n]) : cur = (l.take (n + 1)).map G ++ l.drop (n + 1) := by
  subst h
  rw [yoy hn, List.take_succ_eq_append_getElem hn, List.map_append, yjy, yky, e, List.append_assoc]
  rfl
theorem zFO {G : Int → Int} {l cur : List Int} {n : Nat} (h : cur = (l.take n).map G ++ l.drop n) (hn : n < l.length) : cur.set n (G l[n]) = (l.take (n + 1)).map G ++ l.drop (n + 1) := by
  subst h
  have h1 : ((l.take n).map G).length = n := by simp; omega
  rw [List.set_append_right _ _ (by omega), h1, Nat.sub_self, yoy hn, yby, List.take_succ_eq_append_getElem hn, List.map_append, yjy, yky, List.append_assoc]
  rfl
set_option maxHeartbeats 8000000 in
set_option maxRecDepth 100000 in
theorem Ql.calls (P0_ : Nat → Prop) (v : Value) (l : List Int) (i k : Int) (r : List Int) (w0 w : World) (hB : Below w0.heap.size w0 w) (ho0 : Kd.R (Kd.int .i64) 2 w w0.heap.size P0_ v l) (h : Ql.f l i k = some r) :
    Calls Try.prog 101 #[v, .int .i64 i, .int .i64 k] w fun e w' => e = .returned (.tuple #[]) ∧ Kd.R (Kd.int .i64) 2 w' w0.heap.size P0_ v r ∧ Below w0.heap.size w0 w' ∧ Kept w w' P0_ := by
  unfold Ql.f at h
  by_cases hok : 0 ≤ i ∧ i < l.length ∧ 0 ≤ k ∧ k < l.length
  case neg => rw [if_neg hok] at h; cases h
  rw [if_pos hok] at h
  have hr := yey h
  obtain ⟨hi0, hi1, hk0, hk1⟩ := hok
  obtain ⟨g, cap, rfl, hg1, _, _⟩ := Kd.zA4 ho0 (by omega)
  have hbig : l.length ≤ 9223372036854775807 := (Kd.zF3 (Kd.zr ho0).2.2)
  have q0 := (Kd.Zn 0 ho0 k hk0 hk1).1
  have q1 := (Kd.Zn 0 ho0 i hi0 hi1).1
  replace q0 : w.cell? ⟨g, k.toNat, none⟩ = some (.int .i64 (rd l k)) := q0
  replace q1 : w.cell? ⟨g, i.toNat, none⟩ = some (.int .i64 (rd l i)) := q1
  have hR : zA (l.map (fun x => if x = rd l k then rd l i else x) = r) := ⟨hr⟩
  clear hr h
  generalize rd l k = q at q0 hR
  generalize rd l i = p at q1 hR
  have HO := zA.mk ho0
  have HB := zA.mk hB
  have HP := zA.mk (ho0.1 g rfl)
  clear ho0 hB
  go_enter Try.func101, Try.ntmps101
  go_wp2
  refine QG (n := 10) (S := fun w' => w'.cell? ⟨g, k.toNat, none⟩ = some (.int .i64 q) ∧ w'.cell? ⟨g, i.toNat, none⟩ = some (.int .i64 p)) (ds := []) #[false, false, false, false, false, false, false, false, false, false] (by kernel_rfl) rfl rfl ⟨q0, q1⟩ (fun hHeld => ?_)
  refine zq (i := 0) (N := some 10) (v := ?_) (a' := ?_) #[true, false, false, false, false, false, false, false, false, false] rfl rfl (by kernel_rfl) (fun _ _ _ h => h) (Or.inl ⟨by rfl, ?_⟩) ?_ ?_
  rotate_left
  · intro w'
    go_simp
    with_reducible rfl
  rotate_left
  · simp only [Act.put, yay, yby, ycy, za, zc]
    rfl
  refine zq (i := 1) (N := some 11) (v := ?_) (a' := ?_) #[true, true, false, false, false, false, false, false, false, false] rfl rfl (by kernel_rfl) (fun _ _ _ h => h) (Or.inl ⟨by rfl, ?_⟩) ?_ ?_
  rotate_left
  · intro w'
    go_simp
    with_reducible rfl
  rotate_left
  · simp only [Act.put, yay, yby, ycy, za, zc]
    rfl
  refine zq (i := 2) (N := some 12) (v := ?_) (a' := ?_) #[true, true, true, false, false, false, false, false, false, false] rfl rfl (by kernel_rfl) (fun _ _ _ h => h) (Or.inl ⟨by rfl, ?_⟩) ?_ ?_
  rotate_left
  · intro w'
    go_simp
    with_reducible rfl
  rotate_left
  · simp only [Act.put, yay, yby, ycy, za, zc]
    rfl
  refine ZO (i := 3) (N := some 13) (v := ?_) (a' := ?_) #[true, true, true, true, false, false, false, false, false, false] rfl rfl (by kernel_rfl) (fun _ _ _ h => h) (Or.inl ⟨by rfl, ?_⟩) hHeld ?_ ?_
  rotate_left
  · rintro w' ⟨s0, s1⟩
    go_simp
    with_reducible rfl
  rotate_left
  · simp only [Act.put, yay, yby, ycy, za, zc]
    rfl
  refine zq (i := 4) (N := some 14) (v := ?_) (a' := ?_) #[true, true, true, true, true, false, false, false, false, false] rfl rfl (by kernel_rfl) (fun _ _ _ h => h) (Or.inl ⟨by rfl, ?_⟩) ?_ ?_
  rotate_left
  · intro w'
    go_simp
    with_reducible rfl
  rotate_left
  · simp only [Act.put, yay, yby, ycy, za, zc]
    rfl
  refine zq (i := 5) (N := some 15) (v := ?_) (a' := ?_) #[true, true, true, true, true, true, false, false, false, false] rfl rfl (by kernel_rfl) (fun _ _ _ h => h) (Or.inl ⟨by rfl, ?_⟩) ?_ ?_
  rotate_left
  · intro w'
    go_simp
    with_reducible rfl
  rotate_left
  · simp only [Act.put, yay, yby, ycy, za, zc]
    rfl
  refine zq (i := 6) (N := some 16) (v := ?_) (a' := ?_) #[true, true, true, true, true, true, true, false, false, false] rfl rfl (by kernel_rfl) (fun _ _ _ h => h) (Or.inl ⟨by rfl, ?_⟩) ?_ ?_
  rotate_left
  · intro w'
    go_simp
    with_reducible rfl
  rotate_left
  · simp only [Act.put, yay, yby, ycy, za, zc]
    rfl
  refine ZO (i := 7) (N := some 17) (v := ?_) (a' := ?_) #[true, true, true, true, true, true, true, true, false, false] rfl rfl (by kernel_rfl) (fun _ _ _ h => h) (Or.inl ⟨by rfl, ?_⟩) hHeld ?_ ?_
  rotate_left
  · rintro w' ⟨s0, s1⟩
    go_simp
    with_reducible rfl
  rotate_left
  · simp only [Act.put, yay, yby, ycy, za, zc]
    rfl
  refine zq (i := 8) (N := some 6) (v := ?_) (a' := ?_) #[true, true, true, true, true, true, true, true, true, false] rfl rfl (by kernel_rfl) (fun _ _ _ h => h) (Or.inl ⟨by rfl, ?_⟩) ?_ ?_
  rotate_left
  · intro w'
    go_simp
    with_reducible rfl
  rotate_left
  · simp only [Act.put, yay, yby, ycy, za, zc]
    rfl
  refine zq (i := 9) (N := some 7) (v := ?_) (a' := ?_) #[true, true, true, true, true, true, true, true, true, true] rfl rfl (by kernel_rfl) (fun _ _ _ h => h) (Or.inl ⟨by rfl, ?_⟩) ?_ ?_
  rotate_left
  · intro w'
    go_simp
    with_reducible rfl
  rotate_left
  · simp only [Act.put, yay, yby, ycy, za, zc]
    rfl
  refine Qz (by kernel_rfl) ?_
  have HO2 := zA.mk (Kd.zV HO.out)
  have HB2 := zA.mk (zD HB.out)
  have HK := zA.mk (Kept.drew (Kept.refl w P0_))
  have HC : zA (l = (l.take 0).map (fun x => if x = q then p else x) ++ l.drop 0) := ⟨by simp⟩
  clear HO HB hHeld q0 q1
  generalize w.drew = wd at *
  go_wp2
  go_loopg [20] l.length (fun gg v20 w' => ∃ (n : Nat) (cur : List Int), n ≤ l.length ∧ l.length - n ≤ gg ∧ v20 = .int .i64 n ∧ zA (cur = (l.take n).map (fun x => if x = q then p else x) ++ l.drop n) ∧ zA (Kd.R (Kd.int .i64) 2 w' w0.heap.size P0_ (.slice (some ⟨g, 0, none⟩) l.length cap) cur) ∧ zA (Below w0.heap.size w0 w') ∧ zA (Kept w w' P0_))
  case atStart => exact ⟨0, l, Nat.zero_le _, by omega, rfl, HC, HO2, HB2, HK⟩
  case round =>
    clear HC HO2 HB2 HK
    obtain ⟨n, cur, hn, hg, rfl, HC, HO, HB, HK⟩ := hrel
    by_cases hlt : n < l.length
    · have hltz : (n : Int) < (l.length : Int) := by omega
      obtain ⟨hc, hf⟩ := Kd.Zn 0 HO.out (n : Int) (by omega) hltz
      replace hc : wr.cell? ⟨g, n, none⟩ = some (.int .i64 (rd cur (n : Int))) := hc
      replace hf : wr.frozen? ⟨g, n, none⟩ = false := hf
      rw [zFN HC.out hlt] at hc
      by_cases hy : l[n] = q
      · have HC2 := zA.mk (zFO HC.out hlt)
        rw [hy] at hc HC2
        have HC3 : zA (cur.set n p = (l.take (n + 1)).map (fun x => if x = q then p else x) ++ l.drop (n + 1)) := ⟨by have h := HC2.out; rwa [if_pos rfl] at h⟩
        have e1 : (q == q) = true := by simp
        clear hy HC2 HC
        go_wp2_with (first
          | ((with_reducible refine Zc (t := 2) (p := 31) rfl ?_); refine ZW (t := 2) (p := 31) (v := ?vo31) (w1 := (wr.setCell ⟨g, n, none⟩ (.int .i64 p))) ?hg ?ho ?hn ?hr ?_; (case ho => rfl); (case hg => rfl); (case hn => rfl); (case hr => first | (go_simp; done) | (go_simp; rfl)); intro w4 hw; have HO2 := zA.mk (show Kd.R (Kd.int .i64) 2 w4 w0.heap.size P0_ (.slice (some ⟨g, 0, none⟩) l.length cap) (cur.set n p) by rw [hw]; exact (Kd.zA6 HO.out (n : Int) p).1); have HB2 := zA.mk (show Below w0.heap.size w0 w4 by rw [hw]; exact zF HB.out hg1); have HK2 := zA.mk (show Kept w w4 P0_ by rw [hw]; exact HK.out.setCell (p := ⟨g, n, none⟩) (.inl HP.out) _); clear hw hc hf HO HB HK))
        go_roundg (l.length - (n + 1))
        case measure => omega
        case rel => exact ⟨n + 1, cur.set n p, by omega, by omega, by go_num, HC3, HO2, HB2, HK2⟩
      · have HC2 := zA.mk (zEP HC.out hlt (if_neg hy))
        have e1 : (l[n] == q) = false := by simpa using hy
        generalize l[n] = y at hc e1
        clear hy HC
        go_wp2
        go_roundg (l.length - (n + 1))
        case measure => omega
        case rel => exact ⟨n + 1, cur, by omega, by omega, by go_num, HC2, HO, HB, HK⟩
    · obtain rfl : n = l.length := by omega
      have hcr : cur = r := by rw [HC.out, ← hR.out]; simp
      have HCR := zA.mk hcr
      clear hcr HC
      go_wp2
      first | go_end0 | ((try simp only [Exit.inBlock, Exit.then]); refine bodyPost_ret (results_none rfl _ _ _) rfl ?_)
      refine ⟨?_, by rw [← HCR.out]; exact HO.out, HB.out, HK.out⟩
      first | rfl | (simp <;> rfl)
theorem zAC (p : Int) (h0 : 0 ≤ p) (h1 : p ≤ 23) : sm (zy p 0) ∧ sm (zy p 1) ∧ sm (zy p 2) ∧ sm (zy p 3) := by
  obtain ⟨n, rfl⟩ := Int.eq_ofNat_of_zero_le h0
  have hn : n < 24 := by omega
  have key : ∀ m : Fin 24, (0 ≤ zy (m.val : Int) 0 ∧ zy (m.val : Int) 0 ≤ 3) ∧ (0 ≤ zy (m.val : Int) 1 ∧ zy (m.val : Int) 1 ≤ 3) ∧ (0 ≤ zy (m.val : Int) 2 ∧ zy (m.val : Int) 2 ≤ 3) ∧ (0 ≤ zy (m.val : Int) 3 ∧ zy (m.val : Int) 3 ≤ 3) := by decide
  exact key ⟨n, hn⟩
def Qo (l : List Int) : Nat → List Int
  | 0 => [0, 0, 0, 0]
  | i + 1 => (Qo l i).set (rd l i).toNat i
theorem zBK (l : List Int) : ∀ i, i ≤ 4 → ∀ x ∈ Qo l i, sm x
  | 0, _, x, hx => by
    have : x = 0 := by simp [Qo] at hx; exact hx
    subst this; exact ⟨by omega, by omega⟩
  | i + 1, hi, x, hx => by
    rw [Qo] at hx
    rcases List.mem_or_eq_of_mem_set hx with h | rfl
    · exact zBK l i (by omega) x h
    · exact ⟨by omega, by omega⟩
def zDe (p : Int) : Int := idxL (Qo (qt p) 4)
theorem zAL {a b c d : Int} (ha : sm a) (hb : sm b) (hc : sm c) (hd : sm d) (f : Int) (h0 : 0 ≤ f) (h1 : f ≤ 3) : sm (rd [a, b, c, d] f) := by
  rcases (show f = 0 ∨ f = 1 ∨ f = 2 ∨ f = 3 by omega) with rfl | rfl | rfl | rfl <;> assumption
def Qc (j b : Int) (p : List Int) : List Int → List Int → List Int
  | [], s => s
  | c :: cs, s => Qc j b p cs (Lib.uni s (4 * j + c) (4 * b + rd p c))
theorem Jm (j b : Int) (p : List Int) : ∀ (L s : List Int), (Qc j b p L s).length = s.length
  | [], _ => rfl
  | c :: cs, s => by rw [Qc, Jm j b p cs, Lib.JH]
def zAV (s : List Int) (j f : Nat) (x : qC) : List Int := Qc j x.f0 (qt x.f1) (zBJ [(f : Int)]) s
structure zBq (w0 : World) (gs n : Nat) (s : List Int) (W : World) : Prop where
  below : Below w0.heap.size w0 W
  ex : ∃ v, W.heap[gs]? = some (.cells #[v] 22 (0, 0)) ∧ Kd.R (Kd.int .i64) 2 W w0.heap.size (fun _ => True) v s
  own : w0.heap.size ≤ gs
  len : s.length = n
theorem zBq.stays {w0 W W1 : World} {gs n : Nat} {s : List Int} (h : zBq w0 gs n s W) (hb : Below W.heap.size W W1) : zBq w0 gs n s W1 := by
  obtain ⟨v, h1, h2⟩ := h.ex
  exact ⟨zM h.below hb, ⟨v, zP h1 hb, Kd.qL h2 hb⟩, h.own, h.len⟩
structure VcL (w0 : World) (gs gF gI gO cO : Nat) (f0 f1 x0 x1 x2 x3 : Int) (L s : List Int) (v : Value) (W : World) : Prop where
  below : Below w0.heap.size w0 W
  bS : W.heap[gs]? = some (.cells #[v] 22 (0, 0))
  bF : W.heap[gF]? = some (.cells #[.int .i64 f0, .int .i64 f1] 75 (0, 0))
  bI : W.heap[gI]? = some (.cells #[.int .i64 x0, .int .i64 x1, .int .i64 x2, .int .i64 x3] 101 (0, 0))
  rL : Kd.R (Kd.int .i64) 2 W w0.heap.size (fun k => k = gO) (.slice (some ⟨gO, 0, none⟩) L.length cO) L
  rE : Kd.R (Kd.int .i64) 2 W w0.heap.size (fun k => k ≠ gO) v s
  own : w0.heap.size ≤ gs
section
variable {w0 W W1 : World} {gs gF gI gO cO : Nat} {f0 f1 x0 x1 x2 x3 : Int} {L s s1 : List Int} {v : Value}
theorem VcL.stays (h : VcL w0 gs gF gI gO cO f0 f1 x0 x1 x2 x3 L s v W) (hb : Below W.heap.size W W1) : VcL w0 gs gF gI gO cO f0 f1 x0 x1 x2 x3 L s v W1 :=
  ⟨zM h.below hb, zP h.bS hb, zP h.bF hb, zP h.bI hb, Kd.qL h.rL hb, Kd.qL h.rE hb, h.own⟩
theorem VcL.uni (h : VcL w0 gs gF gI gO cO f0 f1 x0 x1 x2 x3 L s v W) (hR : Kd.R (Kd.int .i64) 2 W1 w0.heap.size (fun k_ => some k_ = v.ownBlock) v s1) (hB : Below w0.heap.size w0 W1) (hK : Kept W W1 (fun k_ => some k_ = v.ownBlock)) : VcL w0 gs gF gI gO cO f0 f1 x0 x1 x2 x3 L s1 v W1 := by
  have hne : ∀ (g : Nat) (T : TypeId) (c : Array Value), T ≠ 2 → W.heap[g]? = some (.cells c T (0, 0)) → ¬ some g = v.ownBlock := fun g T c hT hc e => by
    obtain ⟨cells, hc2⟩ := Kd.zE6 h.rE g e.symm
    exact blk_ne hc hc2 hT rfl
  exact ⟨hB, Zi h.bS hK (hne _ _ _ (by decide) h.bS), Zi h.bF hK (hne _ _ _ (by decide) h.bF), Zi h.bI hK (hne _ _ _ (by decide) h.bI), Kd.zBE h.rL hK (fun k hk e => h.rE.1 k e.symm hk), Kd.zx hR (fun k hk => h.rE.1 k hk.symm), h.own⟩
end
set_option maxHeartbeats 8000000 in
set_option maxRecDepth 100000 in
theorem Jj.calls (w0 w : World) (gs n : Nat) (s : List Int) (j f : Nat) (f0 f1 : Int) (hI : zBq w0 gs n s w) (hj : 4 * (j : Int) + 4 ≤ (n : Int)) (hf : (f : Int) ≤ 3) (hf0 : 0 ≤ f0) (hf1 : 4 * f0 + 4 ≤ (n : Int)) (hp0 : 0 ≤ f1) (hp1 : f1 ≤ 23) (hn : n ≤ 64) :
    Calls Try.prog 120 #[.int .i64 (j : Int), .int .i64 (f : Int), .agg #[.int .i64 f0, .int .i64 f1], .agg #[.int .i64 (zy f1 0), .int .i64 (zy f1 1), .int .i64 (zy f1 2), .int .i64 (zy f1 3)], .pointer (some ⟨gs, 0, none⟩)] w fun e w' => e = .returned (.tuple #[]) ∧ zBq w0 gs n (zAV s j f ⟨f0, f1⟩) w' := by
  obtain ⟨y0, y1, y2, y3⟩ := zAC f1 hp0 hp1
  have hstep : zAV s j f ⟨f0, f1⟩ = Qc j f0 (qt f1) (zBJ [(f : Int)]) s := rfl
  have hpl : qt f1 = [zy f1 0, zy f1 1, zy f1 2, zy f1 3] := rfl
  rw [hpl] at hstep
  have HPL := zA.mk hpl
  generalize zy f1 0 = x0 at *
  generalize zy f1 1 = x1 at *
  generalize zy f1 2 = x2 at *
  generalize zy f1 3 = x3 at *
  clear HPL hpl
  have HP : zA (∀ c, sm c → sm (rd [x0, x1, x2, x3] c)) := ⟨fun c hc => zAL y0 y1 y2 y3 c hc.1 hc.2⟩
  have HF := zA.mk (show sm (f : Int) from ⟨by omega, hf⟩)
  have HS := zA.mk hstep
  generalize zAV s j f ⟨f0, f1⟩ = R at HS ⊢
  have HI := zA.mk hI
  clear hI hstep y0 y1 y2 y3
  have ht := Try.underlying101
  have HCF : zA (∀ (W : World) (g : Nat), W.heap.size = g → Kd.C (Kd.int .i64) (W.alloc (.cells #[.int .i64 (f : Int)] 2)) (some ⟨g, 0, none⟩) 1 [(f : Int)]) := ⟨fun W g hg => by subst hg; exact (Kd.zr (show Kd.R (Kd.int .i64) 2 (W.alloc (.cells #[.int .i64 (f : Int)] 2)) W.heap.size (fun _ => True) (.slice (some ⟨W.heap.size, 0, none⟩) 1 1) [(f : Int)] from
      Kd.zA3 ⟨by simp [zAH], .inr ⟨W.heap.size, 1, #[.int .i64 (f : Int)], rfl, yqy _, QS rfl _, yqy 1, by decide, rfl, rfl⟩⟩ (fun _ _ => trivial))).2.2⟩
  have HL3 := zA.mk (zEO HF.out)
  have HLM := zA.mk (show ∀ c ∈ zBJ [(f : Int)], sm c ∧ c ≠ (f : Int) from fun c hc => zCq hc)
  generalize hLe : zBJ [(f : Int)] = L at HS HL3 HLM
  have HLE := zA.mk (show QT.f [(f : Int)] = some L by rw [← hLe]; rfl)
  clear hLe
  have BF := zA.mk (zG (QS (W := w) rfl (.cells #[.int .i64 f0, .int .i64 f1] 75)) (.cells #[.int .i64 x0, .int .i64 x1, .int .i64 x2, .int .i64 x3] 101))
  have BI := zA.mk (QS (W := w.alloc (.cells #[.int .i64 f0, .int .i64 f1] 75)) (n := w.heap.size + 1) (by simp) (.cells #[.int .i64 x0, .int .i64 x1, .int .i64 x2, .int .i64 x3] 101))
  have HB := zA.mk (zC (zC (yry w.heap.size w) (.cells #[.int .i64 f0, .int .i64 f1] 75)) (.cells #[.int .i64 x0, .int .i64 x1, .int .i64 x2, .int .i64 x3] 101))
  have HWZ : zA (((w.alloc (.cells #[.int .i64 f0, .int .i64 f1] 75)).alloc (.cells #[.int .i64 x0, .int .i64 x1, .int .i64 x2, .int .i64 x3] 101)).heap.size = w.heap.size + 1 + 1) := ⟨by simp⟩
  go_enter Try.func120, Try.ntmps120
  go_wp2_with fail
  generalize hwB : World.alloc (World.alloc w _) _ = wB at *
  refine (QT.calls _ 1 [(f : Int)] L _ (HCF.out _ _ HWZ.out) (yqy 1) HLE.out).mono ?_
  rintro e w2 ⟨v0, rfl, ho, hb⟩
  obtain ⟨gO, cO, rfl, hg1, hg2, _⟩ := Kd.zA4 ho (by rw [HL3.out]; decide)
  have HO := zA.mk ho
  have HBO := zA.mk hb
  have HG := zA.mk (And.intro hg1 hg2)
  clear ho hb hg1 hg2 HCF
  go_wp2
  obtain ⟨v, hM, hE⟩ := HI.out.ex
  have hs0 := HI.out.below.size
  have hs1 := HB.out.size
  have hs2 : (wB.alloc (.cells #[.int .i64 (f : Int)] 2)).heap.size = wB.heap.size + 1 := by simp
  have hgO := HG.out.1
  have HB3 := zA.mk (zM (zC HB.out (.cells #[.int .i64 (f : Int)] 2)) HBO.out)
  generalize hgI : w.heap.size + 1 = gI at *
  have HM := zA.mk (show VcL w0 gs w.heap.size gI gO cO f0 f1 x0 x1 x2 x3 L s v w2 from
    ⟨zM HI.out.below HB3.out, zP hM HB3.out, zP (zG BF.out _) HBO.out, zP (zG BI.out _) HBO.out,
      Kd.zx (Kd.JB rfl (Kd.qx HO.out (by omega))) (fun k_ hk_ => by simpa [Value.ownBlock] using hk_),
      Kd.qL (Kd.zx (Kd.Zz hE) (fun k hk => by have := hk.2.2.1; omega)) HB3.out, HI.out.own⟩)
  have HLN := zA.mk HI.out.len
  have HS0 : zA (Qc j f0 [x0, x1, x2, x3] (L.drop 0) s = R) := ⟨by rw [List.drop_zero]; exact HS.out.symm⟩
  have HLX := zA.mk (Kd.zF3 (Kd.zr HO.out).2.2)
  clear hM hE hs0 hs1 hs2 hgO HB3 HO HBO HG HB BF BI HI HLE HS hwB
  generalize hgF : w.heap.size = gF at *
  have hlb : L.length ≤ 3 := by have := HL3.out; omega
  go_loopg [15] L.length (fun gg v15 w' => ∃ (i : Nat) (s1 : List Int), i ≤ L.length ∧ L.length - i ≤ gg ∧ v15 = .int .i64 i ∧ zA (Qc j f0 [x0, x1, x2, x3] (L.drop i) s1 = R) ∧ zA (VcL w0 gs gF gI gO cO f0 f1 x0 x1 x2 x3 L s1 v w') ∧ zA (s1.length = n))
  case atStart => exact ⟨0, s, Nat.zero_le _, by omega, rfl, HS0, HM, HLN⟩
  case round =>
    clear HM HS0 HLN
    obtain ⟨i, s1, hi9, hgg, rfl, HS0, HM, HLN⟩ := hrel
    by_cases hlt : i < L.length
    · have hltz : (i : Int) < (L.length : Int) := by omega
      obtain ⟨hc, _⟩ := Kd.Zn 0 HM.out.rL (i : Int) (by omega) hltz
      replace hc : wr.cell? ⟨gO, i, none⟩ = some (.int .i64 (rd L (i : Int))) := hc
      have ex : rd L (i : Int) = L[i] := by simp [rd, hlt]
      rw [ex] at hc
      have HC := zA.mk (HLM.out L[i] (List.getElem_mem hlt))
      have HA2 := HS0.out
      rw [yoy hlt, Qc] at HA2
      have HS1 := zA.mk HA2
      clear HS0 HA2 ex
      generalize L[i] = c at hc HC HS1
      obtain ⟨hc0, hc1⟩ := HC.out.1
      have hc4 : c < 4 := by omega
      have k4 := HP.out c HC.out.1
      generalize hde : rd [x0, x1, x2, x3] c = d at k4 HS1
      have HD := zA.mk hde
      obtain ⟨hd0, hd1⟩ := k4
      go_wp2
      have HUN : zA (Ql.f s1 (wrap64 (wrap64 (4 * (j : Int)) + c)) (wrap64 (wrap64 (4 * f0) + d)) = some (Lib.uni s1 (4 * (j : Int) + c) (4 * f0 + d))) := ⟨by
        have hl := HLN.out
        rw [wid_ (show -9223372036854775808 ≤ 4 * (j : Int) by omega) (by omega), wid_ (show -9223372036854775808 ≤ 4 * f0 by omega) (by omega), wid_ (show -9223372036854775808 ≤ 4 * (j : Int) + c by omega) (by omega), wid_ (show -9223372036854775808 ≤ 4 * f0 + d by omega) (by omega)]
        unfold Ql.f
        rw [if_pos (by omega)]⟩
      refine QG (n := 13) (S := fun w' => w'.cell? ⟨gs, 0, none⟩ = some v ∧ w'.cell? ⟨gF, 0, none⟩ = some (.int .i64 f0) ∧ w'.cell? ⟨gI, c.toNat, none⟩ = some (.int .i64 d)) (ds := [12]) #[false, false, false, false, false, false, false, false, false, false, false, false, false] (by kernel_rfl) rfl rfl ⟨(zL HM.out.bS 0).trans rfl, (zL HM.out.bF 0).trans rfl, zFM HM.out.bI hc0 hc1 hde⟩ (fun hHeld => ?_)
      have HM5 := zA.mk (HM.out.stays (zD (yry _ _)))
      clear HM hde hc
      generalize wr.drew = w7 at HM5 hHeld ⊢
      refine ZO (i := 0) (N := some 19) (v := ?_) (a' := ?_) #[true, false, false, false, false, false, false, false, false, false, false, false, false] rfl rfl (by kernel_rfl) (fun _ _ _ h => h) (Or.inl ⟨by rfl, ?_⟩) hHeld ?_ ?_
      rotate_left
      · rintro w' ⟨s0, s1, s2⟩
        go_simp
        with_reducible rfl
      rotate_left
      · simp only [Act.put, yay, yby, ycy, za, zc]
        rfl
      refine zq (i := 1) (N := some 20) (v := ?_) (a' := ?_) #[true, true, false, false, false, false, false, false, false, false, false, false, false] rfl rfl (by kernel_rfl) (fun _ _ _ h => h) (Or.inl ⟨by rfl, ?_⟩) ?_ ?_
      rotate_left
      · intro w'
        go_simp
        with_reducible rfl
      rotate_left
      · simp only [Act.put, yay, yby, ycy, za, zc]
        rfl
      refine zq (i := 2) (N := some 21) (v := ?_) (a' := ?_) #[true, true, true, false, false, false, false, false, false, false, false, false, false] rfl rfl (by kernel_rfl) (fun _ _ _ h => h) (Or.inl ⟨by rfl, ?_⟩) ?_ ?_
      rotate_left
      · intro w'
        go_simp
        with_reducible rfl
      rotate_left
      · simp only [Act.put, yay, yby, ycy, za, zc]
        rfl
      refine zq (i := 3) (N := some 22) (v := ?_) (a' := ?_) #[true, true, true, true, false, false, false, false, false, false, false, false, false] rfl rfl (by kernel_rfl) (fun _ _ _ h => h) (Or.inl ⟨by rfl, ?_⟩) ?_ ?_
      rotate_left
      · intro w'
        go_simp
        with_reducible rfl
      rotate_left
      · simp only [Act.put, yay, yby, ycy, za, zc]
        rfl
      refine zq (i := 4) (N := some 23) (v := ?_) (a' := ?_) #[true, true, true, true, true, false, false, false, false, false, false, false, false] rfl rfl (by kernel_rfl) (fun _ _ _ h => h) (Or.inl ⟨by rfl, ?_⟩) ?_ ?_
      rotate_left
      · intro w'
        go_simp
        with_reducible rfl
      rotate_left
      · simp only [Act.put, yay, yby, ycy, za, zc]
        rfl
      refine zq (i := 5) (N := some 24) (v := ?_) (a' := ?_) #[true, true, true, true, true, true, false, false, false, false, false, false, false] rfl rfl (by kernel_rfl) (fun _ _ _ h => h) (Or.inl ⟨by rfl, ?_⟩) ?_ ?_
      rotate_left
      · intro w'
        go_simp
        with_reducible rfl
      rotate_left
      · simp only [Act.put, yay, yby, ycy, za, zc]
        rfl
      refine ZO (i := 6) (N := some 25) (v := ?_) (a' := ?_) #[true, true, true, true, true, true, true, false, false, false, false, false, false] rfl rfl (by kernel_rfl) (fun _ _ _ h => h) (Or.inl ⟨by rfl, ?_⟩) hHeld ?_ ?_
      rotate_left
      · rintro w' ⟨s0, s1, s2⟩
        go_simp
        with_reducible rfl
      rotate_left
      · simp only [Act.put, yay, yby, ycy, za, zc]
        rfl
      refine zq (i := 7) (N := some 26) (v := ?_) (a' := ?_) #[true, true, true, true, true, true, true, true, false, false, false, false, false] rfl rfl (by kernel_rfl) (fun _ _ _ h => h) (Or.inl ⟨by rfl, ?_⟩) ?_ ?_
      rotate_left
      · intro w'
        go_simp
        with_reducible rfl
      rotate_left
      · simp only [Act.put, yay, yby, ycy, za, zc]
        rfl
      refine zq (i := 8) (N := some 27) (v := ?_) (a' := ?_) #[true, true, true, true, true, true, true, true, true, false, false, false, false] rfl rfl (by kernel_rfl) (fun _ _ _ h => h) (Or.inl ⟨by rfl, ?_⟩) ?_ ?_
      rotate_left
      · intro w'
        go_simp
        with_reducible rfl
      rotate_left
      · simp only [Act.put, yay, yby, ycy, za, zc]
        rfl
      refine zq (i := 9) (N := some 28) (v := ?_) (a' := ?_) #[true, true, true, true, true, true, true, true, true, true, false, false, false] rfl rfl (by kernel_rfl) (fun _ _ _ h => h) (Or.inl ⟨by rfl, ?_⟩) ?_ ?_
      rotate_left
      · intro w'
        go_simp
        with_reducible rfl
      rotate_left
      · simp only [Act.put, yay, yby, ycy, za, zc]
        rfl
      refine ZO (i := 10) (N := some 29) (v := ?_) (a' := ?_) #[true, true, true, true, true, true, true, true, true, true, true, false, false] rfl rfl (by kernel_rfl) (fun _ _ _ h => h) (Or.inl ⟨by rfl, ?_⟩) hHeld ?_ ?_
      rotate_left
      · rintro w' ⟨s0, s1, s2⟩
        go_simp
        with_reducible rfl
      rotate_left
      · simp only [Act.put, yay, yby, ycy, za, zc]
        rfl
      refine zq (i := 11) (N := some 30) (v := ?_) (a' := ?_) #[true, true, true, true, true, true, true, true, true, true, true, true, false] rfl rfl (by kernel_rfl) (fun _ _ _ h => h) (Or.inl ⟨by rfl, ?_⟩) ?_ ?_
      rotate_left
      · intro w'
        go_simp
        with_reducible rfl
      rotate_left
      · simp only [Act.put, yay, yby, ycy, za, zc]
        rfl
      refine last_ (i := 12) (N := some 31) #[true, true, true, true, true, true, true, true, true, true, true, true, true] rfl rfl (by kernel_rfl) (by decide) (fun K hK => ?_)
      refine QR Try.func101 (by kernel_rfl) rfl #[v, .int .i64 (wrap64 (wrap64 (4 * (j : Int)) + c)), .int .i64 (wrap64 (wrap64 (4 * f0) + d))] (by rfl) rfl rfl (by (try simp only [yiy, yjy, yky]); first | done | rfl) ?_
      refine (Ql.calls (fun k_ => some k_ = v.ownBlock) v s1 _ _ _ w0 _ HM5.out.below (Kd.JB rfl HM5.out.rE) HUN.out).mono ?_
      rintro e w9 ⟨rfl, hR9, hB9, hK9⟩
      refine ⟨_, rfl, ?_⟩
      have HM9 := zA.mk (HM5.out.uni hR9 hB9 hK9)
      clear hR9 hB9 hK9 HM5 HUN
      refine hK.out _ _ ?_
      clear hK K
      refine QB (a' := ?_) ?_ ?_
      rotate_left
      · show Act.put _ (some 31) _ = _
        simp only [Act.put, yay, yby, ycy, za, zc]
        rfl
      refine Qz (by kernel_rfl) ?_
      go_wp2
      go_roundg (L.length - (i + 1))
      case measure => omega
      case rel => exact ⟨i + 1, _, by omega, by omega, by go_num, ⟨HS1.out⟩, HM9, ⟨by rw [Lib.JH]; exact HLN.out⟩⟩
    · obtain rfl : i = L.length := by omega
      have HA2 := HS0.out
      rw [List.drop_length, Qc] at HA2
      subst HA2
      go_wp2
      first | go_end0 | ((try simp only [Exit.inBlock, Exit.then]); refine bodyPost_ret (results_none rfl _ _ _) rfl ?_)
      refine ⟨?_, ⟨HM.out.below, ⟨v, HM.out.bS, Kd.zx HM.out.rE (fun _ _ => trivial)⟩, HM.out.own, HLN.out⟩⟩
      first | rfl | (simp <;> rfl)
def zAY (l : List (List qC)) : List Int := zBH zAV l 0 (Lib.ZP 0 (4 * l.length))
def zj.f (l : List (List qC)) : Option (List Int) := if zDd l ∧ zCo (zAY l) = true then some (Lib.zBk (zAY l)) else none
theorem zG2 {l : List (List qC)} (hok : zDd l) {w : World} {gs : Nat} (s : List Int) (W : World) (j f : Nat) (x : qC) (hI : zBq w gs (4 * l.length) s W) (hF : zAU l j f x) (hb : ¬ x.f0 < 0) :
    Calls Try.prog 120 (#[.int .i64 (j : Int), .int .i64 (f : Int), .agg #[.int .i64 x.f0, .int .i64 x.f1], .agg #[.int .i64 (zy x.f1 0), .int .i64 (zy x.f1 1), .int .i64 (zy x.f1 2), .int .i64 (zy x.f1 3)]] ++ #[.pointer (some ⟨gs, 0, none⟩)]) W fun e W' => e = .returned (.tuple #[]) ∧ zBq w gs (4 * l.length) (zAV s j f x) W' := by
  obtain ⟨h1, h2, h3⟩ := hF
  obtain ⟨q0, q1, q2⟩ := hok
  have q3 := q1 _ (List.getElem_mem h1)
  have q4 := q2 _ (List.getElem_mem h1) x (by rw [← h3]; exact List.getElem_mem h2) hb
  have e : (#[.int .i64 (j : Int), .int .i64 (f : Int), .agg #[.int .i64 x.f0, .int .i64 x.f1], .agg #[.int .i64 (zy x.f1 0), .int .i64 (zy x.f1 1), .int .i64 (zy x.f1 2), .int .i64 (zy x.f1 3)]] ++ #[.pointer (some ⟨gs, 0, none⟩)] : Array Value) = #[.int .i64 (j : Int), .int .i64 (f : Int), .agg #[.int .i64 x.f0, .int .i64 x.f1], .agg #[.int .i64 (zy x.f1 0), .int .i64 (zy x.f1 1), .int .i64 (zy x.f1 2), .int .i64 (zy x.f1 3)], .pointer (some ⟨gs, 0, none⟩)] := rfl
  rw [e]
  exact Jj.calls w W gs (4 * l.length) s j f x.f0 x.f1 hI (by omega) (by omega) (by omega) (by omega) q4.2.1 q4.2.2 (by omega)
set_option maxHeartbeats 8000000 in
set_option maxRecDepth 100000 in
theorem zj.calls (A0_0 : Option Addr) (c0_0 : Nat) (l0_0 : List (List qC)) (r : List Int) (w : World) (hr0_0 : Kd.C (Kd.slice 75 ZQ) w A0_0 l0_0.length l0_0) (hc0_0 : l0_0.length ≤ c0_0) (h : zj.f l0_0 = some r) :
    Calls Try.prog 88 #[.agg #[.slice A0_0 l0_0.length c0_0]] w fun e w' => ∃ v0_ : Value, e = .returned (v0_) ∧ Kd.R (Kd.int .i64) 2 w' w.heap.size (fun _ => True) v0_ r ∧ Below w.heap.size w w' := by
  unfold zj.f at h
  by_cases hok : zDd l0_0 ∧ zCo (zAY l0_0) = true
  case neg => rw [if_neg hok] at h; cases h
  rw [if_pos hok] at h
  have hr := yey h
  subst hr
  have HOK := zA.mk hok
  have HR := zA.mk hr0_0
  have HC := zA.mk hc0_0
  have hl8 : l0_0.length ≤ 8 := hok.1.1
  have HCN := zA.mk (show qZ.f (4 * l0_0.length + 1) (4 * (l0_0.length : Int)) = some (Lib.ZP 0 (4 * l0_0.length)) from zCr (4 * l0_0.length) (by omega))
  have HNB := zA.mk (show QP.f (zAY l0_0) = some (Lib.zBk (zAY l0_0)) from if_pos hok.2)
  clear h hok hr0_0 hc0_0
  go_enter Try.func88, Try.ntmps88
  have BT := zA.mk (QS (W := w) rfl (.cells #[.slice A0_0 l0_0.length c0_0] 35))
  have HB := zA.mk (zC (yry w.heap.size w) (.cells #[.slice A0_0 l0_0.length c0_0] 35))
  go_wp2_with (first
    | (go_at_call 75; refine (qc.calls A0_0 c0_0 l0_0 (l0_0.length : Int) _ (Kd.qF HR.out HB.out) HC.out rfl).mono ?_; rintro e w2 ⟨rfl, hd⟩; have hb := qB.below hd; clear hd; have BT2 := zA.mk (zP BT.out hb); have HB2 := zA.mk (zM HB.out hb); clear BT HB hb; have hT2 : w2.cell? ⟨w.heap.size, 0, none⟩ = some (.slice A0_0 l0_0.length c0_0) := (zL BT2.out 0).trans rfl)
    | (go_at_call 98; refine (qZ.calls (4 * l0_0.length + 1) (4 * (l0_0.length : Int)) _ _ HCN.out).mono ?_; rintro e w3 ⟨v3, rfl, ho, hb⟩; obtain ⟨A3, c3, rfl⟩ := Kd.ZC ho; generalize (Lib.ZP 0 (4 * l0_0.length)).length = m3 at ho; have HB23 := zA.mk hb; have HV3 := zA.mk (Kd.zx (Kd.Zz ho) (ok' := fun k => k < w3.heap.size) (fun _ hk => hk.2.2.1)); have BT3 := zA.mk (zP BT2.out hb); clear BT2 ho hb hT2; have hT3 : w3.cell? ⟨w.heap.size, 0, none⟩ = some (.slice A0_0 l0_0.length c0_0) := (zL BT3.out 0).trans rfl; have hz3 : w.heap.size < w3.heap.size := qP BT3.out; have hzn : w.heap.size ≠ w3.heap.size := by omega)
    | (go_at_call 99; refine (zDb.calls 120 _ Try.func120 (by kernel_rfl) rfl #[.pointer (some ⟨w3.heap.size, 0, none⟩)] l0_0 A0_0 c0_0 w2 _ (zBq w2 w3.heap.size (4 * l0_0.length)) zAV (Lib.ZP 0 (4 * l0_0.length)) (fun _ => 0) (4 * (l0_0.map List.length).sum) (fun _ _ _ _ => Nat.zero_le _) (Nat.le_of_eq (Nat.zero_add _)) (fun _ _ _ h hb => h.stays hb) (fun _ _ h => h.below) (Kd.qF HR.out HB2.out) (fun r hr x hx hb => (HOK.out.1.2.2 r hr x hx hb).2) ?aS ?a0).mono ?_; (case aS => exact fun s W j f x hI hF hb _ => zG2 HOK.out.1 s W j f x hI hF hb); (case a0 => exact ⟨zC HB23.out _, ⟨_, QS rfl _, Kd.zx (Kd.zR HV3.out _) (fun _ _ => trivial)⟩, HB23.out.size, Lib.Ze _ _⟩); rintro e w4 ⟨rfl, hI⟩; have HI := zA.mk (show zBq w2 w3.heap.size (4 * l0_0.length) (zAY l0_0) w4 from hI); clear hI hT3 hz3 hzn HV3; obtain ⟨v4, hM, hE⟩ := HI.out.ex; obtain ⟨A4, c4, rfl⟩ := Kd.ZC hE; have hm4 : w4.cell? ⟨w3.heap.size, 0, none⟩ = some (.slice A4 (zAY l0_0).length c4) := (zL hM 0).trans rfl; have HRD := zA.mk (Kd.zr hE); have HB4 := zA.mk (zM HB2.out HI.out.below); clear hM hE)
    | (go_at_call 109; refine (QP.calls A4 c4 (zAY l0_0) _ _ HRD.out.2.2 HRD.out.2.1 HNB.out).mono ?_; rintro e w5 ⟨v5, rfl, ho, hb⟩; have HV5 := zA.mk (Kd.qx ho HB4.out.size); have HB5 := zA.mk (zM HB4.out hb); clear ho hb hm4))
  go_ret
  exact ⟨_, rfl, HV5.out, HB5.out⟩
def zb.l0 : Nat → Int → List (List Int) → List Int → Int → Int → Option ((List (List Int)))
  | 0, _, _, _, _, _ => none
  | k + 1, x1, x5, x9, x10, x11 => if x11 < x10 then (if 0 ≤ x11 then (if x11 < (x9.length : Int) then (if (rd x9 x11) = x1 then (if x5.length < 5864062014805 then (zb.l0 k x1 (x5 ++ [(([wrap64 (Int.tdiv x11 4), Int.tmod x11 4] : List Int))]) x9 x10 (wrap64 (x11 + 1))) else (none)) else (zb.l0 k x1 x5 x9 x10 (wrap64 (x11 + 1)))) else (none)) else (none)) else (some x5)
def zb.f (k : Nat) (l0_0 : List (List (qC))) (a1 : Int) : Option ((List (List Int))) := (zj.f l0_0).bind fun t102 => (zb.l0 k a1 ([] : List (List Int)) t102 (t102.length : Int) 0)
set_option maxHeartbeats 8000000 in
set_option maxRecDepth 100000 in
theorem zb.calls (k : Nat) (A0_0 : Option Addr) (c0_0 : Nat) (l0_0 : List (List (qC))) (a1 : Int) (r : List (List Int)) (w : World) (hr0_0 : Kd.C (Kd.slice 75 ZQ) w A0_0 l0_0.length l0_0) (hc0_0 : l0_0.length ≤ c0_0) (h : zb.f k l0_0 a1 = some r) :
    Calls Try.prog 51 #[.agg #[.slice A0_0 l0_0.length c0_0], .int .i64 a1] w fun e w' => ∃ v0_ : Value, e = .returned (v0_) ∧ Kd.S (Kd.slice 2 (Kd.int .i64)) 22 w' w.heap.size (fun _ => True) v0_ r ∧ Below w.heap.size w w' := by
  have hu35 := Try.underlying35
  have HR0_0 := zA.mk hr0_0
  have HC0_0 := zA.mk hc0_0
  clear hr0_0 hc0_0
  have HB := zA.mk (yry w.heap.size w)
  have H : ((zj.f l0_0).bind fun t102 => (zb.l0 k a1 ([] : List (List Int)) t102 (t102.length : Int) 0)) = some r := h
  clear h
  replace H := ydy.mp H
  obtain ⟨t102, A30, H⟩ := H
  replace H : (zb.l0 k a1 ([] : List (List Int)) t102 (t102.length : Int) 0) = some r := H
  have A3 := zA.mk A30
  clear A30
  have H' := zA.mk H
  clear H
  go_enter Try.func51, Try.ntmps51
  go_wp2_with (first | ((with_reducible refine zn (N := 2) rfl ?_); refine zp ?hg (N := 2) ?hd (cs := #[.slice A0_0 l0_0.length c0_0]) (t := 35) ?hr ?_; (case hd => rfl); (case hg => rfl); (case hr => first | (go_simp; done) | (go_simp; rfl)); intro gb101 hg w4 hbox hb; have n0_ := zA.mk (zM (by repeat (first | (with_reducible first | exact HB.out | apply zC | apply zB | apply zD) | exact HB.out)) hb); have n1_ := zA.mk (hbox); have n2_ := zA.mk ((by rw [hg]; exact (zO (by repeat (first | (with_reducible first | exact HB.out | apply zC | apply zB | apply zD) | exact HB.out))) : w.heap.size ≤ gb101)); have n3_ := zA.mk ((by rw [hg]; exact (zO (by repeat (first | (with_reducible first | exact HB.out | apply zC | apply zB | apply zD) | exact HB.out))) : w.heap.size ≤ gb101)); clear HB; have HB := n0_; have BK101 := n1_; have GW101 := n2_; have GE101 := n3_; clear n0_ n1_ n2_ n3_; clear hb hbox hg; have hcz5_0 : w4.cell? ⟨gb101, 0, none⟩ = some (.slice A0_0 l0_0.length c0_0) := (zL BK101.out 0).trans rfl; have hfz5_0 := zN BK101.out 0) | ((with_reducible refine zZ (f := 88) rfl ?_); refine qJ (some 9) rfl rfl Try.func88 (by kernel_rfl) rfl #[.agg #[.slice A0_0 l0_0.length c0_0]] rfl (by (try simp only [yiy, yjy, yky]); first | done | rfl | (simp only [yly, ymy]; rfl)) ?_; (with_reducible refine (zj.calls _ _ l0_0 t102 _ ?side1 ?side2 A3.out).mono ?_); (case side1 => repeat (first | exact (Kd.qF HR0_0.out HB.out) | (with_reducible refine Kd.zu ?_ _) | (with_reducible refine Kd.zv ?_ _) | (with_reducible refine Kd.qI ?_))); (case side2 => exact HC0_0.out); rintro e w6 ⟨v103, rfl, ho0, hb⟩; refine ⟨_, rfl, ?_⟩; have n0_ := zA.mk (Kd.qx ho0 (zO (by repeat (first | (with_reducible first | exact HB.out | apply zC | apply zB | apply zD | refine zF ?_ GE101.out) | exact HB.out)))); have n1_ := zA.mk (zP (g := gb101) (o := .cells #[.slice A0_0 l0_0.length c0_0] 35 (0, 0)) (by (with_reducible repeat (first | refine zH ?_ _ | refine zJ ?_ | refine zG ?_ _)); exact BK101.out) hb); have n2_ := zA.mk (zM (by repeat (first | (with_reducible first | exact HB.out | apply zC | apply zB | apply zD | refine zF ?_ GE101.out) | exact HB.out)) hb); clear BK101; clear HB; have HO104 := n0_; have BK101 := n1_; have HB := n2_; clear n0_ n1_ n2_; (try clear hb); (try clear hb2); (try clear hk); (try clear hi); (try clear ho0); obtain ⟨Ao7, co7, eo7⟩ := Kd.ZC HO104.out; subst eo7))
  go_loopg [5, 11] k (fun kq v5 v11 w' => ∃ (x5_1 : List (List Int)) (x11_1 : Int), v11 = .int .i64 x11_1 ∧ zA (zb.l0 kq a1 x5_1 t102 (t102.length : Int) x11_1 = some r) ∧ zA (kq ≤ k) ∧ zA (Kd.S (Kd.slice 2 (Kd.int .i64)) 22 w' w.heap.size (fun k_ => some k_ ≠ ((.slice Ao7 t102.length co7) : Value).ownBlock) v5 x5_1) ∧ zA (Kd.R (Kd.int .i64) 2 w' w.heap.size (fun _ => True) (.slice Ao7 t102.length co7) t102) ∧ zA (w'.heap[gb101]? = some (.cells #[(.slice A0_0 l0_0.length c0_0)] 35 (0, 0))) ∧ zA (Below w.heap.size w w'))
  case atStart => exact ⟨(([] : List (List Int))), (0), (by first | rfl | (simp; done) | (simp [*]; done)), H', ⟨yqy _⟩, ⟨by first | exact Kd.zFB _ _ _ _ _ | exact Kd.zFE _ _ _ _ _ | exact Kd.zFH _ _ _ _ _ | exact Kd.zF6 _ _ _ _ _ | exact Kd.zBa _ _ _ _ _⟩, ⟨by (with_reducible repeat (first | apply Kd.zR | apply Kd.zS | apply Kd.zV)); exact HO104.out⟩, ⟨by (with_reducible repeat (first | refine zH ?_ _ | refine zJ ?_ | refine zG ?_ _)); exact BK101.out⟩, ⟨by repeat (first | (with_reducible first | exact HB.out | apply zC | apply zB | apply zD | refine zF ?_ GE101.out) | exact HB.out)⟩⟩
  case round =>
    clear H'
    try clear p2
    try clear c5
    try clear hcz5_0
    try clear hfz5_0
    obtain ⟨x5_1, x11_1, rfl, HA, HK1, HO_5, HO_9, BK101, HB⟩ := hrel
    cases gk with
    | zero => exact absurd HA.out (by simp [zb.l0])
    | succ k1 =>
      have H := HA.out
      clear HA
      simp only [zb.l0] at H
      by_cases c8 : x11_1 < (t102.length : Int)
      · rw [if_pos c8] at H
        have c8b0 : decide (x11_1 < (t102.length : Int)) = true := ygy c8
        clear c8
        by_cases c9 : 0 ≤ x11_1
        · rw [if_pos c9] at H
          have c9b0 : decide (0 ≤ x11_1) = true := ygy c9
          clear c9
          by_cases c10 : x11_1 < (t102.length : Int)
          · rw [if_pos c10] at H
            have c10b0 : decide (x11_1 < (t102.length : Int)) = true := ygy c10
            clear c10
            by_cases c11 : (rd t102 x11_1) = a1
            · rw [if_pos c11] at H
              have c11b0 : ((rd t102 x11_1) == a1) = true := beq_iff_eq.mpr c11
              have c11b1 : ((rd t102 x11_1) != a1) = false := bne_eq_false_iff_eq.mpr c11
              clear c11
              obtain ⟨y106, hy106⟩ : ∃ y_ : List Int, y_ = (([wrap64 (Int.tdiv x11_1 4), Int.tmod x11_1 4] : List Int)) := ⟨_, rfl⟩
              replace H : (if x5_1.length < 5864062014805 then (zb.l0 k1 a1 (x5_1 ++ [y106]) t102 (t102.length : Int) (wrap64 (x11_1 + 1))) else (none)) = some r := by first | (rw [hy106]; with_reducible exact H) | (have H2_ := (yfy _ _).symm.trans H; rw [hy106]; with_reducible exact H2_) | (have H2_ := (yfy _ _).symm.trans H; with_reducible exact H2_) | with_reducible exact H | (rw [hy106]; exact H) | exact H
              have Ny106 := zA.mk hy106
              clear hy106
              by_cases c12 : x5_1.length < 5864062014805
              · rw [if_pos c12] at H
                have LMc12 := zA.mk c12
                clear c12
                obtain ⟨y109, hy109⟩ : ∃ y_ : List (List Int), y_ = (x5_1 ++ [y106]) := ⟨_, rfl⟩
                replace H : (zb.l0 k1 a1 y109 t102 (t102.length : Int) (wrap64 (x11_1 + 1))) = some r := by first | (rw [hy109]; with_reducible exact H) | (have H2_ := (yfy _ _).symm.trans H; rw [hy109]; with_reducible exact H2_) | (have H2_ := (yfy _ _).symm.trans H; with_reducible exact H2_) | with_reducible exact H | (rw [hy109]; exact H) | exact H
                have Ny109 := zA.mk hy109
                clear hy109
                have H' := zA.mk H
                clear H
                have p105 : 0 ≤ (x11_1 : Int) := of_decide_eq_true (by first | (with_reducible assumption) | assumption)
                have q105 : x11_1 < (t102.length : Int) := of_decide_eq_true (by first | (with_reducible assumption) | assumption)
                obtain ⟨ad105, e105, hx105_0⟩ := Kd.ZA (Kd.zr HO_9.out).2.2 x11_1 p105 q105
                cases e105
                replace p105 := eq_true p105
                replace q105 := eq_true q105
                go_wp2_with (first | ((with_reducible refine zn (N := 24) rfl ?_); refine Kd.zAi (Kd.int .i64) _ 2 ?hg (N := 24) ?hd (xs := ([wrap64 (Int.tdiv x11_1 4), Int.tmod x11_1 4] : List Int)) (inner := [.int .i64 (wrap64 (Int.tdiv x11_1 4)), .int .i64 (Int.tmod x11_1 4)]) (ok := fun _ => True) (okp := fun _ => True) ?hr ?hp (fun _ hk => hk) trivial (yry _ _) (yqy _) (by simp) ?_; (case hd => rfl); (case hg => rfl); (case hr => first | (go_simp; done) | (go_simp; rfl)); (case hp => exact (Zu.one (show Kd.M (Kd.int .i64) _ _ _ (wrap64 (Int.tdiv x11_1 4)) [.int .i64 (wrap64 (Int.tdiv x11_1 4))] from rfl) (Zu.one (show Kd.M (Kd.int .i64) _ _ _ (Int.tmod x11_1 4) [.int .i64 (Int.tmod x11_1 4)] from rfl) (Zu.none _ _)))); intro v107 w13 ho14 hb hg_ hnew_; clear hg_ hnew_; (first | rw [← Ny106.out] at ho14 | (simp only [Int.reduceToNat] at ho14; rw [← Ny106.out] at ho14)); have n0_ := zA.mk (Kd.ZU (by (with_reducible repeat (first | apply Kd.ze | apply Kd.zf | apply Kd.zm)); exact HO_5.out) (Kd.Zg ho14) hb); have n1_ := zA.mk (Kd.ZT (by (with_reducible repeat (first | apply Kd.zR | apply Kd.zS | apply Kd.zV)); exact HO_9.out) (Kd.Zg ho14) hb); have n2_ := zA.mk (Kd.qx (Kd.Qe ho14 (Kd.Qs (by (with_reducible repeat (first | apply Kd.zR | apply Kd.zS | apply Kd.zV)); exact HO_9.out))) (zO (by repeat (first | (with_reducible first | exact HB.out | apply zC | apply zB | apply zD | refine zF ?_ GE101.out) | exact HB.out)))); have n3_ := zA.mk (zP (g := gb101) (o := .cells #[.slice A0_0 l0_0.length c0_0] 35 (0, 0)) (by (with_reducible repeat (first | refine zH ?_ _ | refine zJ ?_ | refine zG ?_ _)); exact BK101.out) hb); have n4_ := zA.mk (zM (by repeat (first | (with_reducible first | exact HB.out | apply zC | apply zB | apply zD | refine zF ?_ GE101.out) | exact HB.out)) hb); clear HO_5; clear HO_9; clear BK101; clear HB; have HO_5 := n0_; have HO_9 := n1_; have HO108 := n2_; have BK101 := n3_; have HB := n4_; clear n0_ n1_ n2_ n3_ n4_; clear hb ho14; obtain ⟨Ao16, co16, eo16⟩ := Kd.ZC HO108.out; subst eo16) | ((with_reducible refine ZI (b := .append) (xs := #[.tmp 19, .tmp 25]) rfl ?_); at_builtin; refine Kd.zBf (Kd.slice 2 (Kd.int .i64)) (w0 := w) w.heap.size rfl (.tmp 19) (.tmp 25) 30 22 (.slice none 0 0) 24 rfl Try.underlying30 zEI rfl (by decide) (by omega) u5 x5_1 y106 [.slice Ao16 y106.length co16] (fun k_ => some k_ ≠ (.slice (some ad105) t102.length co7 : Value).ownBlock) (fun k_ => some k_ = (.slice Ao16 y106.length co16 : Value).ownBlock) rfl rfl ?aP (fun k_ hk_ => ((Kd.zx (ok' := fun k_ => ((fun k_ => some k_ ≠ (.slice (some ad105) t102.length co7 : Value).ownBlock)) k_ ∧ some k_ ≠ (u5 : Value).ownBlock) (Kd.Zx (HO108.out) (Kd.QH HO_5.out) (by decide)) (fun k_ hk => ⟨hk.1.2, hk.2⟩))).1 k_ hk_.symm) ?aF ?aO ?aB ?aS ?aL ?_; (case aP => exact Kd.zF2 (Kd.zx (Kd.JB rfl (Kd.zx (ok' := fun k_ => ((fun k_ => some k_ ≠ (.slice (some ad105) t102.length co7 : Value).ownBlock)) k_ ∧ some k_ ≠ (u5 : Value).ownBlock) (Kd.Zx (HO108.out) (Kd.QH HO_5.out) (by decide)) (fun k_ hk => ⟨hk.1.2, hk.2⟩))) (fun _ h_ => h_))); (case aB => exact (by repeat (first | (with_reducible first | exact HB.out | apply zC | apply zB | apply zD | refine zF ?_ GE101.out) | exact HB.out))); (case aF => exact (fun k_ hk => Kd.Qf (Kd.Qs (by (with_reducible repeat (first | apply Kd.zR | apply Kd.zS | apply Kd.zV)); exact HO_9.out)) k_ hk)); (case aO => exact (by (with_reducible repeat (first | apply Kd.ze | apply Kd.zf | apply Kd.zm)); exact Kd.qj HO_5.out (fun k_ hk => ⟨hk.1, fun e_ => hk.2 e_⟩))); (case aS => exact (zO (by repeat (first | (with_reducible first | exact HB.out | apply zC | apply zB | apply zD | refine zF ?_ GE101.out) | exact HB.out)))); (case aL => have := LMc12.out; omega); intro v110 w15 ho hb hg hat; rw [← Ny109.out] at ho; have n0_ := zA.mk (Kd.zE7 (by (with_reducible repeat (first | apply Kd.zR | apply Kd.zS | apply Kd.zV)); exact HO_9.out) (Kd.QH (by (with_reducible repeat (first | apply Kd.ze | apply Kd.zf | apply Kd.zm)); exact HO_5.out)) (by decide) hg); have n1_ := zA.mk (ql (g := gb101) (o := .cells #[.slice A0_0 l0_0.length c0_0] 35 (0, 0)) (by (with_reducible repeat (first | refine zH ?_ _ | refine zJ ?_ | refine zG ?_ _)); exact BK101.out) hg (Kd.S_ne HO_5.out BK101.out (by decide))); have n2_ := zA.mk (hb); have n3_ := zA.mk (ho); clear HO_9; clear BK101; clear HB; clear HO_5; clear HO108; have HO_9 := n0_; have BK101 := n1_; have HB := n2_; have HO111 := n3_; clear n0_ n1_ n2_ n3_; clear ho hb hg hat))
                go_roundg k1
                case measure => have := HK1.out; omega
                case rel => exact ⟨(y109), (wrap64 (x11_1 + 1)), (by first | rfl | (simp; done) | (simp [*]; done)), H', ⟨by have := HK1.out; omega⟩, ⟨by (with_reducible repeat (first | apply Kd.ze | apply Kd.zf | apply Kd.zm)); exact HO111.out⟩, ⟨by (with_reducible repeat (first | apply Kd.zR | apply Kd.zS | apply Kd.zV)); exact Kd.zx HO_9.out (fun _ hk => trivial)⟩, ⟨by (with_reducible repeat (first | refine zH ?_ _ | refine zJ ?_ | refine zG ?_ _)); exact BK101.out⟩, ⟨by repeat (first | (with_reducible first | exact HB.out | apply zC | apply zB | apply zD | refine zF ?_ GE101.out) | exact HB.out)⟩⟩
              · rw [if_neg c12] at H
                exact absurd H (by simp)
            · rw [if_neg c11] at H
              have c11b0 : ((rd t102 x11_1) == a1) = false := beq_eq_false_iff_ne.mpr c11
              have c11b1 : ((rd t102 x11_1) != a1) = true := bne_iff_ne.mpr c11
              have H' := zA.mk H
              clear H
              have p105 : 0 ≤ (x11_1 : Int) := of_decide_eq_true (by first | (with_reducible assumption) | assumption)
              have q105 : x11_1 < (t102.length : Int) := of_decide_eq_true (by first | (with_reducible assumption) | assumption)
              obtain ⟨ad105, e105, hx105_0⟩ := Kd.ZA (Kd.zr HO_9.out).2.2 x11_1 p105 q105
              cases e105
              replace p105 := eq_true p105
              replace q105 := eq_true q105
              go_wp2
              go_roundg k1
              case measure => have := HK1.out; omega
              case rel => exact ⟨(x5_1), (wrap64 (x11_1 + 1)), (by first | rfl | (simp; done) | (simp [*]; done)), H', ⟨by have := HK1.out; omega⟩, ⟨by (with_reducible repeat (first | apply Kd.ze | apply Kd.zf | apply Kd.zm)); exact HO_5.out⟩, ⟨by (with_reducible repeat (first | apply Kd.zR | apply Kd.zS | apply Kd.zV)); exact HO_9.out⟩, ⟨by (with_reducible repeat (first | refine zH ?_ _ | refine zJ ?_ | refine zG ?_ _)); exact BK101.out⟩, ⟨by repeat (first | (with_reducible first | exact HB.out | apply zC | apply zB | apply zD | refine zF ?_ GE101.out) | exact HB.out)⟩⟩
          · rw [if_neg c10] at H
            exact absurd H (by simp)
        · rw [if_neg c9] at H
          exact absurd H (by simp)
      · rw [if_neg c8] at H
        have c8b0 : decide (x11_1 < (t102.length : Int)) = false := yhy c8
        clear c8
        obtain rfl := yey H
        go_wp2
        go_ret
        exact ⟨_, by first | rfl | (simp [zW, zX] <;> rfl) | (simp [*, zW, zX] <;> rfl), by (with_reducible repeat (first | apply Kd.ze | apply Kd.zf | apply Kd.zm)); exact Kd.qj HO_5.out (fun _ hk => trivial), by repeat (first | (with_reducible first | exact HB.out | apply zC | apply zB | apply zD | refine zF ?_ GE101.out) | exact HB.out)⟩
def ZG (p : List Int → Bool) : Nat → List (List Int) → Int
  | _, [] => -1
  | i, x :: xs => if p x = true then (i : Int) else ZG p (i + 1) xs
theorem JJ (p : List Int → Bool) : ∀ (l : List (List Int)) (i : Nat), decide (0 ≤ ZG p i l) = l.any p
  | [], _ => rfl
  | x :: xs, i => by
    rw [ZG, List.any_cons, ← JJ p xs (i + 1)]
    cases p x with
    | true => rw [if_pos rfl]; simp
    | false => rw [if_neg (by simp)]; simp
set_option maxHeartbeats 8000000 in
set_option maxRecDepth 100000 in
theorem Qp.calls (p : List Int → Bool) (k1_ : Value) (A0 : Option Addr) (c0 : Nat) (l0 : List (List Int)) (w : World) (hr0 : Kd.C (Kd.slice 2 (Kd.int .i64)) w A0 l0.length l0)
    (hp : ∀ (W : World) (x : List Int) (A1 : Option Addr) (c1 : Nat), x ∈ l0 → Below w.heap.size w W → Kd.C (Kd.int .i64) W A1 x.length x → x.length ≤ c1 → Calls Try.prog 94 #[.slice A1 x.length c1, k1_] W fun e W' => e = .returned (.bool (p x)) ∧ Below W.heap.size W W') :
    Calls Try.prog 111 #[.slice A0 l0.length c0, .func (.func 94) #[] #[k1_]] w fun e w' => e = .returned (.int .i64 (ZG p 0 l0)) ∧ Below w.heap.size w w' := by
  have HR0 := zA.mk hr0
  have HP := zA.mk hp
  clear hr0 hp
  have hbig : l0.length ≤ 9223372036854775807 := HR0.out.2.1
  have HB := zA.mk (yry w.heap.size w)
  have H' : zA (ZG p 0 (l0.drop 0) = ZG p 0 l0) := ⟨by rw [List.drop_zero]⟩
  generalize ZG p 0 l0 = r at H' ⊢
  go_enter Try.func111, Try.ntmps111
  go_wp2
  go_loopg [5, 8] l0.length (fun gg v5 v8 w' => ∃ kk : Nat, kk ≤ l0.length ∧ l0.length - kk ≤ gg ∧ v8 = .int .i64 kk ∧ zA (ZG p kk (l0.drop kk) = r) ∧ zA (Below w.heap.size w w'))
  case atStart => exact ⟨0, Nat.zero_le _, by omega, rfl, H', HB⟩
  case round =>
    clear H' HB
    obtain ⟨kk, hkk, hg, rfl, HA, HB⟩ := hrel
    by_cases hlt : kk < l0.length
    · have hltz : (kk : Int) < (l0.length : Int) := by omega
      have H := HA.out
      clear HA
      rw [yoy hlt, ZG] at H
      obtain ⟨ad, A1, c1, e104, hx, hl1, hi1⟩ := zBi HR0.out (kk : Int) (by omega) (by omega)
      have ex : qo l0 (kk : Int) = l0[kk] := by simp [qo, hlt]
      rw [ex] at hx hl1 hi1
      rw [yny] at hx
      replace hx := (HB.out.cell (ypy w _ hx)).trans hx
      replace hi1 := Kd.qF hi1 HB.out
      have HC := zA.mk (HP.out wr l0[kk] A1 c1 (List.getElem_mem hlt) HB.out hi1 hl1)
      generalize l0[kk] = y at hx H HC
      clear ex hl1 hi1
      cases e104
      cases hq : p y with
      | true =>
        rw [hq] at HC H
        rw [if_pos rfl] at H
        have H2 := zA.mk H
        clear H
        go_wp2_with fail
        refine HC.out.mono ?_
        rintro e w' ⟨rfl, hd⟩
        have HB2 := zA.mk (zM HB.out hd)
        clear hd HB HC
        go_wp2
        go_ret
        exact ⟨by rw [← H2.out]; rfl, HB2.out⟩
      | false =>
        rw [hq] at HC H
        rw [if_neg (by simp)] at H
        have H2 := zA.mk H
        clear H
        go_wp2_with fail
        refine HC.out.mono ?_
        rintro e w' ⟨rfl, hd⟩
        have HB2 := zA.mk (zM HB.out hd)
        clear hd HB HC
        go_wp2
        go_roundg (l0.length - (kk + 1))
        case measure => omega
        case rel => exact ⟨kk + 1, by omega, by omega, by go_num, H2, HB2⟩
    · have hltz : ¬ (kk : Int) < (l0.length : Int) := by omega
      have e : kk = l0.length := by omega
      subst e
      have H2 := zA.mk (show (-1 : Int) = r by have := HA.out; rwa [List.drop_length, ZG] at this)
      clear HA
      go_wp2
      go_ret
      exact ⟨by rw [← H2.out]; rfl, HB.out⟩
set_option maxHeartbeats 8000000 in
set_option maxRecDepth 100000 in
theorem Qb.calls (p : List Int → Bool) (k1_ : Value) (A0 : Option Addr) (c0 : Nat) (l0 : List (List Int)) (w : World) (hr0 : Kd.C (Kd.slice 2 (Kd.int .i64)) w A0 l0.length l0)
    (hp : ∀ (W : World) (x : List Int) (A1 : Option Addr) (c1 : Nat), x ∈ l0 → Below w.heap.size w W → Kd.C (Kd.int .i64) W A1 x.length x → x.length ≤ c1 → Calls Try.prog 94 #[.slice A1 x.length c1, k1_] W fun e W' => e = .returned (.bool (p x)) ∧ Below W.heap.size W W') :
    Calls Try.prog 68 #[.slice A0 l0.length c0, .func (.func 94) #[] #[k1_]] w fun e w' => e = .returned (.bool (l0.any p)) ∧ Below w.heap.size w w' := by
  have HR0 := zA.mk hr0
  have HP := zA.mk hp
  have HA := zA.mk (JJ p l0 0)
  clear hr0 hp
  generalize l0.any p = b at HA ⊢
  go_enter Try.func68, Try.ntmps68
  go_wp2_with fail
  refine (Qp.calls p k1_ A0 c0 l0 w HR0.out HP.out).mono ?_
  rintro e w' ⟨rfl, hd⟩
  have HB := zA.mk hd
  generalize ZG p 0 l0 = q at HA
  clear hd
  go_wp2
  go_ret
  exact ⟨by rw [← HA.out]; rfl, HB.out⟩
def qy (p : Int → Bool) : Nat → List (Int) → Int
  | _, [] => -1
  | i, x :: xs => if p x = true then (i : Int) else qy p (i + 1) xs
theorem Qy (p : Int → Bool) : ∀ (l : List (Int)) (i : Nat), decide (0 ≤ qy p i l) = l.any p
  | [], _ => rfl
  | x :: xs, i => by
    rw [qy, List.any_cons, ← Qy p xs (i + 1)]
    cases p x with
    | true => rw [if_pos rfl]; simp
    | false => rw [if_neg (by simp)]; simp
set_option maxHeartbeats 8000000 in
set_option maxRecDepth 100000 in
theorem Qi.calls (p : Int → Bool) (k1_ k2_ : Value) (A0 : Option Addr) (c0 : Nat) (l0 : List (Int)) (w : World) (hr0 : Kd.C (Kd.int .i64) w A0 l0.length l0)
    (hp : ∀ (W : World) (x : Int), x ∈ l0 → Below w.heap.size w W → Calls Try.prog 97 #[.int .i64 x, k1_, k2_] W fun e W' => e = .returned (.bool (p x)) ∧ Below W.heap.size W W') :
    Calls Try.prog 122 #[.slice A0 l0.length c0, .func (.func 97) #[] #[k1_, k2_]] w fun e w' => e = .returned (.int .i64 (qy p 0 l0)) ∧ Below w.heap.size w w' := by
  have HR0 := zA.mk hr0
  have HP := zA.mk hp
  clear hr0 hp
  have hbig : l0.length ≤ 9223372036854775807 := HR0.out.2.1
  have HB := zA.mk (yry w.heap.size w)
  have H' : zA (qy p 0 (l0.drop 0) = qy p 0 l0) := ⟨by rw [List.drop_zero]⟩
  generalize qy p 0 l0 = r at H' ⊢
  go_enter Try.func122, Try.ntmps122
  go_wp2
  go_loopg [5, 8] l0.length (fun gg v5 v8 w' => ∃ kk : Nat, kk ≤ l0.length ∧ l0.length - kk ≤ gg ∧ v8 = .int .i64 kk ∧ zA (qy p kk (l0.drop kk) = r) ∧ zA (Below w.heap.size w w'))
  case atStart => exact ⟨0, Nat.zero_le _, by omega, rfl, H', HB⟩
  case round =>
    clear H' HB
    obtain ⟨kk, hkk, hg, rfl, HA, HB⟩ := hrel
    by_cases hlt : kk < l0.length
    · have hltz : (kk : Int) < (l0.length : Int) := by omega
      have H := HA.out
      clear HA
      rw [yoy hlt, qy] at H
      obtain ⟨ad, e104, hx⟩ := Kd.ZA HR0.out (kk : Int) (by omega) (by omega)
      have ex : rd l0 (kk : Int) = l0[kk] := by simp [rd, hlt]
      rw [ex, yny] at hx
      replace hx := (HB.out.cell (ypy w _ hx)).trans hx
      have HC := zA.mk (HP.out wr l0[kk] (List.getElem_mem hlt) HB.out)
      generalize l0[kk] = y at hx H HC
      clear ex
      cases e104
      cases hq : p y with
      | true =>
        rw [hq] at HC H
        rw [if_pos rfl] at H
        have H2 := zA.mk H
        clear H
        go_wp2_with fail
        refine HC.out.mono ?_
        rintro e w' ⟨rfl, hd⟩
        have HB2 := zA.mk (zM HB.out hd)
        clear hd HB HC
        go_wp2
        go_ret
        exact ⟨by rw [← H2.out]; rfl, HB2.out⟩
      | false =>
        rw [hq] at HC H
        rw [if_neg (by simp)] at H
        have H2 := zA.mk H
        clear H
        go_wp2_with fail
        refine HC.out.mono ?_
        rintro e w' ⟨rfl, hd⟩
        have HB2 := zA.mk (zM HB.out hd)
        clear hd HB HC
        go_wp2
        go_roundg (l0.length - (kk + 1))
        case measure => omega
        case rel => exact ⟨kk + 1, by omega, by omega, by go_num, H2, HB2⟩
    · have hltz : ¬ (kk : Int) < (l0.length : Int) := by omega
      have e : kk = l0.length := by omega
      subst e
      have H2 := zA.mk (show (-1 : Int) = r by have := HA.out; rwa [List.drop_length, qy] at this)
      clear HA
      go_wp2
      go_ret
      exact ⟨by rw [← H2.out]; rfl, HB.out⟩
set_option maxHeartbeats 8000000 in
set_option maxRecDepth 100000 in
theorem QU.calls (p : Int → Bool) (k1_ k2_ : Value) (A0 : Option Addr) (c0 : Nat) (l0 : List (Int)) (w : World) (hr0 : Kd.C (Kd.int .i64) w A0 l0.length l0)
    (hp : ∀ (W : World) (x : Int), x ∈ l0 → Below w.heap.size w W → Calls Try.prog 97 #[.int .i64 x, k1_, k2_] W fun e W' => e = .returned (.bool (p x)) ∧ Below W.heap.size W W') :
    Calls Try.prog 95 #[.slice A0 l0.length c0, .func (.func 97) #[] #[k1_, k2_]] w fun e w' => e = .returned (.bool (l0.any p)) ∧ Below w.heap.size w w' := by
  have HR0 := zA.mk hr0
  have HP := zA.mk hp
  have HA := zA.mk (Qy p l0 0)
  clear hr0 hp
  generalize l0.any p = b at HA ⊢
  go_enter Try.func95, Try.ntmps95
  go_wp2_with fail
  refine (Qi.calls p k1_ k2_ A0 c0 l0 w HR0.out HP.out).mono ?_
  rintro e w' ⟨rfl, hd⟩
  have HB := zA.mk hd
  generalize qy p 0 l0 = q at HA
  clear hd
  go_wp2
  go_ret
  exact ⟨by rw [← HA.out]; rfl, HB.out⟩
def zDf (t : List (List qC)) (x : List Int) (f : Int) : Bool := decide ((zI (zE t (rd x 0)) f).f0 < 0)
set_option maxHeartbeats 8000000 in
set_option maxRecDepth 100000 in
theorem Jk.calls (gb gx : Nat) (A0 : Option Addr) (c0 : Nat) (t : List (List qC)) (A1 : Option Addr) (c1 : Nat) (x : List Int) (f : Int) (w : World) (hb : w.heap[gb]? = some (.cells #[.slice A0 t.length c0] 35 (0, 0))) (hx : w.heap[gx]? = some (.cells #[.slice A1 x.length c1] 22 (0, 0)))
    (hr0 : Kd.C (Kd.slice 75 ZQ) w A0 t.length t) (hr1 : Kd.C (Kd.int .i64) w A1 x.length x) (h2 : 0 < x.length) (g0 : 0 ≤ rd x 0) (g1 : rd x 0 < (t.length : Int)) (g3 : 0 ≤ f) (g4 : f < ((zE t (rd x 0)).length : Int)) :
    Calls Try.prog 97 #[.int .i64 f, .pointer (some ⟨gb, 0, none⟩), .pointer (some ⟨gx, 0, none⟩)] w fun e w' => e = .returned (.bool (zDf t x f)) ∧ Below w.heap.size w w' := by
  have hcb : w.cell? ⟨gb, 0, none⟩ = some (.slice A0 t.length c0) := (zL hb 0).trans rfl
  have hcx : w.cell? ⟨gx, 0, none⟩ = some (.slice A1 x.length c1) := (zL hx 0).trans rfl
  obtain ⟨ad0, q0, hx0⟩ := Kd.ZA hr1 0 (by omega) (by omega)
  cases q0
  obtain ⟨ay, A3, c3, e4, hy, hl3, hi3⟩ := ZL hr0 (rd x 0) g0 g1
  subst e4
  obtain ⟨az, e5, hz0, hz⟩ := Zp hi3 f g3 g4
  subst e5
  have hx00 : w.cell? ad0 = some (.int .i64 (rd x 0)) := hx0
  have p0 := eq_true (show (0 : Int) < (x.length : Int) by omega)
  have p0n := eq_true h2
  have p1 := eq_true g0
  have p2 := eq_true g1
  have p3 := eq_true g3
  have p4 := eq_true g4
  unfold zDf
  clear hx0 hb hx hr0 hr1 h2 g0 g1 g3 g4 hl3 hi3
  generalize (zI (zE t (rd x 0)) f).f0 = z0 at hz0 ⊢
  generalize (zI (zE t (rd x 0)) f).f1 = z1 at hz
  generalize (zE t (rd x 0)).length = rl at hy p4
  generalize rd x 0 = x0 at *
  have HQ := zA.mk (show qh.f z0 z1 = some (decide (z0 < 0)) by unfold qh.f; rfl)
  generalize decide (z0 < 0) = q at HQ ⊢
  have HB := zA.mk (zD (yry w.heap.size w))
  go_enter Try.func97, Try.ntmps97
  go_wp2
  refine QG (n := 12) (S := fun w' => w'.cell? ⟨gb, 0, none⟩ = some (.slice (some ay) t.length c0) ∧ w'.cell? ⟨gx, 0, none⟩ = some (.slice (some ad0) x.length c1) ∧ w'.cell? ad0 = some (.int .i64 x0) ∧ w'.cell? (ay.add x0.toNat) = some (.slice (some az) rl c3) ∧ w'.cell? (az.add (f.toNat * 2)) = some (.int .i64 z0) ∧ w'.cell? ⟨(az.add (f.toNat * 2)).block, (az.add (f.toNat * 2)).off + 1, none⟩ = some (.int .i64 z1)) (ds := []) #[false, false, false, false, false, false, false, false, false, false, false, false] (by kernel_rfl) rfl rfl ⟨hcb, hcx, hx00, hy, hz0, hz⟩ (fun hHeld => ?_)
  replace hcb : w.drew.cell? ⟨gb, 0, none⟩ = some (.slice (some ay) t.length c0) := hcb
  replace hcx : w.drew.cell? ⟨gx, 0, none⟩ = some (.slice (some ad0) x.length c1) := hcx
  replace hx00 : w.drew.cell? ad0 = some (.int .i64 x0) := hx00
  replace hy : w.drew.cell? (ay.add x0.toNat) = some (.slice (some az) rl c3) := hy
  replace hz0 : w.drew.cell? (az.add (f.toNat * 2)) = some (.int .i64 z0) := hz0
  replace hz : w.drew.cell? ⟨(az.add (f.toNat * 2)).block, (az.add (f.toNat * 2)).off + 1, none⟩ = some (.int .i64 z1) := hz
  generalize w.drew = w5 at HB hcb hcx hx00 hy hz0 hz hHeld ⊢
  refine zq (i := 0) (N := some 5) (v := ?_) (a' := ?_) #[true, false, false, false, false, false, false, false, false, false, false, false] rfl rfl (by kernel_rfl) (fun _ _ _ h => h) (Or.inl ⟨by rfl, ?_⟩) ?_ ?_
  rotate_left
  · intro w'
    go_simp
    with_reducible rfl
  rotate_left
  · simp only [Act.put, yay, yby, ycy, za, zc]
    rfl
  refine ZO (i := 1) (N := some 6) (v := ?_) (a' := ?_) #[true, true, false, false, false, false, false, false, false, false, false, false] rfl rfl (by kernel_rfl) (fun _ _ _ h => h) (Or.inl ⟨by rfl, ?_⟩) hHeld ?_ ?_
  rotate_left
  · rintro w' ⟨s0, s1, s2, s3, s4, s5⟩
    go_simp
    with_reducible rfl
  rotate_left
  · simp only [Act.put, yay, yby, ycy, za, zc]
    rfl
  refine ZO (i := 2) (N := some 7) (v := ?_) (a' := ?_) #[true, true, true, false, false, false, false, false, false, false, false, false] rfl rfl (by kernel_rfl) (fun _ _ _ h => h) (Or.inl ⟨by rfl, ?_⟩) hHeld ?_ ?_
  rotate_left
  · rintro w' ⟨s0, s1, s2, s3, s4, s5⟩
    go_simp
    with_reducible rfl
  rotate_left
  · simp only [Act.put, yay, yby, ycy, za, zc]
    rfl
  refine zq (i := 3) (N := some 8) (v := ?_) (a' := ?_) #[true, true, true, true, false, false, false, false, false, false, false, false] rfl rfl (by kernel_rfl) (fun _ _ _ h => h) (Or.inl ⟨by rfl, ?_⟩) ?_ ?_
  rotate_left
  · intro w'
    go_simp
    with_reducible rfl
  rotate_left
  · simp only [Act.put, yay, yby, ycy, za, zc]
    rfl
  refine ZO (i := 4) (N := some 9) (v := ?_) (a' := ?_) #[true, true, true, true, true, false, false, false, false, false, false, false] rfl rfl (by kernel_rfl) (fun _ _ _ h => h) (Or.inl ⟨by rfl, ?_⟩) hHeld ?_ ?_
  rotate_left
  · rintro w' ⟨s0, s1, s2, s3, s4, s5⟩
    go_simp
    with_reducible rfl
  rotate_left
  · simp only [Act.put, yay, yby, ycy, za, zc]
    rfl
  refine zq (i := 5) (N := some 10) (v := ?_) (a' := ?_) #[true, true, true, true, true, true, false, false, false, false, false, false] rfl rfl (by kernel_rfl) (fun _ _ _ h => h) (Or.inl ⟨by rfl, ?_⟩) ?_ ?_
  rotate_left
  · intro w'
    go_simp
    with_reducible rfl
  rotate_left
  · simp only [Act.put, yay, yby, ycy, za, zc]
    rfl
  refine ZO (i := 6) (N := some 11) (v := ?_) (a' := ?_) #[true, true, true, true, true, true, true, false, false, false, false, false] rfl rfl (by kernel_rfl) (fun _ _ _ h => h) (Or.inl ⟨by rfl, ?_⟩) hHeld ?_ ?_
  rotate_left
  · rintro w' ⟨s0, s1, s2, s3, s4, s5⟩
    go_simp
    with_reducible rfl
  rotate_left
  · simp only [Act.put, yay, yby, ycy, za, zc]
    rfl
  refine zq (i := 7) (N := some 12) (v := ?_) (a' := ?_) #[true, true, true, true, true, true, true, true, false, false, false, false] rfl rfl (by kernel_rfl) (fun _ _ _ h => h) (Or.inl ⟨by rfl, ?_⟩) ?_ ?_
  rotate_left
  · intro w'
    go_simp
    with_reducible rfl
  rotate_left
  · simp only [Act.put, yay, yby, ycy, za, zc]
    rfl
  refine zq (i := 8) (N := some 13) (v := ?_) (a' := ?_) #[true, true, true, true, true, true, true, true, true, false, false, false] rfl rfl (by kernel_rfl) (fun _ _ _ h => h) (Or.inl ⟨by rfl, ?_⟩) ?_ ?_
  rotate_left
  · intro w'
    go_simp
    with_reducible rfl
  rotate_left
  · simp only [Act.put, yay, yby, ycy, za, zc]
    rfl
  refine ZO (i := 9) (N := some 14) (v := ?_) (a' := ?_) #[true, true, true, true, true, true, true, true, true, true, false, false] rfl rfl (by kernel_rfl) (fun _ _ _ h => h) (Or.inl ⟨by rfl, ?_⟩) hHeld ?_ ?_
  rotate_left
  · rintro w' ⟨s0, s1, s2, s3, s4, s5⟩
    go_simp
    with_reducible rfl
  rotate_left
  · simp only [Act.put, yay, yby, ycy, za, zc]
    rfl
  refine Jh (i := 10) (N := some 15) #[true, true, true, true, true, true, true, true, true, true, true, false] rfl rfl (by kernel_rfl) (by decide) (fun K hK => ?_)
  refine QR Try.func77 (by kernel_rfl) rfl #[.agg #[.int .i64 z0, .int .i64 z1]] (by rfl) rfl rfl (by (try simp only [yiy, yjy, yky]); first | done | rfl) ?_
  refine (qh.calls z0 z1 q w5 HQ.out).mono ?_
  rintro e w6 ⟨rfl, hb⟩
  refine ⟨_, rfl, ?_⟩
  have HB2 := zA.mk (zM HB.out hb)
  replace hcb := (hb.cell (ypy _ _ hcb)).trans hcb
  replace hcx := (hb.cell (ypy _ _ hcx)).trans hcx
  replace hx00 := (hb.cell (ypy _ _ hx00)).trans hx00
  replace hy := (hb.cell (ypy _ _ hy)).trans hy
  replace hz0 := (hb.cell (ypy _ _ hz0)).trans hz0
  replace hz := (hb.cell (ypy _ _ hz)).trans hz
  clear hb HB
  have HB := HB2
  clear HB2
  refine hK.out _ _ ⟨hcb, hcx, hx00, hy, hz0, hz⟩ (fun hHeld => ?_)
  clear hK K
  refine QB (a' := ?_) ?_ ?_
  rotate_left
  · show Act.put _ (some 15) _ = _
    simp only [Act.put, yay, yby, ycy, za, zc]
    rfl
  refine zq (i := 11) (N := some 4) (v := ?_) (a' := ?_) #[true, true, true, true, true, true, true, true, true, true, true, true] rfl rfl (by kernel_rfl) (fun _ _ _ h => h) (Or.inl ⟨by rfl, ?_⟩) ?_ ?_
  rotate_left
  · intro w'
    go_simp
    with_reducible rfl
  rotate_left
  · simp only [Act.put, yay, yby, ycy, za, zc]
    rfl
  refine Qz (by kernel_rfl) ?_
  go_wp2
  go_ret
  exact ⟨rfl, HB.out⟩
def zAZ (t : List (List qC)) (x : List Int) : Bool := (zBJ [rd x 1]).any (zDf t x)
set_option maxHeartbeats 8000000 in
set_option maxRecDepth 100000 in
theorem Ju.calls (gb : Nat) (A0 : Option Addr) (c0 : Nat) (t : List (List qC)) (A1 : Option Addr) (c1 : Nat) (x : List Int) (w : World) (hb : w.heap[gb]? = some (.cells #[.slice A0 t.length c0] 35 (0, 0)))
    (hr0 : Kd.C (Kd.slice 75 ZQ) w A0 t.length t) (hr1 : Kd.C (Kd.int .i64) w A1 x.length x) (h2 : x.length = 2) (g0 : 0 ≤ rd x 0) (g1 : rd x 0 < (t.length : Int)) (h4 : (zE t (rd x 0)).length = 4) :
    Calls Try.prog 94 #[.slice A1 x.length c1, .pointer (some ⟨gb, 0, none⟩)] w fun e w' => e = .returned (.bool (zAZ t x)) ∧ Below w.heap.size w w' := by
  obtain ⟨ad0, q0, hx0⟩ := Kd.ZA hr1 0 (by omega) (by omega)
  obtain ⟨ad1, q1, hx1⟩ := Kd.ZA hr1 1 (by omega) (by omega)
  cases q0
  cases q1
  have hx11 : w.cell? ⟨ad0.block, ad0.off + 1, none⟩ = some (.int .i64 (rd x 1)) := hx1
  have p1 := eq_true (show (1 : Int) < (x.length : Int) by omega)
  have p1n := eq_true (show 1 < x.length by omega)
  have HB0 := zA.mk hb
  have HR := zA.mk hr0
  have HL := zA.mk hr1
  have HG := zA.mk (show 0 < x.length ∧ 0 ≤ rd x 0 ∧ rd x 0 < (t.length : Int) ∧ (zE t (rd x 0)).length = 4 from ⟨by omega, g0, g1, h4⟩)
  clear hx0 hx1 hb hr0 hr1 h2 g0 g1 h4
  unfold zAZ
  generalize rd x 1 = v at hx11 ⊢
  have HLM := zA.mk (show ∀ c ∈ zBJ [v], 0 ≤ c ∧ c < 4 from fun c hc => by
    have h := (List.mem_filter.1 hc).1
    simp only [List.mem_cons, List.not_mem_nil, or_false] at h
    omega)
  have HLE := zA.mk (show QT.f [v] = some (zBJ [v]) from rfl)
  generalize zBJ [v] = L at HLM HLE ⊢
  have hu := Try.underlying22
  go_enter Try.func94, Try.ntmps94
  go_wp2_with (first | ((with_reducible refine zn (N := 2) rfl ?_); refine zp ?hg (N := 2) ?hd (cs := #[.slice (some ad0) x.length c1]) (t := 22) ?hr ?_; (case hd => rfl); (case hg => rfl); (case hr => first | (go_simp; done) | (go_simp; rfl)); intro gx hg w1 hbox hb; have BX := zA.mk hbox; have HB := zA.mk hb; have B0 := zA.mk (zP HB0.out hb); replace hx11 := (hb.cell (ypy _ _ hx11)).trans hx11; have hxb : w1.cell? ⟨gx, 0, none⟩ = some (.slice (some ad0) x.length c1) := (zL hbox 0).trans rfl; clear hbox hb HB0 hg))
  have HCF : zA (Kd.C (Kd.int .i64) (w1.alloc (.cells #[.int .i64 v] 2)) (some ⟨w1.heap.size, 0, none⟩) 1 [v]) := ⟨(Kd.zr (show Kd.R (Kd.int .i64) 2 (w1.alloc (.cells #[.int .i64 v] 2)) w1.heap.size (fun _ => True) (.slice (some ⟨w1.heap.size, 0, none⟩) 1 1) [v] from
    Kd.zA3 ⟨by simp [zAH], .inr ⟨w1.heap.size, 1, #[.int .i64 v], rfl, yqy _, QS rfl _, yqy 1, by decide, rfl, rfl⟩⟩ (fun _ _ => trivial))).2.2⟩
  have HB2 := zA.mk (zC HB.out (.cells #[.int .i64 v] 2))
  have B02 := zA.mk (zG B0.out (.cells #[.int .i64 v] 2))
  have BX2 := zA.mk (zG BX.out (.cells #[.int .i64 v] 2))
  clear HB B0 BX
  generalize w1.alloc (.cells #[.int .i64 v] 2) = w2 at *
  refine (QT.calls (some ⟨w1.heap.size, 0, none⟩) 1 [v] L w2 HCF.out (yqy 1) HLE.out).mono ?_
  rintro e w3 ⟨v8, rfl, ho, hb⟩
  obtain ⟨A8, c8, ev⟩ := Kd.ZC ho
  subst ev
  have HO := zA.mk (Kd.zr ho).2.2
  have HB := zA.mk (zM HB2.out hb)
  have B0 := zA.mk (zP B02.out hb)
  have BX := zA.mk (zP BX2.out hb)
  clear ho hb HB2 B02 BX2 HCF HLE hx11 hxb
  go_wp2_with fail
  refine (QU.calls (zDf t x) (.pointer (some ⟨gb, 0, none⟩)) (.pointer (some ⟨gx, 0, none⟩)) A8 c8 L w3 HO.out (fun W f hf hW => Jk.calls gb gx A0 c0 t (some ad0) c1 x f W (zP B0.out hW) (zP BX.out hW) (Kd.qF HR.out (zM HB.out hW)) (Kd.qF HL.out (zM HB.out hW)) HG.out.1 HG.out.2.1 HG.out.2.2.1 (HLM.out f hf).1 (by rw [HG.out.2.2.2]; exact (HLM.out f hf).2))).mono ?_
  rintro e w4 ⟨rfl, hb⟩
  have HB2 := zA.mk (zM HB.out hb)
  clear hb HB
  go_wp2
  go_ret
  exact ⟨rfl, HB2.out⟩
def zDg (t : List (List qC)) (cs : List (List Int)) : Bool := cs.all (fun x => decide (x.length = 2) && (decide (0 ≤ rd x 0) && (decide (rd x 0 < (t.length : Int)) && decide ((zE t (rd x 0)).length = 4))))
theorem zG3 {t : List (List qC)} {cs : List (List Int)} (h : zDg t cs = true) : ∀ x ∈ cs, x.length = 2 ∧ 0 ≤ rd x 0 ∧ rd x 0 < (t.length : Int) ∧ (zE t (rd x 0)).length = 4 := by
  unfold zDg at h
  simp only [Bool.and_eq_true, decide_eq_true_eq, List.all_eq_true] at h
  exact h
def qR.f (k : Nat) (t : List (List qC)) (c : Int) : Option Bool := (zb.f k t c).bind fun cs => if zDg t cs = true then some (!(cs.any (zAZ t))) else none
set_option maxHeartbeats 8000000 in
set_option maxRecDepth 100000 in
theorem qR.calls (k : Nat) (A0_0 : Option Addr) (c0_0 : Nat) (l0_0 : List (List qC)) (a1 : Int) (r : Bool) (w : World) (hr0_0 : Kd.C (Kd.slice 75 ZQ) w A0_0 l0_0.length l0_0) (hc0_0 : l0_0.length ≤ c0_0) (h : qR.f k l0_0 a1 = some r) :
    Calls Try.prog 55 #[.agg #[.slice A0_0 l0_0.length c0_0], .int .i64 a1] w fun e w' => e = .returned (.bool r) ∧ Below w.heap.size w w' := by
  unfold qR.f at h
  obtain ⟨cs, hn, h2⟩ := ydy.mp h
  clear h
  by_cases hok : zDg l0_0 cs = true
  case neg => rw [if_neg hok] at h2; cases h2
  rw [if_pos hok] at h2
  obtain rfl := yey h2
  have HK := zA.mk (zG3 hok)
  have HR := zA.mk hr0_0
  have HC := zA.mk hc0_0
  have HN := zA.mk hn
  clear hr0_0 hc0_0 hn h2 hok
  have hu := Try.underlying35
  have HBR := zA.mk (yry w.heap.size w)
  go_enter Try.func55, Try.ntmps55
  go_wp2_with (first | ((with_reducible refine zn (N := 2) rfl ?_); refine zp ?hg (N := 2) ?hd (cs := #[.slice A0_0 l0_0.length c0_0]) (t := 35) ?hr ?_; (case hd => rfl); (case hg => rfl); (case hr => first | (go_simp; done) | (go_simp; rfl)); intro gb hg w1 hbox hb; have BX := zA.mk hbox; have HB := zA.mk hb; have hxb : w1.cell? ⟨gb, 0, none⟩ = some (.slice A0_0 l0_0.length c0_0) := (zL hbox 0).trans rfl; clear hbox hb hg HBR))
  refine (zb.calls k A0_0 c0_0 l0_0 a1 cs w1 (Kd.qF HR.out HB.out) HC.out HN.out).mono ?_
  rintro e w2 ⟨v7, rfl, ho, hb⟩
  obtain ⟨A7, c7, ev⟩ := Kd.Zo ho
  subst ev
  have HO := zA.mk (Kd.qp ho).2.2
  have HB2 := zA.mk (zM HB.out hb)
  have BX2 := zA.mk (zP BX.out hb)
  clear ho hb HB BX hxb HN
  generalize hq : cs.any (zAZ l0_0) = q
  have HQ := zA.mk hq
  clear hq
  go_wp2_with fail
  refine (by have h9 := Qb.calls (zAZ l0_0) (.pointer (some ⟨gb, 0, none⟩)) A7 c7 cs w2 HO.out (fun W x A1 c1 hx hW hc _ => Ju.calls gb A0_0 c0_0 l0_0 A1 c1 x W (zP BX2.out hW) (Kd.qF HR.out (zM HB2.out hW)) hc (HK.out x hx).1 (HK.out x hx).2.1 (HK.out x hx).2.2.1 (HK.out x hx).2.2.2); rw [HQ.out] at h9; exact h9 : Calls _ _ _ _ _).mono ?_
  rintro e w3 ⟨rfl, hb⟩
  have HB3 := zA.mk (zM HB2.out hb)
  clear hb HB2 BX2
  go_wp2
  go_ret
  exact ⟨by rw [HQ.out]; rfl, HB3.out⟩
def ZY.f (l0 : List Int) : Option Int := match l0 with
  | [] => none
  | x :: xs => some (xs.foldl mx x)
set_option maxHeartbeats 8000000 in
set_option maxRecDepth 100000 in
theorem ZY.calls (A0 : Option Addr) (c0 : Nat) (l0 : List Int) (r : Int) (w : World) (hr0 : Kd.C (Kd.int .i64) w A0 l0.length l0) (hc0 : l0.length ≤ c0) (h : ZY.f l0 = some r) :
    Calls Try.prog 119 #[.slice A0 l0.length c0] w fun e w' => e = .returned (.int .i64 r) ∧ qB w w' := by
  obtain ⟨x0, xs, rfl⟩ : ∃ x xs, l0 = x :: xs := by
    cases l0 with
    | nil => cases h
    | cons x xs => exact ⟨x, xs, rfl⟩
  have hr : xs.foldl mx x0 = r := yey h
  have hbig : (x0 :: xs).length ≤ 9223372036854775807 := hr0.2.1
  have HR := zA.mk hr0
  have HA : zA (((x0 :: xs).drop 1).foldl mx x0 = r) := ⟨hr⟩
  obtain ⟨ad, e1, hx⟩ := Kd.ZA hr0 0 (by omega) (by simp)
  have hlen : 1 ≤ (x0 :: xs).length := by simp
  have ex : rd (x0 :: xs) 0 = x0 := by simp [rd]
  rw [ex] at hx
  replace hx : w.cell? ad = some (.int .i64 x0) := by have h2 := hx; rwa [show ad.add (Int.toNat 0) = ad from by cases ad; rfl] at h2
  clear hr h hr0 hc0 ex
  generalize x0 :: xs = l at *
  cases e1
  go_enter Try.func119, Try.ntmps119
  have b1 : decide ((l.length : Int) < 1) = false := yhy (by omega)
  go_wp2
  go_loopg [3, 4] l.length (fun gg v3 v4 w' => ∃ (i : Nat) (m : Int), 1 ≤ i ∧ i ≤ l.length ∧ l.length - i ≤ gg ∧ v3 = .int .i64 m ∧ v4 = .int .i64 i ∧ w' = w ∧ zA ((l.drop i).foldl mx m = r))
  case atStart => exact ⟨1, x0, yqy _, hlen, by omega, rfl, rfl, rfl, HA⟩
  case round =>
    clear HA
    obtain ⟨i, m, h1, hi, hg, rfl, rfl, rfl, HA⟩ := hrel
    by_cases hlt : i < l.length
    · have hltz : (i : Int) < (l.length : Int) := by omega
      obtain ⟨ad2, e2, hy⟩ := Kd.ZA HR.out (i : Int) (by omega) hltz
      have ex : rd l (i : Int) = l[i] := by simp [rd, hlt]
      rw [ex, yny] at hy
      have HA2 := HA.out
      rw [yoy hlt, List.foldl_cons] at HA2
      have HA3 := zA.mk HA2
      clear HA HA2 ex
      generalize l[i] = y at hy HA3
      cases e2
      by_cases hmy : m < y
      · have HA4 : zA ((l.drop (i + 1)).foldl mx y = r) := ⟨by have q := HA3.out; rwa [show mx m y = y from by unfold mx; exact if_pos hmy] at q⟩
        clear HA3
        go_wp2
        go_roundg (l.length - (i + 1))
        case measure => omega
        case rel => exact ⟨i + 1, y, by omega, by omega, by omega, rfl, by go_num, rfl, HA4⟩
      · have HA4 : zA ((l.drop (i + 1)).foldl mx m = r) := ⟨by have q := HA3.out; rwa [show mx m y = m from by unfold mx; exact if_neg hmy] at q⟩
        clear HA3
        have hmy2 : y ≤ m := by omega
        clear hmy
        go_wp2
        go_roundg (l.length - (i + 1))
        case measure => omega
        case rel => exact ⟨i + 1, m, by omega, by omega, by omega, rfl, by go_num, rfl, HA4⟩
    · obtain rfl : i = l.length := by omega
      have HA2 := HA.out
      rw [List.drop_length, List.foldl_nil] at HA2
      have HM := zA.mk HA2
      clear HA HA2
      go_wp2
      go_ret
      exact ⟨by rw [← HM.out]; rfl, 0, rfl⟩
def qu.f (l0 : List Int) : Option (Int) := if (l0.length : Int) = 0 then (some 0) else ((ZY.f l0).bind fun t101 => (some (wrap64 (t101 + 1))))
set_option maxHeartbeats 8000000 in
set_option maxRecDepth 100000 in
theorem qu.calls (A0 : Option Addr) (c0 : Nat) (l0 : List Int) (r : Int) (w : World) (hr0 : Kd.C (Kd.int .i64) w A0 l0.length l0) (hc0 : l0.length ≤ c0) (h : qu.f l0 = some r) :
    Calls Try.prog 87 #[.slice A0 l0.length c0] w fun e w' => e = .returned (.int .i64 r) ∧ qB w w' := by
  have HR0 := zA.mk hr0
  have HC0 := zA.mk hc0
  clear hr0 hc0
  have H : (if (l0.length : Int) = 0 then (some 0) else ((ZY.f l0).bind fun t101 => (some (wrap64 (t101 + 1))))) = some r := h
  clear h
  by_cases c2 : (l0.length : Int) = 0
  · rw [if_pos c2] at H
    have c2b0 : ((l0.length : Int) == 0) = true := beq_iff_eq.mpr c2
    have c2b1 : ((l0.length : Int) != 0) = false := bne_eq_false_iff_eq.mpr c2
    clear c2
    obtain rfl := yey H
    go_enter Try.func87, Try.ntmps87
    go_wp2
    go_ret
    exact ⟨by first | rfl | (simp; done) | (simp [*]; done), by repeat (first | exact qB.refl _ | apply qB.step)⟩
  · rw [if_neg c2] at H
    have c2b0 : ((l0.length : Int) == 0) = false := beq_eq_false_iff_ne.mpr c2
    have c2b1 : ((l0.length : Int) != 0) = true := bne_iff_ne.mpr c2
    have c2b2 : ¬ (l0 = []) := fun h_ => c2 (by rw [h_]; rfl)
    replace H := ydy.mp H
    obtain ⟨t101, A30, H⟩ := H
    replace H : (some (wrap64 (t101 + 1))) = some r := H
    have A3 := zA.mk A30
    clear A30
    obtain rfl := yey H
    go_enter Try.func87, Try.ntmps87
    go_wp2_with (first | ((with_reducible refine zZ (f := 119) rfl ?_); refine qJ (some 7) rfl rfl Try.func119 (by kernel_rfl) rfl #[.slice A0 l0.length c0] rfl (by (try simp only [yiy, yjy, yky]); first | done | rfl | (simp only [yly, ymy]; rfl)) ?_; (with_reducible refine (ZY.calls _ _ l0 t101 _ ?side1 ?side2 A3.out).mono ?_); (case side1 => repeat (first | exact HR0.out | (with_reducible refine Kd.zu ?_ _) | (with_reducible refine Kd.zv ?_ _) | (with_reducible refine Kd.qI ?_))); (case side2 => exact HC0.out); rintro e w' ⟨rfl, ⟨nd, rfl⟩⟩; refine ⟨_, rfl, ?_⟩))
    go_ret
    exact ⟨by first | rfl | (simp; done) | (simp [*]; done), by repeat (first | exact qB.refl _ | apply qB.step)⟩
def qe.f (a0 : Int) (a1 : Int) (a2 : Int) : Option (Bool) := if a1 ≤ a0 then (some (decide (a0 ≤ a2))) else (some false)
set_option maxHeartbeats 8000000 in
set_option maxRecDepth 100000 in
theorem qe.calls (a0 : Int) (a1 : Int) (a2 : Int) (r : Bool) (w : World) (h : qe.f a0 a1 a2 = some r) :
    Calls Try.prog 86 #[.int .i64 a0, .int .i64 a1, .int .i64 a2] w fun e w' => e = .returned (.bool r) ∧ qB w w' := by
  have H : (if a1 ≤ a0 then (some (decide (a0 ≤ a2))) else (some false)) = some r := h
  clear h
  by_cases c4 : a1 ≤ a0
  · rw [if_pos c4] at H
    have c4b0 : decide (a1 ≤ a0) = true := ygy c4
    clear c4
    obtain rfl := yey H
    go_enter Try.func86, Try.ntmps86
    go_wp2
    go_ret
    exact ⟨by first | rfl | (simp; done) | (simp [*]; done), by repeat (first | exact qB.refl _ | apply qB.step)⟩
  · rw [if_neg c4] at H
    have c4b0 : decide (a1 ≤ a0) = false := yhy c4
    clear c4
    obtain rfl := yey H
    go_enter Try.func86, Try.ntmps86
    go_wp2
    go_ret
    exact ⟨by first | rfl | (simp; done) | (simp [*]; done), by repeat (first | exact qB.refl _ | apply qB.step)⟩
theorem eqA75 (d : Nat) (w : World) (x0 y0 : Int) (x1 y1 : Int) :
    (Op.equalIn (d + 2) 75 (.agg #[.int .i64 x0, .int .i64 x1]) (.agg #[.int .i64 y0, .int .i64 y1])).run Try.prog w = .ok (x0 == y0 && (x1 == y1)) w := by
  refine eqA_of Try.underlying75 (by kernel_rfl) ?_
  refine zFG (by rfl) (by go_simp; rfl) (by go_simp; rfl) (by go_simp) ?_
  exact zFF (by rfl) (by go_simp; rfl) (by go_simp; rfl) (by go_simp)
def QK.f (a0 : Int) : Option Int := if 0 ≤ a0 ∧ a0 ≤ 23 then some (zDe a0) else none
set_option maxHeartbeats 8000000 in
set_option maxRecDepth 100000 in
theorem QK.calls (a0 : Int) (r : Int) (w : World) (h : QK.f a0 = some r) :
    Calls Try.prog 133 #[.int .i64 a0] w fun e w' => e = .returned (.int .i64 r) ∧ Below w.heap.size w w' := by
  unfold QK.f at h
  by_cases hc : 0 ≤ a0 ∧ a0 ≤ 23
  case neg => rw [if_neg hc] at h; exact absurd h (by simp)
  rw [if_pos hc] at h
  have hr : zDe a0 = r := yey h
  clear h
  subst hr
  obtain ⟨h0, h1⟩ := hc
  have HS := zA.mk (zAC a0 h0 h1)
  have H0 := zA.mk h0
  have H1 := zA.mk h1
  clear h0 h1
  go_enter Try.func133, Try.ntmps133
  go_wp2_with fail
  refine (zAv.calls _ _ H0.out H1.out).mono ?_
  rintro e w1 ⟨rfl, hb⟩
  have B3 := zA.mk (zP (QS (W := w) rfl (.cells #[.int .i64 0, .int .i64 0, .int .i64 0, .int .i64 0] 101)) hb)
  have HB := zA.mk (zM (zC (yry _ _) _) hb)
  clear hb
  have HPL := zA.mk (show qt a0 = [zy a0 0, zy a0 1, zy a0 2, zy a0 3] from rfl)
  have HIP := zA.mk (show zDe a0 = idxL (Qo (qt a0) 4) from rfl)
  generalize qt a0 = pl at HPL HIP
  generalize zy a0 0 = x0 at HS HPL ⊢
  generalize zy a0 1 = x1 at HS HPL ⊢
  generalize zy a0 2 = x2 at HS HPL ⊢
  generalize zy a0 3 = x3 at HS HPL ⊢
  go_wp2_with fail
  go_loopg [8] 4 (fun gg v8 w' => ∃ (i : Nat) (b0 b1 b2 b3 : Int), i ≤ 4 ∧ 4 - i ≤ gg ∧ v8 = .int .i64 i ∧ zA ([b0, b1, b2, b3] = Qo pl i) ∧
    zA (w'.heap[w.heap.size]? = some (.cells #[.int .i64 b0, .int .i64 b1, .int .i64 b2, .int .i64 b3] 101 (0, 0))) ∧ zA (Below w.heap.size w w'))
  case atStart => exact ⟨0, 0, 0, 0, 0, by omega, by omega, rfl, ⟨rfl⟩, B3, HB⟩
  case round =>
    clear HB B3
    obtain ⟨i, b0, b1, b2, b3, hi, hg, rfl, HI, B3, HB⟩ := hrel
    rcases (show i = 4 ∨ i = 3 ∨ i = 2 ∨ i = 1 ∨ i = 0 by omega) with rfl | rfl | rfl | rfl | rfl
    · have c0 : wr.cell? ⟨w.heap.size, 0, none⟩ = some (.int .i64 b0) := (zL B3.out 0).trans rfl
      have c1 : wr.cell? ⟨w.heap.size, 1, none⟩ = some (.int .i64 b1) := (zL B3.out 1).trans rfl
      have c2 : wr.cell? ⟨w.heap.size, 2, none⟩ = some (.int .i64 b2) := (zL B3.out 2).trans rfl
      have c3 : wr.cell? ⟨w.heap.size, 3, none⟩ = some (.int .i64 b3) := (zL B3.out 3).trans rfl
      have ht := Try.underlying101
      go_wp2_with fail
      have hsm := zBK pl 4 (by omega)
      rw [← HI.out] at hsm
      refine (zCM.calls b0 b1 b2 b3 _ (hsm _ (by simp)) (hsm _ (by simp)) (hsm _ (by simp)) (hsm _ (by simp))).mono ?_
      rintro e w2 ⟨rfl, hb⟩
      have HB2 := zA.mk (zM HB.out hb)
      clear hb hsm
      go_wp2
      go_ret
      exact ⟨by rw [HIP.out, ← HI.out]; rfl, HB2.out⟩
    · have ix := Ja x0 x1 x2 x3 3 (by omega) (by omega)
      have hx : rd [x0, x1, x2, x3] 3 = x3 := rfl
      rw [hx] at ix
      have hs : sm x3 := HS.out.2.2.2
      obtain ⟨hs0, hs1⟩ := hs
      have c3 := Qh B3.out x3 hs0 hs1
      have f3 := zN B3.out x3.toNat
      have B3n := zA.mk (zBm B3.out x3 3 hs0 hs1)
      have HN : [b0, b1, b2, b3].set x3.toNat 3 = Qo pl (3 + 1) := by rw [HI.out, HPL.out]; rfl
      have hlen : ([b0, b1, b2, b3].set x3.toNat (3 : Int)).length = 4 := by simp
      have HF := zA.mk ((zBn hlen).symm.trans HN)
      clear hx HN hlen
      go_wp2
      go_roundg (4 - (3 + 1))
      case measure => omega
      case rel => exact ⟨3 + 1, _, _, _, _, by omega, by omega, by first | rfl | go_num, HF, B3n, ⟨zF HB.out (yqy _)⟩⟩
    · have ix := Ja x0 x1 x2 x3 2 (by omega) (by omega)
      have hx : rd [x0, x1, x2, x3] 2 = x2 := rfl
      rw [hx] at ix
      have hs : sm x2 := HS.out.2.2.1
      obtain ⟨hs0, hs1⟩ := hs
      have c3 := Qh B3.out x2 hs0 hs1
      have f3 := zN B3.out x2.toNat
      have B3n := zA.mk (zBm B3.out x2 2 hs0 hs1)
      have HN : [b0, b1, b2, b3].set x2.toNat 2 = Qo pl (2 + 1) := by rw [HI.out, HPL.out]; rfl
      have hlen : ([b0, b1, b2, b3].set x2.toNat (2 : Int)).length = 4 := by simp
      have HF := zA.mk ((zBn hlen).symm.trans HN)
      clear hx HN hlen
      go_wp2
      go_roundg (4 - (2 + 1))
      case measure => omega
      case rel => exact ⟨2 + 1, _, _, _, _, by omega, by omega, by first | rfl | go_num, HF, B3n, ⟨zF HB.out (yqy _)⟩⟩
    · have ix := Ja x0 x1 x2 x3 1 (by omega) (by omega)
      have hx : rd [x0, x1, x2, x3] 1 = x1 := rfl
      rw [hx] at ix
      have hs : sm x1 := HS.out.2.1
      obtain ⟨hs0, hs1⟩ := hs
      have c3 := Qh B3.out x1 hs0 hs1
      have f3 := zN B3.out x1.toNat
      have B3n := zA.mk (zBm B3.out x1 1 hs0 hs1)
      have HN : [b0, b1, b2, b3].set x1.toNat 1 = Qo pl (1 + 1) := by rw [HI.out, HPL.out]; rfl
      have hlen : ([b0, b1, b2, b3].set x1.toNat (1 : Int)).length = 4 := by simp
      have HF := zA.mk ((zBn hlen).symm.trans HN)
      clear hx HN hlen
      go_wp2
      go_roundg (4 - (1 + 1))
      case measure => omega
      case rel => exact ⟨1 + 1, _, _, _, _, by omega, by omega, by first | rfl | go_num, HF, B3n, ⟨zF HB.out (yqy _)⟩⟩
    · have ix := Ja x0 x1 x2 x3 0 (by omega) (by omega)
      have hx : rd [x0, x1, x2, x3] 0 = x0 := rfl
      rw [hx] at ix
      have hs : sm x0 := HS.out.1
      obtain ⟨hs0, hs1⟩ := hs
      have c3 := Qh B3.out x0 hs0 hs1
      have f3 := zN B3.out x0.toNat
      have B3n := zA.mk (zBm B3.out x0 0 hs0 hs1)
      have HN : [b0, b1, b2, b3].set x0.toNat 0 = Qo pl (0 + 1) := by rw [HI.out, HPL.out]; rfl
      have hlen : ([b0, b1, b2, b3].set x0.toNat (0 : Int)).length = 4 := by simp
      have HF := zA.mk ((zBn hlen).symm.trans HN)
      clear hx HN hlen
      go_wp2
      go_roundg (4 - (0 + 1))
      case measure => omega
      case rel => exact ⟨0 + 1, _, _, _, _, by omega, by omega, by first | rfl | go_num, HF, B3n, ⟨zF HB.out (yqy _)⟩⟩
def qm.f (a0_0 : Int) (a0_1 : Int) (a1 : Int) : Option (Int × Int) := (QK.f a0_1).bind fun t103 => (some (a1, t103))
set_option maxHeartbeats 8000000 in
set_option maxRecDepth 100000 in
theorem qm.calls (a0_0 : Int) (a0_1 : Int) (a1 : Int) (r1 : Int) (r2 : Int) (w : World) (h : qm.f a0_0 a0_1 a1 = some (r1, r2)) :
    Calls Try.prog 131 #[.agg #[.int .i64 a0_0, .int .i64 a0_1], .int .i64 a1] w fun e w' => e = .returned (.agg #[.int .i64 r1, .int .i64 r2]) ∧ Below w.heap.size w w' := by
  have hu75 := Try.underlying75
  have HB := zA.mk (yry w.heap.size w)
  have H : ((QK.f a0_1).bind fun t103 => (some (a1, t103))) = some (r1, r2) := h
  clear h
  replace H := ydy.mp H
  obtain ⟨t103, A30, H⟩ := H
  replace H : (some (a1, t103)) = some (r1, r2) := H
  have A3 := zA.mk A30
  clear A30
  simp only [Option.some.injEq, Prod.mk.injEq] at H
  obtain ⟨rfl, rfl⟩ := H
  go_enter Try.func131, Try.ntmps131
  go_wp2_with (first | ((with_reducible refine zn (N := 2) rfl ?_); refine zp ?hg (N := 2) ?hd (cs := #[.int .i64 a0_0, .int .i64 a0_1]) (t := 75) ?hr ?_; (case hd => rfl); (case hg => rfl); (case hr => first | (go_simp; done) | (go_simp; rfl)); intro gb101 hg w4 hbox hb; have n0_ := zA.mk (zM (by repeat (first | (with_reducible first | exact HB.out | apply zC | apply zB | apply zD) | exact HB.out)) hb); have n1_ := zA.mk (hbox); have n2_ := zA.mk ((by rw [hg]; exact (zO (by repeat (first | (with_reducible first | exact HB.out | apply zC | apply zB | apply zD) | exact HB.out))) : w.heap.size ≤ gb101)); have n3_ := zA.mk ((by rw [hg]; exact (zO (by repeat (first | (with_reducible first | exact HB.out | apply zC | apply zB | apply zD) | exact HB.out))) : w.heap.size ≤ gb101)); clear HB; have HB := n0_; have BK101 := n1_; have GW101 := n2_; have GE101 := n3_; clear n0_ n1_ n2_ n3_; clear hb hbox hg) | ((with_reducible refine zn (N := 4) rfl ?_); refine zp ?hg (N := 4) ?hd (cs := #[.int .i64 0, .int .i64 0]) (t := 75) ?hr ?_; (case hd => rfl); (case hg => rfl); (case hr => first | (go_simp; done) | (go_simp; rfl)); intro gb102 hg w5 hbox hb; have n0_ := zA.mk (zP (g := gb101) (o := .cells #[.int .i64 a0_0, .int .i64 a0_1] 75 (0, 0)) (by (with_reducible repeat (first | refine zH ?_ _ | refine zJ ?_ | refine zG ?_ _)); exact BK101.out) hb); have n1_ := zA.mk (zM (by repeat (first | (with_reducible first | exact HB.out | apply zC | apply zB | apply zD | refine zF ?_ GE101.out) | exact HB.out)) hb); have n2_ := zA.mk (hbox); have n3_ := zA.mk ((by rw [hg]; exact (zO (by repeat (first | (with_reducible first | exact HB.out | apply zC | apply zB | apply zD | refine zF ?_ GE101.out) | exact HB.out))) : w.heap.size ≤ gb102)); have n4_ := zA.mk ((by rw [hg]; exact (zO (by repeat (first | (with_reducible first | exact HB.out | apply zC | apply zB | apply zD | refine zF ?_ GE101.out) | exact HB.out))) : w.heap.size ≤ gb102)); have n5_ := zA.mk ((by rw [hg]; exact Nat.ne_of_lt (qP (g := gb101) (o := .cells #[.int .i64 a0_0, .int .i64 a0_1] 75 (0, 0)) (by (with_reducible repeat (first | refine zH ?_ _ | refine zJ ?_ | refine zG ?_ _)); exact BK101.out)) : gb101 ≠ gb102)); have n6_ := zA.mk ((by rw [hg]; exact Nat.ne_of_gt (qP (g := gb101) (o := .cells #[.int .i64 a0_0, .int .i64 a0_1] 75 (0, 0)) (by (with_reducible repeat (first | refine zH ?_ _ | refine zJ ?_ | refine zG ?_ _)); exact BK101.out)) : gb102 ≠ gb101)); clear BK101; clear HB; have BK101 := n0_; have HB := n1_; have BK102 := n2_; have GW102 := n3_; have GE102 := n4_; have NB101_102 := n5_; have NB102_101 := n6_; clear n0_ n1_ n2_ n3_ n4_ n5_ n6_; clear hb hbox hg; have hnb6 := NB101_102.out; have hnc6 := NB102_101.out; have hcz7_0 : w5.cell? ⟨gb101, 0, none⟩ = some (.int .i64 a0_0) := (zL BK101.out 0).trans rfl; have hcz7_1 : w5.cell? ⟨gb101, 1, none⟩ = some (.int .i64 a0_1) := (zL BK101.out 1).trans rfl; have hfz7_0 := zN BK101.out 0; have hfz7_1 := zN BK101.out 1) | ((with_reducible refine zZ (f := 133) rfl ?_); refine qJ (some 8) rfl rfl Try.func133 (by kernel_rfl) rfl #[.int .i64 a0_1] rfl (by (try simp only [yiy, yjy, yky]); first | done | rfl | (simp only [yly, ymy]; rfl)) ?_; (with_reducible refine (QK.calls a0_1 t103 _ A3.out).mono ?_); rintro e w8 ⟨rfl, hb⟩; refine ⟨_, rfl, ?_⟩; have n0_ := zA.mk (zP (g := gb101) (o := .cells #[.int .i64 a0_0, .int .i64 a0_1] 75 (0, 0)) (by (with_reducible repeat (first | refine zH ?_ _ | refine zJ ?_ | refine zG ?_ _)); exact BK101.out) hb); have n1_ := zA.mk (zP (g := gb102) (o := .cells #[.int .i64 0, .int .i64 0] 75 (0, 0)) (by (with_reducible repeat (first | refine zH ?_ _ | refine zJ ?_ | refine zG ?_ _)); exact BK102.out) hb); have n2_ := zA.mk (zM (by repeat (first | (with_reducible first | exact HB.out | apply zC | apply zB | apply zD | refine zF ?_ GE101.out | refine zF ?_ GE102.out) | exact HB.out)) hb); clear BK101; clear BK102; clear HB; have BK101 := n0_; have BK102 := n1_; have HB := n2_; clear n0_ n1_ n2_; (try clear hb); (try clear hb2); (try clear hk); (try clear hi); have hcz9_0 : w8.cell? ⟨gb102, 0, none⟩ = some (.int .i64 0) := (zL BK102.out 0).trans rfl; have hcz9_1 : w8.cell? ⟨gb102, 1, none⟩ = some (.int .i64 0) := (zL BK102.out 1).trans rfl; have hfz9_0 := zN BK102.out 0; have hfz9_1 := zN BK102.out 1))
  refine bodyPost_ret (results_cell_row rfl _ _ gb102 75 #[.int .i64 a1, .int .i64 t103] (0, 0) _ rfl (by (with_reducible repeat (first | refine zH ?_ _ | refine zJ ?_ | refine zG ?_ _)); refine qV (cs := #[.int .i64 a1, .int .i64 0]) ?_ 1 _ rfl; (with_reducible repeat (first | refine zH ?_ _ | refine zJ ?_ | refine zG ?_ _)); refine qV (cs := #[.int .i64 0, .int .i64 0]) ?_ 0 _ rfl; (with_reducible repeat (first | refine zH ?_ _ | refine zJ ?_ | refine zG ?_ _)); exact BK102.out) Try.underlying75 rfl (by kernel_rfl)) rfl ?_
  exact ⟨by first | rfl | (simp [zW, zX] <;> rfl) | (simp [*, zW, zX] <;> rfl), by repeat (first | (with_reducible first | exact HB.out | apply zC | apply zB | apply zD | refine zF ?_ GE101.out | refine zF ?_ GE102.out) | exact HB.out)⟩
def qz.f (a0_0 : Int) (a0_1 : Int) (a1 : Int) : Option Int := if 0 ≤ a0_1 ∧ a0_1 ≤ 23 ∧ 0 ≤ a1 ∧ a1 ≤ 3 then some (rd (qt a0_1) a1) else none
set_option maxHeartbeats 800000 in
set_option maxRecDepth 100000 in
theorem qz.calls (a0_0 : Int) (a0_1 : Int) (a1 : Int) (r : Int) (w : World) (h : qz.f a0_0 a0_1 a1 = some r) :
    Calls Try.prog 130 #[.agg #[.int .i64 a0_0, .int .i64 a0_1], .int .i64 a1] w fun e w' => e = .returned (.int .i64 r) ∧ Below w.heap.size w w' := by
  unfold qz.f at h
  by_cases hc : 0 ≤ a0_1 ∧ a0_1 ≤ 23 ∧ 0 ≤ a1 ∧ a1 ≤ 3
  · rw [if_pos hc] at h
    obtain ⟨h0, h1, hf0, hf1⟩ := hc
    have ix := Ja (zy a0_1 0) (zy a0_1 1) (zy a0_1 2) (zy a0_1 3) a1 hf0 hf1
    have H0 := zA.mk h0
    have H1 := zA.mk h1
    clear h0 h1
    have hr : rd [zy a0_1 0, zy a0_1 1, zy a0_1 2, zy a0_1 3] a1 = r := yey h
    rw [hr] at ix
    clear hr h
    go_enter Try.func130, Try.ntmps130
    go_wp2_with fail
    refine (zAv.calls _ _ H0.out H1.out).mono ?_
    rintro e w' ⟨rfl, hb⟩
    have HB := zA.mk (zM (zC (yry _ _) _) hb)
    clear hb
    go_wp2
    go_ret
    exact ⟨rfl, HB.out⟩
  · rw [if_neg hc] at h
    exact absurd h (by simp)
def qb.f (l0 : List (List (qC))) (a1 : Int) : Option (Bool) := (qc.f l0).bind fun t101 => ((qe.f a1 0 (wrap64 (t101 - 1))).bind fun t102 => (some t102))
set_option maxHeartbeats 8000000 in
set_option maxRecDepth 100000 in
theorem qb.calls (A0 : Option Addr) (c0 : Nat) (l0 : List (List (qC))) (a1 : Int) (r : Bool) (w : World) (hr0 : Kd.C (Kd.slice 75 ZQ) w A0 l0.length l0) (hc0 : l0.length ≤ c0) (h : qb.f l0 a1 = some r) :
    Calls Try.prog 70 #[.slice A0 l0.length c0, .int .i64 a1] w fun e w' => e = .returned (.bool r) ∧ qB w w' := by
  have HR0 := zA.mk hr0
  have HC0 := zA.mk hc0
  clear hr0 hc0
  have H : ((qc.f l0).bind fun t101 => ((qe.f a1 0 (wrap64 (t101 - 1))).bind fun t102 => (some t102))) = some r := h
  clear h
  replace H := ydy.mp H
  obtain ⟨t101, A30, H⟩ := H
  replace H : ((qe.f a1 0 (wrap64 (t101 - 1))).bind fun t102 => (some t102)) = some r := H
  have A3 := zA.mk A30
  clear A30
  replace H := ydy.mp H
  obtain ⟨t102, A40, H⟩ := H
  replace H : (some t102) = some r := H
  have A4 := zA.mk A40
  clear A40
  obtain rfl := yey H
  go_enter Try.func70, Try.ntmps70
  go_wp2_with (first | ((with_reducible refine zZ (f := 75) rfl ?_); refine qJ (some 7) rfl rfl Try.func75 (by kernel_rfl) rfl #[.slice A0 l0.length c0] rfl (by (try simp only [yiy, yjy, yky]); first | done | rfl | (simp only [yly, ymy]; rfl)) ?_; (with_reducible refine (qc.calls _ _ l0 t101 _ ?side1 ?side2 A3.out).mono ?_); (case side1 => repeat (first | exact HR0.out | (with_reducible refine Kd.zu ?_ _) | (with_reducible refine Kd.zv ?_ _) | (with_reducible refine Kd.qI ?_))); (case side2 => exact HC0.out); rintro e w' ⟨rfl, ⟨nd, rfl⟩⟩; refine ⟨_, rfl, ?_⟩) | ((with_reducible refine zZ (f := 86) rfl ?_); refine qJ (some 9) rfl rfl Try.func86 (by kernel_rfl) rfl #[.int .i64 a1, .int .i64 0, .int .i64 (wrap64 (t101 - 1))] rfl (by (try simp only [yiy, yjy, yky]); first | done | rfl | (simp only [yly, ymy]; rfl)) ?_; (with_reducible refine (qe.calls a1 0 (wrap64 (t101 - 1)) t102 _ A4.out).mono ?_); rintro e w' ⟨rfl, ⟨nd, rfl⟩⟩; refine ⟨_, rfl, ?_⟩))
  go_ret
  exact ⟨by first | rfl | (simp; done) | (simp [*]; done), by repeat (first | exact qB.refl _ | apply qB.step)⟩
def Zs.f (a0 : Int) : Option (Bool) := (qe.f a0 0 23).bind fun t101 => (some t101)
set_option maxHeartbeats 8000000 in
set_option maxRecDepth 100000 in
theorem Zs.calls (a0 : Int) (r : Bool) (w : World) (h : Zs.f a0 = some r) :
    Calls Try.prog 129 #[.int .i64 a0] w fun e w' => e = .returned (.bool r) ∧ qB w w' := by
  have H : ((qe.f a0 0 23).bind fun t101 => (some t101)) = some r := h
  clear h
  replace H := ydy.mp H
  obtain ⟨t101, A20, H⟩ := H
  replace H : (some t101) = some r := H
  have A2 := zA.mk A20
  clear A20
  obtain rfl := yey H
  go_enter Try.func129, Try.ntmps129
  go_wp2_with (first | ((with_reducible refine zZ (f := 86) rfl ?_); refine qJ (some 4) rfl rfl Try.func86 (by kernel_rfl) rfl #[.int .i64 a0, .int .i64 0, .int .i64 23] rfl (by (try simp only [yiy, yjy, yky]); first | done | rfl | (simp only [yly, ymy]; rfl)) ?_; (with_reducible refine (qe.calls a0 0 23 t101 _ A2.out).mono ?_); rintro e w' ⟨rfl, ⟨nd, rfl⟩⟩; refine ⟨_, rfl, ?_⟩))
  go_ret
  exact ⟨by first | rfl | (simp; done) | (simp [*]; done), by repeat (first | exact qB.refl _ | apply qB.step)⟩
end Go.Proofs.Ytembbpalgfikiaa.P
