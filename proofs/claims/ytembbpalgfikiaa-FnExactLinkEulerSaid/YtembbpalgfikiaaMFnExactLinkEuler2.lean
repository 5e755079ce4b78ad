/- The statement FnExactLinkEulerSaid, proved: part 2 of 8 (texts of this session and of the kit's print, put together and cut to what is used by a program of it). -/
import Derived.Test.YtembbpalgfikiaaMFnExactLinkEuler1
import Derived.Test.YtembbpalgfikiaaProg
import Derived.Below
import Derived.Deep.Draws
import Derived.Deep.AppendLies
import Derived.Maps.AppendAt
import Derived.OwnWalk
import Derived.Laws.BytesArg
import Derived.Laws.MakeOwn
import Derived.Laws.OwnMore
import Derived.Deep.OwnRows
import Derived.Tactics
import Derived.Lib.ConvBytes
import Derived.Laws.Slices
import Derived.WalkKit
import Derived.KernelRfl
import Derived.RowKit3
import Derived.Deep.LoopGhost
import Derived.Deep.QuietTactic
import Derived.BigQuiet
import Derived.WideLaws
import Derived.Deep.DeepCutAuto
import Derived.Deep.CutBlock
import Derived.Deep.RegionHeld3
import Derived.Laws.Rows
import Derived.Lib.AppendStr
import Derived.ArgAppend
import Derived.Laws.IdiomCopy
import Derived.OrdersHeld
import Derived.Laws.BitsLemmas
import Derived.RowKit
import Derived.Maps.OwnSet
import Derived.Shelf.SlicesG.Delete
import Derived.Ground.SlgnProg
import Derived.Sort.Row
import Derived.Lib.SliceRun
namespace Go.Proofs.Ytembbpalgfikiaa
abbrev yay := @List.setIfInBounds_toArray
abbrev yby := @List.set_cons_zero
abbrev ycy := @List.set_cons_succ
abbrev ydy := @Option.bind_eq_some_iff
abbrev yey := @Option.some.inj
abbrev yfy := @Option.bind_some
abbrev ygy := @decide_eq_true
abbrev yhy := @decide_eq_false
abbrev yiy := @List.map_toArray
abbrev yjy := @List.map_cons
abbrev yky := @List.map_nil
abbrev yly := @List.length_drop
abbrev ymy := @List.length_take
abbrev yny := @Int.toNat_natCast
abbrev yoy := @List.getElem_mem
abbrev ypy := @List.drop_eq_getElem_cons
abbrev yqy := @Go.World.block_lt_of_cell?
abbrev yry := @Nat.le_refl
abbrev ysy := @Go.RowKit.Below.refl
end Go.Proofs.Ytembbpalgfikiaa
namespace Go.Proofs.Ytembbpalgfikiaa.P
open Go.RowKit Go.Proofs.YtembbpalgfikiaaW.PrintWords Go.Proofs.YtembbpalgfikiaaW.PrintLast Go.Proofs.YtembbpalgfikiaaW.PrintMore
attribute [local go_sem] JH JI Ju Jv Ql Qm JJ JK
set_option linter.unusedVariables false
set_option linter.unusedSimpArgs false
def errW : Option Int → Value
  | none => .nilIface
  | some c => .iface 0 (.int .i64 c)
theorem zW : errW none = .nilIface := rfl
theorem zX (c : Int) : errW (some c) = .iface 0 (.int .i64 c) := rfl
theorem Jo : (Try.prog.info? 2).map (fun i => (i.zero, i.size, i.bytes)) = some (some (.int .i64 0), 1, 8) := by kernel_rfl
theorem zFY : (Try.prog.info? 22).map (fun i => (i.zero, i.size, i.bytes)) = some (some (.slice none 0 0), 1, 24) := by kernel_rfl
theorem info75 : (Try.prog.info? 75).map (fun i => (i.zero, i.size, i.bytes)) = some (some (.agg #[(.int .i64 0), (.int .i64 0)]), 2, 16) := by kernel_rfl
theorem info76 : (Try.prog.info? 76).map (fun i => (i.zero, i.size, i.bytes)) = some (some (.slice none 0 0), 1, 24) := by kernel_rfl
def qf (xs : List (List Int)) (i : Int) : (List Int) := xs.getD i.toNat ([] : List Int)
theorem zCU {w : World} {A : Option Addr} {n : Nat} {xs : List (List Int)} (h : Kd.C (Kd.slice 2 (Kd.int .i64)) w A n xs) (i : Int) (h0 : 0 ≤ i) (h1 : i < n) : ∃ ad A0 c0, A = some ad ∧ w.cell? (ad.add i.toNat) = some (.slice A0 (qf xs i).length c0) ∧ (qf xs i).length ≤ c0 ∧ (Kd.int .i64).C w A0 (qf xs i).length (qf xs i) := by
  obtain ⟨ad, c, e, _, hK, hc0⟩ := Kd.zFG h ([] : List Int) i h0 h1
  have hc : ∀ j u, c[j]? = some u → w.cell? (ad.add (i.toNat * 1 + j)) = some u := hc0
  obtain ⟨A0, c0, rfl, l0, g0⟩ := hK
  exact ⟨ad, A0, c0, e, by have hq := hc 0 _ rfl; rwa [Nat.mul_one, Nat.add_zero] at hq, l0, g0⟩
structure qO where
  f0 : Int
  f1 : Int
def zEE : qO := ⟨(0 : Int), (0 : Int)⟩
def QM : Kd qO := Kd.iso (Kd.pair (Kd.int .i64) (Kd.int .i64)) (fun x : qO => (x.f0, x.f1))
theorem zCV {w : World} {x : qO} {cs : List Value} (h : QM.K w x cs) : cs = [.int .i64 x.f0, .int .i64 x.f1] := by
  obtain ⟨_, _, rfl, rfl, rfl⟩ := h
  exact rfl
theorem zDi (w : World) (x : qO)  : QM.K w x [.int .i64 x.f0, .int .i64 x.f1] := ⟨[.int .i64 x.f0], [.int .i64 x.f1], rfl, rfl, rfl⟩
def QA (xs : List qO) (i : Int) : qO := xs.getD i.toNat zEE
theorem zEq {w : World} {A : Option Addr} {n : Nat} {xs : List qO} (h : Kd.C QM w A n xs) (i : Int) (h0 : 0 ≤ i) (h1 : i < n) : ∃ ad , A = some ad ∧ w.cell? (ad.add (i.toNat * 2)) = some (.int .i64 (QA xs i).f0) ∧ w.cell? ⟨(ad.add (i.toNat * 2)).block, (ad.add (i.toNat * 2)).off + 1, none⟩ = some (.int .i64 (QA xs i).f1) := by
  obtain ⟨ad, c, e, _, hK, hc0⟩ := Kd.zFG h zEE i h0 h1
  have hc : ∀ j u, c[j]? = some u → w.cell? (ad.add (i.toNat * 2 + j)) = some u := hc0
  obtain rfl := zCV hK
  exact ⟨ad, e, hc 0 _ rfl, by rw [← zD2 _ _ 1 (by omega)]; exact hc 1 _ rfl⟩
def ZH (xs : List (List qO)) (i : Int) : (List qO) := xs.getD i.toNat ([] : List qO)
theorem zAP {w : World} {A : Option Addr} {n : Nat} {xs : List (List qO)} (h : Kd.C (Kd.slice 118 QM) w A n xs) (i : Int) (h0 : 0 ≤ i) (h1 : i < n) : ∃ ad A0 c0, A = some ad ∧ w.cell? (ad.add i.toNat) = some (.slice A0 (ZH xs i).length c0) ∧ (ZH xs i).length ≤ c0 ∧ QM.C w A0 (ZH xs i).length (ZH xs i) := by
  obtain ⟨ad, c, e, _, hK, hc0⟩ := Kd.zFG h ([] : List qO) i h0 h1
  have hc : ∀ j u, c[j]? = some u → w.cell? (ad.add (i.toNat * 1 + j)) = some u := hc0
  obtain ⟨A0, c0, rfl, l0, g0⟩ := hK
  exact ⟨ad, A0, c0, e, by have hq := hc 0 _ rfl; rwa [Nat.mul_one, Nat.add_zero] at hq, l0, g0⟩
structure zw where
  f0 : Int
  f1 : Int
def zAd : zw := ⟨(0 : Int), (0 : Int)⟩
def ZV : Kd zw := Kd.iso (Kd.pair (Kd.int .i64) (Kd.int .i64)) (fun x : zw => (x.f0, x.f1))
theorem zEr {w : World} {x : zw} {cs : List Value} (h : ZV.K w x cs) : cs = [.int .i64 x.f0, .int .i64 x.f1] := by
  obtain ⟨_, _, rfl, rfl, rfl⟩ := h
  exact rfl
theorem zBa {w : World} {base : Nat} {ok : Nat → Prop} {x : zw} {cs : List Value} (h : ZV.M w base ok x cs) : cs = [.int .i64 x.f0, .int .i64 x.f1] := by
  obtain ⟨_, _, rfl, rfl, rfl⟩ := h
  exact rfl
theorem zDD (w : World) (base : Nat) (ok : Nat → Prop) (x : zw)  : ZV.M w base ok x [.int .i64 x.f0, .int .i64 x.f1] := ⟨[.int .i64 x.f0], [.int .i64 x.f1], rfl, rfl, rfl⟩
def zI (xs : List zw) (i : Int) : zw := xs.getD i.toNat zAd
theorem QD {w : World} {A : Option Addr} {n : Nat} {xs : List zw} (h : Kd.C ZV w A n xs) (i : Int) (h0 : 0 ≤ i) (h1 : i < n) : ∃ ad , A = some ad ∧ w.cell? (ad.add (i.toNat * 2)) = some (.int .i64 (zI xs i).f0) ∧ w.cell? ⟨(ad.add (i.toNat * 2)).block, (ad.add (i.toNat * 2)).off + 1, none⟩ = some (.int .i64 (zI xs i).f1) := by
  obtain ⟨ad, c, e, _, hK, hc0⟩ := Kd.zFG h zAd i h0 h1
  have hc : ∀ j u, c[j]? = some u → w.cell? (ad.add (i.toNat * 2 + j)) = some u := hc0
  obtain rfl := zEr hK
  exact ⟨ad, e, hc 0 _ rfl, by rw [← zD2 _ _ 1 (by omega)]; exact hc 1 _ rfl⟩
def zE (xs : List (List zw)) (i : Int) : (List zw) := xs.getD i.toNat ([] : List zw)
theorem ZS {w : World} {A : Option Addr} {n : Nat} {xs : List (List zw)} (h : Kd.C (Kd.slice 75 ZV) w A n xs) (i : Int) (h0 : 0 ≤ i) (h1 : i < n) : ∃ ad A0 c0, A = some ad ∧ w.cell? (ad.add i.toNat) = some (.slice A0 (zE xs i).length c0) ∧ (zE xs i).length ≤ c0 ∧ ZV.C w A0 (zE xs i).length (zE xs i) := by
  obtain ⟨ad, c, e, _, hK, hc0⟩ := Kd.zFG h ([] : List zw) i h0 h1
  have hc : ∀ j u, c[j]? = some u → w.cell? (ad.add (i.toNat * 1 + j)) = some u := hc0
  obtain ⟨A0, c0, rfl, l0, g0⟩ := hK
  exact ⟨ad, A0, c0, e, by have hq := hc 0 _ rfl; rwa [Nat.mul_one, Nat.add_zero] at hq, l0, g0⟩
def qV.l0 : Nat → List Int → Int → Int → Option (List Int)
  | 0, _, _, _ => none
  | k + 1, x3, x5, x6 => if x6 < x5 then (if x3.length < 17592186044416 then (qV.l0 k (x3 ++ [x6]) x5 (wrap64 (x6 + 1))) else (none)) else (some x3)
def qV.f (k : Nat) (a0 : Int) : Option (List Int) := qV.l0 k ([] : List Int) a0 0
set_option maxHeartbeats 8000000 in
set_option maxRecDepth 100000 in
theorem qV.calls (k : Nat) (a0 : Int) (r : List Int) (w : World) (h : qV.f k a0 = some r) :
    Calls Try.prog 98 #[.int .i64 a0] w fun e w' => ∃ v0_ : Value, e = .returned (v0_) ∧ Kd.R (Kd.int .i64) 2 w' w.heap.size (fun _ => True) v0_ r ∧ Below w.heap.size w w' := by
  have HB := zA.mk (ysy w.heap.size w)
  have H : (qV.l0 k ([] : List Int) a0 0) = some r := h
  clear h
  have H' := zA.mk H
  clear H
  go_enter Try.func98, Try.ntmps98
  go_wp2
  go_loopg [3, 6] k (fun kq v3 v6 w' => ∃ (x3_1 : List Int) (x6_1 : Int), v6 = .int .i64 x6_1 ∧ zA (qV.l0 kq x3_1 a0 x6_1 = some r) ∧ zA (kq ≤ k) ∧ zA (Kd.R (Kd.int .i64) 2 w' w.heap.size (fun _ => True) v3 x3_1) ∧ zA (Below w.heap.size w w'))
  case atStart => exact ⟨(([] : List Int)), (0), (by first | rfl | (simp; done) | (simp [*]; done)), H', ⟨yry _⟩, ⟨by first | exact Kd.zCN _ _ _ _ _ | exact Kd.zGV _ _ _ _ _ | exact Kd.zGY _ _ _ _ _ | exact Kd.zGL _ _ _ _ _ | exact Kd.zGR _ _ _ _ _⟩, ⟨by repeat (first | (with_reducible first | exact HB.out | apply zC | apply zB | apply zD) | exact HB.out)⟩⟩
  case round =>
    clear H'
    obtain ⟨x3_1, x6_1, rfl, HA, HK1, HO_3, HB⟩ := hrel
    cases gk with
    | zero => exact absurd HA.out (by simp [qV.l0])
    | succ k1 =>
      have H := HA.out
      clear HA
      simp only [qV.l0] at H
      by_cases c2 : x6_1 < a0
      · rw [if_pos c2] at H
        have c2b0 : decide (x6_1 < a0) = true := ygy c2
        clear c2
        by_cases c3 : x3_1.length < 17592186044416
        · rw [if_pos c3] at H
          have LMc3 := zA.mk c3
          clear c3
          obtain ⟨y101, hy101⟩ : ∃ y_ : List Int, y_ = (x3_1 ++ [x6_1]) := ⟨_, rfl⟩
          replace H : (qV.l0 k1 y101 a0 (wrap64 (x6_1 + 1))) = some r := by first | (rw [hy101]; with_reducible exact H) | (have H2_ := (yfy _ _).symm.trans H; rw [hy101]; with_reducible exact H2_) | (have H2_ := (yfy _ _).symm.trans H; with_reducible exact H2_) | with_reducible exact H | (rw [hy101]; exact H) | exact H
          have Ny101 := zA.mk hy101
          clear hy101
          have H' := zA.mk H
          clear H
          go_wp2_with (first | ((with_reducible refine ZM (b := .append) (xs := #[.tmp 9, .tmp 11]) rfl ?_); at_builtin; refine Kd.Qi (Kd.int .i64) (w0 := w) w.heap.size rfl (.tmp 9) (.tmp 11) 22 2 (.int .i64 0) 8 rfl Try.underlying22 Jo rfl (by decide) (by omega) u3 x3_1 x6_1 [.int .i64 x6_1] (fun _ => True) (fun _ => False) rfl rfl ?aP (fun _ hk => hk.elim) ?aF ?aO ?aB ?aS ?aL ?_; (case aP => exact rfl); (case aB => exact (by repeat (first | (with_reducible first | exact HB.out | apply zC | apply zB | apply zD) | exact HB.out))); (case aF => exact (fun _ _ => trivial)); (case aO => exact (by (with_reducible repeat (first | apply Kd.zR | apply Kd.zS | apply Kd.zV)); exact HO_3.out)); (case aS => exact (zP (by repeat (first | (with_reducible first | exact HB.out | apply zC | apply zB | apply zD) | exact HB.out)))); (case aL => have := LMc3.out; omega); intro v102 w4 ho hb hg hat; rw [← Ny101.out] at ho; have n0_ := zA.mk (hb); have n1_ := zA.mk (ho); clear HB; clear HO_3; have HB := n0_; have HO103 := n1_; clear n0_ n1_; clear ho hb hg hat))
          go_roundg k1
          case measure => have := HK1.out; omega
          case rel => exact ⟨(y101), (wrap64 (x6_1 + 1)), (by first | rfl | (simp; done) | (simp [*]; done)), H', ⟨by have := HK1.out; omega⟩, ⟨by (with_reducible repeat (first | apply Kd.zR | apply Kd.zS | apply Kd.zV)); exact HO103.out⟩, ⟨by repeat (first | (with_reducible first | exact HB.out | apply zC | apply zB | apply zD) | exact HB.out)⟩⟩
        · rw [if_neg c3] at H
          exact absurd H (by simp)
      · rw [if_neg c2] at H
        have c2b0 : decide (x6_1 < a0) = false := yhy c2
        clear c2
        obtain rfl := yey H
        go_wp2
        go_ret
        exact ⟨_, by first | rfl | (simp [zW, zX] <;> rfl) | (simp [*, zW, zX] <;> rfl), by (with_reducible repeat (first | apply Kd.zR | apply Kd.zS | apply Kd.zV)); exact HO_3.out, by repeat (first | (with_reducible first | exact HB.out | apply zC | apply zB | apply zD) | exact HB.out)⟩
end Go.Proofs.Ytembbpalgfikiaa.P
namespace Go.Proofs.Ytembbpalgfikiaa.Lib
open Go.RowKit Go.Proofs.YtembbpalgfikiaaW.PrintWords
def zGZ {α : Type} (f : α → Option Bool) : Nat → List α → Option Int
  | _, [] => some (-1)
  | i, x :: xs => (f x).bind fun b => if b = true then some (i : Int) else zGZ f (i + 1) xs
theorem zDE {α : Type} (f : α → Option Bool) (i : Nat) (x : α) (xs : List α) : zGZ f i (x :: xs) = (f x).bind fun b => if b = true then some (i : Int) else zGZ f (i + 1) xs := rfl
end Go.Proofs.Ytembbpalgfikiaa.Lib
namespace Go.Proofs.Ytembbpalgfikiaa.Lib
set_option linter.unusedVariables false
open Go.RowKit Go.Proofs.YtembbpalgfikiaaW.PrintWords
theorem zDj {σ ρ : Type} (L : Nat → σ → Option ρ) (I : σ → Prop) (m : σ → Nat) (g : σ → ρ)
    (h : ∀ s, I s → (∃ K, ∀ k, K ≤ k → L (k + 1) s = some (g s)) ∨ (∃ s' K, I s' ∧ m s' < m s ∧ g s' = g s ∧ ∀ k, K ≤ k → L (k + 1) s = L k s')) :
    ∀ s, I s → Ev (fun k => L k s) (g s) := by
  have key : ∀ (n : Nat) (s : σ), m s < n → I s → Ev (fun k => L k s) (g s) := by
    intro n
    induction n with
    | zero => intro s hs; omega
    | succ n ih =>
      intro s hs hi
      rcases h s hi with ⟨K, hK⟩ | ⟨s', K, hi', hm, hg, hK⟩
      · refine ⟨K + 1, fun k hk => ?_⟩
        obtain ⟨j, rfl⟩ : ∃ j, k = j + 1 := ⟨k - 1, by omega⟩
        exact hK j (by omega)
      · obtain ⟨K', hK'⟩ := ih s' (by omega) hi'
        refine ⟨max K K' + 1, fun k hk => ?_⟩
        obtain ⟨j, rfl⟩ : ∃ j, k = j + 1 := ⟨k - 1, by omega⟩
        show L (j + 1) s = some (g s)
        rw [hK j (by omega), ← hg]
        exact hK' j (by omega)
  intro s hi
  exact key (m s + 1) s (by omega) hi
theorem zEF {σ ρ : Type} (L : Nat → σ → Option ρ) (I : σ → Prop) (m : σ → Nat) (g : σ → ρ)
    (h : ∀ s, I s → (∀ k, L (k + 1) s = some (g s)) ∨ (∃ s', I s' ∧ m s' < m s ∧ g s' = g s ∧ ∀ k, L (k + 1) s = L k s')) :
    ∀ s, I s → Ev (fun k => L k s) (g s) :=
  zDj L I m g fun s hi => by
    rcases h s hi with h1 | ⟨s', h1, h2, h3, h4⟩
    · exact .inl ⟨0, fun k _ => h1 k⟩
    · exact .inr ⟨s', 0, h1, h2, h3, fun k _ => h4 k⟩
theorem qh {x : Int} (h0 : -9223372036854775808 ≤ x) (h1 : x ≤ 9223372036854775807) : wrap64 x = x := by
  unfold wrap64; omega
theorem ZI {n : Nat} (h : n ≤ 4611686018427387904) : wrap64 ((n : Int) + 1) = ((n + 1 : Nat) : Int) := by
  rw [qh (by omega) (by omega)]; rfl
theorem Jw (xs : List Int) (n : Nat) : rd xs (n : Int) = xs.getD n 0 := by simp [rd]
theorem zB7 (xs : List Int) (n : Nat) (h : n < xs.length) : rd xs (n : Int) = xs[n] := by simp [rd, h]
theorem QP {α : Type} {c : Prop} [Decidable c] {f g : Nat → Option α} {r : α} (h : ¬ c) (k : Ev g r) : Ev (fun n => if c then f n else g n) r := Ev.congr (fun _ => if_neg h) k
theorem qv {α : Type} {c : Prop} [Decidable c] {f g : Nat → Option α} {r : α} (h : c) (k : Ev f r) : Ev (fun n => if c then f n else g n) r := Ev.congr (fun _ => if_pos h) k
theorem zCW {α : Type} {r r' : α} (h : r = r') : Ev (fun _ => some r) r' := h ▸ Ev.now r
theorem Qj {α : Type} {o : Option α} {r : α} (h : o = some r) : Ev (fun _ => o) r := ⟨0, fun _ _ => h⟩
theorem zFZ {α : Type} {g : Nat → Option α} {r : α} (h : ∀ k, g k = some r) : Ev g r := ⟨0, fun k _ => h k⟩
theorem qT {α : Type} {g f : Nat → Option α} {r : α} (h : ∀ k, g (k + 1) = f k) (k : Ev f r) : Ev g r := Ev.step h k
theorem zEG {α : Type} {f : α → Option Bool} {p : α → Bool} : ∀ (i : Nat) (l : List α), (∀ x ∈ l, f x = some (p x)) → ∃ r, zGZ f i l = some r ∧ decide (0 ≤ r) = l.any p
  | i, [], _ => ⟨-1, rfl, rfl⟩
  | i, x :: xs, h => by
    rw [zDE, h x (List.mem_cons_self ..), yfy]
    cases hp : p x with
    | true => exact ⟨i, by rw [if_pos rfl], by simp [hp]⟩
    | false =>
      obtain ⟨r, h1, h2⟩ := zEG (i + 1) xs (fun y hy => h y (List.mem_cons_of_mem _ hy))
      exact ⟨r, by rw [if_neg (by simp)]; exact h1, by rw [h2]; simp [hp]⟩
theorem contO {α : Type} {f : α → Option Bool} {p : α → Bool} (l : List α) (h : ∀ x ∈ l, f x = some (p x)) : (zGZ f 0 l).bind (fun i => some (decide (0 ≤ i))) = some (l.any p) := by
  obtain ⟨r, h1, h2⟩ := zEG 0 l h
  rw [h1, yfy, h2]
def ZA (a : Int) : Nat → List Int
  | 0 => []
  | n + 1 => a :: ZA (a + 1) n
theorem qL (a : Int) (n : Nat) : (ZA a n).length = n := by
  induction n generalizing a with
  | zero => rfl
  | succ n ih => simp [ZA, ih]
theorem zC2 (a : Int) (n i : Nat) (h : i < n) : (ZA a n).getD i 0 = a + i := by
  induction n generalizing a i with
  | zero => omega
  | succ n ih =>
    cases i with
    | zero => simp [ZA]
    | succ i => simp only [ZA, List.getD_cons_succ]; rw [ih (a + 1) i (by omega)]; omega
end Go.Proofs.Ytembbpalgfikiaa.Lib
namespace Go.Proofs.Ytembbpalgfikiaa.Lib
open Go.RowKit Go.Proofs.YtembbpalgfikiaaW.PrintWords
set_option linter.unusedVariables false
def uni (s : List Int) (i k : Int) : List Int := s.map fun x => if x = rd s k then rd s i else x
def joi (s : List Int) (i k : Int) : List Int := s.map fun x => if x = max (rd s i) (rd s k) then min (rd s i) (rd s k) else x
def Ker (a b : List Int) : Prop := a.length = b.length ∧ ∀ i j : Nat, i < a.length → j < a.length → (a.getD i 0 = a.getD j 0 ↔ b.getD i 0 = b.getD j 0)
theorem Ker.refl (a : List Int) : Ker a a := ⟨rfl, fun _ _ _ _ => Iff.rfl⟩
theorem Jb {α β : Type} (f : α → β) (l : List α) (i : Nat) (d : β) (e : α) (h : i < l.length) : (l.map f).getD i d = f (l.getD i e) := by
  simp [List.getD_eq_getElem?_getD, h]
theorem ZQ (s : List Int) (i k : Int) : (uni s i k).length = s.length := by simp [uni]
theorem Zh (s : List Int) (i k : Int) : (joi s i k).length = s.length := by simp [joi]
theorem zFa (s : List Int) (i k : Int) (n : Nat) (h : n < s.length) : (uni s i k).getD n 0 = if s.getD n 0 = rd s k then rd s i else s.getD n 0 := Jb _ s n 0 0 h
theorem zDk (s : List Int) (i k : Int) (n : Nat) (h : n < s.length) : (joi s i k).getD n 0 = if s.getD n 0 = max (rd s i) (rd s k) then min (rd s i) (rd s k) else s.getD n 0 := Jb _ s n 0 0 h
theorem zEH (s : List Int) (i k : Int) (m n : Nat) (hm : m < s.length) (hn : n < s.length) :
    (uni s i k).getD m 0 = (uni s i k).getD n 0 ↔ (s.getD m 0 = s.getD n 0 ∨ ((s.getD m 0 = rd s i ∨ s.getD m 0 = rd s k) ∧ (s.getD n 0 = rd s i ∨ s.getD n 0 = rd s k))) := by
  rw [zFa s i k m hm, zFa s i k n hn]
  generalize s.getD m 0 = x
  generalize s.getD n 0 = y
  generalize rd s i = p
  generalize rd s k = q
  split <;> split <;> omega
theorem zEI (s : List Int) (i k : Int) (m n : Nat) (hm : m < s.length) (hn : n < s.length) :
    (joi s i k).getD m 0 = (joi s i k).getD n 0 ↔ (s.getD m 0 = s.getD n 0 ∨ ((s.getD m 0 = rd s i ∨ s.getD m 0 = rd s k) ∧ (s.getD n 0 = rd s i ∨ s.getD n 0 = rd s k))) := by
  rw [zDk s i k m hm, zDk s i k n hn]
  generalize s.getD m 0 = x
  generalize s.getD n 0 = y
  generalize rd s i = p
  generalize rd s k = q
  split <;> split <;> omega
theorem zFb (s : List Int) (i : Int) : rd s i = s.getD i.toNat 0 := rfl
theorem Ker.zHE {a b : List Int} (h : Ker a b) {i k : Int} (hi0 : 0 ≤ i) (hi1 : i < a.length) (hk0 : 0 ≤ k) (hk1 : k < a.length) : Ker (uni a i k) (joi b i k) := by
  refine ⟨by rw [ZQ, Zh]; exact h.1, fun m n hm hn => ?_⟩
  rw [ZQ] at hm hn
  have hm2 : m < b.length := by rw [← h.1]; exact hm
  have hn2 : n < b.length := by rw [← h.1]; exact hn
  rw [zEH a i k m n hm hn, zEI b i k m n hm2 hn2]
  have hi2 : i.toNat < a.length := by omega
  have hk2 : k.toNat < a.length := by omega
  simp only [zFb]
  rw [h.2 m n hm hn, h.2 m _ hm hi2, h.2 m _ hm hk2, h.2 n _ hn hi2, h.2 n _ hn hk2]
def zAC : List Int → List Int → List Int
  | _, [] => []
  | seen, x :: xs => if x ∈ seen then (seen.idxOf x : Int) :: zAC seen xs else (seen.length : Int) :: zAC (seen ++ [x]) xs
def zCX (l : List Int) : List Int := zAC [] l
theorem zAx : ∀ (l seen : List Int), (zAC seen l).length = l.length
  | [], _ => rfl
  | x :: xs, seen => by
    rw [zAC]; split <;> simp [zAx xs]
theorem zDl (l : List Int) : (zCX l).length = l.length := zAx l []
def Cons2 (P : List (Int × Int)) : Prop := ∀ p ∈ P, ∀ q ∈ P, p.1 = q.1 ↔ p.2 = q.2
theorem zHF (S : List (Int × Int)) (p : Int × Int) (h : ∀ q ∈ S, q.1 = p.1 ↔ q.2 = p.2) : p.1 ∈ S.map (·.1) ↔ p.2 ∈ S.map (·.2) := by
  simp only [List.mem_map]
  exact ⟨fun ⟨q, hq, e⟩ => ⟨q, hq, (h q hq).1 e⟩, fun ⟨q, hq, e⟩ => ⟨q, hq, (h q hq).2 e⟩⟩
theorem zFc : ∀ (S : List (Int × Int)) (p : Int × Int), (∀ q ∈ S, q.1 = p.1 ↔ q.2 = p.2) → (S.map (·.1)).idxOf p.1 = (S.map (·.2)).idxOf p.2
  | [], _, _ => rfl
  | q :: S, p, h => by
    have h0 := h q (List.mem_cons_self ..)
    have ih := zFc S p (fun r hr => h r (List.mem_cons_of_mem _ hr))
    simp only [yjy, List.idxOf_cons]
    by_cases e : q.1 = p.1
    · have e2 := h0.1 e
      simp [e, e2]
    · have e2 : ¬ q.2 = p.2 := fun e2 => e (h0.2 e2)
      have b1 : (q.1 == p.1) = false := by simpa using e
      have b2 : (q.2 == p.2) = false := by simpa using e2
      rw [b1, b2, ih]
theorem zAQ : ∀ (L S : List (Int × Int)), Cons2 (S ++ L) → zAC (S.map (·.1)) (L.map (·.1)) = zAC (S.map (·.2)) (L.map (·.2))
  | [], _, _ => rfl
  | p :: L, S, h => by
    have hS : ∀ q ∈ S, q.1 = p.1 ↔ q.2 = p.2 := fun q hq => h q (List.mem_append_left _ hq) p (List.mem_append_right _ (List.mem_cons_self ..))
    have hm := zHF S p hS
    simp only [yjy, zAC]
    by_cases e : p.1 ∈ S.map (·.1)
    · rw [if_pos e, if_pos (hm.1 e), zFc S p hS, zAQ L S (fun a ha b hb => h a (by simp only [List.mem_append, List.mem_cons] at ha ⊢; rcases ha with ha | ha <;> simp [ha]) b (by simp only [List.mem_append, List.mem_cons] at hb ⊢; rcases hb with hb | hb <;> simp [hb]))]
    · rw [if_neg e, if_neg (fun e2 => e (hm.2 e2))]
      have ih := zAQ L (S ++ [p]) (by rw [List.append_assoc]; exact h)
      simp only [List.map_append, yjy, yky] at ih
      rw [ih, List.length_map, List.length_map]
theorem Ker.zCX {a b : List Int} (h : Ker a b) : zCX a = zCX b := by
  have hz1 : (a.zip b).map (·.1) = a := by
    rw [List.map_fst_zip]; exact Nat.le_of_eq h.1
  have hz2 : (a.zip b).map (·.2) = b := by
    rw [List.map_snd_zip]; exact Nat.le_of_eq h.1.symm
  have hc : Cons2 (a.zip b) := by
    intro p hp q hq
    obtain ⟨i, hi, rfl⟩ := List.getElem_of_mem hp
    obtain ⟨j, hj, rfl⟩ := List.getElem_of_mem hq
    rw [List.length_zip] at hi hj
    have hi1 : i < a.length := by omega
    have hj1 : j < a.length := by omega
    have hi2 : i < b.length := by omega
    have hj2 : j < b.length := by omega
    have := h.2 i j hi1 hj1
    simpa [List.getElem_zip, List.getD_eq_getElem?_getD, hi1, hj1, hi2, hj2] using this
  have := zAQ (a.zip b) [] (by rw [List.nil_append]; exact hc)
  rw [hz1, hz2] at this
  exact this
theorem zFd (a x : Int) (n : Nat) : x ∈ ZA a n ↔ a ≤ x ∧ x < a + n := by
  induction n generalizing a with
  | zero => simp [ZA]; try omega
  | succ n ih => rw [ZA, List.mem_cons, ih]; omega
end Go.Proofs.Ytembbpalgfikiaa.Lib
namespace Go.Proofs.Ytembbpalgfikiaa.P
open Go.RowKit Go.Proofs.YtembbpalgfikiaaW.PrintWords Go.Proofs.YtembbpalgfikiaaW.PrintLast Go.Proofs.YtembbpalgfikiaaW.PrintMore
attribute [local go_sem] JH JI Ju Jv Ql Qm JJ JK
set_option linter.unusedVariables false
set_option linter.unusedSimpArgs false
structure zCY (seen : List Int) (D : DataW Unit) : Prop where
  tidy : Maps.Tidy D
  size : Maps.size D = seen.length
  has : ∀ x, Maps.has D (.int .i64 x) = seen.contains x
  at_ : ∀ x, x ∈ seen → D.atKey (.int .i64 x) (.lit (.int .i64 0)) = .lit (.int .i64 (seen.idxOf x : Int))
theorem zCY.empty : zCY [] (.map []) := ⟨Maps.tidy_empty, rfl, fun _ => rfl, fun _ h => by cases h⟩
theorem zCY.put {seen : List Int} {D : DataW Unit} (h : zCY seen D) {x : Int} (hx : x ∉ seen) : zCY (seen ++ [x]) (D.put (.int .i64 x) (.lit (.int .i64 (seen.length : Int)))) := by
  refine ⟨h.tidy.put (show WideAt.IsKeyLit (.int .i64 x) from trivial) _, ?_, fun y => ?_, fun y hy => ?_⟩
  · rw [Maps.size_put h.tidy, h.has, h.size]
    have : seen.contains x = false := by simpa using hx
    rw [this]; simp
  · by_cases e : y = x
    · subst e
      rw [Maps.has_put_same h.tidy.isMap (show WideAt.IsKeyLit (.int .i64 y) from trivial)]; simp
    · rw [Maps.has_put_other (by simpa using e), h.has]
      simp [e]
  · by_cases e : y = x
    · subst e
      rw [Maps.atKey_put_same h.tidy.isMap (show WideAt.IsKeyLit (.int .i64 y) from trivial), List.idxOf_append]; simp [hx]
    · rw [Maps.atKey_put_other (by simpa using e)]
      have hm : y ∈ seen := by simpa [e] using hy
      rw [h.at_ y hm, List.idxOf_append, if_pos hm]
theorem zCY.get {seen : List Int} {D : DataW Unit} (h : zCY seen D) {x c : Int} (hx : x ∈ seen) (hat : D.atKey (.int .i64 x) (.lit (.int .i64 0)) = .lit (.int .i64 c)) : c = (seen.idxOf x : Int) := by
  have := (h.at_ x hx).symm.trans hat
  simpa using this.symm
theorem zBC {a : Int} (h0 : 0 ≤ a) (h1 : a ≤ 1000000) : (Lit.int .i64 a).wf = true := by
  unfold Lit.wf
  rw [Bool.and_eq_true]
  exact ⟨ygy (by show (-9223372036854775808 : Int) ≤ a; omega), ygy (by show a ≤ (9223372036854775807 : Int); omega)⟩
def zDm (l : List Int) : Bool := decide (l.length ≤ 1000000) && l.all fun x => decide (0 ≤ x ∧ x ≤ 1000000)
def Qa.f (l0 : List Int) : Option (List Int) := if zDm l0 = true then some (Lib.zCX l0) else none
set_option maxHeartbeats 8000000 in
set_option maxRecDepth 100000 in
theorem Qa.calls (A0 : Option Addr) (c0 : Nat) (l0 : List Int) (r : List Int) (w : World) (hr0 : Kd.C (Kd.int .i64) w A0 l0.length l0) (hc0 : l0.length ≤ c0) (h : Qa.f l0 = some r) :
    Calls Try.prog 109 #[.slice A0 l0.length c0] w fun e w' => ∃ v0_ : Value, e = .returned (v0_) ∧ Kd.R (Kd.int .i64) 2 w' w.heap.size (fun _ => True) v0_ r ∧ Below w.heap.size w w' := by
  unfold Qa.f at h
  by_cases hok : zDm l0 = true
  case neg => rw [if_neg hok] at h; cases h
  rw [if_pos hok] at h
  have hr := yey h
  subst hr
  clear h
  simp only [zDm, Bool.and_eq_true, decide_eq_true_eq, List.all_eq_true] at hok
  obtain ⟨hlen, hall⟩ := hok
  have HALL := zA.mk hall
  have HR := zA.mk hr0
  have HC := zA.mk hc0
  clear hr0 hc0 hall
  have hmm := @run_makeMap Try.prog
  have HK := zA.mk (Maps.int_keyed Try.underlying2 : Maps.Keyed Try.prog 2)
  have HZ := zA.mk (show ∀ w : World, (zeroValue 2).run Try.prog w = .ok (.int .i64 0) w from fun w => by kernel_rfl)
  have HA : zA ([] ++ Lib.zAC [] (l0.drop 0) = Lib.zCX l0) := ⟨rfl⟩
  generalize Lib.zCX l0 = R at HA ⊢
  go_enter Try.func109, Try.ntmps109
  go_wp2
  go_loopg [4, 12] l0.length (fun gg v4 v12 w' => ∃ (i : Nat) (seen acc : List Int) (D : DataW Unit), i ≤ l0.length ∧ l0.length - i ≤ gg ∧ v12 = .int .i64 i ∧ zA (acc ++ Lib.zAC seen (l0.drop i) = R) ∧ zA (zCY seen D ∧ seen.length ≤ i ∧ acc.length = i) ∧ zA (w'.ownsMap Try.prog 2 (plainElem Try.prog 2) w.heap.size i D) ∧ zA (Kd.R (Kd.int .i64) 2 w' w.heap.size (fun k => k ≠ w.heap.size) v4 acc) ∧ zA (Below w.heap.size w w' ∧ w.heap.size + 1 ≤ w'.heap.size))
  case atStart => exact ⟨0, [], [], .map [], Nat.zero_le _, by omega, rfl, HA, ⟨zCY.empty, yry _, rfl⟩, ⟨World.ownsMap_made _ _ _ _⟩, ⟨Kd.zCN _ _ _ _ _⟩, ⟨zC (ysy _ _) _, by simp⟩⟩
  case round =>
    clear HA
    obtain ⟨i, seen, acc, D, hi, hg, rfl, HA, HM, HO, HV, HB⟩ := hrel
    by_cases hlt : i < l0.length
    · have hltz : (i : Int) < (l0.length : Int) := by omega
      obtain ⟨ad, e1, hx⟩ := Kd.qz HR.out (i : Int) (by omega) (by omega)
      have ex : rd l0 (i : Int) = l0[i] := by simp [rd, hlt]
      rw [ex, yny] at hx
      replace hx := (HB.out.1.cell (yqy w _ hx)).trans hx
      have hy := HALL.out l0[i] (yoy hlt)
      have HA2 := HA.out
      rw [ypy hlt, Lib.zAC] at HA2
      have HA3 := zA.mk HA2
      clear HA HA2 ex
      generalize l0[i] = y at hx hy HA3
      cases e1
      have HKEY := zA.mk (Maps.keyOf_int_mk Try.underlying2 (zBC hy.1 hy.2))
      clear hy
      by_cases hm : y ∈ seen
      · have hhas : Maps.has D (.int .i64 y) = true := by rw [HM.out.1.has]; simpa using hm
        have HMS := zA.mk hm
        have HA4 : zA (acc ++ (seen.idxOf y : Int) :: Lib.zAC seen (l0.drop (i + 1)) = R) := ⟨by have h := HA3.out; rwa [if_pos hm] at h⟩
        clear hm HA3
        go_wp2_with (first
          | (at_lookup; refine wpList_lookup_own_ok_int _ rfl _ _ 126 rfl 2 2 .i64 HK.out Try.underlying126 Try.underlying2 (HZ.out _) w.heap.size i D rfl HO.out _ _ rfl HKEY.out ?_; intro c1 hat1 hwc1; clear hat1 hwc1)
          | (at_lookup; refine wpList_lookup_own_int _ rfl _ _ 126 rfl 2 2 .i64 HK.out Try.underlying126 Try.underlying2 (HZ.out _) w.heap.size i D rfl HO.out _ _ rfl HKEY.out ?_; intro c hat hwc; have HCC := zA.mk (HM.out.1.get HMS.out hat); clear hat hwc)
          | ((with_reducible refine ZM (b := .append) (xs := #[.tmp 28, .tmp 32]) rfl ?_); at_builtin; refine Kd.Qi (Kd.int .i64) (w0 := w) w.heap.size rfl (.tmp 28) (.tmp 32) 22 2 (.int .i64 0) 8 rfl Try.underlying22 Jo rfl (by decide) (by omega) u4 acc c [.int .i64 c] (fun k => k ≠ w.heap.size) (fun _ => False) rfl rfl ?aP (fun _ hk => hk.elim) ?aF ?aO ?aB ?aS ?aL ?_; (case aP => exact rfl); (case aB => exact HB.out.1); (case aF => exact (fun k hk e => by have := HB.out.2; omega)); (case aO => exact HV.out); (case aS => exact HB.out.1.size); (case aL => have := HM.out.2.2; omega); intro v102 w4 ho hb hg2 hat; have HO2 := zA.mk ((HO.out.kept hg2 (fun e => HV.out.1 _ e.symm rfl)).mono (Nat.le_succ i)); have HV2 := zA.mk ho; have HB2 := zA.mk (And.intro hb (Nat.le_trans HB.out.2 hg2.size)); clear HO HV HB ho hb hg2 hat))
        go_roundg (l0.length - (i + 1))
        case measure => omega
        case rel => exact ⟨i + 1, seen, acc ++ [c], D, by omega, by omega, by go_num, ⟨by have h := HA4.out; rw [← HCC.out] at h; rw [List.append_assoc]; exact h⟩, ⟨HM.out.1, by have := HM.out.2.1; omega, by have := HM.out.2.2; simp; omega⟩, HO2, HV2, HB2⟩
      · have hhas : Maps.has D (.int .i64 y) = false := by rw [HM.out.1.has]; simpa using hm
        have HM2 := zA.mk (HM.out.1.put hm)
        have HA4 : zA (acc ++ (seen.length : Int) :: Lib.zAC (seen ++ [y]) (l0.drop (i + 1)) = R) := ⟨by have h := HA3.out; rwa [if_neg hm] at h⟩
        have HIX : zA ((seen ++ [y]).idxOf y = seen.length) := ⟨by rw [List.idxOf_append, if_neg hm]; simp⟩
        have hsz : Maps.size D = seen.length := HM.out.1.size
        clear hm HA3
        have HSL := zA.mk HM.out.2.1
        have HWF := zA.mk (show (Lit.int .i64 ((seen.length : Nat) : Int)).wf = true from zBC (by omega) (by have := HM.out.2.1; omega))
        go_wp2_with (first
          | (at_lookup; refine wpList_lookup_own_ok_int _ rfl _ _ 126 rfl 2 2 .i64 HK.out Try.underlying126 Try.underlying2 (HZ.out _) w.heap.size i D rfl HO.out _ _ rfl HKEY.out ?_; intro c1 hat1 hwc1; clear hat1 hwc1)
          | (at_len; refine wpList_len_own _ rfl _ 126 rfl 2 2 Try.underlying126 _ w.heap.size i D rfl HO.out ?_; rw [hsz])
          | (at_mapUpdate; refine wpList_mapUpdate_own _ rfl _ _ _ 126 rfl 2 2 HK.out Try.underlying126 _ w.heap.size i D rfl HO.out (by unfold maxLen; omega) _ _ _ rfl rfl HKEY.out (.lit (.int .i64 (seen.length : Int))) [] (plainElem_int Try.underlying2 HWF.out) ?_; intro w1 hown1 hgrow1; have HO1 := zA.mk hown1; have HV1 := zA.mk (Kd.zDc HV.out hgrow1 (fun k hk e => hk (yey e))); have HB1 := zA.mk (And.intro (HB.out.1.grown hgrow1 HB.out.1.size (fun j hj => by cases hj; exact yry _)) (Nat.le_trans HB.out.2 hgrow1.size)); clear HO HV HB hown1 hgrow1)
          | (at_lookup; refine wpList_lookup_own_int _ rfl _ _ 126 rfl 2 2 .i64 HK.out Try.underlying126 Try.underlying2 (HZ.out _) w.heap.size (i + 1) _ rfl HO1.out _ _ rfl HKEY.out ?_; intro c hat hwc; have HCC := zA.mk (HM2.out.get (by simp) hat); clear hat hwc)
          | ((with_reducible refine ZM (b := .append) (xs := #[.tmp 28, .tmp 32]) rfl ?_); at_builtin; refine Kd.Qi (Kd.int .i64) (w0 := w) w.heap.size rfl (.tmp 28) (.tmp 32) 22 2 (.int .i64 0) 8 rfl Try.underlying22 Jo rfl (by decide) (by omega) u4 acc c [.int .i64 c] (fun k => k ≠ w.heap.size) (fun _ => False) rfl rfl ?aP (fun _ hk => hk.elim) ?aF ?aO ?aB ?aS ?aL ?_; (case aP => exact rfl); (case aB => exact HB1.out.1); (case aF => exact (fun k hk e => by have := HB1.out.2; omega)); (case aO => exact HV1.out); (case aS => exact HB1.out.1.size); (case aL => have := HM.out.2.2; omega); intro v102 w4 ho hb hg2 hat; have HO2 := zA.mk (HO1.out.kept hg2 (fun e => HV1.out.1 _ e.symm rfl)); have HV2 := zA.mk ho; have HB2 := zA.mk (And.intro hb (Nat.le_trans HB1.out.2 hg2.size)); clear HO1 HV1 HB1 ho hb hg2 hat))
        go_roundg (l0.length - (i + 1))
        case measure => omega
        case rel => exact ⟨i + 1, seen ++ [y], acc ++ [c], _, by omega, by omega, by go_num, ⟨by have h := HA4.out; rw [← HIX.out, ← HCC.out] at h; rw [List.append_assoc]; exact h⟩, ⟨HM2.out, by have := HSL.out; simp; omega, by have := HM.out.2.2; simp; omega⟩, HO2, HV2, HB2⟩
    · obtain rfl : i = l0.length := by omega
      have HA2 := HA.out
      rw [List.drop_length, Lib.zAC, List.append_nil] at HA2
      subst HA2
      go_wp2
      go_ret
      exact ⟨_, rfl, Kd.zt HV.out (fun _ _ => trivial), HB.out.1⟩
def zDn : Go.Shelf.Ren := ⟨fun | 45 => 127 | n => n, fun | 22 => 22 | 23 => 2 | 3 => 3 | 4 => 4 | 0 => 0 | n => n, fun | n => n⟩
theorem zHG : Go.Proofs.SlLaysN.n45 Try.prog zDn := {
  mixed := by kernel_rfl
  f45 := ⟨Try.f127.name, by decide, Try.func127.trans (congrArg some (by kernel_rfl))⟩
  t0 := Try.underlying0
  a0 := Try.isAgg0
  z0 := Try.sizeOf0
  v0 := Try.zeroValue0
  t3 := Try.underlying3
  a3 := Try.isAgg3
  z3 := Try.sizeOf3
  v3 := Try.zeroValue3
  t4 := Try.underlying4
  a4 := Try.isAgg4
  z4 := Try.sizeOf4
  v4 := Try.zeroValue4
  t22 := Try.underlying22
  a22 := Try.isAgg22
  z22 := Try.sizeOf22
  v22 := Try.zeroValue22
  t23 := Try.underlying2
  a23 := Try.isAgg2
  z23 := Try.sizeOf2
  v23 := Try.zeroValue2
  i23 := by kernel_rfl }
theorem erase_eq (xs : List Int) (i : Nat) : xs.take i ++ xs.drop (i + 1) = xs.eraseIdx i := (List.eraseIdx_eq_take_drop_succ xs i).symm
theorem Zu.zEJ (g cap i : Nat) (xs : List Int) (base : Nat) (ok : Nat → Prop) (w : World) (ho : Kd.R (Kd.int .i64) 2 w base ok (.slice (some ⟨g, 0, none⟩) xs.length cap) xs) (hi : i < xs.length) :
    Calls Try.prog 127 #[.slice (some ⟨g, 0, none⟩) xs.length cap, .int .i64 i, .int .i64 (i + 1)] w fun e w' => e = .returned (.slice (some ⟨g, 0, none⟩) (xs.length - 1) cap) ∧
      Kd.R (Kd.int .i64) 2 w' base ok (.slice (some ⟨g, 0, none⟩) (xs.length - 1) cap) (xs.eraseIdx i) ∧ w.grownBy w' (some g) := by
  have hown := Kd.zCO ho
  rcases hown.2 with ⟨hv, _⟩ | ⟨g', cap', cur, hv, hbase, hh, hle, hmax, hcs, htake⟩
  · cases hv
  injection hv with hv1 _ hv3
  injection hv1 with hv1
  injection hv1 with hv1 _ _
  subst hv1 hv3
  rw [Nat.mul_one] at hcs htake
  have hcell : ∀ j, j < xs.length → w.cell? ⟨g, 0 + j, none⟩ = some (.int .i64 xs[j]!) := by
    intro j hj
    rw [Nat.zero_add]
    have h1 : cur.toList[j]? = some (.int .i64 xs[j]!) := by
      have h2 : (cur.toList.take xs.length)[j]? = some (.int .i64 xs[j]!) := by
        rw [htake, zAU, List.getElem?_map, List.getElem?_eq_getElem hj]
        simp [getElem!_pos, hj]
      rw [List.getElem?_take, if_pos hj] at h2
      exact h2
    rw [zL hh j, ← Array.getElem?_toList, h1]
  have hH : Go.Sort.Holds (Value.int .i64) w g 0 xs.toArray := by
    intro j hj
    have hj' : j < xs.length := by simpa using hj
    refine ⟨?_, by rw [Nat.zero_add]; exact zN hh j⟩
    rw [hcell j hj']
    simp [getElem!_pos, hj']
  have hc := AnyG.slices_Delete_int zHG g 0 cap i (i + 1) xs w hH hle (by unfold maxLen at hmax; omega) (by omega) (by omega)
  have hc2 : Calls Try.prog 127 #[.slice (some ⟨g, 0, none⟩) xs.length cap, .int .i64 (i : Nat), .int .i64 ((i + 1 : Nat) : Int)] w fun e w' => e = .returned (.slice (some ⟨g, 0, none⟩) (xs.length - (i + 1 - i)) cap) ∧ ∃ q, w' = Go.Sort.putRow (Value.int .i64) (Go.Sort.ahead w q) g 0 (xs.take i ++ xs.drop (i + 1) ++ List.replicate (i + 1 - i) 0).toArray := hc
  refine hc2.mono ?_
  rintro e w' ⟨rfl, q, rfl⟩
  have hlen : (xs.eraseIdx i).length = xs.length - 1 := by rw [List.length_eraseIdx]; simp [hi]
  have hd : xs.take i ++ xs.drop (i + 1) ++ List.replicate (i + 1 - i) 0 = xs.eraseIdx i ++ [0] := by
    rw [erase_eq, show i + 1 - i = 1 by omega]; rfl
  rw [hd, show i + 1 - i = 1 by omega]
  have hheap : (Go.Sort.putRow (Value.int .i64) (Go.Sort.ahead w q) g 0 (xs.eraseIdx i ++ [0]).toArray).heap[g]? = some (.cells (Go.Sort.putCells (Value.int .i64) 0 (xs.eraseIdx i ++ [0]).toArray cur) 2 (0, 0)) := by
    show (w.heap.modify g _)[g]? = _
    rw [Array.getElem?_modify, if_pos rfl, hh]
    rfl
  have hfar : ∀ k, k ≠ g → (Go.Sort.putRow (Value.int .i64) (Go.Sort.ahead w q) g 0 (xs.eraseIdx i ++ [0]).toArray).heap[k]? = w.heap[k]? := by
    intro k hk
    show (w.heap.modify g _)[k]? = _
    rw [Array.getElem?_modify, if_neg (Ne.symm hk)]
  refine ⟨rfl, ?_, ⟨rfl, rfl, rfl, ?_, fun k _ hk => hfar k (fun e => hk (by rw [e]))⟩⟩
  · have e1 : xs.length - 1 = (xs.eraseIdx i).length := hlen.symm
    rw [e1]
    refine Kd.JZ ⟨by simp [zAU], .inr ⟨g, cap, _, rfl, hbase, hheap, by omega, hmax, by simp [Go.Sort.putCells, hcs], ?_⟩⟩ (fun k hk => ho.1 k hk)
    rw [Nat.mul_one]
    apply List.ext_getElem?
    intro j
    rw [List.getElem?_take]
    by_cases hj : j < (xs.eraseIdx i).length
    · rw [if_pos hj, Array.getElem?_toList, Go.Sort.putCells, Array.getElem?_mapIdx, Array.getElem?_eq_getElem (by omega), Option.map_some, if_pos ⟨by omega, by simp; omega⟩, Nat.sub_zero, zAU, List.getElem?_map, List.getElem?_eq_getElem hj, Option.map_some]
      congr 2
      rw [List.getElem!_toArray, getElem!_pos _ j (by simp; omega), List.getElem_append_left hj]
    · rw [if_neg hj, List.getElem?_eq_none (by simp [zAU]; omega)]
  · show w.heap.size ≤ (w.heap.modify g _).size
    rw [Array.size_modify]
    omega
def zFe : Nat → Int
 | 0 => 6
 | 1 => 2
 | _ => 1
def ZD (p : Int) : Nat → Int
 | 0 => p
 | i + 1 => ZD p i % zFe i
def Zv (p : Int) (i : Nat) : Int := ZD p i / zFe i
def zr (p : Int) : Nat → List Int
 | 0 => [0, 1, 2, 3]
 | i + 1 => (zr p i).eraseIdx (Zv p i).toNat
def zn (p : Int) (i : Nat) : Int := (zr p i).getD (Zv p i).toNat 0
def qR (p : Int) : List Int := [zn p 0, zn p 1, zn p 2, zn p 3]
theorem zEK (p : Int) (h0 : 0 ≤ p) (h1 : p ≤ 23) : (0 ≤ ZD p 0 ∧ ZD p 0 ≤ 23) ∧ (0 ≤ ZD p 1 ∧ ZD p 1 ≤ 5) ∧ (0 ≤ ZD p 2 ∧ ZD p 2 ≤ 1) ∧ (0 ≤ ZD p 3 ∧ ZD p 3 ≤ 0) := by
 simp only [ZD, zFe]; omega
theorem zEL (p : Int) (h0 : 0 ≤ p) (h1 : p ≤ 23) : (0 ≤ Zv p 0 ∧ Zv p 0 < 4) ∧ (0 ≤ Zv p 1 ∧ Zv p 1 < 3) ∧ (0 ≤ Zv p 2 ∧ Zv p 2 < 2) ∧ (0 ≤ Zv p 3 ∧ Zv p 3 < 1) := by
 have := zEK p h0 h1
 simp only [Zv, zFe]; omega
theorem zDF (p : Int) (h0 : 0 ≤ p) (h1 : p ≤ 23) : (zr p 0).length = 4 ∧ (zr p 1).length = 3 ∧ (zr p 2).length = 2 ∧ (zr p 3).length = 1 ∧ (zr p 4).length = 0 := by
 obtain ⟨a, b, c, d⟩ := zEL p h0 h1
 have e0 : (zr p 0).length = 4 := rfl
 have e1 : (zr p 1).length = 3 := by rw [zr, List.length_eraseIdx, e0, if_pos (by omega)]
 have e2 : (zr p 2).length = 2 := by rw [zr, List.length_eraseIdx, e1, if_pos (by omega)]
 have e3 : (zr p 3).length = 1 := by rw [zr, List.length_eraseIdx, e2, if_pos (by omega)]
 have e4 : (zr p 4).length = 0 := by rw [zr, List.length_eraseIdx, e3, if_pos (by omega)]
 exact ⟨e0, e1, e2, e3, e4⟩
theorem zEM {W : World} {n : Nat} (h : W.heap.size = n) (o : Obj) : (W.alloc o).heap[n]? = some o := h ▸ zDb W o
def Zy (p : Int) (i j : Nat) : Int := if j < i then zn p j else 0
set_option maxHeartbeats 8000000 in
set_option maxRecDepth 100000 in
theorem zBb.calls (p : Int) (w : World) (h0 : 0 ≤ p) (h1 : p ≤ 23) :
 Calls Try.prog 105 #[.int .i64 p] w fun e w' => e = .returned (.agg #[.int .i64 (zn p 0), .int .i64 (zn p 1), .int .i64 (zn p 2), .int .i64 (zn p 3)]) ∧ Below w.heap.size w w' := by
 have HP := zA.mk (zEK p h0 h1)
 have HK := zA.mk (zEL p h0 h1)
 have HL := zA.mk (zDF p h0 h1)
 clear h0 h1
 go_enter Try.func105, Try.ntmps105
 go_wp2_with fail
 go_loopg [0, 4, 11] 4 (fun gg v0 v4 v11 w' => ∃ i : Nat, i ≤ 4 ∧ 4 - i ≤ gg ∧ v11 = .int .i64 i ∧ v0 = .int .i64 (ZD p i) ∧ v4 = .slice (some ⟨w.heap.size + 1 + 1, 0, none⟩) (zr p i).length 4 ∧
  zA (Kd.R (Kd.int .i64) 2 w' w.heap.size (fun k => k = w.heap.size + 1 + 1) (.slice (some ⟨w.heap.size + 1 + 1, 0, none⟩) (zr p i).length 4) (zr p i)) ∧
  zA (w'.heap[w.heap.size + 1]? = some (.cells #[.int .i64 (Zy p i 0), .int .i64 (Zy p i 1), .int .i64 (Zy p i 2), .int .i64 (Zy p i 3)] 101 (0, 0))) ∧
  zA (w'.heap[w.heap.size]? = some (.cells #[.int .i64 0, .int .i64 0, .int .i64 0, .int .i64 0] 101 (0, 0))) ∧
  zA (w'.heap[w.heap.size + 1 + 1 + 1]? = some (.cells #[.int .i64 6, .int .i64 2, .int .i64 1, .int .i64 1] 2 (0, 0))) ∧ zA (Below w.heap.size w w'))
 case atStart =>
  refine ⟨0, by omega, by omega, rfl, rfl, rfl, ⟨?_⟩, ⟨?_⟩, ⟨?_⟩, ⟨?_⟩, ⟨?_⟩⟩
  next =>
   refine Kd.JZ ⟨by simp [zAU], .inr ⟨w.heap.size + 1 + 1, 4, #[.int .i64 0, .int .i64 1, .int .i64 2, .int .i64 3], rfl, by omega, ?_, yry 4, by decide, rfl, rfl⟩⟩ (fun k hk => by simpa [Value.ownBlock] using hk.symm)
   exact zG (zEM (by simp) _) _
  next =>
   exact zG (zG (zEM (by simp) _) _) _
  next =>
   exact zG (zG (zG (zEM rfl _) _) _) _
  next =>
   exact zEM (by simp) _
  next =>
   exact zC (zC (zC (zC (ysy _ _) _) _) _) _
 case round =>
  obtain ⟨i, hi, hg, rfl, rfl, rfl, HR, B3, B2, B9, HB⟩ := hrel
  rcases (show i = 4 ∨ i = 3 ∨ i = 2 ∨ i = 1 ∨ i = 0 by omega) with rfl | rfl | rfl | rfl | rfl
  next =>
   have c0 : wr.cell? ⟨w.heap.size + 1, 0, none⟩ = some (.int .i64 (Zy p 4 0)) := (zL B3.out 0).trans rfl
   have c1 : wr.cell? ⟨w.heap.size + 1, 1, none⟩ = some (.int .i64 (Zy p 4 1)) := (zL B3.out 1).trans rfl
   have c2 : wr.cell? ⟨w.heap.size + 1, 2, none⟩ = some (.int .i64 (Zy p 4 2)) := (zL B3.out 2).trans rfl
   have c3 : wr.cell? ⟨w.heap.size + 1, 3, none⟩ = some (.int .i64 (Zy p 4 3)) := (zL B3.out 3).trans rfl
   have d0 : wr.cell? ⟨w.heap.size, 0, none⟩ = some (.int .i64 0) := (zL B2.out 0).trans rfl
   have d1 : wr.cell? ⟨w.heap.size, 1, none⟩ = some (.int .i64 0) := (zL B2.out 1).trans rfl
   have d2 : wr.cell? ⟨w.heap.size, 2, none⟩ = some (.int .i64 0) := (zL B2.out 2).trans rfl
   have d3 : wr.cell? ⟨w.heap.size, 3, none⟩ = some (.int .i64 0) := (zL B2.out 3).trans rfl
   have f0 := zN B2.out 0
   have f1 := zN B2.out 1
   have f2 := zN B2.out 2
   have f3 := zN B2.out 3
   have ht := Try.underlying101
   go_wp2
   refine bodyPost_ret (results_cell_row rfl _ _ w.heap.size 101 #[.int .i64 (Zy p 4 0), .int .i64 (Zy p 4 1), .int .i64 (Zy p 4 2), .int .i64 (Zy p 4 3)] (0, 0) _ rfl (qZ (cs := #[.int .i64 (Zy p 4 0), .int .i64 (Zy p 4 1), .int .i64 (Zy p 4 2), .int .i64 0]) (qZ (cs := #[.int .i64 (Zy p 4 0), .int .i64 (Zy p 4 1), .int .i64 0, .int .i64 0]) (qZ (cs := #[.int .i64 (Zy p 4 0), .int .i64 0, .int .i64 0, .int .i64 0]) (qZ B2.out 0 _ rfl) 1 _ rfl) 2 _ rfl) 3 _ rfl) ht rfl (by kernel_rfl)) rfl ⟨rfl, ?_⟩
   exact zF (zF (zF (zF HB.out (yry _)) (yry _)) (yry _)) (yry _)
  next =>
   have hK : 0 ≤ Zv p 3 ∧ Zv p 3 < (zr p 3).length := by have := HK.out; have := HL.out; omega
   have hP : 0 ≤ ZD p 3 ∧ ZD p 3 ≤ 23 := by have := HP.out; omega
   have HLN := zA.mk (show (zr p 3).length = 1 by have := HL.out; omega)
   have HLN2 := zA.mk (show (zr p 4).length = (zr p 3).length - 1 by have := HL.out; omega)
   obtain ⟨A1, q1, hA1, hq1, hC⟩ := Kd.zAM HR.out
   injection hA1 with hA1 hl1 hc1
   subst hA1
   clear hl1 hc1 hq1
   obtain ⟨ad, had, hx⟩ := Kd.qz hC (Zv p 3) hK.1 (by omega)
   injection had with had
   subst had
   rw [add_plain] at hx
   have HAT := zA.mk (show rd (zr p 3) (Zv p 3) = zn p 3 from rfl)
   rw [HAT.out] at hx
   have HER := zA.mk (show (zr p 3).eraseIdx (Zv p 3).toNat = zr p 4 from rfl)
   have hX : Zv p 3 = ZD p 3 := by have e : Zv p 3 = ZD p 3 / 1 := rfl; rw [e]; exact Int.ediv_one _
   have HY := zA.mk (show 0 = ZD p 4 by have e : ZD p 4 = ZD p 3 % 1 := rfl; rw [e]; omega)
   rw [hX] at hx hK
   have HX := zA.mk hX
   clear hX hC
   obtain ⟨hk0, hk1⟩ := hK
   obtain ⟨hp0, hp1⟩ := hP
   have b9 : wr.cell? ⟨w.heap.size + 1 + 1 + 1, 3, none⟩ = some (.int .i64 1) := (zL B9.out 3).trans rfl
   have b3 : wr.cell? ⟨w.heap.size + 1, 3, none⟩ = some (.int .i64 (Zy p 3 3)) := (zL B3.out 3).trans rfl
   have f3 := zN B3.out 3
   have hk2 : ZD p 3 < 9223372036854775807 := by omega
   go_wp2_with fail
   have HRw := zA.mk (show Kd.R (Kd.int .i64) 2 (wr.setCell ⟨w.heap.size + 1, 3, none⟩ (.int .i64 (zn p 3))) w.heap.size (fun k => k = w.heap.size + 1 + 1) (.slice (some ⟨w.heap.size + 1 + 1, 0, none⟩) (zr p 3).length 4) (zr p 3) from Kd.ZG (p := ⟨w.heap.size + 1, 3, none⟩) HR.out (fun k hk => by rw [hk]; show w.heap.size + 1 + 1 ≠ w.heap.size + 1; omega) _)
   refine Qs (args' := #[.slice (some ⟨w.heap.size + 1 + 1, 0, none⟩) (zr p 3).length 4, .int .i64 ((ZD p 3).toNat : Int), .int .i64 (((ZD p 3).toNat : Int) + 1)]) (by rw [Int.toNat_of_nonneg hk0]) ?_
   refine (Zu.zEJ (w.heap.size + 1 + 1) 4 (ZD p 3).toNat (zr p 3) w.heap.size (fun k => k = w.heap.size + 1 + 1) _ HRw.out (by omega)).mono ?_
   rintro e w1 ⟨rfl, hR1, hg1⟩
   have hl2 := HLN2.out
   have er : (zr p 3).eraseIdx (ZD p 3).toNat = zr p 4 := by rw [← HER.out, HX.out]
   rw [er, ← hl2] at hR1
   rw [← hl2]
   have HR2 := zA.mk hR1
   have B3a : (wr.setCell ⟨w.heap.size + 1, 3, none⟩ (.int .i64 (zn p 3))).heap[w.heap.size + 1]? = some (.cells #[.int .i64 (Zy p 4 0), .int .i64 (Zy p 4 1), .int .i64 (Zy p 4 2), .int .i64 (Zy p 4 3)] 101 (0, 0)) := qZ B3.out 3 _ rfl
   have B3n := zA.mk (qm B3a hg1 (by simp))
   have B2n := zA.mk (qm (qM (p := ⟨w.heap.size + 1, 3, none⟩) B2.out (by show w.heap.size ≠ w.heap.size + 1; omega) (.int .i64 (zn p 3))) hg1 (by simp; omega))
   have B9n := zA.mk (qm (qM (p := ⟨w.heap.size + 1, 3, none⟩) B9.out (by show w.heap.size + 1 + 1 + 1 ≠ w.heap.size + 1; omega) (.int .i64 (zn p 3))) hg1 (by simp))
   have HBn := zA.mk (Qh (zF (j := 3) (v := .int .i64 (zn p 3)) HB.out (show w.heap.size ≤ w.heap.size + 1 by omega)) (some (w.heap.size + 1 + 1)) (by have := HB.out.size; simp [World.setCell]; omega) hg1 (fun k hk => by injection hk with hk; omega))
   clear hR1 hg1 B3a HRw B3 B2 B9 HB HR er hl2 hx b9 b3 f3
   go_wp2
   go_roundg (4 - 4)
   case measure => omega
   case rel => exact ⟨4, by omega, by omega, by first | rfl | go_num, by rw [← HY.out], rfl, HR2, B3n, B2n, B9n, HBn⟩
  next =>
   have hK : 0 ≤ Zv p 2 ∧ Zv p 2 < (zr p 2).length := by have := HK.out; have := HL.out; omega
   have hP : 0 ≤ ZD p 2 ∧ ZD p 2 ≤ 23 := by have := HP.out; omega
   have HLN := zA.mk (show (zr p 2).length = 2 by have := HL.out; omega)
   have HLN2 := zA.mk (show (zr p 3).length = (zr p 2).length - 1 by have := HL.out; omega)
   obtain ⟨A1, q1, hA1, hq1, hC⟩ := Kd.zAM HR.out
   injection hA1 with hA1 hl1 hc1
   subst hA1
   clear hl1 hc1 hq1
   obtain ⟨ad, had, hx⟩ := Kd.qz hC (Zv p 2) hK.1 (by omega)
   injection had with had
   subst had
   rw [add_plain] at hx
   have HAT := zA.mk (show rd (zr p 2) (Zv p 2) = zn p 2 from rfl)
   rw [HAT.out] at hx
   have HER := zA.mk (show (zr p 2).eraseIdx (Zv p 2).toNat = zr p 3 from rfl)
   have hX : Zv p 2 = ZD p 2 := by have e : Zv p 2 = ZD p 2 / 1 := rfl; rw [e]; exact Int.ediv_one _
   have HY := zA.mk (show 0 = ZD p 3 by have e : ZD p 3 = ZD p 2 % 1 := rfl; rw [e]; omega)
   rw [hX] at hx hK
   have HX := zA.mk hX
   clear hX hC
   obtain ⟨hk0, hk1⟩ := hK
   obtain ⟨hp0, hp1⟩ := hP
   have b9 : wr.cell? ⟨w.heap.size + 1 + 1 + 1, 2, none⟩ = some (.int .i64 1) := (zL B9.out 2).trans rfl
   have b3 : wr.cell? ⟨w.heap.size + 1, 2, none⟩ = some (.int .i64 (Zy p 2 2)) := (zL B3.out 2).trans rfl
   have f3 := zN B3.out 2
   have hk2 : ZD p 2 < 9223372036854775807 := by omega
   go_wp2_with fail
   have HRw := zA.mk (show Kd.R (Kd.int .i64) 2 (wr.setCell ⟨w.heap.size + 1, 2, none⟩ (.int .i64 (zn p 2))) w.heap.size (fun k => k = w.heap.size + 1 + 1) (.slice (some ⟨w.heap.size + 1 + 1, 0, none⟩) (zr p 2).length 4) (zr p 2) from Kd.ZG (p := ⟨w.heap.size + 1, 2, none⟩) HR.out (fun k hk => by rw [hk]; show w.heap.size + 1 + 1 ≠ w.heap.size + 1; omega) _)
   refine Qs (args' := #[.slice (some ⟨w.heap.size + 1 + 1, 0, none⟩) (zr p 2).length 4, .int .i64 ((ZD p 2).toNat : Int), .int .i64 (((ZD p 2).toNat : Int) + 1)]) (by rw [Int.toNat_of_nonneg hk0]) ?_
   refine (Zu.zEJ (w.heap.size + 1 + 1) 4 (ZD p 2).toNat (zr p 2) w.heap.size (fun k => k = w.heap.size + 1 + 1) _ HRw.out (by omega)).mono ?_
   rintro e w1 ⟨rfl, hR1, hg1⟩
   have hl2 := HLN2.out
   have er : (zr p 2).eraseIdx (ZD p 2).toNat = zr p 3 := by rw [← HER.out, HX.out]
   rw [er, ← hl2] at hR1
   rw [← hl2]
   have HR2 := zA.mk hR1
   have B3a : (wr.setCell ⟨w.heap.size + 1, 2, none⟩ (.int .i64 (zn p 2))).heap[w.heap.size + 1]? = some (.cells #[.int .i64 (Zy p 3 0), .int .i64 (Zy p 3 1), .int .i64 (Zy p 3 2), .int .i64 (Zy p 3 3)] 101 (0, 0)) := qZ B3.out 2 _ rfl
   have B3n := zA.mk (qm B3a hg1 (by simp))
   have B2n := zA.mk (qm (qM (p := ⟨w.heap.size + 1, 2, none⟩) B2.out (by show w.heap.size ≠ w.heap.size + 1; omega) (.int .i64 (zn p 2))) hg1 (by simp; omega))
   have B9n := zA.mk (qm (qM (p := ⟨w.heap.size + 1, 2, none⟩) B9.out (by show w.heap.size + 1 + 1 + 1 ≠ w.heap.size + 1; omega) (.int .i64 (zn p 2))) hg1 (by simp))
   have HBn := zA.mk (Qh (zF (j := 2) (v := .int .i64 (zn p 2)) HB.out (show w.heap.size ≤ w.heap.size + 1 by omega)) (some (w.heap.size + 1 + 1)) (by have := HB.out.size; simp [World.setCell]; omega) hg1 (fun k hk => by injection hk with hk; omega))
   clear hR1 hg1 B3a HRw B3 B2 B9 HB HR er hl2 hx b9 b3 f3
   go_wp2
   go_roundg (4 - 3)
   case measure => omega
   case rel => exact ⟨3, by omega, by omega, by first | rfl | go_num, by rw [← HY.out], rfl, HR2, B3n, B2n, B9n, HBn⟩
  next =>
   have hK : 0 ≤ Zv p 1 ∧ Zv p 1 < (zr p 1).length := by have := HK.out; have := HL.out; omega
   have hP : 0 ≤ ZD p 1 ∧ ZD p 1 ≤ 23 := by have := HP.out; omega
   have HLN := zA.mk (show (zr p 1).length = 3 by have := HL.out; omega)
   have HLN2 := zA.mk (show (zr p 2).length = (zr p 1).length - 1 by have := HL.out; omega)
   obtain ⟨A1, q1, hA1, hq1, hC⟩ := Kd.zAM HR.out
   injection hA1 with hA1 hl1 hc1
   subst hA1
   clear hl1 hc1 hq1
   obtain ⟨ad, had, hx⟩ := Kd.qz hC (Zv p 1) hK.1 (by omega)
   injection had with had
   subst had
   rw [add_plain] at hx
   have HAT := zA.mk (show rd (zr p 1) (Zv p 1) = zn p 1 from rfl)
   rw [HAT.out] at hx
   have HER := zA.mk (show (zr p 1).eraseIdx (Zv p 1).toNat = zr p 2 from rfl)
   have hX : Zv p 1 = ZD p 1 / 2 := by have e : Zv p 1 = ZD p 1 / 2 := rfl; rw [e]
   have HY := zA.mk (show ZD p 1 % 2 = ZD p 2 by have e : ZD p 2 = ZD p 1 % 2 := rfl; rw [e])
   rw [hX] at hx hK
   have HX := zA.mk hX
   clear hX hC
   obtain ⟨hk0, hk1⟩ := hK
   obtain ⟨hp0, hp1⟩ := hP
   have b9 : wr.cell? ⟨w.heap.size + 1 + 1 + 1, 1, none⟩ = some (.int .i64 2) := (zL B9.out 1).trans rfl
   have b3 : wr.cell? ⟨w.heap.size + 1, 1, none⟩ = some (.int .i64 (Zy p 1 1)) := (zL B3.out 1).trans rfl
   have f3 := zN B3.out 1
   have hk2 : ZD p 1 / 2 < 9223372036854775807 := by omega
   go_wp2_with fail
   have HRw := zA.mk (show Kd.R (Kd.int .i64) 2 (wr.setCell ⟨w.heap.size + 1, 1, none⟩ (.int .i64 (zn p 1))) w.heap.size (fun k => k = w.heap.size + 1 + 1) (.slice (some ⟨w.heap.size + 1 + 1, 0, none⟩) (zr p 1).length 4) (zr p 1) from Kd.ZG (p := ⟨w.heap.size + 1, 1, none⟩) HR.out (fun k hk => by rw [hk]; show w.heap.size + 1 + 1 ≠ w.heap.size + 1; omega) _)
   refine Qs (args' := #[.slice (some ⟨w.heap.size + 1 + 1, 0, none⟩) (zr p 1).length 4, .int .i64 ((ZD p 1 / 2).toNat : Int), .int .i64 (((ZD p 1 / 2).toNat : Int) + 1)]) (by rw [Int.toNat_of_nonneg hk0]) ?_
   refine (Zu.zEJ (w.heap.size + 1 + 1) 4 (ZD p 1 / 2).toNat (zr p 1) w.heap.size (fun k => k = w.heap.size + 1 + 1) _ HRw.out (by omega)).mono ?_
   rintro e w1 ⟨rfl, hR1, hg1⟩
   have hl2 := HLN2.out
   have er : (zr p 1).eraseIdx (ZD p 1 / 2).toNat = zr p 2 := by rw [← HER.out, HX.out]
   rw [er, ← hl2] at hR1
   rw [← hl2]
   have HR2 := zA.mk hR1
   have B3a : (wr.setCell ⟨w.heap.size + 1, 1, none⟩ (.int .i64 (zn p 1))).heap[w.heap.size + 1]? = some (.cells #[.int .i64 (Zy p 2 0), .int .i64 (Zy p 2 1), .int .i64 (Zy p 2 2), .int .i64 (Zy p 2 3)] 101 (0, 0)) := qZ B3.out 1 _ rfl
   have B3n := zA.mk (qm B3a hg1 (by simp))
   have B2n := zA.mk (qm (qM (p := ⟨w.heap.size + 1, 1, none⟩) B2.out (by show w.heap.size ≠ w.heap.size + 1; omega) (.int .i64 (zn p 1))) hg1 (by simp; omega))
   have B9n := zA.mk (qm (qM (p := ⟨w.heap.size + 1, 1, none⟩) B9.out (by show w.heap.size + 1 + 1 + 1 ≠ w.heap.size + 1; omega) (.int .i64 (zn p 1))) hg1 (by simp))
   have HBn := zA.mk (Qh (zF (j := 1) (v := .int .i64 (zn p 1)) HB.out (show w.heap.size ≤ w.heap.size + 1 by omega)) (some (w.heap.size + 1 + 1)) (by have := HB.out.size; simp [World.setCell]; omega) hg1 (fun k hk => by injection hk with hk; omega))
   clear hR1 hg1 B3a HRw B3 B2 B9 HB HR er hl2 hx b9 b3 f3
   go_wp2
   go_roundg (4 - 2)
   case measure => omega
   case rel => exact ⟨2, by omega, by omega, by first | rfl | go_num, by rw [← HY.out], rfl, HR2, B3n, B2n, B9n, HBn⟩
  next =>
   have hK : 0 ≤ Zv p 0 ∧ Zv p 0 < (zr p 0).length := by have := HK.out; have := HL.out; omega
   have hP : 0 ≤ ZD p 0 ∧ ZD p 0 ≤ 23 := by have := HP.out; omega
   have HLN := zA.mk (show (zr p 0).length = 4 by have := HL.out; omega)
   have HLN2 := zA.mk (show (zr p 1).length = (zr p 0).length - 1 by have := HL.out; omega)
   obtain ⟨A1, q1, hA1, hq1, hC⟩ := Kd.zAM HR.out
   injection hA1 with hA1 hl1 hc1
   subst hA1
   clear hl1 hc1 hq1
   obtain ⟨ad, had, hx⟩ := Kd.qz hC (Zv p 0) hK.1 (by omega)
   injection had with had
   subst had
   rw [add_plain] at hx
   have HAT := zA.mk (show rd (zr p 0) (Zv p 0) = zn p 0 from rfl)
   rw [HAT.out] at hx
   have HER := zA.mk (show (zr p 0).eraseIdx (Zv p 0).toNat = zr p 1 from rfl)
   have hX : Zv p 0 = ZD p 0 / 6 := by have e : Zv p 0 = ZD p 0 / 6 := rfl; rw [e]
   have HY := zA.mk (show ZD p 0 % 6 = ZD p 1 by have e : ZD p 1 = ZD p 0 % 6 := rfl; rw [e])
   rw [hX] at hx hK
   have HX := zA.mk hX
   clear hX hC
   obtain ⟨hk0, hk1⟩ := hK
   obtain ⟨hp0, hp1⟩ := hP
   have b9 : wr.cell? ⟨w.heap.size + 1 + 1 + 1, 0, none⟩ = some (.int .i64 6) := (zL B9.out 0).trans rfl
   have b3 : wr.cell? ⟨w.heap.size + 1, 0, none⟩ = some (.int .i64 (Zy p 0 0)) := (zL B3.out 0).trans rfl
   have f3 := zN B3.out 0
   have hk2 : ZD p 0 / 6 < 9223372036854775807 := by omega
   go_wp2_with fail
   have HRw := zA.mk (show Kd.R (Kd.int .i64) 2 (wr.setCell ⟨w.heap.size + 1, 0, none⟩ (.int .i64 (zn p 0))) w.heap.size (fun k => k = w.heap.size + 1 + 1) (.slice (some ⟨w.heap.size + 1 + 1, 0, none⟩) (zr p 0).length 4) (zr p 0) from Kd.ZG (p := ⟨w.heap.size + 1, 0, none⟩) HR.out (fun k hk => by rw [hk]; show w.heap.size + 1 + 1 ≠ w.heap.size + 1; omega) _)
   refine Qs (args' := #[.slice (some ⟨w.heap.size + 1 + 1, 0, none⟩) (zr p 0).length 4, .int .i64 ((ZD p 0 / 6).toNat : Int), .int .i64 (((ZD p 0 / 6).toNat : Int) + 1)]) (by rw [Int.toNat_of_nonneg hk0]) ?_
   refine (Zu.zEJ (w.heap.size + 1 + 1) 4 (ZD p 0 / 6).toNat (zr p 0) w.heap.size (fun k => k = w.heap.size + 1 + 1) _ HRw.out (by omega)).mono ?_
   rintro e w1 ⟨rfl, hR1, hg1⟩
   have hl2 := HLN2.out
   have er : (zr p 0).eraseIdx (ZD p 0 / 6).toNat = zr p 1 := by rw [← HER.out, HX.out]
   rw [er, ← hl2] at hR1
   rw [← hl2]
   have HR2 := zA.mk hR1
   have B3a : (wr.setCell ⟨w.heap.size + 1, 0, none⟩ (.int .i64 (zn p 0))).heap[w.heap.size + 1]? = some (.cells #[.int .i64 (Zy p 1 0), .int .i64 (Zy p 1 1), .int .i64 (Zy p 1 2), .int .i64 (Zy p 1 3)] 101 (0, 0)) := qZ B3.out 0 _ rfl
   have B3n := zA.mk (qm B3a hg1 (by simp))
   have B2n := zA.mk (qm (qM (p := ⟨w.heap.size + 1, 0, none⟩) B2.out (by show w.heap.size ≠ w.heap.size + 1; omega) (.int .i64 (zn p 0))) hg1 (by simp; omega))
   have B9n := zA.mk (qm (qM (p := ⟨w.heap.size + 1, 0, none⟩) B9.out (by show w.heap.size + 1 + 1 + 1 ≠ w.heap.size + 1; omega) (.int .i64 (zn p 0))) hg1 (by simp))
   have HBn := zA.mk (Qh (zF (j := 0) (v := .int .i64 (zn p 0)) HB.out (show w.heap.size ≤ w.heap.size + 1 by omega)) (some (w.heap.size + 1 + 1)) (by have := HB.out.size; simp [World.setCell]; omega) hg1 (fun k hk => by injection hk with hk; omega))
   clear hR1 hg1 B3a HRw B3 B2 B9 HB HR er hl2 hx b9 b3 f3
   go_wp2
   go_roundg (4 - 1)
   case measure => omega
   case rel => exact ⟨1, by omega, by omega, by first | rfl | go_num, by rw [← HY.out], rfl, HR2, B3n, B2n, B9n, HBn⟩
def qU.f (l0 : List (List (zw))) : Option (Int) := some (l0.length : Int)
set_option maxHeartbeats 8000000 in
set_option maxRecDepth 100000 in
theorem qU.calls (A0 : Option Addr) (c0 : Nat) (l0 : List (List (zw))) (r : Int) (w : World) (hr0 : Kd.C (Kd.slice 75 ZV) w A0 l0.length l0) (hc0 : l0.length ≤ c0) (h : qU.f l0 = some r) :
    Calls Try.prog 75 #[.slice A0 l0.length c0] w fun e w' => e = .returned (.int .i64 r) ∧ zx w w' := by
  have HR0 := zA.mk hr0
  have HC0 := zA.mk hc0
  clear hr0 hc0
  have H : (some (l0.length : Int)) = some r := h
  clear h
  obtain rfl := yey H
  go_enter Try.func75, Try.ntmps75
  go_wp2
  go_ret
  exact ⟨by first | rfl | (simp; done) | (simp [*]; done), by repeat (first | exact zx.refl _ | apply zx.step)⟩
theorem Jx (a b c d : Int) (f : Int) (h0 : 0 ≤ f) (h1 : f ≤ 3) : ∀ w : World, (Instr.index 101 (.agg #[.int .i64 a, .int .i64 b, .int .i64 c, .int .i64 d]) (.int .i64 f)).run Try.prog w = .ok (.int .i64 (rd [a, b, c, d] f)) w := by
  intro w
  rcases (show f = 0 ∨ f = 1 ∨ f = 2 ∨ f = 3 by omega) with rfl | rfl | rfl | rfl
  · kernel_rfl
  · kernel_rfl
  · kernel_rfl
  · kernel_rfl
theorem Qt {w : World} {g : Nat} {T : TypeId} {a b c d : Int} (h : w.heap[g]? = some (.cells #[.int .i64 a, .int .i64 b, .int .i64 c, .int .i64 d] T (0, 0))) (f : Int) (h0 : 0 ≤ f) (h1 : f ≤ 3) : w.cell? ⟨g, f.toNat, none⟩ = some (.int .i64 (rd [a, b, c, d] f)) := by
  rw [zL h]
  rcases (show f = 0 ∨ f = 1 ∨ f = 2 ∨ f = 3 by omega) with rfl | rfl | rfl | rfl <;> rfl
theorem zCZ {w : World} {g : Nat} {T : TypeId} {a b c d : Int} (h : w.heap[g]? = some (.cells #[.int .i64 a, .int .i64 b, .int .i64 c, .int .i64 d] T (0, 0))) (f v : Int) (h0 : 0 ≤ f) (h1 : f ≤ 3) :
    (w.setCell ⟨g, f.toNat, none⟩ (.int .i64 v)).heap[g]? = some (.cells #[.int .i64 (rd ([a, b, c, d].set f.toNat v) 0), .int .i64 (rd ([a, b, c, d].set f.toNat v) 1), .int .i64 (rd ([a, b, c, d].set f.toNat v) 2), .int .i64 (rd ([a, b, c, d].set f.toNat v) 3)] T (0, 0)) := by
  rcases (show f = 0 ∨ f = 1 ∨ f = 2 ∨ f = 3 by omega) with rfl | rfl | rfl | rfl
  · exact qZ h 0 _ rfl
  · exact qZ h 1 _ rfl
  · exact qZ h 2 _ rfl
  · exact qZ h 3 _ rfl
theorem Zq {W : World} {n : Nat} (h : W.heap.size = n) (o : Obj) : (W.alloc o).heap[n]? = some o := h ▸ zDb W o
theorem zCa {l : List Int} (h : l.length = 4) : l = [rd l 0, rd l 1, rd l 2, rd l 3] := by
  match l, h with
  | [a, b, c, d], _ => rfl
def ZL.f (a0_0 : Int) (a0_1 : Int) : Option (Bool) := some (decide (a0_0 < 0))
set_option maxHeartbeats 8000000 in
set_option maxRecDepth 100000 in
theorem ZL.calls (a0_0 : Int) (a0_1 : Int) (r : Bool) (w : World) (h : ZL.f a0_0 a0_1 = some r) :
    Calls Try.prog 77 #[.agg #[.int .i64 a0_0, .int .i64 a0_1]] w fun e w' => e = .returned (.bool r) ∧ Below w.heap.size w w' := by
  have hu75 := Try.underlying75
  have HB := zA.mk (ysy w.heap.size w)
  have H : (some (decide (a0_0 < 0))) = some r := h
  clear h
  obtain rfl := yey H
  go_enter Try.func77, Try.ntmps77
  go_wp2_with (first | ((with_reducible refine zu (N := 1) rfl ?_); refine zy ?hg (N := 1) ?hd (cs := #[.int .i64 a0_0, .int .i64 a0_1]) (t := 75) ?hr ?_; (case hd => rfl); (case hg => rfl); (case hr => first | (go_simp; done) | (go_simp; rfl)); intro gb101 hg w2 hbox hb; have n0_ := zA.mk (zM (by repeat (first | (with_reducible first | exact HB.out | apply zC | apply zB | apply zD) | exact HB.out)) hb); have n1_ := zA.mk (hbox); have n2_ := zA.mk ((by rw [hg]; exact (zP (by repeat (first | (with_reducible first | exact HB.out | apply zC | apply zB | apply zD) | exact HB.out))) : w.heap.size ≤ gb101)); have n3_ := zA.mk ((by rw [hg]; exact (zP (by repeat (first | (with_reducible first | exact HB.out | apply zC | apply zB | apply zD) | exact HB.out))) : w.heap.size ≤ gb101)); clear HB; have HB := n0_; have BK101 := n1_; have GW101 := n2_; have GE101 := n3_; clear n0_ n1_ n2_ n3_; clear hb hbox hg; have hcz3_0 : w2.cell? ⟨gb101, 0, none⟩ = some (.int .i64 a0_0) := (zL BK101.out 0).trans rfl; have hcz3_1 : w2.cell? ⟨gb101, 1, none⟩ = some (.int .i64 a0_1) := (zL BK101.out 1).trans rfl; have hfz3_0 := zN BK101.out 0; have hfz3_1 := zN BK101.out 1))
  go_ret
  exact ⟨by first | rfl | (simp [zW, zX] <;> rfl) | (simp [*, zW, zX] <;> rfl), by repeat (first | (with_reducible first | exact HB.out | apply zC | apply zB | apply zD | refine zF ?_ GE101.out) | exact HB.out)⟩
theorem goesF_ {P : Program} {ops : Array Oper} {Q : Exit → Act → World → Prop} {oi : Oper} {N : Option Tmp} {a : Act} {w : World} {K : Act → World → Prop} {f : FuncId} {fn : Func} {t : Tmp} {as_ : Array Operand} {ts : Array TypeId} {caps : Array Value} (hf : P.funcs[f]? = some fn) (hname : (fn.name == "runtime.NumGoroutine") = false) (hb : fn.body.isSome = true) (args all : Array Value)
    (hw : Region.wanted oi (yielded ops a.tmps) = true) (hN : oi.dst = N) (hop : oi.op = .call { callee := .value (.tmp t), args := as_, argTypes := ts }) (ht : a.eval (.tmp t) = .func (.func f) #[] caps) (hargs : as_.map a.eval = args) (hall : args ++ caps = all)
    (h : Calls P f all w fun e w' => ∃ v, e = .returned v ∧ K (a.put N v) w') : if Region.wanted oi (yielded ops a.tmps) = true then Oper.wp P oi a w K Q else K (a.put N undef) w := by
  subst hall
  refine call_ f (args ++ caps) hw hN ?_ h
  have he := zDf hf hname hb (args ++ caps) w
  unfold execOp
  simp [hop, resolve, Deferred.ofValue, invoke, ht, hargs, he]
def zDo {σ : Type} (step : σ → Nat → Nat → zw → σ) (tet : Nat) : List zw → Nat → σ → σ
  | [], _, s => s
  | x :: xs, f, s => zDo step tet xs (f + 1) (if x.f0 < 0 then s else step s tet f x)
def zAy {σ : Type} (step : σ → Nat → Nat → zw → σ) : List (List zw) → Nat → σ → σ
  | [], _, s => s
  | r :: rs, tet, s => zAy step rs (tet + 1) (zDo step tet r 0 s)
def ZX (l : List (List zw)) (j f : Nat) (x : zw) : Prop := ∃ h1 : j < l.length, ∃ h2 : f < l[j].length, l[j][f] = x
set_option maxHeartbeats 8000000 in
set_option maxRecDepth 100000 in
theorem zC3.calls {σ : Type} (F : FuncId) (fn : Func) (hf : Try.prog.funcs[F]? = some fn) (hname : (fn.name == "runtime.NumGoroutine") = false) (hbody : fn.body.isSome = true) (caps : Array Value)
    (l : List (List zw)) (A0 : Option Addr) (c0 : Nat) (w0 w : World) (Inv : σ → World → Prop) (step : σ → Nat → Nat → zw → σ) (st0 : σ)
    (cnt : σ → Nat) (N : Nat) (hcnt : ∀ s j f x, cnt (step s j f x) ≤ cnt s + 4) (hN : cnt st0 + 4 * (l.map List.length).sum ≤ N)
    (hB : ∀ s W W', Inv s W → Below W.heap.size W W' → Inv s W')
    (hK : ∀ s W, Inv s W → Below w0.heap.size w0 W)
    (hT : Kd.C (Kd.slice 75 ZV) w0 A0 l.length l)
    (hperm : ∀ r ∈ l, ∀ x ∈ r, ¬ x.f0 < 0 → 0 ≤ x.f1 ∧ x.f1 ≤ 23)
    (hstep : ∀ s W (j f : Nat) (x : zw), Inv s W → ZX l j f x → ¬ x.f0 < 0 → cnt s + 4 ≤ N →
      Calls Try.prog F (#[.int .i64 (j : Int), .int .i64 (f : Int), .agg #[.int .i64 x.f0, .int .i64 x.f1], .agg #[.int .i64 (zn x.f1 0), .int .i64 (zn x.f1 1), .int .i64 (zn x.f1 2), .int .i64 (zn x.f1 3)]] ++ caps) W fun e W' => e = .returned (.tuple #[]) ∧ Inv (step s j f x) W')
    (h0 : Inv st0 w) :
    Calls Try.prog 99 #[.agg #[.slice A0 l.length c0], .func (.func F) #[] caps] w fun e w' => e = .returned (.tuple #[]) ∧ Inv (zAy step l 0 st0) w' := by
  have HB := zA.mk hB
  have HK := zA.mk hK
  have HT := zA.mk hT
  have HPM := zA.mk hperm
  have HST := zA.mk hstep
  have HCN := zA.mk hcnt
  have HN : zA (cnt st0 + 4 * ((l.drop 0).map List.length).sum ≤ N) := ⟨by rw [List.drop_zero]; exact hN⟩
  clear hcnt hN
  have HS := zA.mk (hB _ _ _ h0 (zC (ysy w.heap.size w) (.cells #[.slice A0 l.length c0] 35)))
  have hbig : l.length ≤ 9223372036854775807 := hT.2.1
  clear hB hT hperm hstep h0 hK
  have HA : zA (zAy step (l.drop 0) 0 st0 = zAy step l 0 st0) := ⟨by rw [List.drop_zero]⟩
  generalize zAy step l 0 st0 = R at HA ⊢
  go_enter Try.func99, Try.ntmps99
  go_wp2
  go_loopg [11] l.length (fun gg v11 w' => ∃ (j : Nat) (s : σ), j ≤ l.length ∧ l.length - j ≤ gg ∧ v11 = .int .i64 j ∧ zA (zAy step (l.drop j) j s = R) ∧ zA (Inv s w') ∧ zA (cnt s + 4 * ((l.drop j).map List.length).sum ≤ N))
  case atStart => exact ⟨0, st0, Nat.zero_le _, by omega, rfl, HA, HS, HN⟩
  case round =>
    clear HS HA HN
    obtain ⟨j, st, hj, hg, rfl, HA, HS, HN⟩ := hrel
    by_cases hlt : j < l.length
    · have hltz : (j : Int) < (l.length : Int) := by omega
      obtain ⟨ad1, A1, c1, e1, hy1, hl1, hC1⟩ := ZS HT.out (j : Int) (by omega) hltz
      subst e1
      have ex : zE l (j : Int) = l[j] := by simp [zE, hlt]
      rw [ex] at hy1 hl1 hC1
      rw [yny] at hy1
      replace hy1 := ((HK.out _ _ HS.out).cell (yqy w0 _ hy1)).trans hy1
      have HA2 := HA.out
      rw [ypy hlt, zAy] at HA2
      have HI : zA (zAy step (l.drop (j + 1)) (j + 1) (zDo step j (l[j].drop 0) 0 st) = R) := ⟨by rw [List.drop_zero]; exact HA2⟩
      have HN1 : zA (cnt st + 4 * (l[j].length - 0 + ((l.drop (j + 1)).map List.length).sum) ≤ N) := ⟨by have h := HN.out; rw [ypy hlt, yjy, List.sum_cons] at h; omega⟩
      clear HN
      have HP1 := zA.mk (HPM.out l[j] (yoy hlt))
      have HX := zA.mk (show ∀ (f : Nat) (x : zw) (h2 : f < l[j].length), l[j][f] = x → ZX l j f x from fun f x h2 h => ⟨hlt, h2, h⟩)
      have hbig1 : l[j].length ≤ 9223372036854775807 := hC1.2.1
      have HC1 := zA.mk hC1
      clear HA HA2 hl1 hC1 ex
      generalize l[j] = row at *
      go_wp2
      go_loopg [18] row.length (fun gg v18 w' => ∃ (f : Nat) (s : σ), f ≤ row.length ∧ row.length - f ≤ gg ∧ v18 = .int .i64 f ∧ zA (zAy step (l.drop (j + 1)) (j + 1) (zDo step j (row.drop f) f s) = R) ∧ zA (Inv s w') ∧ zA (cnt s + 4 * (row.length - f + ((l.drop (j + 1)).map List.length).sum) ≤ N))
      case atStart => exact ⟨0, st, Nat.zero_le _, by omega, rfl, HI, HS, HN1⟩
      case round =>
        clear HI HS hy1 HN1
        obtain ⟨f, st, hf9, hgf, rfl, HI, HS, HN1⟩ := hrel
        by_cases hlf : f < row.length
        · have hlfz : (f : Int) < (row.length : Int) := by omega
          obtain ⟨ad2, e2, hy2, hy3⟩ := QD HC1.out (f : Int) (by omega) hlfz
          subst e2
          replace hy2 := ((HK.out _ _ HS.out).cell (yqy w0 _ hy2)).trans hy2
          replace hy3 := ((HK.out _ _ HS.out).cell (yqy w0 _ hy3)).trans hy3
          have HF := zA.mk (HX.out f row[f] hlf rfl)
          have HY := zA.mk (HP1.out row[f] (yoy hlf))
          have HI2 := HI.out
          rw [ypy hlf, zDo] at HI2
          have HI3 := zA.mk HI2
          clear HI HI2
          have ex : zI row (f : Int) = row[f] := by simp [zI, hlf]
          rw [ex, yny] at hy2 hy3
          generalize row[f] = y at hy2 hy3 HY HI3 HF
          obtain ⟨f0, f1⟩ := y
          clear ex
          have BF := zA.mk (Zq (W := wr) rfl (.cells #[.int .i64 f0, .int .i64 f1] 75))
          have HS1 := zA.mk (HB.out _ _ _ HS.out (zC (ysy _ _) (.cells #[.int .i64 f0, .int .i64 f1] 75)))
          clear HS
          by_cases hb : f0 < 0
          · rw [if_pos hb] at HI3
            have d0 : decide (f0 < 0) = true := ygy hb
            go_wp2_with (first | (go_at_call 77; (with_reducible refine (ZL.calls f0 f1 true _ (by unfold ZL.f; rw [d0])).mono ?_); rintro e w2 ⟨rfl, hnd⟩; have HS2 := zA.mk (HB.out _ _ _ HS1.out hnd); clear HS1 BF hnd))
            go_roundg (row.length - (f + 1))
            case measure => omega
            case rel => exact ⟨f + 1, st, by omega, by omega, by go_num, HI3, HS2, ⟨by have := HN1.out; omega⟩⟩
          · rw [if_neg hb] at HI3
            have d0 : decide (f0 < 0) = false := yhy hb
            have HP := zA.mk (show 0 ≤ f1 ∧ f1 ≤ 23 from HY.out (by first | exact hb | (show (0 : Int) ≤ f0; omega)))
            have hb9 := zA.mk hb
            clear HY
            go_wp2_with (first | (go_at_call 77; (with_reducible refine (ZL.calls f0 f1 false _ (by unfold ZL.f; rw [d0])).mono ?_); rintro e w2 ⟨rfl, hnd⟩; have HS2 := zA.mk (HB.out _ _ _ HS1.out hnd); have BF2 := zA.mk (zO BF.out hnd); clear HS1 BF hnd; have BF := BF2; clear BF2))
            refine QG (n := 8) (S := fun w' => w'.cell? ⟨wr.heap.size, 0, none⟩ = some (.int .i64 f0) ∧ w'.cell? ⟨wr.heap.size, 1, none⟩ = some (.int .i64 f1)) (ds := [7]) #[false, false, false, false, false, false, false, false] (by kernel_rfl) rfl rfl ⟨(zL BF.out 0).trans rfl, (zL BF.out 1).trans rfl⟩ (fun hHeld => ?_)
            have HS3 := zA.mk (HB.out _ _ _ HS2.out (zD (ysy _ _)))
            have BF3 := zA.mk (zJ BF.out)
            clear HS2 BF
            have HS2 := HS3
            have BF := BF3
            clear HS3 BF3
            generalize w2.drew = w22 at HS2 BF hHeld ⊢
            refine zp (i := 0) (N := some 26) (v := ?_) (a' := ?_) #[true, false, false, false, false, false, false, false] rfl rfl (by kernel_rfl) (fun _ _ _ h => h) (Or.inl ⟨by rfl, ?_⟩) ?_ ?_
            rotate_left
            · intro w'
              go_simp
              with_reducible rfl
            rotate_left
            · simp only [Act.put, yay, yby, ycy, za, zb]
              rfl
            refine zp (i := 1) (N := some 27) (v := ?_) (a' := ?_) #[true, true, false, false, false, false, false, false] rfl rfl (by kernel_rfl) (fun _ _ _ h => h) (Or.inl ⟨by rfl, ?_⟩) ?_ ?_
            rotate_left
            · intro w'
              go_simp
              with_reducible rfl
            rotate_left
            · simp only [Act.put, yay, yby, ycy, za, zb]
              rfl
            refine zp (i := 2) (N := some 28) (v := ?_) (a' := ?_) #[true, true, true, false, false, false, false, false] rfl rfl (by kernel_rfl) (fun _ _ _ h => h) (Or.inl ⟨by rfl, ?_⟩) ?_ ?_
            rotate_left
            · intro w'
              go_simp
              with_reducible rfl
            rotate_left
            · simp only [Act.put, yay, yby, ycy, za, zb]
              rfl
            refine ZR (i := 3) (N := some 29) (v := ?_) (a' := ?_) #[true, true, true, true, false, false, false, false] rfl rfl (by kernel_rfl) (fun _ _ _ h => h) (Or.inl ⟨by rfl, ?_⟩) hHeld ?_ ?_
            rotate_left
            · rintro w' ⟨s0, s1⟩
              go_simp
              with_reducible rfl
            rotate_left
            · simp only [Act.put, yay, yby, ycy, za, zb]
              rfl
            refine zp (i := 4) (N := some 30) (v := ?_) (a' := ?_) #[true, true, true, true, true, false, false, false] rfl rfl (by kernel_rfl) (fun _ _ _ h => h) (Or.inl ⟨by rfl, ?_⟩) ?_ ?_
            rotate_left
            · intro w'
              go_simp
              with_reducible rfl
            rotate_left
            · simp only [Act.put, yay, yby, ycy, za, zb]
              rfl
            refine ZR (i := 5) (N := some 31) (v := ?_) (a' := ?_) #[true, true, true, true, true, true, false, false] rfl rfl (by kernel_rfl) (fun _ _ _ h => h) (Or.inl ⟨by rfl, ?_⟩) hHeld ?_ ?_
            rotate_left
            · rintro w' ⟨s0, s1⟩
              go_simp
              with_reducible rfl
            rotate_left
            · simp only [Act.put, yay, yby, ycy, za, zb]
              rfl
            refine zAH (i := 6) (N := some 32) #[true, true, true, true, true, true, true, false] rfl rfl (by kernel_rfl) (by decide) (fun K hK => ?_)
            refine QQ Try.func105 (by kernel_rfl) rfl #[.int .i64 f1] (by rfl) rfl rfl (by (try simp only [yiy, yjy, yky]); first | done | rfl) ?_
            refine (zBb.calls f1 _ HP.out.1 HP.out.2).mono ?_
            rintro e w3 ⟨rfl, hb3⟩
            refine ⟨_, rfl, ?_⟩
            have HS3 := zA.mk (HB.out _ _ _ HS2.out hb3)
            have BF3 := zA.mk (zO BF.out hb3)
            clear HS2 BF hb3
            have BF := BF3
            have HS2 := HS3
            clear BF3 HS3
            refine hK.out _ _ ⟨(zL BF.out 0).trans rfl, (zL BF.out 1).trans rfl⟩ (fun hHeld => ?_)
            clear hK K
            refine QH (a' := ?_) ?_ ?_
            rotate_left
            · show Act.put _ (some 32) _ = _
              simp only [Act.put, yay, yby, ycy, za, zb]
              rfl
            refine zGP (i := 7) (N := some 33) #[true, true, true, true, true, true, true, true] rfl rfl (by kernel_rfl) (by decide) (fun K hK => ?_)
            refine goesF_ (f := F) (fn := fn) hf hname hbody #[.int .i64 (j : Int), .int .i64 (f : Int), .agg #[.int .i64 f0, .int .i64 f1], .agg #[.int .i64 (zn f1 0), .int .i64 (zn f1 1), .int .i64 (zn f1 2), .int .i64 (zn f1 3)]] (#[.int .i64 (j : Int), .int .i64 (f : Int), .agg #[.int .i64 f0, .int .i64 f1], .agg #[.int .i64 (zn f1 0), .int .i64 (zn f1 1), .int .i64 (zn f1 2), .int .i64 (zn f1 3)]] ++ caps) (by rfl) rfl rfl rfl (by (try simp only [yiy, yjy, yky]); first | done | rfl) rfl ?_
            refine (HST.out st _ j f ⟨f0, f1⟩ HS2.out HF.out hb9.out (by have := HN1.out; omega)).mono ?_
            rintro e w4 ⟨rfl, hS4⟩
            refine ⟨_, rfl, ?_⟩
            have HS4 := zA.mk hS4
            clear hS4 HS2
            refine hK.out _ _ ?_
            clear hK K
            refine QH (a' := ?_) ?_ ?_
            rotate_left
            · show Act.put _ (some 33) _ = _
              simp only [Act.put, yay, yby, ycy, za, zb]
              rfl
            refine JE (by kernel_rfl) ?_
            go_wp2
            go_roundg (row.length - (f + 1))
            case measure => omega
            case rel => exact ⟨f + 1, _, by omega, by omega, by go_num, HI3, HS4, ⟨by have := HN1.out; have := HCN.out st j f ⟨f0, f1⟩; omega⟩⟩
        · obtain rfl : f = row.length := by omega
          have HI2 := HI.out
          rw [List.drop_length, zDo] at HI2
          have HA := zA.mk HI2
          clear HI HI2
          go_wp2
          go_roundg (l.length - (j + 1))
          case measure => omega
          case rel => exact ⟨j + 1, st, by omega, by omega, by go_num, HA, HS, ⟨by have := HN1.out; omega⟩⟩
    · obtain rfl : j = l.length := by omega
      have HA2 := HA.out
      rw [List.drop_length, zAy] at HA2
      subst HA2
      go_wp2
      first | go_end0 | ((try simp only [Exit.inBlock, Exit.then]); refine bodyPost_ret (results_none rfl _ _ _) rfl ?_)
      refine ⟨?_, HS.out⟩
      first | rfl | (simp <;> rfl)
def ZJ (l : List Int) (i : Nat) : Nat → Int
  | 0 => rd l i
  | j + 1 => if rd l j < rd l i then ZJ l i j - 1 else ZJ l i j
def Jp (l : List Int) : Nat → Int
  | 0 => 0
  | i + 1 => Jp l i + ZJ l i i * zFe i
def idxL (l : List Int) : Int := Jp l 4
def sm (x : Int) : Prop := 0 ≤ x ∧ x ≤ 3
theorem Jy (l : List Int) (i : Nat) (h : sm (rd l i)) : ∀ j : Nat, -(j : Int) ≤ ZJ l i j ∧ ZJ l i j ≤ 3
  | 0 => by have := h.1; have := h.2; unfold ZJ; omega
  | j + 1 => by
    have := Jy l i h j
    unfold ZJ
    split <;> omega
set_option maxHeartbeats 8000000 in
set_option maxRecDepth 100000 in
theorem zDG.calls (a b c d : Int) (w : World) (ha : sm a) (hb : sm b) (hc : sm c) (hd : sm d) :
    Calls Try.prog 134 #[.agg #[.int .i64 a, .int .i64 b, .int .i64 c, .int .i64 d]] w fun e w' => e = .returned (.int .i64 (idxL [a, b, c, d])) ∧ Below w.heap.size w w' := by
  have hl0 : sm (rd [a, b, c, d] (0 : Nat)) := ha
  have hl1 : sm (rd [a, b, c, d] (1 : Nat)) := hb
  have hl2 : sm (rd [a, b, c, d] (2 : Nat)) := hc
  have hl3 : sm (rd [a, b, c, d] (3 : Nat)) := hd
  have HL := zA.mk (And.intro (Jy _ 0 hl0) (And.intro (Jy _ 1 hl1) (And.intro (Jy _ 2 hl2) (Jy _ 3 hl3))))
  have HS := zA.mk (And.intro hl0 (And.intro hl1 (And.intro hl2 hl3)))
  clear ha hb hc hd hl0 hl1 hl2 hl3
  generalize hl : [a, b, c, d] = l at HL HS ⊢
  have HLL := zA.mk hl
  clear hl
  go_enter Try.func134, Try.ntmps134
  go_wp2_with fail
  go_loopg [3, 11] 4 (fun gg v3 v11 w' => ∃ i : Nat, i ≤ 4 ∧ 4 - i ≤ gg ∧ v11 = .int .i64 i ∧ v3 = .int .i64 (Jp l i) ∧ zA (-24 * (i : Int) ≤ Jp l i ∧ Jp l i ≤ 24 * i) ∧
    zA (w'.heap[w.heap.size]? = some (.cells #[.int .i64 a, .int .i64 b, .int .i64 c, .int .i64 d] 101 (0, 0))) ∧
    zA (w'.heap[w.heap.size + 1]? = some (.cells #[.int .i64 6, .int .i64 2, .int .i64 1, .int .i64 1] 2 (0, 0))) ∧ zA (Below w.heap.size w w'))
  case atStart =>
    refine ⟨0, by omega, by omega, rfl, rfl, ⟨by simp [Jp]⟩, ⟨?_⟩, ⟨?_⟩, ⟨?_⟩⟩
    · exact zG (Zq rfl _) _
    · exact Zq (by simp) _
    · exact zC (zC (ysy _ _) _) _
  case round =>
    obtain ⟨i, hi, hg, rfl, rfl, HI, B1, B9, HB⟩ := hrel
    rcases (show i = 4 ∨ i = 3 ∨ i = 2 ∨ i = 1 ∨ i = 0 by omega) with rfl | rfl | rfl | rfl | rfl
    · go_wp2
      go_ret
      exact ⟨rfl, HB.out⟩
    · have b9 : wr.cell? ⟨w.heap.size + 1, 3, none⟩ = some (.int .i64 1) := (zL B9.out 3).trans rfl
      have b1 : wr.cell? ⟨w.heap.size, 3, none⟩ = some (.int .i64 (rd l (3 : Nat))) := (zL B1.out 3).trans (by rw [← HLL.out]; rfl)
      have hx : sm (rd l (3 : Nat)) := by have := HS.out; exact this.2.2.2
      have HD := zA.mk (show ∀ j : Nat, ZJ l 3 (j + 1) = if rd l (j : Nat) < rd l (3 : Nat) then ZJ l 3 j - 1 else ZJ l 3 j from fun _ => rfl)
      have HD0 := zA.mk (show rd l (3 : Nat) = ZJ l 3 0 from rfl)
      generalize rd l (3 : Nat) = xi at b1 HD HD0 hx
      go_wp2_with fail
      go_loopg [6, 22] 3 (fun gg v6 v22 w' => ∃ j : Nat, j ≤ 3 ∧ 3 - j ≤ gg ∧ v22 = .int .i64 j ∧ v6 = .int .i64 (ZJ l 3 j) ∧ w' = wr)
      case atStart => exact ⟨0, by omega, by omega, rfl, by rw [HD0.out], rfl⟩
      case round =>
        obtain ⟨j, hj, hg2, rfl, rfl, rfl⟩ := hrel
        by_cases hlt : j < 3
        · have hltz : (j : Int) < 3 := by omega
          have bj : wr.cell? ⟨w.heap.size, j, none⟩ = some (.int .i64 (rd l (j : Nat))) := by
            have := Qt B1.out (j : Int) (by omega) (by omega)
            rw [HLL.out, yny] at this
            exact this
          have hbd := (HL.out.2.2.2 j)
          obtain ⟨hbd1, hbd2⟩ := hbd
          have HN := zA.mk (HD.out j)
          generalize ZJ l 3 j = lv at HN hbd1 hbd2 ⊢
          generalize rd l (j : Nat) = xj at bj HN
          by_cases hless : xj < xi
          · have hd1 : decide (xj < xi) = true := ygy hless
            go_wp2
            go_roundg (3 - (j + 1))
            case measure => omega
            case rel => exact ⟨j + 1, by omega, by omega, by go_num, by rw [HN.out, if_pos hless], rfl⟩
          · have hd1 : decide (xj < xi) = false := yhy hless
            go_wp2
            go_roundg (3 - (j + 1))
            case measure => omega
            case rel => exact ⟨j + 1, by omega, by omega, by go_num, by rw [HN.out, if_neg (by omega)], rfl⟩
        · have hltz : ¬ (j : Int) < 3 := by omega
          obtain rfl : j = 3 := by omega
          have hbd := (HL.out.2.2.2 3)
          obtain ⟨hbd1, hbd2⟩ := hbd
          obtain ⟨hi1, hi2⟩ := HI.out
          have HN := zA.mk (show Jp l 4 = Jp l 3 + ZJ l 3 3 * 1 from rfl)
          generalize ZJ l 3 3 = lv at HN hbd1 hbd2 ⊢
          generalize Jp l 3 = iv at HN hi1 hi2 ⊢
          go_wp2
          go_roundg (4 - 4)
          case measure => omega
          case rel => exact ⟨4, by omega, by omega, by first | rfl | go_num, by rw [HN.out]; rw [Int.mul_one], ⟨by rw [HN.out]; omega⟩, B1, B9, HB⟩
    · have b9 : wr.cell? ⟨w.heap.size + 1, 2, none⟩ = some (.int .i64 1) := (zL B9.out 2).trans rfl
      have b1 : wr.cell? ⟨w.heap.size, 2, none⟩ = some (.int .i64 (rd l (2 : Nat))) := (zL B1.out 2).trans (by rw [← HLL.out]; rfl)
      have hx : sm (rd l (2 : Nat)) := by have := HS.out; exact this.2.2.1
      have HD := zA.mk (show ∀ j : Nat, ZJ l 2 (j + 1) = if rd l (j : Nat) < rd l (2 : Nat) then ZJ l 2 j - 1 else ZJ l 2 j from fun _ => rfl)
      have HD0 := zA.mk (show rd l (2 : Nat) = ZJ l 2 0 from rfl)
      generalize rd l (2 : Nat) = xi at b1 HD HD0 hx
      go_wp2_with fail
      go_loopg [6, 22] 2 (fun gg v6 v22 w' => ∃ j : Nat, j ≤ 2 ∧ 2 - j ≤ gg ∧ v22 = .int .i64 j ∧ v6 = .int .i64 (ZJ l 2 j) ∧ w' = wr)
      case atStart => exact ⟨0, by omega, by omega, rfl, by rw [HD0.out], rfl⟩
      case round =>
        obtain ⟨j, hj, hg2, rfl, rfl, rfl⟩ := hrel
        by_cases hlt : j < 2
        · have hltz : (j : Int) < 2 := by omega
          have bj : wr.cell? ⟨w.heap.size, j, none⟩ = some (.int .i64 (rd l (j : Nat))) := by
            have := Qt B1.out (j : Int) (by omega) (by omega)
            rw [HLL.out, yny] at this
            exact this
          have hbd := (HL.out.2.2.1 j)
          obtain ⟨hbd1, hbd2⟩ := hbd
          have HN := zA.mk (HD.out j)
          generalize ZJ l 2 j = lv at HN hbd1 hbd2 ⊢
          generalize rd l (j : Nat) = xj at bj HN
          by_cases hless : xj < xi
          · have hd1 : decide (xj < xi) = true := ygy hless
            go_wp2
            go_roundg (2 - (j + 1))
            case measure => omega
            case rel => exact ⟨j + 1, by omega, by omega, by go_num, by rw [HN.out, if_pos hless], rfl⟩
          · have hd1 : decide (xj < xi) = false := yhy hless
            go_wp2
            go_roundg (2 - (j + 1))
            case measure => omega
            case rel => exact ⟨j + 1, by omega, by omega, by go_num, by rw [HN.out, if_neg (by omega)], rfl⟩
        · have hltz : ¬ (j : Int) < 2 := by omega
          obtain rfl : j = 2 := by omega
          have hbd := (HL.out.2.2.1 2)
          obtain ⟨hbd1, hbd2⟩ := hbd
          obtain ⟨hi1, hi2⟩ := HI.out
          have HN := zA.mk (show Jp l 3 = Jp l 2 + ZJ l 2 2 * 1 from rfl)
          generalize ZJ l 2 2 = lv at HN hbd1 hbd2 ⊢
          generalize Jp l 2 = iv at HN hi1 hi2 ⊢
          go_wp2
          go_roundg (4 - 3)
          case measure => omega
          case rel => exact ⟨3, by omega, by omega, by first | rfl | go_num, by rw [HN.out]; rw [Int.mul_one], ⟨by rw [HN.out]; omega⟩, B1, B9, HB⟩
    · have b9 : wr.cell? ⟨w.heap.size + 1, 1, none⟩ = some (.int .i64 2) := (zL B9.out 1).trans rfl
      have b1 : wr.cell? ⟨w.heap.size, 1, none⟩ = some (.int .i64 (rd l (1 : Nat))) := (zL B1.out 1).trans (by rw [← HLL.out]; rfl)
      have hx : sm (rd l (1 : Nat)) := by have := HS.out; exact this.2.1
      have HD := zA.mk (show ∀ j : Nat, ZJ l 1 (j + 1) = if rd l (j : Nat) < rd l (1 : Nat) then ZJ l 1 j - 1 else ZJ l 1 j from fun _ => rfl)
      have HD0 := zA.mk (show rd l (1 : Nat) = ZJ l 1 0 from rfl)
      generalize rd l (1 : Nat) = xi at b1 HD HD0 hx
      go_wp2_with fail
      go_loopg [6, 22] 1 (fun gg v6 v22 w' => ∃ j : Nat, j ≤ 1 ∧ 1 - j ≤ gg ∧ v22 = .int .i64 j ∧ v6 = .int .i64 (ZJ l 1 j) ∧ w' = wr)
      case atStart => exact ⟨0, by omega, by omega, rfl, by rw [HD0.out], rfl⟩
      case round =>
        obtain ⟨j, hj, hg2, rfl, rfl, rfl⟩ := hrel
        by_cases hlt : j < 1
        · have hltz : (j : Int) < 1 := by omega
          have bj : wr.cell? ⟨w.heap.size, j, none⟩ = some (.int .i64 (rd l (j : Nat))) := by
            have := Qt B1.out (j : Int) (by omega) (by omega)
            rw [HLL.out, yny] at this
            exact this
          have hbd := (HL.out.2.1 j)
          obtain ⟨hbd1, hbd2⟩ := hbd
          have HN := zA.mk (HD.out j)
          generalize ZJ l 1 j = lv at HN hbd1 hbd2 ⊢
          generalize rd l (j : Nat) = xj at bj HN
          by_cases hless : xj < xi
          · have hd1 : decide (xj < xi) = true := ygy hless
            go_wp2
            go_roundg (1 - (j + 1))
            case measure => omega
            case rel => exact ⟨j + 1, by omega, by omega, by go_num, by rw [HN.out, if_pos hless], rfl⟩
          · have hd1 : decide (xj < xi) = false := yhy hless
            go_wp2
            go_roundg (1 - (j + 1))
            case measure => omega
            case rel => exact ⟨j + 1, by omega, by omega, by go_num, by rw [HN.out, if_neg (by omega)], rfl⟩
        · have hltz : ¬ (j : Int) < 1 := by omega
          obtain rfl : j = 1 := by omega
          have hbd := (HL.out.2.1 1)
          obtain ⟨hbd1, hbd2⟩ := hbd
          obtain ⟨hi1, hi2⟩ := HI.out
          have HN := zA.mk (show Jp l 2 = Jp l 1 + ZJ l 1 1 * 2 from rfl)
          generalize ZJ l 1 1 = lv at HN hbd1 hbd2 ⊢
          generalize Jp l 1 = iv at HN hi1 hi2 ⊢
          go_wp2
          go_roundg (4 - 2)
          case measure => omega
          case rel => exact ⟨2, by omega, by omega, by first | rfl | go_num, by rw [HN.out], ⟨by rw [HN.out]; omega⟩, B1, B9, HB⟩
    · have b9 : wr.cell? ⟨w.heap.size + 1, 0, none⟩ = some (.int .i64 6) := (zL B9.out 0).trans rfl
      have b1 : wr.cell? ⟨w.heap.size, 0, none⟩ = some (.int .i64 (rd l (0 : Nat))) := (zL B1.out 0).trans (by rw [← HLL.out]; rfl)
      have hx : sm (rd l (0 : Nat)) := by have := HS.out; exact this.1
      have HD := zA.mk (show ∀ j : Nat, ZJ l 0 (j + 1) = if rd l (j : Nat) < rd l (0 : Nat) then ZJ l 0 j - 1 else ZJ l 0 j from fun _ => rfl)
      have HD0 := zA.mk (show rd l (0 : Nat) = ZJ l 0 0 from rfl)
      generalize rd l (0 : Nat) = xi at b1 HD HD0 hx
      go_wp2_with fail
      go_loopg [6, 22] 0 (fun gg v6 v22 w' => ∃ j : Nat, j ≤ 0 ∧ 0 - j ≤ gg ∧ v22 = .int .i64 j ∧ v6 = .int .i64 (ZJ l 0 j) ∧ w' = wr)
      case atStart => exact ⟨0, by omega, by omega, rfl, by rw [HD0.out], rfl⟩
      case round =>
        obtain ⟨j, hj, hg2, rfl, rfl, rfl⟩ := hrel
        by_cases hlt : j < 0
        · have hltz : (j : Int) < 0 := by omega
          have bj : wr.cell? ⟨w.heap.size, j, none⟩ = some (.int .i64 (rd l (j : Nat))) := by
            have := Qt B1.out (j : Int) (by omega) (by omega)
            rw [HLL.out, yny] at this
            exact this
          have hbd := (HL.out.1 j)
          obtain ⟨hbd1, hbd2⟩ := hbd
          have HN := zA.mk (HD.out j)
          generalize ZJ l 0 j = lv at HN hbd1 hbd2 ⊢
          generalize rd l (j : Nat) = xj at bj HN
          by_cases hless : xj < xi
          · have hd1 : decide (xj < xi) = true := ygy hless
            go_wp2
            go_roundg (0 - (j + 1))
            case measure => omega
            case rel => exact ⟨j + 1, by omega, by omega, by go_num, by rw [HN.out, if_pos hless], rfl⟩
          · have hd1 : decide (xj < xi) = false := yhy hless
            go_wp2
            go_roundg (0 - (j + 1))
            case measure => omega
            case rel => exact ⟨j + 1, by omega, by omega, by go_num, by rw [HN.out, if_neg (by omega)], rfl⟩
        · have hltz : ¬ (j : Int) < 0 := by omega
          obtain rfl : j = 0 := by omega
          have hbd := (HL.out.1 0)
          obtain ⟨hbd1, hbd2⟩ := hbd
          obtain ⟨hi1, hi2⟩ := HI.out
          have HN := zA.mk (show Jp l 1 = Jp l 0 + ZJ l 0 0 * 6 from rfl)
          generalize ZJ l 0 0 = lv at HN hbd1 hbd2 ⊢
          generalize Jp l 0 = iv at HN hi1 hi2 ⊢
          go_wp2
          go_roundg (4 - 1)
          case measure => omega
          case rel => exact ⟨1, by omega, by omega, by first | rfl | go_num, by rw [HN.out], ⟨by rw [HN.out]; omega⟩, B1, B9, HB⟩
def zEs (p : Int → Bool) : Nat → List Int → Int
  | _, [] => -1
  | i, x :: xs => if p x = true then (i : Int) else zEs p (i + 1) xs
theorem zC4 (p : Int → Bool) : ∀ (l : List Int) (i : Nat), (zEs p i l = -1 ∧ ∀ x ∈ l, p x = false) ∨ ∃ k, k < l.length ∧ zEs p i l = ((i + k : Nat) : Int) ∧ (∀ h : k < l.length, p l[k] = true) ∧ ∀ x ∈ l.take k, p x = false
  | [], _ => .inl ⟨rfl, fun x hx => by cases hx⟩
  | x :: xs, i => by
    cases hp : p x with
    | true => exact .inr ⟨0, by simp, by rw [zEs, hp, if_pos rfl]; rfl, fun _ => hp, fun y hy => by simp at hy⟩
    | false =>
      rcases zC4 p xs (i + 1) with ⟨h1, h2⟩ | ⟨k, h1, h2, h3, h4⟩
      · refine .inl ⟨by rw [zEs, hp, if_neg (by simp)]; exact h1, fun y hy => ?_⟩
        rcases List.mem_cons.1 hy with rfl | hy
        · exact hp
        · exact h2 y hy
      · refine .inr ⟨k + 1, by simp; omega, by rw [zEs, hp, if_neg (by simp), h2]; congr 1; omega, fun h => h3 (by simpa using h), fun y hy => ?_⟩
        rw [List.take_succ_cons] at hy
        rcases List.mem_cons.1 hy with rfl | hy
        · exact hp
        · exact h4 y hy
theorem zDH {e B g n cap : Nat} {ok : Nat → Prop} {w0 : World} : ∀ (m i : Nat) (w : World) (dk : List Int), Kd.R (Kd.int .i64) e w B ok (.slice (some ⟨g, 0, none⟩) n cap) dk → B ≤ g → Below B w0 w →
    ∃ dk', Kd.R (Kd.int .i64) e (w.setCells g i (List.replicate m (.int .i64 0))) B ok (.slice (some ⟨g, 0, none⟩) n cap) dk' ∧ dk'.take i = dk.take i ∧ dk'.length = dk.length ∧ Below B w0 (w.setCells g i (List.replicate m (.int .i64 0)))
  | 0, i, w, dk, h, _, hb => ⟨dk, h, rfl, rfl, hb⟩
  | m + 1, i, w, dk, h, hg, hb => by
    have hn : n = dk.length := (Kd.zo h).1
    subst hn
    have h1 := (Kd.zAX h (i : Int) 0).1
    rw [yny] at h1
    have e1 : (.slice (some ⟨g, 0, none⟩) dk.length cap : Value) = .slice (some ⟨g, 0, none⟩) (dk.set i 0).length cap := by rw [List.length_set]
    rw [e1] at h1
    obtain ⟨dk', h2, h3, h4, h5⟩ := zDH m (i + 1) _ _ h1 hg (hb.setCell (p := ⟨g, i, none⟩) hg (.int .i64 0))
    rw [← e1] at h2
    refine ⟨dk', h2, ?_, by rw [h4, List.length_set], h5⟩
    have := congrArg (List.take i) h3
    rw [List.take_take, List.take_take, Nat.min_eq_left (by omega)] at this
    rw [this, List.take_set_of_le (yry i)]
structure Jk (p : Int → Bool) (xs dk : List Int) (i j : Nat) : Prop where
  lt : i < j
  le : j ≤ xs.length
  len : dk.length = xs.length
  done : dk.take i = (xs.take j).filter fun x => !p x
  left : dk.drop j = xs.drop j
theorem Jk.start {p : Int → Bool} {xs : List Int} {k : Nat} (h1 : k < xs.length) (h3 : p xs[k] = true) (h4 : ∀ x ∈ xs.take k, p x = false) : Jk p xs xs k (k + 1) := by
  refine ⟨by omega, by omega, rfl, ?_, rfl⟩
  rw [List.take_succ_eq_append_getElem h1, List.filter_append]
  have e1 : (xs.take k).filter (fun x => !p x) = xs.take k := List.filter_eq_self.2 (fun x hx => by rw [h4 x hx]; rfl)
  rw [e1]; simp [h3]
theorem Jk.get {p : Int → Bool} {xs dk : List Int} {i j : Nat} (h : Jk p xs dk i j) (hj : j < xs.length) : rd dk (j : Int) = xs[j] := by
  have h1 : dk[j]? = xs[j]? := by
    have := congrArg (fun l => l[0]?) h.left
    simpa [List.getElem?_drop] using this
  have h2 : j < dk.length := by rw [h.len]; exact hj
  simp [rd, List.getD_eq_getElem?_getD, h1, hj]
theorem Jk.keep {p : Int → Bool} {xs dk : List Int} {i j : Nat} (h : Jk p xs dk i j) (hj : j < xs.length) (hp : p xs[j] = false) : Jk p xs (dk.set i xs[j]) (i + 1) (j + 1) := by
  have hi : i < dk.length := by have := h.lt; have := h.len; omega
  refine ⟨by have := h.lt; omega, by omega, by rw [List.length_set]; exact h.len, ?_, ?_⟩
  · rw [List.take_succ_eq_append_getElem (by rw [List.length_set]; exact hi), List.take_set_of_le (yry i), h.done, List.take_succ_eq_append_getElem hj, List.filter_append]
    simp [hp]
  · rw [List.drop_set_of_lt (by have := h.lt; omega), ← List.drop_drop, h.left, List.drop_drop]
theorem Jk.skip {p : Int → Bool} {xs dk : List Int} {i j : Nat} (h : Jk p xs dk i j) (hj : j < xs.length) (hp : p xs[j] = true) : Jk p xs dk i (j + 1) := by
  refine ⟨by have := h.lt; omega, by omega, h.len, ?_, ?_⟩
  · rw [h.done, List.take_succ_eq_append_getElem hj, List.filter_append]
    simp [hp]
  · rw [← List.drop_drop, h.left, List.drop_drop]
set_option maxHeartbeats 8000000 in
set_option maxRecDepth 100000 in
theorem Jc.calls (p : Int → Bool) (k1_ : Value) (A0 : Option Addr) (c0 : Nat) (l0 : List Int) (w : World) (hr0 : Kd.C (Kd.int .i64) w A0 l0.length l0)
    (hp : ∀ (W : World) (x : Int), x ∈ l0 → Below w.heap.size w W → Calls Try.prog 124 #[.int .i64 x, k1_] W fun e W' => e = .returned (.bool (p x)) ∧ Below W.heap.size W W') :
    Calls Try.prog 122 #[.slice A0 l0.length c0, .func (.func 124) #[] #[k1_]] w fun e w' => e = .returned (.int .i64 (zEs p 0 l0)) ∧ Below w.heap.size w w' := by
  have HR0 := zA.mk hr0
  have HP := zA.mk hp
  clear hr0 hp
  have hbig : l0.length ≤ 9223372036854775807 := HR0.out.2.1
  have HB := zA.mk (ysy w.heap.size w)
  have H' : zA (zEs p 0 (l0.drop 0) = zEs p 0 l0) := ⟨by rw [List.drop_zero]⟩
  generalize zEs p 0 l0 = r at H' ⊢
  go_enter Try.func122, Try.ntmps122
  go_wp2
  go_loopg [5, 8] l0.length (fun gg v5 v8 w' => ∃ kk : Nat, kk ≤ l0.length ∧ l0.length - kk ≤ gg ∧ v8 = .int .i64 kk ∧ zA (zEs p kk (l0.drop kk) = r) ∧ zA (Below w.heap.size w w'))
  case atStart => exact ⟨0, Nat.zero_le _, by omega, rfl, H', HB⟩
  case round =>
    clear H' HB
    obtain ⟨kk, hkk, hg, rfl, HA, HB⟩ := hrel
    by_cases hlt : kk < l0.length
    · have hltz : (kk : Int) < (l0.length : Int) := by omega
      have H := HA.out
      clear HA
      rw [ypy hlt, zEs] at H
      obtain ⟨ad, e104, hx⟩ := Kd.qz HR0.out (kk : Int) (by omega) (by omega)
      have ex : rd l0 (kk : Int) = l0[kk] := by simp [rd, hlt]
      rw [ex, yny] at hx
      replace hx := (HB.out.cell (yqy w _ hx)).trans hx
      have HC := zA.mk (HP.out wr l0[kk] (yoy hlt) HB.out)
      generalize l0[kk] = y at hx H HC
      clear ex
      cases e104
      cases hq : p y with
      | true =>
        rw [hq] at HC H
        rw [if_pos rfl] at H
        have H2 := zA.mk H
        clear H
        go_wp2_with fail
        refine HC.out.mono ?_
        rintro e w' ⟨rfl, hd⟩
        have HB2 := zA.mk (zM HB.out hd)
        clear hd HB HC
        go_wp2
        go_ret
        exact ⟨by rw [← H2.out]; rfl, HB2.out⟩
      | false =>
        rw [hq] at HC H
        rw [if_neg (by simp)] at H
        have H2 := zA.mk H
        clear H
        go_wp2_with fail
        refine HC.out.mono ?_
        rintro e w' ⟨rfl, hd⟩
        have HB2 := zA.mk (zM HB.out hd)
        clear hd HB HC
        go_wp2
        go_roundg (l0.length - (kk + 1))
        case measure => omega
        case rel => exact ⟨kk + 1, by omega, by omega, by go_num, H2, HB2⟩
    · have hltz : ¬ (kk : Int) < (l0.length : Int) := by omega
      have e : kk = l0.length := by omega
      subst e
      have H2 := zA.mk (show (-1 : Int) = r by have := HA.out; rwa [List.drop_length, zEs] at this)
      clear HA
      go_wp2
      go_ret
      exact ⟨by rw [← H2.out]; rfl, HB.out⟩
set_option maxHeartbeats 8000000 in
set_option maxRecDepth 100000 in
theorem JS.calls (p : Int → Bool) (k1_ : Value) (g cap B : Nat) (ok : Nat → Prop) (xs : List Int) (w : World) (hR : Kd.R (Kd.int .i64) 2 w B ok (.slice (some ⟨g, 0, none⟩) xs.length cap) xs)
    (hp : ∀ (W : World) (x : Int), x ∈ xs → Below B w W → Calls Try.prog 124 #[.int .i64 x, k1_] W fun e W' => e = .returned (.bool (p x)) ∧ Below W.heap.size W W') :
    Calls Try.prog 123 #[.slice (some ⟨g, 0, none⟩) xs.length cap, .func (.func 124) #[] #[k1_]] w fun e w' => ∃ v', e = .returned v' ∧ Kd.R (Kd.int .i64) 2 w' B ok v' (xs.filter fun x => !p x) ∧ Below B w w' := by
  have hgB : B ≤ g := Kd.Zi hR g (by simp [Value.ownBlock])
  have hgW : g < w.heap.size := Kd.Qy hR g (by simp [Value.ownBlock])
  have hcap : xs.length ≤ cap := (Kd.zo hR).2.1
  have hbig : xs.length ≤ 9223372036854775807 := Kd.zFH (Kd.zo hR).2.2
  have HIX := zA.mk (Jc.calls p k1_ (some ⟨g, 0, none⟩) cap xs w (Kd.zo hR).2.2 (fun W x hx hb => hp W x hx (hb.mono (by omega))))
  have HR := zA.mk hR
  have HP := zA.mk hp
  have HG := zA.mk (And.intro hgB hgW)
  clear hR hp hgB hgW
  rcases zC4 p xs 0 with ⟨h1, h2⟩ | ⟨k, h1, h2, h3, h4⟩
  · rw [h1] at HIX
    have e1 : xs.filter (fun x => !p x) = xs := List.filter_eq_self.2 (fun x hx => by rw [h2 x hx]; rfl)
    rw [e1]
    clear h1 h2 e1 HP
    go_enter Try.func123, Try.ntmps123
    go_wp2_with fail
    refine HIX.out.mono ?_
    rintro e w' ⟨rfl, hd⟩
    have HB := zA.mk (hd.mono (show B ≤ w.heap.size by have := HG.out; omega))
    have HR2 := zA.mk (Kd.qK HR.out hd)
    clear hd HIX HR
    go_wp2
    go_ret
    exact ⟨_, rfl, HR2.out, HB.out⟩
  · rw [h2, Nat.zero_add] at HIX
    have HK0 := zA.mk (Jk.start h1 (h3 h1) h4)
    have hk9 : k < xs.length := h1
    have hne : ((k : Int) == -1) = false := beq_eq_false_iff_ne.2 (by omega)
    clear h2 h3 h4 h1
    go_enter Try.func123, Try.ntmps123
    go_wp2_with fail
    refine HIX.out.mono ?_
    rintro e w1 ⟨rfl, hd⟩
    have HB := zA.mk (hd.mono (show B ≤ w.heap.size by have := HG.out; omega))
    have HR2 := zA.mk (Kd.qK HR.out hd)
    clear hd HIX HR
    go_wp2
    clear hne
    go_loopg [5, 6, 7] xs.length (fun gg s5 s6 _ wr => ∃ (i j : Nat) (dk : List Int), s5 = .int .i64 i ∧ s6 = .int .i64 j ∧ xs.length - j ≤ gg ∧ zA (Jk p xs dk i j) ∧ zA (Kd.R (Kd.int .i64) 2 wr B ok (.slice (some ⟨g, 0, none⟩) xs.length cap) dk) ∧ zA (Below B w wr))
    case atStart => exact ⟨k, k + 1, xs, rfl, by go_num, by omega, HK0, HR2, HB⟩
    case round =>
      clear HK0 HR2 HB hk9
      obtain ⟨i, j, dk, rfl, rfl, hgg, HK, HR, HB⟩ := hrel
      have hij := HK.out.lt
      have hjl := HK.out.le
      have hdl := HK.out.len
      by_cases hlt : j < xs.length
      · have hltz : (j : Int) < (xs.length : Int) := by omega
        have hr2 := HR.out
        rw [← hdl] at hr2
        obtain ⟨cj, _⟩ := Kd.Zn 0 hr2 (j : Int) (by omega) (by omega)
        obtain ⟨ci, fi⟩ := Kd.Zn 0 hr2 (i : Int) (by omega) (by omega)
        replace cj : wr.cell? ⟨g, j, none⟩ = some (.int .i64 (rd dk (j : Int))) := cj
        replace ci : wr.cell? ⟨g, i, none⟩ = some (.int .i64 (rd dk (i : Int))) := ci
        replace fi : wr.frozen? ⟨g, i, none⟩ = false := fi
        rw [HK.out.get hlt] at cj
        have HC := zA.mk (HP.out wr xs[j] (yoy hlt) HB.out)
        generalize hu : xs[j] = u at cj HC
        have HU := zA.mk hu
        generalize rd dk (i : Int) = old at ci
        clear hu hr2
        cases hq : p u with
        | false =>
          rw [hq] at HC
          go_wp2_with fail
          refine HC.out.mono ?_
          rintro e w2 ⟨rfl, hd⟩
          have HB2 := zA.mk (HB.out.trans (hd.mono (show B ≤ wr.heap.size by have := HB.out.size; have := HG.out; omega)))
          have hr3 := Kd.qK HR.out hd
          rw [← hdl] at hr3
          have HR3 := zA.mk (Kd.zAX hr3 (i : Int) u).1
          rw [yny] at HR3
          have ci2 := (hd.cell (yqy wr _ ci)).trans ci
          have fi2 := (hd.frozen (yqy wr _ ci)).trans fi
          clear hd HB HC cj ci fi hr3 HR
          go_wp2
          go_roundg (xs.length - (j + 1))
          case measure => omega
          case rel => exact ⟨i + 1, j + 1, dk.set i u, by go_num, by go_num, by omega, ⟨by have := HK.out.keep hlt (by rw [HU.out]; exact hq); rwa [HU.out] at this⟩, ⟨by rw [← hdl]; exact HR3.out⟩, ⟨HB2.out.setCell (p := ⟨g, i, none⟩) HG.out.1 _⟩⟩
        | true =>
          rw [hq] at HC
          go_wp2_with fail
          refine HC.out.mono ?_
          rintro e w2 ⟨rfl, hd⟩
          have HB2 := zA.mk (HB.out.trans (hd.mono (show B ≤ wr.heap.size by have := HB.out.size; have := HG.out; omega)))
          have HR3 := zA.mk (Kd.qK HR.out hd)
          clear hd HB HC cj ci fi HR
          go_wp2
          go_roundg (xs.length - (j + 1))
          case measure => omega
          case rel => exact ⟨i, j + 1, dk, rfl, by go_num, by omega, ⟨HK.out.skip hlt (by rw [HU.out]; exact hq)⟩, HR3, HB2⟩
      · obtain rfl : j = xs.length := by omega
        have hltz : ¬ (xs.length : Int) < (xs.length : Int) := by omega
        have hr2 := HR.out
        rw [← hdl] at hr2
        have hcl : ∀ ty, (Builtin.clear_ #[22] ty #[.slice (some ⟨g, i, none⟩) (xs.length - i) (cap - i)]).run Try.prog wr = .ok (.tuple #[]) (wr.setCells g i (List.replicate (xs.length - i) (.int .i64 0))) :=
          fun ty => Lib.run_clear_slice wr _ _ ty _ Try.underlying22 (fun w => Try.zeroValue2 w) rfl rfl g i _ _ (by omega) (fun t ht => by have q : wr.cell? ⟨g, i + t, none⟩ = some (.int .i64 (rd dk ((i + t : Nat) : Int))) := (Kd.Zn 0 hr2 ((i + t : Nat) : Int) (by omega) (by omega)).1; rw [q]; rfl) (fun t ht => (Kd.Zn 0 hr2 ((i + t : Nat) : Int) (by omega) (by omega)).2)
        obtain ⟨dk', q1, q2, q3, q4⟩ := zDH (xs.length - i) i wr dk HR.out HG.out.1 HB.out
        have q5 := Kd.R_take (m := i) q1 (by omega)
        have q6 : dk'.take i = xs.filter fun x => !p x := by rw [q2, HK.out.done, List.take_length]
        rw [q6] at q5
        have Q5 := zA.mk q5
        have Q4 := zA.mk q4
        clear q1 q2 q3 q4 q5 q6 hr2 HR HB HP HK hdl
        go_wp2
        go_ret
        exact ⟨_, rfl, Q5.out, Q4.out⟩
def qJ.l0 : Nat → List Int → Int → Int → Int → Option (Int)
  | 0, _, _, _, _ => none
  | k + 1, x0, x1, x7, x8 => if x8 < x7 then (if 0 ≤ x8 then (if x8 < (x0.length : Int) then (if x1 = (rd x0 x8) then (some x8) else (qJ.l0 k x0 x1 x7 (wrap64 (x8 + 1)))) else (none)) else (none)) else (some (-1))
def qJ.f (k : Nat) (l0 : List Int) (a1 : Int) : Option (Int) := qJ.l0 k l0 a1 (l0.length : Int) 0
set_option maxHeartbeats 8000000 in
set_option maxRecDepth 100000 in
theorem qJ.calls (k : Nat) (A0 : Option Addr) (c0 : Nat) (l0 : List Int) (a1 : Int) (r : Int) (w : World) (hr0 : Kd.C (Kd.int .i64) w A0 l0.length l0) (hc0 : l0.length ≤ c0) (h : qJ.f k l0 a1 = some r) :
    Calls Try.prog 132 #[.slice A0 l0.length c0, .int .i64 a1] w fun e w' => e = .returned (.int .i64 r) ∧ zx w w' := by
  have HR0 := zA.mk hr0
  have HC0 := zA.mk hc0
  clear hr0 hc0
  have H : (qJ.l0 k l0 a1 (l0.length : Int) 0) = some r := h
  clear h
  have H' := zA.mk H
  clear H
  go_enter Try.func132, Try.ntmps132
  go_wp2
  go_loopg [8] k (fun kq v8 w' => ∃ (x8_1 : Int), v8 = .int .i64 x8_1 ∧ zA (qJ.l0 kq l0 a1 (l0.length : Int) x8_1 = some r) ∧ zA (kq ≤ k) ∧ zx w w')
  case atStart => exact ⟨(0), (by first | rfl | (simp; done) | (simp [*]; done)), H', ⟨yry _⟩, by repeat (first | exact zx.refl _ | apply zx.step)⟩
  case round =>
    clear H'
    try clear c1
    try clear p2
    obtain ⟨x8_1, rfl, HA, HK1, ⟨m1, rfl⟩⟩ := hrel
    cases gk with
    | zero => exact absurd HA.out (by simp [qJ.l0])
    | succ k1 =>
      have H := HA.out
      clear HA
      simp only [qJ.l0] at H
      by_cases c3 : x8_1 < (l0.length : Int)
      · rw [if_pos c3] at H
        have c3b0 : decide (x8_1 < (l0.length : Int)) = true := ygy c3
        clear c3
        by_cases c4 : 0 ≤ x8_1
        · rw [if_pos c4] at H
          have c4b0 : decide (0 ≤ x8_1) = true := ygy c4
          clear c4
          by_cases c5 : x8_1 < (l0.length : Int)
          · rw [if_pos c5] at H
            have c5b0 : decide (x8_1 < (l0.length : Int)) = true := ygy c5
            clear c5
            by_cases c6 : a1 = (rd l0 x8_1)
            · rw [if_pos c6] at H
              have c6b0 : (a1 == (rd l0 x8_1)) = true := beq_iff_eq.mpr c6
              have c6b1 : (a1 != (rd l0 x8_1)) = false := bne_eq_false_iff_eq.mpr c6
              clear c6
              obtain rfl := yey H
              have p101 : 0 ≤ (x8_1 : Int) := of_decide_eq_true (by first | (with_reducible assumption) | assumption)
              have q101 : x8_1 < (l0.length : Int) := of_decide_eq_true (by first | (with_reducible assumption) | assumption)
              obtain ⟨ad101, e101, hx101_0⟩ := Kd.qz HR0.out x8_1 p101 q101
              cases e101
              replace p101 := eq_true p101
              replace q101 := eq_true q101
              go_wp2
              go_ret
              exact ⟨by first | rfl | (simp; done) | (simp [*]; done), by repeat (first | exact zx.refl _ | apply zx.step)⟩
            · rw [if_neg c6] at H
              have c6b0 : (a1 == (rd l0 x8_1)) = false := beq_eq_false_iff_ne.mpr c6
              have c6b1 : (a1 != (rd l0 x8_1)) = true := bne_iff_ne.mpr c6
              have H' := zA.mk H
              clear H
              have p101 : 0 ≤ (x8_1 : Int) := of_decide_eq_true (by first | (with_reducible assumption) | assumption)
              have q101 : x8_1 < (l0.length : Int) := of_decide_eq_true (by first | (with_reducible assumption) | assumption)
              obtain ⟨ad101, e101, hx101_0⟩ := Kd.qz HR0.out x8_1 p101 q101
              cases e101
              replace p101 := eq_true p101
              replace q101 := eq_true q101
              go_wp2
              go_roundg k1
              case measure => have := HK1.out; omega
              case rel => exact ⟨(wrap64 (x8_1 + 1)), (by first | rfl | (simp; done) | (simp [*]; done)), H', ⟨by have := HK1.out; omega⟩, by repeat (first | exact zx.refl _ | apply zx.step)⟩
          · rw [if_neg c5] at H
            exact absurd H (by simp)
        · rw [if_neg c4] at H
          exact absurd H (by simp)
      · rw [if_neg c3] at H
        have c3b0 : decide (x8_1 < (l0.length : Int)) = false := yhy c3
        clear c3
        obtain rfl := yey H
        go_wp2
        go_ret
        exact ⟨by first | rfl | (simp; done) | (simp [*]; done), by repeat (first | exact zx.refl _ | apply zx.step)⟩
def ZP.f (k : Nat) (l0 : List Int) (a1 : Int) : Option (Bool) := (qJ.f k l0 a1).bind fun t101 => (some (decide (t101 ≥ 0)))
set_option maxHeartbeats 8000000 in
set_option maxRecDepth 100000 in
theorem ZP.calls (k : Nat) (A0 : Option Addr) (c0 : Nat) (l0 : List Int) (a1 : Int) (r : Bool) (w : World) (hr0 : Kd.C (Kd.int .i64) w A0 l0.length l0) (hc0 : l0.length ≤ c0) (h : ZP.f k l0 a1 = some r) :
    Calls Try.prog 125 #[.slice A0 l0.length c0, .int .i64 a1] w fun e w' => e = .returned (.bool r) ∧ zx w w' := by
  have HR0 := zA.mk hr0
  have HC0 := zA.mk hc0
  clear hr0 hc0
  have H : ((qJ.f k l0 a1).bind fun t101 => (some (decide (t101 ≥ 0)))) = some r := h
  clear h
  replace H := ydy.mp H
  obtain ⟨t101, A30, H⟩ := H
  replace H : (some (decide (t101 ≥ 0))) = some r := H
  have A3 := zA.mk A30
  clear A30
  obtain rfl := yey H
  go_enter Try.func125, Try.ntmps125
  go_wp2_with (first | ((with_reducible refine zZ (f := 132) rfl ?_); refine qQ (some 7) rfl rfl Try.func132 (by kernel_rfl) rfl #[.slice A0 l0.length c0, .int .i64 a1] rfl (by (try simp only [yiy, yjy, yky]); first | done | rfl | (simp only [yly, ymy]; rfl)) ?_; (with_reducible refine (qJ.calls k _ _ l0 a1 t101 _ ?side1 ?side2 A3.out).mono ?_); (case side1 => repeat (first | exact HR0.out | (with_reducible refine Kd.qD ?_ _) | (with_reducible refine Kd.qE ?_ _) | (with_reducible refine Kd.qN ?_))); (case side2 => exact HC0.out); rintro e w' ⟨rfl, ⟨nd, rfl⟩⟩; refine ⟨_, rfl, ?_⟩))
  go_ret
  exact ⟨by first | rfl | (simp; done) | (simp [*]; done), by repeat (first | exact zx.refl _ | apply zx.step)⟩
def JT (l0 : List Int) : List Int := [0, 1, 2, 3].filter fun x => !l0.contains x
def Zj.f (l0 : List Int) : Option (List Int) := some (JT l0)
theorem zEN (l : List Int) (x : Int) (hl : l.length ≤ 9223372036854775807) : ∀ (d n : Nat), n + d = l.length → ∃ r, qJ.l0 (d + 1) l x (l.length : Int) (n : Int) = some r ∧ decide (r ≥ 0) = (l.drop n).contains x
  | 0, n, h => ⟨-1, by rw [qJ.l0, if_neg (by omega)], by rw [List.drop_eq_nil_of_le (by omega)]; rfl⟩
  | d + 1, n, h => by
    have hlt : n < l.length := by omega
    obtain ⟨r, h1, h2⟩ := zEN l x hl d (n + 1) (by omega)
    have ex : rd l (n : Int) = l[n] := by simp [rd, hlt]
    rw [qJ.l0, if_pos (by omega), if_pos (by omega), if_pos (by omega), ex, ypy hlt, List.contains_cons]
    by_cases c : x = l[n]
    · exact ⟨n, by rw [if_pos c], by rw [← c]; simp⟩
    · refine ⟨r, ?_, ?_⟩
      · rw [if_neg c, ← h1]; congr 1; unfold wrap64; omega
      · rw [h2]
        have : (x == l[n]) = false := by simpa using c
        rw [this, Bool.false_or]
theorem contains_eq (l : List Int) (x : Int) (hl : l.length ≤ 9223372036854775807) : ZP.f (l.length + 1) l x = some (l.contains x) := by
  obtain ⟨r, h1, h2⟩ := zEN l x hl l.length 0 (by omega)
  have h3 : qJ.f (l.length + 1) l x = some r := h1
  unfold ZP.f
  rw [h3, yfy, h2, List.drop_zero]
set_option maxHeartbeats 8000000 in
set_option maxRecDepth 100000 in
theorem zCb.calls (A0 : Option Addr) (c0 gb : Nat) (l0 : List Int) (x : Int) (w : World) (hb : w.heap[gb]? = some (.cells #[.slice A0 l0.length c0] 22 (0, 0))) (hC : Kd.C (Kd.int .i64) w A0 l0.length l0) (hc : l0.length ≤ c0) :
    Calls Try.prog 124 #[.int .i64 x, .pointer (some ⟨gb, 0, none⟩)] w fun e w' => e = .returned (.bool (l0.contains x)) ∧ Below w.heap.size w w' := by
  have hx : w.cell? ⟨gb, 0, none⟩ = some (.slice A0 l0.length c0) := (zL hb 0).trans rfl
  have HCC := zA.mk (contains_eq l0 x hC.2.1)
  have HC := zA.mk hC
  have HL := zA.mk hc
  clear hb hC hc
  generalize l0.contains x = b at HCC ⊢
  go_enter Try.func124, Try.ntmps124
  go_wp2_with fail
  refine (ZP.calls _ A0 c0 l0 x b _ HC.out HL.out HCC.out).mono ?_
  rintro e w' ⟨rfl, hd⟩
  have HB := zA.mk (zx.below hd)
  clear hd
  go_wp2
  go_ret
  exact ⟨rfl, HB.out⟩
theorem zCc : qV.f 10 4 = some [0, 1, 2, 3] := by decide +kernel
set_option maxHeartbeats 8000000 in
set_option maxRecDepth 100000 in
theorem Zj.calls (A0 : Option Addr) (c0 : Nat) (l0 : List Int) (r : List Int) (w : World) (hr0 : Kd.C (Kd.int .i64) w A0 l0.length l0) (hc0 : l0.length ≤ c0) (h : Zj.f l0 = some r) :
    Calls Try.prog 96 #[.slice A0 l0.length c0] w fun e w' => ∃ v0_ : Value, e = .returned (v0_) ∧ Kd.R (Kd.int .i64) 2 w' w.heap.size (fun _ => True) v0_ r ∧ Below w.heap.size w w' := by
  have hr : JT l0 = r := yey h
  subst hr
  clear h
  have HR := zA.mk hr0
  have HC := zA.mk hc0
  clear hr0 hc0
  go_enter Try.func96, Try.ntmps96
  have BB := zA.mk (Zq (W := w) rfl (.cells #[.slice A0 l0.length c0] 22))
  have HB := zA.mk (zC (ysy w.heap.size w) (.cells #[.slice A0 l0.length c0] 22))
  have HS := zA.mk (show (w.alloc (.cells #[.slice A0 l0.length c0] 22)).heap.size = w.heap.size + 1 by simp)
  go_wp2_with fail
  refine (qV.calls 10 4 [0, 1, 2, 3] _ zCc).mono ?_
  rintro e w1 ⟨v1, rfl, ho, hb⟩
  obtain ⟨g, cap, rfl, hg1, hg2, _⟩ := Kd.zAG ho (by decide)
  have BB1 := zA.mk (zO BB.out hb)
  have HB1 := zA.mk (zM HB.out hb)
  rw [HS.out] at ho hg1
  have HO := zA.mk ho
  have HG := zA.mk hg1
  clear ho hb hg1 hg2 BB HB HS
  go_wp2_with fail
  refine (JS.calls (fun x => l0.contains x) (.pointer (some ⟨w.heap.size, 0, none⟩)) g cap (w.heap.size + 1) (fun _ => True) [0, 1, 2, 3] _ HO.out (fun W x _ hb => zCb.calls A0 c0 w.heap.size l0 x W ((hb.block w.heap.size (by omega)).trans BB1.out) (Kd.qI HR.out (HB1.out.trans (hb.mono (by omega)))) HC.out)).mono ?_
  rintro e w2 ⟨v2, rfl, ho, hb⟩
  have HO2 := zA.mk (Kd.qp ho (show w.heap.size ≤ w.heap.size + 1 by omega))
  have HB2 := zA.mk (HB1.out.trans (hb.mono (show w.heap.size ≤ w.heap.size + 1 by omega)))
  clear ho hb HO HB1 BB1
  go_wp2
  go_ret
  exact ⟨_, rfl, HO2.out, HB2.out⟩
theorem QT {f c : Int} (h : c ∈ JT [f]) : sm c ∧ c ≠ f := by
  unfold JT at h
  obtain ⟨h1, h2⟩ := List.mem_filter.1 h
  refine ⟨?_, fun e => by simp [e] at h2⟩
  simp only [List.mem_cons, List.not_mem_nil, or_false] at h1
  unfold sm; omega
theorem zDI {f : Int} (h : sm f) : (JT [f]).length = 3 := by
  obtain ⟨h0, h1⟩ := h
  rcases (show f = 0 ∨ f = 1 ∨ f = 2 ∨ f = 3 by omega) with rfl | rfl | rfl | rfl <;> decide
theorem wid_ {x : Int} (h0 : -9223372036854775808 ≤ x) (h1 : x ≤ 9223372036854775807) : wrap64 x = x := by unfold wrap64; omega
theorem zBD {w : World} {g : Nat} {T : TypeId} {a b c d e f : Int} (h : w.heap[g]? = some (.cells #[.int .i64 a, .int .i64 b, .int .i64 c, .int .i64 d] T (0, 0))) (h0 : 0 ≤ f) (h1 : f ≤ 3) (he : rd [a, b, c, d] f = e) : w.cell? ⟨g, f.toNat, none⟩ = some (.int .i64 e) := by
  rw [Qt h f h0 h1, he]
theorem zBc (n : Nat) (hn : n ≤ 1000000) : ∀ (d i : Nat) (xs : List Int), i + d = n → xs.length = i → qV.l0 (d + 1) xs (n : Int) (i : Int) = some (xs ++ Lib.ZA (i : Int) d)
  | 0, i, xs, h, hl => by rw [qV.l0, if_neg (by omega)]; simp [Lib.ZA]
  | d + 1, i, xs, h, hl => by
    have e1 : wrap64 ((i : Int) + 1) = ((i + 1 : Nat) : Int) := by rw [wid_ (by omega) (by omega)]; rfl
    rw [qV.l0, if_pos (by omega), if_pos (by omega), e1, zBc n hn d (i + 1) _ (by omega) (by simp [hl]), Lib.ZA, List.append_assoc]
    rfl
theorem zBd (n : Nat) (hn : n ≤ 1000000) : qV.f (n + 1) (n : Int) = some (Lib.ZA 0 n) := by
  have h := zBc n hn n 0 [] (by omega) rfl
  exact h
def zCd (l : List (List zw)) : Prop := l.length ≤ 8 ∧ (∀ r ∈ l, r.length ≤ 4) ∧ ∀ r ∈ l, ∀ x ∈ r, ¬ x.f0 < 0 → x.f0 < (l.length : Int) ∧ 0 ≤ x.f1 ∧ x.f1 ≤ 23
instance (l : List (List zw)) : Decidable (zCd l) := by unfold zCd; infer_instance
def QB.f (l : List Int) (i k : Int) : Option (List Int) := if 0 ≤ i ∧ i < l.length ∧ 0 ≤ k ∧ k < l.length then some (Lib.uni l i k) else none
theorem zGa {G : Int → Int} {l cur : List Int} {n : Nat} (h : cur = (l.take n).map G ++ l.drop n) (hn : n < l.length) : rd cur (n : Int) = l[n] := by
  subst h
  have h1 : ((l.take n).map G).length = n := by simp; omega
  simp only [rd, yny, List.getD_eq_getElem?_getD]
  rw [List.getElem?_append_right (by omega), h1, Nat.sub_self, List.getElem?_drop]
  simp [hn]
theorem zFf {G : Int → Int} {l cur : List Int} {n : Nat} (h : cur = (l.take n).map G ++ l.drop n) (hn : n < l.length) (e : G l[n] = l[n]) : cur = (l.take (n + 1)).map G ++ l.drop (n + 1) := by
  subst h
  rw [ypy hn, List.take_succ_eq_append_getElem hn, List.map_append, yjy, yky, e, List.append_assoc]
  rfl
theorem zGb {G : Int → Int} {l cur : List Int} {n : Nat} (h : cur = (l.take n).map G ++ l.drop n) (hn : n < l.length) : cur.set n (G l[n]) = (l.take (n + 1)).map G ++ l.drop (n + 1) := by
  subst h
  have h1 : ((l.take n).map G).length = n := by simp; omega
  rw [List.set_append_right _ _ (by omega), h1, Nat.sub_self, ypy hn, yby, List.take_succ_eq_append_getElem hn, List.map_append, yjy, yky, List.append_assoc]
  rfl
set_option maxHeartbeats 8000000 in
set_option maxRecDepth 100000 in
theorem QB.calls (P0_ : Nat → Prop) (v : Value) (l : List Int) (i k : Int) (r : List Int) (w0 w : World) (hB : Below w0.heap.size w0 w) (ho0 : Kd.R (Kd.int .i64) 2 w w0.heap.size P0_ v l) (h : QB.f l i k = some r) :
    Calls Try.prog 101 #[v, .int .i64 i, .int .i64 k] w fun e w' => e = .returned (.tuple #[]) ∧ Kd.R (Kd.int .i64) 2 w' w0.heap.size P0_ v r ∧ Below w0.heap.size w0 w' ∧ Kept w w' P0_ := by
  unfold QB.f at h
  by_cases hok : 0 ≤ i ∧ i < l.length ∧ 0 ≤ k ∧ k < l.length
  case neg => rw [if_neg hok] at h; cases h
  rw [if_pos hok] at h
  have hr := yey h
  obtain ⟨hi0, hi1, hk0, hk1⟩ := hok
  obtain ⟨g, cap, rfl, hg1, _, _⟩ := Kd.zAG ho0 (by omega)
  have hbig : l.length ≤ 9223372036854775807 := (Kd.zFH (Kd.zo ho0).2.2)
  have q0 := (Kd.Zn 0 ho0 k hk0 hk1).1
  have q1 := (Kd.Zn 0 ho0 i hi0 hi1).1
  replace q0 : w.cell? ⟨g, k.toNat, none⟩ = some (.int .i64 (rd l k)) := q0
  replace q1 : w.cell? ⟨g, i.toNat, none⟩ = some (.int .i64 (rd l i)) := q1
  have hR : zA (l.map (fun x => if x = rd l k then rd l i else x) = r) := ⟨hr⟩
  clear hr h
  generalize rd l k = q at q0 hR
  generalize rd l i = p at q1 hR
  have HO := zA.mk ho0
  have HB := zA.mk hB
  have HP := zA.mk (ho0.1 g rfl)
  clear ho0 hB
  go_enter Try.func101, Try.ntmps101
  go_wp2
  refine QG (n := 10) (S := fun w' => w'.cell? ⟨g, k.toNat, none⟩ = some (.int .i64 q) ∧ w'.cell? ⟨g, i.toNat, none⟩ = some (.int .i64 p)) (ds := []) #[false, false, false, false, false, false, false, false, false, false] (by kernel_rfl) rfl rfl ⟨q0, q1⟩ (fun hHeld => ?_)
  refine zp (i := 0) (N := some 10) (v := ?_) (a' := ?_) #[true, false, false, false, false, false, false, false, false, false] rfl rfl (by kernel_rfl) (fun _ _ _ h => h) (Or.inl ⟨by rfl, ?_⟩) ?_ ?_
  rotate_left
  · intro w'
    go_simp
    with_reducible rfl
  rotate_left
  · simp only [Act.put, yay, yby, ycy, za, zb]
    rfl
  refine zp (i := 1) (N := some 11) (v := ?_) (a' := ?_) #[true, true, false, false, false, false, false, false, false, false] rfl rfl (by kernel_rfl) (fun _ _ _ h => h) (Or.inl ⟨by rfl, ?_⟩) ?_ ?_
  rotate_left
  · intro w'
    go_simp
    with_reducible rfl
  rotate_left
  · simp only [Act.put, yay, yby, ycy, za, zb]
    rfl
  refine zp (i := 2) (N := some 12) (v := ?_) (a' := ?_) #[true, true, true, false, false, false, false, false, false, false] rfl rfl (by kernel_rfl) (fun _ _ _ h => h) (Or.inl ⟨by rfl, ?_⟩) ?_ ?_
  rotate_left
  · intro w'
    go_simp
    with_reducible rfl
  rotate_left
  · simp only [Act.put, yay, yby, ycy, za, zb]
    rfl
  refine ZR (i := 3) (N := some 13) (v := ?_) (a' := ?_) #[true, true, true, true, false, false, false, false, false, false] rfl rfl (by kernel_rfl) (fun _ _ _ h => h) (Or.inl ⟨by rfl, ?_⟩) hHeld ?_ ?_
  rotate_left
  · rintro w' ⟨s0, s1⟩
    go_simp
    with_reducible rfl
  rotate_left
  · simp only [Act.put, yay, yby, ycy, za, zb]
    rfl
  refine zp (i := 4) (N := some 14) (v := ?_) (a' := ?_) #[true, true, true, true, true, false, false, false, false, false] rfl rfl (by kernel_rfl) (fun _ _ _ h => h) (Or.inl ⟨by rfl, ?_⟩) ?_ ?_
  rotate_left
  · intro w'
    go_simp
    with_reducible rfl
  rotate_left
  · simp only [Act.put, yay, yby, ycy, za, zb]
    rfl
  refine zp (i := 5) (N := some 15) (v := ?_) (a' := ?_) #[true, true, true, true, true, true, false, false, false, false] rfl rfl (by kernel_rfl) (fun _ _ _ h => h) (Or.inl ⟨by rfl, ?_⟩) ?_ ?_
  rotate_left
  · intro w'
    go_simp
    with_reducible rfl
  rotate_left
  · simp only [Act.put, yay, yby, ycy, za, zb]
    rfl
  refine zp (i := 6) (N := some 16) (v := ?_) (a' := ?_) #[true, true, true, true, true, true, true, false, false, false] rfl rfl (by kernel_rfl) (fun _ _ _ h => h) (Or.inl ⟨by rfl, ?_⟩) ?_ ?_
  rotate_left
  · intro w'
    go_simp
    with_reducible rfl
  rotate_left
  · simp only [Act.put, yay, yby, ycy, za, zb]
    rfl
  refine ZR (i := 7) (N := some 17) (v := ?_) (a' := ?_) #[true, true, true, true, true, true, true, true, false, false] rfl rfl (by kernel_rfl) (fun _ _ _ h => h) (Or.inl ⟨by rfl, ?_⟩) hHeld ?_ ?_
  rotate_left
  · rintro w' ⟨s0, s1⟩
    go_simp
    with_reducible rfl
  rotate_left
  · simp only [Act.put, yay, yby, ycy, za, zb]
    rfl
  refine zp (i := 8) (N := some 6) (v := ?_) (a' := ?_) #[true, true, true, true, true, true, true, true, true, false] rfl rfl (by kernel_rfl) (fun _ _ _ h => h) (Or.inl ⟨by rfl, ?_⟩) ?_ ?_
  rotate_left
  · intro w'
    go_simp
    with_reducible rfl
  rotate_left
  · simp only [Act.put, yay, yby, ycy, za, zb]
    rfl
  refine zp (i := 9) (N := some 7) (v := ?_) (a' := ?_) #[true, true, true, true, true, true, true, true, true, true] rfl rfl (by kernel_rfl) (fun _ _ _ h => h) (Or.inl ⟨by rfl, ?_⟩) ?_ ?_
  rotate_left
  · intro w'
    go_simp
    with_reducible rfl
  rotate_left
  · simp only [Act.put, yay, yby, ycy, za, zb]
    rfl
  refine JE (by kernel_rfl) ?_
  have HO2 := zA.mk (Kd.zV HO.out)
  have HB2 := zA.mk (zD HB.out)
  have HK := zA.mk (Kept.drew (Kept.refl w P0_))
  have HC : zA (l = (l.take 0).map (fun x => if x = q then p else x) ++ l.drop 0) := ⟨by simp⟩
  clear HO HB hHeld q0 q1
  generalize w.drew = wd at *
  go_wp2
  go_loopg [20] l.length (fun gg v20 w' => ∃ (n : Nat) (cur : List Int), n ≤ l.length ∧ l.length - n ≤ gg ∧ v20 = .int .i64 n ∧ zA (cur = (l.take n).map (fun x => if x = q then p else x) ++ l.drop n) ∧ zA (Kd.R (Kd.int .i64) 2 w' w0.heap.size P0_ (.slice (some ⟨g, 0, none⟩) l.length cap) cur) ∧ zA (Below w0.heap.size w0 w') ∧ zA (Kept w w' P0_))
  case atStart => exact ⟨0, l, Nat.zero_le _, by omega, rfl, HC, HO2, HB2, HK⟩
  case round =>
    clear HC HO2 HB2 HK
    obtain ⟨n, cur, hn, hg, rfl, HC, HO, HB, HK⟩ := hrel
    by_cases hlt : n < l.length
    · have hltz : (n : Int) < (l.length : Int) := by omega
      obtain ⟨hc, hf⟩ := Kd.Zn 0 HO.out (n : Int) (by omega) hltz
      replace hc : wr.cell? ⟨g, n, none⟩ = some (.int .i64 (rd cur (n : Int))) := hc
      replace hf : wr.frozen? ⟨g, n, none⟩ = false := hf
      rw [zGa HC.out hlt] at hc
      by_cases hy : l[n] = q
      · have HC2 := zA.mk (zGb HC.out hlt)
        rw [hy] at hc HC2
        have HC3 : zA (cur.set n p = (l.take (n + 1)).map (fun x => if x = q then p else x) ++ l.drop (n + 1)) := ⟨by have h := HC2.out; rwa [if_pos rfl] at h⟩
        have e1 : (q == q) = true := by simp
        clear hy HC2 HC
        go_wp2_with (first
          | ((with_reducible refine Zg (t := 2) (p := 31) rfl ?_); refine ZY (t := 2) (p := 31) (v := ?vo31) (w1 := (wr.setCell ⟨g, n, none⟩ (.int .i64 p))) ?hg ?ho ?hn ?hr ?_; (case ho => rfl); (case hg => rfl); (case hn => rfl); (case hr => first | (go_simp; done) | (go_simp; rfl)); intro w4 hw; have HO2 := zA.mk (show Kd.R (Kd.int .i64) 2 w4 w0.heap.size P0_ (.slice (some ⟨g, 0, none⟩) l.length cap) (cur.set n p) by rw [hw]; exact (Kd.zAX HO.out (n : Int) p).1); have HB2 := zA.mk (show Below w0.heap.size w0 w4 by rw [hw]; exact zF HB.out hg1); have HK2 := zA.mk (show Kept w w4 P0_ by rw [hw]; exact HK.out.setCell (p := ⟨g, n, none⟩) (.inl HP.out) _); clear hw hc hf HO HB HK))
        go_roundg (l.length - (n + 1))
        case measure => omega
        case rel => exact ⟨n + 1, cur.set n p, by omega, by omega, by go_num, HC3, HO2, HB2, HK2⟩
      · have HC2 := zA.mk (zFf HC.out hlt (if_neg hy))
        have e1 : (l[n] == q) = false := by simpa using hy
        generalize l[n] = y at hc e1
        clear hy HC
        go_wp2
        go_roundg (l.length - (n + 1))
        case measure => omega
        case rel => exact ⟨n + 1, cur, by omega, by omega, by go_num, HC2, HO, HB, HK⟩
    · obtain rfl : n = l.length := by omega
      have hcr : cur = r := by rw [HC.out, ← hR.out]; simp
      have HCR := zA.mk hcr
      clear hcr HC
      go_wp2
      first | go_end0 | ((try simp only [Exit.inBlock, Exit.then]); refine bodyPost_ret (results_none rfl _ _ _) rfl ?_)
      refine ⟨?_, by rw [← HCR.out]; exact HO.out, HB.out, HK.out⟩
      first | rfl | (simp <;> rfl)
theorem Jz (p : Int) (h0 : 0 ≤ p) (h1 : p ≤ 23) : sm (zn p 0) ∧ sm (zn p 1) ∧ sm (zn p 2) ∧ sm (zn p 3) := by
  obtain ⟨n, rfl⟩ := Int.eq_ofNat_of_zero_le h0
  have hn : n < 24 := by omega
  have key : ∀ m : Fin 24, (0 ≤ zn (m.val : Int) 0 ∧ zn (m.val : Int) 0 ≤ 3) ∧ (0 ≤ zn (m.val : Int) 1 ∧ zn (m.val : Int) 1 ≤ 3) ∧ (0 ≤ zn (m.val : Int) 2 ∧ zn (m.val : Int) 2 ≤ 3) ∧ (0 ≤ zn (m.val : Int) 3 ∧ zn (m.val : Int) 3 ≤ 3) := by decide
  exact key ⟨n, hn⟩
def JA (l : List Int) : Nat → List Int
  | 0 => [0, 0, 0, 0]
  | i + 1 => (JA l i).set (rd l i).toNat i
theorem zC5 (l : List Int) : ∀ i, i ≤ 4 → ∀ x ∈ JA l i, sm x
  | 0, _, x, hx => by
    have : x = 0 := by simp [JA] at hx; exact hx
    subst this; exact ⟨by omega, by omega⟩
  | i + 1, hi, x, hx => by
    rw [JA] at hx
    rcases List.mem_or_eq_of_mem_set hx with h | rfl
    · exact zC5 l i (by omega) x h
    · exact ⟨by omega, by omega⟩
def zEt (p : Int) : Int := idxL (JA (qR p) 4)
theorem zA8 {a b c d : Int} (ha : sm a) (hb : sm b) (hc : sm c) (hd : sm d) (f : Int) (h0 : 0 ≤ f) (h1 : f ≤ 3) : sm (rd [a, b, c, d] f) := by
  rcases (show f = 0 ∨ f = 1 ∨ f = 2 ∨ f = 3 by omega) with rfl | rfl | rfl | rfl <;> assumption
def QU (j b : Int) (p : List Int) : List Int → List Int → List Int
  | [], s => s
  | c :: cs, s => QU j b p cs (Lib.uni s (4 * j + c) (4 * b + rd p c))
theorem JM (j b : Int) (p : List Int) : ∀ (L s : List Int), (QU j b p L s).length = s.length
  | [], _ => rfl
  | c :: cs, s => by rw [QU, JM j b p cs, Lib.ZQ]
def zAI (s : List Int) (j f : Nat) (x : zw) : List Int := QU j x.f0 (qR x.f1) (JT [(f : Int)]) s
structure zCe (w0 : World) (gs n : Nat) (s : List Int) (W : World) : Prop where
  below : Below w0.heap.size w0 W
  ex : ∃ v, W.heap[gs]? = some (.cells #[v] 22 (0, 0)) ∧ Kd.R (Kd.int .i64) 2 W w0.heap.size (fun _ => True) v s
  own : w0.heap.size ≤ gs
  len : s.length = n
theorem zCe.stays {w0 W W1 : World} {gs n : Nat} {s : List Int} (h : zCe w0 gs n s W) (hb : Below W.heap.size W W1) : zCe w0 gs n s W1 := by
  obtain ⟨v, h1, h2⟩ := h.ex
  exact ⟨zM h.below hb, ⟨v, zO h1 hb, Kd.qK h2 hb⟩, h.own, h.len⟩
structure VcL (w0 : World) (gs gF gI gO cO : Nat) (f0 f1 x0 x1 x2 x3 : Int) (L s : List Int) (v : Value) (W : World) : Prop where
  below : Below w0.heap.size w0 W
  bS : W.heap[gs]? = some (.cells #[v] 22 (0, 0))
  bF : W.heap[gF]? = some (.cells #[.int .i64 f0, .int .i64 f1] 75 (0, 0))
  bI : W.heap[gI]? = some (.cells #[.int .i64 x0, .int .i64 x1, .int .i64 x2, .int .i64 x3] 101 (0, 0))
  rL : Kd.R (Kd.int .i64) 2 W w0.heap.size (fun k => k = gO) (.slice (some ⟨gO, 0, none⟩) L.length cO) L
  rE : Kd.R (Kd.int .i64) 2 W w0.heap.size (fun k => k ≠ gO) v s
  own : w0.heap.size ≤ gs
section
variable {w0 W W1 : World} {gs gF gI gO cO : Nat} {f0 f1 x0 x1 x2 x3 : Int} {L s s1 : List Int} {v : Value}
theorem VcL.stays (h : VcL w0 gs gF gI gO cO f0 f1 x0 x1 x2 x3 L s v W) (hb : Below W.heap.size W W1) : VcL w0 gs gF gI gO cO f0 f1 x0 x1 x2 x3 L s v W1 :=
  ⟨zM h.below hb, zO h.bS hb, zO h.bF hb, zO h.bI hb, Kd.qK h.rL hb, Kd.qK h.rE hb, h.own⟩
theorem VcL.uni (h : VcL w0 gs gF gI gO cO f0 f1 x0 x1 x2 x3 L s v W) (hR : Kd.R (Kd.int .i64) 2 W1 w0.heap.size (fun k_ => some k_ = v.ownBlock) v s1) (hB : Below w0.heap.size w0 W1) (hK : Kept W W1 (fun k_ => some k_ = v.ownBlock)) : VcL w0 gs gF gI gO cO f0 f1 x0 x1 x2 x3 L s1 v W1 := by
  have hne : ∀ (g : Nat) (T : TypeId) (c : Array Value), T ≠ 2 → W.heap[g]? = some (.cells c T (0, 0)) → ¬ some g = v.ownBlock := fun g T c hT hc e => by
    obtain ⟨cells, hc2⟩ := Kd.zDe h.rE g e.symm
    exact zE6 hc hc2 hT rfl
  exact ⟨hB, ZE h.bS hK (hne _ _ _ (by decide) h.bS), ZE h.bF hK (hne _ _ _ (by decide) h.bF), ZE h.bI hK (hne _ _ _ (by decide) h.bI), Kd.Js h.rL hK (fun k hk e => h.rE.1 k e.symm hk), Kd.zt hR (fun k hk => h.rE.1 k hk.symm), h.own⟩
end
set_option maxHeartbeats 8000000 in
set_option maxRecDepth 100000 in
theorem zAD.calls (w0 w : World) (gs n : Nat) (s : List Int) (j f : Nat) (f0 f1 : Int) (hI : zCe w0 gs n s w) (hj : 4 * (j : Int) + 4 ≤ (n : Int)) (hf : (f : Int) ≤ 3) (hf0 : 0 ≤ f0) (hf1 : 4 * f0 + 4 ≤ (n : Int)) (hp0 : 0 ≤ f1) (hp1 : f1 ≤ 23) (hn : n ≤ 64) :
    Calls Try.prog 120 #[.int .i64 (j : Int), .int .i64 (f : Int), .agg #[.int .i64 f0, .int .i64 f1], .agg #[.int .i64 (zn f1 0), .int .i64 (zn f1 1), .int .i64 (zn f1 2), .int .i64 (zn f1 3)], .pointer (some ⟨gs, 0, none⟩)] w fun e w' => e = .returned (.tuple #[]) ∧ zCe w0 gs n (zAI s j f ⟨f0, f1⟩) w' := by
  obtain ⟨y0, y1, y2, y3⟩ := Jz f1 hp0 hp1
  have hstep : zAI s j f ⟨f0, f1⟩ = QU j f0 (qR f1) (JT [(f : Int)]) s := rfl
  have hpl : qR f1 = [zn f1 0, zn f1 1, zn f1 2, zn f1 3] := rfl
  rw [hpl] at hstep
  have HPL := zA.mk hpl
  generalize zn f1 0 = x0 at *
  generalize zn f1 1 = x1 at *
  generalize zn f1 2 = x2 at *
  generalize zn f1 3 = x3 at *
  clear HPL hpl
  have HP : zA (∀ c, sm c → sm (rd [x0, x1, x2, x3] c)) := ⟨fun c hc => zA8 y0 y1 y2 y3 c hc.1 hc.2⟩
  have HF := zA.mk (show sm (f : Int) from ⟨by omega, hf⟩)
  have HS := zA.mk hstep
  generalize zAI s j f ⟨f0, f1⟩ = R at HS ⊢
  have HI := zA.mk hI
  clear hI hstep y0 y1 y2 y3
  have ht := Try.underlying101
  have HCF : zA (∀ (W : World) (g : Nat), W.heap.size = g → Kd.C (Kd.int .i64) (W.alloc (.cells #[.int .i64 (f : Int)] 2)) (some ⟨g, 0, none⟩) 1 [(f : Int)]) := ⟨fun W g hg => by subst hg; exact (Kd.zo (show Kd.R (Kd.int .i64) 2 (W.alloc (.cells #[.int .i64 (f : Int)] 2)) W.heap.size (fun _ => True) (.slice (some ⟨W.heap.size, 0, none⟩) 1 1) [(f : Int)] from
      Kd.JZ ⟨by simp [zAU], .inr ⟨W.heap.size, 1, #[.int .i64 (f : Int)], rfl, yry _, Zq rfl _, yry 1, by decide, rfl, rfl⟩⟩ (fun _ _ => trivial))).2.2⟩
  have HL3 := zA.mk (zDI HF.out)
  have HLM := zA.mk (show ∀ c ∈ JT [(f : Int)], sm c ∧ c ≠ (f : Int) from fun c hc => QT hc)
  generalize hLe : JT [(f : Int)] = L at HS HL3 HLM
  have HLE := zA.mk (show Zj.f [(f : Int)] = some L by rw [← hLe]; rfl)
  clear hLe
  have BF := zA.mk (zG (Zq (W := w) rfl (.cells #[.int .i64 f0, .int .i64 f1] 75)) (.cells #[.int .i64 x0, .int .i64 x1, .int .i64 x2, .int .i64 x3] 101))
  have BI := zA.mk (Zq (W := w.alloc (.cells #[.int .i64 f0, .int .i64 f1] 75)) (n := w.heap.size + 1) (by simp) (.cells #[.int .i64 x0, .int .i64 x1, .int .i64 x2, .int .i64 x3] 101))
  have HB := zA.mk (zC (zC (ysy w.heap.size w) (.cells #[.int .i64 f0, .int .i64 f1] 75)) (.cells #[.int .i64 x0, .int .i64 x1, .int .i64 x2, .int .i64 x3] 101))
  have HWZ : zA (((w.alloc (.cells #[.int .i64 f0, .int .i64 f1] 75)).alloc (.cells #[.int .i64 x0, .int .i64 x1, .int .i64 x2, .int .i64 x3] 101)).heap.size = w.heap.size + 1 + 1) := ⟨by simp⟩
  go_enter Try.func120, Try.ntmps120
  go_wp2_with fail
  generalize hwB : World.alloc (World.alloc w _) _ = wB at *
  refine (Zj.calls _ 1 [(f : Int)] L _ (HCF.out _ _ HWZ.out) (yry 1) HLE.out).mono ?_
  rintro e w2 ⟨v0, rfl, ho, hb⟩
  obtain ⟨gO, cO, rfl, hg1, hg2, _⟩ := Kd.zAG ho (by rw [HL3.out]; decide)
  have HO := zA.mk ho
  have HBO := zA.mk hb
  have HG := zA.mk (And.intro hg1 hg2)
  clear ho hb hg1 hg2 HCF
  go_wp2
  obtain ⟨v, hM, hE⟩ := HI.out.ex
  have hs0 := HI.out.below.size
  have hs1 := HB.out.size
  have hs2 : (wB.alloc (.cells #[.int .i64 (f : Int)] 2)).heap.size = wB.heap.size + 1 := by simp
  have hgO := HG.out.1
  have HB3 := zA.mk (zM (zC HB.out (.cells #[.int .i64 (f : Int)] 2)) HBO.out)
  generalize hgI : w.heap.size + 1 = gI at *
  have HM := zA.mk (show VcL w0 gs w.heap.size gI gO cO f0 f1 x0 x1 x2 x3 L s v w2 from
    ⟨zM HI.out.below HB3.out, zO hM HB3.out, zO (zG BF.out _) HBO.out, zO (zG BI.out _) HBO.out,
      Kd.zt (Kd.Qo rfl (Kd.qp HO.out (by omega))) (fun k_ hk_ => by simpa [Value.ownBlock] using hk_),
      Kd.qK (Kd.zt (Kd.Zm hE) (fun k hk => by have := hk.2.2.1; omega)) HB3.out, HI.out.own⟩)
  have HLN := zA.mk HI.out.len
  have HS0 : zA (QU j f0 [x0, x1, x2, x3] (L.drop 0) s = R) := ⟨by rw [List.drop_zero]; exact HS.out.symm⟩
  have HLX := zA.mk (Kd.zFH (Kd.zo HO.out).2.2)
  clear hM hE hs0 hs1 hs2 hgO HB3 HO HBO HG HB BF BI HI HLE HS hwB
  generalize hgF : w.heap.size = gF at *
  have hlb : L.length ≤ 3 := by have := HL3.out; omega
  go_loopg [15] L.length (fun gg v15 w' => ∃ (i : Nat) (s1 : List Int), i ≤ L.length ∧ L.length - i ≤ gg ∧ v15 = .int .i64 i ∧ zA (QU j f0 [x0, x1, x2, x3] (L.drop i) s1 = R) ∧ zA (VcL w0 gs gF gI gO cO f0 f1 x0 x1 x2 x3 L s1 v w') ∧ zA (s1.length = n))
  case atStart => exact ⟨0, s, Nat.zero_le _, by omega, rfl, HS0, HM, HLN⟩
  case round =>
    clear HM HS0 HLN
    obtain ⟨i, s1, hi9, hgg, rfl, HS0, HM, HLN⟩ := hrel
    by_cases hlt : i < L.length
    · have hltz : (i : Int) < (L.length : Int) := by omega
      obtain ⟨hc, _⟩ := Kd.Zn 0 HM.out.rL (i : Int) (by omega) hltz
      replace hc : wr.cell? ⟨gO, i, none⟩ = some (.int .i64 (rd L (i : Int))) := hc
      have ex : rd L (i : Int) = L[i] := by simp [rd, hlt]
      rw [ex] at hc
      have HC := zA.mk (HLM.out L[i] (yoy hlt))
      have HA2 := HS0.out
      rw [ypy hlt, QU] at HA2
      have HS1 := zA.mk HA2
      clear HS0 HA2 ex
      generalize L[i] = c at hc HC HS1
      obtain ⟨hc0, hc1⟩ := HC.out.1
      have hc4 : c < 4 := by omega
      have k4 := HP.out c HC.out.1
      generalize hde : rd [x0, x1, x2, x3] c = d at k4 HS1
      have HD := zA.mk hde
      obtain ⟨hd0, hd1⟩ := k4
      go_wp2
      have HUN : zA (QB.f s1 (wrap64 (wrap64 (4 * (j : Int)) + c)) (wrap64 (wrap64 (4 * f0) + d)) = some (Lib.uni s1 (4 * (j : Int) + c) (4 * f0 + d))) := ⟨by
        have hl := HLN.out
        rw [wid_ (show -9223372036854775808 ≤ 4 * (j : Int) by omega) (by omega), wid_ (show -9223372036854775808 ≤ 4 * f0 by omega) (by omega), wid_ (show -9223372036854775808 ≤ 4 * (j : Int) + c by omega) (by omega), wid_ (show -9223372036854775808 ≤ 4 * f0 + d by omega) (by omega)]
        unfold QB.f
        rw [if_pos (by omega)]⟩
      refine QG (n := 13) (S := fun w' => w'.cell? ⟨gs, 0, none⟩ = some v ∧ w'.cell? ⟨gF, 0, none⟩ = some (.int .i64 f0) ∧ w'.cell? ⟨gI, c.toNat, none⟩ = some (.int .i64 d)) (ds := [12]) #[false, false, false, false, false, false, false, false, false, false, false, false, false] (by kernel_rfl) rfl rfl ⟨(zL HM.out.bS 0).trans rfl, (zL HM.out.bF 0).trans rfl, zBD HM.out.bI hc0 hc1 hde⟩ (fun hHeld => ?_)
      have HM5 := zA.mk (HM.out.stays (zD (ysy _ _)))
      clear HM hde hc
      generalize wr.drew = w7 at HM5 hHeld ⊢
      refine ZR (i := 0) (N := some 19) (v := ?_) (a' := ?_) #[true, false, false, false, false, false, false, false, false, false, false, false, false] rfl rfl (by kernel_rfl) (fun _ _ _ h => h) (Or.inl ⟨by rfl, ?_⟩) hHeld ?_ ?_
      rotate_left
      · rintro w' ⟨s0, s1, s2⟩
        go_simp
        with_reducible rfl
      rotate_left
      · simp only [Act.put, yay, yby, ycy, za, zb]
        rfl
      refine zp (i := 1) (N := some 20) (v := ?_) (a' := ?_) #[true, true, false, false, false, false, false, false, false, false, false, false, false] rfl rfl (by kernel_rfl) (fun _ _ _ h => h) (Or.inl ⟨by rfl, ?_⟩) ?_ ?_
      rotate_left
      · intro w'
        go_simp
        with_reducible rfl
      rotate_left
      · simp only [Act.put, yay, yby, ycy, za, zb]
        rfl
      refine zp (i := 2) (N := some 21) (v := ?_) (a' := ?_) #[true, true, true, false, false, false, false, false, false, false, false, false, false] rfl rfl (by kernel_rfl) (fun _ _ _ h => h) (Or.inl ⟨by rfl, ?_⟩) ?_ ?_
      rotate_left
      · intro w'
        go_simp
        with_reducible rfl
      rotate_left
      · simp only [Act.put, yay, yby, ycy, za, zb]
        rfl
      refine zp (i := 3) (N := some 22) (v := ?_) (a' := ?_) #[true, true, true, true, false, false, false, false, false, false, false, false, false] rfl rfl (by kernel_rfl) (fun _ _ _ h => h) (Or.inl ⟨by rfl, ?_⟩) ?_ ?_
      rotate_left
      · intro w'
        go_simp
        with_reducible rfl
      rotate_left
      · simp only [Act.put, yay, yby, ycy, za, zb]
        rfl
      refine zp (i := 4) (N := some 23) (v := ?_) (a' := ?_) #[true, true, true, true, true, false, false, false, false, false, false, false, false] rfl rfl (by kernel_rfl) (fun _ _ _ h => h) (Or.inl ⟨by rfl, ?_⟩) ?_ ?_
      rotate_left
      · intro w'
        go_simp
        with_reducible rfl
      rotate_left
      · simp only [Act.put, yay, yby, ycy, za, zb]
        rfl
      refine zp (i := 5) (N := some 24) (v := ?_) (a' := ?_) #[true, true, true, true, true, true, false, false, false, false, false, false, false] rfl rfl (by kernel_rfl) (fun _ _ _ h => h) (Or.inl ⟨by rfl, ?_⟩) ?_ ?_
      rotate_left
      · intro w'
        go_simp
        with_reducible rfl
      rotate_left
      · simp only [Act.put, yay, yby, ycy, za, zb]
        rfl
      refine ZR (i := 6) (N := some 25) (v := ?_) (a' := ?_) #[true, true, true, true, true, true, true, false, false, false, false, false, false] rfl rfl (by kernel_rfl) (fun _ _ _ h => h) (Or.inl ⟨by rfl, ?_⟩) hHeld ?_ ?_
      rotate_left
      · rintro w' ⟨s0, s1, s2⟩
        go_simp
        with_reducible rfl
      rotate_left
      · simp only [Act.put, yay, yby, ycy, za, zb]
        rfl
      refine zp (i := 7) (N := some 26) (v := ?_) (a' := ?_) #[true, true, true, true, true, true, true, true, false, false, false, false, false] rfl rfl (by kernel_rfl) (fun _ _ _ h => h) (Or.inl ⟨by rfl, ?_⟩) ?_ ?_
      rotate_left
      · intro w'
        go_simp
        with_reducible rfl
      rotate_left
      · simp only [Act.put, yay, yby, ycy, za, zb]
        rfl
      refine zp (i := 8) (N := some 27) (v := ?_) (a' := ?_) #[true, true, true, true, true, true, true, true, true, false, false, false, false] rfl rfl (by kernel_rfl) (fun _ _ _ h => h) (Or.inl ⟨by rfl, ?_⟩) ?_ ?_
      rotate_left
      · intro w'
        go_simp
        with_reducible rfl
      rotate_left
      · simp only [Act.put, yay, yby, ycy, za, zb]
        rfl
      refine zp (i := 9) (N := some 28) (v := ?_) (a' := ?_) #[true, true, true, true, true, true, true, true, true, true, false, false, false] rfl rfl (by kernel_rfl) (fun _ _ _ h => h) (Or.inl ⟨by rfl, ?_⟩) ?_ ?_
      rotate_left
      · intro w'
        go_simp
        with_reducible rfl
      rotate_left
      · simp only [Act.put, yay, yby, ycy, za, zb]
        rfl
      refine ZR (i := 10) (N := some 29) (v := ?_) (a' := ?_) #[true, true, true, true, true, true, true, true, true, true, true, false, false] rfl rfl (by kernel_rfl) (fun _ _ _ h => h) (Or.inl ⟨by rfl, ?_⟩) hHeld ?_ ?_
      rotate_left
      · rintro w' ⟨s0, s1, s2⟩
        go_simp
        with_reducible rfl
      rotate_left
      · simp only [Act.put, yay, yby, ycy, za, zb]
        rfl
      refine zp (i := 11) (N := some 30) (v := ?_) (a' := ?_) #[true, true, true, true, true, true, true, true, true, true, true, true, false] rfl rfl (by kernel_rfl) (fun _ _ _ h => h) (Or.inl ⟨by rfl, ?_⟩) ?_ ?_
      rotate_left
      · intro w'
        go_simp
        with_reducible rfl
      rotate_left
      · simp only [Act.put, yay, yby, ycy, za, zb]
        rfl
      refine zGP (i := 12) (N := some 31) #[true, true, true, true, true, true, true, true, true, true, true, true, true] rfl rfl (by kernel_rfl) (by decide) (fun K hK => ?_)
      refine QQ Try.func101 (by kernel_rfl) rfl #[v, .int .i64 (wrap64 (wrap64 (4 * (j : Int)) + c)), .int .i64 (wrap64 (wrap64 (4 * f0) + d))] (by rfl) rfl rfl (by (try simp only [yiy, yjy, yky]); first | done | rfl) ?_
      refine (QB.calls (fun k_ => some k_ = v.ownBlock) v s1 _ _ _ w0 _ HM5.out.below (Kd.Qo rfl HM5.out.rE) HUN.out).mono ?_
      rintro e w9 ⟨rfl, hR9, hB9, hK9⟩
      refine ⟨_, rfl, ?_⟩
      have HM9 := zA.mk (HM5.out.uni hR9 hB9 hK9)
      clear hR9 hB9 hK9 HM5 HUN
      refine hK.out _ _ ?_
      clear hK K
      refine QH (a' := ?_) ?_ ?_
      rotate_left
      · show Act.put _ (some 31) _ = _
        simp only [Act.put, yay, yby, ycy, za, zb]
        rfl
      refine JE (by kernel_rfl) ?_
      go_wp2
      go_roundg (L.length - (i + 1))
      case measure => omega
      case rel => exact ⟨i + 1, _, by omega, by omega, by go_num, ⟨HS1.out⟩, HM9, ⟨by rw [Lib.ZQ]; exact HLN.out⟩⟩
    · obtain rfl : i = L.length := by omega
      have HA2 := HS0.out
      rw [List.drop_length, QU] at HA2
      subst HA2
      go_wp2
      first | go_end0 | ((try simp only [Exit.inBlock, Exit.then]); refine bodyPost_ret (results_none rfl _ _ _) rfl ?_)
      refine ⟨?_, ⟨HM.out.below, ⟨v, HM.out.bS, Kd.zt HM.out.rE (fun _ _ => trivial)⟩, HM.out.own, HLN.out⟩⟩
      first | rfl | (simp <;> rfl)
def zA0 (l : List (List zw)) : List Int := zAy zAI l 0 (Lib.ZA 0 (4 * l.length))
def zi.f (l : List (List zw)) : Option (List Int) := if zCd l ∧ zDm (zA0 l) = true then some (Lib.zCX (zA0 l)) else none
theorem zHH {l : List (List zw)} (hok : zCd l) {w : World} {gs : Nat} (s : List Int) (W : World) (j f : Nat) (x : zw) (hI : zCe w gs (4 * l.length) s W) (hF : ZX l j f x) (hb : ¬ x.f0 < 0) :
    Calls Try.prog 120 (#[.int .i64 (j : Int), .int .i64 (f : Int), .agg #[.int .i64 x.f0, .int .i64 x.f1], .agg #[.int .i64 (zn x.f1 0), .int .i64 (zn x.f1 1), .int .i64 (zn x.f1 2), .int .i64 (zn x.f1 3)]] ++ #[.pointer (some ⟨gs, 0, none⟩)]) W fun e W' => e = .returned (.tuple #[]) ∧ zCe w gs (4 * l.length) (zAI s j f x) W' := by
  obtain ⟨h1, h2, h3⟩ := hF
  obtain ⟨q0, q1, q2⟩ := hok
  have q3 := q1 _ (yoy h1)
  have q4 := q2 _ (yoy h1) x (by rw [← h3]; exact yoy h2) hb
  have e : (#[.int .i64 (j : Int), .int .i64 (f : Int), .agg #[.int .i64 x.f0, .int .i64 x.f1], .agg #[.int .i64 (zn x.f1 0), .int .i64 (zn x.f1 1), .int .i64 (zn x.f1 2), .int .i64 (zn x.f1 3)]] ++ #[.pointer (some ⟨gs, 0, none⟩)] : Array Value) = #[.int .i64 (j : Int), .int .i64 (f : Int), .agg #[.int .i64 x.f0, .int .i64 x.f1], .agg #[.int .i64 (zn x.f1 0), .int .i64 (zn x.f1 1), .int .i64 (zn x.f1 2), .int .i64 (zn x.f1 3)], .pointer (some ⟨gs, 0, none⟩)] := rfl
  rw [e]
  exact zAD.calls w W gs (4 * l.length) s j f x.f0 x.f1 hI (by omega) (by omega) (by omega) (by omega) q4.2.1 q4.2.2 (by omega)
set_option maxHeartbeats 8000000 in
set_option maxRecDepth 100000 in
theorem zi.calls (A0_0 : Option Addr) (c0_0 : Nat) (l0_0 : List (List zw)) (r : List Int) (w : World) (hr0_0 : Kd.C (Kd.slice 75 ZV) w A0_0 l0_0.length l0_0) (hc0_0 : l0_0.length ≤ c0_0) (h : zi.f l0_0 = some r) :
    Calls Try.prog 88 #[.agg #[.slice A0_0 l0_0.length c0_0]] w fun e w' => ∃ v0_ : Value, e = .returned (v0_) ∧ Kd.R (Kd.int .i64) 2 w' w.heap.size (fun _ => True) v0_ r ∧ Below w.heap.size w w' := by
  unfold zi.f at h
  by_cases hok : zCd l0_0 ∧ zDm (zA0 l0_0) = true
  case neg => rw [if_neg hok] at h; cases h
  rw [if_pos hok] at h
  have hr := yey h
  subst hr
  have HOK := zA.mk hok
  have HR := zA.mk hr0_0
  have HC := zA.mk hc0_0
  have hl8 : l0_0.length ≤ 8 := hok.1.1
  have HCN := zA.mk (show qV.f (4 * l0_0.length + 1) (4 * (l0_0.length : Int)) = some (Lib.ZA 0 (4 * l0_0.length)) from zBd (4 * l0_0.length) (by omega))
  have HNB := zA.mk (show Qa.f (zA0 l0_0) = some (Lib.zCX (zA0 l0_0)) from if_pos hok.2)
  clear h hok hr0_0 hc0_0
  go_enter Try.func88, Try.ntmps88
  have BT := zA.mk (Zq (W := w) rfl (.cells #[.slice A0_0 l0_0.length c0_0] 35))
  have HB := zA.mk (zC (ysy w.heap.size w) (.cells #[.slice A0_0 l0_0.length c0_0] 35))
  go_wp2_with (first
    | (go_at_call 75; refine (qU.calls A0_0 c0_0 l0_0 (l0_0.length : Int) _ (Kd.qI HR.out HB.out) HC.out rfl).mono ?_; rintro e w2 ⟨rfl, hd⟩; have hb := zx.below hd; clear hd; have BT2 := zA.mk (zO BT.out hb); have HB2 := zA.mk (zM HB.out hb); clear BT HB hb; have hT2 : w2.cell? ⟨w.heap.size, 0, none⟩ = some (.slice A0_0 l0_0.length c0_0) := (zL BT2.out 0).trans rfl)
    | (go_at_call 98; refine (qV.calls (4 * l0_0.length + 1) (4 * (l0_0.length : Int)) _ _ HCN.out).mono ?_; rintro e w3 ⟨v3, rfl, ho, hb⟩; obtain ⟨A3, c3, rfl⟩ := Kd.qy ho; generalize (Lib.ZA 0 (4 * l0_0.length)).length = m3 at ho; have HB23 := zA.mk hb; have HV3 := zA.mk (Kd.zt (Kd.Zm ho) (ok' := fun k => k < w3.heap.size) (fun _ hk => hk.2.2.1)); have BT3 := zA.mk (zO BT2.out hb); clear BT2 ho hb hT2; have hT3 : w3.cell? ⟨w.heap.size, 0, none⟩ = some (.slice A0_0 l0_0.length c0_0) := (zL BT3.out 0).trans rfl; have hz3 : w.heap.size < w3.heap.size := qP BT3.out; have hzn : w.heap.size ≠ w3.heap.size := by omega)
    | (go_at_call 99; refine (zC3.calls 120 _ Try.func120 (by kernel_rfl) rfl #[.pointer (some ⟨w3.heap.size, 0, none⟩)] l0_0 A0_0 c0_0 w2 _ (zCe w2 w3.heap.size (4 * l0_0.length)) zAI (Lib.ZA 0 (4 * l0_0.length)) (fun _ => 0) (4 * (l0_0.map List.length).sum) (fun _ _ _ _ => Nat.zero_le _) (Nat.le_of_eq (Nat.zero_add _)) (fun _ _ _ h hb => h.stays hb) (fun _ _ h => h.below) (Kd.qI HR.out HB2.out) (fun r hr x hx hb => (HOK.out.1.2.2 r hr x hx hb).2) ?aS ?a0).mono ?_; (case aS => exact fun s W j f x hI hF hb _ => zHH HOK.out.1 s W j f x hI hF hb); (case a0 => exact ⟨zC HB23.out _, ⟨_, Zq rfl _, Kd.zt (Kd.zR HV3.out _) (fun _ _ => trivial)⟩, HB23.out.size, Lib.qL _ _⟩); rintro e w4 ⟨rfl, hI⟩; have HI := zA.mk (show zCe w2 w3.heap.size (4 * l0_0.length) (zA0 l0_0) w4 from hI); clear hI hT3 hz3 hzn HV3; obtain ⟨v4, hM, hE⟩ := HI.out.ex; obtain ⟨A4, c4, rfl⟩ := Kd.qy hE; have hm4 : w4.cell? ⟨w3.heap.size, 0, none⟩ = some (.slice A4 (zA0 l0_0).length c4) := (zL hM 0).trans rfl; have HRD := zA.mk (Kd.zo hE); have HB4 := zA.mk (zM HB2.out HI.out.below); clear hM hE)
    | (go_at_call 109; refine (Qa.calls A4 c4 (zA0 l0_0) _ _ HRD.out.2.2 HRD.out.2.1 HNB.out).mono ?_; rintro e w5 ⟨v5, rfl, ho, hb⟩; have HV5 := zA.mk (Kd.qp ho HB4.out.size); have HB5 := zA.mk (zM HB4.out hb); clear ho hb hm4))
  go_ret
  exact ⟨_, rfl, HV5.out, HB5.out⟩
def zc.l0 : Nat → Int → List (List Int) → List Int → Int → Int → Option ((List (List Int)))
  | 0, _, _, _, _, _ => none
  | k + 1, x1, x5, x9, x10, x11 => if x11 < x10 then (if 0 ≤ x11 then (if x11 < (x9.length : Int) then (if (rd x9 x11) = x1 then (if x5.length < 5864062014805 then (zc.l0 k x1 (x5 ++ [(([wrap64 (Int.tdiv x11 4), Int.tmod x11 4] : List Int))]) x9 x10 (wrap64 (x11 + 1))) else (none)) else (zc.l0 k x1 x5 x9 x10 (wrap64 (x11 + 1)))) else (none)) else (none)) else (some x5)
def zc.f (k : Nat) (l0_0 : List (List (zw))) (a1 : Int) : Option ((List (List Int))) := (zi.f l0_0).bind fun t102 => (zc.l0 k a1 ([] : List (List Int)) t102 (t102.length : Int) 0)
set_option maxHeartbeats 8000000 in
set_option maxRecDepth 100000 in
theorem zc.calls (k : Nat) (A0_0 : Option Addr) (c0_0 : Nat) (l0_0 : List (List (zw))) (a1 : Int) (r : List (List Int)) (w : World) (hr0_0 : Kd.C (Kd.slice 75 ZV) w A0_0 l0_0.length l0_0) (hc0_0 : l0_0.length ≤ c0_0) (h : zc.f k l0_0 a1 = some r) :
    Calls Try.prog 51 #[.agg #[.slice A0_0 l0_0.length c0_0], .int .i64 a1] w fun e w' => ∃ v0_ : Value, e = .returned (v0_) ∧ Kd.S (Kd.slice 2 (Kd.int .i64)) 22 w' w.heap.size (fun _ => True) v0_ r ∧ Below w.heap.size w w' := by
  have hu35 := Try.underlying35
  have HR0_0 := zA.mk hr0_0
  have HC0_0 := zA.mk hc0_0
  clear hr0_0 hc0_0
  have HB := zA.mk (ysy w.heap.size w)
  have H : ((zi.f l0_0).bind fun t102 => (zc.l0 k a1 ([] : List (List Int)) t102 (t102.length : Int) 0)) = some r := h
  clear h
  replace H := ydy.mp H
  obtain ⟨t102, A30, H⟩ := H
  replace H : (zc.l0 k a1 ([] : List (List Int)) t102 (t102.length : Int) 0) = some r := H
  have A3 := zA.mk A30
  clear A30
  have H' := zA.mk H
  clear H
  go_enter Try.func51, Try.ntmps51
  go_wp2_with (first | ((with_reducible refine zu (N := 2) rfl ?_); refine zy ?hg (N := 2) ?hd (cs := #[.slice A0_0 l0_0.length c0_0]) (t := 35) ?hr ?_; (case hd => rfl); (case hg => rfl); (case hr => first | (go_simp; done) | (go_simp; rfl)); intro gb101 hg w4 hbox hb; have n0_ := zA.mk (zM (by repeat (first | (with_reducible first | exact HB.out | apply zC | apply zB | apply zD) | exact HB.out)) hb); have n1_ := zA.mk (hbox); have n2_ := zA.mk ((by rw [hg]; exact (zP (by repeat (first | (with_reducible first | exact HB.out | apply zC | apply zB | apply zD) | exact HB.out))) : w.heap.size ≤ gb101)); have n3_ := zA.mk ((by rw [hg]; exact (zP (by repeat (first | (with_reducible first | exact HB.out | apply zC | apply zB | apply zD) | exact HB.out))) : w.heap.size ≤ gb101)); clear HB; have HB := n0_; have BK101 := n1_; have GW101 := n2_; have GE101 := n3_; clear n0_ n1_ n2_ n3_; clear hb hbox hg; have hcz5_0 : w4.cell? ⟨gb101, 0, none⟩ = some (.slice A0_0 l0_0.length c0_0) := (zL BK101.out 0).trans rfl; have hfz5_0 := zN BK101.out 0) | ((with_reducible refine zZ (f := 88) rfl ?_); refine qQ (some 9) rfl rfl Try.func88 (by kernel_rfl) rfl #[.agg #[.slice A0_0 l0_0.length c0_0]] rfl (by (try simp only [yiy, yjy, yky]); first | done | rfl | (simp only [yly, ymy]; rfl)) ?_; (with_reducible refine (zi.calls _ _ l0_0 t102 _ ?side1 ?side2 A3.out).mono ?_); (case side1 => repeat (first | exact (Kd.qI HR0_0.out HB.out) | (with_reducible refine Kd.qD ?_ _) | (with_reducible refine Kd.qE ?_ _) | (with_reducible refine Kd.qN ?_))); (case side2 => exact HC0_0.out); rintro e w6 ⟨v103, rfl, ho0, hb⟩; refine ⟨_, rfl, ?_⟩; have n0_ := zA.mk (Kd.qp ho0 (zP (by repeat (first | (with_reducible first | exact HB.out | apply zC | apply zB | apply zD | refine zF ?_ GE101.out) | exact HB.out)))); have n1_ := zA.mk (zO (g := gb101) (o := .cells #[.slice A0_0 l0_0.length c0_0] 35 (0, 0)) (by (with_reducible repeat (first | refine zH ?_ _ | refine zJ ?_ | refine zG ?_ _)); exact BK101.out) hb); have n2_ := zA.mk (zM (by repeat (first | (with_reducible first | exact HB.out | apply zC | apply zB | apply zD | refine zF ?_ GE101.out) | exact HB.out)) hb); clear BK101; clear HB; have HO104 := n0_; have BK101 := n1_; have HB := n2_; clear n0_ n1_ n2_; (try clear hb); (try clear hb2); (try clear hk); (try clear hi); (try clear ho0); obtain ⟨Ao7, co7, eo7⟩ := Kd.qy HO104.out; subst eo7))
  go_loopg [5, 11] k (fun kq v5 v11 w' => ∃ (x5_1 : List (List Int)) (x11_1 : Int), v11 = .int .i64 x11_1 ∧ zA (zc.l0 kq a1 x5_1 t102 (t102.length : Int) x11_1 = some r) ∧ zA (kq ≤ k) ∧ zA (Kd.S (Kd.slice 2 (Kd.int .i64)) 22 w' w.heap.size (fun k_ => some k_ ≠ ((.slice Ao7 t102.length co7) : Value).ownBlock) v5 x5_1) ∧ zA (Kd.R (Kd.int .i64) 2 w' w.heap.size (fun _ => True) (.slice Ao7 t102.length co7) t102) ∧ zA (w'.heap[gb101]? = some (.cells #[(.slice A0_0 l0_0.length c0_0)] 35 (0, 0))) ∧ zA (Below w.heap.size w w'))
  case atStart => exact ⟨(([] : List (List Int))), (0), (by first | rfl | (simp; done) | (simp [*]; done)), H', ⟨yry _⟩, ⟨by first | exact Kd.zGR _ _ _ _ _ | exact Kd.zGV _ _ _ _ _ | exact Kd.zGY _ _ _ _ _ | exact Kd.zGL _ _ _ _ _ | exact Kd.zCN _ _ _ _ _⟩, ⟨by (with_reducible repeat (first | apply Kd.zR | apply Kd.zS | apply Kd.zV)); exact HO104.out⟩, ⟨by (with_reducible repeat (first | refine zH ?_ _ | refine zJ ?_ | refine zG ?_ _)); exact BK101.out⟩, ⟨by repeat (first | (with_reducible first | exact HB.out | apply zC | apply zB | apply zD | refine zF ?_ GE101.out) | exact HB.out)⟩⟩
  case round =>
    clear H'
    try clear p2
    try clear c5
    try clear hcz5_0
    try clear hfz5_0
    obtain ⟨x5_1, x11_1, rfl, HA, HK1, HO_5, HO_9, BK101, HB⟩ := hrel
    cases gk with
    | zero => exact absurd HA.out (by simp [zc.l0])
    | succ k1 =>
      have H := HA.out
      clear HA
      simp only [zc.l0] at H
      by_cases c8 : x11_1 < (t102.length : Int)
      · rw [if_pos c8] at H
        have c8b0 : decide (x11_1 < (t102.length : Int)) = true := ygy c8
        clear c8
        by_cases c9 : 0 ≤ x11_1
        · rw [if_pos c9] at H
          have c9b0 : decide (0 ≤ x11_1) = true := ygy c9
          clear c9
          by_cases c10 : x11_1 < (t102.length : Int)
          · rw [if_pos c10] at H
            have c10b0 : decide (x11_1 < (t102.length : Int)) = true := ygy c10
            clear c10
            by_cases c11 : (rd t102 x11_1) = a1
            · rw [if_pos c11] at H
              have c11b0 : ((rd t102 x11_1) == a1) = true := beq_iff_eq.mpr c11
              have c11b1 : ((rd t102 x11_1) != a1) = false := bne_eq_false_iff_eq.mpr c11
              clear c11
              obtain ⟨y106, hy106⟩ : ∃ y_ : List Int, y_ = (([wrap64 (Int.tdiv x11_1 4), Int.tmod x11_1 4] : List Int)) := ⟨_, rfl⟩
              replace H : (if x5_1.length < 5864062014805 then (zc.l0 k1 a1 (x5_1 ++ [y106]) t102 (t102.length : Int) (wrap64 (x11_1 + 1))) else (none)) = some r := by first | (rw [hy106]; with_reducible exact H) | (have H2_ := (yfy _ _).symm.trans H; rw [hy106]; with_reducible exact H2_) | (have H2_ := (yfy _ _).symm.trans H; with_reducible exact H2_) | with_reducible exact H | (rw [hy106]; exact H) | exact H
              have Ny106 := zA.mk hy106
              clear hy106
              by_cases c12 : x5_1.length < 5864062014805
              · rw [if_pos c12] at H
                have LMc12 := zA.mk c12
                clear c12
                obtain ⟨y109, hy109⟩ : ∃ y_ : List (List Int), y_ = (x5_1 ++ [y106]) := ⟨_, rfl⟩
                replace H : (zc.l0 k1 a1 y109 t102 (t102.length : Int) (wrap64 (x11_1 + 1))) = some r := by first | (rw [hy109]; with_reducible exact H) | (have H2_ := (yfy _ _).symm.trans H; rw [hy109]; with_reducible exact H2_) | (have H2_ := (yfy _ _).symm.trans H; with_reducible exact H2_) | with_reducible exact H | (rw [hy109]; exact H) | exact H
                have Ny109 := zA.mk hy109
                clear hy109
                have H' := zA.mk H
                clear H
                have p105 : 0 ≤ (x11_1 : Int) := of_decide_eq_true (by first | (with_reducible assumption) | assumption)
                have q105 : x11_1 < (t102.length : Int) := of_decide_eq_true (by first | (with_reducible assumption) | assumption)
                obtain ⟨ad105, e105, hx105_0⟩ := Kd.qz (Kd.zo HO_9.out).2.2 x11_1 p105 q105
                cases e105
                replace p105 := eq_true p105
                replace q105 := eq_true q105
                go_wp2_with (first | ((with_reducible refine zu (N := 24) rfl ?_); refine Kd.zBP (Kd.int .i64) _ 2 ?hg (N := 24) ?hd (xs := ([wrap64 (Int.tdiv x11_1 4), Int.tmod x11_1 4] : List Int)) (inner := [.int .i64 (wrap64 (Int.tdiv x11_1 4)), .int .i64 (Int.tmod x11_1 4)]) (ok := fun _ => True) (okp := fun _ => True) ?hr ?hp (fun _ hk => hk) trivial (ysy _ _) (yry _) (by simp) ?_; (case hd => rfl); (case hg => rfl); (case hr => first | (go_simp; done) | (go_simp; rfl)); (case hp => exact (Zz.one (show Kd.M (Kd.int .i64) _ _ _ (wrap64 (Int.tdiv x11_1 4)) [.int .i64 (wrap64 (Int.tdiv x11_1 4))] from rfl) (Zz.one (show Kd.M (Kd.int .i64) _ _ _ (Int.tmod x11_1 4) [.int .i64 (Int.tmod x11_1 4)] from rfl) (Zz.none _ _)))); intro v107 w13 ho14 hb hg_ hnew_; clear hg_ hnew_; (first | rw [← Ny106.out] at ho14 | (simp only [Int.reduceToNat] at ho14; rw [← Ny106.out] at ho14)); have n0_ := zA.mk (Kd.Zl (by (with_reducible repeat (first | apply Kd.zj | apply Kd.zk | apply Kd.zz)); exact HO_5.out) (Kd.Zi ho14) hb); have n1_ := zA.mk (Kd.ZW (by (with_reducible repeat (first | apply Kd.zR | apply Kd.zS | apply Kd.zV)); exact HO_9.out) (Kd.Zi ho14) hb); have n2_ := zA.mk (Kd.qp (Kd.Qq ho14 (Kd.Qy (by (with_reducible repeat (first | apply Kd.zR | apply Kd.zS | apply Kd.zV)); exact HO_9.out))) (zP (by repeat (first | (with_reducible first | exact HB.out | apply zC | apply zB | apply zD | refine zF ?_ GE101.out) | exact HB.out)))); have n3_ := zA.mk (zO (g := gb101) (o := .cells #[.slice A0_0 l0_0.length c0_0] 35 (0, 0)) (by (with_reducible repeat (first | refine zH ?_ _ | refine zJ ?_ | refine zG ?_ _)); exact BK101.out) hb); have n4_ := zA.mk (zM (by repeat (first | (with_reducible first | exact HB.out | apply zC | apply zB | apply zD | refine zF ?_ GE101.out) | exact HB.out)) hb); clear HO_5; clear HO_9; clear BK101; clear HB; have HO_5 := n0_; have HO_9 := n1_; have HO108 := n2_; have BK101 := n3_; have HB := n4_; clear n0_ n1_ n2_ n3_ n4_; clear hb ho14; obtain ⟨Ao16, co16, eo16⟩ := Kd.qy HO108.out; subst eo16) | ((with_reducible refine ZM (b := .append) (xs := #[.tmp 19, .tmp 25]) rfl ?_); at_builtin; refine Kd.zCS (Kd.slice 2 (Kd.int .i64)) (w0 := w) w.heap.size rfl (.tmp 19) (.tmp 25) 30 22 (.slice none 0 0) 24 rfl Try.underlying30 zFY rfl (by decide) (by omega) u5 x5_1 y106 [.slice Ao16 y106.length co16] (fun k_ => some k_ ≠ (.slice (some ad105) t102.length co7 : Value).ownBlock) (fun k_ => some k_ = (.slice Ao16 y106.length co16 : Value).ownBlock) rfl rfl ?aP (fun k_ hk_ => ((Kd.zt (ok' := fun k_ => ((fun k_ => some k_ ≠ (.slice (some ad105) t102.length co7 : Value).ownBlock)) k_ ∧ some k_ ≠ (u5 : Value).ownBlock) (Kd.QE (HO108.out) (Kd.QS HO_5.out) (by decide)) (fun k_ hk => ⟨hk.1.2, hk.2⟩))).1 k_ hk_.symm) ?aF ?aO ?aB ?aS ?aL ?_; (case aP => exact Kd.zGI (Kd.zt (Kd.Qo rfl (Kd.zt (ok' := fun k_ => ((fun k_ => some k_ ≠ (.slice (some ad105) t102.length co7 : Value).ownBlock)) k_ ∧ some k_ ≠ (u5 : Value).ownBlock) (Kd.QE (HO108.out) (Kd.QS HO_5.out) (by decide)) (fun k_ hk => ⟨hk.1.2, hk.2⟩))) (fun _ h_ => h_))); (case aB => exact (by repeat (first | (with_reducible first | exact HB.out | apply zC | apply zB | apply zD | refine zF ?_ GE101.out) | exact HB.out))); (case aF => exact (fun k_ hk => Kd.Qr (Kd.Qy (by (with_reducible repeat (first | apply Kd.zR | apply Kd.zS | apply Kd.zV)); exact HO_9.out)) k_ hk)); (case aO => exact (by (with_reducible repeat (first | apply Kd.zj | apply Kd.zk | apply Kd.zz)); exact Kd.qo HO_5.out (fun k_ hk => ⟨hk.1, fun e_ => hk.2 e_⟩))); (case aS => exact (zP (by repeat (first | (with_reducible first | exact HB.out | apply zC | apply zB | apply zD | refine zF ?_ GE101.out) | exact HB.out)))); (case aL => have := LMc12.out; omega); intro v110 w15 ho hb hg hat; rw [← Ny109.out] at ho; have n0_ := zA.mk (Kd.zFL (by (with_reducible repeat (first | apply Kd.zR | apply Kd.zS | apply Kd.zV)); exact HO_9.out) (Kd.QS (by (with_reducible repeat (first | apply Kd.zj | apply Kd.zk | apply Kd.zz)); exact HO_5.out)) (by decide) hg); have n1_ := zA.mk (qm (g := gb101) (o := .cells #[.slice A0_0 l0_0.length c0_0] 35 (0, 0)) (by (with_reducible repeat (first | refine zH ?_ _ | refine zJ ?_ | refine zG ?_ _)); exact BK101.out) hg (Kd.S_ne HO_5.out BK101.out (by decide))); have n2_ := zA.mk (hb); have n3_ := zA.mk (ho); clear HO_9; clear BK101; clear HB; clear HO_5; clear HO108; have HO_9 := n0_; have BK101 := n1_; have HB := n2_; have HO111 := n3_; clear n0_ n1_ n2_ n3_; clear ho hb hg hat))
                go_roundg k1
                case measure => have := HK1.out; omega
                case rel => exact ⟨(y109), (wrap64 (x11_1 + 1)), (by first | rfl | (simp; done) | (simp [*]; done)), H', ⟨by have := HK1.out; omega⟩, ⟨by (with_reducible repeat (first | apply Kd.zj | apply Kd.zk | apply Kd.zz)); exact HO111.out⟩, ⟨by (with_reducible repeat (first | apply Kd.zR | apply Kd.zS | apply Kd.zV)); exact Kd.zt HO_9.out (fun _ hk => trivial)⟩, ⟨by (with_reducible repeat (first | refine zH ?_ _ | refine zJ ?_ | refine zG ?_ _)); exact BK101.out⟩, ⟨by repeat (first | (with_reducible first | exact HB.out | apply zC | apply zB | apply zD | refine zF ?_ GE101.out) | exact HB.out)⟩⟩
              · rw [if_neg c12] at H
                exact absurd H (by simp)
            · rw [if_neg c11] at H
              have c11b0 : ((rd t102 x11_1) == a1) = false := beq_eq_false_iff_ne.mpr c11
              have c11b1 : ((rd t102 x11_1) != a1) = true := bne_iff_ne.mpr c11
              have H' := zA.mk H
              clear H
              have p105 : 0 ≤ (x11_1 : Int) := of_decide_eq_true (by first | (with_reducible assumption) | assumption)
              have q105 : x11_1 < (t102.length : Int) := of_decide_eq_true (by first | (with_reducible assumption) | assumption)
              obtain ⟨ad105, e105, hx105_0⟩ := Kd.qz (Kd.zo HO_9.out).2.2 x11_1 p105 q105
              cases e105
              replace p105 := eq_true p105
              replace q105 := eq_true q105
              go_wp2
              go_roundg k1
              case measure => have := HK1.out; omega
              case rel => exact ⟨(x5_1), (wrap64 (x11_1 + 1)), (by first | rfl | (simp; done) | (simp [*]; done)), H', ⟨by have := HK1.out; omega⟩, ⟨by (with_reducible repeat (first | apply Kd.zj | apply Kd.zk | apply Kd.zz)); exact HO_5.out⟩, ⟨by (with_reducible repeat (first | apply Kd.zR | apply Kd.zS | apply Kd.zV)); exact HO_9.out⟩, ⟨by (with_reducible repeat (first | refine zH ?_ _ | refine zJ ?_ | refine zG ?_ _)); exact BK101.out⟩, ⟨by repeat (first | (with_reducible first | exact HB.out | apply zC | apply zB | apply zD | refine zF ?_ GE101.out) | exact HB.out)⟩⟩
          · rw [if_neg c10] at H
            exact absurd H (by simp)
        · rw [if_neg c9] at H
          exact absurd H (by simp)
      · rw [if_neg c8] at H
        have c8b0 : decide (x11_1 < (t102.length : Int)) = false := yhy c8
        clear c8
        obtain rfl := yey H
        go_wp2
        go_ret
        exact ⟨_, by first | rfl | (simp [zW, zX] <;> rfl) | (simp [*, zW, zX] <;> rfl), by (with_reducible repeat (first | apply Kd.zj | apply Kd.zk | apply Kd.zz)); exact Kd.qo HO_5.out (fun _ hk => trivial), by repeat (first | (with_reducible first | exact HB.out | apply zC | apply zB | apply zD | refine zF ?_ GE101.out) | exact HB.out)⟩
def Qp.f (l0 : List (List Int)) : Option (Int) := some (l0.length : Int)
set_option maxHeartbeats 8000000 in
set_option maxRecDepth 100000 in
theorem Qp.calls (A0 : Option Addr) (c0 : Nat) (l0 : List (List Int)) (r : Int) (w : World) (hr0 : Kd.C (Kd.slice 2 (Kd.int .i64)) w A0 l0.length l0) (hc0 : l0.length ≤ c0) (h : Qp.f l0 = some r) :
    Calls Try.prog 102 #[.slice A0 l0.length c0] w fun e w' => e = .returned (.int .i64 r) ∧ zx w w' := by
  have HR0 := zA.mk hr0
  have HC0 := zA.mk hc0
  clear hr0 hc0
  have H : (some (l0.length : Int)) = some r := h
  clear h
  obtain rfl := yey H
  go_enter Try.func102, Try.ntmps102
  go_wp2
  go_ret
  exact ⟨by first | rfl | (simp; done) | (simp [*]; done), by repeat (first | exact zx.refl _ | apply zx.step)⟩
def leP (b to_ : Int) (p : List Int) : List Int → List Int → List Int
 | [], x => x
 | w :: ws, x => leP b to_ p ws (Lib.uni x (b + w) (to_ + rd p w))
theorem QN (b to_ : Int) (p : List Int) : ∀ (L x : List Int), (leP b to_ p L x).length = x.length
 | [], _ => rfl
 | c :: cs, x => by rw [leP, QN b to_ p cs, Lib.ZQ]
def Zf (j f b : Int) (p : List Int) : List Int → List Int × List Int → List Int × List Int
 | [], s => s
 | v :: vs, s => Zf j f b p vs (leP (16 * j + 4 * v) (16 * b + 4 * rd p v) p (JT [f, v]) s.1, Lib.uni s.2 (16 * j + 4 * v + f) (16 * b + 4 * rd p v + rd p f))
theorem Qk (j f b : Int) (p : List Int) : ∀ (L : List Int) (s : List Int × List Int), (Zf j f b p L s).1.length = s.1.length ∧ (Zf j f b p L s).2.length = s.2.length
 | [], _ => ⟨rfl, rfl⟩
 | c :: cs, s => by rw [Zf, (Qk j f b p cs _).1, (Qk j f b p cs _).2, QN, Lib.ZQ]; exact ⟨rfl, rfl⟩
def JU (s : List Int × List Int) (j f : Nat) (x : zw) : List Int × List Int := Zf j f x.f0 (qR x.f1) (JT [(f : Int)]) s
theorem Qb {f v c : Int} (h : c ∈ JT [f, v]) : sm c ∧ c ≠ f ∧ c ≠ v := by
 have h1 := (List.mem_filter.1 h).1
 have h2 := (List.mem_filter.1 h).2
 simp only [List.mem_cons, List.not_mem_nil, or_false] at h1
 refine ⟨by constructor <;> omega, fun e => ?_, fun e => ?_⟩
 next =>
  subst e; simp at h2
 next =>
  subst e; simp at h2
structure Jq (w0 : World) (gt : Nat) (cT : Array Value) (gp gs m2 n : Nat) (vP vS : Value) (s : List Int × List Int) (W : World) : Prop where
 below : Below w0.heap.size w0 W
 bP : W.heap[gp]? = some (.cells #[vP] 22 (0, 0))
 bS : W.heap[gs]? = some (.cells #[vS] 22 (0, 0))
 bT : W.heap[gt]? = some (.cells cT 35 (0, 0))
 rP : Kd.R (Kd.int .i64) 2 W w0.heap.size (fun k => some k = vP.ownBlock) vP s.1
 rS : Kd.R (Kd.int .i64) 2 W w0.heap.size (fun k => some k = vS.ownBlock) vS s.2
 own : m2 ≤ W.heap.size
 ltP : ∀ k, some k = vP.ownBlock → k < m2
 ltS : ∀ k, some k = vS.ownBlock → k < m2
 nPS : ∀ k, some k = vP.ownBlock → some k ≠ vS.ownBlock
 lenP : s.1.length = n
 lenS : s.2.length = n
section
variable {w0 W W1 : World} {gt : Nat} {cT : Array Value} {gp gs m2 n : Nat} {vP vS : Value} {s : List Int × List Int}
theorem Jq.stays (h : Jq w0 gt cT gp gs m2 n vP vS s W) (hb : Below W.heap.size W W1) : Jq w0 gt cT gp gs m2 n vP vS s W1 :=
 ⟨zM h.below hb, zO h.bP hb, zO h.bS hb, zO h.bT hb, Kd.qK h.rP hb, Kd.qK h.rS hb, Nat.le_trans h.own hb.size, h.ltP, h.ltS, h.nPS, h.lenP, h.lenS⟩
theorem zBt {v : Value} {l : List Int} {ok : Nat → Prop} {b g : Nat} {cs : Array Value} {T : TypeId} (h : Kd.R (Kd.int .i64) 2 W b ok v l) (hc : W.heap[g]? = some (.cells cs T (0, 0))) (hT : T ≠ 2 := by decide) : ¬ some g = v.ownBlock := fun e => by
 obtain ⟨cells, hc2⟩ := Kd.zDe h g e.symm
 exact zE6 hc hc2 hT rfl
theorem Jq.uniP (h : Jq w0 gt cT gp gs m2 n vP vS s W) {p : List Int} (h1 : Kd.R (Kd.int .i64) 2 W1 w0.heap.size (fun k => some k = vP.ownBlock) vP p) (h2 : Below w0.heap.size w0 W1) (h3 : Kept W W1 (fun k => some k = vP.ownBlock)) (hl : p.length = n) : Jq w0 gt cT gp gs m2 n vP vS (p, s.2) W1 :=
 ⟨h2, ZE h.bP h3 (zBt h.rP h.bP), ZE h.bS h3 (zBt h.rP h.bS), ZE h.bT h3 (zBt h.rP h.bT), h1, Kd.Js h.rS h3 (fun k hk e => h.nPS k e hk), Nat.le_trans h.own h3.1, h.ltP, h.ltS, h.nPS, hl, h.lenS⟩
theorem Jq.uniS (h : Jq w0 gt cT gp gs m2 n vP vS s W) {q : List Int} (h1 : Kd.R (Kd.int .i64) 2 W1 w0.heap.size (fun k => some k = vS.ownBlock) vS q) (h2 : Below w0.heap.size w0 W1) (h3 : Kept W W1 (fun k => some k = vS.ownBlock)) (hl : q.length = n) : Jq w0 gt cT gp gs m2 n vP vS (s.1, q) W1 :=
 ⟨h2, ZE h.bP h3 (zBt h.rS h.bP), ZE h.bS h3 (zBt h.rS h.bS), ZE h.bT h3 (zBt h.rS h.bT), Kd.Js h.rP h3 (fun k hk e => h.nPS k hk e), h1, Nat.le_trans h.own h3.1, h.ltP, h.ltS, h.nPS, h.lenP, hl⟩
end
structure LeK (w0 W : World) (m2 gF gI gO cO : Nat) (f0 f1 x0 x1 x2 x3 : Int) (L : List Int) : Prop where
 bF : W.heap[gF]? = some (.cells #[.int .i64 f0, .int .i64 f1] 75 (0, 0))
 bI : W.heap[gI]? = some (.cells #[.int .i64 x0, .int .i64 x1, .int .i64 x2, .int .i64 x3] 101 (0, 0))
 rL : Kd.R (Kd.int .i64) 2 W w0.heap.size (fun k => m2 ≤ k) (.slice (some ⟨gO, 0, none⟩) L.length cO) L
 own : m2 ≤ gF ∧ m2 ≤ gI
section
variable {w0 W W1 : World} {m2 gF gI gO cO : Nat} {f0 f1 x0 x1 x2 x3 : Int} {L : List Int}
theorem LeK.stays (h : LeK w0 W m2 gF gI gO cO f0 f1 x0 x1 x2 x3 L) (hb : Below W.heap.size W W1) : LeK w0 W1 m2 gF gI gO cO f0 f1 x0 x1 x2 x3 L := ⟨zO h.bF hb, zO h.bI hb, Kd.qK h.rL hb, h.own⟩
theorem LeK.kept (h : LeK w0 W m2 gF gI gO cO f0 f1 x0 x1 x2 x3 L) {S : Nat → Prop} (hk : Kept W W1 S) (hS : ∀ k, S k → k < m2) : LeK w0 W1 m2 gF gI gO cO f0 f1 x0 x1 x2 x3 L :=
 ⟨ZE h.bF hk (fun e => by have := hS _ e; have := h.own; omega), ZE h.bI hk (fun e => by have := hS _ e; have := h.own; omega), Kd.Js h.rL hk (fun k h1 e => by have := hS _ e; omega), h.own⟩
end
theorem le_bd {n : Nat} {a v f x pv pf : Int} (a0 : 0 ≤ a) (a1 : 16 * a + 16 ≤ (n : Int)) (v0 : 0 ≤ v) (v1 : v ≤ 3) (f0 : 0 ≤ f) (f1 : f ≤ 3) (x0 : 0 ≤ x) (x1 : 16 * x + 16 ≤ (n : Int)) (p0 : 0 ≤ pv) (p1 : pv ≤ 3) (q0 : 0 ≤ pf) (q1 : pf ≤ 3) : 0 ≤ 16 * a + 4 * v + f ∧ 16 * a + 4 * v + f < (n : Int) ∧ 0 ≤ 16 * x + 4 * pv + pf ∧ 16 * x + 4 * pv + pf < (n : Int) := by
 refine ⟨by omega, by omega, by omega, by omega⟩
theorem zEO {x pv pf : Int} (x0 : 0 ≤ x) (x1 : x ≤ 1000) (p0 : 0 ≤ pv) (p1 : pv ≤ 3) (q0 : 0 ≤ pf) (q1 : pf ≤ 3) : wrap64 (16 * x + 4 * pv + pf) = 16 * x + 4 * pv + pf := Lib.qh (by omega) (by omega)
set_option maxHeartbeats 8000000 in
set_option maxRecDepth 100000 in
theorem zB8.calls (w0 w : World) (gt : Nat) (cT : Array Value) (gp gs m2 n : Nat) (vP vS : Value) (s : List Int × List Int) (j f : Nat) (f0 f1 : Int) (hI : Jq w0 gt cT gp gs m2 n vP vS s w) (hj : 16 * (j : Int) + 16 ≤ (n : Int)) (hf : (f : Int) ≤ 3) (hf0 : 0 ≤ f0) (hf1 : 16 * f0 + 16 ≤ (n : Int)) (hp0 : 0 ≤ f1) (hp1 : f1 ≤ 23) (hn : n ≤ 128) :
 Calls Try.prog 100 #[.int .i64 (j : Int), .int .i64 (f : Int), .agg #[.int .i64 f0, .int .i64 f1], .agg #[.int .i64 (zn f1 0), .int .i64 (zn f1 1), .int .i64 (zn f1 2), .int .i64 (zn f1 3)], .pointer (some ⟨gs, 0, none⟩), .pointer (some ⟨gp, 0, none⟩)] w fun e w' => e = .returned (.tuple #[]) ∧ Jq w0 gt cT gp gs m2 n vP vS (JU s j f ⟨f0, f1⟩) w' := by
 obtain ⟨y0, y1, y2, y3⟩ := Jz f1 hp0 hp1
 have hstep : JU s j f ⟨f0, f1⟩ = Zf j f f0 (qR f1) (JT [(f : Int)]) s := rfl
 have hpl : qR f1 = [zn f1 0, zn f1 1, zn f1 2, zn f1 3] := rfl
 rw [hpl] at hstep
 have HPL := zA.mk hpl
 generalize zn f1 0 = x0 at *
 generalize zn f1 1 = x1 at *
 generalize zn f1 2 = x2 at *
 generalize zn f1 3 = x3 at *
 clear HPL hpl
 have HP : zA (∀ c, sm c → sm (rd [x0, x1, x2, x3] c)) := ⟨fun c hc => zA8 y0 y1 y2 y3 c hc.1 hc.2⟩
 have HF := zA.mk (show sm (f : Int) from ⟨by omega, hf⟩)
 have HS := zA.mk hstep
 generalize JU s j f ⟨f0, f1⟩ = R at HS ⊢
 have HI := zA.mk hI
 clear hI hstep y0 y1 y2 y3
 have ht := Try.underlying101
 have HCF : zA (∀ (W : World) (g : Nat), W.heap.size = g → Kd.C (Kd.int .i64) (W.alloc (.cells #[.int .i64 (f : Int)] 2)) (some ⟨g, 0, none⟩) 1 [(f : Int)]) := ⟨fun W g hg => by subst hg; exact (Kd.zo (show Kd.R (Kd.int .i64) 2 (W.alloc (.cells #[.int .i64 (f : Int)] 2)) W.heap.size (fun _ => True) (.slice (some ⟨W.heap.size, 0, none⟩) 1 1) [(f : Int)] from
  Kd.JZ ⟨by simp [zAU], .inr ⟨W.heap.size, 1, #[.int .i64 (f : Int)], rfl, yry _, Zq rfl _, yry 1, by decide, rfl, rfl⟩⟩ (fun _ _ => trivial))).2.2⟩
 have HL3 := zA.mk (zDI HF.out)
 have HLM := zA.mk (show ∀ c ∈ JT [(f : Int)], sm c ∧ c ≠ (f : Int) from fun c hc => QT hc)
 generalize hLe : JT [(f : Int)] = L at HS HL3 HLM
 have HLE := zA.mk (show Zj.f [(f : Int)] = some L by rw [← hLe]; rfl)
 clear hLe
 have BF := zA.mk (zG (Zq (W := w) rfl (.cells #[.int .i64 f0, .int .i64 f1] 75)) (.cells #[.int .i64 x0, .int .i64 x1, .int .i64 x2, .int .i64 x3] 101))
 have BI := zA.mk (Zq (W := w.alloc (.cells #[.int .i64 f0, .int .i64 f1] 75)) (n := w.heap.size + 1) (by simp) (.cells #[.int .i64 x0, .int .i64 x1, .int .i64 x2, .int .i64 x3] 101))
 have HB := zA.mk (zC (zC (ysy w.heap.size w) (.cells #[.int .i64 f0, .int .i64 f1] 75)) (.cells #[.int .i64 x0, .int .i64 x1, .int .i64 x2, .int .i64 x3] 101))
 have HWZ : zA (((w.alloc (.cells #[.int .i64 f0, .int .i64 f1] 75)).alloc (.cells #[.int .i64 x0, .int .i64 x1, .int .i64 x2, .int .i64 x3] 101)).heap.size = w.heap.size + 1 + 1) := ⟨by simp⟩
 go_enter Try.func100, Try.ntmps100
 go_wp2_with fail
 generalize hwB : World.alloc (World.alloc w _) _ = wB at *
 refine (Zj.calls _ 1 [(f : Int)] L _ (HCF.out _ _ HWZ.out) (yry 1) HLE.out).mono ?_
 rintro e w2 ⟨v0, rfl, ho, hb⟩
 obtain ⟨gO, cO, rfl, hg1, hg2, _⟩ := Kd.zAG ho (by rw [HL3.out]; decide)
 have HB3 := zA.mk (zM (zC HB.out (.cells #[.int .i64 (f : Int)] 2)) hb)
 generalize hgI : w.heap.size + 1 = gI at *
 have HIS := HI.out.own
 have HM := zA.mk (HI.out.stays HB3.out)
 have HK := zA.mk (show LeK w0 w2 m2 w.heap.size gI gO cO f0 f1 x0 x1 x2 x3 L from
  ⟨zO (zG BF.out _) hb, zO (zG BI.out _) hb, Kd.qp (Kd.zt (Kd.Zm ho) (ok' := fun k => m2 ≤ k) (fun k hk => by
   have h1 := hk.2.1
   have h2 := HB.out.size
   rw [World.size_alloc] at h1
   omega)) (by have h2 := HB.out.size; have := HI.out.below.size; rw [World.size_alloc]; omega), by omega⟩)
 have HS0 : zA (Zf j f f0 [x0, x1, x2, x3] (L.drop 0) s = R) := ⟨by rw [List.drop_zero]; exact HS.out.symm⟩
 have HLX := zA.mk (Kd.zFH (Kd.zo ho).2.2)
 clear ho hb hg1 hg2 HB3 HIS HB BF BI HI HLE HS hwB HCF HWZ
 generalize w.heap.size = gF at *
 go_wp2
 have hlb : L.length ≤ 3 := by have := HL3.out; omega
 go_loopg [20] L.length (fun gg v20 w' => ∃ (i : Nat) (s1 : List Int × List Int), i ≤ L.length ∧ L.length - i ≤ gg ∧ v20 = .int .i64 i ∧ zA (Zf j f f0 [x0, x1, x2, x3] (L.drop i) s1 = R) ∧ zA (Jq w0 gt cT gp gs m2 n vP vS s1 w') ∧ zA (LeK w0 w' m2 gF gI gO cO f0 f1 x0 x1 x2 x3 L))
 case atStart => exact ⟨0, s, Nat.zero_le _, by omega, rfl, HS0, HM, HK⟩
 case round =>
  clear HM HS0 HK
  obtain ⟨i, s1, hi9, hgg, rfl, HS0, HM, HK⟩ := hrel
  by_cases hlt : i < L.length
  rotate_left
  next =>
   obtain rfl : i = L.length := by omega
   have hx : s1 = R := by have := HS0.out; rwa [List.drop_length, Zf] at this
   subst hx
   clear HS0
   go_wp2
   first | go_end0 | ((try simp only [Exit.inBlock, Exit.then]); refine bodyPost_ret (results_none rfl _ _ _) rfl ?_)
   refine ⟨?_, HM.out⟩
   first | rfl | (simp <;> rfl)
  have hltz : (i : Int) < (L.length : Int) := by omega
  obtain ⟨hc, _⟩ := Kd.Zn 0 HK.out.rL (i : Int) (by omega) hltz
  replace hc : wr.cell? ⟨gO, i, none⟩ = some (.int .i64 (rd L (i : Int))) := hc
  have ex : rd L (i : Int) = L[i] := by simp [rd, hlt]
  rw [ex] at hc
  have HC := zA.mk (HLM.out L[i] (yoy hlt))
  have HA2 := HS0.out
  rw [ypy hlt, Zf] at HA2
  have HS1 := zA.mk HA2
  clear HS0 HA2 ex
  generalize L[i] = c at hc HC HS1
  obtain ⟨hc0, hc1⟩ := HC.out.1
  have hc4 : c < 4 := by omega
  have k4 := HP.out c HC.out.1
  have k5 := HP.out (f : Int) HF.out
  generalize hde : rd [x0, x1, x2, x3] c = d at k4 HS1
  generalize hee : rd [x0, x1, x2, x3] (f : Int) = e at k5 HS1
  obtain ⟨hd0, hd1⟩ := k4
  obtain ⟨he0, he1⟩ := k5
  have HEE := zA.mk hee
  have hF0 : wr.cell? ⟨gF, 0, none⟩ = some (.int .i64 f0) := (zL HK.out.bF 0).trans rfl
  have hIc := zBD HK.out.bI hc0 hc1 hde
  have hj0 : (0 : Int) ≤ (j : Int) := Int.natCast_nonneg j
  have hjb : (j : Int) ≤ 1000 := by omega
  have hfb : f0 ≤ 1000 := by omega
  clear hee hde
  go_wp2
  go_quiet (fail)
  have HM2 := zA.mk (HM.out.stays (zB (ysy _ _) nq))
  have HK2 := zA.mk (HK.out.stays (zB (ysy _ _) nq))
  clear HM HK hF0 hIc hc
  have hf4 : (f : Int) < 4 := by omega
  have hf00 : (0 : Int) ≤ (f : Int) := by omega
  generalize wr.drewN nq = w3 at HM2 HK2 ⊢
  have HUN : zA (QB.f s1.2 (wrap64 (16 * (j : Int) + 4 * c + (f : Int))) (wrap64 (16 * f0 + 4 * d + e)) = some (Lib.uni s1.2 (16 * (j : Int) + 4 * c + (f : Int)) (16 * f0 + 4 * d + e))) := ⟨by
   rw [zEO hj0 hjb hc0 hc1 HF.out.1 HF.out.2, zEO hf0 hfb hd0 hd1 he0 he1]
   exact if_pos (by rw [HM2.out.lenS]; exact le_bd hj0 hj hc0 hc1 HF.out.1 HF.out.2 hf0 hf1 hd0 hd1 he0 he1)⟩
  try go_wp2
  refine QG (n := 10) (S := fun w' => w'.cell? ⟨gs, 0, none⟩ = some vS ∧ w'.cell? ⟨gI, f, none⟩ = some (.int .i64 e)) (ds := [9]) #[false, false, false, false, false, false, false, false, false, false] (by kernel_rfl) rfl rfl ⟨(zL HM2.out.bS 0).trans rfl, (by have q := zBD HK2.out.bI HF.out.1 HF.out.2 HEE.out; rwa [yny] at q)⟩ (fun hHeld => ?_)
  have HM := zA.mk (HM2.out.stays (zD (ysy _ _)))
  have HK := zA.mk (HK2.out.stays (zD (ysy _ _)))
  clear HM2 HK2
  generalize w3.drew = w4 at HM HK hHeld ⊢
  refine ZR (i := 0) (N := some 37) (v := ?_) (a' := ?_) #[true, false, false, false, false, false, false, false, false, false] rfl rfl (by kernel_rfl) (fun _ _ _ h => h) (Or.inl ⟨by rfl, ?_⟩) hHeld ?_ ?_
  rotate_left
  next =>
   rintro w' ⟨s0, s1⟩
   go_simp
   with_reducible rfl
  rotate_left
  next =>
   simp only [Act.put, yay, yby, ycy, za, zb]
   rfl
  refine zp (i := 1) (N := some 38) (v := ?_) (a' := ?_) #[true, true, false, false, false, false, false, false, false, false] rfl rfl (by kernel_rfl) (fun _ _ _ h => h) (Or.inl ⟨by rfl, ?_⟩) ?_ ?_
  rotate_left
  next =>
   intro w'
   go_simp
   with_reducible rfl
  rotate_left
  next =>
   simp only [Act.put, yay, yby, ycy, za, zb]
   rfl
  refine zp (i := 2) (N := some 39) (v := ?_) (a' := ?_) #[true, true, true, false, false, false, false, false, false, false] rfl rfl (by kernel_rfl) (fun _ _ _ h => h) (Or.inl ⟨by rfl, ?_⟩) ?_ ?_
  rotate_left
  next =>
   intro w'
   go_simp
   with_reducible rfl
  rotate_left
  next =>
   simp only [Act.put, yay, yby, ycy, za, zb]
   rfl
  refine zp (i := 3) (N := some 40) (v := ?_) (a' := ?_) #[true, true, true, true, false, false, false, false, false, false] rfl rfl (by kernel_rfl) (fun _ _ _ h => h) (Or.inl ⟨by rfl, ?_⟩) ?_ ?_
  rotate_left
  next =>
   intro w'
   go_simp
   with_reducible rfl
  rotate_left
  next =>
   simp only [Act.put, yay, yby, ycy, za, zb]
   rfl
  refine zp (i := 4) (N := some 41) (v := ?_) (a' := ?_) #[true, true, true, true, true, false, false, false, false, false] rfl rfl (by kernel_rfl) (fun _ _ _ h => h) (Or.inl ⟨by rfl, ?_⟩) ?_ ?_
  rotate_left
  next =>
   intro w'
   go_simp
   with_reducible rfl
  rotate_left
  next =>
   simp only [Act.put, yay, yby, ycy, za, zb]
   rfl
  refine zp (i := 5) (N := some 42) (v := ?_) (a' := ?_) #[true, true, true, true, true, true, false, false, false, false] rfl rfl (by kernel_rfl) (fun _ _ _ h => h) (Or.inl ⟨by rfl, ?_⟩) ?_ ?_
  rotate_left
  next =>
   intro w'
   go_simp
   with_reducible rfl
  rotate_left
  next =>
   simp only [Act.put, yay, yby, ycy, za, zb]
   rfl
  refine zp (i := 6) (N := some 43) (v := ?_) (a' := ?_) #[true, true, true, true, true, true, true, false, false, false] rfl rfl (by kernel_rfl) (fun _ _ _ h => h) (Or.inl ⟨by rfl, ?_⟩) ?_ ?_
  rotate_left
  next =>
   intro w'
   go_simp
   with_reducible rfl
  rotate_left
  next =>
   simp only [Act.put, yay, yby, ycy, za, zb]
   rfl
  refine ZR (i := 7) (N := some 44) (v := ?_) (a' := ?_) #[true, true, true, true, true, true, true, true, false, false] rfl rfl (by kernel_rfl) (fun _ _ _ h => h) (Or.inl ⟨by rfl, ?_⟩) hHeld ?_ ?_
  rotate_left
  next =>
   rintro w' ⟨s0, s1⟩
   go_simp
   with_reducible rfl
  rotate_left
  next =>
   simp only [Act.put, yay, yby, ycy, za, zb]
   rfl
  refine zp (i := 8) (N := some 45) (v := ?_) (a' := ?_) #[true, true, true, true, true, true, true, true, true, false] rfl rfl (by kernel_rfl) (fun _ _ _ h => h) (Or.inl ⟨by rfl, ?_⟩) ?_ ?_
  rotate_left
  next =>
   intro w'
   go_simp
   with_reducible rfl
  rotate_left
  next =>
   simp only [Act.put, yay, yby, ycy, za, zb]
   rfl
  refine zGP (i := 9) (N := some 46) #[true, true, true, true, true, true, true, true, true, true] rfl rfl (by kernel_rfl) (by decide) (fun K hK => ?_)
  refine QQ Try.func101 (by kernel_rfl) rfl #[vS, .int .i64 (wrap64 (16 * (j : Int) + 4 * c + (f : Int))), .int .i64 (wrap64 (16 * f0 + 4 * d + e))] (by rfl) rfl rfl (by (try simp only [yiy, yjy, yky]); first | done | rfl) ?_
  refine (QB.calls (fun k => some k = vS.ownBlock) vS s1.2 _ _ _ w0 _ HM.out.below HM.out.rS HUN.out).mono ?_
  rintro ed w5 ⟨rfl, h1, h2, h3⟩
  refine ⟨_, rfl, ?_⟩
  have HM2 := zA.mk (HM.out.uniS h1 h2 h3 (by rw [Lib.ZQ]; exact HM.out.lenS))
  have HK2 := zA.mk (HK.out.kept h3 (fun k hk => HM.out.ltS k hk))
  clear HM HK h1 h2 h3
  have HM := HM2
  have HK := HK2
  clear HM2 HK2
  refine hK.out _ _ ?_
  clear hK K
  refine QH (a' := ?_) ?_ ?_
  rotate_left
  next =>
   show Act.put _ (some 46) _ = _
   simp only [Act.put, yay, yby, ycy, za, zb]
   rfl
  refine JE (by kernel_rfl) ?_
  clear hHeld HUN
  have HCF : zA (∀ (W : World) (g : Nat), W.heap.size = g → Kd.C (Kd.int .i64) (W.alloc (.cells #[.int .i64 (f : Int), .int .i64 c] 2)) (some ⟨g, 0, none⟩) 2 [(f : Int), c]) := ⟨fun W g hg => by subst hg; exact (Kd.zo (show Kd.R (Kd.int .i64) 2 (W.alloc (.cells #[.int .i64 (f : Int), .int .i64 c] 2)) W.heap.size (fun _ => True) (.slice (some ⟨W.heap.size, 0, none⟩) 2 2) [(f : Int), c] from
   Kd.JZ ⟨by simp [zAU], .inr ⟨W.heap.size, 2, #[.int .i64 (f : Int), .int .i64 c], rfl, yry _, Zq rfl _, yry 2, by decide, rfl, rfl⟩⟩ (fun _ _ => trivial))).2.2⟩
  have HLM2 := zA.mk (show ∀ q ∈ JT [(f : Int), c], sm q from fun q hq => (Qb hq).1)
  have hl4 : (JT [(f : Int), c]).length ≤ 4 := List.length_filter_le _ _
  generalize hLe : JT [(f : Int), c] = L2 at HS1 HLM2 hl4
  have HLE := zA.mk (show Zj.f [(f : Int), c] = some L2 by rw [← hLe]; rfl)
  clear hLe
  go_wp2_with fail
  refine (Zj.calls _ 2 [(f : Int), c] L2 _ (HCF.out _ _ rfl) (yry 2) HLE.out).mono ?_
  rintro ed w6 ⟨v0, rfl, ho, hb⟩
  have HB3 := zA.mk (zM (zC (ysy _ _) (.cells #[.int .i64 (f : Int), .int .i64 c] 2)) hb)
  have hsz : w5.heap.size ≤ (w5.alloc (.cells #[.int .i64 (f : Int), .int .i64 c] 2)).heap.size := by rw [World.size_alloc]; omega
  have hm2 := HM.out.own
  have hw0 := HM.out.below.size
  have HL2 : zA (Kd.R (Kd.int .i64) 2 w6 w0.heap.size (fun k => m2 ≤ k) v0 L2) := ⟨Kd.qp (Kd.zt (Kd.Zm ho) (ok' := fun k => m2 ≤ k) (fun k hk => Nat.le_trans hm2 (Nat.le_trans hsz hk.2.1))) (Nat.le_trans hw0 hsz)⟩
  have HM2 := zA.mk (HM.out.stays HB3.out)
  have HK2 := zA.mk (HK.out.stays HB3.out)
  clear HM HK ho hb HB3 hsz hm2 hw0 HCF HLE
  obtain ⟨A2, cc2, ev⟩ := Kd.qy HL2.out
  subst ev
  go_wp2
  have HQ0 : zA (leP (16 * (j : Int) + 4 * c) (16 * f0 + 4 * d) [x0, x1, x2, x3] (L2.drop 0) s1.1 = leP (16 * (j : Int) + 4 * c) (16 * f0 + 4 * d) [x0, x1, x2, x3] L2 s1.1) := ⟨by rw [List.drop_zero]⟩
  generalize hS2 : Lib.uni s1.2 (16 * (j : Int) + 4 * c + (f : Int)) (16 * f0 + 4 * d + e) = S2 at *
  generalize hR2 : leP (16 * (j : Int) + 4 * c) (16 * f0 + 4 * d) [x0, x1, x2, x3] L2 s1.1 = R2 at HQ0 HS1
  clear hR2 hS2
  go_loopg [52] L2.length (fun gg v52 w' => ∃ (i2 : Nat) (x : List Int), i2 ≤ L2.length ∧ L2.length - i2 ≤ gg ∧ v52 = .int .i64 i2 ∧ zA (leP (16 * (j : Int) + 4 * c) (16 * f0 + 4 * d) [x0, x1, x2, x3] (L2.drop i2) x = R2) ∧ zA (Jq w0 gt cT gp gs m2 n vP vS (x, S2) w') ∧ zA (LeK w0 w' m2 gF gI gO cO f0 f1 x0 x1 x2 x3 L) ∧ zA (Kd.R (Kd.int .i64) 2 w' w0.heap.size (fun k => m2 ≤ k) (.slice A2 L2.length cc2) L2))
  case atStart => exact ⟨0, s1.1, Nat.zero_le _, by omega, rfl, HQ0, HM2, HK2, HL2⟩
  case round =>
   clear HM2 HK2 HL2 HQ0
   obtain ⟨i2, x, hi29, hgg2, rfl, HQ0, HM, HK, HL2⟩ := hrel
   by_cases hlt2 : i2 < L2.length
   rotate_left
   next =>
    obtain rfl : i2 = L2.length := by omega
    have hx : x = R2 := by have := HQ0.out; rwa [List.drop_length, leP] at this
    subst hx
    clear HQ0
    go_wp2
    go_roundg (L.length - (i + 1))
    case measure => omega
    case rel => exact ⟨i + 1, _, by omega, by omega, by go_num, HS1, HM, HK⟩
   have hltz2 : (i2 : Int) < (L2.length : Int) := by omega
   obtain ⟨ad, ee, hcx⟩ := Kd.qz (Kd.zo HL2.out).2.2 (i2 : Int) (by omega) hltz2
   have ex : rd L2 (i2 : Int) = L2[i2] := by simp [rd, hlt2]
   rw [ex, yny] at hcx
   have HC3 := zA.mk (HLM2.out L2[i2] (yoy hlt2))
   have HA2 := HQ0.out
   rw [ypy hlt2, leP] at HA2
   have HQ1 := zA.mk HA2
   clear HQ0 HA2 ex
   generalize L2[i2] = g at hcx HC3 HQ1
   obtain ⟨hg0, hg1⟩ := HC3.out
   have k6 := HP.out g HC3.out
   have hg4 : g < 4 := by omega
   generalize hge : rd [x0, x1, x2, x3] g = h at k6 HQ1
   obtain ⟨hh0, hh1⟩ := k6
   have HGE := zA.mk hge
   clear hge
   subst ee
   have HUN : zA (QB.f x (wrap64 (16 * (j : Int) + 4 * c + g)) (wrap64 (16 * f0 + 4 * d + h)) = some (Lib.uni x (16 * (j : Int) + 4 * c + g) (16 * f0 + 4 * d + h))) := ⟨by
    rw [zEO hj0 hjb hc0 hc1 hg0 hg1, zEO hf0 hfb hd0 hd1 hh0 hh1]
    exact if_pos (by rw [show x.length = n from HM.out.lenP]; exact le_bd hj0 hj hc0 hc1 hg0 hg1 hf0 hf1 hd0 hd1 hh0 hh1)⟩
   go_wp2
   clear hcx
   refine QG (n := 10) (S := fun w' => w'.cell? ⟨gp, 0, none⟩ = some vP ∧ w'.cell? ⟨gI, g.toNat, none⟩ = some (.int .i64 h)) (ds := [9]) #[false, false, false, false, false, false, false, false, false, false] (by kernel_rfl) rfl rfl ⟨(zL HM.out.bP 0).trans rfl, zBD HK.out.bI hg0 hg1 HGE.out⟩ (fun hHeld => ?_)
   have HM2 := zA.mk (HM.out.stays (zD (ysy _ _)))
   have HK2 := zA.mk (HK.out.stays (zD (ysy _ _)))
   have HL22 := zA.mk (Kd.zV HL2.out)
   clear HM HK HL2
   generalize wr.drew = w4 at HM2 HK2 HL22 hHeld ⊢
   refine ZR (i := 0) (N := some 56) (v := ?_) (a' := ?_) #[true, false, false, false, false, false, false, false, false, false] rfl rfl (by kernel_rfl) (fun _ _ _ h => h) (Or.inl ⟨by rfl, ?_⟩) hHeld ?_ ?_
   rotate_left
   next =>
    rintro w' ⟨s0, s1⟩
    go_simp
    with_reducible rfl
   rotate_left
   next =>
    simp only [Act.put, yay, yby, ycy, za, zb]
    rfl
   refine zp (i := 1) (N := some 57) (v := ?_) (a' := ?_) #[true, true, false, false, false, false, false, false, false, false] rfl rfl (by kernel_rfl) (fun _ _ _ h => h) (Or.inl ⟨by rfl, ?_⟩) ?_ ?_
   rotate_left
   next =>
    intro w'
    go_simp
    with_reducible rfl
   rotate_left
   next =>
    simp only [Act.put, yay, yby, ycy, za, zb]
    rfl
   refine zp (i := 2) (N := some 58) (v := ?_) (a' := ?_) #[true, true, true, false, false, false, false, false, false, false] rfl rfl (by kernel_rfl) (fun _ _ _ h => h) (Or.inl ⟨by rfl, ?_⟩) ?_ ?_
   rotate_left
   next =>
    intro w'
    go_simp
    with_reducible rfl
   rotate_left
   next =>
    simp only [Act.put, yay, yby, ycy, za, zb]
    rfl
   refine zp (i := 3) (N := some 59) (v := ?_) (a' := ?_) #[true, true, true, true, false, false, false, false, false, false] rfl rfl (by kernel_rfl) (fun _ _ _ h => h) (Or.inl ⟨by rfl, ?_⟩) ?_ ?_
   rotate_left
   next =>
    intro w'
    go_simp
    with_reducible rfl
   rotate_left
   next =>
    simp only [Act.put, yay, yby, ycy, za, zb]
    rfl
   refine zp (i := 4) (N := some 60) (v := ?_) (a' := ?_) #[true, true, true, true, true, false, false, false, false, false] rfl rfl (by kernel_rfl) (fun _ _ _ h => h) (Or.inl ⟨by rfl, ?_⟩) ?_ ?_
   rotate_left
   next =>
    intro w'
    go_simp
    with_reducible rfl
   rotate_left
   next =>
    simp only [Act.put, yay, yby, ycy, za, zb]
    rfl
   refine zp (i := 5) (N := some 61) (v := ?_) (a' := ?_) #[true, true, true, true, true, true, false, false, false, false] rfl rfl (by kernel_rfl) (fun _ _ _ h => h) (Or.inl ⟨by rfl, ?_⟩) ?_ ?_
   rotate_left
   next =>
    intro w'
    go_simp
    with_reducible rfl
   rotate_left
   next =>
    simp only [Act.put, yay, yby, ycy, za, zb]
    rfl
   refine zp (i := 6) (N := some 62) (v := ?_) (a' := ?_) #[true, true, true, true, true, true, true, false, false, false] rfl rfl (by kernel_rfl) (fun _ _ _ h => h) (Or.inl ⟨by rfl, ?_⟩) ?_ ?_
   rotate_left
   next =>
    intro w'
    go_simp
    with_reducible rfl
   rotate_left
   next =>
    simp only [Act.put, yay, yby, ycy, za, zb]
    rfl
   refine ZR (i := 7) (N := some 63) (v := ?_) (a' := ?_) #[true, true, true, true, true, true, true, true, false, false] rfl rfl (by kernel_rfl) (fun _ _ _ h => h) (Or.inl ⟨by rfl, ?_⟩) hHeld ?_ ?_
   rotate_left
   next =>
    rintro w' ⟨s0, s1⟩
    go_simp
    with_reducible rfl
   rotate_left
   next =>
    simp only [Act.put, yay, yby, ycy, za, zb]
    rfl
   refine zp (i := 8) (N := some 64) (v := ?_) (a' := ?_) #[true, true, true, true, true, true, true, true, true, false] rfl rfl (by kernel_rfl) (fun _ _ _ h => h) (Or.inl ⟨by rfl, ?_⟩) ?_ ?_
   rotate_left
   next =>
    intro w'
    go_simp
    with_reducible rfl
   rotate_left
   next =>
    simp only [Act.put, yay, yby, ycy, za, zb]
    rfl
   refine zGP (i := 9) (N := some 65) #[true, true, true, true, true, true, true, true, true, true] rfl rfl (by kernel_rfl) (by decide) (fun K hK => ?_)
   refine QQ Try.func101 (by kernel_rfl) rfl #[vP, .int .i64 (wrap64 (16 * (j : Int) + 4 * c + g)), .int .i64 (wrap64 (16 * f0 + 4 * d + h))] (by rfl) rfl rfl (by (try simp only [yiy, yjy, yky]); first | done | rfl) ?_
   refine (QB.calls (fun k => some k = vP.ownBlock) vP x _ _ _ w0 _ HM2.out.below HM2.out.rP HUN.out).mono ?_
   rintro ed w5 ⟨rfl, h1, h2, h3⟩
   refine ⟨_, rfl, ?_⟩
   have hmm := HM2.out.ltP
   have HM := zA.mk (HM2.out.uniP h1 h2 h3 (by rw [Lib.ZQ]; exact HM2.out.lenP))
   have HK := zA.mk (HK2.out.kept h3 hmm)
   have HL2 := zA.mk (Kd.Js HL22.out h3 (fun k h1 e => Nat.lt_irrefl _ (Nat.lt_of_lt_of_le (hmm k e) h1)))
   clear HM2 HK2 HL22 h1 h2 h3 hmm
   refine hK.out _ _ ?_
   clear hK K
   refine QH (a' := ?_) ?_ ?_
   rotate_left
   next =>
    show Act.put _ (some 65) _ = _
    simp only [Act.put, yay, yby, ycy, za, zb]
    rfl
   refine JE (by kernel_rfl) ?_
   clear hHeld HUN
   go_wp2
   go_roundg (L2.length - (i2 + 1))
   case measure => omega
   case rel => exact ⟨i2 + 1, _, by omega, by omega, by go_num, HQ1, HM, HK, HL2⟩
def Qe (l : List (List zw)) : List Int × List Int := zAy JU l 0 (Lib.ZA 0 (16 * l.length), Lib.ZA 0 (16 * l.length))
def zEP (ks : List Int) (x : Int) : List Int := if x ∈ ks then ks else ks ++ [x]
def zAE (mk : List Int) (b : Int) : List Int → List Int → List Int
 | [], ks => ks
 | v :: vs, ks => zAE mk b vs (zEP ks (rd mk (b + v)))
def JN (mk : List Int) : List (List Int) → List Int → List Int
 | [], ks => ks
 | c :: cs, ks => JN mk cs (zAE mk (16 * rd c 0 + 4 * rd c 1) (JT [rd c 1]) ks)
def zAz (l : List Int) : Bool := l.all fun x => decide (0 ≤ x) && decide (x ≤ 1000000)
def zHZ (n : Nat) (cs : List (List Int)) : Bool := decide (cs.length ≤ 32) && cs.all (fun x => decide (x.length = 2) && ((decide (0 ≤ rd x 0) && decide (rd x 0 < (n : Int))) && (decide (0 ≤ rd x 1) && decide (rd x 1 ≤ 3))))
theorem leOk_h {n : Nat} {cs : List (List Int)} (h : zHZ n cs = true) : cs.length ≤ 32 ∧ ∀ x ∈ cs, x.length = 2 ∧ 0 ≤ rd x 0 ∧ rd x 0 < (n : Int) ∧ 0 ≤ rd x 1 ∧ rd x 1 ≤ 3 := by
 unfold zHZ at h
 simp only [Bool.and_eq_true, decide_eq_true_eq, List.all_eq_true] at h
 exact ⟨h.1, fun x hx => ⟨(h.2 x hx).1, (h.2 x hx).2.1.1, (h.2 x hx).2.1.2, (h.2 x hx).2.2.1, (h.2 x hx).2.2.2⟩⟩
theorem zEQ {l : List Int} (h : zAz l = true) : ∀ i : Nat, i < l.length → 0 ≤ rd l (i : Int) ∧ rd l (i : Int) ≤ 1000000 := fun i hi => by
 unfold zAz at h
 have h2 := List.all_eq_true.1 h l[i] (yoy hi)
 rw [Bool.and_eq_true, decide_eq_true_eq, decide_eq_true_eq] at h2
 have e : rd l (i : Int) = l[i] := by simp [rd, hi]
 rw [e]; exact h2
structure KeysOf (ks : List Int) (D : DataW Unit) : Prop where
 tidy : Maps.Tidy D
 size : Maps.size D = ks.length
 has : ∀ x, Maps.has D (.int .i64 x) = ks.contains x
theorem KeysOf.empty : KeysOf [] (.map []) := ⟨Maps.tidy_empty, rfl, fun _ => rfl⟩
theorem KeysOf.put {ks : List Int} {D : DataW Unit} (h : KeysOf ks D) (x : Int) : KeysOf (zEP ks x) (D.put (.int .i64 x) (.lit (.bool true))) := by
 refine ⟨h.tidy.put (show WideAt.IsKeyLit (.int .i64 x) from trivial) _, ?_, fun y => ?_⟩
 next =>
  rw [Maps.size_put h.tidy, h.has, h.size]
  unfold zEP
  by_cases e : x ∈ ks
  next =>
   rw [if_pos e, if_pos (by simpa using e)]
  next =>
   rw [if_neg e, if_neg (by simpa using e)]; simp
 next =>
  by_cases e : y = x
  rotate_left
  next =>
   rw [Maps.has_put_other (by simpa using e), h.has]
   unfold zEP
   split
   next =>
    rfl
   next =>
    simp [e]
  subst e
  rw [Maps.has_put_same h.tidy.isMap (show WideAt.IsKeyLit (.int .i64 y) from trivial)]
  unfold zEP
  split
  next =>
   simp [*]
  next =>
   simp
theorem JV {P : Program} {k : TypeId} {R : Value → Option (DataW Unit × List MemPlace)} {b n : Nat} {D : DataW Unit} {W W1 : World} (h : W.ownsMap P k R b n D) (hb : Below W.heap.size W W1) : W1.ownsMap P k R b n D := by
 obtain ⟨es, clock, h1, h2⟩ := h
 exact ⟨es, clock, zO h1 hb, h2⟩
theorem zA9 {W W1 : World} {S : Nat → Prop} {a : Addr} {v : Value} (hc : W.cell? a = some v) (hk : Kept W W1 S) (hS : ∀ k, S k → ∃ es cl, W.heap[k]? = some (.map es cl)) : W1.cell? a = some v := zFV hc hk (fun e => by
 obtain ⟨es, cl, h⟩ := hS _ e
 simp [World.cell?, h] at hc)
theorem zC6 {P : Program} {k : TypeId} {R : Value → Option (DataW Unit × List MemPlace)} {b n : Nat} {D : DataW Unit} {W : World} (h : W.ownsMap P k R b n D) : ∃ es cl, W.heap[b]? = some (.map es cl) := by
 obtain ⟨es, clock, h1, h2⟩ := h
 exact ⟨es, clock, h1⟩
theorem le_step {l : List (List zw)} (hok : zCd l) {w : World} {gt : Nat} {cT : Array Value} {gp gs m2 : Nat} {vP vS : Value} (s : List Int × List Int) (W : World) (j f : Nat) (x : zw) (hI : Jq w gt cT gp gs m2 (16 * l.length) vP vS s W) (hF : ZX l j f x) (hb : ¬ x.f0 < 0) :
 Calls Try.prog 100 (#[.int .i64 (j : Int), .int .i64 (f : Int), .agg #[.int .i64 x.f0, .int .i64 x.f1], .agg #[.int .i64 (zn x.f1 0), .int .i64 (zn x.f1 1), .int .i64 (zn x.f1 2), .int .i64 (zn x.f1 3)]] ++ #[.pointer (some ⟨gs, 0, none⟩), .pointer (some ⟨gp, 0, none⟩)]) W fun e W' => e = .returned (.tuple #[]) ∧ Jq w gt cT gp gs m2 (16 * l.length) vP vS (JU s j f x) W' := by
 obtain ⟨h1, h2, h3⟩ := hF
 obtain ⟨q0, q1, q2⟩ := hok
 have q3 := q1 _ (yoy h1)
 have q4 := q2 _ (yoy h1) x (by rw [← h3]; exact yoy h2) hb
 have e : (#[.int .i64 (j : Int), .int .i64 (f : Int), .agg #[.int .i64 x.f0, .int .i64 x.f1], .agg #[.int .i64 (zn x.f1 0), .int .i64 (zn x.f1 1), .int .i64 (zn x.f1 2), .int .i64 (zn x.f1 3)]] ++ #[.pointer (some ⟨gs, 0, none⟩), .pointer (some ⟨gp, 0, none⟩)] : Array Value) = #[.int .i64 (j : Int), .int .i64 (f : Int), .agg #[.int .i64 x.f0, .int .i64 x.f1], .agg #[.int .i64 (zn x.f1 0), .int .i64 (zn x.f1 1), .int .i64 (zn x.f1 2), .int .i64 (zn x.f1 3)], .pointer (some ⟨gs, 0, none⟩), .pointer (some ⟨gp, 0, none⟩)] := rfl
 rw [e]
 exact zB8.calls w W gt cT gp gs m2 (16 * l.length) vP vS s j f x.f0 x.f1 hI (by omega) (by omega) (by omega) (by omega) q4.2.1 q4.2.2 (by omega)
def zg.f (k : Nat) (t : List (List zw)) (c : Int) : Option Int := if zCd t ∧ zAz (Qe t).1 = true ∧ zAz (Qe t).2 = true then ((zc.f k t c).bind fun cs => if zHZ t.length cs = true then some (((JN (Qe t).1 cs []).length : Int) - ((JN (Qe t).2 cs []).length : Int) + (cs.length : Int)) else none) else none
def zg.T1 : Bool × List (List Nat × List Nat) := (true, [([], []), ([0], [0]), ([1], [1]), ([2], [2]), ([3, 2], [3]), ([], []), ([5], [5]), ([6, 4], [6]), ([7], [7]), ([8, 7], [8]), ([], []), ([], []), ([10, 4, 9, 0, 1, 2, 3, 4, 10, 11], [4, 10]), ([11, 9, 12, 0, 1, 2, 3, 4, 5, 6, 7, 8, 9, 10, 11, 12], [9, 11])])
def zg.B1 : List Nat := [0, 1, 3, 7, 15, 0, 32, 127, 255, 511, 0, 0, 4095, 8191]
theorem zg.tab1 : JF .any (opsOf Try.f56 1) = zg.T1 := by kernel_rfl
theorem zg.zHI : Zt zg.T1.2 zg.B1 = true := by kernel_rfl
set_option maxHeartbeats 8000000 in
set_option maxRecDepth 100000 in
theorem zg.calls (k : Nat) (A0_0 : Option Addr) (c0_0 : Nat) (l0_0 : List (List zw)) (a1 : Int) (r : Int) (w : World) (hr0_0 : Kd.C (Kd.slice 75 ZV) w A0_0 l0_0.length l0_0) (hc0_0 : l0_0.length ≤ c0_0) (h : zg.f k l0_0 a1 = some r) :
 Calls Try.prog 56 #[.agg #[.slice A0_0 l0_0.length c0_0], .int .i64 a1] w fun e w' => e = .returned (.int .i64 r) ∧ Below w.heap.size w w' := by
 unfold zg.f at h
 by_cases hok0 : zCd l0_0 ∧ zAz (Qe l0_0).1 = true ∧ zAz (Qe l0_0).2 = true
 case neg => rw [if_neg hok0] at h; cases h
 rw [if_pos hok0] at h
 obtain ⟨hok, hm1, hm2⟩ := hok0
 have HM1 := zA.mk (zEQ hm1)
 have HM2 := zA.mk (zEQ hm2)
 clear hm1 hm2
 obtain ⟨cs, hcs, h⟩ := ydy.mp h
 by_cases hle : zHZ l0_0.length cs = true
 case neg => rw [if_neg hle] at h; cases h
 rw [if_pos hle] at h
 have hr := yey h
 obtain ⟨h32, hcc⟩ := leOk_h hle
 have HOK := zA.mk hok
 have HR := zA.mk hr0_0
 have HC := zA.mk hc0_0
 have HRR := zA.mk hr
 have HCS := zA.mk hcc
 have HCR := zA.mk hcs
 have hl8 : l0_0.length ≤ 8 := hok.1
 obtain ⟨L16, hL16⟩ : ∃ L, L = Lib.ZA 0 (16 * l0_0.length) := ⟨_, rfl⟩
 have HL16 := zA.mk hL16
 have HCN := zA.mk (show qV.f (16 * l0_0.length + 1) (16 * (l0_0.length : Int)) = some L16 by rw [hL16]; exact zBd (16 * l0_0.length) (by omega))
 have HW16 := zA.mk (show wrap64 (16 * (l0_0.length : Int)) = 16 * (l0_0.length : Int) from Lib.qh (by omega) (by omega))
 clear hL16
 clear h hok hr hle hcc hcs hr0_0 hc0_0
 have BT := zA.mk (Zq (W := w) rfl (.cells #[.slice A0_0 l0_0.length c0_0] 35))
 have HB := zA.mk (zC (ysy w.heap.size w) (.cells #[.slice A0_0 l0_0.length c0_0] 35))
 go_enter Try.func56, Try.ntmps56
 go_wp2
 have N56 : True := trivial
 refine QG (n := 14) (S := fun w' => True) (ds := []) #[false, false, false, false, false, false, false, false, false, false, false, false, false, false] (by kernel_rfl) rfl rfl trivial (fun hHeld => ?_)
 refine Za zg.tab1 zg.zHI (fun HT_ HW_ => ?_)
 refine zp (i := 0) (N := some 15) (v := ?_) (a' := ?_) #[true, false, false, false, false, false, false, false, false, false, false, false, false, false] rfl rfl (by kernel_rfl) (fun _ _ _ h => h) (Or.inl ⟨by rfl, ?_⟩) ?_ ?_
 rotate_left
 next =>
  intro w'
  go_simp
  with_reducible rfl
 rotate_left
 next =>
  simp only [Act.put, yay, yby, ycy, za, zb]
  rfl
 refine zp (i := 5) (N := some 20) (v := ?_) (a' := ?_) #[true, false, false, false, false, true, false, false, false, false, false, false, false, false] rfl rfl (by kernel_rfl) (fun _ _ _ h => h) (Or.inl ⟨by rfl, ?_⟩) ?_ ?_
 rotate_left
 next =>
  intro w'
  go_simp
  with_reducible rfl
 rotate_left
 next =>
  simp only [Act.put, yay, yby, ycy, za, zb]
  rfl
 refine zGs [1, 2, 3, 4, 6, 7, 8, 9, 10, 11, 12, 13] (fun a0_ b a w' => ∃ (AP : Option Addr) (cP : Nat) (AS : Option Addr) (cS : Nat) (g5 : Nat) (g6 : Nat) (m4_ : Value) (m9_ : Value) (m10_ : Value) (m11_ : Value), a = Zs a0_ b [(1, 16, .slice A0_0 l0_0.length c0_0), (2, 17, .int .i64 (l0_0.length : Int)), (3, 18, .int .i64 (16 * (l0_0.length : Int))), (4, 19, m4_), (6, 21, .slice A0_0 l0_0.length c0_0), (7, 22, .int .i64 (l0_0.length : Int)), (8, 23, .int .i64 (16 * (l0_0.length : Int))), (9, 24, m9_), (10, 5, m10_), (11, 6, m11_)] ∧ (w'.heap[w.heap.size]? = some (.cells #[.slice A0_0 l0_0.length c0_0] 35 (0, 0))) ∧ (Below w.heap.size w w') ∧ (b 4 = true → Kd.R (Kd.int .i64) 2 w' w.heap.size (fun k => some k = ((.slice AP L16.length cP) : Value).ownBlock) (.slice AP L16.length cP) L16) ∧ (b 9 = true → Kd.R (Kd.int .i64) 2 w' w.heap.size (fun k => some k = ((.slice AS L16.length cS) : Value).ownBlock) (.slice AS L16.length cS) L16) ∧ (b 9 = true → ∀ k, some k = ((.slice AP L16.length cP) : Value).ownBlock → some k ≠ ((.slice AS L16.length cS) : Value).ownBlock) ∧ (b 10 = true → w.heap.size ≤ g5) ∧ (b 11 = true → w.heap.size ≤ g6) ∧ (b 10 = true → b 12 = false → w'.heap[g5]? = some (.cells #[.slice none 0 0] 22 (0, 0))) ∧ (b 12 = true → w'.heap[g5]? = some (.cells #[(.slice AP L16.length cP)] 22 (0, 0))) ∧ (b 11 = true → b 13 = false → w'.heap[g6]? = some (.cells #[.slice none 0 0] 22 (0, 0))) ∧ (b 13 = true → w'.heap[g6]? = some (.cells #[(.slice AS L16.length cS)] 22 (0, 0))) ∧ (b 10 = true → b 11 = true → g5 ≠ g6) ∧ (b 4 = true → (m4_ : Value) = .slice AP L16.length cP) ∧ (b 9 = true → (m9_ : Value) = .slice AS L16.length cS) ∧ (b 10 = true → (m10_ : Value) = .pointer (some ⟨g5, 0, none⟩)) ∧ (b 11 = true → (m11_ : Value) = .pointer (some ⟨g6, 0, none⟩))) HT_.out HW_.out (by kernel_rfl) (by kernel_rfl) ?_ ?_ ?_
 next =>
  exact ⟨none, 0, none, 0, 0, 0, .bool false, .bool false, .bool false, .bool false, by simp only [Zs, Bool.false_eq_true, if_false], (zJ BT.out), (zD HB.out), fun h_ => absurd h_ (by decide), fun h_ => absurd h_ (by decide), fun h_ => absurd h_ (by decide), fun h_ => absurd h_ (by decide), fun h_ => absurd h_ (by decide), fun h_ => absurd h_ (by decide), fun h_ => absurd h_ (by decide), fun h_ => absurd h_ (by decide), fun h_ => absurd h_ (by decide), (fun h_ => absurd h_ (by decide)), fun h_ => absurd h_ (by decide), fun h_ => absurd h_ (by decide), fun h_ => absurd h_ (by decide), fun h_ => absurd h_ (by decide)⟩
 next =>
  skip
  clear BT HB N56
  refine qq ?_ ?_
  next =>
   rintro b a w' ⟨AP, cP, AS, cS, g5, g6, m4_, m9_, m10_, m11_, ha, Q_BT, Q_HB, Q_RP, Q_RS, Q_NPS, Q_G5, Q_G6, Q_B5, Q_B5v, Q_B6, Q_B6v, Q_N56, Q_X4_, Q_X9_, Q_X10_, Q_X11_⟩ hb_ hon hoff
   refine ⟨_, rfl, fun K hK => ?_⟩
   have e15 : a.tmps[15]? = some (.pointer (some ⟨w.heap.size, 0, none⟩)) := by rw [ha]; exact (Qd rfl).trans rfl
   replace ha := zA.mk ha
   have BT := zA.mk Q_BT
   have HB := zA.mk Q_HB
   have N56 := zA.mk Q_N56
   have hcT : w'.cell? ⟨w.heap.size, 0, none⟩ = some (.slice A0_0 l0_0.length c0_0) := (zL BT.out 0).trans rfl
   refine Ji (w1 := w') (v := .slice A0_0 l0_0.length c0_0) (by rfl) rfl ?_ ?_
   next =>
    go_simp
    (try simp only [za])
    try rfl
   refine hK.out _ _ ⟨AP, cP, AS, cS, g5, g6, m4_, m9_, m10_, m11_, (by rw [ha.out]; exact qx 0 hb_ rfl rfl rfl), Q_BT, Q_HB, fun h0_ => absurd ((hoff 4 (by kernel_rfl)).symm.trans h0_) (by decide), fun h0_ => absurd ((hoff 9 (by kernel_rfl)).symm.trans h0_) (by decide), fun h0_ => absurd ((hoff 9 (by kernel_rfl)).symm.trans h0_) (by decide), Q_G5, Q_G6, Q_B5, fun h0_ => absurd ((hoff 12 (by kernel_rfl)).symm.trans h0_) (by decide), Q_B6, fun h0_ => absurd ((hoff 13 (by kernel_rfl)).symm.trans h0_) (by decide), Q_N56, fun h0_ => absurd ((hoff 4 (by kernel_rfl)).symm.trans h0_) (by decide), fun h0_ => absurd ((hoff 9 (by kernel_rfl)).symm.trans h0_) (by decide), Q_X10_, Q_X11_⟩
  refine qq ?_ ?_
  next =>
   rintro b a w' ⟨AP, cP, AS, cS, g5, g6, m4_, m9_, m10_, m11_, ha, Q_BT, Q_HB, Q_RP, Q_RS, Q_NPS, Q_G5, Q_G6, Q_B5, Q_B5v, Q_B6, Q_B6v, Q_N56, Q_X4_, Q_X9_, Q_X10_, Q_X11_⟩ hb_ hon hoff
   refine ⟨_, rfl, fun K hK => ?_⟩
   have e16 : a.tmps[16]? = some (.slice A0_0 l0_0.length c0_0) := by rw [ha]; exact ZU (e := (1, 16, .slice A0_0 l0_0.length c0_0)) 0 rfl rfl (hon 1 (by kernel_rfl)) rfl
   replace ha := zA.mk ha
   have BT := zA.mk Q_BT
   have HB := zA.mk Q_HB
   have N56 := zA.mk Q_N56
   refine QQ Try.func75 (by kernel_rfl) rfl #[.slice A0_0 l0_0.length c0_0] (by rfl) rfl rfl (by first | (simp only [yiy, yjy, yky, Act.eval, Array.getD_eq_getD_getElem?, Option.getD_some, e16]; done) | (simp only [yiy, yjy, yky, Act.eval, Array.getD_eq_getD_getElem?, Option.getD_some, e16]; rfl)) ?_
   refine (qU.calls A0_0 c0_0 l0_0 (l0_0.length : Int) _ (Kd.qI HR.out HB.out) HC.out rfl).mono ?_
   rintro ed w2 ⟨rfl, hd⟩
   have hb := zx.below hd
   refine ⟨_, rfl, ?_⟩
   refine hK.out _ _ ⟨AP, cP, AS, cS, g5, g6, m4_, m9_, m10_, m11_, (by rw [ha.out]; exact qx 1 hb_ rfl rfl rfl), zO BT.out hb, zM HB.out hb, fun h0_ => absurd ((hoff 4 (by kernel_rfl)).symm.trans h0_) (by decide), fun h0_ => absurd ((hoff 9 (by kernel_rfl)).symm.trans h0_) (by decide), fun h0_ => absurd ((hoff 9 (by kernel_rfl)).symm.trans h0_) (by decide), Q_G5, Q_G6, fun h0_ h1_ => zO (Q_B5 h0_ h1_) hb, fun h0_ => absurd ((hoff 12 (by kernel_rfl)).symm.trans h0_) (by decide), fun h0_ h1_ => zO (Q_B6 h0_ h1_) hb, fun h0_ => absurd ((hoff 13 (by kernel_rfl)).symm.trans h0_) (by decide), Q_N56, fun h0_ => absurd ((hoff 4 (by kernel_rfl)).symm.trans h0_) (by decide), fun h0_ => absurd ((hoff 9 (by kernel_rfl)).symm.trans h0_) (by decide), Q_X10_, Q_X11_⟩
  refine qq ?_ ?_
  next =>
   rintro b a w' ⟨AP, cP, AS, cS, g5, g6, m4_, m9_, m10_, m11_, ha, Q_BT, Q_HB, Q_RP, Q_RS, Q_NPS, Q_G5, Q_G6, Q_B5, Q_B5v, Q_B6, Q_B6v, Q_N56, Q_X4_, Q_X9_, Q_X10_, Q_X11_⟩ hb_ hon hoff
   refine ⟨_, rfl, fun K hK => ?_⟩
   have e17 : a.tmps[17]? = some (.int .i64 (l0_0.length : Int)) := by rw [ha]; exact ZU (e := (2, 17, .int .i64 (l0_0.length : Int))) 1 rfl rfl (hon 2 (by kernel_rfl)) rfl
   replace ha := zA.mk ha
   have BT := zA.mk Q_BT
   have HB := zA.mk Q_HB
   have N56 := zA.mk Q_N56
   refine Ji (w1 := w') (v := .int .i64 (16 * (l0_0.length : Int))) (by rfl) rfl ?_ ?_
   next =>
    go_simp
    (try simp only [za])
    first | exact HW16.out | (rw [HW16.out]; done) | (simp only [HW16.out]; done) | (simp [HW16.out]; done)
   refine hK.out _ _ ⟨AP, cP, AS, cS, g5, g6, m4_, m9_, m10_, m11_, (by rw [ha.out]; exact qx 2 hb_ rfl rfl rfl), BT.out, HB.out, fun h0_ => absurd ((hoff 4 (by kernel_rfl)).symm.trans h0_) (by decide), fun h0_ => absurd ((hoff 9 (by kernel_rfl)).symm.trans h0_) (by decide), fun h0_ => absurd ((hoff 9 (by kernel_rfl)).symm.trans h0_) (by decide), Q_G5, Q_G6, fun h0_ h1_ => (Q_B5 h0_ h1_), fun h0_ => absurd ((hoff 12 (by kernel_rfl)).symm.trans h0_) (by decide), fun h0_ h1_ => (Q_B6 h0_ h1_), fun h0_ => absurd ((hoff 13 (by kernel_rfl)).symm.trans h0_) (by decide), Q_N56, fun h0_ => absurd ((hoff 4 (by kernel_rfl)).symm.trans h0_) (by decide), fun h0_ => absurd ((hoff 9 (by kernel_rfl)).symm.trans h0_) (by decide), Q_X10_, Q_X11_⟩
  refine qq ?_ ?_
  next =>
   rintro b a w' ⟨AP, cP, AS, cS, g5, g6, m4_, m9_, m10_, m11_, ha, Q_BT, Q_HB, Q_RP, Q_RS, Q_NPS, Q_G5, Q_G6, Q_B5, Q_B5v, Q_B6, Q_B6v, Q_N56, Q_X4_, Q_X9_, Q_X10_, Q_X11_⟩ hb_ hon hoff
   refine ⟨_, rfl, fun K hK => ?_⟩
   have e18 : a.tmps[18]? = some (.int .i64 (16 * (l0_0.length : Int))) := by rw [ha]; exact ZU (e := (3, 18, .int .i64 (16 * (l0_0.length : Int)))) 2 rfl rfl (hon 3 (by kernel_rfl)) rfl
   replace ha := zA.mk ha
   have BT := zA.mk Q_BT
   have HB := zA.mk Q_HB
   have N56 := zA.mk Q_N56
   refine QQ Try.func98 (by kernel_rfl) rfl #[.int .i64 (16 * (l0_0.length : Int))] (by rfl) rfl rfl (by first | (simp only [yiy, yjy, yky, Act.eval, Array.getD_eq_getD_getElem?, Option.getD_some, e18]; done) | (simp only [yiy, yjy, yky, Act.eval, Array.getD_eq_getD_getElem?, Option.getD_some, e18]; rfl)) ?_
   refine (qV.calls (16 * l0_0.length + 1) (16 * (l0_0.length : Int)) _ _ HCN.out).mono ?_
   rintro ed w2 ⟨v2, rfl, ho, hb⟩
   obtain ⟨A2, c2, rfl⟩ := Kd.qy ho
   refine ⟨_, rfl, ?_⟩
   refine hK.out _ _ ⟨A2, c2, AS, cS, g5, g6, (.slice A2 L16.length c2), m9_, m10_, m11_, (by rw [ha.out]; exact qx 3 hb_ rfl rfl rfl), zO BT.out hb, zM HB.out hb, fun _ => Kd.qp (Kd.Qo rfl ho) HB.out.size, fun h0_ => absurd ((hoff 9 (by kernel_rfl)).symm.trans h0_) (by decide), fun h0_ => absurd ((hoff 9 (by kernel_rfl)).symm.trans h0_) (by decide), Q_G5, Q_G6, fun h0_ h1_ => zO (Q_B5 h0_ h1_) hb, fun h0_ => absurd ((hoff 12 (by kernel_rfl)).symm.trans h0_) (by decide), fun h0_ h1_ => zO (Q_B6 h0_ h1_) hb, fun h0_ => absurd ((hoff 13 (by kernel_rfl)).symm.trans h0_) (by decide), Q_N56, fun _ => rfl, fun h0_ => absurd ((hoff 9 (by kernel_rfl)).symm.trans h0_) (by decide), Q_X10_, Q_X11_⟩
  refine qq ?_ ?_
  next =>
   rintro b a w' ⟨AP, cP, AS, cS, g5, g6, m4_, m9_, m10_, m11_, ha, Q_BT, Q_HB, Q_RP, Q_RS, Q_NPS, Q_G5, Q_G6, Q_B5, Q_B5v, Q_B6, Q_B6v, Q_N56, Q_X4_, Q_X9_, Q_X10_, Q_X11_⟩ hb_ hon hoff
   refine ⟨_, rfl, fun K hK => ?_⟩
   have e20 : a.tmps[20]? = some (.pointer (some ⟨w.heap.size, 0, none⟩)) := by rw [ha]; exact (Qd rfl).trans rfl
   replace ha := zA.mk ha
   have BT := zA.mk Q_BT
   have HB := zA.mk Q_HB
   have N56 := zA.mk Q_N56
   have hcT : w'.cell? ⟨w.heap.size, 0, none⟩ = some (.slice A0_0 l0_0.length c0_0) := (zL BT.out 0).trans rfl
   refine Ji (w1 := w') (v := .slice A0_0 l0_0.length c0_0) (by rfl) rfl ?_ ?_
   next =>
    go_simp
    (try simp only [za])
    try rfl
   refine hK.out _ _ ⟨AP, cP, AS, cS, g5, g6, m4_, m9_, m10_, m11_, (by rw [ha.out]; exact qx 4 hb_ rfl rfl rfl), Q_BT, Q_HB, Q_RP, fun h0_ => absurd ((hoff 9 (by kernel_rfl)).symm.trans h0_) (by decide), fun h0_ => absurd ((hoff 9 (by kernel_rfl)).symm.trans h0_) (by decide), Q_G5, Q_G6, Q_B5, fun h0_ => absurd ((hoff 12 (by kernel_rfl)).symm.trans h0_) (by decide), Q_B6, fun h0_ => absurd ((hoff 13 (by kernel_rfl)).symm.trans h0_) (by decide), Q_N56, Q_X4_, fun h0_ => absurd ((hoff 9 (by kernel_rfl)).symm.trans h0_) (by decide), Q_X10_, Q_X11_⟩
  refine qq ?_ ?_
  next =>
   rintro b a w' ⟨AP, cP, AS, cS, g5, g6, m4_, m9_, m10_, m11_, ha, Q_BT, Q_HB, Q_RP, Q_RS, Q_NPS, Q_G5, Q_G6, Q_B5, Q_B5v, Q_B6, Q_B6v, Q_N56, Q_X4_, Q_X9_, Q_X10_, Q_X11_⟩ hb_ hon hoff
   refine ⟨_, rfl, fun K hK => ?_⟩
   have e21 : a.tmps[21]? = some (.slice A0_0 l0_0.length c0_0) := by rw [ha]; exact ZU (e := (6, 21, .slice A0_0 l0_0.length c0_0)) 4 rfl rfl (hon 6 (by kernel_rfl)) rfl
   replace ha := zA.mk ha
   have BT := zA.mk Q_BT
   have HB := zA.mk Q_HB
   have RP := zA.mk (Q_RP (hon 4 (by kernel_rfl)))
   have N56 := zA.mk Q_N56
   refine QQ Try.func75 (by kernel_rfl) rfl #[.slice A0_0 l0_0.length c0_0] (by rfl) rfl rfl (by first | (simp only [yiy, yjy, yky, Act.eval, Array.getD_eq_getD_getElem?, Option.getD_some, e21]; done) | (simp only [yiy, yjy, yky, Act.eval, Array.getD_eq_getD_getElem?, Option.getD_some, e21]; rfl)) ?_
   refine (qU.calls A0_0 c0_0 l0_0 (l0_0.length : Int) _ (Kd.qI HR.out HB.out) HC.out rfl).mono ?_
   rintro ed w2 ⟨rfl, hd⟩
   have hb := zx.below hd
   refine ⟨_, rfl, ?_⟩
   refine hK.out _ _ ⟨AP, cP, AS, cS, g5, g6, m4_, m9_, m10_, m11_, (by rw [ha.out]; exact qx 5 hb_ rfl rfl rfl), zO BT.out hb, zM HB.out hb, fun _ => Kd.qK RP.out hb, fun h0_ => absurd ((hoff 9 (by kernel_rfl)).symm.trans h0_) (by decide), fun h0_ => absurd ((hoff 9 (by kernel_rfl)).symm.trans h0_) (by decide), Q_G5, Q_G6, fun h0_ h1_ => zO (Q_B5 h0_ h1_) hb, fun h0_ => absurd ((hoff 12 (by kernel_rfl)).symm.trans h0_) (by decide), fun h0_ h1_ => zO (Q_B6 h0_ h1_) hb, fun h0_ => absurd ((hoff 13 (by kernel_rfl)).symm.trans h0_) (by decide), Q_N56, Q_X4_, fun h0_ => absurd ((hoff 9 (by kernel_rfl)).symm.trans h0_) (by decide), Q_X10_, Q_X11_⟩
  refine qq ?_ ?_
  next =>
   rintro b a w' ⟨AP, cP, AS, cS, g5, g6, m4_, m9_, m10_, m11_, ha, Q_BT, Q_HB, Q_RP, Q_RS, Q_NPS, Q_G5, Q_G6, Q_B5, Q_B5v, Q_B6, Q_B6v, Q_N56, Q_X4_, Q_X9_, Q_X10_, Q_X11_⟩ hb_ hon hoff
   refine ⟨_, rfl, fun K hK => ?_⟩
   have e22 : a.tmps[22]? = some (.int .i64 (l0_0.length : Int)) := by rw [ha]; exact ZU (e := (7, 22, .int .i64 (l0_0.length : Int))) 5 rfl rfl (hon 7 (by kernel_rfl)) rfl
   replace ha := zA.mk ha
   have BT := zA.mk Q_BT
   have HB := zA.mk Q_HB
   have RP := zA.mk (Q_RP (hon 4 (by kernel_rfl)))
   have N56 := zA.mk Q_N56
   refine Ji (w1 := w') (v := .int .i64 (16 * (l0_0.length : Int))) (by rfl) rfl ?_ ?_
   next =>
    go_simp
    (try simp only [za])
    first | exact HW16.out | (rw [HW16.out]; done) | (simp only [HW16.out]; done) | (simp [HW16.out]; done)
   refine hK.out _ _ ⟨AP, cP, AS, cS, g5, g6, m4_, m9_, m10_, m11_, (by rw [ha.out]; exact qx 6 hb_ rfl rfl rfl), BT.out, HB.out, fun _ => RP.out, fun h0_ => absurd ((hoff 9 (by kernel_rfl)).symm.trans h0_) (by decide), fun h0_ => absurd ((hoff 9 (by kernel_rfl)).symm.trans h0_) (by decide), Q_G5, Q_G6, fun h0_ h1_ => (Q_B5 h0_ h1_), fun h0_ => absurd ((hoff 12 (by kernel_rfl)).symm.trans h0_) (by decide), fun h0_ h1_ => (Q_B6 h0_ h1_), fun h0_ => absurd ((hoff 13 (by kernel_rfl)).symm.trans h0_) (by decide), Q_N56, Q_X4_, fun h0_ => absurd ((hoff 9 (by kernel_rfl)).symm.trans h0_) (by decide), Q_X10_, Q_X11_⟩
  refine qq ?_ ?_
  next =>
   rintro b a w' ⟨AP, cP, AS, cS, g5, g6, m4_, m9_, m10_, m11_, ha, Q_BT, Q_HB, Q_RP, Q_RS, Q_NPS, Q_G5, Q_G6, Q_B5, Q_B5v, Q_B6, Q_B6v, Q_N56, Q_X4_, Q_X9_, Q_X10_, Q_X11_⟩ hb_ hon hoff
   refine ⟨_, rfl, fun K hK => ?_⟩
   have e23 : a.tmps[23]? = some (.int .i64 (16 * (l0_0.length : Int))) := by rw [ha]; exact ZU (e := (8, 23, .int .i64 (16 * (l0_0.length : Int)))) 6 rfl rfl (hon 8 (by kernel_rfl)) rfl
   replace ha := zA.mk ha
   have BT := zA.mk Q_BT
   have HB := zA.mk Q_HB
   have RP := zA.mk (Q_RP (hon 4 (by kernel_rfl)))
   have N56 := zA.mk Q_N56
   refine QQ Try.func98 (by kernel_rfl) rfl #[.int .i64 (16 * (l0_0.length : Int))] (by rfl) rfl rfl (by first | (simp only [yiy, yjy, yky, Act.eval, Array.getD_eq_getD_getElem?, Option.getD_some, e23]; done) | (simp only [yiy, yjy, yky, Act.eval, Array.getD_eq_getD_getElem?, Option.getD_some, e23]; rfl)) ?_
   refine (qV.calls (16 * l0_0.length + 1) (16 * (l0_0.length : Int)) _ _ HCN.out).mono ?_
   rintro ed w2 ⟨v2, rfl, ho, hb⟩
   obtain ⟨A2, c2, rfl⟩ := Kd.qy ho
   refine ⟨_, rfl, ?_⟩
   refine hK.out _ _ ⟨AP, cP, A2, c2, g5, g6, m4_, (.slice A2 L16.length c2), m10_, m11_, (by rw [ha.out]; exact qx 7 hb_ rfl rfl rfl), zO BT.out hb, zM HB.out hb, fun _ => Kd.qK RP.out hb, fun _ => Kd.qp (Kd.Qo rfl ho) HB.out.size, fun _ => fun k h1 h2 => by have q1 := Kd.Qy RP.out k h1.symm; have q2 := Kd.Zi ho k h2.symm; omega, Q_G5, Q_G6, fun h0_ h1_ => zO (Q_B5 h0_ h1_) hb, fun h0_ => absurd ((hoff 12 (by kernel_rfl)).symm.trans h0_) (by decide), fun h0_ h1_ => zO (Q_B6 h0_ h1_) hb, fun h0_ => absurd ((hoff 13 (by kernel_rfl)).symm.trans h0_) (by decide), Q_N56, Q_X4_, fun _ => rfl, Q_X10_, Q_X11_⟩
  refine qq ?_ ?_
  next =>
   rintro b a w' ⟨AP, cP, AS, cS, g5, g6, m4_, m9_, m10_, m11_, ha, Q_BT, Q_HB, Q_RP, Q_RS, Q_NPS, Q_G5, Q_G6, Q_B5, Q_B5v, Q_B6, Q_B6v, Q_N56, Q_X4_, Q_X9_, Q_X10_, Q_X11_⟩ hb_ hon hoff
   refine ⟨_, rfl, fun K hK => ?_⟩
   replace ha := zA.mk ha
   have BT := zA.mk Q_BT
   have HB := zA.mk Q_HB
   have N56 := zA.mk Q_N56
   refine Ji (w1 := w'.alloc (.cells #[.slice none 0 0] 22)) (v := .pointer (some ⟨w'.heap.size, 0, none⟩)) (by rfl) rfl ?_ ?_
   next =>
    go_simp
    try rfl
   refine hK.out _ _ ⟨AP, cP, AS, cS, w'.heap.size, g6, m4_, m9_, (.pointer (some ⟨w'.heap.size, 0, none⟩)), m11_, (by rw [ha.out]; exact qx 8 hb_ rfl rfl rfl), zG BT.out _, zC HB.out _, fun h0_ => Kd.zR (Q_RP h0_) _, fun h0_ => Kd.zR (Q_RS h0_) _, Q_NPS, fun _ => HB.out.size, Q_G6, fun _ _ => Zq rfl _, fun h0_ => absurd ((hoff 12 (by kernel_rfl)).symm.trans h0_) (by decide), fun h0_ h1_ => zG (Q_B6 h0_ h1_) _, fun h0_ => absurd ((hoff 13 (by kernel_rfl)).symm.trans h0_) (by decide), fun _ h11_ e_ => absurd (qP (Q_B6 h11_ (hoff 13 (by kernel_rfl)))) (by rw [← e_]; exact Nat.lt_irrefl _), Q_X4_, Q_X9_, fun _ => rfl, Q_X11_⟩
  refine qq ?_ ?_
  next =>
   rintro b a w' ⟨AP, cP, AS, cS, g5, g6, m4_, m9_, m10_, m11_, ha, Q_BT, Q_HB, Q_RP, Q_RS, Q_NPS, Q_G5, Q_G6, Q_B5, Q_B5v, Q_B6, Q_B6v, Q_N56, Q_X4_, Q_X9_, Q_X10_, Q_X11_⟩ hb_ hon hoff
   refine ⟨_, rfl, fun K hK => ?_⟩
   replace ha := zA.mk ha
   have BT := zA.mk Q_BT
   have HB := zA.mk Q_HB
   have N56 := zA.mk Q_N56
   refine Ji (w1 := w'.alloc (.cells #[.slice none 0 0] 22)) (v := .pointer (some ⟨w'.heap.size, 0, none⟩)) (by rfl) rfl ?_ ?_
   next =>
    go_simp
    try rfl
   refine hK.out _ _ ⟨AP, cP, AS, cS, g5, w'.heap.size, m4_, m9_, m10_, (.pointer (some ⟨w'.heap.size, 0, none⟩)), (by rw [ha.out]; exact qx 9 hb_ rfl rfl rfl), zG BT.out _, zC HB.out _, fun h0_ => Kd.zR (Q_RP h0_) _, fun h0_ => Kd.zR (Q_RS h0_) _, Q_NPS, Q_G5, fun _ => HB.out.size, fun h0_ h1_ => zG (Q_B5 h0_ h1_) _, fun h0_ => absurd ((hoff 12 (by kernel_rfl)).symm.trans h0_) (by decide), fun _ _ => Zq rfl _, fun h0_ => absurd ((hoff 13 (by kernel_rfl)).symm.trans h0_) (by decide), fun h10_ _ e_ => absurd (qP (Q_B5 h10_ (hoff 12 (by kernel_rfl)))) (by rw [e_]; exact Nat.lt_irrefl _), Q_X4_, Q_X9_, Q_X10_, fun _ => rfl⟩
  refine qq ?_ ?_
  next =>
   rintro b a w' ⟨AP, cP, AS, cS, g5, g6, m4_, m9_, m10_, m11_, ha, Q_BT, Q_HB, Q_RP, Q_RS, Q_NPS, Q_G5, Q_G6, Q_B5, Q_B5v, Q_B6, Q_B6v, Q_N56, Q_X4_, Q_X9_, Q_X10_, Q_X11_⟩ hb_ hon hoff
   refine ⟨_, rfl, fun K hK => ?_⟩
   have e5 : a.tmps[5]? = some (m10_) := by rw [ha]; exact ZU (e := (10, 5, m10_)) 8 rfl rfl (hon 10 (by kernel_rfl)) rfl
   rw [Q_X10_ (hon 10 (by kernel_rfl))] at e5
   have e19 : a.tmps[19]? = some (m4_) := by rw [ha]; exact ZU (e := (4, 19, m4_)) 3 rfl rfl (hon 4 (by kernel_rfl)) rfl
   rw [Q_X4_ (hon 4 (by kernel_rfl))] at e19
   replace ha := zA.mk ha
   have BT := zA.mk Q_BT
   have HB := zA.mk Q_HB
   have RP := zA.mk (Q_RP (hon 4 (by kernel_rfl)))
   have RS := zA.mk (Q_RS (hon 9 (by kernel_rfl)))
   have NPS := zA.mk (Q_NPS (hon 9 (by kernel_rfl)))
   have G5 := zA.mk (Q_G5 (hon 10 (by kernel_rfl)))
   have G6 := zA.mk (Q_G6 (hon 11 (by kernel_rfl)))
   have B5 := zA.mk (Q_B5 (hon 10 (by kernel_rfl)) hb_)
   have B6 := zA.mk (Q_B6 (hon 11 (by kernel_rfl)) (hoff 13 (by kernel_rfl)))
   have N56 := zA.mk Q_N56
   have hc5 : w'.cell? ⟨g5, 0, none⟩ = some (.slice none 0 0) := (zL B5.out 0).trans rfl
   have hf5 := zN B5.out 0
   refine skip_ (w1 := w'.setCell ⟨g5, 0, none⟩ (.slice AP L16.length cP)) (by rfl) rfl ?_ ?_
   next =>
    go_simp
    try rfl
   refine hK.out _ _ ⟨AP, cP, AS, cS, g5, g6, m4_, m9_, m10_, m11_, (by rw [ha.out]; exact zBZ (v := undef) rfl), qM (p := ⟨g5, 0, none⟩) BT.out (zE6 BT.out B5.out (by decide)) _, zF HB.out G5.out, fun _ => Kd.ZG (p := ⟨g5, 0, none⟩) RP.out (fun k hk e => zBt RP.out B5.out (by decide) (by have q_ : k = g5 := e; rw [← q_]; exact hk)) _, fun _ => Kd.ZG (p := ⟨g5, 0, none⟩) RS.out (fun k hk e => zBt RS.out B5.out (by decide) (by have q_ : k = g5 := e; rw [← q_]; exact hk)) _, Q_NPS, Q_G5, Q_G6, fun _ h1_ => absurd ((zAl b 12).symm.trans h1_) (by decide), fun _ => qZ B5.out 0 _ rfl, fun _ _ => qM (p := ⟨g5, 0, none⟩) B6.out (fun e => N56.out (hon 10 (by kernel_rfl)) (hon 11 (by kernel_rfl)) e.symm) _, fun h0_ => absurd ((hoff 13 (by kernel_rfl)).symm.trans h0_) (by decide), Q_N56, Q_X4_, Q_X9_, Q_X10_, Q_X11_⟩
  refine qq ?_ ?_
  next =>
   rintro b a w' ⟨AP, cP, AS, cS, g5, g6, m4_, m9_, m10_, m11_, ha, Q_BT, Q_HB, Q_RP, Q_RS, Q_NPS, Q_G5, Q_G6, Q_B5, Q_B5v, Q_B6, Q_B6v, Q_N56, Q_X4_, Q_X9_, Q_X10_, Q_X11_⟩ hb_ hon hoff
   refine ⟨_, rfl, fun K hK => ?_⟩
   have e6 : a.tmps[6]? = some (m11_) := by rw [ha]; exact ZU (e := (11, 6, m11_)) 9 rfl rfl (hon 11 (by kernel_rfl)) rfl
   rw [Q_X11_ (hon 11 (by kernel_rfl))] at e6
   have e24 : a.tmps[24]? = some (m9_) := by rw [ha]; exact ZU (e := (9, 24, m9_)) 7 rfl rfl (hon 9 (by kernel_rfl)) rfl
   rw [Q_X9_ (hon 9 (by kernel_rfl))] at e24
   replace ha := zA.mk ha
   have BT := zA.mk Q_BT
   have HB := zA.mk Q_HB
   have RP := zA.mk (Q_RP (hon 4 (by kernel_rfl)))
   have RS := zA.mk (Q_RS (hon 9 (by kernel_rfl)))
   have NPS := zA.mk (Q_NPS (hon 9 (by kernel_rfl)))
   have G5 := zA.mk (Q_G5 (hon 10 (by kernel_rfl)))
   have G6 := zA.mk (Q_G6 (hon 11 (by kernel_rfl)))
   have B5v := zA.mk (Q_B5v (hon 12 (by kernel_rfl)))
   have B6 := zA.mk (Q_B6 (hon 11 (by kernel_rfl)) hb_)
   have N56 := zA.mk Q_N56
   have hc6 : w'.cell? ⟨g6, 0, none⟩ = some (.slice none 0 0) := (zL B6.out 0).trans rfl
   have hf6 := zN B6.out 0
   refine skip_ (w1 := w'.setCell ⟨g6, 0, none⟩ (.slice AS L16.length cS)) (by rfl) rfl ?_ ?_
   next =>
    go_simp
    try rfl
   refine hK.out _ _ ⟨AP, cP, AS, cS, g5, g6, m4_, m9_, m10_, m11_, (by rw [ha.out]; exact zBZ (v := undef) rfl), qM (p := ⟨g6, 0, none⟩) BT.out (zE6 BT.out B6.out (by decide)) _, zF HB.out G6.out, fun _ => Kd.ZG (p := ⟨g6, 0, none⟩) RP.out (fun k hk e => zBt RP.out B6.out (by decide) (by have q_ : k = g6 := e; rw [← q_]; exact hk)) _, fun _ => Kd.ZG (p := ⟨g6, 0, none⟩) RS.out (fun k hk e => zBt RS.out B6.out (by decide) (by have q_ : k = g6 := e; rw [← q_]; exact hk)) _, Q_NPS, Q_G5, Q_G6, fun _ h1_ => absurd ((hon 12 (by kernel_rfl)).symm.trans h1_) (by decide), fun _ => qM (p := ⟨g6, 0, none⟩) B5v.out (N56.out (hon 10 (by kernel_rfl)) (hon 11 (by kernel_rfl))) _, fun _ h1_ => absurd ((zAl b 13).symm.trans h1_) (by decide), fun _ => qZ B6.out 0 _ rfl, Q_N56, Q_X4_, Q_X9_, Q_X10_, Q_X11_⟩
  exact zD9
 next =>
  rintro b a w' hall ⟨AP, cP, AS, cS, g5, g6, m4_, m9_, m10_, m11_, ha, Q_BT, Q_HB, Q_RP, Q_RS, Q_NPS, Q_G5, Q_G6, Q_B5, Q_B5v, Q_B6, Q_B6v, Q_N56, Q_X4_, Q_X9_, Q_X10_, Q_X11_⟩
  clear BT HB N56
  have hb1_ := hall 1 (by kernel_rfl)
  have hb2_ := hall 2 (by kernel_rfl)
  have hb3_ := hall 3 (by kernel_rfl)
  have hb4_ := hall 4 (by kernel_rfl)
  have hb6_ := hall 6 (by kernel_rfl)
  have hb7_ := hall 7 (by kernel_rfl)
  have hb8_ := hall 8 (by kernel_rfl)
  have hb9_ := hall 9 (by kernel_rfl)
  have hb10_ := hall 10 (by kernel_rfl)
  have hb11_ := hall 11 (by kernel_rfl)
  have hb12_ := hall 12 (by kernel_rfl)
  have hb13_ := hall 13 (by kernel_rfl)
  subst ha
  obtain rfl := Q_X4_ hb4_
  obtain rfl := Q_X9_ hb9_
  obtain rfl := Q_X10_ hb10_
  obtain rfl := Q_X11_ hb11_
  simp only [Zs, hb1_, hb2_, hb3_, hb4_, hb6_, hb7_, hb8_, hb9_, hb10_, hb11_, hb12_, hb13_, if_true, Act.put, yay, yby, ycy]
  have BT := zA.mk Q_BT
  clear Q_BT
  have HB := zA.mk Q_HB
  clear Q_HB
  have RP := zA.mk (Q_RP hb4_)
  clear Q_RP
  have RS := zA.mk (Q_RS hb9_)
  clear Q_RS
  have NPS := zA.mk (Q_NPS hb9_)
  clear Q_NPS
  have G5 := zA.mk (Q_G5 hb10_)
  clear Q_G5
  have G6 := zA.mk (Q_G6 hb11_)
  clear Q_G6
  clear Q_B5
  have B5v := zA.mk (Q_B5v hb12_)
  clear Q_B5v
  clear Q_B6
  have B6v := zA.mk (Q_B6v hb13_)
  clear Q_B6v
  have N56 := zA.mk Q_N56
  clear Q_N56
  clear hall hb1_ hb2_ hb3_ hb4_ hb6_ hb7_ hb8_ hb9_ hb10_ hb11_ hb12_ hb13_
  have HMZ : zA (g5 < w'.heap.size ∧ g6 < w'.heap.size) := ⟨qP B5v.out, qP B6v.out⟩
  have HI0 : zA (Jq w w.heap.size #[.slice A0_0 l0_0.length c0_0] g5 g6 w'.heap.size (16 * l0_0.length) (.slice AP L16.length cP) (.slice AS L16.length cS) (L16, L16) w') := ⟨⟨HB.out, B5v.out, B6v.out, BT.out, RP.out, RS.out, yry _, fun k hk => Kd.Qy RP.out k hk.symm, fun k hk => Kd.Qy RS.out k hk.symm, NPS.out, by rw [HL16.out]; exact Lib.qL _ _, by rw [HL16.out]; exact Lib.qL _ _⟩⟩
  have hT : w'.cell? ⟨w.heap.size, 0, none⟩ = some (.slice A0_0 l0_0.length c0_0) := (zL BT.out 0).trans rfl
  clear BT RP RS NPS G5 G6 B5v B6v N56 hHeld HB hT
  generalize hm2 : w'.heap.size = m2 at HI0 HMZ
  clear hm2
  have hT : w'.cell? ⟨w.heap.size, 0, none⟩ = some (.slice A0_0 l0_0.length c0_0) := (zL HI0.out.bT 0).trans rfl
  go_wp2_with fail
  refine (zC3.calls 100 _ Try.func100 (by kernel_rfl) rfl #[.pointer (some ⟨g6, 0, none⟩), .pointer (some ⟨g5, 0, none⟩)] l0_0 A0_0 c0_0 w _ (Jq w w.heap.size #[.slice A0_0 l0_0.length c0_0] g5 g6 m2 (16 * l0_0.length) (.slice AP L16.length cP) (.slice AS L16.length cS)) JU (L16, L16) (fun _ => 0) (4 * (l0_0.map List.length).sum) (fun _ _ _ _ => Nat.zero_le _) (Nat.le_of_eq (Nat.zero_add _)) (fun _ _ _ h hb => h.stays hb) (fun _ _ h => h.below) HR.out (fun r hr x hx hb => (HOK.out.2.2 r hr x hx hb).2) ?aS ?a0).mono ?_
  case aS => exact fun s W j f x hI hF hb _ => le_step HOK.out s W j f x hI hF hb
  case a0 => exact HI0.out
  rintro ed w4 ⟨rfl, hI⟩
  have HI := zA.mk (show Jq w w.heap.size #[.slice A0_0 l0_0.length c0_0] g5 g6 m2 (16 * l0_0.length) (.slice AP L16.length cP) (.slice AS L16.length cS) (Qe l0_0) w4 by rw [HL16.out] at hI ⊢; exact hI)
  have hT4 : w4.cell? ⟨w.heap.size, 0, none⟩ = some (.slice A0_0 l0_0.length c0_0) := (zL HI.out.bT 0).trans rfl
  clear hI hT HI0
  have hmm := @run_makeMap Try.prog
  have hT5 : ((w4.alloc (.map #[] 0)).alloc (.map #[] 0)).cell? ⟨w.heap.size, 0, none⟩ = some (.slice A0_0 l0_0.length c0_0) := ((zC (zC (ysy w4.heap.size w4) _) _).cell (yqy w4 _ hT4)).trans hT4
  go_wp2_with fail
  refine (zc.calls k A0_0 c0_0 l0_0 a1 cs _ (Kd.qI HR.out (zC (zC HI.out.below _) _)) HC.out HCR.out).mono ?_
  rintro ed w6 ⟨v7, rfl, ho, hb⟩
  have HO1 : zA (w6.ownsMap Try.prog 2 (plainElem Try.prog 4) w4.heap.size 0 (.map [])) := ⟨JV ((World.ownsMap_made w4 _ _ _).alloc _) hb⟩
  have HO2 : zA (w6.ownsMap Try.prog 2 (plainElem Try.prog 4) (w4.heap.size + 1) 0 (.map [])) := ⟨JV (by have q := World.ownsMap_made (H := Unit) (w4.alloc (.map #[] 0)) Try.prog 2 (plainElem Try.prog 4); rw [World.size_alloc] at q; exact q) hb⟩
  have HB6 := zA.mk (zM (zC (zC (ysy w4.heap.size w4) (.map #[] 0)) (.map #[] 0)) hb)
  have HS6 := zA.mk (Kd.qo (Kd.zFT ho) (ok' := fun k => w4.heap.size + 2 ≤ k) (fun k hk => by have := hk.2.1; rw [World.size_alloc, World.size_alloc] at this; omega))
  obtain ⟨A7, c7, ev⟩ := Kd.QW ho
  subst ev
  clear ho hb hT4 hT5 hmm
  have HG5 := zA.mk (show g5 < w4.heap.size ∧ g6 < w4.heap.size from ⟨qP HI.out.bP, qP HI.out.bS⟩)
  generalize World.heap (World.alloc (World.alloc w4 _) _) = hp0 at HS6
  generalize hgm : w4.heap.size = gm at *
  have HRR2 := HRR
  have HLP := zA.mk HI.out.lenP
  have HLS := zA.mk HI.out.lenS
  generalize Qe l0_0 = M at *
  obtain ⟨mP, mS⟩ := M
  have HR3 := zA.mk (show ((JN mP cs []).length : Int) - ((JN mS cs []).length : Int) + (cs.length : Int) = r from HRR.out)
  clear HRR HRR2
  have HQ : zA (JN mP (cs.drop 0) [] = JN mP cs [] ∧ JN mS (cs.drop 0) [] = JN mS cs []) := ⟨by rw [List.drop_zero]; exact ⟨rfl, rfl⟩⟩
  generalize JN mP cs [] = KP at HQ HR3
  generalize JN mS cs [] = KS at HQ HR3
  have HKY := zA.mk (Maps.int_keyed Try.underlying2 : Maps.Keyed Try.prog 2)
  go_wp2
  go_loopg [35] cs.length (fun gg v35 w' => ∃ (i : Nat) (kP kS : List Int) (D1 D2 : DataW Unit), i ≤ cs.length ∧ cs.length - i ≤ gg ∧ v35 = .int .i64 i ∧ zA (JN mP (cs.drop i) kP = KP ∧ JN mS (cs.drop i) kS = KS) ∧ zA (KeysOf kP D1 ∧ KeysOf kS D2) ∧ zA (w'.ownsMap Try.prog 2 (plainElem Try.prog 4) gm (4 * i) D1) ∧ zA (w'.ownsMap Try.prog 2 (plainElem Try.prog 4) (gm + 1) (4 * i) D2) ∧ zA (Below gm w4 w' ∧ Kept w6 w' (fun k => k = gm ∨ k = gm + 1)))
  case atStart => exact ⟨0, [], [], .map [], .map [], Nat.zero_le _, by omega, rfl, HQ, ⟨KeysOf.empty, KeysOf.empty⟩, HO1, HO2, ⟨HB6.out, Kept.refl _ _⟩⟩
  case round =>
   clear HQ HO1 HO2
   obtain ⟨i, kP, kS, D1, D2, hi, hg, rfl, HQ, HKS, HO1, HO2, HB⟩ := hrel
   by_cases hlt : i < cs.length
   rotate_left
   next =>
    obtain rfl : i = cs.length := by omega
    have HQ2 := HQ.out
    rw [List.drop_length, JN, JN] at HQ2
    obtain ⟨rfl, rfl⟩ := HQ2
    clear HQ
    have hs1 : Maps.size D1 = kP.length := HKS.out.1.size
    have hs2 : Maps.size D2 = kS.length := HKS.out.2.size
    have hb1 : kP.length ≤ 128 := by rw [← hs1]; exact Nat.le_trans HO1.out.size_le (by omega)
    have hb2 : kS.length ≤ 128 := by rw [← hs2]; exact Nat.le_trans HO2.out.size_le (by omega)
    have HC7 := zA.mk (Kd.ZO (Kd.zGq HS6.out HB.out.2 (fun k hk e => by omega)))
    go_wp2_with (first
     | (at_len; refine wpList_len_own _ rfl _ 103 rfl 2 4 Try.underlying103 _ gm (4 * cs.length) D1 rfl HO1.out ?_; rw [hs1])
     | (at_len; refine wpList_len_own _ rfl _ 103 rfl 2 4 Try.underlying103 _ (gm + 1) (4 * cs.length) D2 rfl HO2.out ?_; rw [hs2]))
    refine (Qp.calls _ _ cs (cs.length : Int) _ HC7.out.2.2 HC7.out.2.1 rfl).mono ?_
    rintro ed w9 ⟨rfl, hd⟩
    have HB9 := zA.mk (zM (zM HI.out.below (by rw [hgm]; exact HB.out.1)) (zx.below hd))
    have h32 : cs.length ≤ 32 := h32
    clear hd
    go_wp2
    go_ret
    exact ⟨by rw [← HR3.out]; rfl, HB9.out⟩
   have hltz : (i : Int) < (cs.length : Int) := by omega
   obtain ⟨ad1, A3, c3, e4, hy, hl3, hi3⟩ := zCU (Kd.ZO (Kd.zGq HS6.out HB.out.2 (fun k hk e => by omega))).2.2 (i : Int) (by omega) hltz
   subst e4
   rw [yny] at hy
   have ex : qf cs (i : Int) = cs[i] := by simp [qf, hlt]
   have hcc := HCS.out cs[i] (yoy hlt)
   have HQ2 := HQ.out
   rw [ypy hlt, JN, JN, ← ex] at HQ2
   rw [← ex] at hcc
   obtain ⟨hc2, ha0, ha1, hv0, hv1⟩ := hcc
   obtain ⟨ada, ea, hya⟩ := Kd.qz hi3 0 (by omega) (by omega)
   obtain ⟨adv, ev, hyv⟩ := Kd.qz hi3 1 (by omega) (by omega)
   subst ea
   obtain rfl : ada = adv := by injection ev
   clear ev hl3 hi3 ex HQ
   rw [hc2] at hy
   replace hya : wr.cell? ada = some (.int .i64 (rd (qf cs (i : Int)) 0)) := hya
   replace hyv : wr.cell? ⟨ada.block, ada.off + 1, none⟩ = some (.int .i64 (rd (qf cs (i : Int)) 1)) := hyv
   have HQ := zA.mk HQ2
   clear HQ2 hc2
   generalize rd (qf cs (i : Int)) 0 = a at *
   generalize rd (qf cs (i : Int)) 1 = v at *
   have p12 : (1 : Nat) < 2 := by omega
   have HCF : zA (∀ (W : World) (g : Nat), W.heap.size = g → Kd.C (Kd.int .i64) (W.alloc (.cells #[.int .i64 v] 2)) (some ⟨g, 0, none⟩) 1 [v]) := ⟨fun W g hg => by subst hg; exact (Kd.zo (show Kd.R (Kd.int .i64) 2 (W.alloc (.cells #[.int .i64 v] 2)) W.heap.size (fun _ => True) (.slice (some ⟨W.heap.size, 0, none⟩) 1 1) [v] from
    Kd.JZ ⟨by simp [zAU], .inr ⟨W.heap.size, 1, #[.int .i64 v], rfl, yry _, Zq rfl _, yry 1, by decide, rfl, rfl⟩⟩ (fun _ _ => trivial))).2.2⟩
   have HLM := zA.mk (show ∀ q ∈ JT [v], sm q from fun q hq => (QT hq).1)
   have hl4 : (JT [v]).length ≤ 4 := List.length_filter_le _ _
   generalize hLe : JT [v] = L at HQ HLM hl4
   have HLE := zA.mk (show Zj.f [v] = some L by rw [← hLe]; rfl)
   clear hLe
   go_wp2_with fail
   refine (Zj.calls _ 1 [v] L _ (HCF.out _ _ rfl) (yry 1) HLE.out).mono ?_
   rintro ed w7 ⟨v0, rfl, ho, hb⟩
   have hb7 : Below wr.heap.size wr w7 := zM (zC (ysy _ _) _) hb
   have hsz : wr.heap.size ≤ (wr.alloc (.cells #[.int .i64 v] 2)).heap.size := by rw [World.size_alloc]; omega
   have hgm2 : gm + 2 ≤ wr.heap.size := by
    obtain ⟨es, cl, h1⟩ := zC6 HO2.out
    have := (Array.getElem?_eq_some_iff.1 h1).1
    omega
   have HL : zA (Kd.R (Kd.int .i64) 2 w7 gm (fun k => gm + 2 ≤ k) v0 L) := ⟨Kd.qp (Kd.zt (Kd.Zm ho) (ok' := fun k => gm + 2 ≤ k) (fun k hk => Nat.le_trans hgm2 (Nat.le_trans hsz hk.2.1))) (by omega)⟩
   have HB7 := zA.mk (HB.out.1.trans (hb7.mono (show gm ≤ wr.heap.size by omega)))
   have HK7 := zA.mk (HB.out.2.below hb7)
   have HO17 := zA.mk (JV HO1.out hb7)
   have HO27 := zA.mk (JV HO2.out hb7)
   replace hya := (hb7.cell (yqy wr _ hya)).trans hya
   replace hyv := (hb7.cell (yqy wr _ hyv)).trans hyv
   have HYA := zA.mk hya
   have HYV := zA.mk hyv
   have HMS : zA (∀ k, (k = gm ∨ k = gm + 1) → ∃ es cl, w7.heap[k]? = some (.map es cl)) := ⟨fun k hk => by rcases hk with rfl | rfl; exact zC6 HO17.out; exact zC6 HO27.out⟩
   clear hy hya hyv ho hb hb7 hsz hgm2 HB HO1 HO2 HCF HLE
   obtain ⟨A8, c8, ev⟩ := Kd.qy HL.out
   subst ev
   have HV : zA (zAE mP (16 * a + 4 * v) (L.drop 0) kP = zAE mP (16 * a + 4 * v) L kP ∧ zAE mS (16 * a + 4 * v) (L.drop 0) kS = zAE mS (16 * a + 4 * v) L kS) := ⟨by rw [List.drop_zero]; exact ⟨rfl, rfl⟩⟩
   generalize zAE mP (16 * a + 4 * v) L kP = KP2 at HV HQ
   generalize zAE mS (16 * a + 4 * v) L kS = KS2 at HV HQ
   go_wp2
   go_loopg [45] L.length (fun gg v45 w' => ∃ (j : Nat) (kP kS : List Int) (D1 D2 : DataW Unit), j ≤ L.length ∧ L.length - j ≤ gg ∧ v45 = .int .i64 j ∧ zA (zAE mP (16 * a + 4 * v) (L.drop j) kP = KP2 ∧ zAE mS (16 * a + 4 * v) (L.drop j) kS = KS2) ∧ zA (KeysOf kP D1 ∧ KeysOf kS D2) ∧ zA (w'.ownsMap Try.prog 2 (plainElem Try.prog 4) gm (4 * i + j) D1) ∧ zA (w'.ownsMap Try.prog 2 (plainElem Try.prog 4) (gm + 1) (4 * i + j) D2) ∧ zA (Below gm w4 w' ∧ Kept w7 w' (fun k => k = gm ∨ k = gm + 1)))
   case atStart => exact ⟨0, kP, kS, D1, D2, Nat.zero_le _, by omega, rfl, HV, HKS, HO17, HO27, ⟨HB7.out, Kept.refl _ _⟩⟩
   case round =>
    clear HV HKS HO17 HO27
    obtain ⟨j, kP, kS, D1, D2, hj, hgj, rfl, HV, HKS, HO1, HO2, HB⟩ := hrel
    by_cases hlt2 : j < L.length
    rotate_left
    next =>
     obtain rfl : j = L.length := by omega
     have HV2 := HV.out
     rw [List.drop_length, zAE, zAE] at HV2
     obtain ⟨rfl, rfl⟩ := HV2
     clear HV
     go_wp2
     go_roundg (cs.length - (i + 1))
     case measure => omega
     case rel => exact ⟨i + 1, kP, kS, D1, D2, by omega, by omega, by go_num, HQ, HKS, ⟨HO1.out.mono (by omega)⟩, ⟨HO2.out.mono (by omega)⟩, ⟨HB.out.1, HK7.out.zEo HB.out.2 (fun k hk => .inl hk)⟩⟩
    have hltz2 : (j : Int) < (L.length : Int) := by omega
    obtain ⟨ad8, e8, hx8⟩ := Kd.qz (Kd.zo (Kd.Js HL.out HB.out.2 (fun k hk e => by omega))).2.2 (j : Int) (by omega) hltz2
    have ex : rd L (j : Int) = L[j] := by simp [rd, hlt2]
    rw [ex, yny] at hx8
    have hqm := HLM.out L[j] (yoy hlt2)
    have HV2 := HV.out
    rw [ypy hlt2, zAE, zAE] at HV2
    have HV := zA.mk HV2
    clear HV2 ex
    generalize L[j] = q at hx8 hqm HV
    obtain ⟨hq0, hq1⟩ := hqm
    have hya := zA9 HYA.out HB.out.2 HMS.out
    have hyv := zA9 HYV.out HB.out.2 HMS.out
    subst e8
    go_wp2
    go_quiet (fail)
    clear hya hyv hx8
    have hdr := zB (ysy wr.heap.size wr) nq
    have hgs0 : gm ≤ wr.heap.size := by
     obtain ⟨es, cl, h1⟩ := zC6 HO1.out
     exact Nat.le_of_lt (Array.getElem?_eq_some_iff.1 h1).1
    have HO13 := zA.mk (JV HO1.out hdr)
    have HO23 := zA.mk (JV HO2.out hdr)
    have HB3 := zA.mk (And.intro (HB.out.1.trans (hdr.mono hgs0)) (HB.out.2.below hdr))
    have hgs := Nat.le_trans hgs0 hdr.size
    clear HO1 HO2 HB hdr hgs0
    generalize wr.drewN nq = w3 at HO13 HO23 HB3 hgs ⊢
    have HMS3 : zA (∀ k, (k = gm ∨ k = gm + 1) → ∃ es cl, w3.heap[k]? = some (.map es cl)) := ⟨fun k hk => by rcases hk with rfl | rfl; exact zC6 HO13.out; exact zC6 HO23.out⟩
    have hI3 := HI.out.stays (by rw [hgm]; exact HB3.out.1)
    have h0 : 0 ≤ 16 * a + 4 * v + q := by omega
    have h1 : 16 * a + 4 * v + q < ((16 * l0_0.length : Nat) : Int) := by omega
    obtain ⟨id, hid⟩ := Int.eq_ofNat_of_zero_le h0
    rw [hid] at h1
    have hidn : id < 16 * l0_0.length := by omega
    have hL16 : L16.length = 16 * l0_0.length := by rw [HL16.out]; exact Lib.qL _ _
    obtain ⟨adP, eP, hxP⟩ := Kd.qz (Kd.zo hI3.rP).2.2 (id : Int) (by omega) (by rw [show mP.length = 16 * l0_0.length from HLP.out]; exact h1)
    obtain ⟨adS, eS, hxS⟩ := Kd.qz (Kd.zo hI3.rS).2.2 (id : Int) (by omega) (by rw [show mS.length = 16 * l0_0.length from HLS.out]; exact h1)
    rw [yny] at hxP hxS
    have hx5 : w3.cell? ⟨g5, 0, none⟩ = some (.slice AP L16.length cP) := (zL hI3.bP 0).trans rfl
    have hx6 : w3.cell? ⟨g6, 0, none⟩ = some (.slice AS L16.length cS) := (zL hI3.bS 0).trans rfl
    subst eP
    subst eS
    rw [hid] at HV ⊢
    have hm1 := HM1.out id (by rw [show mP.length = 16 * l0_0.length from HLP.out]; exact hidn)
    have hm2 := HM2.out id (by rw [show mS.length = 16 * l0_0.length from HLS.out]; exact hidn)
    have HKEY1 := zA.mk (Maps.keyOf_int_mk Try.underlying2 (zBC hm1.1 hm1.2))
    have HKEY2 := zA.mk (Maps.keyOf_int_mk Try.underlying2 (zBC hm2.1 hm2.2))
    replace hxP : w3.cell? (adP.add id) = some (.int .i64 (rd mP (id : Int))) := hxP
    replace hxS : w3.cell? (adS.add id) = some (.int .i64 (rd mS (id : Int))) := hxS
    generalize rd mP (id : Int) = x1 at hxP HKEY1 HV
    generalize rd mS (id : Int) = x2 at hxS HKEY2 HV
    have q1 := eq_true (show (id : Int) < (L16.length : Int) by rw [hL16]; exact h1)
    have q1n := eq_true (show id < L16.length by rw [hL16]; exact hidn)
    have hi32 : i < 32 := by omega
    have hj4 : j < 4 := by omega
    clear hI3 h0 h1 hid hidn hm1 hm2 hL16
    go_wp2_with (first | (at_mapUpdate; refine wpList_mapUpdate_own _ rfl _ _ _ 103 rfl 2 4 HKY.out Try.underlying103 _ gm (4 * i + j) D1 rfl HO13.out (by unfold maxLen; omega) _ _ _ rfl rfl HKEY1.out (.lit (.bool true)) [] (plainElem_bool Try.underlying4 true) ?_; intro w5 hown hgrow; have HO15 := zA.mk hown; have HO25 := zA.mk (HO23.out.kept hgrow (by simp)); have hK35 := Kept.zEB hgrow (Kept.refl w3 (fun k => k = gm ∨ k = gm + 1)) (fun e he => by cases he; exact .inl (.inl rfl)); have HB5 := zA.mk (And.intro (HB3.out.1.grown hgrow hgs (fun e he => by cases he; exact yry _)) (HB3.out.2.zEo hK35 (fun e he => .inl he))); have hgs5 := Nat.le_trans hgs hgrow.size; replace hx6 := zA9 hx6 hK35 HMS3.out; replace hxS := zA9 hxS hK35 HMS3.out; clear hown hgrow hK35 HO13 HO23 HB3 HMS3 hx5 hxP) | (at_mapUpdate; refine wpList_mapUpdate_own _ rfl _ _ _ 103 rfl 2 4 HKY.out Try.underlying103 _ (gm + 1) (4 * i + j) D2 rfl HO25.out (by unfold maxLen; omega) _ _ _ rfl rfl HKEY2.out (.lit (.bool true)) [] (plainElem_bool Try.underlying4 true) ?_; intro w8 hown hgrow; have HO28 := zA.mk hown; have HO18 := zA.mk (HO15.out.kept hgrow (by simp)); have hK58 := Kept.zEB hgrow (Kept.refl w5 (fun k => k = gm ∨ k = gm + 1)) (fun e he => by cases he; exact .inl (.inr rfl)); have HB8 := zA.mk (And.intro (HB5.out.1.grown hgrow hgs5 (fun e he => by cases he; exact Nat.le_succ _)) (HB5.out.2.zEo hK58 (fun e he => .inl he))); clear hown hgrow hK58 HO15 HO25 HB5 hx6 hxS))
    go_roundg (L.length - (j + 1))
    case measure => omega
    case rel => exact ⟨j + 1, zEP kP x1, zEP kS x2, _, _, by omega, by omega, by go_num, HV, ⟨HKS.out.1.put x1, HKS.out.2.put x2⟩, HO18, HO28, HB8⟩
def Zd.f (l0 : List Int) : Option Int := match l0 with
  | [] => none
  | x :: xs => some (xs.foldl mx x)
set_option maxHeartbeats 8000000 in
set_option maxRecDepth 100000 in
theorem Zd.calls (A0 : Option Addr) (c0 : Nat) (l0 : List Int) (r : Int) (w : World) (hr0 : Kd.C (Kd.int .i64) w A0 l0.length l0) (hc0 : l0.length ≤ c0) (h : Zd.f l0 = some r) :
    Calls Try.prog 119 #[.slice A0 l0.length c0] w fun e w' => e = .returned (.int .i64 r) ∧ zx w w' := by
  obtain ⟨x0, xs, rfl⟩ : ∃ x xs, l0 = x :: xs := by
    cases l0 with
    | nil => cases h
    | cons x xs => exact ⟨x, xs, rfl⟩
  have hr : xs.foldl mx x0 = r := yey h
  have hbig : (x0 :: xs).length ≤ 9223372036854775807 := hr0.2.1
  have HR := zA.mk hr0
  have HA : zA (((x0 :: xs).drop 1).foldl mx x0 = r) := ⟨hr⟩
  obtain ⟨ad, e1, hx⟩ := Kd.qz hr0 0 (by omega) (by simp)
  have hlen : 1 ≤ (x0 :: xs).length := by simp
  have ex : rd (x0 :: xs) 0 = x0 := by simp [rd]
  rw [ex] at hx
  replace hx : w.cell? ad = some (.int .i64 x0) := by have h2 := hx; rwa [show ad.add (Int.toNat 0) = ad from by cases ad; rfl] at h2
  clear hr h hr0 hc0 ex
  generalize x0 :: xs = l at *
  cases e1
  go_enter Try.func119, Try.ntmps119
  have b1 : decide ((l.length : Int) < 1) = false := yhy (by omega)
  go_wp2
  go_loopg [3, 4] l.length (fun gg v3 v4 w' => ∃ (i : Nat) (m : Int), 1 ≤ i ∧ i ≤ l.length ∧ l.length - i ≤ gg ∧ v3 = .int .i64 m ∧ v4 = .int .i64 i ∧ w' = w ∧ zA ((l.drop i).foldl mx m = r))
  case atStart => exact ⟨1, x0, yry _, hlen, by omega, rfl, rfl, rfl, HA⟩
  case round =>
    clear HA
    obtain ⟨i, m, h1, hi, hg, rfl, rfl, rfl, HA⟩ := hrel
    by_cases hlt : i < l.length
    · have hltz : (i : Int) < (l.length : Int) := by omega
      obtain ⟨ad2, e2, hy⟩ := Kd.qz HR.out (i : Int) (by omega) hltz
      have ex : rd l (i : Int) = l[i] := by simp [rd, hlt]
      rw [ex, yny] at hy
      have HA2 := HA.out
      rw [ypy hlt, List.foldl_cons] at HA2
      have HA3 := zA.mk HA2
      clear HA HA2 ex
      generalize l[i] = y at hy HA3
      cases e2
      by_cases hmy : m < y
      · have HA4 : zA ((l.drop (i + 1)).foldl mx y = r) := ⟨by have q := HA3.out; rwa [show mx m y = y from by unfold mx; exact if_pos hmy] at q⟩
        clear HA3
        go_wp2
        go_roundg (l.length - (i + 1))
        case measure => omega
        case rel => exact ⟨i + 1, y, by omega, by omega, by omega, rfl, by go_num, rfl, HA4⟩
      · have HA4 : zA ((l.drop (i + 1)).foldl mx m = r) := ⟨by have q := HA3.out; rwa [show mx m y = m from by unfold mx; exact if_neg hmy] at q⟩
        clear HA3
        have hmy2 : y ≤ m := by omega
        clear hmy
        go_wp2
        go_roundg (l.length - (i + 1))
        case measure => omega
        case rel => exact ⟨i + 1, m, by omega, by omega, by omega, rfl, by go_num, rfl, HA4⟩
    · obtain rfl : i = l.length := by omega
      have HA2 := HA.out
      rw [List.drop_length, List.foldl_nil] at HA2
      have HM := zA.mk HA2
      clear HA HA2
      go_wp2
      go_ret
      exact ⟨by rw [← HM.out]; rfl, 0, rfl⟩
def qu.f (l0 : List Int) : Option (Int) := if (l0.length : Int) = 0 then (some 0) else ((Zd.f l0).bind fun t101 => (some (wrap64 (t101 + 1))))
set_option maxHeartbeats 8000000 in
set_option maxRecDepth 100000 in
theorem qu.calls (A0 : Option Addr) (c0 : Nat) (l0 : List Int) (r : Int) (w : World) (hr0 : Kd.C (Kd.int .i64) w A0 l0.length l0) (hc0 : l0.length ≤ c0) (h : qu.f l0 = some r) :
    Calls Try.prog 87 #[.slice A0 l0.length c0] w fun e w' => e = .returned (.int .i64 r) ∧ zx w w' := by
  have HR0 := zA.mk hr0
  have HC0 := zA.mk hc0
  clear hr0 hc0
  have H : (if (l0.length : Int) = 0 then (some 0) else ((Zd.f l0).bind fun t101 => (some (wrap64 (t101 + 1))))) = some r := h
  clear h
  by_cases c2 : (l0.length : Int) = 0
  · rw [if_pos c2] at H
    have c2b0 : ((l0.length : Int) == 0) = true := beq_iff_eq.mpr c2
    have c2b1 : ((l0.length : Int) != 0) = false := bne_eq_false_iff_eq.mpr c2
    clear c2
    obtain rfl := yey H
    go_enter Try.func87, Try.ntmps87
    go_wp2
    go_ret
    exact ⟨by first | rfl | (simp; done) | (simp [*]; done), by repeat (first | exact zx.refl _ | apply zx.step)⟩
  · rw [if_neg c2] at H
    have c2b0 : ((l0.length : Int) == 0) = false := beq_eq_false_iff_ne.mpr c2
    have c2b1 : ((l0.length : Int) != 0) = true := bne_iff_ne.mpr c2
    have c2b2 : ¬ (l0 = []) := fun h_ => c2 (by rw [h_]; rfl)
    replace H := ydy.mp H
    obtain ⟨t101, A30, H⟩ := H
    replace H : (some (wrap64 (t101 + 1))) = some r := H
    have A3 := zA.mk A30
    clear A30
    obtain rfl := yey H
    go_enter Try.func87, Try.ntmps87
    go_wp2_with (first | ((with_reducible refine zZ (f := 119) rfl ?_); refine qQ (some 7) rfl rfl Try.func119 (by kernel_rfl) rfl #[.slice A0 l0.length c0] rfl (by (try simp only [yiy, yjy, yky]); first | done | rfl | (simp only [yly, ymy]; rfl)) ?_; (with_reducible refine (Zd.calls _ _ l0 t101 _ ?side1 ?side2 A3.out).mono ?_); (case side1 => repeat (first | exact HR0.out | (with_reducible refine Kd.qD ?_ _) | (with_reducible refine Kd.qE ?_ _) | (with_reducible refine Kd.qN ?_))); (case side2 => exact HC0.out); rintro e w' ⟨rfl, ⟨nd, rfl⟩⟩; refine ⟨_, rfl, ?_⟩))
    go_ret
    exact ⟨by first | rfl | (simp; done) | (simp [*]; done), by repeat (first | exact zx.refl _ | apply zx.step)⟩
def qg.f (a0 : Int) (a1 : Int) (a2 : Int) : Option (Bool) := if a1 ≤ a0 then (some (decide (a0 ≤ a2))) else (some false)
set_option maxHeartbeats 8000000 in
set_option maxRecDepth 100000 in
theorem qg.calls (a0 : Int) (a1 : Int) (a2 : Int) (r : Bool) (w : World) (h : qg.f a0 a1 a2 = some r) :
    Calls Try.prog 86 #[.int .i64 a0, .int .i64 a1, .int .i64 a2] w fun e w' => e = .returned (.bool r) ∧ zx w w' := by
  have H : (if a1 ≤ a0 then (some (decide (a0 ≤ a2))) else (some false)) = some r := h
  clear h
  by_cases c4 : a1 ≤ a0
  · rw [if_pos c4] at H
    have c4b0 : decide (a1 ≤ a0) = true := ygy c4
    clear c4
    obtain rfl := yey H
    go_enter Try.func86, Try.ntmps86
    go_wp2
    go_ret
    exact ⟨by first | rfl | (simp; done) | (simp [*]; done), by repeat (first | exact zx.refl _ | apply zx.step)⟩
  · rw [if_neg c4] at H
    have c4b0 : decide (a1 ≤ a0) = false := yhy c4
    clear c4
    obtain rfl := yey H
    go_enter Try.func86, Try.ntmps86
    go_wp2
    go_ret
    exact ⟨by first | rfl | (simp; done) | (simp [*]; done), by repeat (first | exact zx.refl _ | apply zx.step)⟩
theorem eqA75 (d : Nat) (w : World) (x0 y0 : Int) (x1 y1 : Int) :
    (Op.equalIn (d + 2) 75 (.agg #[.int .i64 x0, .int .i64 x1]) (.agg #[.int .i64 y0, .int .i64 y1])).run Try.prog w = .ok (x0 == y0 && (x1 == y1)) w := by
  refine eqA_of Try.underlying75 (by kernel_rfl) ?_
  refine zGX (by rfl) (by go_simp; rfl) (by go_simp; rfl) (by go_simp) ?_
  exact zGW (by rfl) (by go_simp; rfl) (by go_simp; rfl) (by go_simp)
end Go.Proofs.Ytembbpalgfikiaa.P
