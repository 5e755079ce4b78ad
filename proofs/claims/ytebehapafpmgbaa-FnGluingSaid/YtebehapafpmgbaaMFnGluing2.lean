/- The statement FnGluingSaid, proved: part 2 of 8 (texts of this session and of the kit's print, put together and cut to what is used by a program of it). -/
import Derived.Test.YtebehapafpmgbaaMFnGluing1
import Derived.Test.YtebehapafpmgbaaProg
import Derived.Below
import Derived.Deep.Draws
import Derived.Deep.AppendLies
import Derived.Maps.AppendAt
import Derived.OwnWalk
import Derived.Laws.BytesArg
import Derived.Laws.MakeOwn
import Derived.Laws.OwnMore
import Derived.Deep.OwnRows
import Derived.Tactics
import Derived.Lib.ConvBytes
import Derived.Laws.Slices
import Derived.WalkKit
import Derived.KernelRfl
import Derived.RowKit3
import Derived.Deep.LoopGhost
import Derived.Deep.QuietTactic
import Derived.BigQuiet
import Derived.WideLaws
import Derived.Deep.DeepCutAuto
import Derived.Deep.CutBlock
import Derived.Deep.RegionHeld3
import Derived.Laws.Rows
import Derived.Lib.AppendStr
import Derived.ArgAppend
import Derived.Laws.IdiomCopy
import Derived.OrdersHeld
import Derived.Laws.BitsLemmas
import Derived.RowKit
import Derived.Shelf.SlicesG.Delete
import Derived.Ground.SlgnProg
import Derived.Sort.Row
import Derived.Lib.SliceRun
import Derived.WalkSpells
namespace Go.Proofs.Ytebehapafpmgbaa
abbrev yay := @List.setIfInBounds_toArray
abbrev yby := @List.set_cons_zero
abbrev ycy := @List.set_cons_succ
abbrev ydy := @Option.bind_eq_some_iff
abbrev yey := @Option.some.inj
abbrev yfy := @Option.bind_some
abbrev ygy := @decide_eq_true
abbrev yhy := @decide_eq_false
abbrev yiy := @List.map_toArray
abbrev yjy := @List.map_cons
abbrev yky := @List.map_nil
abbrev yly := @List.length_drop
abbrev ymy := @List.length_take
abbrev yny := @Go.World.block_lt_of_cell?
abbrev yoy := @Nat.le_refl
end Go.Proofs.Ytebehapafpmgbaa
namespace Go.Proofs.Ytebehapafpmgbaa.P
open Go.RowKit Go.Proofs.YtebehapafpmgbaaW.PrintWords Go.Proofs.YtebehapafpmgbaaW.PrintLast Go.Proofs.YtebehapafpmgbaaW.PrintMore
attribute [local go_sem] max2_int min2_int max_two min_two max_three min_three max_four min_four   -- for this text's walks alone
set_option linter.unusedVariables false
set_option linter.unusedSimpArgs false
def errW : Option Int → Value
  | none => .nilIface
  | some c => .iface 0 (.int .i64 c)
theorem errW_none : errW none = .nilIface := rfl
theorem errW_some (c : Int) : errW (some c) = .iface 0 (.int .i64 c) := rfl
theorem info2 : (Try.prog.info? 2).map (fun i => (i.zero, i.size, i.bytes)) = some (some (.int .i64 0), 1, 8) := by kernel_rfl
theorem info44 : (Try.prog.info? 44).map (fun i => (i.zero, i.size, i.bytes)) = some (some (.slice none 0 0), 1, 24) := by kernel_rfl
theorem info47 : (Try.prog.info? 47).map (fun i => (i.zero, i.size, i.bytes)) = some (some (.agg #[(.int .i64 0), (.int .i64 0)]), 2, 16) := by kernel_rfl
theorem info48 : (Try.prog.info? 48).map (fun i => (i.zero, i.size, i.bytes)) = some (some (.slice none 0 0), 1, 24) := by kernel_rfl
-- the values' own types
/-! #### struct type 83 -/
/-! #### struct type 47 -/
structure SFace where
  f0 : Int
  f1 : Int
def zFace : SFace := ⟨(0 : Int), (0 : Int)⟩
def kFace : Kd SFace := Kd.iso (Kd.pair (Kd.int .i64) (Kd.int .i64)) (fun x : SFace => (x.f0, x.f1))
theorem kFace_open {w : World} {x : SFace} {cs : List Value} (h : kFace.K w x cs) : cs = [.int .i64 x.f0, .int .i64 x.f1] := by
  obtain ⟨_, _, rfl, rfl, rfl⟩ := h
  exact rfl
theorem kFace_openM {w : World} {base : Nat} {ok : Nat → Prop} {x : SFace} {cs : List Value} (h : kFace.M w base ok x cs) : cs = [.int .i64 x.f0, .int .i64 x.f1] := by
  obtain ⟨_, _, rfl, rfl, rfl⟩ := h
  exact rfl
theorem kFace_mkM (w : World) (base : Nat) (ok : Nat → Prop) (x : SFace)  : kFace.M w base ok x [.int .i64 x.f0, .int .i64 x.f1] := ⟨[.int .i64 x.f0], [.int .i64 x.f1], rfl, rfl, rfl⟩
def rd_Face (xs : List SFace) (i : Int) : SFace := xs.getD i.toNat zFace
theorem at_Face {w : World} {A : Option Addr} {n : Nat} {xs : List SFace} (h : Kd.C kFace w A n xs) (i : Int) (h0 : 0 ≤ i) (h1 : i < n) : ∃ ad , A = some ad ∧ w.cell? (ad.add (i.toNat * 2)) = some (.int .i64 (rd_Face xs i).f0) ∧ w.cell? ⟨(ad.add (i.toNat * 2)).block, (ad.add (i.toNat * 2)).off + 1, none⟩ = some (.int .i64 (rd_Face xs i).f1) := by
  obtain ⟨ad, c, e, _, hK, hc0⟩ := Kd.C_get h zFace i h0 h1
  have hc : ∀ j u, c[j]? = some u → w.cell? (ad.add (i.toNat * 2 + j)) = some u := hc0
  obtain rfl := kFace_open hK
  exact ⟨ad, e, hc 0 _ rfl, by rw [← add_field _ _ 1 (by omega)]; exact hc 1 _ rfl⟩
def rd_LFace (xs : List (List SFace)) (i : Int) : (List SFace) := xs.getD i.toNat ([] : List SFace)
theorem at_LFace {w : World} {A : Option Addr} {n : Nat} {xs : List (List SFace)} (h : Kd.C (Kd.slice 47 kFace) w A n xs) (i : Int) (h0 : 0 ≤ i) (h1 : i < n) : ∃ ad A0 c0, A = some ad ∧ w.cell? (ad.add i.toNat) = some (.slice A0 (rd_LFace xs i).length c0) ∧ (rd_LFace xs i).length ≤ c0 ∧ kFace.C w A0 (rd_LFace xs i).length (rd_LFace xs i) := by
  obtain ⟨ad, c, e, _, hK, hc0⟩ := Kd.C_get h ([] : List SFace) i h0 h1
  have hc : ∀ j u, c[j]? = some u → w.cell? (ad.add (i.toNat * 1 + j)) = some u := hc0
  obtain ⟨A0, c0, rfl, l0, g0⟩ := hK
  exact ⟨ad, A0, c0, e, by have hq := hc 0 _ rfl; rwa [Nat.mul_one, Nat.add_zero] at hq, l0, g0⟩
/-! #### struct type 30 -/
/-! ### impl_gluings: function 31 -/
def impl_gluings.l0 : Nat → Int → Int → Int → Option (Int)
  | 0, _, _, _ => none
  | k + 1, x3, x5, x6 => if x6 < x5 then (impl_gluings.l0 k (wrap64 (x3 * 6)) x5 (wrap64 (x6 + 1))) else (some x3)
def impl_gluings.f (k : Nat) (a0 : Int) : Option (Int) := impl_gluings.l0 k 1 (wrap64 (2 * a0)) 0
theorem impl_gluings.mono_l : ∀ k, (∀ y0 y1 y2, LeO (impl_gluings.l0 k y0 y1 y2) (impl_gluings.l0 (k + 1) y0 y1 y2))
  | 0 => fun _ _ _ r h => by simp [impl_gluings.l0] at h
  | k + 1 => by
    have ih0 := impl_gluings.mono_l k
    · intro y0 y1 y2
      unfold impl_gluings.l0
      repeat' first
      | (with_reducible exact ih0 _ _ _)
      | (with_reducible exact LeO.refl _)
      | (with_reducible exact LeO.none _)
      | (with_reducible refine LeO.ite ?_ ?_)
      | (with_reducible refine LeO.bind ?_ (fun _ => ?_))
      | exact ih0 _ _ _
      | exact LeO.none _
      | refine LeO.ite ?_ ?_
      | refine LeO.bind ?_ (fun _ => ?_)
theorem impl_gluings.mono : ∀ a0 k, LeO (impl_gluings.f k a0) (impl_gluings.f (k + 1) a0) := by
  intro a0 k
  have ih0 := impl_gluings.mono_l k
  unfold impl_gluings.f
  repeat' first
      | (with_reducible exact ih0 _ _ _)
      | (with_reducible exact LeO.refl _)
      | (with_reducible exact LeO.none _)
      | (with_reducible refine LeO.ite ?_ ?_)
      | (with_reducible refine LeO.bind ?_ (fun _ => ?_))
      | exact ih0 _ _ _
      | exact LeO.none _
      | refine LeO.ite ?_ ?_
      | refine LeO.bind ?_ (fun _ => ?_)
set_option maxHeartbeats 8000000 in
set_option maxRecDepth 100000 in
theorem impl_gluings.calls (k : Nat) (a0 : Int) (r : Int) (w : World) (h : impl_gluings.f k a0 = some r) :
    Calls Try.prog 31 #[.int .i64 a0] w fun e w' => e = .returned (.int .i64 r) ∧ Drawn0 w w' := by
  have H : (impl_gluings.l0 k 1 (wrap64 (2 * a0)) 0) = some r := h
  clear h
  have H' := Aside0.mk H
  clear H
  go_enter Try.func31, Try.ntmps31
  go_wp2
  go_loopg [3, 6] k (fun kq v3 v6 w' => ∃ (x3_1 : Int) (x6_1 : Int), v3 = .int .i64 x3_1 ∧ v6 = .int .i64 x6_1 ∧ Aside0 (impl_gluings.l0 kq x3_1 (wrap64 (2 * a0)) x6_1 = some r) ∧ Aside0 (kq ≤ k) ∧ Drawn0 w w')
  case atStart => exact ⟨(1), (0), (by first | rfl | (simp; done) | (simp [*]; done)), (by first | rfl | (simp; done) | (simp [*]; done)), H', ⟨yoy _⟩, by repeat (first | exact Drawn0.refl _ | apply Drawn0.step)⟩
  case round =>
    clear H'
    obtain ⟨x3_1, x6_1, rfl, rfl, HA, HK1, ⟨m1, rfl⟩⟩ := hrel
    cases gk with
    | zero => exact absurd HA.out (by simp [impl_gluings.l0])
    | succ k1 =>
      have H := HA.out
      clear HA
      simp only [impl_gluings.l0] at H
      by_cases c2 : x6_1 < (wrap64 (2 * a0))
      · rw [if_pos c2] at H
        have c2b0 : decide (x6_1 < (wrap64 (2 * a0))) = true := ygy c2
        clear c2
        have H' := Aside0.mk H
        clear H
        go_wp2
        go_roundg k1
        case measure => have := HK1.out; omega
        case rel => exact ⟨(wrap64 (x3_1 * 6)), (wrap64 (x6_1 + 1)), (by first | rfl | (simp; done) | (simp [*]; done)), (by first | rfl | (simp; done) | (simp [*]; done)), H', ⟨by have := HK1.out; omega⟩, by repeat (first | exact Drawn0.refl _ | apply Drawn0.step)⟩
      · rw [if_neg c2] at H
        have c2b0 : decide (x6_1 < (wrap64 (2 * a0))) = false := yhy c2
        clear c2
        obtain rfl := yey H
        go_wp2
        go_ret
        exact ⟨by first | rfl | (simp; done) | (simp [*]; done), by repeat (first | exact Drawn0.refl _ | apply Drawn0.step)⟩
/-! ### impl_inRange: function 37 -/
def impl_inRange.f (a0 : Int) (a1 : Int) (a2 : Int) : Option (Bool) := if a1 ≤ a0 then (some (decide (a0 ≤ a2))) else (some false)
set_option maxHeartbeats 8000000 in
set_option maxRecDepth 100000 in
theorem impl_inRange.calls (a0 : Int) (a1 : Int) (a2 : Int) (r : Bool) (w : World) (h : impl_inRange.f a0 a1 a2 = some r) :
    Calls Try.prog 37 #[.int .i64 a0, .int .i64 a1, .int .i64 a2] w fun e w' => e = .returned (.bool r) ∧ Drawn0 w w' := by
  have H : (if a1 ≤ a0 then (some (decide (a0 ≤ a2))) else (some false)) = some r := h
  clear h
  by_cases c4 : a1 ≤ a0
  · rw [if_pos c4] at H
    have c4b0 : decide (a1 ≤ a0) = true := ygy c4
    clear c4
    obtain rfl := yey H
    go_enter Try.func37, Try.ntmps37
    go_wp2
    go_ret
    exact ⟨by first | rfl | (simp; done) | (simp [*]; done), by repeat (first | exact Drawn0.refl _ | apply Drawn0.step)⟩
  · rw [if_neg c4] at H
    have c4b0 : decide (a1 ≤ a0) = false := yhy c4
    clear c4
    obtain rfl := yey H
    go_enter Try.func37, Try.ntmps37
    go_wp2
    go_ret
    exact ⟨by first | rfl | (simp; done) | (simp [*]; done), by repeat (first | exact Drawn0.refl _ | apply Drawn0.step)⟩
/-! ### impl_matchings: function 57 -/
def impl_matchings.l0 : Nat → Int → Int → Option (Int)
  | 0, _, _ => none
  | k + 1, x3, x4 => if x4 > 1 then (impl_matchings.l0 k (wrap64 (x3 * x4)) (wrap64 (x4 - 2))) else (some x3)
def impl_matchings.f (k : Nat) (a0 : Int) : Option (Int) := impl_matchings.l0 k 1 (wrap64 (a0 - 1))
theorem impl_matchings.mono_l : ∀ k, (∀ y0 y1, LeO (impl_matchings.l0 k y0 y1) (impl_matchings.l0 (k + 1) y0 y1))
  | 0 => fun _ _ r h => by simp [impl_matchings.l0] at h
  | k + 1 => by
    have ih0 := impl_matchings.mono_l k
    · intro y0 y1
      unfold impl_matchings.l0
      repeat' first
      | (with_reducible exact ih0 _ _)
      | (with_reducible exact LeO.refl _)
      | (with_reducible exact LeO.none _)
      | (with_reducible refine LeO.ite ?_ ?_)
      | (with_reducible refine LeO.bind ?_ (fun _ => ?_))
      | exact ih0 _ _
      | exact LeO.none _
      | refine LeO.ite ?_ ?_
      | refine LeO.bind ?_ (fun _ => ?_)
theorem impl_matchings.mono : ∀ a0 k, LeO (impl_matchings.f k a0) (impl_matchings.f (k + 1) a0) := by
  intro a0 k
  have ih0 := impl_matchings.mono_l k
  unfold impl_matchings.f
  repeat' first
      | (with_reducible exact ih0 _ _)
      | (with_reducible exact LeO.refl _)
      | (with_reducible exact LeO.none _)
      | (with_reducible refine LeO.ite ?_ ?_)
      | (with_reducible refine LeO.bind ?_ (fun _ => ?_))
      | exact ih0 _ _
      | exact LeO.none _
      | refine LeO.ite ?_ ?_
      | refine LeO.bind ?_ (fun _ => ?_)
set_option maxHeartbeats 8000000 in
set_option maxRecDepth 100000 in
theorem impl_matchings.calls (k : Nat) (a0 : Int) (r : Int) (w : World) (h : impl_matchings.f k a0 = some r) :
    Calls Try.prog 57 #[.int .i64 a0] w fun e w' => e = .returned (.int .i64 r) ∧ Drawn0 w w' := by
  have H : (impl_matchings.l0 k 1 (wrap64 (a0 - 1))) = some r := h
  clear h
  have H' := Aside0.mk H
  clear H
  go_enter Try.func57, Try.ntmps57
  go_wp2
  go_loopg [3, 4] k (fun kq v3 v4 w' => ∃ (x3_1 : Int) (x4_1 : Int), v3 = .int .i64 x3_1 ∧ v4 = .int .i64 x4_1 ∧ Aside0 (impl_matchings.l0 kq x3_1 x4_1 = some r) ∧ Aside0 (kq ≤ k) ∧ Drawn0 w w')
  case atStart => exact ⟨(1), (wrap64 (a0 - 1)), (by first | rfl | (simp; done) | (simp [*]; done)), (by first | rfl | (simp; done) | (simp [*]; done)), H', ⟨yoy _⟩, by repeat (first | exact Drawn0.refl _ | apply Drawn0.step)⟩
  case round =>
    clear H'
    obtain ⟨x3_1, x4_1, rfl, rfl, HA, HK1, ⟨m1, rfl⟩⟩ := hrel
    cases gk with
    | zero => exact absurd HA.out (by simp [impl_matchings.l0])
    | succ k1 =>
      have H := HA.out
      clear HA
      simp only [impl_matchings.l0] at H
      by_cases c2 : x4_1 > 1
      · rw [if_pos c2] at H
        have c2b0 : decide (1 < x4_1) = true := ygy c2
        clear c2
        have H' := Aside0.mk H
        clear H
        go_wp2
        go_roundg k1
        case measure => have := HK1.out; omega
        case rel => exact ⟨(wrap64 (x3_1 * x4_1)), (wrap64 (x4_1 - 2)), (by first | rfl | (simp; done) | (simp [*]; done)), (by first | rfl | (simp; done) | (simp [*]; done)), H', ⟨by have := HK1.out; omega⟩, by repeat (first | exact Drawn0.refl _ | apply Drawn0.step)⟩
      · rw [if_neg c2] at H
        have c2b0 : decide (1 < x4_1) = false := yhy c2
        clear c2
        obtain rfl := yey H
        go_wp2
        go_ret
        exact ⟨by first | rfl | (simp; done) | (simp [*]; done), by repeat (first | exact Drawn0.refl _ | apply Drawn0.step)⟩
/-! ### impl_GluingCount: function 38 -/
def impl_GluingCount.f (k : Nat) (a0 : Int) : Option (Int) := (impl_inRange.f a0 1 4).bind fun t101 => (if t101 = true then ((impl_matchings.f k (wrap64 (4 * a0))).bind fun t102 => ((impl_gluings.f k a0).bind fun t103 => (some (wrap64 (t102 * t103))))) else (some (-1)))
theorem impl_GluingCount.mono : ∀ a0 k, LeO (impl_GluingCount.f k a0) (impl_GluingCount.f (k + 1) a0) := by
  intro a0 k
  unfold impl_GluingCount.f
  repeat' first
      | (with_reducible exact impl_gluings.mono _ _)
      | (with_reducible exact impl_matchings.mono _ _)
      | (with_reducible exact LeO.refl _)
      | (with_reducible exact LeO.none _)
      | (with_reducible refine LeO.ite ?_ ?_)
      | (with_reducible refine LeO.bind ?_ (fun _ => ?_))
      | exact impl_gluings.mono _ _
      | exact impl_matchings.mono _ _
      | exact LeO.none _
      | refine LeO.ite ?_ ?_
      | refine LeO.bind ?_ (fun _ => ?_)
set_option maxHeartbeats 8000000 in
set_option maxRecDepth 100000 in
theorem impl_GluingCount.calls (k : Nat) (a0 : Int) (r : Int) (w : World) (h : impl_GluingCount.f k a0 = some r) :
    Calls Try.prog 38 #[.int .i64 a0] w fun e w' => e = .returned (.int .i64 r) ∧ Drawn0 w w' := by
  have H : ((impl_inRange.f a0 1 4).bind fun t101 => (if t101 = true then ((impl_matchings.f k (wrap64 (4 * a0))).bind fun t102 => ((impl_gluings.f k a0).bind fun t103 => (some (wrap64 (t102 * t103))))) else (some (-1)))) = some r := h
  clear h
  replace H := ydy.mp H
  obtain ⟨t101, A20, H⟩ := H
  replace H : (if t101 = true then ((impl_matchings.f k (wrap64 (4 * a0))).bind fun t102 => ((impl_gluings.f k a0).bind fun t103 => (some (wrap64 (t102 * t103))))) else (some (-1))) = some r := H
  have A2 := Aside0.mk A20
  clear A20
  by_cases c3 : t101 = true
  · subst c3
    have H1 : ((impl_matchings.f k (wrap64 (4 * a0))).bind fun t102 => ((impl_gluings.f k a0).bind fun t103 => (some (wrap64 (t102 * t103))))) = some r := by rw [if_pos rfl] at H; exact H
    clear H
    have H := H1
    clear H1
    replace H := ydy.mp H
    obtain ⟨t102, A40, H⟩ := H
    replace H : ((impl_gluings.f k a0).bind fun t103 => (some (wrap64 (t102 * t103)))) = some r := H
    have A4 := Aside0.mk A40
    clear A40
    replace H := ydy.mp H
    obtain ⟨t103, A50, H⟩ := H
    replace H : (some (wrap64 (t102 * t103))) = some r := H
    have A5 := Aside0.mk A50
    clear A50
    obtain rfl := yey H
    go_enter Try.func38, Try.ntmps38
    go_wp2_with (first | ((with_reducible refine gate_callee (f := 37) rfl ?_); refine goesL_ (some 4) rfl rfl Try.func37 (by kernel_rfl) rfl #[.int .i64 a0, .int .i64 1, .int .i64 4] rfl (by (try simp only [yiy, yjy, yky]); first | done | rfl | (simp only [yly, ymy]; rfl)) ?_; (with_reducible refine (impl_inRange.calls a0 1 4 true _ A2.out).mono ?_); rintro e w' ⟨rfl, ⟨nd, rfl⟩⟩; refine ⟨_, rfl, ?_⟩) | ((with_reducible refine gate_callee (f := 57) rfl ?_); refine goesL_ (some 8) rfl rfl Try.func57 (by kernel_rfl) rfl #[.int .i64 (wrap64 (4 * a0))] rfl (by (try simp only [yiy, yjy, yky]); first | done | rfl | (simp only [yly, ymy]; rfl)) ?_; (with_reducible refine (impl_matchings.calls k (wrap64 (4 * a0)) t102 _ A4.out).mono ?_); rintro e w' ⟨rfl, ⟨nd, rfl⟩⟩; refine ⟨_, rfl, ?_⟩) | ((with_reducible refine gate_callee (f := 31) rfl ?_); refine goesL_ (some 10) rfl rfl Try.func31 (by kernel_rfl) rfl #[.int .i64 a0] rfl (by (try simp only [yiy, yjy, yky]); first | done | rfl | (simp only [yly, ymy]; rfl)) ?_; (with_reducible refine (impl_gluings.calls k a0 t103 _ A5.out).mono ?_); rintro e w' ⟨rfl, ⟨nd, rfl⟩⟩; refine ⟨_, rfl, ?_⟩))
    go_ret
    exact ⟨by first | rfl | (simp; done) | (simp [*]; done), by repeat (first | exact Drawn0.refl _ | apply Drawn0.step)⟩
  · replace c3 := Bool.eq_false_iff.mpr c3
    subst c3
    have H1 : (some (-1)) = some r := by rw [if_neg (show ¬ (false = true) by decide)] at H; exact H
    clear H
    have H := H1
    clear H1
    obtain rfl := yey H
    go_enter Try.func38, Try.ntmps38
    go_wp2_with (first | ((with_reducible refine gate_callee (f := 37) rfl ?_); refine goesL_ (some 4) rfl rfl Try.func37 (by kernel_rfl) rfl #[.int .i64 a0, .int .i64 1, .int .i64 4] rfl (by (try simp only [yiy, yjy, yky]); first | done | rfl | (simp only [yly, ymy]; rfl)) ?_; (with_reducible refine (impl_inRange.calls a0 1 4 false _ A2.out).mono ?_); rintro e w' ⟨rfl, ⟨nd, rfl⟩⟩; refine ⟨_, rfl, ?_⟩))
    go_ret
    exact ⟨by first | rfl | (simp; done) | (simp [*]; done), by repeat (first | exact Drawn0.refl _ | apply Drawn0.step)⟩
/-! slices.Delete at []int64, for one element of a row of the call's own: the shelf's contract, laid here, in the words of this seat. -/
def lDelete_ren : Go.Shelf.Ren := ⟨fun | 45 => 58 | n => n, fun | 22 => 44 | 23 => 2 | 3 => 3 | 4 => 4 | 0 => 0 | n => n, fun | n => n⟩
theorem lDelete : Go.Proofs.SlLaysN.n45 Try.prog lDelete_ren := {
  mixed := by kernel_rfl
  f45 := ⟨Try.f58.name, by decide, Try.func58.trans (congrArg some (by kernel_rfl))⟩
  t0 := Try.underlying0
  a0 := Try.isAgg0
  z0 := Try.sizeOf0
  v0 := Try.zeroValue0
  t3 := Try.underlying3
  a3 := Try.isAgg3
  z3 := Try.sizeOf3
  v3 := Try.zeroValue3
  t4 := Try.underlying4
  a4 := Try.isAgg4
  z4 := Try.sizeOf4
  v4 := Try.zeroValue4
  t22 := Try.underlying44
  a22 := Try.isAgg44
  z22 := Try.sizeOf44
  v22 := Try.zeroValue44
  t23 := Try.underlying2
  a23 := Try.isAgg2
  z23 := Try.sizeOf2
  v23 := Try.zeroValue2
  i23 := by kernel_rfl }
theorem erase_eq (xs : List Int) (i : Nat) : xs.take i ++ xs.drop (i + 1) = xs.eraseIdx i := (List.eraseIdx_eq_take_drop_succ xs i).symm
theorem slices_Delete_int64.calls1 (g cap i : Nat) (xs : List Int) (base : Nat) (ok : Nat → Prop) (w : World) (ho : Kd.R (Kd.int .i64) 2 w base ok (.slice (some ⟨g, 0, none⟩) xs.length cap) xs) (hi : i < xs.length) :
    Calls Try.prog 58 #[.slice (some ⟨g, 0, none⟩) xs.length cap, .int .i64 i, .int .i64 (i + 1)] w fun e w' => e = .returned (.slice (some ⟨g, 0, none⟩) (xs.length - 1) cap) ∧
      Kd.R (Kd.int .i64) 2 w' base ok (.slice (some ⟨g, 0, none⟩) (xs.length - 1) cap) (xs.eraseIdx i) ∧ w.grownBy w' (some g) := by
  have hown := Kd.own_of_R ho
  rcases hown.2 with ⟨hv, _⟩ | ⟨g', cap', cur, hv, hbase, hh, hle, hmax, hcs, htake⟩
  · cases hv
  injection hv with hv1 _ hv3
  injection hv1 with hv1
  injection hv1 with hv1 _ _
  subst hv1 hv3
  rw [Nat.mul_one] at hcs htake
  have hcell : ∀ j, j < xs.length → w.cell? ⟨g, 0 + j, none⟩ = some (.int .i64 xs[j]!) := by
    intro j hj
    rw [Nat.zero_add]
    have h1 : cur.toList[j]? = some (.int .i64 xs[j]!) := by
      have h2 : (cur.toList.take xs.length)[j]? = some (.int .i64 xs[j]!) := by
        rw [htake, encs, List.getElem?_map, List.getElem?_eq_getElem hj]
        simp [getElem!_pos, hj]
      rw [List.getElem?_take, if_pos hj] at h2
      exact h2
    rw [blk_cell hh j, ← Array.getElem?_toList, h1]
  have hH : Go.Sort.Holds (Value.int .i64) w g 0 xs.toArray := by
    intro j hj
    have hj' : j < xs.length := by simpa using hj
    refine ⟨?_, by rw [Nat.zero_add]; exact blk_frozen hh j⟩
    rw [hcell j hj']
    simp [getElem!_pos, hj']
  have hc := AnyG.slices_Delete_int lDelete g 0 cap i (i + 1) xs w hH hle (by unfold maxLen at hmax; omega) (by omega) (by omega)
  have hc2 : Calls Try.prog 58 #[.slice (some ⟨g, 0, none⟩) xs.length cap, .int .i64 (i : Nat), .int .i64 ((i + 1 : Nat) : Int)] w fun e w' => e = .returned (.slice (some ⟨g, 0, none⟩) (xs.length - (i + 1 - i)) cap) ∧ ∃ q, w' = Go.Sort.putRow (Value.int .i64) (Go.Sort.ahead w q) g 0 (xs.take i ++ xs.drop (i + 1) ++ List.replicate (i + 1 - i) 0).toArray := hc
  refine hc2.mono ?_
  rintro e w' ⟨rfl, q, rfl⟩
  have hlen : (xs.eraseIdx i).length = xs.length - 1 := by rw [List.length_eraseIdx]; simp [hi]
  have hd : xs.take i ++ xs.drop (i + 1) ++ List.replicate (i + 1 - i) 0 = xs.eraseIdx i ++ [0] := by
    rw [erase_eq, show i + 1 - i = 1 by omega]; rfl
  rw [hd, show i + 1 - i = 1 by omega]
  have hheap : (Go.Sort.putRow (Value.int .i64) (Go.Sort.ahead w q) g 0 (xs.eraseIdx i ++ [0]).toArray).heap[g]? = some (.cells (Go.Sort.putCells (Value.int .i64) 0 (xs.eraseIdx i ++ [0]).toArray cur) 2 (0, 0)) := by
    show (w.heap.modify g _)[g]? = _
    rw [Array.getElem?_modify, if_pos rfl, hh]
    rfl
  have hfar : ∀ k, k ≠ g → (Go.Sort.putRow (Value.int .i64) (Go.Sort.ahead w q) g 0 (xs.eraseIdx i ++ [0]).toArray).heap[k]? = w.heap[k]? := by
    intro k hk
    show (w.heap.modify g _)[k]? = _
    rw [Array.getElem?_modify, if_neg (Ne.symm hk)]
  refine ⟨rfl, ?_, ⟨rfl, rfl, rfl, ?_, fun k _ hk => hfar k (fun e => hk (by rw [e]))⟩⟩
  · have e1 : xs.length - 1 = (xs.eraseIdx i).length := hlen.symm
    rw [e1]
    refine Kd.R_of_own ⟨by simp [encs], .inr ⟨g, cap, _, rfl, hbase, hheap, by omega, hmax, by simp [Go.Sort.putCells, hcs], ?_⟩⟩ (fun k hk => ho.1 k hk)
    rw [Nat.mul_one]
    apply List.ext_getElem?
    intro j
    rw [List.getElem?_take]
    by_cases hj : j < (xs.eraseIdx i).length
    · rw [if_pos hj, Array.getElem?_toList, Go.Sort.putCells, Array.getElem?_mapIdx, Array.getElem?_eq_getElem (by omega), Option.map_some, if_pos ⟨by omega, by simp; omega⟩, Nat.sub_zero, encs, List.getElem?_map, List.getElem?_eq_getElem hj, Option.map_some]
      congr 2
      rw [List.getElem!_toArray, getElem!_pos _ j (by simp; omega), List.getElem_append_left hj]
    · rw [if_neg hj, List.getElem?_eq_none (by simp [encs]; omega)]
  · show w.heap.size ≤ (w.heap.modify g _).size
    rw [Array.size_modify]
    omega
/-! impl.perm: the images of the permutation with an index. -/
/-- The blocks by which the digits of an index are told. -/
def permB : Nat → Int
 | 0 => 6
 | 1 => 2
 | _ => 1
def permP (p : Int) : Nat → Int
 | 0 => p
 | i + 1 => permP p i % permB i
def permK (p : Int) (i : Nat) : Int := permP p i / permB i
def permLeft (p : Int) : Nat → List Int
 | 0 => [0, 1, 2, 3]
 | i + 1 => (permLeft p i).eraseIdx (permK p i).toNat
def permAt (p : Int) (i : Nat) : Int := (permLeft p i).getD (permK p i).toNat 0
/-- The images. -/
def permL (p : Int) : List Int := [permAt p 0, permAt p 1, permAt p 2, permAt p 3]
theorem permP_bd (p : Int) (h0 : 0 ≤ p) (h1 : p ≤ 23) : (0 ≤ permP p 0 ∧ permP p 0 ≤ 23) ∧ (0 ≤ permP p 1 ∧ permP p 1 ≤ 5) ∧ (0 ≤ permP p 2 ∧ permP p 2 ≤ 1) ∧ (0 ≤ permP p 3 ∧ permP p 3 ≤ 0) := by
 simp only [permP, permB]; omega
theorem permK_bd (p : Int) (h0 : 0 ≤ p) (h1 : p ≤ 23) : (0 ≤ permK p 0 ∧ permK p 0 < 4) ∧ (0 ≤ permK p 1 ∧ permK p 1 < 3) ∧ (0 ≤ permK p 2 ∧ permK p 2 < 2) ∧ (0 ≤ permK p 3 ∧ permK p 3 < 1) := by
 have := permP_bd p h0 h1
 simp only [permK, permB]; omega
theorem permLeft_len (p : Int) (h0 : 0 ≤ p) (h1 : p ≤ 23) : (permLeft p 0).length = 4 ∧ (permLeft p 1).length = 3 ∧ (permLeft p 2).length = 2 ∧ (permLeft p 3).length = 1 ∧ (permLeft p 4).length = 0 := by
 obtain ⟨a, b, c, d⟩ := permK_bd p h0 h1
 have e0 : (permLeft p 0).length = 4 := rfl
 have e1 : (permLeft p 1).length = 3 := by rw [permLeft, List.length_eraseIdx, e0, if_pos (by omega)]
 have e2 : (permLeft p 2).length = 2 := by rw [permLeft, List.length_eraseIdx, e1, if_pos (by omega)]
 have e3 : (permLeft p 3).length = 1 := by rw [permLeft, List.length_eraseIdx, e2, if_pos (by omega)]
 have e4 : (permLeft p 4).length = 0 := by rw [permLeft, List.length_eraseIdx, e3, if_pos (by omega)]
 exact ⟨e0, e1, e2, e3, e4⟩
theorem new_at {W : World} {n : Nat} (h : W.heap.size = n) (o : Obj) : (W.alloc o).heap[n]? = some o := h ▸ blk_new W o
/-- A value of the array after i rounds. -/
def permO (p : Int) (i j : Nat) : Int := if j < i then permAt p j else 0
set_option maxHeartbeats 8000000 in
set_option maxRecDepth 100000 in
theorem impl_perm.calls (p : Int) (w : World) (h0 : 0 ≤ p) (h1 : p ≤ 23) :
 Calls Try.prog 52 #[.int .i64 p] w fun e w' => e = .returned (.agg #[.int .i64 (permAt p 0), .int .i64 (permAt p 1), .int .i64 (permAt p 2), .int .i64 (permAt p 3)]) ∧ Below w.heap.size w w' := by
 have HP := Aside0.mk (permP_bd p h0 h1)
 have HK := Aside0.mk (permK_bd p h0 h1)
 have HL := Aside0.mk (permLeft_len p h0 h1)
 clear h0 h1
 go_enter Try.func52, Try.ntmps52
 go_wp2_with fail
 go_loopg [0, 4, 11] 4 (fun gg v0 v4 v11 w' => ∃ i : Nat, i ≤ 4 ∧ 4 - i ≤ gg ∧ v11 = .int .i64 i ∧ v0 = .int .i64 (permP p i) ∧ v4 = .slice (some ⟨w.heap.size + 1 + 1, 0, none⟩) (permLeft p i).length 4 ∧
  Aside0 (Kd.R (Kd.int .i64) 2 w' w.heap.size (fun k => k = w.heap.size + 1 + 1) (.slice (some ⟨w.heap.size + 1 + 1, 0, none⟩) (permLeft p i).length 4) (permLeft p i)) ∧
  Aside0 (w'.heap[w.heap.size + 1]? = some (.cells #[.int .i64 (permO p i 0), .int .i64 (permO p i 1), .int .i64 (permO p i 2), .int .i64 (permO p i 3)] 69 (0, 0))) ∧
  Aside0 (w'.heap[w.heap.size]? = some (.cells #[.int .i64 0, .int .i64 0, .int .i64 0, .int .i64 0] 69 (0, 0))) ∧
  Aside0 (w'.heap[w.heap.size + 1 + 1 + 1]? = some (.cells #[.int .i64 6, .int .i64 2, .int .i64 1, .int .i64 1] 2 (0, 0))) ∧ Aside0 (Below w.heap.size w w'))
 case atStart =>
  refine ⟨0, by omega, by omega, rfl, rfl, rfl, ⟨?_⟩, ⟨?_⟩, ⟨?_⟩, ⟨?_⟩, ⟨?_⟩⟩
  next =>
   refine Kd.R_of_own ⟨by simp [encs], .inr ⟨w.heap.size + 1 + 1, 4, #[.int .i64 0, .int .i64 1, .int .i64 2, .int .i64 3], rfl, by omega, ?_, yoy 4, by decide, rfl, rfl⟩⟩ (fun k hk => by simpa [Value.ownBlock] using hk.symm)
   exact blk_alloc (new_at (by simp) _) _
  next =>
   exact blk_alloc (blk_alloc (new_at (by simp) _) _) _
  next =>
   exact blk_alloc (blk_alloc (blk_alloc (new_at rfl _) _) _) _
  next =>
   exact new_at (by simp) _
  next =>
   exact below_alloc (below_alloc (below_alloc (below_alloc (Below.refl _ _) _) _) _) _
 case round =>
  obtain ⟨i, hi, hg, rfl, rfl, rfl, HR, B3, B2, B9, HB⟩ := hrel
  rcases (show i = 4 ∨ i = 3 ∨ i = 2 ∨ i = 1 ∨ i = 0 by omega) with rfl | rfl | rfl | rfl | rfl
  next =>
   have c0 : wr.cell? ⟨w.heap.size + 1, 0, none⟩ = some (.int .i64 (permO p 4 0)) := (blk_cell B3.out 0).trans rfl
   have c1 : wr.cell? ⟨w.heap.size + 1, 1, none⟩ = some (.int .i64 (permO p 4 1)) := (blk_cell B3.out 1).trans rfl
   have c2 : wr.cell? ⟨w.heap.size + 1, 2, none⟩ = some (.int .i64 (permO p 4 2)) := (blk_cell B3.out 2).trans rfl
   have c3 : wr.cell? ⟨w.heap.size + 1, 3, none⟩ = some (.int .i64 (permO p 4 3)) := (blk_cell B3.out 3).trans rfl
   have d0 : wr.cell? ⟨w.heap.size, 0, none⟩ = some (.int .i64 0) := (blk_cell B2.out 0).trans rfl
   have d1 : wr.cell? ⟨w.heap.size, 1, none⟩ = some (.int .i64 0) := (blk_cell B2.out 1).trans rfl
   have d2 : wr.cell? ⟨w.heap.size, 2, none⟩ = some (.int .i64 0) := (blk_cell B2.out 2).trans rfl
   have d3 : wr.cell? ⟨w.heap.size, 3, none⟩ = some (.int .i64 0) := (blk_cell B2.out 3).trans rfl
   have f0 := blk_frozen B2.out 0
   have f1 := blk_frozen B2.out 1
   have f2 := blk_frozen B2.out 2
   have f3 := blk_frozen B2.out 3
   have ht := Try.underlying69
   go_wp2
   refine bodyPost_ret (results_cell_row rfl _ _ w.heap.size 69 #[.int .i64 (permO p 4 0), .int .i64 (permO p 4 1), .int .i64 (permO p 4 2), .int .i64 (permO p 4 3)] (0, 0) _ rfl (blk_put (cs := #[.int .i64 (permO p 4 0), .int .i64 (permO p 4 1), .int .i64 (permO p 4 2), .int .i64 0]) (blk_put (cs := #[.int .i64 (permO p 4 0), .int .i64 (permO p 4 1), .int .i64 0, .int .i64 0]) (blk_put (cs := #[.int .i64 (permO p 4 0), .int .i64 0, .int .i64 0, .int .i64 0]) (blk_put B2.out 0 _ rfl) 1 _ rfl) 2 _ rfl) 3 _ rfl) ht rfl (by kernel_rfl)) rfl ⟨rfl, ?_⟩
   exact below_set (below_set (below_set (below_set HB.out (yoy _)) (yoy _)) (yoy _)) (yoy _)
  next =>
   have hK : 0 ≤ permK p 3 ∧ permK p 3 < (permLeft p 3).length := by have := HK.out; have := HL.out; omega
   have hP : 0 ≤ permP p 3 ∧ permP p 3 ≤ 23 := by have := HP.out; omega
   have HLN := Aside0.mk (show (permLeft p 3).length = 1 by have := HL.out; omega)
   have HLN2 := Aside0.mk (show (permLeft p 4).length = (permLeft p 3).length - 1 by have := HL.out; omega)
   obtain ⟨A1, q1, hA1, hq1, hC⟩ := Kd.R_reads HR.out
   injection hA1 with hA1 hl1 hc1
   subst hA1
   clear hl1 hc1 hq1
   obtain ⟨ad, had, hx⟩ := Kd.at_int hC (permK p 3) hK.1 (by omega)
   injection had with had
   subst had
   rw [add_plain] at hx
   have HAT := Aside0.mk (show rd (permLeft p 3) (permK p 3) = permAt p 3 from rfl)
   rw [HAT.out] at hx
   have HER := Aside0.mk (show (permLeft p 3).eraseIdx (permK p 3).toNat = permLeft p 4 from rfl)
   have hX : permK p 3 = permP p 3 := by have e : permK p 3 = permP p 3 / 1 := rfl; rw [e]; exact Int.ediv_one _
   have HY := Aside0.mk (show 0 = permP p 4 by have e : permP p 4 = permP p 3 % 1 := rfl; rw [e]; omega)
   rw [hX] at hx hK
   have HX := Aside0.mk hX
   clear hX hC
   obtain ⟨hk0, hk1⟩ := hK
   obtain ⟨hp0, hp1⟩ := hP
   have b9 : wr.cell? ⟨w.heap.size + 1 + 1 + 1, 3, none⟩ = some (.int .i64 1) := (blk_cell B9.out 3).trans rfl
   have b3 : wr.cell? ⟨w.heap.size + 1, 3, none⟩ = some (.int .i64 (permO p 3 3)) := (blk_cell B3.out 3).trans rfl
   have f3 := blk_frozen B3.out 3
   have hk2 : permP p 3 < 9223372036854775807 := by omega
   go_wp2_with fail
   have HRw := Aside0.mk (show Kd.R (Kd.int .i64) 2 (wr.setCell ⟨w.heap.size + 1, 3, none⟩ (.int .i64 (permAt p 3))) w.heap.size (fun k => k = w.heap.size + 1 + 1) (.slice (some ⟨w.heap.size + 1 + 1, 0, none⟩) (permLeft p 3).length 4) (permLeft p 3) from Kd.R_far (p := ⟨w.heap.size + 1, 3, none⟩) HR.out (fun k hk => by rw [hk]; show w.heap.size + 1 + 1 ≠ w.heap.size + 1; omega) _)
   refine calls_of_args (args' := #[.slice (some ⟨w.heap.size + 1 + 1, 0, none⟩) (permLeft p 3).length 4, .int .i64 ((permP p 3).toNat : Int), .int .i64 (((permP p 3).toNat : Int) + 1)]) (by rw [Int.toNat_of_nonneg hk0]) ?_
   refine (slices_Delete_int64.calls1 (w.heap.size + 1 + 1) 4 (permP p 3).toNat (permLeft p 3) w.heap.size (fun k => k = w.heap.size + 1 + 1) _ HRw.out (by omega)).mono ?_
   rintro e w1 ⟨rfl, hR1, hg1⟩
   have hl2 := HLN2.out
   have er : (permLeft p 3).eraseIdx (permP p 3).toNat = permLeft p 4 := by rw [← HER.out, HX.out]
   rw [er, ← hl2] at hR1
   rw [← hl2]
   have HR2 := Aside0.mk hR1
   have B3a : (wr.setCell ⟨w.heap.size + 1, 3, none⟩ (.int .i64 (permAt p 3))).heap[w.heap.size + 1]? = some (.cells #[.int .i64 (permO p 4 0), .int .i64 (permO p 4 1), .int .i64 (permO p 4 2), .int .i64 (permO p 4 3)] 69 (0, 0)) := blk_put B3.out 3 _ rfl
   have B3n := Aside0.mk (blk_grown B3a hg1 (by simp))
   have B2n := Aside0.mk (blk_grown (blk_far (p := ⟨w.heap.size + 1, 3, none⟩) B2.out (by show w.heap.size ≠ w.heap.size + 1; omega) (.int .i64 (permAt p 3))) hg1 (by simp; omega))
   have B9n := Aside0.mk (blk_grown (blk_far (p := ⟨w.heap.size + 1, 3, none⟩) B9.out (by show w.heap.size + 1 + 1 + 1 ≠ w.heap.size + 1; omega) (.int .i64 (permAt p 3))) hg1 (by simp))
   have HBn := Aside0.mk (pw_below_grown (below_set (j := 3) (v := .int .i64 (permAt p 3)) HB.out (show w.heap.size ≤ w.heap.size + 1 by omega)) (some (w.heap.size + 1 + 1)) (by have := HB.out.size; simp [World.setCell]; omega) hg1 (fun k hk => by injection hk with hk; omega))
   clear hR1 hg1 B3a HRw B3 B2 B9 HB HR er hl2 hx b9 b3 f3
   go_wp2
   go_roundg (4 - 4)
   case measure => omega
   case rel => exact ⟨4, by omega, by omega, by first | rfl | go_num, by rw [← HY.out], rfl, HR2, B3n, B2n, B9n, HBn⟩
  next =>
   have hK : 0 ≤ permK p 2 ∧ permK p 2 < (permLeft p 2).length := by have := HK.out; have := HL.out; omega
   have hP : 0 ≤ permP p 2 ∧ permP p 2 ≤ 23 := by have := HP.out; omega
   have HLN := Aside0.mk (show (permLeft p 2).length = 2 by have := HL.out; omega)
   have HLN2 := Aside0.mk (show (permLeft p 3).length = (permLeft p 2).length - 1 by have := HL.out; omega)
   obtain ⟨A1, q1, hA1, hq1, hC⟩ := Kd.R_reads HR.out
   injection hA1 with hA1 hl1 hc1
   subst hA1
   clear hl1 hc1 hq1
   obtain ⟨ad, had, hx⟩ := Kd.at_int hC (permK p 2) hK.1 (by omega)
   injection had with had
   subst had
   rw [add_plain] at hx
   have HAT := Aside0.mk (show rd (permLeft p 2) (permK p 2) = permAt p 2 from rfl)
   rw [HAT.out] at hx
   have HER := Aside0.mk (show (permLeft p 2).eraseIdx (permK p 2).toNat = permLeft p 3 from rfl)
   have hX : permK p 2 = permP p 2 := by have e : permK p 2 = permP p 2 / 1 := rfl; rw [e]; exact Int.ediv_one _
   have HY := Aside0.mk (show 0 = permP p 3 by have e : permP p 3 = permP p 2 % 1 := rfl; rw [e]; omega)
   rw [hX] at hx hK
   have HX := Aside0.mk hX
   clear hX hC
   obtain ⟨hk0, hk1⟩ := hK
   obtain ⟨hp0, hp1⟩ := hP
   have b9 : wr.cell? ⟨w.heap.size + 1 + 1 + 1, 2, none⟩ = some (.int .i64 1) := (blk_cell B9.out 2).trans rfl
   have b3 : wr.cell? ⟨w.heap.size + 1, 2, none⟩ = some (.int .i64 (permO p 2 2)) := (blk_cell B3.out 2).trans rfl
   have f3 := blk_frozen B3.out 2
   have hk2 : permP p 2 < 9223372036854775807 := by omega
   go_wp2_with fail
   have HRw := Aside0.mk (show Kd.R (Kd.int .i64) 2 (wr.setCell ⟨w.heap.size + 1, 2, none⟩ (.int .i64 (permAt p 2))) w.heap.size (fun k => k = w.heap.size + 1 + 1) (.slice (some ⟨w.heap.size + 1 + 1, 0, none⟩) (permLeft p 2).length 4) (permLeft p 2) from Kd.R_far (p := ⟨w.heap.size + 1, 2, none⟩) HR.out (fun k hk => by rw [hk]; show w.heap.size + 1 + 1 ≠ w.heap.size + 1; omega) _)
   refine calls_of_args (args' := #[.slice (some ⟨w.heap.size + 1 + 1, 0, none⟩) (permLeft p 2).length 4, .int .i64 ((permP p 2).toNat : Int), .int .i64 (((permP p 2).toNat : Int) + 1)]) (by rw [Int.toNat_of_nonneg hk0]) ?_
   refine (slices_Delete_int64.calls1 (w.heap.size + 1 + 1) 4 (permP p 2).toNat (permLeft p 2) w.heap.size (fun k => k = w.heap.size + 1 + 1) _ HRw.out (by omega)).mono ?_
   rintro e w1 ⟨rfl, hR1, hg1⟩
   have hl2 := HLN2.out
   have er : (permLeft p 2).eraseIdx (permP p 2).toNat = permLeft p 3 := by rw [← HER.out, HX.out]
   rw [er, ← hl2] at hR1
   rw [← hl2]
   have HR2 := Aside0.mk hR1
   have B3a : (wr.setCell ⟨w.heap.size + 1, 2, none⟩ (.int .i64 (permAt p 2))).heap[w.heap.size + 1]? = some (.cells #[.int .i64 (permO p 3 0), .int .i64 (permO p 3 1), .int .i64 (permO p 3 2), .int .i64 (permO p 3 3)] 69 (0, 0)) := blk_put B3.out 2 _ rfl
   have B3n := Aside0.mk (blk_grown B3a hg1 (by simp))
   have B2n := Aside0.mk (blk_grown (blk_far (p := ⟨w.heap.size + 1, 2, none⟩) B2.out (by show w.heap.size ≠ w.heap.size + 1; omega) (.int .i64 (permAt p 2))) hg1 (by simp; omega))
   have B9n := Aside0.mk (blk_grown (blk_far (p := ⟨w.heap.size + 1, 2, none⟩) B9.out (by show w.heap.size + 1 + 1 + 1 ≠ w.heap.size + 1; omega) (.int .i64 (permAt p 2))) hg1 (by simp))
   have HBn := Aside0.mk (pw_below_grown (below_set (j := 2) (v := .int .i64 (permAt p 2)) HB.out (show w.heap.size ≤ w.heap.size + 1 by omega)) (some (w.heap.size + 1 + 1)) (by have := HB.out.size; simp [World.setCell]; omega) hg1 (fun k hk => by injection hk with hk; omega))
   clear hR1 hg1 B3a HRw B3 B2 B9 HB HR er hl2 hx b9 b3 f3
   go_wp2
   go_roundg (4 - 3)
   case measure => omega
   case rel => exact ⟨3, by omega, by omega, by first | rfl | go_num, by rw [← HY.out], rfl, HR2, B3n, B2n, B9n, HBn⟩
  next =>
   have hK : 0 ≤ permK p 1 ∧ permK p 1 < (permLeft p 1).length := by have := HK.out; have := HL.out; omega
   have hP : 0 ≤ permP p 1 ∧ permP p 1 ≤ 23 := by have := HP.out; omega
   have HLN := Aside0.mk (show (permLeft p 1).length = 3 by have := HL.out; omega)
   have HLN2 := Aside0.mk (show (permLeft p 2).length = (permLeft p 1).length - 1 by have := HL.out; omega)
   obtain ⟨A1, q1, hA1, hq1, hC⟩ := Kd.R_reads HR.out
   injection hA1 with hA1 hl1 hc1
   subst hA1
   clear hl1 hc1 hq1
   obtain ⟨ad, had, hx⟩ := Kd.at_int hC (permK p 1) hK.1 (by omega)
   injection had with had
   subst had
   rw [add_plain] at hx
   have HAT := Aside0.mk (show rd (permLeft p 1) (permK p 1) = permAt p 1 from rfl)
   rw [HAT.out] at hx
   have HER := Aside0.mk (show (permLeft p 1).eraseIdx (permK p 1).toNat = permLeft p 2 from rfl)
   have hX : permK p 1 = permP p 1 / 2 := by have e : permK p 1 = permP p 1 / 2 := rfl; rw [e]
   have HY := Aside0.mk (show permP p 1 % 2 = permP p 2 by have e : permP p 2 = permP p 1 % 2 := rfl; rw [e])
   rw [hX] at hx hK
   have HX := Aside0.mk hX
   clear hX hC
   obtain ⟨hk0, hk1⟩ := hK
   obtain ⟨hp0, hp1⟩ := hP
   have b9 : wr.cell? ⟨w.heap.size + 1 + 1 + 1, 1, none⟩ = some (.int .i64 2) := (blk_cell B9.out 1).trans rfl
   have b3 : wr.cell? ⟨w.heap.size + 1, 1, none⟩ = some (.int .i64 (permO p 1 1)) := (blk_cell B3.out 1).trans rfl
   have f3 := blk_frozen B3.out 1
   have hk2 : permP p 1 / 2 < 9223372036854775807 := by omega
   go_wp2_with fail
   have HRw := Aside0.mk (show Kd.R (Kd.int .i64) 2 (wr.setCell ⟨w.heap.size + 1, 1, none⟩ (.int .i64 (permAt p 1))) w.heap.size (fun k => k = w.heap.size + 1 + 1) (.slice (some ⟨w.heap.size + 1 + 1, 0, none⟩) (permLeft p 1).length 4) (permLeft p 1) from Kd.R_far (p := ⟨w.heap.size + 1, 1, none⟩) HR.out (fun k hk => by rw [hk]; show w.heap.size + 1 + 1 ≠ w.heap.size + 1; omega) _)
   refine calls_of_args (args' := #[.slice (some ⟨w.heap.size + 1 + 1, 0, none⟩) (permLeft p 1).length 4, .int .i64 ((permP p 1 / 2).toNat : Int), .int .i64 (((permP p 1 / 2).toNat : Int) + 1)]) (by rw [Int.toNat_of_nonneg hk0]) ?_
   refine (slices_Delete_int64.calls1 (w.heap.size + 1 + 1) 4 (permP p 1 / 2).toNat (permLeft p 1) w.heap.size (fun k => k = w.heap.size + 1 + 1) _ HRw.out (by omega)).mono ?_
   rintro e w1 ⟨rfl, hR1, hg1⟩
   have hl2 := HLN2.out
   have er : (permLeft p 1).eraseIdx (permP p 1 / 2).toNat = permLeft p 2 := by rw [← HER.out, HX.out]
   rw [er, ← hl2] at hR1
   rw [← hl2]
   have HR2 := Aside0.mk hR1
   have B3a : (wr.setCell ⟨w.heap.size + 1, 1, none⟩ (.int .i64 (permAt p 1))).heap[w.heap.size + 1]? = some (.cells #[.int .i64 (permO p 2 0), .int .i64 (permO p 2 1), .int .i64 (permO p 2 2), .int .i64 (permO p 2 3)] 69 (0, 0)) := blk_put B3.out 1 _ rfl
   have B3n := Aside0.mk (blk_grown B3a hg1 (by simp))
   have B2n := Aside0.mk (blk_grown (blk_far (p := ⟨w.heap.size + 1, 1, none⟩) B2.out (by show w.heap.size ≠ w.heap.size + 1; omega) (.int .i64 (permAt p 1))) hg1 (by simp; omega))
   have B9n := Aside0.mk (blk_grown (blk_far (p := ⟨w.heap.size + 1, 1, none⟩) B9.out (by show w.heap.size + 1 + 1 + 1 ≠ w.heap.size + 1; omega) (.int .i64 (permAt p 1))) hg1 (by simp))
   have HBn := Aside0.mk (pw_below_grown (below_set (j := 1) (v := .int .i64 (permAt p 1)) HB.out (show w.heap.size ≤ w.heap.size + 1 by omega)) (some (w.heap.size + 1 + 1)) (by have := HB.out.size; simp [World.setCell]; omega) hg1 (fun k hk => by injection hk with hk; omega))
   clear hR1 hg1 B3a HRw B3 B2 B9 HB HR er hl2 hx b9 b3 f3
   go_wp2
   go_roundg (4 - 2)
   case measure => omega
   case rel => exact ⟨2, by omega, by omega, by first | rfl | go_num, by rw [← HY.out], rfl, HR2, B3n, B2n, B9n, HBn⟩
  next =>
   have hK : 0 ≤ permK p 0 ∧ permK p 0 < (permLeft p 0).length := by have := HK.out; have := HL.out; omega
   have hP : 0 ≤ permP p 0 ∧ permP p 0 ≤ 23 := by have := HP.out; omega
   have HLN := Aside0.mk (show (permLeft p 0).length = 4 by have := HL.out; omega)
   have HLN2 := Aside0.mk (show (permLeft p 1).length = (permLeft p 0).length - 1 by have := HL.out; omega)
   obtain ⟨A1, q1, hA1, hq1, hC⟩ := Kd.R_reads HR.out
   injection hA1 with hA1 hl1 hc1
   subst hA1
   clear hl1 hc1 hq1
   obtain ⟨ad, had, hx⟩ := Kd.at_int hC (permK p 0) hK.1 (by omega)
   injection had with had
   subst had
   rw [add_plain] at hx
   have HAT := Aside0.mk (show rd (permLeft p 0) (permK p 0) = permAt p 0 from rfl)
   rw [HAT.out] at hx
   have HER := Aside0.mk (show (permLeft p 0).eraseIdx (permK p 0).toNat = permLeft p 1 from rfl)
   have hX : permK p 0 = permP p 0 / 6 := by have e : permK p 0 = permP p 0 / 6 := rfl; rw [e]
   have HY := Aside0.mk (show permP p 0 % 6 = permP p 1 by have e : permP p 1 = permP p 0 % 6 := rfl; rw [e])
   rw [hX] at hx hK
   have HX := Aside0.mk hX
   clear hX hC
   obtain ⟨hk0, hk1⟩ := hK
   obtain ⟨hp0, hp1⟩ := hP
   have b9 : wr.cell? ⟨w.heap.size + 1 + 1 + 1, 0, none⟩ = some (.int .i64 6) := (blk_cell B9.out 0).trans rfl
   have b3 : wr.cell? ⟨w.heap.size + 1, 0, none⟩ = some (.int .i64 (permO p 0 0)) := (blk_cell B3.out 0).trans rfl
   have f3 := blk_frozen B3.out 0
   have hk2 : permP p 0 / 6 < 9223372036854775807 := by omega
   go_wp2_with fail
   have HRw := Aside0.mk (show Kd.R (Kd.int .i64) 2 (wr.setCell ⟨w.heap.size + 1, 0, none⟩ (.int .i64 (permAt p 0))) w.heap.size (fun k => k = w.heap.size + 1 + 1) (.slice (some ⟨w.heap.size + 1 + 1, 0, none⟩) (permLeft p 0).length 4) (permLeft p 0) from Kd.R_far (p := ⟨w.heap.size + 1, 0, none⟩) HR.out (fun k hk => by rw [hk]; show w.heap.size + 1 + 1 ≠ w.heap.size + 1; omega) _)
   refine calls_of_args (args' := #[.slice (some ⟨w.heap.size + 1 + 1, 0, none⟩) (permLeft p 0).length 4, .int .i64 ((permP p 0 / 6).toNat : Int), .int .i64 (((permP p 0 / 6).toNat : Int) + 1)]) (by rw [Int.toNat_of_nonneg hk0]) ?_
   refine (slices_Delete_int64.calls1 (w.heap.size + 1 + 1) 4 (permP p 0 / 6).toNat (permLeft p 0) w.heap.size (fun k => k = w.heap.size + 1 + 1) _ HRw.out (by omega)).mono ?_
   rintro e w1 ⟨rfl, hR1, hg1⟩
   have hl2 := HLN2.out
   have er : (permLeft p 0).eraseIdx (permP p 0 / 6).toNat = permLeft p 1 := by rw [← HER.out, HX.out]
   rw [er, ← hl2] at hR1
   rw [← hl2]
   have HR2 := Aside0.mk hR1
   have B3a : (wr.setCell ⟨w.heap.size + 1, 0, none⟩ (.int .i64 (permAt p 0))).heap[w.heap.size + 1]? = some (.cells #[.int .i64 (permO p 1 0), .int .i64 (permO p 1 1), .int .i64 (permO p 1 2), .int .i64 (permO p 1 3)] 69 (0, 0)) := blk_put B3.out 0 _ rfl
   have B3n := Aside0.mk (blk_grown B3a hg1 (by simp))
   have B2n := Aside0.mk (blk_grown (blk_far (p := ⟨w.heap.size + 1, 0, none⟩) B2.out (by show w.heap.size ≠ w.heap.size + 1; omega) (.int .i64 (permAt p 0))) hg1 (by simp; omega))
   have B9n := Aside0.mk (blk_grown (blk_far (p := ⟨w.heap.size + 1, 0, none⟩) B9.out (by show w.heap.size + 1 + 1 + 1 ≠ w.heap.size + 1; omega) (.int .i64 (permAt p 0))) hg1 (by simp))
   have HBn := Aside0.mk (pw_below_grown (below_set (j := 0) (v := .int .i64 (permAt p 0)) HB.out (show w.heap.size ≤ w.heap.size + 1 by omega)) (some (w.heap.size + 1 + 1)) (by have := HB.out.size; simp [World.setCell]; omega) hg1 (fun k hk => by injection hk with hk; omega))
   clear hR1 hg1 B3a HRw B3 B2 B9 HB HR er hl2 hx b9 b3 f3
   go_wp2
   go_roundg (4 - 1)
   case measure => omega
   case rel => exact ⟨1, by omega, by omega, by first | rfl | go_num, by rw [← HY.out], rfl, HR2, B3n, B2n, B9n, HBn⟩
/-! Arrays of four numbers. -/
theorem arr_index (a b c d : Int) (f : Int) (h0 : 0 ≤ f) (h1 : f ≤ 3) : ∀ w : World, (Instr.index 69 (.agg #[.int .i64 a, .int .i64 b, .int .i64 c, .int .i64 d]) (.int .i64 f)).run Try.prog w = .ok (.int .i64 (rd [a, b, c, d] f)) w := by
  intro w
  rcases (show f = 0 ∨ f = 1 ∨ f = 2 ∨ f = 3 by omega) with rfl | rfl | rfl | rfl
  · kernel_rfl
  · kernel_rfl
  · kernel_rfl
  · kernel_rfl
theorem arr_cell {w : World} {g : Nat} {T : TypeId} {a b c d : Int} (h : w.heap[g]? = some (.cells #[.int .i64 a, .int .i64 b, .int .i64 c, .int .i64 d] T (0, 0))) (f : Int) (h0 : 0 ≤ f) (h1 : f ≤ 3) : w.cell? ⟨g, f.toNat, none⟩ = some (.int .i64 (rd [a, b, c, d] f)) := by
  rw [blk_cell h]
  rcases (show f = 0 ∨ f = 1 ∨ f = 2 ∨ f = 3 by omega) with rfl | rfl | rfl | rfl <;> rfl
theorem arr_put {w : World} {g : Nat} {T : TypeId} {a b c d : Int} (h : w.heap[g]? = some (.cells #[.int .i64 a, .int .i64 b, .int .i64 c, .int .i64 d] T (0, 0))) (f v : Int) (h0 : 0 ≤ f) (h1 : f ≤ 3) :
    (w.setCell ⟨g, f.toNat, none⟩ (.int .i64 v)).heap[g]? = some (.cells #[.int .i64 (rd ([a, b, c, d].set f.toNat v) 0), .int .i64 (rd ([a, b, c, d].set f.toNat v) 1), .int .i64 (rd ([a, b, c, d].set f.toNat v) 2), .int .i64 (rd ([a, b, c, d].set f.toNat v) 3)] T (0, 0)) := by
  rcases (show f = 0 ∨ f = 1 ∨ f = 2 ∨ f = 3 by omega) with rfl | rfl | rfl | rfl
  · exact blk_put h 0 _ rfl
  · exact blk_put h 1 _ rfl
  · exact blk_put h 2 _ rfl
  · exact blk_put h 3 _ rfl
theorem new_at4 {W : World} {n : Nat} (h : W.heap.size = n) (o : Obj) : (W.alloc o).heap[n]? = some o := h ▸ blk_new W o
/-- A list of four numbers, written out. -/
theorem four_eq {l : List Int} (h : l.length = 4) : l = [rd l 0, rd l 1, rd l 2, rd l 3] := by
  match l, h with
  | [a, b, c, d], _ => rfl
/-! indexOf: the index of a permutation with given images. -/
/-- The element at i, less one for each of the first j that is smaller. -/
def lessAt (l : List Int) (i : Nat) : Nat → Int
  | 0 => rd l i
  | j + 1 => if rd l j < rd l i then lessAt l i j - 1 else lessAt l i j
def idxAt (l : List Int) : Nat → Int
  | 0 => 0
  | i + 1 => idxAt l i + lessAt l i i * permB i
def idxL (l : List Int) : Int := idxAt l 4
def sm (x : Int) : Prop := 0 ≤ x ∧ x ≤ 3
theorem lessAt_bd (l : List Int) (i : Nat) (h : sm (rd l i)) : ∀ j : Nat, -(j : Int) ≤ lessAt l i j ∧ lessAt l i j ≤ 3
  | 0 => by have := h.1; have := h.2; unfold lessAt; omega
  | j + 1 => by
    have := lessAt_bd l i h j
    unfold lessAt
    split <;> omega
set_option maxHeartbeats 8000000 in
set_option maxRecDepth 100000 in
theorem impl_indexOf.calls (a b c d : Int) (w : World) (ha : sm a) (hb : sm b) (hc : sm c) (hd : sm d) :
    Calls Try.prog 90 #[.agg #[.int .i64 a, .int .i64 b, .int .i64 c, .int .i64 d]] w fun e w' => e = .returned (.int .i64 (idxL [a, b, c, d])) ∧ Below w.heap.size w w' := by
  have hl0 : sm (rd [a, b, c, d] (0 : Nat)) := ha
  have hl1 : sm (rd [a, b, c, d] (1 : Nat)) := hb
  have hl2 : sm (rd [a, b, c, d] (2 : Nat)) := hc
  have hl3 : sm (rd [a, b, c, d] (3 : Nat)) := hd
  have HL := Aside0.mk (And.intro (lessAt_bd _ 0 hl0) (And.intro (lessAt_bd _ 1 hl1) (And.intro (lessAt_bd _ 2 hl2) (lessAt_bd _ 3 hl3))))
  have HS := Aside0.mk (And.intro hl0 (And.intro hl1 (And.intro hl2 hl3)))
  clear ha hb hc hd hl0 hl1 hl2 hl3
  generalize hl : [a, b, c, d] = l at HL HS ⊢
  have HLL := Aside0.mk hl
  clear hl
  go_enter Try.func90, Try.ntmps90
  go_wp2_with fail
  go_loopg [3, 11] 4 (fun gg v3 v11 w' => ∃ i : Nat, i ≤ 4 ∧ 4 - i ≤ gg ∧ v11 = .int .i64 i ∧ v3 = .int .i64 (idxAt l i) ∧ Aside0 (-24 * (i : Int) ≤ idxAt l i ∧ idxAt l i ≤ 24 * i) ∧
    Aside0 (w'.heap[w.heap.size]? = some (.cells #[.int .i64 a, .int .i64 b, .int .i64 c, .int .i64 d] 69 (0, 0))) ∧
    Aside0 (w'.heap[w.heap.size + 1]? = some (.cells #[.int .i64 6, .int .i64 2, .int .i64 1, .int .i64 1] 2 (0, 0))) ∧ Aside0 (Below w.heap.size w w'))
  case atStart =>
    refine ⟨0, by omega, by omega, rfl, rfl, ⟨by simp [idxAt]⟩, ⟨?_⟩, ⟨?_⟩, ⟨?_⟩⟩
    · exact blk_alloc (new_at4 rfl _) _
    · exact new_at4 (by simp) _
    · exact below_alloc (below_alloc (Below.refl _ _) _) _
  case round =>
    obtain ⟨i, hi, hg, rfl, rfl, HI, B1, B9, HB⟩ := hrel
    rcases (show i = 4 ∨ i = 3 ∨ i = 2 ∨ i = 1 ∨ i = 0 by omega) with rfl | rfl | rfl | rfl | rfl
    · go_wp2
      go_ret
      exact ⟨rfl, HB.out⟩
    · have b9 : wr.cell? ⟨w.heap.size + 1, 3, none⟩ = some (.int .i64 1) := (blk_cell B9.out 3).trans rfl
      have b1 : wr.cell? ⟨w.heap.size, 3, none⟩ = some (.int .i64 (rd l (3 : Nat))) := (blk_cell B1.out 3).trans (by rw [← HLL.out]; rfl)
      have hx : sm (rd l (3 : Nat)) := by have := HS.out; exact this.2.2.2
      have HD := Aside0.mk (show ∀ j : Nat, lessAt l 3 (j + 1) = if rd l (j : Nat) < rd l (3 : Nat) then lessAt l 3 j - 1 else lessAt l 3 j from fun _ => rfl)
      have HD0 := Aside0.mk (show rd l (3 : Nat) = lessAt l 3 0 from rfl)
      generalize rd l (3 : Nat) = xi at b1 HD HD0 hx
      go_wp2_with fail
      go_loopg [6, 22] 3 (fun gg v6 v22 w' => ∃ j : Nat, j ≤ 3 ∧ 3 - j ≤ gg ∧ v22 = .int .i64 j ∧ v6 = .int .i64 (lessAt l 3 j) ∧ w' = wr)
      case atStart => exact ⟨0, by omega, by omega, rfl, by rw [HD0.out], rfl⟩
      case round =>
        obtain ⟨j, hj, hg2, rfl, rfl, rfl⟩ := hrel
        by_cases hlt : j < 3
        · have hltz : (j : Int) < 3 := by omega
          have bj : wr.cell? ⟨w.heap.size, j, none⟩ = some (.int .i64 (rd l (j : Nat))) := by
            have := arr_cell B1.out (j : Int) (by omega) (by omega)
            rw [HLL.out, Int.toNat_natCast] at this
            exact this
          have hbd := (HL.out.2.2.2 j)
          obtain ⟨hbd1, hbd2⟩ := hbd
          have HN := Aside0.mk (HD.out j)
          generalize lessAt l 3 j = lv at HN hbd1 hbd2 ⊢
          generalize rd l (j : Nat) = xj at bj HN
          by_cases hless : xj < xi
          · have hd1 : decide (xj < xi) = true := ygy hless
            go_wp2
            go_roundg (3 - (j + 1))
            case measure => omega
            case rel => exact ⟨j + 1, by omega, by omega, by go_num, by rw [HN.out, if_pos hless], rfl⟩
          · have hd1 : decide (xj < xi) = false := yhy hless
            go_wp2
            go_roundg (3 - (j + 1))
            case measure => omega
            case rel => exact ⟨j + 1, by omega, by omega, by go_num, by rw [HN.out, if_neg (by omega)], rfl⟩
        · have hltz : ¬ (j : Int) < 3 := by omega
          obtain rfl : j = 3 := by omega
          have hbd := (HL.out.2.2.2 3)
          obtain ⟨hbd1, hbd2⟩ := hbd
          obtain ⟨hi1, hi2⟩ := HI.out
          have HN := Aside0.mk (show idxAt l 4 = idxAt l 3 + lessAt l 3 3 * 1 from rfl)
          generalize lessAt l 3 3 = lv at HN hbd1 hbd2 ⊢
          generalize idxAt l 3 = iv at HN hi1 hi2 ⊢
          go_wp2
          go_roundg (4 - 4)
          case measure => omega
          case rel => exact ⟨4, by omega, by omega, by first | rfl | go_num, by rw [HN.out]; rw [Int.mul_one], ⟨by rw [HN.out]; omega⟩, B1, B9, HB⟩
    · have b9 : wr.cell? ⟨w.heap.size + 1, 2, none⟩ = some (.int .i64 1) := (blk_cell B9.out 2).trans rfl
      have b1 : wr.cell? ⟨w.heap.size, 2, none⟩ = some (.int .i64 (rd l (2 : Nat))) := (blk_cell B1.out 2).trans (by rw [← HLL.out]; rfl)
      have hx : sm (rd l (2 : Nat)) := by have := HS.out; exact this.2.2.1
      have HD := Aside0.mk (show ∀ j : Nat, lessAt l 2 (j + 1) = if rd l (j : Nat) < rd l (2 : Nat) then lessAt l 2 j - 1 else lessAt l 2 j from fun _ => rfl)
      have HD0 := Aside0.mk (show rd l (2 : Nat) = lessAt l 2 0 from rfl)
      generalize rd l (2 : Nat) = xi at b1 HD HD0 hx
      go_wp2_with fail
      go_loopg [6, 22] 2 (fun gg v6 v22 w' => ∃ j : Nat, j ≤ 2 ∧ 2 - j ≤ gg ∧ v22 = .int .i64 j ∧ v6 = .int .i64 (lessAt l 2 j) ∧ w' = wr)
      case atStart => exact ⟨0, by omega, by omega, rfl, by rw [HD0.out], rfl⟩
      case round =>
        obtain ⟨j, hj, hg2, rfl, rfl, rfl⟩ := hrel
        by_cases hlt : j < 2
        · have hltz : (j : Int) < 2 := by omega
          have bj : wr.cell? ⟨w.heap.size, j, none⟩ = some (.int .i64 (rd l (j : Nat))) := by
            have := arr_cell B1.out (j : Int) (by omega) (by omega)
            rw [HLL.out, Int.toNat_natCast] at this
            exact this
          have hbd := (HL.out.2.2.1 j)
          obtain ⟨hbd1, hbd2⟩ := hbd
          have HN := Aside0.mk (HD.out j)
          generalize lessAt l 2 j = lv at HN hbd1 hbd2 ⊢
          generalize rd l (j : Nat) = xj at bj HN
          by_cases hless : xj < xi
          · have hd1 : decide (xj < xi) = true := ygy hless
            go_wp2
            go_roundg (2 - (j + 1))
            case measure => omega
            case rel => exact ⟨j + 1, by omega, by omega, by go_num, by rw [HN.out, if_pos hless], rfl⟩
          · have hd1 : decide (xj < xi) = false := yhy hless
            go_wp2
            go_roundg (2 - (j + 1))
            case measure => omega
            case rel => exact ⟨j + 1, by omega, by omega, by go_num, by rw [HN.out, if_neg (by omega)], rfl⟩
        · have hltz : ¬ (j : Int) < 2 := by omega
          obtain rfl : j = 2 := by omega
          have hbd := (HL.out.2.2.1 2)
          obtain ⟨hbd1, hbd2⟩ := hbd
          obtain ⟨hi1, hi2⟩ := HI.out
          have HN := Aside0.mk (show idxAt l 3 = idxAt l 2 + lessAt l 2 2 * 1 from rfl)
          generalize lessAt l 2 2 = lv at HN hbd1 hbd2 ⊢
          generalize idxAt l 2 = iv at HN hi1 hi2 ⊢
          go_wp2
          go_roundg (4 - 3)
          case measure => omega
          case rel => exact ⟨3, by omega, by omega, by first | rfl | go_num, by rw [HN.out]; rw [Int.mul_one], ⟨by rw [HN.out]; omega⟩, B1, B9, HB⟩
    · have b9 : wr.cell? ⟨w.heap.size + 1, 1, none⟩ = some (.int .i64 2) := (blk_cell B9.out 1).trans rfl
      have b1 : wr.cell? ⟨w.heap.size, 1, none⟩ = some (.int .i64 (rd l (1 : Nat))) := (blk_cell B1.out 1).trans (by rw [← HLL.out]; rfl)
      have hx : sm (rd l (1 : Nat)) := by have := HS.out; exact this.2.1
      have HD := Aside0.mk (show ∀ j : Nat, lessAt l 1 (j + 1) = if rd l (j : Nat) < rd l (1 : Nat) then lessAt l 1 j - 1 else lessAt l 1 j from fun _ => rfl)
      have HD0 := Aside0.mk (show rd l (1 : Nat) = lessAt l 1 0 from rfl)
      generalize rd l (1 : Nat) = xi at b1 HD HD0 hx
      go_wp2_with fail
      go_loopg [6, 22] 1 (fun gg v6 v22 w' => ∃ j : Nat, j ≤ 1 ∧ 1 - j ≤ gg ∧ v22 = .int .i64 j ∧ v6 = .int .i64 (lessAt l 1 j) ∧ w' = wr)
      case atStart => exact ⟨0, by omega, by omega, rfl, by rw [HD0.out], rfl⟩
      case round =>
        obtain ⟨j, hj, hg2, rfl, rfl, rfl⟩ := hrel
        by_cases hlt : j < 1
        · have hltz : (j : Int) < 1 := by omega
          have bj : wr.cell? ⟨w.heap.size, j, none⟩ = some (.int .i64 (rd l (j : Nat))) := by
            have := arr_cell B1.out (j : Int) (by omega) (by omega)
            rw [HLL.out, Int.toNat_natCast] at this
            exact this
          have hbd := (HL.out.2.1 j)
          obtain ⟨hbd1, hbd2⟩ := hbd
          have HN := Aside0.mk (HD.out j)
          generalize lessAt l 1 j = lv at HN hbd1 hbd2 ⊢
          generalize rd l (j : Nat) = xj at bj HN
          by_cases hless : xj < xi
          · have hd1 : decide (xj < xi) = true := ygy hless
            go_wp2
            go_roundg (1 - (j + 1))
            case measure => omega
            case rel => exact ⟨j + 1, by omega, by omega, by go_num, by rw [HN.out, if_pos hless], rfl⟩
          · have hd1 : decide (xj < xi) = false := yhy hless
            go_wp2
            go_roundg (1 - (j + 1))
            case measure => omega
            case rel => exact ⟨j + 1, by omega, by omega, by go_num, by rw [HN.out, if_neg (by omega)], rfl⟩
        · have hltz : ¬ (j : Int) < 1 := by omega
          obtain rfl : j = 1 := by omega
          have hbd := (HL.out.2.1 1)
          obtain ⟨hbd1, hbd2⟩ := hbd
          obtain ⟨hi1, hi2⟩ := HI.out
          have HN := Aside0.mk (show idxAt l 2 = idxAt l 1 + lessAt l 1 1 * 2 from rfl)
          generalize lessAt l 1 1 = lv at HN hbd1 hbd2 ⊢
          generalize idxAt l 1 = iv at HN hi1 hi2 ⊢
          go_wp2
          go_roundg (4 - 2)
          case measure => omega
          case rel => exact ⟨2, by omega, by omega, by first | rfl | go_num, by rw [HN.out], ⟨by rw [HN.out]; omega⟩, B1, B9, HB⟩
    · have b9 : wr.cell? ⟨w.heap.size + 1, 0, none⟩ = some (.int .i64 6) := (blk_cell B9.out 0).trans rfl
      have b1 : wr.cell? ⟨w.heap.size, 0, none⟩ = some (.int .i64 (rd l (0 : Nat))) := (blk_cell B1.out 0).trans (by rw [← HLL.out]; rfl)
      have hx : sm (rd l (0 : Nat)) := by have := HS.out; exact this.1
      have HD := Aside0.mk (show ∀ j : Nat, lessAt l 0 (j + 1) = if rd l (j : Nat) < rd l (0 : Nat) then lessAt l 0 j - 1 else lessAt l 0 j from fun _ => rfl)
      have HD0 := Aside0.mk (show rd l (0 : Nat) = lessAt l 0 0 from rfl)
      generalize rd l (0 : Nat) = xi at b1 HD HD0 hx
      go_wp2_with fail
      go_loopg [6, 22] 0 (fun gg v6 v22 w' => ∃ j : Nat, j ≤ 0 ∧ 0 - j ≤ gg ∧ v22 = .int .i64 j ∧ v6 = .int .i64 (lessAt l 0 j) ∧ w' = wr)
      case atStart => exact ⟨0, by omega, by omega, rfl, by rw [HD0.out], rfl⟩
      case round =>
        obtain ⟨j, hj, hg2, rfl, rfl, rfl⟩ := hrel
        by_cases hlt : j < 0
        · have hltz : (j : Int) < 0 := by omega
          have bj : wr.cell? ⟨w.heap.size, j, none⟩ = some (.int .i64 (rd l (j : Nat))) := by
            have := arr_cell B1.out (j : Int) (by omega) (by omega)
            rw [HLL.out, Int.toNat_natCast] at this
            exact this
          have hbd := (HL.out.1 j)
          obtain ⟨hbd1, hbd2⟩ := hbd
          have HN := Aside0.mk (HD.out j)
          generalize lessAt l 0 j = lv at HN hbd1 hbd2 ⊢
          generalize rd l (j : Nat) = xj at bj HN
          by_cases hless : xj < xi
          · have hd1 : decide (xj < xi) = true := ygy hless
            go_wp2
            go_roundg (0 - (j + 1))
            case measure => omega
            case rel => exact ⟨j + 1, by omega, by omega, by go_num, by rw [HN.out, if_pos hless], rfl⟩
          · have hd1 : decide (xj < xi) = false := yhy hless
            go_wp2
            go_roundg (0 - (j + 1))
            case measure => omega
            case rel => exact ⟨j + 1, by omega, by omega, by go_num, by rw [HN.out, if_neg (by omega)], rfl⟩
        · have hltz : ¬ (j : Int) < 0 := by omega
          obtain rfl : j = 0 := by omega
          have hbd := (HL.out.1 0)
          obtain ⟨hbd1, hbd2⟩ := hbd
          obtain ⟨hi1, hi2⟩ := HI.out
          have HN := Aside0.mk (show idxAt l 1 = idxAt l 0 + lessAt l 0 0 * 6 from rfl)
          generalize lessAt l 0 0 = lv at HN hbd1 hbd2 ⊢
          generalize idxAt l 0 = iv at HN hi1 hi2 ⊢
          go_wp2
          go_roundg (4 - 1)
          case measure => omega
          case rel => exact ⟨1, by omega, by omega, by first | rfl | go_num, by rw [HN.out], ⟨by rw [HN.out]; omega⟩, B1, B9, HB⟩
/-! The images of a permutation are 0 to 3; indexes are 0 to 23. -/
theorem permAt_sm (p : Int) (h0 : 0 ≤ p) (h1 : p ≤ 23) : sm (permAt p 0) ∧ sm (permAt p 1) ∧ sm (permAt p 2) ∧ sm (permAt p 3) := by
  obtain ⟨n, rfl⟩ := Int.eq_ofNat_of_zero_le h0
  have hn : n < 24 := by omega
  have key : ∀ m : Fin 24, (0 ≤ permAt (m.val : Int) 0 ∧ permAt (m.val : Int) 0 ≤ 3) ∧ (0 ≤ permAt (m.val : Int) 1 ∧ permAt (m.val : Int) 1 ≤ 3) ∧ (0 ≤ permAt (m.val : Int) 2 ∧ permAt (m.val : Int) 2 ≤ 3) ∧ (0 ≤ permAt (m.val : Int) 3 ∧ permAt (m.val : Int) 3 ≤ 3) := by decide
  exact key ⟨n, hn⟩
/-- The inverse's images after i rounds. -/
def invList (l : List Int) : Nat → List Int
  | 0 => [0, 0, 0, 0]
  | i + 1 => (invList l i).set (rd l i).toNat i
theorem invList_sm (l : List Int) : ∀ i, i ≤ 4 → ∀ x ∈ invList l i, sm x
  | 0, _, x, hx => by
    have : x = 0 := by simp [invList] at hx; exact hx
    subst this; exact ⟨by omega, by omega⟩
  | i + 1, hi, x, hx => by
    rw [invList] at hx
    rcases List.mem_or_eq_of_mem_set hx with h | rfl
    · exact invList_sm l i (by omega) x h
    · exact ⟨by omega, by omega⟩
def invP (p : Int) : Int := idxL (invList (permL p) 4)
theorem rd_four_sm {a b c d : Int} (ha : sm a) (hb : sm b) (hc : sm c) (hd : sm d) (f : Int) (h0 : 0 ≤ f) (h1 : f ≤ 3) : sm (rd [a, b, c, d] f) := by
  rcases (show f = 0 ∨ f = 1 ∨ f = 2 ∨ f = 3 by omega) with rfl | rfl | rfl | rfl <;> assumption
/-! invert: the index of the inverse permutation. -/
def impl_invert.f (a0 : Int) : Option Int := if 0 ≤ a0 ∧ a0 ≤ 23 then some (invP a0) else none
set_option maxHeartbeats 8000000 in
set_option maxRecDepth 100000 in
theorem impl_invert.calls (a0 : Int) (r : Int) (w : World) (h : impl_invert.f a0 = some r) :
    Calls Try.prog 87 #[.int .i64 a0] w fun e w' => e = .returned (.int .i64 r) ∧ Below w.heap.size w w' := by
  unfold impl_invert.f at h
  by_cases hc : 0 ≤ a0 ∧ a0 ≤ 23
  case neg => rw [if_neg hc] at h; exact absurd h (by simp)
  rw [if_pos hc] at h
  have hr : invP a0 = r := yey h
  clear h
  subst hr
  obtain ⟨h0, h1⟩ := hc
  have HS := Aside0.mk (permAt_sm a0 h0 h1)
  have H0 := Aside0.mk h0
  have H1 := Aside0.mk h1
  clear h0 h1
  go_enter Try.func87, Try.ntmps87
  go_wp2_with fail
  refine (impl_perm.calls _ _ H0.out H1.out).mono ?_
  rintro e w1 ⟨rfl, hb⟩
  have B3 := Aside0.mk (blk_below (new_at4 (W := w) rfl (.cells #[.int .i64 0, .int .i64 0, .int .i64 0, .int .i64 0] 69)) hb)
  have HB := Aside0.mk (below_step (below_alloc (Below.refl _ _) _) hb)
  clear hb
  have HPL := Aside0.mk (show permL a0 = [permAt a0 0, permAt a0 1, permAt a0 2, permAt a0 3] from rfl)
  have HIP := Aside0.mk (show invP a0 = idxL (invList (permL a0) 4) from rfl)
  generalize permL a0 = pl at HPL HIP
  generalize permAt a0 0 = x0 at HS HPL ⊢
  generalize permAt a0 1 = x1 at HS HPL ⊢
  generalize permAt a0 2 = x2 at HS HPL ⊢
  generalize permAt a0 3 = x3 at HS HPL ⊢
  go_wp2_with fail
  go_loopg [8] 4 (fun gg v8 w' => ∃ (i : Nat) (b0 b1 b2 b3 : Int), i ≤ 4 ∧ 4 - i ≤ gg ∧ v8 = .int .i64 i ∧ Aside0 ([b0, b1, b2, b3] = invList pl i) ∧
    Aside0 (w'.heap[w.heap.size]? = some (.cells #[.int .i64 b0, .int .i64 b1, .int .i64 b2, .int .i64 b3] 69 (0, 0))) ∧ Aside0 (Below w.heap.size w w'))
  case atStart => exact ⟨0, 0, 0, 0, 0, by omega, by omega, rfl, ⟨rfl⟩, B3, HB⟩
  case round =>
    clear HB B3
    obtain ⟨i, b0, b1, b2, b3, hi, hg, rfl, HI, B3, HB⟩ := hrel
    rcases (show i = 4 ∨ i = 3 ∨ i = 2 ∨ i = 1 ∨ i = 0 by omega) with rfl | rfl | rfl | rfl | rfl
    · have c0 : wr.cell? ⟨w.heap.size, 0, none⟩ = some (.int .i64 b0) := (blk_cell B3.out 0).trans rfl
      have c1 : wr.cell? ⟨w.heap.size, 1, none⟩ = some (.int .i64 b1) := (blk_cell B3.out 1).trans rfl
      have c2 : wr.cell? ⟨w.heap.size, 2, none⟩ = some (.int .i64 b2) := (blk_cell B3.out 2).trans rfl
      have c3 : wr.cell? ⟨w.heap.size, 3, none⟩ = some (.int .i64 b3) := (blk_cell B3.out 3).trans rfl
      have ht := Try.underlying69
      go_wp2_with fail
      have hsm := invList_sm pl 4 (by omega)
      rw [← HI.out] at hsm
      refine (impl_indexOf.calls b0 b1 b2 b3 _ (hsm _ (by simp)) (hsm _ (by simp)) (hsm _ (by simp)) (hsm _ (by simp))).mono ?_
      rintro e w2 ⟨rfl, hb⟩
      have HB2 := Aside0.mk (below_step HB.out hb)
      clear hb hsm
      go_wp2
      go_ret
      exact ⟨by rw [HIP.out, ← HI.out]; rfl, HB2.out⟩
    · have ix := arr_index x0 x1 x2 x3 3 (by omega) (by omega)
      have hx : rd [x0, x1, x2, x3] 3 = x3 := rfl
      rw [hx] at ix
      have hs : sm x3 := HS.out.2.2.2
      obtain ⟨hs0, hs1⟩ := hs
      have c3 := arr_cell B3.out x3 hs0 hs1
      have f3 := blk_frozen B3.out x3.toNat
      have B3n := Aside0.mk (arr_put B3.out x3 3 hs0 hs1)
      have HN : [b0, b1, b2, b3].set x3.toNat 3 = invList pl (3 + 1) := by rw [HI.out, HPL.out]; rfl
      have hlen : ([b0, b1, b2, b3].set x3.toNat (3 : Int)).length = 4 := by simp
      have HF := Aside0.mk ((four_eq hlen).symm.trans HN)
      clear hx HN hlen
      go_wp2
      go_roundg (4 - (3 + 1))
      case measure => omega
      case rel => exact ⟨3 + 1, _, _, _, _, by omega, by omega, by first | rfl | go_num, HF, B3n, ⟨below_set HB.out (yoy _)⟩⟩
    · have ix := arr_index x0 x1 x2 x3 2 (by omega) (by omega)
      have hx : rd [x0, x1, x2, x3] 2 = x2 := rfl
      rw [hx] at ix
      have hs : sm x2 := HS.out.2.2.1
      obtain ⟨hs0, hs1⟩ := hs
      have c3 := arr_cell B3.out x2 hs0 hs1
      have f3 := blk_frozen B3.out x2.toNat
      have B3n := Aside0.mk (arr_put B3.out x2 2 hs0 hs1)
      have HN : [b0, b1, b2, b3].set x2.toNat 2 = invList pl (2 + 1) := by rw [HI.out, HPL.out]; rfl
      have hlen : ([b0, b1, b2, b3].set x2.toNat (2 : Int)).length = 4 := by simp
      have HF := Aside0.mk ((four_eq hlen).symm.trans HN)
      clear hx HN hlen
      go_wp2
      go_roundg (4 - (2 + 1))
      case measure => omega
      case rel => exact ⟨2 + 1, _, _, _, _, by omega, by omega, by first | rfl | go_num, HF, B3n, ⟨below_set HB.out (yoy _)⟩⟩
    · have ix := arr_index x0 x1 x2 x3 1 (by omega) (by omega)
      have hx : rd [x0, x1, x2, x3] 1 = x1 := rfl
      rw [hx] at ix
      have hs : sm x1 := HS.out.2.1
      obtain ⟨hs0, hs1⟩ := hs
      have c3 := arr_cell B3.out x1 hs0 hs1
      have f3 := blk_frozen B3.out x1.toNat
      have B3n := Aside0.mk (arr_put B3.out x1 1 hs0 hs1)
      have HN : [b0, b1, b2, b3].set x1.toNat 1 = invList pl (1 + 1) := by rw [HI.out, HPL.out]; rfl
      have hlen : ([b0, b1, b2, b3].set x1.toNat (1 : Int)).length = 4 := by simp
      have HF := Aside0.mk ((four_eq hlen).symm.trans HN)
      clear hx HN hlen
      go_wp2
      go_roundg (4 - (1 + 1))
      case measure => omega
      case rel => exact ⟨1 + 1, _, _, _, _, by omega, by omega, by first | rfl | go_num, HF, B3n, ⟨below_set HB.out (yoy _)⟩⟩
    · have ix := arr_index x0 x1 x2 x3 0 (by omega) (by omega)
      have hx : rd [x0, x1, x2, x3] 0 = x0 := rfl
      rw [hx] at ix
      have hs : sm x0 := HS.out.1
      obtain ⟨hs0, hs1⟩ := hs
      have c3 := arr_cell B3.out x0 hs0 hs1
      have f3 := blk_frozen B3.out x0.toNat
      have B3n := Aside0.mk (arr_put B3.out x0 0 hs0 hs1)
      have HN : [b0, b1, b2, b3].set x0.toNat 0 = invList pl (0 + 1) := by rw [HI.out, HPL.out]; rfl
      have hlen : ([b0, b1, b2, b3].set x0.toNat (0 : Int)).length = 4 := by simp
      have HF := Aside0.mk ((four_eq hlen).symm.trans HN)
      clear hx HN hlen
      go_wp2
      go_roundg (4 - (0 + 1))
      case measure => omega
      case rel => exact ⟨0 + 1, _, _, _, _, by omega, by omega, by first | rfl | go_num, HF, B3n, ⟨below_set HB.out (yoy _)⟩⟩
/-! ### impl_Face_partner: function 80 -/
def impl_Face_partner.f (a0_0 : Int) (a0_1 : Int) (a1 : Int) : Option (Int × Int) := (impl_invert.f a0_1).bind fun t103 => (some (a1, t103))
set_option maxHeartbeats 8000000 in
set_option maxRecDepth 100000 in
theorem impl_Face_partner.calls (a0_0 : Int) (a0_1 : Int) (a1 : Int) (r1 : Int) (r2 : Int) (w : World) (h : impl_Face_partner.f a0_0 a0_1 a1 = some (r1, r2)) :
    Calls Try.prog 80 #[.agg #[.int .i64 a0_0, .int .i64 a0_1], .int .i64 a1] w fun e w' => e = .returned (.agg #[.int .i64 r1, .int .i64 r2]) ∧ Below w.heap.size w w' := by
  have hu47 := Try.underlying47
  have HB := Aside0.mk (Below.refl w.heap.size w)
  have H : ((impl_invert.f a0_1).bind fun t103 => (some (a1, t103))) = some (r1, r2) := h
  clear h
  replace H := ydy.mp H
  obtain ⟨t103, A30, H⟩ := H
  replace H : (some (a1, t103)) = some (r1, r2) := H
  have A3 := Aside0.mk A30
  clear A30
  simp only [Option.some.injEq, Prod.mk.injEq] at H
  obtain ⟨rfl, rfl⟩ := H
  go_enter Try.func80, Try.ntmps80
  go_wp2_with (first | ((with_reducible refine gate_dst (N := 2) rfl ?_); refine box_event ?hg (N := 2) ?hd (cs := #[.int .i64 a0_0, .int .i64 a0_1]) (t := 47) ?hr ?_; (case hd => rfl); (case hg => rfl); (case hr => first | (go_simp; done) | (go_simp; rfl)); intro gb101 hg w4 hbox hb; have n0_ := Aside0.mk (below_step (by repeat (first | (with_reducible first | exact HB.out | apply below_alloc | apply pw_below_drewN | apply below_drew1) | exact HB.out)) hb); have n1_ := Aside0.mk (hbox); have n2_ := Aside0.mk ((by rw [hg]; exact (below_size (by repeat (first | (with_reducible first | exact HB.out | apply below_alloc | apply pw_below_drewN | apply below_drew1) | exact HB.out))) : w.heap.size ≤ gb101)); have n3_ := Aside0.mk ((by rw [hg]; exact (below_size (by repeat (first | (with_reducible first | exact HB.out | apply below_alloc | apply pw_below_drewN | apply below_drew1) | exact HB.out))) : w.heap.size ≤ gb101)); clear HB; have HB := n0_; have BK101 := n1_; have GW101 := n2_; have GE101 := n3_; clear n0_ n1_ n2_ n3_; clear hb hbox hg) | ((with_reducible refine gate_dst (N := 4) rfl ?_); refine box_event ?hg (N := 4) ?hd (cs := #[.int .i64 0, .int .i64 0]) (t := 47) ?hr ?_; (case hd => rfl); (case hg => rfl); (case hr => first | (go_simp; done) | (go_simp; rfl)); intro gb102 hg w5 hbox hb; have n0_ := Aside0.mk (blk_below (g := gb101) (o := .cells #[.int .i64 a0_0, .int .i64 a0_1] 47 (0, 0)) (by (with_reducible repeat (first | refine blk_drewN ?_ _ | refine blk_drew ?_ | refine blk_alloc ?_ _)); exact BK101.out) hb); have n1_ := Aside0.mk (below_step (by repeat (first | (with_reducible first | exact HB.out | apply below_alloc | apply pw_below_drewN | apply below_drew1 | refine below_set ?_ GE101.out) | exact HB.out)) hb); have n2_ := Aside0.mk (hbox); have n3_ := Aside0.mk ((by rw [hg]; exact (below_size (by repeat (first | (with_reducible first | exact HB.out | apply below_alloc | apply pw_below_drewN | apply below_drew1 | refine below_set ?_ GE101.out) | exact HB.out))) : w.heap.size ≤ gb102)); have n4_ := Aside0.mk ((by rw [hg]; exact (below_size (by repeat (first | (with_reducible first | exact HB.out | apply below_alloc | apply pw_below_drewN | apply below_drew1 | refine below_set ?_ GE101.out) | exact HB.out))) : w.heap.size ≤ gb102)); have n5_ := Aside0.mk ((by rw [hg]; exact Nat.ne_of_lt (blk_lt (g := gb101) (o := .cells #[.int .i64 a0_0, .int .i64 a0_1] 47 (0, 0)) (by (with_reducible repeat (first | refine blk_drewN ?_ _ | refine blk_drew ?_ | refine blk_alloc ?_ _)); exact BK101.out)) : gb101 ≠ gb102)); have n6_ := Aside0.mk ((by rw [hg]; exact Nat.ne_of_gt (blk_lt (g := gb101) (o := .cells #[.int .i64 a0_0, .int .i64 a0_1] 47 (0, 0)) (by (with_reducible repeat (first | refine blk_drewN ?_ _ | refine blk_drew ?_ | refine blk_alloc ?_ _)); exact BK101.out)) : gb102 ≠ gb101)); clear BK101; clear HB; have BK101 := n0_; have HB := n1_; have BK102 := n2_; have GW102 := n3_; have GE102 := n4_; have NB101_102 := n5_; have NB102_101 := n6_; clear n0_ n1_ n2_ n3_ n4_ n5_ n6_; clear hb hbox hg; have hnb6 := NB101_102.out; have hnc6 := NB102_101.out; have hcz7_0 : w5.cell? ⟨gb101, 0, none⟩ = some (.int .i64 a0_0) := (blk_cell BK101.out 0).trans rfl; have hcz7_1 : w5.cell? ⟨gb101, 1, none⟩ = some (.int .i64 a0_1) := (blk_cell BK101.out 1).trans rfl; have hfz7_0 := blk_frozen BK101.out 0; have hfz7_1 := blk_frozen BK101.out 1) | ((with_reducible refine gate_callee (f := 87) rfl ?_); refine goesL_ (some 8) rfl rfl Try.func87 (by kernel_rfl) rfl #[.int .i64 a0_1] rfl (by (try simp only [yiy, yjy, yky]); first | done | rfl | (simp only [yly, ymy]; rfl)) ?_; (with_reducible refine (impl_invert.calls a0_1 t103 _ A3.out).mono ?_); rintro e w8 ⟨rfl, hb⟩; refine ⟨_, rfl, ?_⟩; have n0_ := Aside0.mk (blk_below (g := gb101) (o := .cells #[.int .i64 a0_0, .int .i64 a0_1] 47 (0, 0)) (by (with_reducible repeat (first | refine blk_drewN ?_ _ | refine blk_drew ?_ | refine blk_alloc ?_ _)); exact BK101.out) hb); have n1_ := Aside0.mk (blk_below (g := gb102) (o := .cells #[.int .i64 0, .int .i64 0] 47 (0, 0)) (by (with_reducible repeat (first | refine blk_drewN ?_ _ | refine blk_drew ?_ | refine blk_alloc ?_ _)); exact BK102.out) hb); have n2_ := Aside0.mk (below_step (by repeat (first | (with_reducible first | exact HB.out | apply below_alloc | apply pw_below_drewN | apply below_drew1 | refine below_set ?_ GE101.out | refine below_set ?_ GE102.out) | exact HB.out)) hb); clear BK101; clear BK102; clear HB; have BK101 := n0_; have BK102 := n1_; have HB := n2_; clear n0_ n1_ n2_; (try clear hb); (try clear hb2); (try clear hk); (try clear hi); have hcz9_0 : w8.cell? ⟨gb102, 0, none⟩ = some (.int .i64 0) := (blk_cell BK102.out 0).trans rfl; have hcz9_1 : w8.cell? ⟨gb102, 1, none⟩ = some (.int .i64 0) := (blk_cell BK102.out 1).trans rfl; have hfz9_0 := blk_frozen BK102.out 0; have hfz9_1 := blk_frozen BK102.out 1))
  refine bodyPost_ret (results_cell_row rfl _ _ gb102 47 #[.int .i64 a1, .int .i64 t103] (0, 0) _ rfl (by (with_reducible repeat (first | refine blk_drewN ?_ _ | refine blk_drew ?_ | refine blk_alloc ?_ _)); refine blk_put (cs := #[.int .i64 a1, .int .i64 0]) ?_ 1 _ rfl; (with_reducible repeat (first | refine blk_drewN ?_ _ | refine blk_drew ?_ | refine blk_alloc ?_ _)); refine blk_put (cs := #[.int .i64 0, .int .i64 0]) ?_ 0 _ rfl; (with_reducible repeat (first | refine blk_drewN ?_ _ | refine blk_drew ?_ | refine blk_alloc ?_ _)); exact BK102.out) Try.underlying47 rfl (by kernel_rfl)) rfl ?_
  exact ⟨by first | rfl | (simp [errW_none, errW_some] <;> rfl) | (simp [*, errW_none, errW_some] <;> rfl), by repeat (first | (with_reducible first | exact HB.out | apply below_alloc | apply pw_below_drewN | apply below_drew1 | refine below_set ?_ GE101.out | refine below_set ?_ GE102.out) | exact HB.out)⟩
/-! Face.target: the image of a face's number. -/
def impl_Face_target.f (a0_0 : Int) (a0_1 : Int) (a1 : Int) : Option Int := if 0 ≤ a0_1 ∧ a0_1 ≤ 23 ∧ 0 ≤ a1 ∧ a1 ≤ 3 then some (rd (permL a0_1) a1) else none
set_option maxHeartbeats 800000 in
set_option maxRecDepth 100000 in
theorem impl_Face_target.calls (a0_0 : Int) (a0_1 : Int) (a1 : Int) (r : Int) (w : World) (h : impl_Face_target.f a0_0 a0_1 a1 = some r) :
    Calls Try.prog 27 #[.agg #[.int .i64 a0_0, .int .i64 a0_1], .int .i64 a1] w fun e w' => e = .returned (.int .i64 r) ∧ Below w.heap.size w w' := by
  unfold impl_Face_target.f at h
  by_cases hc : 0 ≤ a0_1 ∧ a0_1 ≤ 23 ∧ 0 ≤ a1 ∧ a1 ≤ 3
  · rw [if_pos hc] at h
    obtain ⟨h0, h1, hf0, hf1⟩ := hc
    have ix := arr_index (permAt a0_1 0) (permAt a0_1 1) (permAt a0_1 2) (permAt a0_1 3) a1 hf0 hf1
    have H0 := Aside0.mk h0
    have H1 := Aside0.mk h1
    clear h0 h1
    have hr : rd [permAt a0_1 0, permAt a0_1 1, permAt a0_1 2, permAt a0_1 3] a1 = r := yey h
    rw [hr] at ix
    clear hr h
    go_enter Try.func27, Try.ntmps27
    go_wp2_with fail
    refine (impl_perm.calls _ _ H0.out H1.out).mono ?_
    rintro e w' ⟨rfl, hb⟩
    have HB := Aside0.mk (below_step (below_alloc (Below.refl _ _) _) hb)
    clear hb
    go_wp2
    go_ret
    exact ⟨rfl, HB.out⟩
  · rw [if_neg hc] at h
    exact absurd h (by simp)
/-! A face of a row of rows of the call's own is stored. -/
theorem nest_put {W : World} {b : Nat} {ok : Nat → Prop} {ad : Addr} {n cap : Nat} {t : List (List SFace)} (h : Kd.S (Kd.slice 47 kFace) 48 W b ok (.slice (some ad) n cap) t) (a f : Int) (h0 : 0 ≤ a) (h1 : a < n) (hf0 : 0 ≤ f) (hf1 : f < (rd_LFace t a).length) (x : SFace) :
    ∃ gr cr, W.cell? (ad.add a.toNat) = some (.slice (some ⟨gr, 0, none⟩) (rd_LFace t a).length cr) ∧ W.cell? ⟨gr, f.toNat * 2, none⟩ = some (.int .i64 (rd_Face (rd_LFace t a) f).f0) ∧ W.cell? ⟨gr, f.toNat * 2 + 1, none⟩ = some (.int .i64 (rd_Face (rd_LFace t a) f).f1) ∧
      W.frozen? ⟨gr, f.toNat * 2, none⟩ = false ∧ W.frozen? ⟨gr, f.toNat * 2 + 1, none⟩ = false ∧ ok gr ∧ b ≤ gr ∧ (∃ cells, W.heap[gr]? = some (.cells cells 47 (0, 0))) ∧
      Kd.S (Kd.slice 47 kFace) 48 ((W.setCell ⟨gr, f.toNat * 2, none⟩ (.int .i64 x.f0)).setCell ⟨gr, f.toNat * 2 + 1, none⟩ (.int .i64 x.f1)) b ok (.slice (some ad) n cap) (t.set a.toNat ((rd_LFace t a).set f.toNat x)) ∧
      W.grownBy ((W.setCell ⟨gr, f.toNat * 2, none⟩ (.int .i64 x.f0)).setCell ⟨gr, f.toNat * 2 + 1, none⟩ (.int .i64 x.f1)) (some gr) := by
  obtain ⟨oki, ce, hcl, hM, hcc, hok, hbk⟩ := Kd.S_borrow h [] a h0 h1
  obtain ⟨v1, rfl, hR⟩ := hM
  have hx := hcc 0 v1 rfl
  rw [Nat.add_zero, show (Kd.slice 47 kFace).sz = 1 from rfl, Nat.mul_one] at hx
  replace hR := (show Kd.R kFace 47 W b oki v1 (rd_LFace t a) from hR)
  obtain ⟨gr, cr, rfl, hg1, hg2, hg3⟩ := Kd.R_form hR (by omega)
  obtain ⟨cf, hcl2, hN, hcc2, hfr⟩ := Kd.R_elem hR zFace f hf0 (by omega)
  obtain rfl := kFace_openM hN
  have hP := Kd.R_seg hR f hf0 (by omega) (seg := [.int .i64 x.f0, .int .i64 x.f1]) (j := 0) hcl2 hcc2 (show 2 ≤ 2 from by decide) (x' := x) (kFace_mkM _ _ _ x) (fun _ hk => hk)
  have hS := hbk hP.2 (fun k_ e_ => by injection e_ with e_; subst e_; exact hR.1 _ rfl) (x' := (rd_LFace t a).set f.toNat x) (Kd.M_row hP.1)
  exact ⟨gr, cr, hx, hcc2 0 _ rfl, hcc2 1 _ rfl, hfr 0, hfr 1, (hok gr (hR.1 gr (by simp [Value.ownBlock]))).1, hg1, hg3, hS, hP.2⟩
/-! ### spec_l06Images: function 48 -/
def spec_l06Images.l0 : Nat → Int → List Int → List Int → Int → Int → Option (List Int)
 | 0, _, _, _, _, _ => none
 | k + 1, x0, x3, x4, x5, x6 => if x6 ≥ 0 then (if x5 = 0 then (none) else (if 0 ≤ (wrap64 (Int.tdiv x0 x5)) then (if (wrap64 (Int.tdiv x0 x5)) < (x3.length : Int) then (if x4.length < 17592186044416 then ((some (x4 ++ [rd x3 (wrap64 (Int.tdiv x0 x5))] : List Int)).bind fun y108 => ((some (([] : List Int) : List Int)).bind fun y111 => (if (wrap64 (Int.tdiv x0 x5)) ≤ (x3.length : Int) then ((some (x3.take ((wrap64 (Int.tdiv x0 x5)) : Int).toNat : List Int)).bind fun y114 => (if y111.length + y114.length < 17592186044416 then ((some (y111 ++ y114 : List Int)).bind fun y118 => (if 0 ≤ (wrap64 ((wrap64 (Int.tdiv x0 x5)) + 1)) then (if (wrap64 ((wrap64 (Int.tdiv x0 x5)) + 1)) ≤ (x3.length : Int) then ((some (x3.drop ((wrap64 ((wrap64 (Int.tdiv x0 x5)) + 1)) : Int).toNat : List Int)).bind fun y121 => (if y118.length + y121.length < 17592186044416 then ((some (y118 ++ y121 : List Int)).bind fun y125 => (if x6 > 0 then (if x6 = 0 then (none) else (spec_l06Images.l0 k (Int.tmod x0 x5) y125 y108 (wrap64 (Int.tdiv x5 x6)) (wrap64 (x6 - 1)))) else (spec_l06Images.l0 k (Int.tmod x0 x5) y125 y108 x5 (wrap64 (x6 - 1))))) else (none))) else (none)) else (none))) else (none))) else (none)))) else (none)) else (none)) else (none))) else (some x4)
def spec_l06Images.f (k : Nat) (a0 : Int) : Option (List Int) := spec_l06Images.l0 k a0 (([0, 1, 2, 3] : List Int)) (([] : List Int)) 6 3
theorem spec_l06Images.mono_l : ∀ k, (∀ y0 y1 y2 y3 y4, LeO (spec_l06Images.l0 k y0 y1 y2 y3 y4) (spec_l06Images.l0 (k + 1) y0 y1 y2 y3 y4))
 | 0 => fun _ _ _ _ _ r h => by simp [spec_l06Images.l0] at h
 | k + 1 => by
  have ih0 := spec_l06Images.mono_l k
  next =>
   intro y0 y1 y2 y3 y4
   unfold spec_l06Images.l0
   repeat' first
   | (with_reducible exact ih0 _ _ _ _ _)
   | (with_reducible exact LeO.refl _)
   | (with_reducible exact LeO.none _)
   | (with_reducible refine LeO.ite ?_ ?_)
   | (with_reducible refine LeO.bind ?_ (fun _ => ?_))
   | exact ih0 _ _ _ _ _
   | exact LeO.none _
   | refine LeO.ite ?_ ?_
   | refine LeO.bind ?_ (fun _ => ?_)
theorem spec_l06Images.mono : ∀ a0 k, LeO (spec_l06Images.f k a0) (spec_l06Images.f (k + 1) a0) := by
 intro a0 k
 have ih0 := spec_l06Images.mono_l k
 unfold spec_l06Images.f
 repeat' first
  | (with_reducible exact ih0 _ _ _ _ _)
  | (with_reducible exact LeO.refl _)
  | (with_reducible exact LeO.none _)
  | (with_reducible refine LeO.ite ?_ ?_)
  | (with_reducible refine LeO.bind ?_ (fun _ => ?_))
  | exact ih0 _ _ _ _ _
  | exact LeO.none _
  | refine LeO.ite ?_ ?_
  | refine LeO.bind ?_ (fun _ => ?_)
def spec_l06Images.T10 : Bool × List (List Nat × List Nat) := (true, [([], []), ([], []), ([], []), ([1, 2], [1, 2]), ([0, 3], [0, 3]), ([], []), ([], []), ([6], [6]), ([5, 7], [5, 7]), ([4, 8, 4], [4, 8]), ([9, 9, 0, 1, 2, 3, 4, 5, 6, 7, 8, 9], [1, 5, 9])])
def spec_l06Images.B10 : List Nat := [0, 0, 0, 6, 15, 0, 0, 64, 224, 511, 1023]
theorem spec_l06Images.tab10 : rtab .any (opsOf Try.f48 10) = spec_l06Images.T10 := by kernel_rfl
theorem spec_l06Images.bits10 : waitsOk spec_l06Images.T10.2 spec_l06Images.B10 = true := by kernel_rfl
set_option maxHeartbeats 8000000 in
set_option maxRecDepth 100000 in
theorem spec_l06Images.calls (k : Nat) (a0 : Int) (r : List Int) (w : World) (h : spec_l06Images.f k a0 = some r) :
 Calls Try.prog 48 #[.int .i64 a0] w fun e w' => ∃ v0_ : Value, e = .returned (v0_) ∧ Kd.R (Kd.int .i64) 2 w' w.heap.size (fun _ => True) v0_ r ∧ Below w.heap.size w w' := by
 have HB := Aside0.mk (Below.refl w.heap.size w)
 have H : (spec_l06Images.l0 k a0 (([0, 1, 2, 3] : List Int)) (([] : List Int)) 6 3) = some r := h
 clear h
 obtain ⟨y101, hy101⟩ : ∃ y_ : List Int, y_ = (([0, 1, 2, 3] : List Int)) := ⟨_, rfl⟩
 replace H : (spec_l06Images.l0 k a0 y101 (([] : List Int)) 6 3) = some r := by first | (rw [hy101]; with_reducible exact H) | (have H2_ := (yfy _ _).symm.trans H; rw [hy101]; with_reducible exact H2_) | (have H2_ := (yfy _ _).symm.trans H; with_reducible exact H2_) | with_reducible exact H | (rw [hy101]; exact H) | exact H
 have Ny101 := Aside0.mk hy101
 clear hy101
 obtain ⟨y104, hy104⟩ : ∃ y_ : List Int, y_ = (([] : List Int)) := ⟨_, rfl⟩
 replace H : (spec_l06Images.l0 k a0 y101 y104 6 3) = some r := by first | (rw [hy104]; with_reducible exact H) | (have H2_ := (yfy _ _).symm.trans H; rw [hy104]; with_reducible exact H2_) | (have H2_ := (yfy _ _).symm.trans H; with_reducible exact H2_) | with_reducible exact H | (rw [hy104]; exact H) | exact H
 have Ny104 := Aside0.mk hy104
 clear hy104
 have H' := Aside0.mk H
 clear H
 go_enter Try.func48, Try.ntmps48
 go_wp2_with (first | ((with_reducible refine gate_dst (N := 8) rfl ?_); refine Kd.R_lit (Kd.int .i64) _ 2 ?hg (N := 8) ?hd (xs := ([0, 1, 2, 3] : List Int)) (inner := [.int .i64 0, .int .i64 1, .int .i64 2, .int .i64 3]) (ok := fun _ => True) (okp := fun _ => True) ?hr ?hp (fun _ hk => hk) trivial (Below.refl _ _) (yoy _) (by simp) ?_; (case hd => rfl); (case hg => rfl); (case hr => first | (go_simp; done) | (go_simp; rfl)); (case hp => exact (Reps.one (show Kd.M (Kd.int .i64) _ _ _ 0 [.int .i64 0] from rfl) (Reps.one (show Kd.M (Kd.int .i64) _ _ _ 1 [.int .i64 1] from rfl) (Reps.one (show Kd.M (Kd.int .i64) _ _ _ 2 [.int .i64 2] from rfl) (Reps.one (show Kd.M (Kd.int .i64) _ _ _ 3 [.int .i64 3] from rfl) (Reps.none _ _)))))); intro v102 w2 ho3 hb hg_ hnew_; clear hg_ hnew_; (first | rw [← Ny101.out] at ho3 | (simp only [Int.reduceToNat] at ho3; rw [← Ny101.out] at ho3)); have n0_ := Aside0.mk (Kd.R_lower ho3 (below_size (by repeat (first | (with_reducible first | exact HB.out | apply below_alloc | apply pw_below_drewN | apply below_drew1) | exact HB.out)))); have n1_ := Aside0.mk (below_step (by repeat (first | (with_reducible first | exact HB.out | apply below_alloc | apply pw_below_drewN | apply below_drew1) | exact HB.out)) hb); clear HB; have HO103 := n0_; have HB := n1_; clear n0_ n1_; clear hb ho3) | ((with_reducible refine gate_dst (N := 9) rfl ?_); refine Kd.R_lit (Kd.int .i64) _ 2 ?hg (N := 9) ?hd (xs := ([] : List Int)) (inner := []) (ok := fun _ => True) (okp := fun _ => True) ?hr ?hp (fun _ hk => hk) trivial (Below.refl _ _) (yoy _) (by simp) ?_; (case hd => rfl); (case hg => rfl); (case hr => first | (go_simp; done) | (go_simp; rfl)); (case hp => exact (Reps.none _ _)); intro v105 w4 ho5 hb hg_ hnew_; clear hg_ hnew_; (first | rw [← Ny104.out] at ho5 | (simp only [Int.reduceToNat] at ho5; rw [← Ny104.out] at ho5)); have n0_ := Aside0.mk (Kd.R_elder' (by (with_reducible repeat (first | apply Kd.R_alloc | apply Kd.R_drewN | apply Kd.R_drew)); exact HO103.out) (Kd.R_base ho5) hb); have n1_ := Aside0.mk (Kd.R_lower (Kd.R_new' ho5 (Kd.R_lt (by (with_reducible repeat (first | apply Kd.R_alloc | apply Kd.R_drewN | apply Kd.R_drew)); exact HO103.out))) (below_size (by repeat (first | (with_reducible first | exact HB.out | apply below_alloc | apply pw_below_drewN | apply below_drew1) | exact HB.out)))); have n2_ := Aside0.mk (below_step (by repeat (first | (with_reducible first | exact HB.out | apply below_alloc | apply pw_below_drewN | apply below_drew1) | exact HB.out)) hb); clear HO103; clear HB; have HO103 := n0_; have HO106 := n1_; have HB := n2_; clear n0_ n1_ n2_; clear hb ho5))
 go_loopg [0, 3, 4, 5, 6] k (fun kq v0 v3 v4 v5 v6 w' => ∃ (x0_1 : Int) (x3_1 : List Int) (x4_1 : List Int) (x5_1 : Int) (x6_1 : Int), v0 = .int .i64 x0_1 ∧ v5 = .int .i64 x5_1 ∧ v6 = .int .i64 x6_1 ∧ Aside0 (spec_l06Images.l0 kq x0_1 x3_1 x4_1 x5_1 x6_1 = some r) ∧ Aside0 (kq ≤ k) ∧ Aside0 (Kd.R (Kd.int .i64) 2 w' w.heap.size (fun k_ => some k_ ≠ (v4 : Value).ownBlock) v3 x3_1) ∧ Aside0 (Kd.R (Kd.int .i64) 2 w' w.heap.size (fun k_ => some k_ ≠ (v3 : Value).ownBlock) v4 x4_1) ∧ Aside0 (Below w.heap.size w w'))
 case atStart => exact ⟨(a0), (y101), (y104), (6), (3), (by first | rfl | (simp; done) | (simp [*]; done)), (by first | rfl | (simp; done) | (simp [*]; done)), (by first | rfl | (simp; done) | (simp [*]; done)), H', ⟨yoy _⟩, ⟨by (with_reducible repeat (first | apply Kd.R_alloc | apply Kd.R_drewN | apply Kd.R_drew)); exact Kd.R_mono HO103.out (fun _ hk => hk.2)⟩, ⟨by (with_reducible repeat (first | apply Kd.R_alloc | apply Kd.R_drewN | apply Kd.R_drew)); exact Kd.R_mono HO106.out (fun _ hk => hk.2)⟩, ⟨by repeat (first | (with_reducible first | exact HB.out | apply below_alloc | apply pw_below_drewN | apply below_drew1) | exact HB.out)⟩⟩
 case round =>
  clear H'
  try clear p2
  try clear c4
  obtain ⟨x0_1, x3_1, x4_1, x5_1, x6_1, rfl, rfl, rfl, HA, HK1, HO_3, HO_4, HB⟩ := hrel
  cases gk with
  | zero => exact absurd HA.out (by simp [spec_l06Images.l0])
  | succ k1 =>
   have H := HA.out
   clear HA
   simp only [spec_l06Images.l0] at H
   by_cases c6 : x6_1 ≥ 0
   rotate_left
   next =>
    rw [if_neg c6] at H
    have c6b0 : decide (0 ≤ x6_1) = false := yhy c6
    clear c6
    obtain rfl := yey H
    go_wp2
    go_ret
    exact ⟨_, by first | rfl | (simp [errW_none, errW_some] <;> rfl) | (simp [*, errW_none, errW_some] <;> rfl), by (with_reducible repeat (first | apply Kd.R_alloc | apply Kd.R_drewN | apply Kd.R_drew)); exact Kd.R_mono HO_4.out (fun _ hk => trivial), by repeat (first | (with_reducible first | exact HB.out | apply below_alloc | apply pw_below_drewN | apply below_drew1) | exact HB.out)⟩
   rw [if_pos c6] at H
   have c6b0 : decide (0 ≤ x6_1) = true := ygy c6
   clear c6
   by_cases c7 : x5_1 = 0
   next =>
    rw [if_pos c7] at H
    exact absurd H (by simp)
   next =>
    rw [if_neg c7] at H
    have c7b0 : (x5_1 == 0) = false := beq_eq_false_iff_ne.mpr c7
    have c7b1 : (x5_1 != 0) = true := bne_iff_ne.mpr c7
    obtain ⟨ji8, hji8⟩ : ∃ j_ : Int, (wrap64 (Int.tdiv x0_1 x5_1)) = j_ := ⟨_, rfl⟩
    replace H : (if 0 ≤ (ji8) then (if (ji8) < (x3_1.length : Int) then (if x4_1.length < 17592186044416 then ((some (x4_1 ++ [rd x3_1 (ji8)] : List Int)).bind fun y108 => ((some (([] : List Int) : List Int)).bind fun y111 => (if (ji8) ≤ (x3_1.length : Int) then ((some (x3_1.take ((ji8) : Int).toNat : List Int)).bind fun y114 => (if y111.length + y114.length < 17592186044416 then ((some (y111 ++ y114 : List Int)).bind fun y118 => (if 0 ≤ (wrap64 ((ji8) + 1)) then (if (wrap64 ((ji8) + 1)) ≤ (x3_1.length : Int) then ((some (x3_1.drop ((wrap64 ((ji8) + 1)) : Int).toNat : List Int)).bind fun y121 => (if y118.length + y121.length < 17592186044416 then ((some (y118 ++ y121 : List Int)).bind fun y125 => (if x6_1 > 0 then (if x6_1 = 0 then (none) else (spec_l06Images.l0 k1 (Int.tmod x0_1 x5_1) y125 y108 (wrap64 (Int.tdiv x5_1 x6_1)) (wrap64 (x6_1 - 1)))) else (spec_l06Images.l0 k1 (Int.tmod x0_1 x5_1) y125 y108 x5_1 (wrap64 (x6_1 - 1))))) else (none))) else (none)) else (none))) else (none))) else (none)))) else (none)) else (none)) else (none)) = some r := by first | (rw [hji8] at H; exact H) | (simp only [hji8] at H ⊢; exact H)
    have hji8w : (IntKind.i64.wrap (Int.tdiv x0_1 x5_1)) = ji8 := (i64_w _).trans hji8
    by_cases c9 : 0 ≤ (ji8)
    rotate_left
    next =>
     rw [if_neg c9] at H
     exact absurd H (by simp)
    rw [if_pos c9] at H
    have c9b0 : decide (0 ≤ (ji8)) = true := ygy c9
    clear c9
    by_cases c10 : (ji8) < (x3_1.length : Int)
    rotate_left
    next =>
     rw [if_neg c10] at H
     exact absurd H (by simp)
    rw [if_pos c10] at H
    have c10b0 : decide ((ji8) < (x3_1.length : Int)) = true := ygy c10
    clear c10
    by_cases c11 : x4_1.length < 17592186044416
    rotate_left
    next =>
     rw [if_neg c11] at H
     exact absurd H (by simp)
    rw [if_pos c11] at H
    have LMc11 := Aside0.mk c11
    clear c11
    obtain ⟨y108, hy108⟩ : ∃ y_ : List Int, y_ = (x4_1 ++ [rd x3_1 (ji8)]) := ⟨_, rfl⟩
    replace H : ((some (([] : List Int) : List Int)).bind fun y111 => (if (ji8) ≤ (x3_1.length : Int) then ((some (x3_1.take ((ji8) : Int).toNat : List Int)).bind fun y114 => (if y111.length + y114.length < 17592186044416 then ((some (y111 ++ y114 : List Int)).bind fun y118 => (if 0 ≤ (wrap64 ((ji8) + 1)) then (if (wrap64 ((ji8) + 1)) ≤ (x3_1.length : Int) then ((some (x3_1.drop ((wrap64 ((ji8) + 1)) : Int).toNat : List Int)).bind fun y121 => (if y118.length + y121.length < 17592186044416 then ((some (y118 ++ y121 : List Int)).bind fun y125 => (if x6_1 > 0 then (if x6_1 = 0 then (none) else (spec_l06Images.l0 k1 (Int.tmod x0_1 x5_1) y125 y108 (wrap64 (Int.tdiv x5_1 x6_1)) (wrap64 (x6_1 - 1)))) else (spec_l06Images.l0 k1 (Int.tmod x0_1 x5_1) y125 y108 x5_1 (wrap64 (x6_1 - 1))))) else (none))) else (none)) else (none))) else (none))) else (none))) = some r := by first | (rw [hy108]; with_reducible exact H) | (have H2_ := (yfy _ _).symm.trans H; rw [hy108]; with_reducible exact H2_) | (have H2_ := (yfy _ _).symm.trans H; with_reducible exact H2_) | with_reducible exact H | (rw [hy108]; exact H) | exact H
    have Ny108 := Aside0.mk hy108
    clear hy108
    obtain ⟨y111, hy111⟩ : ∃ y_ : List Int, y_ = (([] : List Int)) := ⟨_, rfl⟩
    replace H : (if (ji8) ≤ (x3_1.length : Int) then ((some (x3_1.take ((ji8) : Int).toNat : List Int)).bind fun y114 => (if y111.length + y114.length < 17592186044416 then ((some (y111 ++ y114 : List Int)).bind fun y118 => (if 0 ≤ (wrap64 ((ji8) + 1)) then (if (wrap64 ((ji8) + 1)) ≤ (x3_1.length : Int) then ((some (x3_1.drop ((wrap64 ((ji8) + 1)) : Int).toNat : List Int)).bind fun y121 => (if y118.length + y121.length < 17592186044416 then ((some (y118 ++ y121 : List Int)).bind fun y125 => (if x6_1 > 0 then (if x6_1 = 0 then (none) else (spec_l06Images.l0 k1 (Int.tmod x0_1 x5_1) y125 y108 (wrap64 (Int.tdiv x5_1 x6_1)) (wrap64 (x6_1 - 1)))) else (spec_l06Images.l0 k1 (Int.tmod x0_1 x5_1) y125 y108 x5_1 (wrap64 (x6_1 - 1))))) else (none))) else (none)) else (none))) else (none))) else (none)) = some r := by first | (rw [hy111]; with_reducible exact H) | (have H2_ := (yfy _ _).symm.trans H; rw [hy111]; with_reducible exact H2_) | (have H2_ := (yfy _ _).symm.trans H; with_reducible exact H2_) | with_reducible exact H | (rw [hy111]; exact H) | exact H
    have Ny111 := Aside0.mk hy111
    clear hy111
    have c12b0 := eq_true (of_decide_eq_true (by first | (with_reducible assumption) | assumption) : 0 ≤ (ji8))
    by_cases c13 : (ji8) ≤ (x3_1.length : Int)
    rotate_left
    next =>
     rw [if_neg c13] at H
     exact absurd H (by simp)
    rw [if_pos c13] at H
    have c13b0 := eq_true c13
    have c13b1 : decide ((ji8) ≤ (x3_1.length : Int)) = true := ygy c13
    clear c13
    obtain ⟨y114, hy114⟩ : ∃ y_ : List Int, y_ = (x3_1.take ((ji8) : Int).toNat) := ⟨_, rfl⟩
    replace H : (if y111.length + y114.length < 17592186044416 then ((some (y111 ++ y114 : List Int)).bind fun y118 => (if 0 ≤ (wrap64 ((ji8) + 1)) then (if (wrap64 ((ji8) + 1)) ≤ (x3_1.length : Int) then ((some (x3_1.drop ((wrap64 ((ji8) + 1)) : Int).toNat : List Int)).bind fun y121 => (if y118.length + y121.length < 17592186044416 then ((some (y118 ++ y121 : List Int)).bind fun y125 => (if x6_1 > 0 then (if x6_1 = 0 then (none) else (spec_l06Images.l0 k1 (Int.tmod x0_1 x5_1) y125 y108 (wrap64 (Int.tdiv x5_1 x6_1)) (wrap64 (x6_1 - 1)))) else (spec_l06Images.l0 k1 (Int.tmod x0_1 x5_1) y125 y108 x5_1 (wrap64 (x6_1 - 1))))) else (none))) else (none)) else (none))) else (none)) = some r := by first | (rw [hy114]; with_reducible exact H) | (have H2_ := (yfy _ _).symm.trans H; rw [hy114]; with_reducible exact H2_) | (have H2_ := (yfy _ _).symm.trans H; with_reducible exact H2_) | with_reducible exact H | (rw [hy114]; exact H) | exact H
    have Ny114 := Aside0.mk hy114
    clear hy114
    by_cases c14 : y111.length + y114.length < 17592186044416
    rotate_left
    next =>
     rw [if_neg c14] at H
     exact absurd H (by simp)
    rw [if_pos c14] at H
    have LMc14 := Aside0.mk c14
    clear c14
    obtain ⟨y118, hy118⟩ : ∃ y_ : List Int, y_ = (y111 ++ y114) := ⟨_, rfl⟩
    replace H : (if 0 ≤ (wrap64 ((ji8) + 1)) then (if (wrap64 ((ji8) + 1)) ≤ (x3_1.length : Int) then ((some (x3_1.drop ((wrap64 ((ji8) + 1)) : Int).toNat : List Int)).bind fun y121 => (if y118.length + y121.length < 17592186044416 then ((some (y118 ++ y121 : List Int)).bind fun y125 => (if x6_1 > 0 then (if x6_1 = 0 then (none) else (spec_l06Images.l0 k1 (Int.tmod x0_1 x5_1) y125 y108 (wrap64 (Int.tdiv x5_1 x6_1)) (wrap64 (x6_1 - 1)))) else (spec_l06Images.l0 k1 (Int.tmod x0_1 x5_1) y125 y108 x5_1 (wrap64 (x6_1 - 1))))) else (none))) else (none)) else (none)) = some r := by first | (rw [hy118]; with_reducible exact H) | (have H2_ := (yfy _ _).symm.trans H; rw [hy118]; with_reducible exact H2_) | (have H2_ := (yfy _ _).symm.trans H; with_reducible exact H2_) | with_reducible exact H | (rw [hy118]; exact H) | exact H
    have Ny118 := Aside0.mk hy118
    clear hy118
    obtain ⟨ji15, hji15⟩ : ∃ j_ : Int, (wrap64 ((ji8) + 1)) = j_ := ⟨_, rfl⟩
    replace H : (if 0 ≤ (ji15) then (if (ji15) ≤ (x3_1.length : Int) then ((some (x3_1.drop ((ji15) : Int).toNat : List Int)).bind fun y121 => (if y118.length + y121.length < 17592186044416 then ((some (y118 ++ y121 : List Int)).bind fun y125 => (if x6_1 > 0 then (if x6_1 = 0 then (none) else (spec_l06Images.l0 k1 (Int.tmod x0_1 x5_1) y125 y108 (wrap64 (Int.tdiv x5_1 x6_1)) (wrap64 (x6_1 - 1)))) else (spec_l06Images.l0 k1 (Int.tmod x0_1 x5_1) y125 y108 x5_1 (wrap64 (x6_1 - 1))))) else (none))) else (none)) else (none)) = some r := by first | (rw [hji15] at H; exact H) | (simp only [hji15] at H ⊢; exact H)
    have hji15w : (IntKind.i64.wrap ((ji8) + 1)) = ji15 := (i64_w _).trans hji15
    by_cases c16 : 0 ≤ (ji15)
    rotate_left
    next =>
     rw [if_neg c16] at H
     exact absurd H (by simp)
    rw [if_pos c16] at H
    have c16b0 := eq_true c16
    have c16b1 : decide (0 ≤ (ji15)) = true := ygy c16
    clear c16
    by_cases c17 : (ji15) ≤ (x3_1.length : Int)
    rotate_left
    next =>
     rw [if_neg c17] at H
     exact absurd H (by simp)
    rw [if_pos c17] at H
    have c17b0 := eq_true c17
    have c17b1 : decide ((ji15) ≤ (x3_1.length : Int)) = true := ygy c17
    clear c17
    obtain ⟨y121, hy121⟩ : ∃ y_ : List Int, y_ = (x3_1.drop ((ji15) : Int).toNat) := ⟨_, rfl⟩
    replace H : (if y118.length + y121.length < 17592186044416 then ((some (y118 ++ y121 : List Int)).bind fun y125 => (if x6_1 > 0 then (if x6_1 = 0 then (none) else (spec_l06Images.l0 k1 (Int.tmod x0_1 x5_1) y125 y108 (wrap64 (Int.tdiv x5_1 x6_1)) (wrap64 (x6_1 - 1)))) else (spec_l06Images.l0 k1 (Int.tmod x0_1 x5_1) y125 y108 x5_1 (wrap64 (x6_1 - 1))))) else (none)) = some r := by first | (rw [hy121]; with_reducible exact H) | (have H2_ := (yfy _ _).symm.trans H; rw [hy121]; with_reducible exact H2_) | (have H2_ := (yfy _ _).symm.trans H; with_reducible exact H2_) | with_reducible exact H | (rw [hy121]; exact H) | exact H
    have Ny121 := Aside0.mk hy121
    clear hy121
    by_cases c18 : y118.length + y121.length < 17592186044416
    rotate_left
    next =>
     rw [if_neg c18] at H
     exact absurd H (by simp)
    rw [if_pos c18] at H
    have LMc18 := Aside0.mk c18
    clear c18
    obtain ⟨y125, hy125⟩ : ∃ y_ : List Int, y_ = (y118 ++ y121) := ⟨_, rfl⟩
    replace H : (if x6_1 > 0 then (if x6_1 = 0 then (none) else (spec_l06Images.l0 k1 (Int.tmod x0_1 x5_1) y125 y108 (wrap64 (Int.tdiv x5_1 x6_1)) (wrap64 (x6_1 - 1)))) else (spec_l06Images.l0 k1 (Int.tmod x0_1 x5_1) y125 y108 x5_1 (wrap64 (x6_1 - 1)))) = some r := by first | (rw [hy125]; with_reducible exact H) | (have H2_ := (yfy _ _).symm.trans H; rw [hy125]; with_reducible exact H2_) | (have H2_ := (yfy _ _).symm.trans H; with_reducible exact H2_) | with_reducible exact H | (rw [hy125]; exact H) | exact H
    have Ny125 := Aside0.mk hy125
    clear hy125
    by_cases c19 : x6_1 > 0
    rotate_left
    next =>
     rw [if_neg c19] at H
     have c19b0 : decide (0 < x6_1) = false := yhy c19
     clear c19
     have H' := Aside0.mk H
     clear H
     obtain ⟨Ao30, co30, eo30⟩ := Kd.R_slice HO_3.out
     subst eo30
     have p107 : 0 ≤ ((ji8) : Int) := of_decide_eq_true (by first | (with_reducible assumption) | assumption)
     have q107 : (ji8) < (x3_1.length : Int) := of_decide_eq_true (by first | (with_reducible assumption) | assumption)
     obtain ⟨ad107, e107, hx107_0⟩ := Kd.at_int (Kd.R_reads' HO_3.out).2.2 (ji8) p107 q107
     cases e107
     replace p107 := eq_true p107
     replace q107 := eq_true q107
     try go_wp2_with (first | ((with_reducible refine gate_builtin (b := .append) (xs := #[.tmp 20, .tmp 25]) rfl ?_); at_builtin; refine Kd.R_append (Kd.int .i64) (w0 := w) w.heap.size rfl (.tmp 20) (.tmp 25) 44 2 (.int .i64 0) 8 rfl Try.underlying44 info2 rfl (by decide) (by omega) u4 x4_1 (rd x3_1 (ji8)) [.int .i64 (rd x3_1 (ji8))] (fun k_ => some k_ ≠ (.slice (some ad107) x3_1.length co30 : Value).ownBlock) (fun _ => False) rfl rfl ?aP (fun _ hk => hk.elim) ?aF ?aO ?aB ?aS ?aL ?_; (case aP => exact rfl); (case aB => exact (by repeat (first | (with_reducible first | exact HB.out | apply below_alloc | apply pw_below_drewN | apply below_drew1) | exact HB.out))); (case aF => exact (fun k_ hk => Kd.fresh' (Kd.R_lt (by (with_reducible repeat (first | apply Kd.R_alloc | apply Kd.R_drewN | apply Kd.R_drew)); exact HO_3.out)) k_ hk)); (case aO => exact (by (with_reducible repeat (first | apply Kd.R_alloc | apply Kd.R_drewN | apply Kd.R_drew)); exact HO_4.out)); (case aS => exact (below_size (by repeat (first | (with_reducible first | exact HB.out | apply below_alloc | apply pw_below_drewN | apply below_drew1) | exact HB.out)))); (case aL => have := LMc11.out; omega); intro v109 w31 ho hb hg hat; rw [← Ny108.out] at ho; have n0_ := Aside0.mk (Kd.R_after (ok := (fun _ => True)) (by (with_reducible repeat (first | apply Kd.R_alloc | apply Kd.R_drewN | apply Kd.R_drew)); exact Kd.R_mono HO_3.out (fun _ hk => ⟨trivial, hk⟩)) hg hat); have n1_ := Aside0.mk (hb); have n2_ := Aside0.mk (ho); clear HO_3; clear HB; clear HO_4; have HO_3 := n0_; have HB := n1_; have HO110 := n2_; clear n0_ n1_ n2_; clear ho hb hg hat))
     have n0_ := Aside0.mk (Kd.R_drew HO_3.out)
     have n1_ := Aside0.mk (Kd.R_drew HO110.out)
     have n2_ := Aside0.mk (below_drew1 HB.out)
     clear HO_3
     clear HO110
     clear HB
     have HO_3 := n0_
     have HO110 := n1_
     have HB := n2_
     clear n0_ n1_ n2_
     have q33 : ((ji8) : Int) ≤ ((x3_1.length : Int) : Int) := of_decide_eq_true (by first | (with_reducible assumption) | assumption)
     obtain ⟨i033, hi033, _, hsz33, _⟩ := info_parts info2
     have hroom33 : x3_1.length ≤ co30 := (Kd.R_reads' HO_3.out).2.1
     have hC33 : Kd.C (Kd.int .i64) _ (some ad107) x3_1.length x3_1 := (Kd.R_reads' HO_3.out).2.2
     have hcut33 := cut_to (P := Try.prog) 44 2 .i64 Try.underlying44 hi033 (some ad107) x3_1.length co30 (ji8) (of_decide_eq_true (by first | (with_reducible assumption) | assumption)) q33 hroom33
     have hr33 := Kd.C_take (m := ((ji8) : Int).toNat) hC33 (by omega)
     have hy33 : y114.length = ((ji8) : Int).toNat := (by rw [Ny114.out, ymy]; omega)
     rw [← Ny114.out] at hr33
     rw [← hy33] at hcut33
     have HR117 := Aside0.mk hr33
     have HC117 := Aside0.mk (show y114.length ≤ co30 from by omega)
     clear hr33 hC33 hroom33 hi033 hsz33
     have KY33 := Aside0.mk hy33
     clear hy33
     have KL33 := Aside0.mk (show ((ji8) : Int).toNat ≤ x3_1.length from by omega)
     replace q33 := eq_true q33
     have q34 : ((ji15) : Int) ≤ ((x3_1.length : Int) : Int) := of_decide_eq_true (by first | (with_reducible assumption) | assumption)
     obtain ⟨i034, hi034, _, hsz34, _⟩ := info_parts info2
     have hroom34 : x3_1.length ≤ co30 := (Kd.R_reads' HO_3.out).2.1
     have hC34 : Kd.C (Kd.int .i64) _ (some ad107) x3_1.length x3_1 := (Kd.R_reads' HO_3.out).2.2
     have q034 : (0 : Int) ≤ ((ji15) : Int) := of_decide_eq_true (by first | (with_reducible assumption) | assumption)
     have hcut34 := cut_from (P := Try.prog) 44 2 .i64 Try.underlying44 hi034 1 hsz34 (some ad107) x3_1.length co30 (ji15) q034 q34
     have hr34 := Kd.C_drop (m := ((ji15) : Int).toNat) (c := co30) hC34 (by omega) hroom34
     obtain ⟨A34, hA34⟩ : ∃ A1, A1 = (if co30 = ((ji15) : Int).toNat then (some ad107) else ((some ad107) : Option Addr).map (·.add (((ji15) : Int).toNat * 1))) := ⟨_, rfl⟩
     obtain ⟨c34, hc34⟩ : ∃ c1, c1 = co30 - ((ji15) : Int).toNat := ⟨_, rfl⟩
     have hy34 : y121.length = x3_1.length - ((ji15) : Int).toNat := (by rw [Ny121.out, yly] <;> omega)
     rw [show (x3_1).drop ((ji15) : Int).toNat = y121 from Ny121.out.symm] at hr34
     replace hr34 : Kd.C (Kd.int .i64) _ A34 y121.length y121 := (by rw [hA34]; exact hr34)
     rw [← hy34, ← hA34, ← hc34] at hcut34
     have HR124 := Aside0.mk hr34
     have HC124 := Aside0.mk (show y121.length ≤ c34 from by rw [hy34, hc34]; exact Nat.sub_le_sub_right hroom34 _)
     clear hr34 hC34 hroom34 hi034 hsz34 hc34
     have KY34 := Aside0.mk hy34
     have KA34 := Aside0.mk hA34
     clear hy34 hA34
     have KL34 := Aside0.mk (show ((ji15) : Int).toNat ≤ x3_1.length from by omega)
     replace q34 := eq_true q34
     refine start_ (n := 11) (S := fun w' => True) (ds := []) #[false, false, false, false, false, false, false, false, false, false, false] (by kernel_rfl) rfl rfl trivial (fun hHeld => ?_); refine with_tabW spec_l06Images.tab10 spec_l06Images.bits10 (fun HT_ HW_ => ?_)
     generalize w31.drew = w32 at HO_3 HO110 HB HR117 HR124 hHeld ⊢
     refine pure_ (i := 1) (N := some 28) (v := ?_) (a' := ?_) #[false, true, false, false, false, false, false, false, false, false, false] rfl rfl (any_of HT_.out (by kernel_rfl)) (fun _ _ _ h => h) (Or.inl ⟨by rfl, ?_⟩) ?_ ?_
     rotate_left
     next =>
      intro w'
      go_simp
      with_reducible rfl
     rotate_left
     next =>
      simp only [Act.put, yay, yby, ycy, i64_w, i32_w]
      rfl
     refine pure_ (i := 2) (N := some 29) (v := ?_) (a' := ?_) #[false, true, true, false, false, false, false, false, false, false, false] rfl rfl (any_of HT_.out (by kernel_rfl)) (fun _ _ _ h => h) (Or.inl ⟨by rfl, ?_⟩) ?_ ?_
     rotate_left
     next =>
      intro w'
      go_simp
      with_reducible rfl
     rotate_left
     next =>
      simp only [Act.put, yay, yby, ycy, i64_w, i32_w]
      rfl
     refine pure_ (i := 3) (N := some 30) (v := ?_) (a' := ?_) #[false, true, true, true, false, false, false, false, false, false, false] rfl rfl (any_of HT_.out (by kernel_rfl)) (fun _ _ _ h => h) (Or.inl ⟨by rfl, ?_⟩) ?_ ?_
     rotate_left
     next =>
      intro w'
      go_simp
      with_reducible rfl
     rotate_left
     next =>
      simp only [Act.put, yay, yby, ycy, i64_w, i32_w]
      rfl
     refine pure_ (i := 5) (N := some 32) (v := ?_) (a' := ?_) #[false, true, true, true, false, true, false, false, false, false, false] rfl rfl (any_of HT_.out (by kernel_rfl)) (fun _ _ _ h => h) (Or.inl ⟨by rfl, ?_⟩) ?_ ?_
     rotate_left
     next =>
      intro w'
      go_simp
      with_reducible rfl
     rotate_left
     next =>
      simp only [Act.put, yay, yby, ycy, i64_w, i32_w]
      rfl
     refine pure_ (i := 6) (N := some 33) (v := ?_) (a' := ?_) #[false, true, true, true, false, true, true, false, false, false, false] rfl rfl (any_of HT_.out (by kernel_rfl)) (fun _ _ _ h => h) (Or.inl ⟨by rfl, ?_⟩) ?_ ?_
     rotate_left
     next =>
      intro w'
      go_simp
      with_reducible rfl
     rotate_left
     next =>
      simp only [Act.put, yay, yby, ycy, i64_w, i32_w]
      rfl
     refine pure_ (i := 7) (N := some 34) (v := ?_) (a' := ?_) #[false, true, true, true, false, true, true, true, false, false, false] rfl rfl (any_of HT_.out (by kernel_rfl)) (fun _ _ _ h => h) (Or.inl ⟨by rfl, ?_⟩) ?_ ?_
     rotate_left
     next =>
      intro w'
      go_simp
      with_reducible rfl
     rotate_left
     next =>
      simp only [Act.put, yay, yby, ycy, i64_w, i32_w]
      rfl
     refine pure_ (i := 8) (N := some 35) (v := ?_) (a' := ?_) #[false, true, true, true, false, true, true, true, true, false, false] rfl rfl (any_of HT_.out (by kernel_rfl)) (fun _ _ _ h => h) (Or.inl ⟨by rfl, ?_⟩) ?_ ?_
     rotate_left
     next =>
      intro w'
      go_simp
      with_reducible rfl
     rotate_left
     next =>
      simp only [Act.put, yay, yby, ycy, i64_w, i32_w]
      rfl
     refine one_ (i := 0) (N := some 27) #[true, true, true, true, false, true, true, true, true, false, false] rfl rfl (one_of HT_.out (by kernel_rfl)) (by decide) (fun K hK => ?_)
     refine Kd.R_lit_step (Kd.int .i64) _ 2 ?hg (N := 27) ?hd (xs := ([] : List Int)) (inner := []) (ok := fun _ => True) (okp := fun _ => True) ?hr ?hp (fun _ hk => hk) trivial (Below.refl _ _) (yoy _) (by simp) ?_; (case hd => rfl); (case hg => rfl); (case hr => first | (go_simp; done) | (go_simp; rfl)); (case hp => exact (Reps.none _ _))
     intro v112 w35 ho36 hb hg_ hnew_
     clear hg_ hnew_
     (first | rw [← Ny111.out] at ho36 | (simp only [Int.reduceToNat] at ho36; rw [← Ny111.out] at ho36))
     have n0_ := Aside0.mk (Kd.R_elder' (by (with_reducible repeat (first | apply Kd.R_alloc | apply Kd.R_drewN | apply Kd.R_drew)); exact HO_3.out) (Kd.R_base ho36) hb)
     have n1_ := Aside0.mk (Kd.R_elder' (by (with_reducible repeat (first | apply Kd.R_alloc | apply Kd.R_drewN | apply Kd.R_drew)); exact HO110.out) (Kd.R_base ho36) hb)
     have n2_ := Aside0.mk (Kd.R_lower (Kd.R_new' (Kd.R_new' ho36 (Kd.R_lt (by (with_reducible repeat (first | apply Kd.R_alloc | apply Kd.R_drewN | apply Kd.R_drew)); exact HO_3.out))) (Kd.R_lt (by (with_reducible repeat (first | apply Kd.R_alloc | apply Kd.R_drewN | apply Kd.R_drew)); exact HO110.out))) (below_size (by repeat (first | (with_reducible first | exact HB.out | apply below_alloc | apply pw_below_drewN | apply below_drew1) | exact HB.out))))
     have n3_ := Aside0.mk (Kd.C_below (by repeat (first | (with_reducible exact HR117.out) | (with_reducible refine Kd.C_alloc ?_ _) | (with_reducible refine Kd.C_drewN ?_ _) | (with_reducible refine Kd.C_drew ?_) | exact HR117.out)) hb)
     have n4_ := Aside0.mk (Kd.C_below (by repeat (first | (with_reducible exact HR124.out) | (with_reducible refine Kd.C_alloc ?_ _) | (with_reducible refine Kd.C_drewN ?_ _) | (with_reducible refine Kd.C_drew ?_) | exact HR124.out)) hb)
     have n5_ := Aside0.mk (below_step (by repeat (first | (with_reducible first | exact HB.out | apply below_alloc | apply pw_below_drewN | apply below_drew1) | exact HB.out)) hb)
     clear HO_3
     clear HO110
     clear HR117
     clear HR124
     clear HB
     have HO_3 := n0_
     have HO110 := n1_
     have HO113 := n2_
     have HR117 := n3_
     have HR124 := n4_
     have HB := n5_
     clear n0_ n1_ n2_ n3_ n4_ n5_
     clear hb ho36
     refine hK.out _ _ trivial (fun hHeld => ?_)
     clear hK K
     refine norm_ (a' := ?_) ?_ ?_
     rotate_left
     next =>
      show Act.put _ (some 27) _ = _
      simp only [Act.put, yay, yby, ycy, i64_w, i32_w]
      rfl
     refine one_ (i := 4) (N := some 31) #[true, true, true, true, true, true, true, true, true, false, false] rfl rfl (one_of HT_.out (by kernel_rfl)) (by decide) (fun K hK => ?_)
     refine Kd.R_append_rows_step (Kd.int .i64) (w0 := w) w.heap.size (by rfl) (.tmp 27) (.tmp 30) 44 2 (.int .i64 0) 8 rfl Try.underlying44 info2 rfl (by decide) (by omega) v112 y111 y114 _ _ _ (fun k_ => some k_ ≠ (.slice (some ad107) x3_1.length co30 : Value).ownBlock ∧ some k_ ≠ (v109 : Value).ownBlock) (fun _ => False) rfl rfl ?aO ?aR (fun _ _ h => h) (fun _ h => h.elim) ?aF ?aB ?aS ?aL ?_
     (case aR => repeat (first | exact (by repeat (first | (with_reducible exact HR117.out) | (with_reducible refine Kd.C_alloc ?_ _) | (with_reducible refine Kd.C_drewN ?_ _) | (with_reducible refine Kd.C_drew ?_) | exact HR117.out)) | (with_reducible refine Kd.C_alloc ?_ _) | (with_reducible refine Kd.C_drewN ?_ _) | (with_reducible refine Kd.C_drew ?_)))
     (case aB => exact (by repeat (first | (with_reducible first | exact HB.out | apply below_alloc | apply pw_below_drewN | apply below_drew1) | exact HB.out)))
     (case aF => exact (fun k_ hk => ⟨Kd.fresh' (Kd.R_lt (by (with_reducible repeat (first | apply Kd.R_alloc | apply Kd.R_drewN | apply Kd.R_drew)); exact HO_3.out)) k_ hk, Kd.fresh' (Kd.R_lt (by (with_reducible repeat (first | apply Kd.R_alloc | apply Kd.R_drewN | apply Kd.R_drew)); exact HO110.out)) k_ hk⟩))
     (case aO => exact (by (with_reducible repeat (first | apply Kd.R_alloc | apply Kd.R_drewN | apply Kd.R_drew)); exact Kd.R_mono HO113.out (fun _ hk => ⟨hk.1.2, hk.2⟩)))
     (case aS => exact (below_size (by repeat (first | (with_reducible first | exact HB.out | apply below_alloc | apply pw_below_drewN | apply below_drew1) | exact HB.out))))
     (case aL => have := LMc14.out; omega)
     intro v119 w37 ho hb hg hat
     rw [← Ny118.out] at ho
     have n0_ := Aside0.mk (Kd.R_after (ok := (fun k_ => some k_ ≠ (v109 : Value).ownBlock)) (by (with_reducible repeat (first | apply Kd.R_alloc | apply Kd.R_drewN | apply Kd.R_drew)); exact Kd.R_mono HO_3.out (fun _ hk => ⟨hk.1.2, hk.2⟩)) hg hat)
     have n1_ := Aside0.mk (Kd.R_after (ok := (fun k_ => some k_ ≠ (.slice (some ad107) x3_1.length co30 : Value).ownBlock)) (by (with_reducible repeat (first | apply Kd.R_alloc | apply Kd.R_drewN | apply Kd.R_drew)); exact HO110.out) hg hat)
     have n2_ := Aside0.mk (hb)
     have n3_ := Aside0.mk ((show Kd.C (Kd.int .i64) w37 (some ad107) y114.length y114 from by rw [Ny114.out]; exact Kd.C_take (m := ((ji8) : Int).toNat) ((Kd.R_reads' (Kd.R_after (ok := (fun k_ => some k_ ≠ (v109 : Value).ownBlock)) (by (with_reducible repeat (first | apply Kd.R_alloc | apply Kd.R_drewN | apply Kd.R_drew)); exact Kd.R_mono HO_3.out (fun _ hk => ⟨hk.1.2, hk.2⟩)) hg hat)).2.2) KL33.out))
     have n4_ := Aside0.mk ((show Kd.C (Kd.int .i64) w37 A34 y121.length y121 from by rw [Ny121.out, KA34.out]; exact Kd.C_drop (m := ((ji15) : Int).toNat) (c := co30) ((Kd.R_reads' (Kd.R_after (ok := (fun k_ => some k_ ≠ (v109 : Value).ownBlock)) (by (with_reducible repeat (first | apply Kd.R_alloc | apply Kd.R_drewN | apply Kd.R_drew)); exact Kd.R_mono HO_3.out (fun _ hk => ⟨hk.1.2, hk.2⟩)) hg hat)).2.2) KL34.out ((Kd.R_reads' (Kd.R_after (ok := (fun k_ => some k_ ≠ (v109 : Value).ownBlock)) (by (with_reducible repeat (first | apply Kd.R_alloc | apply Kd.R_drewN | apply Kd.R_drew)); exact Kd.R_mono HO_3.out (fun _ hk => ⟨hk.1.2, hk.2⟩)) hg hat)).2.1)))
     have n5_ := Aside0.mk (ho)
     clear HO_3
     clear HO110
     clear HB
     clear HR117
     clear HR124
     clear HO113
     have HO_3 := n0_
     have HO110 := n1_
     have HB := n2_
     have HR117 := n3_
     have HR124 := n4_
     have HO120 := n5_
     clear n0_ n1_ n2_ n3_ n4_ n5_
     clear ho hb hg hat
     refine hK.out _ _ trivial (fun hHeld => ?_)
     clear hK K
     refine norm_ (a' := ?_) ?_ ?_
     rotate_left
     next =>
      show Act.put _ (some 31) _ = _
      simp only [Act.put, yay, yby, ycy, i64_w, i32_w]
      rfl
     refine one_ (i := 9) (N := some 36) #[true, true, true, true, true, true, true, true, true, true, false] rfl rfl (one_of HT_.out (by kernel_rfl)) (by decide) (fun K hK => ?_)
     refine Kd.R_append_rows_step (Kd.int .i64) (w0 := w) w.heap.size (by rfl) (.tmp 31) (.tmp 35) 44 2 (.int .i64 0) 8 rfl Try.underlying44 info2 rfl (by decide) (by omega) v119 y118 y121 _ _ _ (fun k_ => some k_ ≠ (.slice (some ad107) x3_1.length co30 : Value).ownBlock ∧ some k_ ≠ (v109 : Value).ownBlock) (fun _ => False) rfl rfl ?aO ?aR (fun _ _ h => h) (fun _ h => h.elim) ?aF ?aB ?aS ?aL ?_
     (case aR => repeat (first | exact (by repeat (first | (with_reducible exact HR124.out) | (with_reducible refine Kd.C_alloc ?_ _) | (with_reducible refine Kd.C_drewN ?_ _) | (with_reducible refine Kd.C_drew ?_) | exact HR124.out)) | (with_reducible refine Kd.C_alloc ?_ _) | (with_reducible refine Kd.C_drewN ?_ _) | (with_reducible refine Kd.C_drew ?_)))
     (case aB => exact (by repeat (first | (with_reducible first | exact HB.out | apply below_alloc | apply pw_below_drewN | apply below_drew1) | exact HB.out)))
     (case aF => exact (fun k_ hk => ⟨Kd.fresh' (Kd.R_lt (by (with_reducible repeat (first | apply Kd.R_alloc | apply Kd.R_drewN | apply Kd.R_drew)); exact HO_3.out)) k_ hk, Kd.fresh' (Kd.R_lt (by (with_reducible repeat (first | apply Kd.R_alloc | apply Kd.R_drewN | apply Kd.R_drew)); exact HO110.out)) k_ hk⟩))
     (case aO => exact (by (with_reducible repeat (first | apply Kd.R_alloc | apply Kd.R_drewN | apply Kd.R_drew)); exact HO120.out))
     (case aS => exact (below_size (by repeat (first | (with_reducible first | exact HB.out | apply below_alloc | apply pw_below_drewN | apply below_drew1) | exact HB.out))))
     (case aL => have := LMc18.out; omega)
     intro v126 w38 ho hb hg hat
     rw [← Ny125.out] at ho
     have n0_ := Aside0.mk (Kd.R_after (ok := (fun k_ => some k_ ≠ (v109 : Value).ownBlock)) (by (with_reducible repeat (first | apply Kd.R_alloc | apply Kd.R_drewN | apply Kd.R_drew)); exact HO_3.out) hg hat)
     have n1_ := Aside0.mk (Kd.R_after (ok := (fun k_ => some k_ ≠ (.slice (some ad107) x3_1.length co30 : Value).ownBlock)) (by (with_reducible repeat (first | apply Kd.R_alloc | apply Kd.R_drewN | apply Kd.R_drew)); exact HO110.out) hg hat)
     have n2_ := Aside0.mk (hb)
     have n3_ := Aside0.mk ((show Kd.C (Kd.int .i64) w38 (some ad107) y114.length y114 from by rw [Ny114.out]; exact Kd.C_take (m := ((ji8) : Int).toNat) ((Kd.R_reads' (Kd.R_after (ok := (fun k_ => some k_ ≠ (v109 : Value).ownBlock)) (by (with_reducible repeat (first | apply Kd.R_alloc | apply Kd.R_drewN | apply Kd.R_drew)); exact HO_3.out) hg hat)).2.2) KL33.out))
     have n4_ := Aside0.mk ((show Kd.C (Kd.int .i64) w38 A34 y121.length y121 from by rw [Ny121.out, KA34.out]; exact Kd.C_drop (m := ((ji15) : Int).toNat) (c := co30) ((Kd.R_reads' (Kd.R_after (ok := (fun k_ => some k_ ≠ (v109 : Value).ownBlock)) (by (with_reducible repeat (first | apply Kd.R_alloc | apply Kd.R_drewN | apply Kd.R_drew)); exact HO_3.out) hg hat)).2.2) KL34.out ((Kd.R_reads' (Kd.R_after (ok := (fun k_ => some k_ ≠ (v109 : Value).ownBlock)) (by (with_reducible repeat (first | apply Kd.R_alloc | apply Kd.R_drewN | apply Kd.R_drew)); exact HO_3.out) hg hat)).2.1)))
     have n5_ := Aside0.mk (ho)
     clear HO_3
     clear HO110
     clear HB
     clear HR117
     clear HR124
     clear HO120
     have HO_3 := n0_
     have HO110 := n1_
     have HB := n2_
     have HR117 := n3_
     have HR124 := n4_
     have HO127 := n5_
     clear n0_ n1_ n2_ n3_ n4_ n5_
     clear ho hb hg hat
     refine hK.out _ _ trivial (fun hHeld => ?_)
     clear hK K
     refine norm_ (a' := ?_) ?_ ?_
     rotate_left
     next =>
      show Act.put _ (some 36) _ = _
      simp only [Act.put, yay, yby, ycy, i64_w, i32_w]
      rfl
     refine pure_ (i := 10) (N := some 3) (v := ?_) (a' := ?_) #[true, true, true, true, true, true, true, true, true, true, true] rfl rfl (any_of HT_.out (by kernel_rfl)) (fun _ _ _ h => h) (Or.inl ⟨by rfl, ?_⟩) ?_ ?_
     rotate_left
     next =>
      intro w'
      go_simp
      with_reducible rfl
     rotate_left
     next =>
      simp only [Act.put, yay, yby, ycy, i64_w, i32_w]
      rfl
     refine done_ (done_of HT_.out (by kernel_rfl)) ?_
     try go_wp2
     go_roundg k1
     case measure => have := HK1.out; omega
     case rel => exact ⟨(Int.tmod x0_1 x5_1), (y125), (y108), (x5_1), (wrap64 (x6_1 - 1)), (by first | rfl | (simp; done) | (simp [*]; done)), (by first | rfl | (simp; done) | (simp [*]; done)), (by first | rfl | (simp; done) | (simp [*]; done)), H', ⟨by have := HK1.out; omega⟩, ⟨by (with_reducible repeat (first | apply Kd.R_alloc | apply Kd.R_drewN | apply Kd.R_drew)); exact Kd.R_mono HO127.out (fun _ hk => hk.2)⟩, ⟨by (with_reducible repeat (first | apply Kd.R_alloc | apply Kd.R_drewN | apply Kd.R_drew)); exact Kd.R_mono HO110.out (fun _ hk => hk.2)⟩, ⟨by repeat (first | (with_reducible first | exact HB.out | apply below_alloc | apply pw_below_drewN | apply below_drew1) | exact HB.out)⟩⟩
    rw [if_pos c19] at H
    have c19b0 : decide (0 < x6_1) = true := ygy c19
    clear c19
    by_cases c20 : x6_1 = 0
    next =>
     rw [if_pos c20] at H
     exact absurd H (by simp)
    next =>
     rw [if_neg c20] at H
     have c20b0 : (x6_1 == 0) = false := beq_eq_false_iff_ne.mpr c20
     have c20b1 : (x6_1 != 0) = true := bne_iff_ne.mpr c20
     have H' := Aside0.mk H
     clear H
     obtain ⟨Ao21, co21, eo21⟩ := Kd.R_slice HO_3.out
     subst eo21
     have p107 : 0 ≤ ((ji8) : Int) := of_decide_eq_true (by first | (with_reducible assumption) | assumption)
     have q107 : (ji8) < (x3_1.length : Int) := of_decide_eq_true (by first | (with_reducible assumption) | assumption)
     obtain ⟨ad107, e107, hx107_0⟩ := Kd.at_int (Kd.R_reads' HO_3.out).2.2 (ji8) p107 q107
     cases e107
     replace p107 := eq_true p107
     replace q107 := eq_true q107
     try go_wp2_with (first | ((with_reducible refine gate_builtin (b := .append) (xs := #[.tmp 20, .tmp 25]) rfl ?_); at_builtin; refine Kd.R_append (Kd.int .i64) (w0 := w) w.heap.size rfl (.tmp 20) (.tmp 25) 44 2 (.int .i64 0) 8 rfl Try.underlying44 info2 rfl (by decide) (by omega) u4 x4_1 (rd x3_1 (ji8)) [.int .i64 (rd x3_1 (ji8))] (fun k_ => some k_ ≠ (.slice (some ad107) x3_1.length co21 : Value).ownBlock) (fun _ => False) rfl rfl ?aP (fun _ hk => hk.elim) ?aF ?aO ?aB ?aS ?aL ?_; (case aP => exact rfl); (case aB => exact (by repeat (first | (with_reducible first | exact HB.out | apply below_alloc | apply pw_below_drewN | apply below_drew1) | exact HB.out))); (case aF => exact (fun k_ hk => Kd.fresh' (Kd.R_lt (by (with_reducible repeat (first | apply Kd.R_alloc | apply Kd.R_drewN | apply Kd.R_drew)); exact HO_3.out)) k_ hk)); (case aO => exact (by (with_reducible repeat (first | apply Kd.R_alloc | apply Kd.R_drewN | apply Kd.R_drew)); exact HO_4.out)); (case aS => exact (below_size (by repeat (first | (with_reducible first | exact HB.out | apply below_alloc | apply pw_below_drewN | apply below_drew1) | exact HB.out)))); (case aL => have := LMc11.out; omega); intro v109 w22 ho hb hg hat; rw [← Ny108.out] at ho; have n0_ := Aside0.mk (Kd.R_after (ok := (fun _ => True)) (by (with_reducible repeat (first | apply Kd.R_alloc | apply Kd.R_drewN | apply Kd.R_drew)); exact Kd.R_mono HO_3.out (fun _ hk => ⟨trivial, hk⟩)) hg hat); have n1_ := Aside0.mk (hb); have n2_ := Aside0.mk (ho); clear HO_3; clear HB; clear HO_4; have HO_3 := n0_; have HB := n1_; have HO110 := n2_; clear n0_ n1_ n2_; clear ho hb hg hat))
     have n0_ := Aside0.mk (Kd.R_drew HO_3.out)
     have n1_ := Aside0.mk (Kd.R_drew HO110.out)
     have n2_ := Aside0.mk (below_drew1 HB.out)
     clear HO_3
     clear HO110
     clear HB
     have HO_3 := n0_
     have HO110 := n1_
     have HB := n2_
     clear n0_ n1_ n2_
     have q24 : ((ji8) : Int) ≤ ((x3_1.length : Int) : Int) := of_decide_eq_true (by first | (with_reducible assumption) | assumption)
     obtain ⟨i024, hi024, _, hsz24, _⟩ := info_parts info2
     have hroom24 : x3_1.length ≤ co21 := (Kd.R_reads' HO_3.out).2.1
     have hC24 : Kd.C (Kd.int .i64) _ (some ad107) x3_1.length x3_1 := (Kd.R_reads' HO_3.out).2.2
     have hcut24 := cut_to (P := Try.prog) 44 2 .i64 Try.underlying44 hi024 (some ad107) x3_1.length co21 (ji8) (of_decide_eq_true (by first | (with_reducible assumption) | assumption)) q24 hroom24
     have hr24 := Kd.C_take (m := ((ji8) : Int).toNat) hC24 (by omega)
     have hy24 : y114.length = ((ji8) : Int).toNat := (by rw [Ny114.out, ymy]; omega)
     rw [← Ny114.out] at hr24
     rw [← hy24] at hcut24
     have HR117 := Aside0.mk hr24
     have HC117 := Aside0.mk (show y114.length ≤ co21 from by omega)
     clear hr24 hC24 hroom24 hi024 hsz24
     have KY24 := Aside0.mk hy24
     clear hy24
     have KL24 := Aside0.mk (show ((ji8) : Int).toNat ≤ x3_1.length from by omega)
     replace q24 := eq_true q24
     have q25 : ((ji15) : Int) ≤ ((x3_1.length : Int) : Int) := of_decide_eq_true (by first | (with_reducible assumption) | assumption)
     obtain ⟨i025, hi025, _, hsz25, _⟩ := info_parts info2
     have hroom25 : x3_1.length ≤ co21 := (Kd.R_reads' HO_3.out).2.1
     have hC25 : Kd.C (Kd.int .i64) _ (some ad107) x3_1.length x3_1 := (Kd.R_reads' HO_3.out).2.2
     have q025 : (0 : Int) ≤ ((ji15) : Int) := of_decide_eq_true (by first | (with_reducible assumption) | assumption)
     have hcut25 := cut_from (P := Try.prog) 44 2 .i64 Try.underlying44 hi025 1 hsz25 (some ad107) x3_1.length co21 (ji15) q025 q25
     have hr25 := Kd.C_drop (m := ((ji15) : Int).toNat) (c := co21) hC25 (by omega) hroom25
     obtain ⟨A25, hA25⟩ : ∃ A1, A1 = (if co21 = ((ji15) : Int).toNat then (some ad107) else ((some ad107) : Option Addr).map (·.add (((ji15) : Int).toNat * 1))) := ⟨_, rfl⟩
     obtain ⟨c25, hc25⟩ : ∃ c1, c1 = co21 - ((ji15) : Int).toNat := ⟨_, rfl⟩
     have hy25 : y121.length = x3_1.length - ((ji15) : Int).toNat := (by rw [Ny121.out, yly] <;> omega)
     rw [show (x3_1).drop ((ji15) : Int).toNat = y121 from Ny121.out.symm] at hr25
     replace hr25 : Kd.C (Kd.int .i64) _ A25 y121.length y121 := (by rw [hA25]; exact hr25)
     rw [← hy25, ← hA25, ← hc25] at hcut25
     have HR124 := Aside0.mk hr25
     have HC124 := Aside0.mk (show y121.length ≤ c25 from by rw [hy25, hc25]; exact Nat.sub_le_sub_right hroom25 _)
     clear hr25 hC25 hroom25 hi025 hsz25 hc25
     have KY25 := Aside0.mk hy25
     have KA25 := Aside0.mk hA25
     clear hy25 hA25
     have KL25 := Aside0.mk (show ((ji15) : Int).toNat ≤ x3_1.length from by omega)
     replace q25 := eq_true q25
     refine start_ (n := 11) (S := fun w' => True) (ds := []) #[false, false, false, false, false, false, false, false, false, false, false] (by kernel_rfl) rfl rfl trivial (fun hHeld => ?_); refine with_tabW spec_l06Images.tab10 spec_l06Images.bits10 (fun HT_ HW_ => ?_)
     generalize w22.drew = w23 at HO_3 HO110 HB HR117 HR124 hHeld ⊢
     refine pure_ (i := 1) (N := some 28) (v := ?_) (a' := ?_) #[false, true, false, false, false, false, false, false, false, false, false] rfl rfl (any_of HT_.out (by kernel_rfl)) (fun _ _ _ h => h) (Or.inl ⟨by rfl, ?_⟩) ?_ ?_
     rotate_left
     next =>
      intro w'
      go_simp
      with_reducible rfl
     rotate_left
     next =>
      simp only [Act.put, yay, yby, ycy, i64_w, i32_w]
      rfl
     refine pure_ (i := 2) (N := some 29) (v := ?_) (a' := ?_) #[false, true, true, false, false, false, false, false, false, false, false] rfl rfl (any_of HT_.out (by kernel_rfl)) (fun _ _ _ h => h) (Or.inl ⟨by rfl, ?_⟩) ?_ ?_
     rotate_left
     next =>
      intro w'
      go_simp
      with_reducible rfl
     rotate_left
     next =>
      simp only [Act.put, yay, yby, ycy, i64_w, i32_w]
      rfl
     refine pure_ (i := 3) (N := some 30) (v := ?_) (a' := ?_) #[false, true, true, true, false, false, false, false, false, false, false] rfl rfl (any_of HT_.out (by kernel_rfl)) (fun _ _ _ h => h) (Or.inl ⟨by rfl, ?_⟩) ?_ ?_
     rotate_left
     next =>
      intro w'
      go_simp
      with_reducible rfl
     rotate_left
     next =>
      simp only [Act.put, yay, yby, ycy, i64_w, i32_w]
      rfl
     refine pure_ (i := 5) (N := some 32) (v := ?_) (a' := ?_) #[false, true, true, true, false, true, false, false, false, false, false] rfl rfl (any_of HT_.out (by kernel_rfl)) (fun _ _ _ h => h) (Or.inl ⟨by rfl, ?_⟩) ?_ ?_
     rotate_left
     next =>
      intro w'
      go_simp
      with_reducible rfl
     rotate_left
     next =>
      simp only [Act.put, yay, yby, ycy, i64_w, i32_w]
      rfl
     refine pure_ (i := 6) (N := some 33) (v := ?_) (a' := ?_) #[false, true, true, true, false, true, true, false, false, false, false] rfl rfl (any_of HT_.out (by kernel_rfl)) (fun _ _ _ h => h) (Or.inl ⟨by rfl, ?_⟩) ?_ ?_
     rotate_left
     next =>
      intro w'
      go_simp
      with_reducible rfl
     rotate_left
     next =>
      simp only [Act.put, yay, yby, ycy, i64_w, i32_w]
      rfl
     refine pure_ (i := 7) (N := some 34) (v := ?_) (a' := ?_) #[false, true, true, true, false, true, true, true, false, false, false] rfl rfl (any_of HT_.out (by kernel_rfl)) (fun _ _ _ h => h) (Or.inl ⟨by rfl, ?_⟩) ?_ ?_
     rotate_left
     next =>
      intro w'
      go_simp
      with_reducible rfl
     rotate_left
     next =>
      simp only [Act.put, yay, yby, ycy, i64_w, i32_w]
      rfl
     refine pure_ (i := 8) (N := some 35) (v := ?_) (a' := ?_) #[false, true, true, true, false, true, true, true, true, false, false] rfl rfl (any_of HT_.out (by kernel_rfl)) (fun _ _ _ h => h) (Or.inl ⟨by rfl, ?_⟩) ?_ ?_
     rotate_left
     next =>
      intro w'
      go_simp
      with_reducible rfl
     rotate_left
     next =>
      simp only [Act.put, yay, yby, ycy, i64_w, i32_w]
      rfl
     refine one_ (i := 0) (N := some 27) #[true, true, true, true, false, true, true, true, true, false, false] rfl rfl (one_of HT_.out (by kernel_rfl)) (by decide) (fun K hK => ?_)
     refine Kd.R_lit_step (Kd.int .i64) _ 2 ?hg (N := 27) ?hd (xs := ([] : List Int)) (inner := []) (ok := fun _ => True) (okp := fun _ => True) ?hr ?hp (fun _ hk => hk) trivial (Below.refl _ _) (yoy _) (by simp) ?_; (case hd => rfl); (case hg => rfl); (case hr => first | (go_simp; done) | (go_simp; rfl)); (case hp => exact (Reps.none _ _))
     intro v112 w26 ho27 hb hg_ hnew_
     clear hg_ hnew_
     (first | rw [← Ny111.out] at ho27 | (simp only [Int.reduceToNat] at ho27; rw [← Ny111.out] at ho27))
     have n0_ := Aside0.mk (Kd.R_elder' (by (with_reducible repeat (first | apply Kd.R_alloc | apply Kd.R_drewN | apply Kd.R_drew)); exact HO_3.out) (Kd.R_base ho27) hb)
     have n1_ := Aside0.mk (Kd.R_elder' (by (with_reducible repeat (first | apply Kd.R_alloc | apply Kd.R_drewN | apply Kd.R_drew)); exact HO110.out) (Kd.R_base ho27) hb)
     have n2_ := Aside0.mk (Kd.R_lower (Kd.R_new' (Kd.R_new' ho27 (Kd.R_lt (by (with_reducible repeat (first | apply Kd.R_alloc | apply Kd.R_drewN | apply Kd.R_drew)); exact HO_3.out))) (Kd.R_lt (by (with_reducible repeat (first | apply Kd.R_alloc | apply Kd.R_drewN | apply Kd.R_drew)); exact HO110.out))) (below_size (by repeat (first | (with_reducible first | exact HB.out | apply below_alloc | apply pw_below_drewN | apply below_drew1) | exact HB.out))))
     have n3_ := Aside0.mk (Kd.C_below (by repeat (first | (with_reducible exact HR117.out) | (with_reducible refine Kd.C_alloc ?_ _) | (with_reducible refine Kd.C_drewN ?_ _) | (with_reducible refine Kd.C_drew ?_) | exact HR117.out)) hb)
     have n4_ := Aside0.mk (Kd.C_below (by repeat (first | (with_reducible exact HR124.out) | (with_reducible refine Kd.C_alloc ?_ _) | (with_reducible refine Kd.C_drewN ?_ _) | (with_reducible refine Kd.C_drew ?_) | exact HR124.out)) hb)
     have n5_ := Aside0.mk (below_step (by repeat (first | (with_reducible first | exact HB.out | apply below_alloc | apply pw_below_drewN | apply below_drew1) | exact HB.out)) hb)
     clear HO_3
     clear HO110
     clear HR117
     clear HR124
     clear HB
     have HO_3 := n0_
     have HO110 := n1_
     have HO113 := n2_
     have HR117 := n3_
     have HR124 := n4_
     have HB := n5_
     clear n0_ n1_ n2_ n3_ n4_ n5_
     clear hb ho27
     refine hK.out _ _ trivial (fun hHeld => ?_)
     clear hK K
     refine norm_ (a' := ?_) ?_ ?_
     rotate_left
     next =>
      show Act.put _ (some 27) _ = _
      simp only [Act.put, yay, yby, ycy, i64_w, i32_w]
      rfl
     refine one_ (i := 4) (N := some 31) #[true, true, true, true, true, true, true, true, true, false, false] rfl rfl (one_of HT_.out (by kernel_rfl)) (by decide) (fun K hK => ?_)
     refine Kd.R_append_rows_step (Kd.int .i64) (w0 := w) w.heap.size (by rfl) (.tmp 27) (.tmp 30) 44 2 (.int .i64 0) 8 rfl Try.underlying44 info2 rfl (by decide) (by omega) v112 y111 y114 _ _ _ (fun k_ => some k_ ≠ (.slice (some ad107) x3_1.length co21 : Value).ownBlock ∧ some k_ ≠ (v109 : Value).ownBlock) (fun _ => False) rfl rfl ?aO ?aR (fun _ _ h => h) (fun _ h => h.elim) ?aF ?aB ?aS ?aL ?_
     (case aR => repeat (first | exact (by repeat (first | (with_reducible exact HR117.out) | (with_reducible refine Kd.C_alloc ?_ _) | (with_reducible refine Kd.C_drewN ?_ _) | (with_reducible refine Kd.C_drew ?_) | exact HR117.out)) | (with_reducible refine Kd.C_alloc ?_ _) | (with_reducible refine Kd.C_drewN ?_ _) | (with_reducible refine Kd.C_drew ?_)))
     (case aB => exact (by repeat (first | (with_reducible first | exact HB.out | apply below_alloc | apply pw_below_drewN | apply below_drew1) | exact HB.out)))
     (case aF => exact (fun k_ hk => ⟨Kd.fresh' (Kd.R_lt (by (with_reducible repeat (first | apply Kd.R_alloc | apply Kd.R_drewN | apply Kd.R_drew)); exact HO_3.out)) k_ hk, Kd.fresh' (Kd.R_lt (by (with_reducible repeat (first | apply Kd.R_alloc | apply Kd.R_drewN | apply Kd.R_drew)); exact HO110.out)) k_ hk⟩))
     (case aO => exact (by (with_reducible repeat (first | apply Kd.R_alloc | apply Kd.R_drewN | apply Kd.R_drew)); exact Kd.R_mono HO113.out (fun _ hk => ⟨hk.1.2, hk.2⟩)))
     (case aS => exact (below_size (by repeat (first | (with_reducible first | exact HB.out | apply below_alloc | apply pw_below_drewN | apply below_drew1) | exact HB.out))))
     (case aL => have := LMc14.out; omega)
     intro v119 w28 ho hb hg hat
     rw [← Ny118.out] at ho
     have n0_ := Aside0.mk (Kd.R_after (ok := (fun k_ => some k_ ≠ (v109 : Value).ownBlock)) (by (with_reducible repeat (first | apply Kd.R_alloc | apply Kd.R_drewN | apply Kd.R_drew)); exact Kd.R_mono HO_3.out (fun _ hk => ⟨hk.1.2, hk.2⟩)) hg hat)
     have n1_ := Aside0.mk (Kd.R_after (ok := (fun k_ => some k_ ≠ (.slice (some ad107) x3_1.length co21 : Value).ownBlock)) (by (with_reducible repeat (first | apply Kd.R_alloc | apply Kd.R_drewN | apply Kd.R_drew)); exact HO110.out) hg hat)
     have n2_ := Aside0.mk (hb)
     have n3_ := Aside0.mk ((show Kd.C (Kd.int .i64) w28 (some ad107) y114.length y114 from by rw [Ny114.out]; exact Kd.C_take (m := ((ji8) : Int).toNat) ((Kd.R_reads' (Kd.R_after (ok := (fun k_ => some k_ ≠ (v109 : Value).ownBlock)) (by (with_reducible repeat (first | apply Kd.R_alloc | apply Kd.R_drewN | apply Kd.R_drew)); exact Kd.R_mono HO_3.out (fun _ hk => ⟨hk.1.2, hk.2⟩)) hg hat)).2.2) KL24.out))
     have n4_ := Aside0.mk ((show Kd.C (Kd.int .i64) w28 A25 y121.length y121 from by rw [Ny121.out, KA25.out]; exact Kd.C_drop (m := ((ji15) : Int).toNat) (c := co21) ((Kd.R_reads' (Kd.R_after (ok := (fun k_ => some k_ ≠ (v109 : Value).ownBlock)) (by (with_reducible repeat (first | apply Kd.R_alloc | apply Kd.R_drewN | apply Kd.R_drew)); exact Kd.R_mono HO_3.out (fun _ hk => ⟨hk.1.2, hk.2⟩)) hg hat)).2.2) KL25.out ((Kd.R_reads' (Kd.R_after (ok := (fun k_ => some k_ ≠ (v109 : Value).ownBlock)) (by (with_reducible repeat (first | apply Kd.R_alloc | apply Kd.R_drewN | apply Kd.R_drew)); exact Kd.R_mono HO_3.out (fun _ hk => ⟨hk.1.2, hk.2⟩)) hg hat)).2.1)))
     have n5_ := Aside0.mk (ho)
     clear HO_3
     clear HO110
     clear HB
     clear HR117
     clear HR124
     clear HO113
     have HO_3 := n0_
     have HO110 := n1_
     have HB := n2_
     have HR117 := n3_
     have HR124 := n4_
     have HO120 := n5_
     clear n0_ n1_ n2_ n3_ n4_ n5_
     clear ho hb hg hat
     refine hK.out _ _ trivial (fun hHeld => ?_)
     clear hK K
     refine norm_ (a' := ?_) ?_ ?_
     rotate_left
     next =>
      show Act.put _ (some 31) _ = _
      simp only [Act.put, yay, yby, ycy, i64_w, i32_w]
      rfl
     refine one_ (i := 9) (N := some 36) #[true, true, true, true, true, true, true, true, true, true, false] rfl rfl (one_of HT_.out (by kernel_rfl)) (by decide) (fun K hK => ?_)
     refine Kd.R_append_rows_step (Kd.int .i64) (w0 := w) w.heap.size (by rfl) (.tmp 31) (.tmp 35) 44 2 (.int .i64 0) 8 rfl Try.underlying44 info2 rfl (by decide) (by omega) v119 y118 y121 _ _ _ (fun k_ => some k_ ≠ (.slice (some ad107) x3_1.length co21 : Value).ownBlock ∧ some k_ ≠ (v109 : Value).ownBlock) (fun _ => False) rfl rfl ?aO ?aR (fun _ _ h => h) (fun _ h => h.elim) ?aF ?aB ?aS ?aL ?_
     (case aR => repeat (first | exact (by repeat (first | (with_reducible exact HR124.out) | (with_reducible refine Kd.C_alloc ?_ _) | (with_reducible refine Kd.C_drewN ?_ _) | (with_reducible refine Kd.C_drew ?_) | exact HR124.out)) | (with_reducible refine Kd.C_alloc ?_ _) | (with_reducible refine Kd.C_drewN ?_ _) | (with_reducible refine Kd.C_drew ?_)))
     (case aB => exact (by repeat (first | (with_reducible first | exact HB.out | apply below_alloc | apply pw_below_drewN | apply below_drew1) | exact HB.out)))
     (case aF => exact (fun k_ hk => ⟨Kd.fresh' (Kd.R_lt (by (with_reducible repeat (first | apply Kd.R_alloc | apply Kd.R_drewN | apply Kd.R_drew)); exact HO_3.out)) k_ hk, Kd.fresh' (Kd.R_lt (by (with_reducible repeat (first | apply Kd.R_alloc | apply Kd.R_drewN | apply Kd.R_drew)); exact HO110.out)) k_ hk⟩))
     (case aO => exact (by (with_reducible repeat (first | apply Kd.R_alloc | apply Kd.R_drewN | apply Kd.R_drew)); exact HO120.out))
     (case aS => exact (below_size (by repeat (first | (with_reducible first | exact HB.out | apply below_alloc | apply pw_below_drewN | apply below_drew1) | exact HB.out))))
     (case aL => have := LMc18.out; omega)
     intro v126 w29 ho hb hg hat
     rw [← Ny125.out] at ho
     have n0_ := Aside0.mk (Kd.R_after (ok := (fun k_ => some k_ ≠ (v109 : Value).ownBlock)) (by (with_reducible repeat (first | apply Kd.R_alloc | apply Kd.R_drewN | apply Kd.R_drew)); exact HO_3.out) hg hat)
     have n1_ := Aside0.mk (Kd.R_after (ok := (fun k_ => some k_ ≠ (.slice (some ad107) x3_1.length co21 : Value).ownBlock)) (by (with_reducible repeat (first | apply Kd.R_alloc | apply Kd.R_drewN | apply Kd.R_drew)); exact HO110.out) hg hat)
     have n2_ := Aside0.mk (hb)
     have n3_ := Aside0.mk ((show Kd.C (Kd.int .i64) w29 (some ad107) y114.length y114 from by rw [Ny114.out]; exact Kd.C_take (m := ((ji8) : Int).toNat) ((Kd.R_reads' (Kd.R_after (ok := (fun k_ => some k_ ≠ (v109 : Value).ownBlock)) (by (with_reducible repeat (first | apply Kd.R_alloc | apply Kd.R_drewN | apply Kd.R_drew)); exact HO_3.out) hg hat)).2.2) KL24.out))
     have n4_ := Aside0.mk ((show Kd.C (Kd.int .i64) w29 A25 y121.length y121 from by rw [Ny121.out, KA25.out]; exact Kd.C_drop (m := ((ji15) : Int).toNat) (c := co21) ((Kd.R_reads' (Kd.R_after (ok := (fun k_ => some k_ ≠ (v109 : Value).ownBlock)) (by (with_reducible repeat (first | apply Kd.R_alloc | apply Kd.R_drewN | apply Kd.R_drew)); exact HO_3.out) hg hat)).2.2) KL25.out ((Kd.R_reads' (Kd.R_after (ok := (fun k_ => some k_ ≠ (v109 : Value).ownBlock)) (by (with_reducible repeat (first | apply Kd.R_alloc | apply Kd.R_drewN | apply Kd.R_drew)); exact HO_3.out) hg hat)).2.1)))
     have n5_ := Aside0.mk (ho)
     clear HO_3
     clear HO110
     clear HB
     clear HR117
     clear HR124
     clear HO120
     have HO_3 := n0_
     have HO110 := n1_
     have HB := n2_
     have HR117 := n3_
     have HR124 := n4_
     have HO127 := n5_
     clear n0_ n1_ n2_ n3_ n4_ n5_
     clear ho hb hg hat
     refine hK.out _ _ trivial (fun hHeld => ?_)
     clear hK K
     refine norm_ (a' := ?_) ?_ ?_
     rotate_left
     next =>
      show Act.put _ (some 36) _ = _
      simp only [Act.put, yay, yby, ycy, i64_w, i32_w]
      rfl
     refine pure_ (i := 10) (N := some 3) (v := ?_) (a' := ?_) #[true, true, true, true, true, true, true, true, true, true, true] rfl rfl (any_of HT_.out (by kernel_rfl)) (fun _ _ _ h => h) (Or.inl ⟨by rfl, ?_⟩) ?_ ?_
     rotate_left
     next =>
      intro w'
      go_simp
      with_reducible rfl
     rotate_left
     next =>
      simp only [Act.put, yay, yby, ycy, i64_w, i32_w]
      rfl
     refine done_ (done_of HT_.out (by kernel_rfl)) ?_
     try go_wp2
     go_roundg k1
     case measure => have := HK1.out; omega
     case rel => exact ⟨(Int.tmod x0_1 x5_1), (y125), (y108), (wrap64 (Int.tdiv x5_1 x6_1)), (wrap64 (x6_1 - 1)), (by first | rfl | (simp; done) | (simp [*]; done)), (by first | rfl | (simp; done) | (simp [*]; done)), (by first | rfl | (simp; done) | (simp [*]; done)), H', ⟨by have := HK1.out; omega⟩, ⟨by (with_reducible repeat (first | apply Kd.R_alloc | apply Kd.R_drewN | apply Kd.R_drew)); exact Kd.R_mono HO127.out (fun _ hk => hk.2)⟩, ⟨by (with_reducible repeat (first | apply Kd.R_alloc | apply Kd.R_drewN | apply Kd.R_drew)); exact Kd.R_mono HO110.out (fun _ hk => hk.2)⟩, ⟨by repeat (first | (with_reducible first | exact HB.out | apply below_alloc | apply pw_below_drewN | apply below_drew1) | exact HB.out)⟩⟩
/-! ### spec_l06At: function 22 -/
def spec_l06At.f (k : Nat) (a0 : Int) (a1 : Int) : Option (Int) := (spec_l06Images.f k a0).bind fun t101 => (if 0 ≤ a1 then (if a1 < (t101.length : Int) then (some (rd t101 a1)) else (none)) else (none))
theorem spec_l06At.mono : ∀ a0 a1 k, LeO (spec_l06At.f k a0 a1) (spec_l06At.f (k + 1) a0 a1) := by
  intro a0 a1 k
  unfold spec_l06At.f
  repeat' first
      | (with_reducible exact spec_l06Images.mono _ _)
      | (with_reducible exact LeO.refl _)
      | (with_reducible exact LeO.none _)
      | (with_reducible refine LeO.ite ?_ ?_)
      | (with_reducible refine LeO.bind ?_ (fun _ => ?_))
      | exact spec_l06Images.mono _ _
      | exact LeO.none _
      | refine LeO.ite ?_ ?_
      | refine LeO.bind ?_ (fun _ => ?_)
set_option maxHeartbeats 8000000 in
set_option maxRecDepth 100000 in
theorem spec_l06At.calls (k : Nat) (a0 : Int) (a1 : Int) (r : Int) (w : World) (h : spec_l06At.f k a0 a1 = some r) :
    Calls Try.prog 22 #[.int .i64 a0, .int .i64 a1] w fun e w' => e = .returned (.int .i64 r) ∧ Below w.heap.size w w' := by
  have HB := Aside0.mk (Below.refl w.heap.size w)
  have H : ((spec_l06Images.f k a0).bind fun t101 => (if 0 ≤ a1 then (if a1 < (t101.length : Int) then (some (rd t101 a1)) else (none)) else (none))) = some r := h
  clear h
  replace H := ydy.mp H
  obtain ⟨t101, A30, H⟩ := H
  replace H : (if 0 ≤ a1 then (if a1 < (t101.length : Int) then (some (rd t101 a1)) else (none)) else (none)) = some r := H
  have A3 := Aside0.mk A30
  clear A30
  by_cases c4 : 0 ≤ a1
  · rw [if_pos c4] at H
    have c4b0 : decide (0 ≤ a1) = true := ygy c4
    clear c4
    by_cases c5 : a1 < (t101.length : Int)
    · rw [if_pos c5] at H
      have c5b0 : decide (a1 < (t101.length : Int)) = true := ygy c5
      clear c5
      obtain rfl := yey H
      go_enter Try.func22, Try.ntmps22
      go_wp2_with (first | ((with_reducible refine gate_callee (f := 48) rfl ?_); refine goesL_ (some 6) rfl rfl Try.func48 (by kernel_rfl) rfl #[.int .i64 a0] rfl (by (try simp only [yiy, yjy, yky]); first | done | rfl | (simp only [yly, ymy]; rfl)) ?_; (with_reducible refine (spec_l06Images.calls k a0 t101 _ A3.out).mono ?_); rintro e w6 ⟨v102, rfl, ho0, hb⟩; refine ⟨_, rfl, ?_⟩; have n0_ := Aside0.mk (Kd.R_lower ho0 (below_size (by repeat (first | (with_reducible first | exact HB.out | apply below_alloc | apply pw_below_drewN | apply below_drew1) | exact HB.out)))); have n1_ := Aside0.mk (below_step (by repeat (first | (with_reducible first | exact HB.out | apply below_alloc | apply pw_below_drewN | apply below_drew1) | exact HB.out)) hb); clear HB; have HO103 := n0_; have HB := n1_; clear n0_ n1_; (try clear hb); (try clear hb2); (try clear hk); (try clear hi); (try clear ho0); obtain ⟨Ao7, co7, eo7⟩ := Kd.R_slice HO103.out; subst eo7; have p104 : 0 ≤ (a1 : Int) := of_decide_eq_true (by first | (with_reducible assumption) | assumption); have q104 : a1 < (t101.length : Int) := of_decide_eq_true (by first | (with_reducible assumption) | assumption); obtain ⟨ad104, e104, hx104_0⟩ := Kd.at_int (Kd.R_reads' HO103.out).2.2 a1 p104 q104; cases e104; replace p104 := eq_true p104; replace q104 := eq_true q104))
      go_ret
      exact ⟨by first | rfl | (simp [errW_none, errW_some] <;> rfl) | (simp [*, errW_none, errW_some] <;> rfl), by repeat (first | (with_reducible first | exact HB.out | apply below_alloc | apply pw_below_drewN | apply below_drew1) | exact HB.out)⟩
    · rw [if_neg c5] at H
      exact absurd H (by simp)
  · rw [if_neg c4] at H
    exact absurd H (by simp)
/-! ### spec_l06Index: function 81 -/
mutual
def spec_l06Index.l0 : Nat → List Int → Int → Int → Int → Option (Int)
  | 0, _, _, _, _ => none
  | k + 1, x0, x3, x4, x5 => if x5 < 3 then (if 0 ≤ x5 then (if x5 < (x0.length : Int) then (spec_l06Index.l1 k x0 x3 x4 x5 (rd x0 x5) 0) else (none)) else (none)) else (some x3)
def spec_l06Index.l1 : Nat → List Int → Int → Int → Int → Int → Int → Option (Int)
  | 0, _, _, _, _, _, _ => none
  | k + 1, x0, x3, x4, x5, x6, x7 => if x7 < x5 then (if 0 ≤ x7 then (if x7 < (x0.length : Int) then (if 0 ≤ x5 then (if x5 < (x0.length : Int) then (if (rd x0 x7) < (rd x0 x5) then (spec_l06Index.l1 k x0 x3 x4 x5 (wrap64 (x6 - 1)) (wrap64 (x7 + 1))) else (spec_l06Index.l1 k x0 x3 x4 x5 x6 (wrap64 (x7 + 1)))) else (none)) else (none)) else (none)) else (none)) else (if (wrap64 (3 - x5)) = 0 then (none) else (spec_l06Index.l0 k x0 (wrap64 (x3 + (wrap64 (x4 * x6)))) (wrap64 (Int.tdiv x4 (wrap64 (3 - x5)))) (wrap64 (x5 + 1))))
end
def spec_l06Index.f (k : Nat) (l0 : List Int) : Option (Int) := spec_l06Index.l0 k l0 0 6 0
theorem spec_l06Index.mono_l : ∀ k, (∀ y0 y1 y2 y3, LeO (spec_l06Index.l0 k y0 y1 y2 y3) (spec_l06Index.l0 (k + 1) y0 y1 y2 y3)) ∧ (∀ y0 y1 y2 y3 y4 y5, LeO (spec_l06Index.l1 k y0 y1 y2 y3 y4 y5) (spec_l06Index.l1 (k + 1) y0 y1 y2 y3 y4 y5))
  | 0 => ⟨fun _ _ _ _ r h => by simp [spec_l06Index.l0] at h, fun _ _ _ _ _ _ r h => by simp [spec_l06Index.l1] at h⟩
  | k + 1 => by
    obtain ⟨ih0, ih1⟩ := spec_l06Index.mono_l k
    refine ⟨?_, ?_⟩
    · intro y0 y1 y2 y3
      unfold spec_l06Index.l0
      repeat' first
      | (with_reducible exact ih0 _ _ _ _)
      | (with_reducible exact ih1 _ _ _ _ _ _)
      | (with_reducible exact LeO.refl _)
      | (with_reducible exact LeO.none _)
      | (with_reducible refine LeO.ite ?_ ?_)
      | (with_reducible refine LeO.bind ?_ (fun _ => ?_))
      | exact ih0 _ _ _ _
      | exact ih1 _ _ _ _ _ _
      | exact LeO.none _
      | refine LeO.ite ?_ ?_
      | refine LeO.bind ?_ (fun _ => ?_)
    · intro y0 y1 y2 y3 y4 y5
      unfold spec_l06Index.l1
      repeat' first
      | (with_reducible exact ih0 _ _ _ _)
      | (with_reducible exact ih1 _ _ _ _ _ _)
      | (with_reducible exact LeO.refl _)
      | (with_reducible exact LeO.none _)
      | (with_reducible refine LeO.ite ?_ ?_)
      | (with_reducible refine LeO.bind ?_ (fun _ => ?_))
      | exact ih0 _ _ _ _
      | exact ih1 _ _ _ _ _ _
      | exact LeO.none _
      | refine LeO.ite ?_ ?_
      | refine LeO.bind ?_ (fun _ => ?_)
theorem spec_l06Index.mono : ∀ a0 k, LeO (spec_l06Index.f k a0) (spec_l06Index.f (k + 1) a0) := by
  intro a0 k
  obtain ⟨ih0, ih1⟩ := spec_l06Index.mono_l k
  unfold spec_l06Index.f
  repeat' first
      | (with_reducible exact ih0 _ _ _ _)
      | (with_reducible exact ih1 _ _ _ _ _ _)
      | (with_reducible exact LeO.refl _)
      | (with_reducible exact LeO.none _)
      | (with_reducible refine LeO.ite ?_ ?_)
      | (with_reducible refine LeO.bind ?_ (fun _ => ?_))
      | exact ih0 _ _ _ _
      | exact ih1 _ _ _ _ _ _
      | exact LeO.none _
      | refine LeO.ite ?_ ?_
      | refine LeO.bind ?_ (fun _ => ?_)
set_option maxHeartbeats 8000000 in
set_option maxRecDepth 100000 in
theorem spec_l06Index.calls (k : Nat) (A0 : Option Addr) (c0 : Nat) (l0 : List Int) (r : Int) (w : World) (hr0 : Kd.C (Kd.int .i64) w A0 l0.length l0) (hc0 : l0.length ≤ c0) (h : spec_l06Index.f k l0 = some r) :
    Calls Try.prog 81 #[.slice A0 l0.length c0] w fun e w' => e = .returned (.int .i64 r) ∧ Drawn0 w w' := by
  have HR0 := Aside0.mk hr0
  have HC0 := Aside0.mk hc0
  clear hr0 hc0
  have H : (spec_l06Index.l0 k l0 0 6 0) = some r := h
  clear h
  have H' := Aside0.mk H
  clear H
  go_enter Try.func81, Try.ntmps81
  go_wp2
  repeat (go_quiet (fail); try go_wp2)
  go_loopg [3, 4, 5] k (fun kq v3 v4 v5 w' => ∃ (x3_1 : Int) (x4_1 : Int) (x5_1 : Int), v3 = .int .i64 x3_1 ∧ v4 = .int .i64 x4_1 ∧ v5 = .int .i64 x5_1 ∧ Aside0 (spec_l06Index.l0 kq l0 x3_1 x4_1 x5_1 = some r) ∧ Aside0 (kq ≤ k) ∧ Drawn0 w w')
  case atStart => exact ⟨(0), (6), (0), (by first | rfl | (simp; done) | (simp [*]; done)), (by first | rfl | (simp; done) | (simp [*]; done)), (by first | rfl | (simp; done) | (simp [*]; done)), H', ⟨yoy _⟩, by repeat (first | exact Drawn0.refl _ | apply Drawn0.step)⟩
  case round =>
    clear H'
    obtain ⟨x3_1, x4_1, x5_1, rfl, rfl, rfl, HA, HK1, ⟨m1, rfl⟩⟩ := hrel
    cases gk with
    | zero => exact absurd HA.out (by simp [spec_l06Index.l0])
    | succ k1 =>
      have H := HA.out
      clear HA
      simp only [spec_l06Index.l0] at H
      by_cases c2 : x5_1 < 3
      · rw [if_pos c2] at H
        have c2b0 : decide (x5_1 < 3) = true := ygy c2
        clear c2
        by_cases c3 : 0 ≤ x5_1
        · rw [if_pos c3] at H
          have c3b0 : decide (0 ≤ x5_1) = true := ygy c3
          clear c3
          by_cases c4 : x5_1 < (l0.length : Int)
          · rw [if_pos c4] at H
            have c4b0 : decide (x5_1 < (l0.length : Int)) = true := ygy c4
            clear c4
            have H' := Aside0.mk H
            clear H
            have p101 : 0 ≤ (x5_1 : Int) := of_decide_eq_true (by first | (with_reducible assumption) | assumption)
            have q101 : x5_1 < (l0.length : Int) := of_decide_eq_true (by first | (with_reducible assumption) | assumption)
            obtain ⟨ad101, e101, hx101_0⟩ := Kd.at_int HR0.out x5_1 p101 q101
            cases e101
            replace p101 := eq_true p101
            replace q101 := eq_true q101
            go_wp2
            repeat (go_quiet (fail); try go_wp2)
            go_loopg [6, 7] k1 (fun kq v6 v7 w' => ∃ (x6_2 : Int) (x7_2 : Int), v6 = .int .i64 x6_2 ∧ v7 = .int .i64 x7_2 ∧ Aside0 (spec_l06Index.l1 kq l0 x3_1 x4_1 x5_1 x6_2 x7_2 = some r) ∧ Aside0 (kq ≤ k1) ∧ Drawn0 w w')
            case atStart => exact ⟨(rd l0 x5_1), (0), (by first | rfl | (simp; done) | (simp [*]; done)), (by first | rfl | (simp; done) | (simp [*]; done)), H', ⟨yoy _⟩, by repeat (first | exact Drawn0.refl _ | apply Drawn0.step)⟩
            case round =>
              clear H'
              try clear p1
              try clear q1
              try clear hx1
              try clear c2
              try clear c2b0
              try clear p2
              try clear c3
              try clear c3b0
              try clear c4
              try clear c4b0
              try clear hx101_0
              try clear p101
              try clear q101
              obtain ⟨x6_2, x7_2, rfl, rfl, HA, HK2, ⟨m2, rfl⟩⟩ := hrel
              cases gk with
              | zero => exact absurd HA.out (by simp [spec_l06Index.l1])
              | succ k2 =>
                have H := HA.out
                clear HA
                simp only [spec_l06Index.l1] at H
                by_cases c5 : x7_2 < x5_1
                · rw [if_pos c5] at H
                  have c5b0 : decide (x7_2 < x5_1) = true := ygy c5
                  clear c5
                  by_cases c6 : 0 ≤ x7_2
                  · rw [if_pos c6] at H
                    have c6b0 : decide (0 ≤ x7_2) = true := ygy c6
                    clear c6
                    by_cases c7 : x7_2 < (l0.length : Int)
                    · rw [if_pos c7] at H
                      have c7b0 : decide (x7_2 < (l0.length : Int)) = true := ygy c7
                      clear c7
                      by_cases c8 : 0 ≤ x5_1
                      · rw [if_pos c8] at H
                        have c8b0 : decide (0 ≤ x5_1) = true := ygy c8
                        clear c8
                        by_cases c9 : x5_1 < (l0.length : Int)
                        · rw [if_pos c9] at H
                          have c9b0 : decide (x5_1 < (l0.length : Int)) = true := ygy c9
                          clear c9
                          by_cases c10 : (rd l0 x7_2) < (rd l0 x5_1)
                          · rw [if_pos c10] at H
                            have c10b0 : decide ((rd l0 x7_2) < (rd l0 x5_1)) = true := ygy c10
                            clear c10
                            have H' := Aside0.mk H
                            clear H
                            have p102 : 0 ≤ (x7_2 : Int) := of_decide_eq_true (by first | (with_reducible assumption) | assumption)
                            have q102 : x7_2 < (l0.length : Int) := of_decide_eq_true (by first | (with_reducible assumption) | assumption)
                            obtain ⟨ad102, e102, hx102_0⟩ := Kd.at_int HR0.out x7_2 p102 q102
                            obtain rfl : ad101 = ad102 := (by injection e102)
                            replace p102 := eq_true p102
                            replace q102 := eq_true q102
                            have p103 : 0 ≤ (x5_1 : Int) := of_decide_eq_true (by first | (with_reducible assumption) | assumption)
                            have q103 : x5_1 < (l0.length : Int) := of_decide_eq_true (by first | (with_reducible assumption) | assumption)
                            obtain ⟨ad103, e103, hx103_0⟩ := Kd.at_int HR0.out x5_1 p103 q103
                            obtain rfl : ad101 = ad103 := (by injection e103)
                            replace p103 := eq_true p103
                            replace q103 := eq_true q103
                            go_wp2
                            repeat (go_quiet (fail); try go_wp2)
                            go_roundg k2
                            case measure => have := HK1.out; have := HK2.out; omega
                            case rel => exact ⟨(wrap64 (x6_2 - 1)), (wrap64 (x7_2 + 1)), (by first | rfl | (simp; done) | (simp [*]; done)), (by first | rfl | (simp; done) | (simp [*]; done)), H', ⟨by have := HK1.out; have := HK2.out; omega⟩, by repeat (first | exact Drawn0.refl _ | apply Drawn0.step)⟩
                          · rw [if_neg c10] at H
                            have c10b0 : decide ((rd l0 x7_2) < (rd l0 x5_1)) = false := yhy c10
                            clear c10
                            have H' := Aside0.mk H
                            clear H
                            have p102 : 0 ≤ (x7_2 : Int) := of_decide_eq_true (by first | (with_reducible assumption) | assumption)
                            have q102 : x7_2 < (l0.length : Int) := of_decide_eq_true (by first | (with_reducible assumption) | assumption)
                            obtain ⟨ad102, e102, hx102_0⟩ := Kd.at_int HR0.out x7_2 p102 q102
                            obtain rfl : ad101 = ad102 := (by injection e102)
                            replace p102 := eq_true p102
                            replace q102 := eq_true q102
                            have p103 : 0 ≤ (x5_1 : Int) := of_decide_eq_true (by first | (with_reducible assumption) | assumption)
                            have q103 : x5_1 < (l0.length : Int) := of_decide_eq_true (by first | (with_reducible assumption) | assumption)
                            obtain ⟨ad103, e103, hx103_0⟩ := Kd.at_int HR0.out x5_1 p103 q103
                            obtain rfl : ad101 = ad103 := (by injection e103)
                            replace p103 := eq_true p103
                            replace q103 := eq_true q103
                            go_wp2
                            repeat (go_quiet (fail); try go_wp2)
                            go_roundg k2
                            case measure => have := HK1.out; have := HK2.out; omega
                            case rel => exact ⟨(x6_2), (wrap64 (x7_2 + 1)), (by first | rfl | (simp; done) | (simp [*]; done)), (by first | rfl | (simp; done) | (simp [*]; done)), H', ⟨by have := HK1.out; have := HK2.out; omega⟩, by repeat (first | exact Drawn0.refl _ | apply Drawn0.step)⟩
                        · rw [if_neg c9] at H
                          exact absurd H (by simp)
                      · rw [if_neg c8] at H
                        exact absurd H (by simp)
                    · rw [if_neg c7] at H
                      exact absurd H (by simp)
                  · rw [if_neg c6] at H
                    exact absurd H (by simp)
                · rw [if_neg c5] at H
                  have c5b0 : decide (x7_2 < x5_1) = false := yhy c5
                  clear c5
                  by_cases c11 : (wrap64 (3 - x5_1)) = 0
                  · rw [if_pos c11] at H
                    exact absurd H (by simp)
                  · rw [if_neg c11] at H
                    have c11b0 : ((wrap64 (3 - x5_1)) == 0) = false := beq_eq_false_iff_ne.mpr c11
                    have c11b1 : ((wrap64 (3 - x5_1)) != 0) = true := bne_iff_ne.mpr c11
                    have H' := Aside0.mk H
                    clear H
                    go_wp2
                    repeat (go_quiet (fail); try go_wp2)
                    go_roundg k2
                    case measure => have := HK1.out; have := HK2.out; omega
                    case rel => exact ⟨(wrap64 (x3_1 + (wrap64 (x4_1 * x6_2)))), (wrap64 (Int.tdiv x4_1 (wrap64 (3 - x5_1)))), (wrap64 (x5_1 + 1)), (by first | rfl | (simp; done) | (simp [*]; done)), (by first | rfl | (simp; done) | (simp [*]; done)), (by first | rfl | (simp; done) | (simp [*]; done)), H', ⟨by have := HK1.out; have := HK2.out; omega⟩, by repeat (first | exact Drawn0.refl _ | apply Drawn0.step)⟩
          · rw [if_neg c4] at H
            exact absurd H (by simp)
        · rw [if_neg c3] at H
          exact absurd H (by simp)
      · rw [if_neg c2] at H
        have c2b0 : decide (x5_1 < 3) = false := yhy c2
        clear c2
        obtain rfl := yey H
        go_wp2
        repeat (go_quiet (fail); try go_wp2)
        go_ret
        exact ⟨by first | rfl | (simp; done) | (simp [*]; done), by repeat (first | exact Drawn0.refl _ | apply Drawn0.step)⟩
/-! ### spec_l06Back: function 69 -/
def spec_l06Back.l0 : Nat → List Int → List Int → Int → Option (Int)
  | 0, _, _, _ => none
  | k + 1, x3, x4, x5 => if x5 < 4 then (if 0 ≤ x5 then (if x5 < (x3.length : Int) then (if 0 ≤ (rd x3 x5) then (if (rd x3 x5) < (x4.length : Int) then (spec_l06Back.l0 k x3 (x4.set ((rd x3 x5) : Int).toNat x5) (wrap64 (x5 + 1))) else (none)) else (none)) else (none)) else (none)) else ((spec_l06Index.f k x4).bind fun t109 => (some t109))
def spec_l06Back.f (k : Nat) (a0 : Int) : Option (Int) := (spec_l06Images.f k a0).bind fun t101 => (spec_l06Back.l0 k t101 (([0, 0, 0, 0] : List Int)) 0)
theorem spec_l06Back.mono_l : ∀ k, (∀ y0 y1 y2, LeO (spec_l06Back.l0 k y0 y1 y2) (spec_l06Back.l0 (k + 1) y0 y1 y2))
  | 0 => fun _ _ _ r h => by simp [spec_l06Back.l0] at h
  | k + 1 => by
    have ih0 := spec_l06Back.mono_l k
    · intro y0 y1 y2
      unfold spec_l06Back.l0
      repeat' first
      | (with_reducible exact ih0 _ _ _)
      | (with_reducible exact spec_l06Images.mono _ _)
      | (with_reducible exact spec_l06Index.mono _ _)
      | (with_reducible exact LeO.refl _)
      | (with_reducible exact LeO.none _)
      | (with_reducible refine LeO.ite ?_ ?_)
      | (with_reducible refine LeO.bind ?_ (fun _ => ?_))
      | exact ih0 _ _ _
      | exact spec_l06Images.mono _ _
      | exact spec_l06Index.mono _ _
      | exact LeO.none _
      | refine LeO.ite ?_ ?_
      | refine LeO.bind ?_ (fun _ => ?_)
theorem spec_l06Back.mono : ∀ a0 k, LeO (spec_l06Back.f k a0) (spec_l06Back.f (k + 1) a0) := by
  intro a0 k
  have ih0 := spec_l06Back.mono_l k
  unfold spec_l06Back.f
  repeat' first
      | (with_reducible exact ih0 _ _ _)
      | (with_reducible exact spec_l06Images.mono _ _)
      | (with_reducible exact spec_l06Index.mono _ _)
      | (with_reducible exact LeO.refl _)
      | (with_reducible exact LeO.none _)
      | (with_reducible refine LeO.ite ?_ ?_)
      | (with_reducible refine LeO.bind ?_ (fun _ => ?_))
      | exact ih0 _ _ _
      | exact spec_l06Images.mono _ _
      | exact spec_l06Index.mono _ _
      | exact LeO.none _
      | refine LeO.ite ?_ ?_
      | refine LeO.bind ?_ (fun _ => ?_)
set_option maxHeartbeats 8000000 in
set_option maxRecDepth 100000 in
theorem spec_l06Back.calls (k : Nat) (a0 : Int) (r : Int) (w : World) (h : spec_l06Back.f k a0 = some r) :
    Calls Try.prog 69 #[.int .i64 a0] w fun e w' => e = .returned (.int .i64 r) ∧ Below w.heap.size w w' := by
  have HB := Aside0.mk (Below.refl w.heap.size w)
  have H : ((spec_l06Images.f k a0).bind fun t101 => (spec_l06Back.l0 k t101 (([0, 0, 0, 0] : List Int)) 0)) = some r := h
  clear h
  replace H := ydy.mp H
  obtain ⟨t101, A20, H⟩ := H
  replace H : (spec_l06Back.l0 k t101 (([0, 0, 0, 0] : List Int)) 0) = some r := H
  have A2 := Aside0.mk A20
  clear A20
  obtain ⟨y104, hy104⟩ : ∃ y_ : List Int, y_ = (([0, 0, 0, 0] : List Int)) := ⟨_, rfl⟩
  replace H : (spec_l06Back.l0 k t101 y104 0) = some r := by first | (rw [hy104]; with_reducible exact H) | (have H2_ := (yfy _ _).symm.trans H; rw [hy104]; with_reducible exact H2_) | (have H2_ := (yfy _ _).symm.trans H; with_reducible exact H2_) | with_reducible exact H | (rw [hy104]; exact H) | exact H
  have Ny104 := Aside0.mk hy104
  clear hy104
  have H' := Aside0.mk H
  clear H
  go_enter Try.func69, Try.ntmps69
  go_wp2_with (first | ((with_reducible refine gate_callee (f := 48) rfl ?_); refine goesL_ (some 7) rfl rfl Try.func48 (by kernel_rfl) rfl #[.int .i64 a0] rfl (by (try simp only [yiy, yjy, yky]); first | done | rfl | (simp only [yly, ymy]; rfl)) ?_; (with_reducible refine (spec_l06Images.calls k a0 t101 _ A2.out).mono ?_); rintro e w3 ⟨v102, rfl, ho0, hb⟩; refine ⟨_, rfl, ?_⟩; have n0_ := Aside0.mk (Kd.R_lower ho0 (below_size (by repeat (first | (with_reducible first | exact HB.out | apply below_alloc | apply pw_below_drewN | apply below_drew1) | exact HB.out)))); have n1_ := Aside0.mk (below_step (by repeat (first | (with_reducible first | exact HB.out | apply below_alloc | apply pw_below_drewN | apply below_drew1) | exact HB.out)) hb); clear HB; have HO103 := n0_; have HB := n1_; clear n0_ n1_; (try clear hb); (try clear hb2); (try clear hk); (try clear hi); (try clear ho0)) | ((with_reducible refine gate_dst (N := 8) rfl ?_); refine Kd.R_lit (Kd.int .i64) _ 2 ?hg (N := 8) ?hd (xs := ([0, 0, 0, 0] : List Int)) (inner := [.int .i64 0, .int .i64 0, .int .i64 0, .int .i64 0]) (ok := fun _ => True) (okp := fun _ => True) ?hr ?hp (fun _ hk => hk) trivial (Below.refl _ _) (yoy _) (by simp) ?_; (case hd => rfl); (case hg => rfl); (case hr => first | (go_simp; done) | (go_simp; rfl)); (case hp => exact (Reps.one (show Kd.M (Kd.int .i64) _ _ _ 0 [.int .i64 0] from rfl) (Reps.one (show Kd.M (Kd.int .i64) _ _ _ 0 [.int .i64 0] from rfl) (Reps.one (show Kd.M (Kd.int .i64) _ _ _ 0 [.int .i64 0] from rfl) (Reps.one (show Kd.M (Kd.int .i64) _ _ _ 0 [.int .i64 0] from rfl) (Reps.none _ _)))))); intro v105 w4 ho5 hb hg_ hnew_; clear hg_ hnew_; (first | rw [← Ny104.out] at ho5 | (simp only [Int.reduceToNat] at ho5; rw [← Ny104.out] at ho5)); have n0_ := Aside0.mk (Kd.R_elder' (by (with_reducible repeat (first | apply Kd.R_alloc | apply Kd.R_drewN | apply Kd.R_drew)); exact HO103.out) (Kd.R_base ho5) hb); have n1_ := Aside0.mk (Kd.R_lower (Kd.R_new' ho5 (Kd.R_lt (by (with_reducible repeat (first | apply Kd.R_alloc | apply Kd.R_drewN | apply Kd.R_drew)); exact HO103.out))) (below_size (by repeat (first | (with_reducible first | exact HB.out | apply below_alloc | apply pw_below_drewN | apply below_drew1) | exact HB.out)))); have n2_ := Aside0.mk (below_step (by repeat (first | (with_reducible first | exact HB.out | apply below_alloc | apply pw_below_drewN | apply below_drew1) | exact HB.out)) hb); clear HO103; clear HB; have HO103 := n0_; have HO106 := n1_; have HB := n2_; clear n0_ n1_ n2_; clear hb ho5))
  go_loopg [5] k (fun kq v5 w' => ∃ (x4_1 : List Int) (x5_1 : Int), v5 = .int .i64 x5_1 ∧ Aside0 (spec_l06Back.l0 kq t101 x4_1 x5_1 = some r) ∧ Aside0 (kq ≤ k) ∧ Aside0 (Kd.R (Kd.int .i64) 2 w' w.heap.size (fun k_ => some k_ ≠ (v105 : Value).ownBlock) v102 t101) ∧ Aside0 (Kd.R (Kd.int .i64) 2 w' w.heap.size (fun k_ => some k_ ≠ (v102 : Value).ownBlock) v105 x4_1) ∧ Aside0 (Below w.heap.size w w'))
  case atStart => exact ⟨(y104), (0), (by first | rfl | (simp; done) | (simp [*]; done)), H', ⟨yoy _⟩, ⟨by (with_reducible repeat (first | apply Kd.R_alloc | apply Kd.R_drewN | apply Kd.R_drew)); exact Kd.R_mono HO103.out (fun _ hk => hk.2)⟩, ⟨by (with_reducible repeat (first | apply Kd.R_alloc | apply Kd.R_drewN | apply Kd.R_drew)); exact Kd.R_mono HO106.out (fun _ hk => hk.2)⟩, ⟨by repeat (first | (with_reducible first | exact HB.out | apply below_alloc | apply pw_below_drewN | apply below_drew1) | exact HB.out)⟩⟩
  case round =>
    clear H'
    try clear p2
    try clear c4
    obtain ⟨x4_1, x5_1, rfl, HA, HK1, HO_3, HO_4, HB⟩ := hrel
    cases gk with
    | zero => exact absurd HA.out (by simp [spec_l06Back.l0])
    | succ k1 =>
      have H := HA.out
      clear HA
      simp only [spec_l06Back.l0] at H
      by_cases c6 : x5_1 < 4
      · rw [if_pos c6] at H
        have c6b0 : decide (x5_1 < 4) = true := ygy c6
        clear c6
        by_cases c7 : 0 ≤ x5_1
        · rw [if_pos c7] at H
          have c7b0 : decide (0 ≤ x5_1) = true := ygy c7
          clear c7
          by_cases c8 : x5_1 < (t101.length : Int)
          · rw [if_pos c8] at H
            have c8b0 : decide (x5_1 < (t101.length : Int)) = true := ygy c8
            clear c8
            by_cases c9 : 0 ≤ (rd t101 x5_1)
            · rw [if_pos c9] at H
              have c9b0 : decide (0 ≤ (rd t101 x5_1)) = true := ygy c9
              clear c9
              by_cases c10 : (rd t101 x5_1) < (x4_1.length : Int)
              · rw [if_pos c10] at H
                have c10b0 : decide ((rd t101 x5_1) < (x4_1.length : Int)) = true := ygy c10
                clear c10
                obtain ⟨y108, hy108⟩ : ∃ y_ : List Int, y_ = (x4_1.set ((rd t101 x5_1) : Int).toNat x5_1) := ⟨_, rfl⟩
                replace H : (spec_l06Back.l0 k1 t101 y108 (wrap64 (x5_1 + 1))) = some r := by first | (rw [hy108]; with_reducible exact H) | (have H2_ := (yfy _ _).symm.trans H; rw [hy108]; with_reducible exact H2_) | (have H2_ := (yfy _ _).symm.trans H; with_reducible exact H2_) | with_reducible exact H | (rw [hy108]; exact H) | exact H
                have Ny108 := Aside0.mk hy108
                clear hy108
                have H' := Aside0.mk H
                clear H
                obtain ⟨Ao12, co12, eo12⟩ := Kd.R_slice HO_3.out
                subst eo12
                have p107 : 0 ≤ (x5_1 : Int) := of_decide_eq_true (by first | (with_reducible assumption) | assumption)
                have q107 : x5_1 < (t101.length : Int) := of_decide_eq_true (by first | (with_reducible assumption) | assumption)
                obtain ⟨ad107, e107, hx107_0⟩ := Kd.at_int (Kd.R_reads' HO_3.out).2.2 x5_1 p107 q107
                cases e107
                replace p107 := eq_true p107
                replace q107 := eq_true q107
                have p11 : 0 ≤ ((rd t101 x5_1) : Int) := of_decide_eq_true (by first | (with_reducible assumption) | assumption)
                have q11 : ((rd t101 x5_1) : Int) < ((x4_1.length : Int) : Int) := of_decide_eq_true (by first | (with_reducible assumption) | assumption)
                obtain ⟨go11, co11, eo11, gb11, gl11, cl11, HG11⟩ := Kd.R_form HO_4.out (by omega)
                (first | cases eo11 | (injection eo11 with ea_ en_ ec_; (first | subst ea_ | (injection ea_ with ea_; subst ea_)); subst ec_; clear en_))
                have GB11 := Aside0.mk gb11
                have GG11 := Aside0.mk HG11
                clear gb11 gl11 HG11
                obtain ⟨hx11_0, hf11_0⟩ := Kd.R_celln 0 HO_4.out ((rd t101 x5_1) : Int) p11 q11
                replace p11 := eq_true p11
                replace q11 := eq_true q11
                have HP13 := Kd.R_putg HO_4.out ((rd t101 x5_1) : Int) x5_1
                go_wp2_with (first | ((with_reducible refine gate_store (t := 2) (p := 19) rfl ?_); refine store_event (t := 2) (p := 19) (v := ?vo_w14) (w1 := (wr.setCell ⟨go11, ((rd t101 x5_1) : Int).toNat, none⟩ (.int .i64 x5_1))) ?hg ?ho ?hn ?hr ?_; (case ho => rfl); (case hg => rfl); (case hn => rfl); (case hr => first | (go_simp; done) | (go_simp; rfl)); intro w14 hw; have hg : wr.grownBy w14 (some go11) := (by rw [hw]; exact HP13.2); have hp_ : Kd.R (Kd.int .i64) 2 w14 w.heap.size (fun k_ => some k_ ≠ (.slice (some ad107) t101.length co12 : Value).ownBlock) (.slice (some ⟨go11, 0, none⟩) x4_1.length co11) y108 := (by rw [hw, Ny108.out]; exact HP13.1); clear HP13; have n0_ := Aside0.mk (Kd.R_after (v := (.slice (some ⟨go11, 0, none⟩) x4_1.length co11)) (v1 := (.slice (some ⟨go11, 0, none⟩) x4_1.length co11)) (ok := (fun _ => True)) (by (with_reducible repeat (first | apply Kd.R_alloc | apply Kd.R_drewN | apply Kd.R_drew)); exact Kd.R_mono HO_3.out (fun _ hk => ⟨trivial, hk⟩)) hg (.inl rfl)); have n1_ := Aside0.mk (hp_); have n2_ := Aside0.mk ((by rw [hw]; exact below_set (HB.out) GB11.out : Below w.heap.size w w14)); clear HO_3; clear HO_4; clear HB; have HO_3 := n0_; have HO_4 := n1_; have HB := n2_; clear n0_ n1_ n2_; clear hg hw hp_))
                go_roundg k1
                case measure => have := HK1.out; omega
                case rel => exact ⟨(y108), (wrap64 (x5_1 + 1)), (by first | rfl | (simp; done) | (simp [*]; done)), H', ⟨by have := HK1.out; omega⟩, ⟨by (with_reducible repeat (first | apply Kd.R_alloc | apply Kd.R_drewN | apply Kd.R_drew)); exact Kd.R_mono HO_3.out (fun _ hk => hk.2)⟩, ⟨by (with_reducible repeat (first | apply Kd.R_alloc | apply Kd.R_drewN | apply Kd.R_drew)); exact HO_4.out⟩, ⟨by repeat (first | (with_reducible first | exact HB.out | apply below_alloc | apply pw_below_drewN | apply below_drew1) | exact HB.out)⟩⟩
              · rw [if_neg c10] at H
                exact absurd H (by simp)
            · rw [if_neg c9] at H
              exact absurd H (by simp)
          · rw [if_neg c8] at H
            exact absurd H (by simp)
        · rw [if_neg c7] at H
          exact absurd H (by simp)
      · rw [if_neg c6] at H
        have c6b0 : decide (x5_1 < 4) = false := yhy c6
        clear c6
        replace H := ydy.mp H
        obtain ⟨t109, A150, H⟩ := H
        replace H : (some t109) = some r := H
        have A15 := Aside0.mk A150
        clear A150
        obtain rfl := yey H
        obtain ⟨Ao16, co16, eo16⟩ := Kd.R_slice HO_4.out
        subst eo16
        go_wp2_with (first | ((with_reducible refine gate_callee (f := 81) rfl ?_); refine goesL_ (some 21) rfl rfl Try.func81 (by kernel_rfl) rfl #[.slice Ao16 x4_1.length co16] rfl (by (try simp only [yiy, yjy, yky]); first | done | rfl | (simp only [yly, ymy]; rfl)) ?_; (with_reducible refine (spec_l06Index.calls k1 _ _ x4_1 t109 _ ?side1 ?side2 A15.out).mono ?_); (case side1 => repeat (first | exact (Kd.R_reads' HO_4.out).2.2 | (with_reducible refine Kd.C_alloc ?_ _) | (with_reducible refine Kd.C_drewN ?_ _) | (with_reducible refine Kd.C_drew ?_))); (case side2 => exact (Kd.R_reads' HO_4.out).2.1); rintro e w' ⟨rfl, ⟨nd, rfl⟩⟩; refine ⟨_, rfl, ?_⟩))
        go_ret
        exact ⟨by first | rfl | (simp [errW_none, errW_some] <;> rfl) | (simp [*, errW_none, errW_some] <;> rfl), by repeat (first | (with_reducible first | exact HB.out | apply below_alloc | apply pw_below_drewN | apply below_drew1) | exact HB.out)⟩
/-! l07Glue: two faces of a triangulation that is the call's own are written. -/
/-- A face is put in. -/
abbrev putF (t : List (List SFace)) (a f : Int) (x : SFace) : List (List SFace) := t.set a.toNat ((rd_LFace t a).set f.toNat x)
set_option maxHeartbeats 8000000 in
set_option maxRecDepth 100000 in
theorem spec_l07Glue.raw (k : Nat) (P0_ : Nat → Prop) (v : Value) (t : List (List SFace)) (a f b p g q : Int) (w0 w : World) (hB : Below w0.heap.size w0 w) (ho0 : Kd.S (Kd.slice 47 kFace) 48 w w0.heap.size P0_ v t)
    (ha0 : 0 ≤ a) (ha1 : a < t.length) (hf0 : 0 ≤ f) (hf1 : f < (rd_LFace t a).length) (hb0 : 0 ≤ b) (hb1 : b < t.length) (hg0 : 0 ≤ g) (hg1 : g < (rd_LFace (putF t a f ⟨b, p⟩) b).length) (hg : spec_l06At.f k p f = some g) (hq : spec_l06Back.f k p = some q) :
    Calls Try.prog 62 #[.agg #[v], .int .i64 a, .int .i64 f, .int .i64 b, .int .i64 p] w fun e w' => e = .returned (.tuple #[]) ∧ Kd.S (Kd.slice 47 kFace) 48 w' w0.heap.size P0_ v (putF (putF t a f ⟨b, p⟩) b g ⟨a, q⟩) ∧ Below w0.heap.size w0 w' ∧ Kept w w' P0_ := by
  obtain ⟨A, cap, rfl⟩ := Kd.S_slice ho0
  rcases A with _ | ad
  · obtain ⟨_, _, ev, _⟩ := Kd.S_form ho0 (by omega)
    cases ev
  have hS1 := Kd.S_alloc ho0 (.cells #[.slice (some ad) t.length cap] 30)
  have BT := Aside0.mk (new_at4 (W := w) rfl (.cells #[.slice (some ad) t.length cap] 30))
  have HB := Aside0.mk (below_alloc hB (.cells #[.slice (some ad) t.length cap] 30))
  have HK := Aside0.mk ((Kept.refl w P0_).alloc (.cells #[.slice (some ad) t.length cap] 30))
  obtain ⟨gr, cr, hy0, hx0, hx1, hz0, hz1, hok, hbs, ⟨cells, hcl⟩, hS2, hgr⟩ := nest_put hS1 a f ha0 ha1 hf0 hf1 ⟨b, p⟩
  have HS := Aside0.mk hS2
  have HGR := Aside0.mk hgr
  have HOK := Aside0.mk hok
  have HC := Aside0.mk hcl
  have HG := Aside0.mk hg
  have HQ := Aside0.mk hq
  have HBS := Aside0.mk hbs
  clear hS1 hS2 hgr hok hcl hg hq hB ho0 hbs
  go_enter Try.func62, Try.ntmps62
  try go_wp2
  clear hx0 hx1 hz0 hz1 hy0
  have BT2 := Aside0.mk (blk_grown BT.out HGR.out (by intro e_; injection e_ with e_; exact blk_ne BT.out HC.out (by decide) e_))
  have HB2 := Aside0.mk (below_set (j := f.toNat * 2 + 1) (v := .int .i64 p) (below_set (j := f.toNat * 2) (v := .int .i64 b) HB.out HBS.out) HBS.out)
  have HK2 := Aside0.mk (Kept.of_grown HGR.out HK.out (fun k_ e_ => by injection e_ with e_; subst e_; exact .inl HOK.out))
  clear BT HB HK HGR HC HOK
  generalize hw3 : ((w.alloc (.cells #[.slice (some ad) t.length cap] 30)).setCell ⟨gr, f.toNat * 2, none⟩ (.int .i64 b)).setCell ⟨gr, f.toNat * 2 + 1, none⟩ (.int .i64 p) = w3 at *
  clear hw3 HBS
  have BT := BT2
  have HB := HB2
  have HK := HK2
  clear BT2 HB2 HK2
  have HL := Aside0.mk hg1
  obtain ⟨gr2, cr2, hy1, _⟩ := nest_put HS.out b g hb0 hb1 hg0 hg1 ⟨a, q⟩
  generalize hgb : w.heap.size = gb at *
  have hg1' : g < ((rd_LFace (putF t a f ⟨b, p⟩) b).length : Int) := hg1
  generalize hrl : (rd_LFace (putF t a f ⟨b, p⟩) b).length = rl at hy1 hg1 hg1'
  refine start_ (n := 14) (S := fun w' => w'.cell? ⟨gb, 0, none⟩ = some (.slice (some ad) t.length cap) ∧ w'.cell? (ad.add b.toNat) = some (.slice (some ⟨gr2, 0, none⟩) rl cr2)) (ds := [13]) #[false, false, false, false, false, false, false, false, false, false, false, false, false, false] (by kernel_rfl) rfl rfl ⟨(blk_cell BT.out 0).trans rfl, hy1⟩ (fun hHeld => ?_)
  have HS2 := Aside0.mk (Kd.S_drew HS.out)
  have BT2 := Aside0.mk (blk_drew BT.out)
  have HB2 := Aside0.mk (below_drew1 HB.out)
  have HK2 := Aside0.mk HK.out.drew
  replace hy1 : w3.drew.cell? (ad.add b.toNat) = some (.slice (some ⟨gr2, 0, none⟩) rl cr2) := hy1
  clear HS BT HB HK
  have HS := HS2
  have BT := BT2
  have HB := HB2
  have HK := HK2
  clear HS2 BT2 HB2 HK2
  generalize w3.drew = w33 at HS BT HB HK hy1 hHeld ⊢
  refine pure_ (i := 0) (N := some 20) (v := ?_) (a' := ?_) #[true, false, false, false, false, false, false, false, false, false, false, false, false, false] rfl rfl (by kernel_rfl) (fun _ _ _ h => h) (Or.inl ⟨by rfl, ?_⟩) ?_ ?_
  rotate_left
  · intro w'
    go_simp
    with_reducible rfl
  rotate_left
  · simp only [Act.put, yay, yby, ycy, i64_w, i32_w]
    rfl
  refine take_ (i := 1) (N := some 21) (v := ?_) (a' := ?_) #[true, true, false, false, false, false, false, false, false, false, false, false, false, false] rfl rfl (by kernel_rfl) (fun _ _ _ h => h) (Or.inl ⟨by rfl, ?_⟩) hHeld ?_ ?_
  rotate_left
  · rintro w' ⟨s0, s1⟩
    go_simp
    with_reducible rfl
  rotate_left
  · simp only [Act.put, yay, yby, ycy, i64_w, i32_w]
    rfl
  refine pure_ (i := 2) (N := some 22) (v := ?_) (a' := ?_) #[true, true, true, false, false, false, false, false, false, false, false, false, false, false] rfl rfl (by kernel_rfl) (fun _ _ _ h => h) (Or.inl ⟨by rfl, ?_⟩) ?_ ?_
  rotate_left
  · intro w'
    go_simp
    with_reducible rfl
  rotate_left
  · simp only [Act.put, yay, yby, ycy, i64_w, i32_w]
    rfl
  refine pure_ (i := 3) (N := some 23) (v := ?_) (a' := ?_) #[true, true, true, true, false, false, false, false, false, false, false, false, false, false] rfl rfl (by kernel_rfl) (fun _ _ _ h => h) (Or.inl ⟨by rfl, ?_⟩) ?_ ?_
  rotate_left
  · intro w'
    go_simp
    with_reducible rfl
  rotate_left
  · simp only [Act.put, yay, yby, ycy, i64_w, i32_w]
    rfl
  refine take_ (i := 4) (N := some 24) (v := ?_) (a' := ?_) #[true, true, true, true, true, false, false, false, false, false, false, false, false, false] rfl rfl (by kernel_rfl) (fun _ _ _ h => h) (Or.inl ⟨by rfl, ?_⟩) hHeld ?_ ?_
  rotate_left
  · rintro w' ⟨s0, s1⟩
    go_simp
    with_reducible rfl
  rotate_left
  · simp only [Act.put, yay, yby, ycy, i64_w, i32_w]
    rfl
  refine pure_ (i := 5) (N := some 25) (v := ?_) (a' := ?_) #[true, true, true, true, true, true, false, false, false, false, false, false, false, false] rfl rfl (by kernel_rfl) (fun _ _ _ h => h) (Or.inl ⟨by rfl, ?_⟩) ?_ ?_
  rotate_left
  · intro w'
    go_simp
    with_reducible rfl
  rotate_left
  · simp only [Act.put, yay, yby, ycy, i64_w, i32_w]
    rfl
  refine pure_ (i := 6) (N := some 26) (v := ?_) (a' := ?_) #[true, true, true, true, true, true, true, false, false, false, false, false, false, false] rfl rfl (by kernel_rfl) (fun _ _ _ h => h) (Or.inl ⟨by rfl, ?_⟩) ?_ ?_
  rotate_left
  · intro w'
    go_simp
    with_reducible rfl
  rotate_left
  · simp only [Act.put, yay, yby, ycy, i64_w, i32_w]
    rfl
  refine pure_ (i := 8) (N := some 28) (v := ?_) (a' := ?_) #[true, true, true, true, true, true, true, false, true, false, false, false, false, false] rfl rfl (by kernel_rfl) (fun _ _ _ h => h) (Or.inl ⟨by rfl, ?_⟩) ?_ ?_
  rotate_left
  · intro w'
    go_simp
    with_reducible rfl
  rotate_left
  · simp only [Act.put, yay, yby, ycy, i64_w, i32_w]
    rfl
  refine pure_ (i := 9) (N := some 29) (v := ?_) (a' := ?_) #[true, true, true, true, true, true, true, false, true, true, false, false, false, false] rfl rfl (by kernel_rfl) (fun _ _ _ h => h) (Or.inl ⟨by rfl, ?_⟩) ?_ ?_
  rotate_left
  · intro w'
    go_simp
    with_reducible rfl
  rotate_left
  · simp only [Act.put, yay, yby, ycy, i64_w, i32_w]
    rfl
  refine one_ (i := 7) (N := some 27) #[true, true, true, true, true, true, true, true, true, true, false, false, false, false] rfl rfl (by kernel_rfl) (by decide) (fun K hK => ?_)
  refine goes_ Try.func22 (by kernel_rfl) rfl #[.int .i64 p, .int .i64 f] (by rfl) rfl rfl (by (try simp only [yiy, yjy, yky]); first | done | rfl) ?_
  refine (spec_l06At.calls k p f g _ HG.out).mono ?_
  rintro e w4 ⟨rfl, hb⟩
  refine ⟨_, rfl, ?_⟩
  have HS2 := Aside0.mk (Kd.S_below HS.out hb)
  have BT2 := Aside0.mk (blk_below BT.out hb)
  have HB2 := Aside0.mk (below_step HB.out hb)
  have HK2 := Aside0.mk (HK.out.below hb)
  have hy2 := (hb.cell (yny _ _ hy1)).trans hy1
  clear HS BT HB HK hy1 hb
  have HS := HS2
  have BT := BT2
  have HB := HB2
  have HK := HK2
  have hy1 := hy2
  clear HS2 BT2 HB2 HK2 hy2
  refine hK.out _ _ ⟨(blk_cell BT.out 0).trans rfl, hy1⟩ (fun hHeld => ?_)
  clear hK K
  refine norm_ (a' := ?_) ?_ ?_
  rotate_left
  · show Act.put _ (some 27) _ = _
    simp only [Act.put, yay, yby, ycy, i64_w, i32_w]
    rfl
  refine one_ (i := 10) (N := some 30) #[true, true, true, true, true, true, true, true, true, true, true, false, false, false] rfl rfl (by kernel_rfl) (by decide) (fun K hK => ?_)
  refine goes_ Try.func69 (by kernel_rfl) rfl #[.int .i64 p] (by rfl) rfl rfl (by (try simp only [yiy, yjy, yky]); first | done | rfl) ?_
  refine (spec_l06Back.calls k p q _ HQ.out).mono ?_
  rintro e w5 ⟨rfl, hb⟩
  refine ⟨_, rfl, ?_⟩
  have HS2 := Aside0.mk (Kd.S_below HS.out hb)
  have BT2 := Aside0.mk (blk_below BT.out hb)
  have HB2 := Aside0.mk (below_step HB.out hb)
  have HK2 := Aside0.mk (HK.out.below hb)
  have hy2 := (hb.cell (yny _ _ hy1)).trans hy1
  clear HS BT HB HK hy1 hb
  have HS := HS2
  have BT := BT2
  have HB := HB2
  have HK := HK2
  have hy1 := hy2
  clear HS2 BT2 HB2 HK2 hy2
  refine hK.out _ _ ⟨(blk_cell BT.out 0).trans rfl, hy1⟩ (fun hHeld => ?_)
  clear hK K
  refine norm_ (a' := ?_) ?_ ?_
  rotate_left
  · show Act.put _ (some 30) _ = _
    simp only [Act.put, yay, yby, ycy, i64_w, i32_w]
    rfl
  refine pure_ (i := 11) (N := some 31) (v := ?_) (a' := ?_) #[true, true, true, true, true, true, true, true, true, true, true, true, false, false] rfl rfl (by kernel_rfl) (fun _ _ _ h => h) (Or.inl ⟨by rfl, ?_⟩) ?_ ?_
  rotate_left
  · intro w'
    go_simp
    with_reducible rfl
  rotate_left
  · simp only [Act.put, yay, yby, ycy, i64_w, i32_w]
    rfl
  refine pure_ (i := 12) (N := some 32) (v := ?_) (a' := ?_) #[true, true, true, true, true, true, true, true, true, true, true, true, true, false] rfl rfl (by kernel_rfl) (fun _ _ _ h => h) (Or.inl ⟨by rfl, ?_⟩) ?_ ?_
  rotate_left
  · intro w'
    go_simp
    with_reducible rfl
  rotate_left
  · simp only [Act.put, yay, yby, ycy, i64_w, i32_w]
    rfl
  obtain ⟨gr3, cr3, hv0, hv1, hv2, hv3, hv4, hok3, hbs3, ⟨cells3, hcl3⟩, hS3, hgr3⟩ := nest_put HS.out b g hb0 hb1 hg0 (by rw [hrl]; exact hg1') ⟨a, q⟩
  rw [hrl] at hv0
  have he3 := yey (hv0.symm.trans hy1)
  injection he3 with he3 _ _
  injection he3 with he3
  injection he3 with he3 _ _
  subst he3
  refine last_ (i := 13) (N := none) #[true, true, true, true, true, true, true, true, true, true, true, true, true, true] rfl rfl (by kernel_rfl) (by decide) (fun K hK => ?_)
  refine skip_ (w1 := ?_) (by rfl) rfl ?_ ?_
  rotate_left
  · go_simp
    rfl
  refine hK.out _ _ ?_
  clear hK K
  refine done_ (by kernel_rfl) ?_
  try go_wp2
  first | go_end0 | ((try simp only [Exit.inBlock, Exit.then]); refine bodyPost_ret (results_none rfl _ _ _) rfl ?_)
  refine ⟨?_, hS3, below_set (below_set HB.out hbs3) hbs3, Kept.of_grown hgr3 HK.out (fun k_ e_ => by injection e_ with e_; subst e_; exact .inl hok3)⟩
  first | rfl | (simp <;> rfl)
/-! glue: two faces of a triangulation that is the call's own are written. -/
set_option maxHeartbeats 8000000 in
set_option maxRecDepth 100000 in
theorem impl_Triangulation_glue.raw (P0_ : Nat → Prop) (v : Value) (t : List (List SFace)) (a f b p g x0 x1 : Int) (w0 w : World) (hB : Below w0.heap.size w0 w) (ho0 : Kd.S (Kd.slice 47 kFace) 48 w w0.heap.size (fun k => P0_ k ∧ k < w.heap.size) v t)
    (ha0 : 0 ≤ a) (ha1 : a < t.length) (hf0 : 0 ≤ f) (hf1 : f < (rd_LFace t a).length) (hb0 : 0 ≤ b) (hb1 : b < t.length) (hg0 : 0 ≤ g) (hg1 : g < (rd_LFace (putF t a f ⟨b, p⟩) b).length) (hg : impl_Face_target.f b p f = some g) (hq : impl_Face_partner.f b p a = some (x0, x1)) :
    Calls Try.prog 65 #[.agg #[v], .int .i64 a, .int .i64 f, .int .i64 b, .int .i64 p] w fun e w' => e = .returned (.tuple #[]) ∧ Kd.S (Kd.slice 47 kFace) 48 w' w0.heap.size P0_ v (putF (putF t a f ⟨b, p⟩) b g ⟨x0, x1⟩) ∧ Below w0.heap.size w0 w' ∧ Kept w w' P0_ := by
  obtain ⟨A, cap, rfl⟩ := Kd.S_slice ho0
  rcases A with _ | ad
  · obtain ⟨_, _, ev, _⟩ := Kd.S_form ho0 (by omega)
    cases ev
  have hS1 := Kd.S_drew (Kd.S_alloc (Kd.S_alloc ho0 (.cells #[.slice (some ad) t.length cap] 30)) (.cells #[.int .i64 b, .int .i64 p] 47))
  have BT := Aside0.mk (blk_drew (blk_alloc (new_at4 (W := w) rfl (.cells #[.slice (some ad) t.length cap] 30)) (.cells #[.int .i64 b, .int .i64 p] 47)))
  have BF := Aside0.mk (blk_drew (new_at4 (W := w.alloc (.cells #[.slice (some ad) t.length cap] 30)) (n := w.heap.size + 1) (by simp) (.cells #[.int .i64 b, .int .i64 p] 47)))
  have HB := Aside0.mk (below_drew1 (below_alloc (below_alloc hB (.cells #[.slice (some ad) t.length cap] 30)) (.cells #[.int .i64 b, .int .i64 p] 47)))
  have HK := Aside0.mk (((Kept.refl w P0_).alloc (.cells #[.slice (some ad) t.length cap] 30)).alloc (.cells #[.int .i64 b, .int .i64 p] 47)).drew
  obtain ⟨gr, cr, hy0, hx0, hx1, hz0, hz1, hok, hbs, ⟨cells, hcl⟩, hS2, hgr⟩ := nest_put hS1 a f ha0 ha1 hf0 hf1 ⟨b, p⟩
  have HS := Aside0.mk hS2
  have HGR := Aside0.mk hgr
  have HOK := Aside0.mk hok
  have HC := Aside0.mk hcl
  have HG := Aside0.mk hg
  have HQ := Aside0.mk hq
  have HBS := Aside0.mk hbs
  clear hS1 hS2 hgr hok hcl hg hq hB ho0 hbs
  go_enter Try.func65, Try.ntmps65
  try go_wp2
  generalize hrl0 : (rd_LFace t a).length = rl0 at *
  refine start_ (n := 9) (S := fun w' => w'.cell? ⟨w.heap.size, 0, none⟩ = some (.slice (some ad) t.length cap) ∧ w'.cell? (ad.add a.toNat) = some (.slice (some ⟨gr, 0, none⟩) rl0 cr) ∧ w'.cell? ⟨w.heap.size + 1, 0, none⟩ = some (.int .i64 b) ∧ w'.cell? ⟨w.heap.size + 1, 1, none⟩ = some (.int .i64 p)) (ds := [8]) #[false, false, false, false, false, false, false, false, false] (by kernel_rfl) rfl rfl ⟨(blk_cell BT.out 0).trans rfl, hy0, (blk_cell BF.out 0).trans rfl, (blk_cell BF.out 1).trans rfl⟩ (fun hHeld => ?_)
  generalize hwd : World.drew (World.alloc (World.alloc w _) _) = wd at *
  clear hwd
  refine pure_ (i := 0) (N := some 14) (v := ?_) (a' := ?_) #[true, false, false, false, false, false, false, false, false] rfl rfl (by kernel_rfl) (fun _ _ _ h => h) (Or.inl ⟨by rfl, ?_⟩) ?_ ?_
  rotate_left
  · intro w'
    go_simp
    with_reducible rfl
  rotate_left
  · simp only [Act.put, yay, yby, ycy, i64_w, i32_w]
    rfl
  refine take_ (i := 1) (N := some 15) (v := ?_) (a' := ?_) #[true, true, false, false, false, false, false, false, false] rfl rfl (by kernel_rfl) (fun _ _ _ h => h) (Or.inl ⟨by rfl, ?_⟩) hHeld ?_ ?_
  rotate_left
  · rintro w' ⟨s0, s1, s2, s3⟩
    go_simp
    with_reducible rfl
  rotate_left
  · simp only [Act.put, yay, yby, ycy, i64_w, i32_w]
    rfl
  refine pure_ (i := 2) (N := some 16) (v := ?_) (a' := ?_) #[true, true, true, false, false, false, false, false, false] rfl rfl (by kernel_rfl) (fun _ _ _ h => h) (Or.inl ⟨by rfl, ?_⟩) ?_ ?_
  rotate_left
  · intro w'
    go_simp
    with_reducible rfl
  rotate_left
  · simp only [Act.put, yay, yby, ycy, i64_w, i32_w]
    rfl
  refine pure_ (i := 3) (N := some 17) (v := ?_) (a' := ?_) #[true, true, true, true, false, false, false, false, false] rfl rfl (by kernel_rfl) (fun _ _ _ h => h) (Or.inl ⟨by rfl, ?_⟩) ?_ ?_
  rotate_left
  · intro w'
    go_simp
    with_reducible rfl
  rotate_left
  · simp only [Act.put, yay, yby, ycy, i64_w, i32_w]
    rfl
  refine take_ (i := 4) (N := some 18) (v := ?_) (a' := ?_) #[true, true, true, true, true, false, false, false, false] rfl rfl (by kernel_rfl) (fun _ _ _ h => h) (Or.inl ⟨by rfl, ?_⟩) hHeld ?_ ?_
  rotate_left
  · rintro w' ⟨s0, s1, s2, s3⟩
    go_simp
    with_reducible rfl
  rotate_left
  · simp only [Act.put, yay, yby, ycy, i64_w, i32_w]
    rfl
  refine pure_ (i := 5) (N := some 19) (v := ?_) (a' := ?_) #[true, true, true, true, true, true, false, false, false] rfl rfl (by kernel_rfl) (fun _ _ _ h => h) (Or.inl ⟨by rfl, ?_⟩) ?_ ?_
  rotate_left
  · intro w'
    go_simp
    with_reducible rfl
  rotate_left
  · simp only [Act.put, yay, yby, ycy, i64_w, i32_w]
    rfl
  refine take_ (i := 6) (N := some 20) (v := ?_) (a' := ?_) #[true, true, true, true, true, true, true, false, false] rfl rfl (by kernel_rfl) (fun _ _ _ h => h) (Or.inl ⟨by rfl, ?_⟩) hHeld ?_ ?_
  rotate_left
  · rintro w' ⟨s0, s1, s2, s3⟩
    go_simp
    with_reducible rfl
  rotate_left
  · simp only [Act.put, yay, yby, ycy, i64_w, i32_w]
    rfl
  refine pure_ (i := 7) (N := some 21) (v := ?_) (a' := ?_) #[true, true, true, true, true, true, true, true, false] rfl rfl (by kernel_rfl) (fun _ _ _ h => h) (Or.inl ⟨by rfl, ?_⟩) ?_ ?_
  rotate_left
  · intro w'
    go_simp
    with_reducible rfl
  rotate_left
  · simp only [Act.put, yay, yby, ycy, i64_w, i32_w]
    rfl
  refine last_ (i := 8) (N := none) #[true, true, true, true, true, true, true, true, true] rfl rfl (by kernel_rfl) (by decide) (fun K hK => ?_)
  refine skip_ (w1 := ?_) (by rfl) rfl ?_ ?_
  rotate_left
  · go_simp
    rfl
  refine hK.out _ _ ?_
  clear hK K
  refine done_ (by kernel_rfl) ?_
  clear hx0 hx1 hz0 hz1 hy0 hHeld
  have BT2 := Aside0.mk (blk_grown BT.out HGR.out (by intro e_; injection e_ with e_; exact blk_ne BT.out HC.out (by decide) e_))
  have BF2 := Aside0.mk (blk_grown BF.out HGR.out (by intro e_; injection e_ with e_; have := HOK.out.2; omega))
  have HB2 := Aside0.mk (below_set (j := f.toNat * 2 + 1) (v := .int .i64 p) (below_set (j := f.toNat * 2) (v := .int .i64 b) HB.out HBS.out) HBS.out)
  have HK2 := Aside0.mk (Kept.of_grown HGR.out HK.out (fun k_ e_ => by injection e_ with e_; subst e_; exact .inl HOK.out.1))
  clear BT BF HB HK HGR HC HOK
  generalize hw3 : (wd.setCell ⟨gr, f.toNat * 2, none⟩ (.int .i64 b)).setCell ⟨gr, f.toNat * 2 + 1, none⟩ (.int .i64 p) = w3 at *
  clear hw3 HBS
  have BT := BT2
  have BF := BF2
  have HB := HB2
  have HK := HK2
  clear BT2 BF2 HB2 HK2
  subst hrl0
  obtain ⟨gr2, cr2, hy1, _⟩ := nest_put HS.out b g hb0 hb1 hg0 hg1 ⟨x0, x1⟩
  have hg1' : g < ((rd_LFace (putF t a f ⟨b, p⟩) b).length : Int) := hg1
  generalize hrl : (rd_LFace (putF t a f ⟨b, p⟩) b).length = rl at hy1 hg1 hg1'
  try go_wp2
  refine start_ (n := 13) (S := fun w' => w'.cell? ⟨w.heap.size, 0, none⟩ = some (.slice (some ad) t.length cap) ∧ w'.cell? (ad.add b.toNat) = some (.slice (some ⟨gr2, 0, none⟩) rl cr2) ∧ w'.cell? ⟨w.heap.size + 1, 0, none⟩ = some (.int .i64 b) ∧ w'.cell? ⟨w.heap.size + 1, 1, none⟩ = some (.int .i64 p)) (ds := [12]) #[false, false, false, false, false, false, false, false, false, false, false, false, false] (by kernel_rfl) rfl rfl ⟨(blk_cell BT.out 0).trans rfl, hy1, (blk_cell BF.out 0).trans rfl, (blk_cell BF.out 1).trans rfl⟩ (fun hHeld => ?_)
  have HS2 := Aside0.mk (Kd.S_drew HS.out)
  have BT2 := Aside0.mk (blk_drew BT.out)
  have BF2 := Aside0.mk (blk_drew BF.out)
  have HB2 := Aside0.mk (below_drew1 HB.out)
  have HK2 := Aside0.mk HK.out.drew
  replace hy1 : w3.drew.cell? (ad.add b.toNat) = some (.slice (some ⟨gr2, 0, none⟩) rl cr2) := hy1
  clear HS BT BF HB HK
  have HS := HS2
  have BT := BT2
  have BF := BF2
  have HB := HB2
  have HK := HK2
  clear HS2 BT2 BF2 HB2 HK2
  generalize w3.drew = w33 at HS BT BF HB HK hy1 hHeld ⊢
  refine pure_ (i := 0) (N := some 22) (v := ?_) (a' := ?_) #[true, false, false, false, false, false, false, false, false, false, false, false, false] rfl rfl (by kernel_rfl) (fun _ _ _ h => h) (Or.inl ⟨by rfl, ?_⟩) ?_ ?_
  rotate_left
  · intro w'
    go_simp
    with_reducible rfl
  rotate_left
  · simp only [Act.put, yay, yby, ycy, i64_w, i32_w]
    rfl
  refine take_ (i := 1) (N := some 23) (v := ?_) (a' := ?_) #[true, true, false, false, false, false, false, false, false, false, false, false, false] rfl rfl (by kernel_rfl) (fun _ _ _ h => h) (Or.inl ⟨by rfl, ?_⟩) hHeld ?_ ?_
  rotate_left
  · rintro w' ⟨s0, s1, s2, s3⟩
    go_simp
    with_reducible rfl
  rotate_left
  · simp only [Act.put, yay, yby, ycy, i64_w, i32_w]
    rfl
  refine pure_ (i := 2) (N := some 24) (v := ?_) (a' := ?_) #[true, true, true, false, false, false, false, false, false, false, false, false, false] rfl rfl (by kernel_rfl) (fun _ _ _ h => h) (Or.inl ⟨by rfl, ?_⟩) ?_ ?_
  rotate_left
  · intro w'
    go_simp
    with_reducible rfl
  rotate_left
  · simp only [Act.put, yay, yby, ycy, i64_w, i32_w]
    rfl
  refine pure_ (i := 3) (N := some 25) (v := ?_) (a' := ?_) #[true, true, true, true, false, false, false, false, false, false, false, false, false] rfl rfl (by kernel_rfl) (fun _ _ _ h => h) (Or.inl ⟨by rfl, ?_⟩) ?_ ?_
  rotate_left
  · intro w'
    go_simp
    with_reducible rfl
  rotate_left
  · simp only [Act.put, yay, yby, ycy, i64_w, i32_w]
    rfl
  refine take_ (i := 4) (N := some 26) (v := ?_) (a' := ?_) #[true, true, true, true, true, false, false, false, false, false, false, false, false] rfl rfl (by kernel_rfl) (fun _ _ _ h => h) (Or.inl ⟨by rfl, ?_⟩) hHeld ?_ ?_
  rotate_left
  · rintro w' ⟨s0, s1, s2, s3⟩
    go_simp
    with_reducible rfl
  rotate_left
  · simp only [Act.put, yay, yby, ycy, i64_w, i32_w]
    rfl
  refine take_ (i := 5) (N := some 27) (v := ?_) (a' := ?_) #[true, true, true, true, true, true, false, false, false, false, false, false, false] rfl rfl (by kernel_rfl) (fun _ _ _ h => h) (Or.inl ⟨by rfl, ?_⟩) hHeld ?_ ?_
  rotate_left
  · rintro w' ⟨s0, s1, s2, s3⟩
    go_simp
    with_reducible rfl
  rotate_left
  · simp only [Act.put, yay, yby, ycy, i64_w, i32_w]
    rfl
  refine pure_ (i := 6) (N := some 28) (v := ?_) (a' := ?_) #[true, true, true, true, true, true, true, false, false, false, false, false, false] rfl rfl (by kernel_rfl) (fun _ _ _ h => h) (Or.inl ⟨by rfl, ?_⟩) ?_ ?_
  rotate_left
  · intro w'
    go_simp
    with_reducible rfl
  rotate_left
  · simp only [Act.put, yay, yby, ycy, i64_w, i32_w]
    rfl
  refine take_ (i := 8) (N := some 30) (v := ?_) (a' := ?_) #[true, true, true, true, true, true, true, false, true, false, false, false, false] rfl rfl (by kernel_rfl) (fun _ _ _ h => h) (Or.inl ⟨by rfl, ?_⟩) hHeld ?_ ?_
  rotate_left
  · rintro w' ⟨s0, s1, s2, s3⟩
    go_simp
    with_reducible rfl
  rotate_left
  · simp only [Act.put, yay, yby, ycy, i64_w, i32_w]
    rfl
  refine pure_ (i := 9) (N := some 31) (v := ?_) (a' := ?_) #[true, true, true, true, true, true, true, false, true, true, false, false, false] rfl rfl (by kernel_rfl) (fun _ _ _ h => h) (Or.inl ⟨by rfl, ?_⟩) ?_ ?_
  rotate_left
  · intro w'
    go_simp
    with_reducible rfl
  rotate_left
  · simp only [Act.put, yay, yby, ycy, i64_w, i32_w]
    rfl
  refine one_ (i := 7) (N := some 29) #[true, true, true, true, true, true, true, true, true, true, false, false, false] rfl rfl (by kernel_rfl) (by decide) (fun K hK => ?_)
  refine goes_ Try.func27 (by kernel_rfl) rfl #[.agg #[.int .i64 b, .int .i64 p], .int .i64 f] (by rfl) rfl rfl (by (try simp only [yiy, yjy, yky]); first | done | rfl) ?_
  refine (impl_Face_target.calls b p f g _ HG.out).mono ?_
  rintro e w4 ⟨rfl, hb⟩
  refine ⟨_, rfl, ?_⟩
  have HS2 := Aside0.mk (Kd.S_below HS.out hb)
  have BT2 := Aside0.mk (blk_below BT.out hb)
  have BF2 := Aside0.mk (blk_below BF.out hb)
  have HB2 := Aside0.mk (below_step HB.out hb)
  have HK2 := Aside0.mk (HK.out.below hb)
  have hy2 := (hb.cell (yny _ _ hy1)).trans hy1
  clear HS BT BF HB HK hy1 hb
  have HS := HS2
  have BT := BT2
  have BF := BF2
  have HB := HB2
  have HK := HK2
  have hy1 := hy2
  clear HS2 BT2 BF2 HB2 HK2 hy2
  refine hK.out _ _ ⟨(blk_cell BT.out 0).trans rfl, hy1, (blk_cell BF.out 0).trans rfl, (blk_cell BF.out 1).trans rfl⟩ (fun hHeld => ?_)
  clear hK K
  refine norm_ (a' := ?_) ?_ ?_
  rotate_left
  · show Act.put _ (some 29) _ = _
    simp only [Act.put, yay, yby, ycy, i64_w, i32_w]
    rfl
  refine one_ (i := 10) (N := some 32) #[true, true, true, true, true, true, true, true, true, true, true, false, false] rfl rfl (by kernel_rfl) (by decide) (fun K hK => ?_)
  refine goes_ Try.func80 (by kernel_rfl) rfl #[.agg #[.int .i64 b, .int .i64 p], .int .i64 a] (by rfl) rfl rfl (by (try simp only [yiy, yjy, yky]); first | done | rfl) ?_
  refine (impl_Face_partner.calls b p a x0 x1 _ HQ.out).mono ?_
  rintro e w5 ⟨rfl, hb⟩
  refine ⟨_, rfl, ?_⟩
  have HS2 := Aside0.mk (Kd.S_below HS.out hb)
  have BT2 := Aside0.mk (blk_below BT.out hb)
  have BF2 := Aside0.mk (blk_below BF.out hb)
  have HB2 := Aside0.mk (below_step HB.out hb)
  have HK2 := Aside0.mk (HK.out.below hb)
  have hy2 := (hb.cell (yny _ _ hy1)).trans hy1
  clear HS BT BF HB HK hy1 hb
  have HS := HS2
  have BT := BT2
  have BF := BF2
  have HB := HB2
  have HK := HK2
  have hy1 := hy2
  clear HS2 BT2 BF2 HB2 HK2 hy2
  refine hK.out _ _ ⟨(blk_cell BT.out 0).trans rfl, hy1, (blk_cell BF.out 0).trans rfl, (blk_cell BF.out 1).trans rfl⟩ (fun hHeld => ?_)
  clear hK K
  refine norm_ (a' := ?_) ?_ ?_
  rotate_left
  · show Act.put _ (some 32) _ = _
    simp only [Act.put, yay, yby, ycy, i64_w, i32_w]
    rfl
  refine pure_ (i := 11) (N := some 33) (v := ?_) (a' := ?_) #[true, true, true, true, true, true, true, true, true, true, true, true, false] rfl rfl (by kernel_rfl) (fun _ _ _ h => h) (Or.inl ⟨by rfl, ?_⟩) ?_ ?_
  rotate_left
  · intro w'
    go_simp
    with_reducible rfl
  rotate_left
  · simp only [Act.put, yay, yby, ycy, i64_w, i32_w]
    rfl
  obtain ⟨gr3, cr3, hv0, hv1, hv2, hv3, hv4, hok3, hbs3, ⟨cells3, hcl3⟩, hS3, hgr3⟩ := nest_put HS.out b g hb0 hb1 hg0 (by rw [hrl]; exact hg1') ⟨x0, x1⟩
  rw [hrl] at hv0
  have he3 := yey (hv0.symm.trans hy1)
  injection he3 with he3 _ _
  injection he3 with he3
  injection he3 with he3 _ _
  subst he3
  refine last_ (i := 12) (N := none) #[true, true, true, true, true, true, true, true, true, true, true, true, true] rfl rfl (by kernel_rfl) (by decide) (fun K hK => ?_)
  refine skip_ (w1 := ?_) (by rfl) rfl ?_ ?_
  rotate_left
  · go_simp
    rfl
  refine hK.out _ _ ?_
  clear hK K
  refine done_ (by kernel_rfl) ?_
  try go_wp2
  first | go_end0 | ((try simp only [Exit.inBlock, Exit.then]); refine bodyPost_ret (results_none rfl _ _ _) rfl ?_)
  refine ⟨?_, Kd.S_mono hS3 (fun _ h_ => h_.1), below_set (below_set HB.out hbs3) hbs3, Kept.of_grown hgr3 HK.out (fun k_ e_ => by injection e_ with e_; subst e_; exact .inl hok3.1)⟩
  first | rfl | (simp <;> rfl)
/-! glue, in the print's words. -/
def impl_Triangulation_glue.f (t : List (List SFace)) (a f b p : Int) : Option (List (List SFace)) := (impl_Face_target.f b p f).bind fun g => (impl_Face_partner.f b p a).bind fun x =>
  if (0 ≤ a ∧ a < t.length ∧ 0 ≤ f ∧ f < (rd_LFace t a).length) ∧ (0 ≤ b ∧ b < t.length ∧ 0 ≤ g ∧ g < (rd_LFace (putF t a f ⟨b, p⟩) b).length) then some (putF (putF t a f ⟨b, p⟩) b g ⟨x.1, x.2⟩) else none
theorem impl_Triangulation_glue.calls (P0_ : Nat → Prop) (v : Value) (t : List (List SFace)) (a f b p : Int) (r : List (List SFace)) (w0 w : World) (hB : Below w0.heap.size w0 w) (ho0 : Kd.S (Kd.slice 47 kFace) 48 w w0.heap.size P0_ v t) (h : impl_Triangulation_glue.f t a f b p = some r) :
    Calls Try.prog 65 #[.agg #[v], .int .i64 a, .int .i64 f, .int .i64 b, .int .i64 p] w fun e w' => e = .returned (.tuple #[]) ∧ Kd.S (Kd.slice 47 kFace) 48 w' w0.heap.size P0_ v r ∧ Below w0.heap.size w0 w' ∧ Kept w w' P0_ := by
  obtain ⟨g, hg, h⟩ := ydy.mp h
  obtain ⟨⟨x0, x1⟩, hq, h⟩ := ydy.mp h
  split at h
  · rename_i hc
    obtain ⟨⟨a0, a1, f0, f1⟩, b0, b1, g0, g1⟩ := hc
    rw [← yey h]
    exact impl_Triangulation_glue.raw P0_ v t a f b p g x0 x1 w0 w hB (Kd.S_mono (Kd.S_bound ho0) (fun _ h_ => ⟨h_.1, h_.2.2.1⟩)) a0 a1 f0 f1 b0 b1 g0 g1 hg hq
  · cases h
/-! ### impl_counting: function 54 -/
def impl_counting.l0 : Nat → List Int → Int → Int → Option (List Int)
  | 0, _, _, _ => none
  | k + 1, x3, x5, x6 => if x6 < x5 then (if x3.length < 17592186044416 then (impl_counting.l0 k (x3 ++ [x6]) x5 (wrap64 (x6 + 1))) else (none)) else (some x3)
def impl_counting.f (k : Nat) (a0 : Int) : Option (List Int) := impl_counting.l0 k ([] : List Int) a0 0
theorem impl_counting.mono_l : ∀ k, (∀ y0 y1 y2, LeO (impl_counting.l0 k y0 y1 y2) (impl_counting.l0 (k + 1) y0 y1 y2))
  | 0 => fun _ _ _ r h => by simp [impl_counting.l0] at h
  | k + 1 => by
    have ih0 := impl_counting.mono_l k
    · intro y0 y1 y2
      unfold impl_counting.l0
      repeat' first
      | (with_reducible exact ih0 _ _ _)
      | (with_reducible exact LeO.refl _)
      | (with_reducible exact LeO.none _)
      | (with_reducible refine LeO.ite ?_ ?_)
      | (with_reducible refine LeO.bind ?_ (fun _ => ?_))
      | exact ih0 _ _ _
      | exact LeO.none _
      | refine LeO.ite ?_ ?_
      | refine LeO.bind ?_ (fun _ => ?_)
theorem impl_counting.mono : ∀ a0 k, LeO (impl_counting.f k a0) (impl_counting.f (k + 1) a0) := by
  intro a0 k
  have ih0 := impl_counting.mono_l k
  unfold impl_counting.f
  repeat' first
      | (with_reducible exact ih0 _ _ _)
      | (with_reducible exact LeO.refl _)
      | (with_reducible exact LeO.none _)
      | (with_reducible refine LeO.ite ?_ ?_)
      | (with_reducible refine LeO.bind ?_ (fun _ => ?_))
      | exact ih0 _ _ _
      | exact LeO.none _
      | refine LeO.ite ?_ ?_
      | refine LeO.bind ?_ (fun _ => ?_)
set_option maxHeartbeats 8000000 in
set_option maxRecDepth 100000 in
theorem impl_counting.calls (k : Nat) (a0 : Int) (r : List Int) (w : World) (h : impl_counting.f k a0 = some r) :
    Calls Try.prog 54 #[.int .i64 a0] w fun e w' => ∃ v0_ : Value, e = .returned (v0_) ∧ Kd.R (Kd.int .i64) 2 w' w.heap.size (fun _ => True) v0_ r ∧ Below w.heap.size w w' := by
  have HB := Aside0.mk (Below.refl w.heap.size w)
  have H : (impl_counting.l0 k ([] : List Int) a0 0) = some r := h
  clear h
  have H' := Aside0.mk H
  clear H
  go_enter Try.func54, Try.ntmps54
  go_wp2
  go_loopg [3, 6] k (fun kq v3 v6 w' => ∃ (x3_1 : List Int) (x6_1 : Int), v6 = .int .i64 x6_1 ∧ Aside0 (impl_counting.l0 kq x3_1 a0 x6_1 = some r) ∧ Aside0 (kq ≤ k) ∧ Aside0 (Kd.R (Kd.int .i64) 2 w' w.heap.size (fun _ => True) v3 x3_1) ∧ Aside0 (Below w.heap.size w w'))
  case atStart => exact ⟨(([] : List Int)), (0), (by first | rfl | (simp; done) | (simp [*]; done)), H', ⟨yoy _⟩, ⟨by first | exact Kd.R_nil _ _ _ _ _ | exact Kd.N_nil _ _ _ _ _ | exact Kd.V_nil _ _ _ _ _ | exact Kd.Q_nil _ _ _ _ _ | exact Kd.S_nil _ _ _ _ _⟩, ⟨by repeat (first | (with_reducible first | exact HB.out | apply below_alloc | apply pw_below_drewN | apply below_drew1) | exact HB.out)⟩⟩
  case round =>
    clear H'
    obtain ⟨x3_1, x6_1, rfl, HA, HK1, HO_3, HB⟩ := hrel
    cases gk with
    | zero => exact absurd HA.out (by simp [impl_counting.l0])
    | succ k1 =>
      have H := HA.out
      clear HA
      simp only [impl_counting.l0] at H
      by_cases c2 : x6_1 < a0
      · rw [if_pos c2] at H
        have c2b0 : decide (x6_1 < a0) = true := ygy c2
        clear c2
        by_cases c3 : x3_1.length < 17592186044416
        · rw [if_pos c3] at H
          have LMc3 := Aside0.mk c3
          clear c3
          obtain ⟨y101, hy101⟩ : ∃ y_ : List Int, y_ = (x3_1 ++ [x6_1]) := ⟨_, rfl⟩
          replace H : (impl_counting.l0 k1 y101 a0 (wrap64 (x6_1 + 1))) = some r := by first | (rw [hy101]; with_reducible exact H) | (have H2_ := (yfy _ _).symm.trans H; rw [hy101]; with_reducible exact H2_) | (have H2_ := (yfy _ _).symm.trans H; with_reducible exact H2_) | with_reducible exact H | (rw [hy101]; exact H) | exact H
          have Ny101 := Aside0.mk hy101
          clear hy101
          have H' := Aside0.mk H
          clear H
          go_wp2_with (first | ((with_reducible refine gate_builtin (b := .append) (xs := #[.tmp 9, .tmp 11]) rfl ?_); at_builtin; refine Kd.R_append (Kd.int .i64) (w0 := w) w.heap.size rfl (.tmp 9) (.tmp 11) 44 2 (.int .i64 0) 8 rfl Try.underlying44 info2 rfl (by decide) (by omega) u3 x3_1 x6_1 [.int .i64 x6_1] (fun _ => True) (fun _ => False) rfl rfl ?aP (fun _ hk => hk.elim) ?aF ?aO ?aB ?aS ?aL ?_; (case aP => exact rfl); (case aB => exact (by repeat (first | (with_reducible first | exact HB.out | apply below_alloc | apply pw_below_drewN | apply below_drew1) | exact HB.out))); (case aF => exact (fun _ _ => trivial)); (case aO => exact (by (with_reducible repeat (first | apply Kd.R_alloc | apply Kd.R_drewN | apply Kd.R_drew)); exact HO_3.out)); (case aS => exact (below_size (by repeat (first | (with_reducible first | exact HB.out | apply below_alloc | apply pw_below_drewN | apply below_drew1) | exact HB.out)))); (case aL => have := LMc3.out; omega); intro v102 w4 ho hb hg hat; rw [← Ny101.out] at ho; have n0_ := Aside0.mk (hb); have n1_ := Aside0.mk (ho); clear HB; clear HO_3; have HB := n0_; have HO103 := n1_; clear n0_ n1_; clear ho hb hg hat))
          go_roundg k1
          case measure => have := HK1.out; omega
          case rel => exact ⟨(y101), (wrap64 (x6_1 + 1)), (by first | rfl | (simp; done) | (simp [*]; done)), H', ⟨by have := HK1.out; omega⟩, ⟨by (with_reducible repeat (first | apply Kd.R_alloc | apply Kd.R_drewN | apply Kd.R_drew)); exact HO103.out⟩, ⟨by repeat (first | (with_reducible first | exact HB.out | apply below_alloc | apply pw_below_drewN | apply below_drew1) | exact HB.out)⟩⟩
        · rw [if_neg c3] at H
          exact absurd H (by simp)
      · rw [if_neg c2] at H
        have c2b0 : decide (x6_1 < a0) = false := yhy c2
        clear c2
        obtain rfl := yey H
        go_wp2
        go_ret
        exact ⟨_, by first | rfl | (simp [errW_none, errW_some] <;> rfl) | (simp [*, errW_none, errW_some] <;> rfl), by (with_reducible repeat (first | apply Kd.R_alloc | apply Kd.R_drewN | apply Kd.R_drew)); exact HO_3.out, by repeat (first | (with_reducible first | exact HB.out | apply below_alloc | apply pw_below_drewN | apply below_drew1) | exact HB.out)⟩
/-! The place of the first element that a test tells true; a row of the call's own is emptied behind a place. -/
/-- The place of the first element that p tells true, or -1. -/
def idxP (p : Int → Bool) : Nat → List Int → Int
  | _, [] => -1
  | i, x :: xs => if p x = true then (i : Int) else idxP p (i + 1) xs
theorem idxP_cases (p : Int → Bool) : ∀ (l : List Int) (i : Nat), (idxP p i l = -1 ∧ ∀ x ∈ l, p x = false) ∨ ∃ k, k < l.length ∧ idxP p i l = ((i + k : Nat) : Int) ∧ (∀ h : k < l.length, p l[k] = true) ∧ ∀ x ∈ l.take k, p x = false
  | [], _ => .inl ⟨rfl, fun x hx => by cases hx⟩
  | x :: xs, i => by
    cases hp : p x with
    | true => exact .inr ⟨0, by simp, by rw [idxP, hp, if_pos rfl]; rfl, fun _ => hp, fun y hy => by simp at hy⟩
    | false =>
      rcases idxP_cases p xs (i + 1) with ⟨h1, h2⟩ | ⟨k, h1, h2, h3, h4⟩
      · refine .inl ⟨by rw [idxP, hp, if_neg (by simp)]; exact h1, fun y hy => ?_⟩
        rcases List.mem_cons.1 hy with rfl | hy
        · exact hp
        · exact h2 y hy
      · refine .inr ⟨k + 1, by simp; omega, by rw [idxP, hp, if_neg (by simp), h2]; congr 1; omega, fun h => h3 (by simpa using h), fun y hy => ?_⟩
        rw [List.take_succ_cons] at hy
        rcases List.mem_cons.1 hy with rfl | hy
        · exact hp
        · exact h4 y hy
/-- A row is emptied from i on. -/
theorem R_cleared {e B g n cap : Nat} {ok : Nat → Prop} {w0 : World} : ∀ (m i : Nat) (w : World) (dk : List Int), Kd.R (Kd.int .i64) e w B ok (.slice (some ⟨g, 0, none⟩) n cap) dk → B ≤ g → Below B w0 w →
    ∃ dk', Kd.R (Kd.int .i64) e (w.setCells g i (List.replicate m (.int .i64 0))) B ok (.slice (some ⟨g, 0, none⟩) n cap) dk' ∧ dk'.take i = dk.take i ∧ dk'.length = dk.length ∧ Below B w0 (w.setCells g i (List.replicate m (.int .i64 0)))
  | 0, i, w, dk, h, _, hb => ⟨dk, h, rfl, rfl, hb⟩
  | m + 1, i, w, dk, h, hg, hb => by
    have hn : n = dk.length := (Kd.R_reads' h).1
    subst hn
    have h1 := (Kd.R_putg h (i : Int) 0).1
    rw [Int.toNat_natCast] at h1
    have e1 : (.slice (some ⟨g, 0, none⟩) dk.length cap : Value) = .slice (some ⟨g, 0, none⟩) (dk.set i 0).length cap := by rw [List.length_set]
    rw [e1] at h1
    obtain ⟨dk', h2, h3, h4, h5⟩ := R_cleared m (i + 1) _ _ h1 hg (hb.setCell (p := ⟨g, i, none⟩) hg (.int .i64 0))
    rw [← e1] at h2
    refine ⟨dk', h2, ?_, by rw [h4, List.length_set], h5⟩
    have := congrArg (List.take i) h3
    rw [List.take_take, List.take_take, Nat.min_eq_left (by omega)] at this
    rw [this, List.take_set_of_le (yoy i)]
/-- What is kept of the first j elements, the row being rewritten. -/
structure KeptTo (p : Int → Bool) (xs dk : List Int) (i j : Nat) : Prop where
  lt : i < j
  le : j ≤ xs.length
  len : dk.length = xs.length
  done : dk.take i = (xs.take j).filter fun x => !p x
  left : dk.drop j = xs.drop j
theorem KeptTo.start {p : Int → Bool} {xs : List Int} {k : Nat} (h1 : k < xs.length) (h3 : p xs[k] = true) (h4 : ∀ x ∈ xs.take k, p x = false) : KeptTo p xs xs k (k + 1) := by
  refine ⟨by omega, by omega, rfl, ?_, rfl⟩
  rw [List.take_succ_eq_append_getElem h1, List.filter_append]
  have e1 : (xs.take k).filter (fun x => !p x) = xs.take k := List.filter_eq_self.2 (fun x hx => by rw [h4 x hx]; rfl)
  rw [e1]; simp [h3]
theorem KeptTo.get {p : Int → Bool} {xs dk : List Int} {i j : Nat} (h : KeptTo p xs dk i j) (hj : j < xs.length) : rd dk (j : Int) = xs[j] := by
  have h1 : dk[j]? = xs[j]? := by
    have := congrArg (fun l => l[0]?) h.left
    simpa [List.getElem?_drop] using this
  have h2 : j < dk.length := by rw [h.len]; exact hj
  simp [rd, List.getD_eq_getElem?_getD, h1, hj]
theorem KeptTo.keep {p : Int → Bool} {xs dk : List Int} {i j : Nat} (h : KeptTo p xs dk i j) (hj : j < xs.length) (hp : p xs[j] = false) : KeptTo p xs (dk.set i xs[j]) (i + 1) (j + 1) := by
  have hi : i < dk.length := by have := h.lt; have := h.len; omega
  refine ⟨by have := h.lt; omega, by omega, by rw [List.length_set]; exact h.len, ?_, ?_⟩
  · rw [List.take_succ_eq_append_getElem (by rw [List.length_set]; exact hi), List.take_set_of_le (yoy i), h.done, List.take_succ_eq_append_getElem hj, List.filter_append]
    simp [hp]
  · rw [List.drop_set_of_lt (by have := h.lt; omega), ← List.drop_drop, h.left, List.drop_drop]
theorem KeptTo.skip {p : Int → Bool} {xs dk : List Int} {i j : Nat} (h : KeptTo p xs dk i j) (hj : j < xs.length) (hp : p xs[j] = true) : KeptTo p xs dk i (j + 1) := by
  refine ⟨by have := h.lt; omega, by omega, h.len, ?_, ?_⟩
  · rw [h.done, List.take_succ_eq_append_getElem hj, List.filter_append]
    simp [hp]
  · rw [← List.drop_drop, h.left, List.drop_drop]
/-! slices.IndexFunc and slices.DeleteFunc at []int64, handed mapping's literal. -/
set_option maxHeartbeats 8000000 in
set_option maxRecDepth 100000 in
theorem slices_IndexFunc_mapping.calls (p : Int → Bool) (k1_ k2_ : Value) (A0 : Option Addr) (c0 : Nat) (l0 : List Int) (w : World) (hr0 : Kd.C (Kd.int .i64) w A0 l0.length l0)
    (hp : ∀ (W : World) (x : Int), x ∈ l0 → Below w.heap.size w W → Calls Try.prog 55 #[.int .i64 x, k1_, k2_] W fun e W' => e = .returned (.bool (p x)) ∧ Below W.heap.size W W') :
    Calls Try.prog 75 #[.slice A0 l0.length c0, .func (.func 55) #[] #[k1_, k2_]] w fun e w' => e = .returned (.int .i64 (idxP p 0 l0)) ∧ Below w.heap.size w w' := by
  have HR0 := Aside0.mk hr0
  have HP := Aside0.mk hp
  clear hr0 hp
  have hbig : l0.length ≤ 9223372036854775807 := HR0.out.2.1
  have HB := Aside0.mk (Below.refl w.heap.size w)
  have H' : Aside0 (idxP p 0 (l0.drop 0) = idxP p 0 l0) := ⟨by rw [List.drop_zero]⟩
  generalize idxP p 0 l0 = r at H' ⊢
  go_enter Try.func75, Try.ntmps75
  go_wp2
  go_loopg [5, 8] l0.length (fun gg v5 v8 w' => ∃ kk : Nat, kk ≤ l0.length ∧ l0.length - kk ≤ gg ∧ v8 = .int .i64 kk ∧ Aside0 (idxP p kk (l0.drop kk) = r) ∧ Aside0 (Below w.heap.size w w'))
  case atStart => exact ⟨0, Nat.zero_le _, by omega, rfl, H', HB⟩
  case round =>
    clear H' HB
    obtain ⟨kk, hkk, hg, rfl, HA, HB⟩ := hrel
    by_cases hlt : kk < l0.length
    · have hltz : (kk : Int) < (l0.length : Int) := by omega
      have H := HA.out
      clear HA
      rw [List.drop_eq_getElem_cons hlt, idxP] at H
      obtain ⟨ad, e104, hx⟩ := Kd.at_int HR0.out (kk : Int) (by omega) (by omega)
      have ex : rd l0 (kk : Int) = l0[kk] := by simp [rd, hlt]
      rw [ex, Int.toNat_natCast] at hx
      replace hx := (HB.out.cell (yny w _ hx)).trans hx
      have HC := Aside0.mk (HP.out wr l0[kk] (List.getElem_mem hlt) HB.out)
      generalize l0[kk] = y at hx H HC
      clear ex
      cases e104
      cases hq : p y with
      | true =>
        rw [hq] at HC H
        rw [if_pos rfl] at H
        have H2 := Aside0.mk H
        clear H
        go_wp2_with fail
        refine HC.out.mono ?_
        rintro e w' ⟨rfl, hd⟩
        have HB2 := Aside0.mk (below_step HB.out hd)
        clear hd HB HC
        go_wp2
        go_ret
        exact ⟨by rw [← H2.out]; rfl, HB2.out⟩
      | false =>
        rw [hq] at HC H
        rw [if_neg (by simp)] at H
        have H2 := Aside0.mk H
        clear H
        go_wp2_with fail
        refine HC.out.mono ?_
        rintro e w' ⟨rfl, hd⟩
        have HB2 := Aside0.mk (below_step HB.out hd)
        clear hd HB HC
        go_wp2
        go_roundg (l0.length - (kk + 1))
        case measure => omega
        case rel => exact ⟨kk + 1, by omega, by omega, by go_num, H2, HB2⟩
    · have hltz : ¬ (kk : Int) < (l0.length : Int) := by omega
      have e : kk = l0.length := by omega
      subst e
      have H2 := Aside0.mk (show (-1 : Int) = r by have := HA.out; rwa [List.drop_length, idxP] at this)
      clear HA
      go_wp2
      go_ret
      exact ⟨by rw [← H2.out]; rfl, HB.out⟩
set_option maxHeartbeats 8000000 in
set_option maxRecDepth 100000 in
theorem slices_DeleteFunc_mapping.calls (p : Int → Bool) (k1_ k2_ : Value) (g cap B : Nat) (ok : Nat → Prop) (xs : List Int) (w : World) (hR : Kd.R (Kd.int .i64) 2 w B ok (.slice (some ⟨g, 0, none⟩) xs.length cap) xs)
    (hp : ∀ (W : World) (x : Int), x ∈ xs → Below B w W → Calls Try.prog 55 #[.int .i64 x, k1_, k2_] W fun e W' => e = .returned (.bool (p x)) ∧ Below W.heap.size W W') :
    Calls Try.prog 53 #[.slice (some ⟨g, 0, none⟩) xs.length cap, .func (.func 55) #[] #[k1_, k2_]] w fun e w' => ∃ v', e = .returned v' ∧ Kd.R (Kd.int .i64) 2 w' B ok v' (xs.filter fun x => !p x) ∧ Below B w w' := by
  have hgB : B ≤ g := Kd.R_base hR g (by simp [Value.ownBlock])
  have hgW : g < w.heap.size := Kd.R_lt hR g (by simp [Value.ownBlock])
  have hcap : xs.length ≤ cap := (Kd.R_reads' hR).2.1
  have hbig : xs.length ≤ 9223372036854775807 := Kd.C_max (Kd.R_reads' hR).2.2
  have HIX := Aside0.mk (slices_IndexFunc_mapping.calls p k1_ k2_ (some ⟨g, 0, none⟩) cap xs w (Kd.R_reads' hR).2.2 (fun W x hx hb => hp W x hx (hb.mono (by omega))))
  have HR := Aside0.mk hR
  have HP := Aside0.mk hp
  have HG := Aside0.mk (And.intro hgB hgW)
  clear hR hp hgB hgW
  rcases idxP_cases p xs 0 with ⟨h1, h2⟩ | ⟨k, h1, h2, h3, h4⟩
  · rw [h1] at HIX
    have e1 : xs.filter (fun x => !p x) = xs := List.filter_eq_self.2 (fun x hx => by rw [h2 x hx]; rfl)
    rw [e1]
    clear h1 h2 e1 HP
    go_enter Try.func53, Try.ntmps53
    go_wp2_with fail
    refine HIX.out.mono ?_
    rintro e w' ⟨rfl, hd⟩
    have HB := Aside0.mk (hd.mono (show B ≤ w.heap.size by have := HG.out; omega))
    have HR2 := Aside0.mk (Kd.R_below HR.out hd)
    clear hd HIX HR
    go_wp2
    go_ret
    exact ⟨_, rfl, HR2.out, HB.out⟩
  · rw [h2, Nat.zero_add] at HIX
    have HK0 := Aside0.mk (KeptTo.start h1 (h3 h1) h4)
    have hk9 : k < xs.length := h1
    have hne : ((k : Int) == -1) = false := beq_eq_false_iff_ne.2 (by omega)
    clear h2 h3 h4 h1
    go_enter Try.func53, Try.ntmps53
    go_wp2_with fail
    refine HIX.out.mono ?_
    rintro e w1 ⟨rfl, hd⟩
    have HB := Aside0.mk (hd.mono (show B ≤ w.heap.size by have := HG.out; omega))
    have HR2 := Aside0.mk (Kd.R_below HR.out hd)
    clear hd HIX HR
    go_wp2
    clear hne
    go_loopg [5, 6, 7] xs.length (fun gg s5 s6 _ wr => ∃ (i j : Nat) (dk : List Int), s5 = .int .i64 i ∧ s6 = .int .i64 j ∧ xs.length - j ≤ gg ∧ Aside0 (KeptTo p xs dk i j) ∧ Aside0 (Kd.R (Kd.int .i64) 2 wr B ok (.slice (some ⟨g, 0, none⟩) xs.length cap) dk) ∧ Aside0 (Below B w wr))
    case atStart => exact ⟨k, k + 1, xs, rfl, by go_num, by omega, HK0, HR2, HB⟩
    case round =>
      clear HK0 HR2 HB hk9
      obtain ⟨i, j, dk, rfl, rfl, hgg, HK, HR, HB⟩ := hrel
      have hij := HK.out.lt
      have hjl := HK.out.le
      have hdl := HK.out.len
      by_cases hlt : j < xs.length
      · have hltz : (j : Int) < (xs.length : Int) := by omega
        have hr2 := HR.out
        rw [← hdl] at hr2
        obtain ⟨cj, _⟩ := Kd.R_celln 0 hr2 (j : Int) (by omega) (by omega)
        obtain ⟨ci, fi⟩ := Kd.R_celln 0 hr2 (i : Int) (by omega) (by omega)
        replace cj : wr.cell? ⟨g, j, none⟩ = some (.int .i64 (rd dk (j : Int))) := cj
        replace ci : wr.cell? ⟨g, i, none⟩ = some (.int .i64 (rd dk (i : Int))) := ci
        replace fi : wr.frozen? ⟨g, i, none⟩ = false := fi
        rw [HK.out.get hlt] at cj
        have HC := Aside0.mk (HP.out wr xs[j] (List.getElem_mem hlt) HB.out)
        generalize hu : xs[j] = u at cj HC
        have HU := Aside0.mk hu
        generalize rd dk (i : Int) = old at ci
        clear hu hr2
        cases hq : p u with
        | false =>
          rw [hq] at HC
          go_wp2_with fail
          refine HC.out.mono ?_
          rintro e w2 ⟨rfl, hd⟩
          have HB2 := Aside0.mk (HB.out.trans (hd.mono (show B ≤ wr.heap.size by have := HB.out.size; have := HG.out; omega)))
          have hr3 := Kd.R_below HR.out hd
          rw [← hdl] at hr3
          have HR3 := Aside0.mk (Kd.R_putg hr3 (i : Int) u).1
          rw [Int.toNat_natCast] at HR3
          have ci2 := (hd.cell (yny wr _ ci)).trans ci
          have fi2 := (hd.frozen (yny wr _ ci)).trans fi
          clear hd HB HC cj ci fi hr3 HR
          go_wp2
          go_roundg (xs.length - (j + 1))
          case measure => omega
          case rel => exact ⟨i + 1, j + 1, dk.set i u, by go_num, by go_num, by omega, ⟨by have := HK.out.keep hlt (by rw [HU.out]; exact hq); rwa [HU.out] at this⟩, ⟨by rw [← hdl]; exact HR3.out⟩, ⟨HB2.out.setCell (p := ⟨g, i, none⟩) HG.out.1 _⟩⟩
        | true =>
          rw [hq] at HC
          go_wp2_with fail
          refine HC.out.mono ?_
          rintro e w2 ⟨rfl, hd⟩
          have HB2 := Aside0.mk (HB.out.trans (hd.mono (show B ≤ wr.heap.size by have := HB.out.size; have := HG.out; omega)))
          have HR3 := Aside0.mk (Kd.R_below HR.out hd)
          clear hd HB HC cj ci fi HR
          go_wp2
          go_roundg (xs.length - (j + 1))
          case measure => omega
          case rel => exact ⟨i, j + 1, dk, rfl, by go_num, by omega, ⟨HK.out.skip hlt (by rw [HU.out]; exact hq)⟩, HR3, HB2⟩
      · obtain rfl : j = xs.length := by omega
        have hltz : ¬ (xs.length : Int) < (xs.length : Int) := by omega
        have hr2 := HR.out
        rw [← hdl] at hr2
        have hcl : ∀ ty, (Builtin.clear_ #[44] ty #[.slice (some ⟨g, i, none⟩) (xs.length - i) (cap - i)]).run Try.prog wr = .ok (.tuple #[]) (wr.setCells g i (List.replicate (xs.length - i) (.int .i64 0))) :=
          fun ty => Lib.run_clear_slice wr _ _ ty _ Try.underlying44 (fun w => Try.zeroValue2 w) rfl rfl g i _ _ (by omega) (fun t ht => by have q : wr.cell? ⟨g, i + t, none⟩ = some (.int .i64 (rd dk ((i + t : Nat) : Int))) := (Kd.R_celln 0 hr2 ((i + t : Nat) : Int) (by omega) (by omega)).1; rw [q]; rfl) (fun t ht => (Kd.R_celln 0 hr2 ((i + t : Nat) : Int) (by omega) (by omega)).2)
        obtain ⟨dk', q1, q2, q3, q4⟩ := R_cleared (xs.length - i) i wr dk HR.out HG.out.1 HB.out
        have q5 := Kd.R_take (m := i) q1 (by omega)
        have q6 : dk'.take i = xs.filter fun x => !p x := by rw [q2, HK.out.done, List.take_length]
        rw [q6] at q5
        have Q5 := Aside0.mk q5
        have Q4 := Aside0.mk q4
        clear q1 q2 q3 q4 q5 q6 hr2 HR HB HP HK hdl
        go_wp2
        go_ret
        exact ⟨_, rfl, Q5.out, Q4.out⟩
/-! mapping: the permutations that map a vertex to another one. -/
def mapAll : List Int := (List.range 24).map fun (n : Nat) => (n : Int)
def mapL (f g : Int) : List Int := mapAll.filter fun p => !(rd (permL p) f != g)
def impl_mapping.f (f g : Int) : Option (List Int) := if 0 ≤ f ∧ f ≤ 3 then some (mapL f g) else none
theorem mapAll_bd : ∀ x ∈ mapAll, 0 ≤ x ∧ x ≤ 23 := by decide
theorem counting_24 : impl_counting.f 40 24 = some mapAll := by decide +kernel
set_option maxHeartbeats 8000000 in
set_option maxRecDepth 100000 in
theorem impl_mapping_1.calls (gf gg : Nat) (f g x : Int) (w : World) (hf0 : 0 ≤ f) (hf1 : f ≤ 3) (h0 : 0 ≤ x) (h1 : x ≤ 23) (bF : w.cell? ⟨gf, 0, none⟩ = some (.int .i64 f)) (bG : w.cell? ⟨gg, 0, none⟩ = some (.int .i64 g)) :
    Calls Try.prog 55 #[.int .i64 x, .pointer (some ⟨gf, 0, none⟩), .pointer (some ⟨gg, 0, none⟩)] w fun e w' => e = .returned (.bool (rd (permL x) f != g)) ∧ Below w.heap.size w w' := by
  have ix := arr_index (permAt x 0) (permAt x 1) (permAt x 2) (permAt x 3) f hf0 hf1
  rw [show rd [permAt x 0, permAt x 1, permAt x 2, permAt x 3] f = rd (permL x) f from rfl] at ix
  generalize rd (permL x) f = y at ix ⊢
  have HP := Aside0.mk (And.intro h0 h1)
  have HCF := Aside0.mk bF
  have HCG := Aside0.mk bG
  have HB := Aside0.mk (Below.refl w.heap.size w)
  clear h0 h1 bF bG
  go_enter Try.func55, Try.ntmps55
  go_wp2_with fail
  refine start_ (n := 7) (S := fun w' => w'.cell? ⟨gf, 0, none⟩ = some (.int .i64 f) ∧ w'.cell? ⟨gg, 0, none⟩ = some (.int .i64 g)) (ds := []) #[false, false, false, false, false, false, false] (by kernel_rfl) rfl rfl ⟨HCF.out, HCG.out⟩ (fun hHeld => ?_)
  have HB2 := Aside0.mk (below_drew HB.out)
  replace HCF := Aside0.mk (show w.drew.cell? ⟨gf, 0, none⟩ = _ from HCF.out)
  replace HCG := Aside0.mk (show w.drew.cell? ⟨gg, 0, none⟩ = _ from HCG.out)
  clear HB
  have HB := HB2
  clear HB2
  generalize w.drew = w3 at HB HCF HCG hHeld ⊢
  refine pure_ (i := 0) (N := some 5) (v := ?_) (a' := ?_) #[true, false, false, false, false, false, false] rfl rfl (by kernel_rfl) (fun _ _ _ h => h) (Or.inl ⟨by rfl, ?_⟩) ?_ ?_
  rotate_left
  · intro w'
    go_simp
    with_reducible rfl
  rotate_left
  · simp only [Act.put, yay, yby, ycy, i64_w, i32_w]
    rfl
  refine take_ (i := 2) (N := some 7) (v := ?_) (a' := ?_) #[true, false, true, false, false, false, false] rfl rfl (by kernel_rfl) (fun _ _ _ h => h) (Or.inl ⟨by rfl, ?_⟩) hHeld ?_ ?_
  rotate_left
  · rintro w' ⟨s0, s1⟩
    go_simp
    with_reducible rfl
  rotate_left
  · simp only [Act.put, yay, yby, ycy, i64_w, i32_w]
    rfl
  refine take_ (i := 4) (N := some 9) (v := ?_) (a' := ?_) #[true, false, true, false, true, false, false] rfl rfl (by kernel_rfl) (fun _ _ _ h => h) (Or.inl ⟨by rfl, ?_⟩) hHeld ?_ ?_
  rotate_left
  · rintro w' ⟨s0, s1⟩
    go_simp
    with_reducible rfl
  rotate_left
  · simp only [Act.put, yay, yby, ycy, i64_w, i32_w]
    rfl
  refine one_ (i := 1) (N := some 6) #[true, true, true, false, true, false, false] rfl rfl (by kernel_rfl) (by decide) (fun K hK => ?_)
  refine goes_ Try.func52 (by kernel_rfl) rfl #[.int .i64 x] (by rfl) rfl rfl (by (try simp only [yiy, yjy, yky]); first | done | rfl) ?_
  refine (impl_perm.calls x _ HP.out.1 HP.out.2).mono ?_
  rintro e w9 ⟨rfl, hb⟩
  refine ⟨_, rfl, ?_⟩
  have HCF2 := Aside0.mk ((hb.cell (yny _ _ HCF.out)).trans HCF.out)
  have HCG2 := Aside0.mk ((hb.cell (yny _ _ HCG.out)).trans HCG.out)
  have HB2 := Aside0.mk (below_step HB.out hb)
  clear hb HCF HCG HB
  have HCF := HCF2
  have HCG := HCG2
  have HB := HB2
  clear HCF2 HCG2 HB2
  refine hK.out _ _ ⟨HCF.out, HCG.out⟩ (fun hHeld => ?_)
  clear hK K
  refine norm_ (a' := ?_) ?_ ?_
  rotate_left
  · show Act.put _ (some 6) _ = _
    simp only [Act.put, yay, yby, ycy, i64_w, i32_w]
    rfl
  refine pure_ (i := 3) (N := some 8) (v := ?_) (a' := ?_) #[true, true, true, true, true, false, false] rfl rfl (by kernel_rfl) (fun _ _ _ h => h) (Or.inl ⟨by rfl, ?_⟩) ?_ ?_
  rotate_left
  · intro w'
    go_simp
    with_reducible rfl
  rotate_left
  · simp only [Act.put, yay, yby, ycy, i64_w, i32_w]
    rfl
  refine pure_ (i := 5) (N := some 10) (v := ?_) (a' := ?_) #[true, true, true, true, true, true, false] rfl rfl (by kernel_rfl) (fun _ _ _ h => h) (Or.inl ⟨by rfl, ?_⟩) ?_ ?_
  rotate_left
  · intro w'
    go_simp
    with_reducible rfl
  rotate_left
  · simp only [Act.put, yay, yby, ycy, i64_w, i32_w]
    rfl
  refine pure_ (i := 6) (N := some 4) (v := ?_) (a' := ?_) #[true, true, true, true, true, true, true] rfl rfl (by kernel_rfl) (fun _ _ _ h => h) (Or.inl ⟨by rfl, ?_⟩) ?_ ?_
  rotate_left
  · intro w'
    go_simp
    with_reducible rfl
  rotate_left
  · simp only [Act.put, yay, yby, ycy, i64_w, i32_w]
    rfl
  refine done_ (by kernel_rfl) ?_
  go_wp2
  go_ret
  exact ⟨rfl, HB.out⟩
set_option maxHeartbeats 8000000 in
set_option maxRecDepth 100000 in
theorem impl_mapping.calls (a0 a1 : Int) (r : List Int) (w : World) (h : impl_mapping.f a0 a1 = some r) :
    Calls Try.prog 29 #[.int .i64 a0, .int .i64 a1] w fun e w' => ∃ v0_ : Value, e = .returned (v0_) ∧ Kd.R (Kd.int .i64) 2 w' w.heap.size (fun _ => True) v0_ r ∧ Below w.heap.size w w' := by
  unfold impl_mapping.f at h
  by_cases hc : 0 ≤ a0 ∧ a0 ≤ 3
  case neg => rw [if_neg hc] at h; cases h
  rw [if_pos hc] at h
  have hr : mapL a0 a1 = r := yey h
  subst hr
  clear h
  have HF := Aside0.mk hc
  clear hc
  go_enter Try.func29, Try.ntmps29
  have BF := Aside0.mk (blk_alloc (new_at4 (W := w) rfl (.cells #[.int .i64 a0] 2)) (.cells #[.int .i64 a1] 2))
  have BG := Aside0.mk (new_at4 (W := w.alloc (.cells #[.int .i64 a0] 2)) (n := w.heap.size + 1) (by simp) (.cells #[.int .i64 a1] 2))
  have HB := Aside0.mk (below_alloc (below_alloc (Below.refl w.heap.size w) (.cells #[.int .i64 a0] 2)) (.cells #[.int .i64 a1] 2))
  have HS := Aside0.mk (show ((w.alloc (.cells #[.int .i64 a0] 2)).alloc (.cells #[.int .i64 a1] 2)).heap.size = w.heap.size + 2 by simp)
  go_wp2_with fail
  generalize World.alloc (World.alloc w _) _ = wz at BF BG HB HS ⊢
  refine (impl_counting.calls 40 24 mapAll _ counting_24).mono ?_
  rintro e w1 ⟨v1, rfl, ho, hb⟩
  obtain ⟨g, cap, rfl, hg1, hg2, _⟩ := Kd.R_form ho (by decide)
  have BF1 := Aside0.mk (blk_below BF.out hb)
  have BG1 := Aside0.mk (blk_below BG.out hb)
  have HB1 := Aside0.mk (below_step HB.out hb)
  rw [HS.out] at ho hg1
  have HO := Aside0.mk ho
  have HG := Aside0.mk hg1
  clear ho hb hg1 hg2 BF BG HB HS
  go_wp2_with fail
  refine (slices_DeleteFunc_mapping.calls (fun x => rd (permL x) a0 != a1) (.pointer (some ⟨w.heap.size, 0, none⟩)) (.pointer (some ⟨w.heap.size + 1, 0, none⟩)) g cap (w.heap.size + 2) (fun _ => True) mapAll _ HO.out (fun W x hx hb => impl_mapping_1.calls w.heap.size (w.heap.size + 1) a0 a1 x W HF.out.1 HF.out.2 (mapAll_bd x hx).1 (mapAll_bd x hx).2 ((blk_cell ((hb.block w.heap.size (by omega)).trans BF1.out) 0).trans rfl) ((blk_cell ((hb.block (w.heap.size + 1) (by omega)).trans BG1.out) 0).trans rfl))).mono ?_
  rintro e w2 ⟨v2, rfl, ho, hb⟩
  have HO2 := Aside0.mk (Kd.R_lower ho (show w.heap.size ≤ w.heap.size + 2 by omega))
  have HB2 := Aside0.mk (HB1.out.trans (hb.mono (show w.heap.size ≤ w.heap.size + 2 by omega)))
  clear ho hb HO HB1 BF1 BG1
  go_wp2
  go_ret
  exact ⟨_, rfl, HO2.out, HB2.out⟩
/-! ### impl_size_int64: function 56 -/
def impl_size_int64.f (l0 : List Int) : Option (Int) := some (l0.length : Int)
set_option maxHeartbeats 8000000 in
set_option maxRecDepth 100000 in
theorem impl_size_int64.calls (A0 : Option Addr) (c0 : Nat) (l0 : List Int) (r : Int) (w : World) (hr0 : Kd.C (Kd.int .i64) w A0 l0.length l0) (hc0 : l0.length ≤ c0) (h : impl_size_int64.f l0 = some r) :
    Calls Try.prog 56 #[.slice A0 l0.length c0] w fun e w' => e = .returned (.int .i64 r) ∧ Drawn0 w w' := by
  have HR0 := Aside0.mk hr0
  have HC0 := Aside0.mk hc0
  clear hr0 hc0
  have H : (some (l0.length : Int)) = some r := h
  clear h
  obtain rfl := yey H
  go_enter Try.func56, Try.ntmps56
  go_wp2
  go_ret
  exact ⟨by first | rfl | (simp; done) | (simp [*]; done), by repeat (first | exact Drawn0.refl _ | apply Drawn0.step)⟩
/-! slices.Delete at []int64, for one element of a row that begins anywhere in its block. -/
/-- A row that begins at o in the block g of the call's own. -/
structure RowAt (B : Nat) (w : World) (v : Value) (xs : List Int) : Prop where
  ex : ∃ A cap, v = .slice A xs.length cap ∧ xs.length ≤ cap ∧ cap ≤ 9223372036854775807 ∧ (0 < xs.length → ∃ g o, A = some ⟨g, o, none⟩ ∧ B ≤ g ∧ Go.Sort.Holds (Value.int .i64) w g o xs.toArray)
theorem holds_reads {w : World} {g o : Nat} {xs : List Int} (h : Go.Sort.Holds (Value.int .i64) w g o xs.toArray) (hm : xs.length ≤ 9223372036854775807) : Kd.C (Kd.int .i64) w (some ⟨g, o, none⟩) xs.length xs := by
  refine Kd.C_of_reads (enc := Value.int .i64) (d := (0 : Int)) (h1 := fun _ => rfl) ⟨rfl, hm, fun _ => ⟨⟨g, o, none⟩, rfl, fun j hj => ?_⟩⟩
  have h2 := (h j (by simpa using hj)).1
  have e : (⟨g, o, none⟩ : Addr).add j = ⟨g, o + j, none⟩ := by unfold Addr.add; split <;> simp_all
  rw [e, h2]
  simp [List.getD_eq_getElem?_getD, hj]
theorem holds_below {w w1 : World} {g o : Nat} {xs : List Int} (h : Go.Sort.Holds (Value.int .i64) w g o xs.toArray) (hb : Below w.heap.size w w1) : Go.Sort.Holds (Value.int .i64) w1 g o xs.toArray := fun j hj => by
  obtain ⟨c1, c2⟩ := h j hj
  have hlt := yny w _ c1
  exact ⟨(hb.cell hlt).trans c1, (hb.frozen hlt).trans c2⟩
theorem rowAt_of_R {e : Nat} {B : Nat} {ok : Nat → Prop} {w : World} {v : Value} {xs : List Int} (h : Kd.R (Kd.int .i64) e w B ok v xs) : RowAt B w v xs := by
  obtain ⟨A, cap, rfl, hc, hC⟩ := Kd.R_reads h
  rcases Nat.eq_zero_or_pos xs.length with hz | hz
  · obtain rfl : xs = [] := List.eq_nil_of_length_eq_zero hz
    refine ⟨A, cap, rfl, hc, ?_, fun h => absurd h (Nat.lt_irrefl 0)⟩
    rcases (Kd.own_of_R h).2 with ⟨hv, _⟩ | ⟨g', cap', cur, hv, hbase, hh, hle, hmax, hcs, htake⟩
    · injection hv with _ _ h3; omega
    · injection hv with _ _ h3; unfold maxLen at hmax; omega
  · have hown := Kd.own_of_R h
    rcases hown.2 with ⟨hv, hx⟩ | ⟨g', cap', cur, hv, hbase, hh, hle, hmax, hcs, htake⟩
    · injection hv with _ h2 _; omega
    · injection hv with hv1 _ hv3
      subst hv1 hv3
      refine ⟨_, cap, rfl, hc, by unfold maxLen at hmax; omega, fun _ => ⟨g', 0, rfl, hbase, fun j hj => ?_⟩⟩
      rw [Nat.mul_one] at hcs htake
      have hj' : j < xs.length := by simpa using hj
      have h1 : cur.toList[j]? = some (.int .i64 xs[j]!) := by
        have h2 : (cur.toList.take xs.length)[j]? = some (.int .i64 xs[j]!) := by
          rw [htake, encs, List.getElem?_map, List.getElem?_eq_getElem hj']
          simp [getElem!_pos, hj']
        rw [List.getElem?_take, if_pos hj'] at h2
        exact h2
      refine ⟨?_, by rw [Nat.zero_add]; exact blk_frozen hh j⟩
      rw [Nat.zero_add, blk_cell hh j, ← Array.getElem?_toList, h1]
      simp [getElem!_pos, hj']
theorem slices_Delete_at (g o cap i : Nat) (xs : List Int) (w : World) (hH : Go.Sort.Holds (Value.int .i64) w g o xs.toArray) (hcap : xs.length ≤ cap) (hm : cap ≤ 9223372036854775807) (hi : i < xs.length) :
    Calls Try.prog 58 #[.slice (some ⟨g, o, none⟩) xs.length cap, .int .i64 i, .int .i64 (i + 1)] w fun e w' => e = .returned (.slice (some ⟨g, o, none⟩) (xs.length - 1) cap) ∧
      Go.Sort.Holds (Value.int .i64) w' g o (xs.eraseIdx i).toArray ∧ w.grownBy w' (some g) := by
  have hc := AnyG.slices_Delete_int lDelete g o cap i (i + 1) xs w hH hcap hm (by omega) (by omega)
  have hc2 : Calls Try.prog 58 #[.slice (some ⟨g, o, none⟩) xs.length cap, .int .i64 (i : Nat), .int .i64 ((i + 1 : Nat) : Int)] w fun e w' => e = .returned (.slice (some ⟨g, o, none⟩) (xs.length - (i + 1 - i)) cap) ∧ ∃ q, w' = Go.Sort.putRow (Value.int .i64) (Go.Sort.ahead w q) g o (xs.take i ++ xs.drop (i + 1) ++ List.replicate (i + 1 - i) 0).toArray := hc
  refine hc2.mono ?_
  rintro e w' ⟨rfl, q, rfl⟩
  have hlen : (xs.eraseIdx i).length = xs.length - 1 := by rw [List.length_eraseIdx]; simp [hi]
  have hd : xs.take i ++ xs.drop (i + 1) ++ List.replicate (i + 1 - i) 0 = xs.eraseIdx i ++ [0] := by
    rw [erase_eq, show i + 1 - i = 1 by omega]; rfl
  rw [hd, show i + 1 - i = 1 by omega]
  have hfar : ∀ k, k ≠ g → (Go.Sort.putRow (Value.int .i64) (Go.Sort.ahead w q) g o (xs.eraseIdx i ++ [0]).toArray).heap[k]? = w.heap[k]? := by
    intro k hk
    show (w.heap.modify g _)[k]? = _
    rw [Array.getElem?_modify, if_neg (Ne.symm hk)]
  have hP := Go.Sort.holds_putRow (Value.int .i64) (Go.Sort.ahead w q) g o xs.toArray (xs.eraseIdx i ++ [0]).toArray (Go.Sort.holds_ahead _ _ _ _ _ _ hH) (by simp [hlen]; omega)
  refine ⟨rfl, fun j hj => ?_, ⟨rfl, rfl, rfl, ?_, fun k _ hk => hfar k (fun e => hk (by rw [e]))⟩⟩
  · have hj' : j < (xs.eraseIdx i).length := by simpa using hj
    have h2 := hP j (by simp; omega)
    refine ⟨?_, h2.2⟩
    rw [h2.1, List.getElem!_toArray, List.getElem!_toArray, getElem!_pos _ j (by simp; omega), getElem!_pos _ j hj', List.getElem_append_left hj']
  · show w.heap.size ≤ (w.heap.modify g _).size
    rw [Array.size_modify]
    omega
theorem holds_tail {w : World} {g o : Nat} {x : Int} {xs : List Int} (h : Go.Sort.Holds (Value.int .i64) w g o (x :: xs).toArray) : Go.Sort.Holds (Value.int .i64) w g (o + 1) xs.toArray := fun j hj => by
  have hj' : j < xs.length := by simpa using hj
  have h2 := h (j + 1) (by simp; omega)
  rw [show o + 1 + j = o + (j + 1) by omega]
  refine ⟨?_, h2.2⟩
  rw [h2.1]
  simp [hj']
/-! matchingAt: the matching with a number. -/
theorem holds_grown {w w1 : World} {g o : Nat} {xs : List Int} (h : Go.Sort.Holds (Value.int .i64) w g o xs.toArray) {gO : Nat} (hg : w.grownBy w1 (some gO)) (hne : g ≠ gO) : Go.Sort.Holds (Value.int .i64) w1 g o xs.toArray := fun j hj => by
  obtain ⟨c1, c2⟩ := h j hj
  have hlt : g < w.heap.size := yny w _ c1
  have hb := hg.block g hlt (by intro e; cases e; omega)
  exact ⟨(World.cell?_of_block (w := w) (a := ⟨g, o + j, none⟩) hb).trans c1, (World.frozen?_of_block (w := w) (a := ⟨g, o + j, none⟩) hb).trans c2⟩
def maQ : Nat → Int → List Int → List Int → Option (List Int)
  | 0, _, _, _ => none
  | k + 1, num, left, out => if left.length = 0 then some out else (impl_matchings.f k (wrap64 ((left.length : Int) - 2))).bind fun m =>
      if (m ≠ 0 ∧ 0 ≤ wrap64 (Int.tdiv num m) ∧ wrap64 (Int.tdiv num m) + 1 < (left.length : Int)) ∧ (0 ≤ rd left 0 ∧ rd left 0 < (out.length : Int)) ∧ (0 ≤ rd left (wrap64 (Int.tdiv num m) + 1) ∧ rd left (wrap64 (Int.tdiv num m) + 1) < (out.length : Int)) then
        maQ k (Int.tmod num m) ((left.eraseIdx (wrap64 (Int.tdiv num m) + 1).toNat).drop 1) ((out.set (rd left 0).toNat (rd left (wrap64 (Int.tdiv num m) + 1))).set (rd left (wrap64 (Int.tdiv num m) + 1)).toNat (rd left 0)) else none
def impl_matchingAt.f (k : Nat) (m num : Int) : Option (List Int) := if 0 ≤ m ∧ m ≤ 1000000 then (impl_counting.f k m).bind fun l => maQ k num l (List.replicate m.toNat 0) else none
set_option maxHeartbeats 8000000 in
set_option maxRecDepth 100000 in
theorem impl_matchingAt.calls (k : Nat) (a0 a1 : Int) (r : List Int) (w : World) (h : impl_matchingAt.f k a0 a1 = some r) :
    Calls Try.prog 64 #[.int .i64 a0, .int .i64 a1] w fun e w' => ∃ v0_ : Value, e = .returned (v0_) ∧ Kd.R (Kd.int .i64) 2 w' w.heap.size (fun _ => True) v0_ r ∧ Below w.heap.size w w' := by
  unfold impl_matchingAt.f at h
  by_cases hc : 0 ≤ a0 ∧ a0 ≤ 1000000
  case neg => rw [if_neg hc] at h; cases h
  rw [if_pos hc] at h
  obtain ⟨cl, hcl, h⟩ := ydy.mp h
  obtain ⟨n, rfl⟩ := Int.eq_ofNat_of_zero_le hc.1
  have hn6 : n ≤ 1000000 := by omega
  rw [Int.toNat_natCast] at h
  have HCL := Aside0.mk hcl
  have H' := Aside0.mk h
  have HB := Aside0.mk (Below.refl w.heap.size w)
  clear hcl h hc
  go_enter Try.func64, Try.ntmps64
  go_wp2_with (first | ((with_reducible refine gate_dst (N := 12) rfl ?_); refine Kd.R_make (Kd.int .i64) (w0 := w) w.heap.size 2 rfl (N := 12) rfl 44 _ _ rfl (n : Int) rfl rfl Try.underlying44 (.int .i64 0) 8 info2 rfl (by decide) (by omega) 0 (ok := fun _ => True) (okp := fun _ => True) rfl (fun _ hk => hk) trivial (by omega) (by omega) HB.out (below_size HB.out) ?_; intro v1 w3 ho hb hg hnew; rw [Int.toNat_natCast] at ho; have HP := Aside0.mk ho; have HB2 := Aside0.mk hb; have HNEW := Aside0.mk hnew; clear ho hb hg hnew HB; have HB := HB2; clear HB2))
  obtain ⟨gO, hgO, hgOw⟩ := HNEW.out
  have hlt : gO < w3.heap.size := Kd.R_lt HP.out gO hgO
  have HGO := Aside0.mk (And.intro hgO (And.intro hgOw hlt))
  clear HNEW hgO hgOw hlt
  refine (impl_counting.calls k (n : Int) cl _ HCL.out).mono ?_
  rintro e w4 ⟨v6, rfl, ho, hb⟩
  have HL := Aside0.mk (rowAt_of_R ho)
  have HP2 := Aside0.mk (Kd.R_below HP.out hb)
  have HB2 := Aside0.mk (below_step HB.out hb)
  clear ho hb HB HP HCL
  have HB := HB2
  have HP := HP2
  clear HB2 HP2
  generalize w3.heap.size = B at HL HGO
  obtain ⟨AO, cO, ev⟩ := Kd.R_slice HP.out
  subst ev
  rw [List.length_replicate] at HP HGO
  go_wp2
  go_loopg [1, 6] k (fun kq v1 v6 w' => ∃ (num : Int) (out left : List Int), v1 = .int .i64 num ∧ Aside0 (kq ≤ k) ∧ Aside0 (maQ kq num left out = some r) ∧ Aside0 (RowAt B w' v6 left) ∧ Aside0 (Kd.R (Kd.int .i64) 2 w' w.heap.size (fun _ => True) (.slice AO n cO) out) ∧ Aside0 (Below w.heap.size w w'))
  case atStart => exact ⟨a1, _, cl, rfl, ⟨yoy _⟩, H', HL, HP, HB⟩
  case round =>
    clear H' HL HP HB
    obtain ⟨num, out, left, rfl, HK, HQ, HL, HP, HB⟩ := hrel
    obtain ⟨A, cap, hv, hlc, hcm, hrow⟩ := HL.out.ex
    subst hv
    have HON := Aside0.mk (Kd.R_reads' HP.out).1
    cases gk with
    | zero => exact absurd HQ.out (by simp [maQ])
    | succ gk =>
      have HQ2 := HQ.out
      rw [maQ] at HQ2
      clear HQ
      by_cases hz : left.length = 0
      · rw [if_pos hz] at HQ2
        have e_ := yey HQ2
        subst e_
        clear HQ2
        have hz0 : ¬ (0 : Int) < (left.length : Int) := by omega
        go_wp2
        go_ret
        exact ⟨_, rfl, HP.out, HB.out⟩
      · rw [if_neg hz] at HQ2
        obtain ⟨m, hm, HQ2⟩ := ydy.mp HQ2
        obtain ⟨q, hq⟩ : ∃ q, wrap64 (Int.tdiv num m) = q := ⟨_, rfl⟩
        rw [hq] at HQ2
        obtain ⟨x, hx⟩ : ∃ x, rd left 0 = x := ⟨_, rfl⟩
        obtain ⟨y, hy⟩ : ∃ y, rd left (q + 1) = y := ⟨_, rfl⟩
        rw [hx, hy] at HQ2
        by_cases hc : (m ≠ 0 ∧ 0 ≤ q ∧ q + 1 < (left.length : Int)) ∧ (0 ≤ x ∧ x < (out.length : Int)) ∧ (0 ≤ y ∧ y < (out.length : Int))
        case neg => rw [if_neg hc] at HQ2; cases HQ2
        rw [if_pos hc] at HQ2
        obtain ⟨⟨hm0, hq0, hq1⟩, ⟨hx0, hx1⟩, hy0, hy1⟩ := hc
        obtain ⟨qn, hqn⟩ := Int.eq_ofNat_of_zero_le hq0
        subst hqn
        have hne : qn + 1 < left.length := by omega
        obtain ⟨n1, hn1'⟩ : ∃ n1, left.length - 1 = n1 := ⟨_, rfl⟩
        have hs1 : (1 : Int) ≤ (n1 : Int) := by omega
        have hln : (left.eraseIdx (qn + 1)).length = n1 := by rw [List.length_eraseIdx, if_pos hne]; exact hn1'
        have HN1 := Aside0.mk hn1'
        have HS1 := Aside0.mk hs1
        clear hs1
        have HNL := Aside0.mk hln
        clear hn1' hln
        rw [show wrap64 ((left.length : Int) - 2) = (left.length : Int) - 2 by unfold wrap64; omega] at hm
        obtain ⟨g, o, rfl, hg, hH⟩ := hrow (by omega)
        have HX := Aside0.mk hx
        have HY := Aside0.mk hy
        have HCV := Aside0.mk (holds_reads hH (by omega))
        have HH := Aside0.mk hH
        have HG := Aside0.mk hg
        have HQ := Aside0.mk HQ2
        have HM := Aside0.mk hm
        have hzp : (0 : Int) < (left.length : Int) := by omega
        have HLC := Aside0.mk (And.intro hlc hcm)
        have hl9 : left.length ≤ 9223372036854775807 := by omega
        clear HQ2 hm hH hg hrow HL hlc hcm hx hy
        go_wp2_with fail
        refine (impl_size_int64.calls _ cap left (left.length : Int) _ HCV.out HLC.out.1 rfl).mono ?_
        rintro e w5 ⟨rfl, hd⟩
        have hb := Drawn0.below hd
        have HB2 := Aside0.mk (below_step HB.out hb)
        have HH2 := Aside0.mk (holds_below HH.out hb)
        have HP2 := Aside0.mk (Kd.R_below HP.out hb)
        clear hd hb HB HH HP HCV
        go_wp2_with fail
        refine (impl_matchings.calls gk _ m _ HM.out).mono ?_
        rintro e w6 ⟨rfl, hd⟩
        have hb := Drawn0.below hd
        have HB3 := Aside0.mk (below_step HB2.out hb)
        have HH3 := Aside0.mk (holds_below HH2.out hb)
        have HP3 := Aside0.mk (Kd.R_below HP2.out hb)
        clear hd hb HB2 HH2 HM HP2
        have HCV3 := Aside0.mk (holds_reads HH3.out (by omega))
        have hxc : w6.cell? ⟨g, o, none⟩ = some (.int .i64 x) := by
          obtain ⟨ad, e, h⟩ := Kd.at_int HCV3.out 0 (by omega) (by omega)
          cases e
          rw [HX.out] at h
          have e0 : (⟨g, o, none⟩ : Addr).add (0 : Int).toNat = ⟨g, o, none⟩ := rfl
          rwa [e0] at h
        obtain ⟨ady, ey, hyc⟩ := Kd.at_int HCV3.out ((qn : Int) + 1) (by omega) (by omega)
        cases ey
        rw [HY.out] at hyc
        replace hyc : w6.cell? ⟨g, o + (qn + 1), none⟩ = some (.int .i64 y) := by
          have e : (⟨g, o, none⟩ : Addr).add ((qn : Int) + 1).toNat = ⟨g, o + (qn + 1), none⟩ := by rw [show ((qn : Int) + 1).toNat = qn + 1 from rfl]; unfold Addr.add; split <;> simp_all
          rwa [e] at hyc
        have hqw : wrap64 ((qn : Int) + 1) = (qn : Int) + 1 := (by unfold wrap64; omega)
        obtain ⟨gP, cP, ev, _, _, _⟩ := Kd.R_form HP3.out (by omega)
        rw [← HON.out] at ev
        injection ev with e1 e2 e3
        subst e1
        subst e3
        clear e2
        obtain rfl : gP = gO := by have h9 := HGO.out.1; simpa [Value.ownBlock] using h9
        have hn1 : x < (n : Int) := by have := HON.out; omega
        have hn2 : y < (n : Int) := by have := HON.out; omega
        go_wp2
        have hq2 : (0 : Int) ≤ (qn : Int) + 1 := by omega
        have px0 := eq_true hq2
        have px1 := eq_true hq1
        have pz := eq_true hzp
        have hqw2 : IntKind.i64.wrap ((qn : Int) + 1) = (qn : Int) + 1 := by rw [i64_w]; exact hqw
        go_quiet (fail)
        have hbq := pw_below_drewN (Below.refl w6.heap.size w6) nq
        have HB4 := Aside0.mk (below_step HB3.out hbq)
        have HH4 := Aside0.mk (holds_below HH3.out hbq)
        have HP4 := Aside0.mk (Kd.R_below HP3.out hbq)
        clear hxc hyc HB3 HH3 HP3 HCV3 hbq HX HY
        generalize w6.drewN nq = w7 at HB4 HH4 HP4 ⊢
        obtain ⟨hc1, hf1⟩ := Kd.R_celln 0 HP4.out x hx0 hn1
        have HP5 := Aside0.mk (Kd.R_putg HP4.out x y).1
        have hg5 := (Kd.R_putg HP4.out x y).2
        have hn3 : y < (n : Int) := hn2
        obtain ⟨hc2, hf2⟩ := Kd.R_celln 0 HP5.out y hy0 hn3
        have HP6 := Aside0.mk (Kd.R_putg HP5.out y x).1
        have hg6 := (Kd.R_putg HP5.out y x).2
        have HB5 := Aside0.mk (pw_below_grown HB4.out (some gP) (below_size HB4.out) hg5 (fun k hk => by cases hk; exact HGO.out.2.1))
        have HB6 := Aside0.mk (pw_below_grown HB5.out (some gP) (below_size HB5.out) hg6 (fun k hk => by cases hk; exact HGO.out.2.1))
        have hgne : g ≠ gP := by have h1 := HG.out; have h2 := HGO.out.2.2; omega
        have HH5 := Aside0.mk (holds_grown HH4.out hg5 hgne)
        have HH6 := Aside0.mk (holds_grown HH5.out hg6 hgne)
        have HDEL : Aside0 (Calls Try.prog 58 #[.slice (some ⟨g, o, none⟩) left.length cap, .int .i64 ((qn : Int) + 1), .int .i64 ((qn : Int) + 2)] ((w7.setCell ⟨gP, x.toNat, none⟩ (.int .i64 y)).setCell ⟨gP, y.toNat, none⟩ (.int .i64 x)) fun e w' => e = .returned (.slice (some ⟨g, o, none⟩) (left.length - 1) cap) ∧
            Go.Sort.Holds (Value.int .i64) w' g o (left.eraseIdx (qn + 1)).toArray ∧ ((w7.setCell ⟨gP, x.toNat, none⟩ (.int .i64 y)).setCell ⟨gP, y.toNat, none⟩ (.int .i64 x)).grownBy w' (some g)) := ⟨by
          have h9 := slices_Delete_at g o cap (qn + 1) left _ HH6.out HLC.out.1 HLC.out.2 hne
          rw [show ((qn + 1 : Nat) : Int) = (qn : Int) + 1 by omega, show (qn : Int) + 1 + 1 = (qn : Int) + 2 by omega] at h9
          exact h9⟩
        clear HH4 HH5
        go_wp2_with fail
        refine HDEL.out.mono ?_
        rintro e w8 ⟨rfl, hH8, hgr⟩
        have HB8 := Aside0.mk (pw_below_grown HB6.out (some g) (below_size HB6.out) hgr (fun k hk => by cases hk; have h1 := HG.out; have h2 := HGO.out; omega))
        have hPg : Kd.R (Kd.int .i64) 2 ((w7.setCell ⟨gP, x.toNat, none⟩ (.int .i64 y)).setCell ⟨gP, y.toNat, none⟩ (.int .i64 x)) w.heap.size (fun k => k ≠ g) (.slice (some ⟨gP, 0, none⟩) n cO) ((out.set x.toNat y).set y.toNat x) := by
          have h9 := Kd.own_of_R HP6.out
          exact Kd.R_of_own (h1 := fun _ => rfl) h9 (fun k hk e => hgne (by subst e; simpa [Value.ownBlock] using hk.symm))
        have HP8 := Aside0.mk (Kd.R_mono (Kd.R_grown hPg hgr (fun k hk e => hk (by cases e; rfl))) (ok' := fun _ => True) (fun _ _ => trivial))
        clear hPg
        rw [HN1.out]
        have hs1 := HS1.out
        obtain ⟨iz, hiz, _, hsz, _⟩ := info_parts info2
        have hcut := cut_from (P := Try.prog) 44 2 .i64 Try.underlying44 hiz 1 hsz (some ⟨g, o, none⟩) n1 cap 1 (by omega) hs1
        obtain ⟨A5, hA5⟩ : ∃ A1, A1 = (if cap = (1 : Int).toNat then (some ⟨g, o, none⟩) else (some ⟨g, o, none⟩ : Option Addr).map (·.add ((1 : Int).toNat * 1))) := ⟨_, rfl⟩
        obtain ⟨c5, hc5⟩ : ∃ c1, c1 = cap - (1 : Int).toNat := ⟨_, rfl⟩
        rw [← hA5, ← hc5] at hcut
        have HA5 := Aside0.mk (And.intro hA5 hc5)
        clear hA5 hc5 HDEL HH6 hc1 hf1 hc2 hf2
        have HL9 : Aside0 (RowAt B w8 (.slice A5 (n1 - (1 : Int).toNat) c5) ((left.eraseIdx (qn + 1)).drop 1)) := ⟨by
          obtain ⟨e5, e6⟩ := HA5.out
          subst e5 e6
          have h1 : (1 : Int).toNat = 1 := rfl
          rw [h1]
          have hlen : ((left.eraseIdx (qn + 1)).drop 1).length = n1 - 1 := by rw [yly, HNL.out]
          have hlc := HLC.out
          have hnn := HN1.out
          refine ⟨_, _, by rw [hlen], by rw [hlen]; omega, by omega, fun hpos => ⟨g, o + 1, ?_, HG.out, ?_⟩⟩
          · rw [if_neg (by omega)]
            show some ((⟨g, o, none⟩ : Addr).add (1 * 1)) = _
            congr 1
          · cases hle : left.eraseIdx (qn + 1) with
            | nil => rw [hle] at hlen; rw [hle] at hpos; simp at hpos
            | cons y ys => rw [hle] at hH8; exact holds_tail hH8⟩
        have HQ9 := Aside0.mk (show maQ gk (Int.tmod num m) ((left.eraseIdx (qn + 1)).drop 1) ((out.set x.toNat y).set y.toNat x) = some r from HQ.out)
        clear hH8 hgr hg5 hg6 HQ HP4 HP5 HP6
        go_wp2
        go_roundg gk
        case measure => omega
        case rel => exact ⟨_, _, _, rfl, ⟨by have := HK.out; omega⟩, HQ9, HL9, HP8, HB8⟩
/-! ### impl_boundary: function 79 -/
def impl_boundary.f  : Option (Int × Int) := some ((-1), 0)
set_option maxHeartbeats 8000000 in
set_option maxRecDepth 100000 in
theorem impl_boundary.calls  (r1 : Int) (r2 : Int) (w : World) (h : impl_boundary.f  = some (r1, r2)) :
    Calls Try.prog 79 #[] w fun e w' => e = .returned (.agg #[.int .i64 r1, .int .i64 r2]) ∧ Below w.heap.size w w' := by
  have hu47 := Try.underlying47
  have HB := Aside0.mk (Below.refl w.heap.size w)
  have H : (some ((-1), 0)) = some (r1, r2) := h
  clear h
  simp only [Option.some.injEq, Prod.mk.injEq] at H
  obtain ⟨rfl, rfl⟩ := H
  go_enter Try.func79, Try.ntmps79
  go_wp2_with (first | ((with_reducible refine gate_dst (N := 0) rfl ?_); refine box_event ?hg (N := 0) ?hd (cs := #[.int .i64 0, .int .i64 0]) (t := 47) ?hr ?_; (case hd => rfl); (case hg => rfl); (case hr => first | (go_simp; done) | (go_simp; rfl)); intro gb101 hg w1 hbox hb; have n0_ := Aside0.mk (below_step (by repeat (first | (with_reducible first | exact HB.out | apply below_alloc | apply pw_below_drewN | apply below_drew1) | exact HB.out)) hb); have n1_ := Aside0.mk (hbox); have n2_ := Aside0.mk ((by rw [hg]; exact (below_size (by repeat (first | (with_reducible first | exact HB.out | apply below_alloc | apply pw_below_drewN | apply below_drew1) | exact HB.out))) : w.heap.size ≤ gb101)); have n3_ := Aside0.mk ((by rw [hg]; exact (below_size (by repeat (first | (with_reducible first | exact HB.out | apply below_alloc | apply pw_below_drewN | apply below_drew1) | exact HB.out))) : w.heap.size ≤ gb101)); clear HB; have HB := n0_; have BK101 := n1_; have GW101 := n2_; have GE101 := n3_; clear n0_ n1_ n2_ n3_; clear hb hbox hg; have hcz2_0 : w1.cell? ⟨gb101, 0, none⟩ = some (.int .i64 0) := (blk_cell BK101.out 0).trans rfl; have hcz2_1 : w1.cell? ⟨gb101, 1, none⟩ = some (.int .i64 0) := (blk_cell BK101.out 1).trans rfl; have hfz2_0 := blk_frozen BK101.out 0; have hfz2_1 := blk_frozen BK101.out 1))
  refine bodyPost_ret (results_cell_row rfl _ _ gb101 47 #[.int .i64 (-1), .int .i64 0] (0, 0) _ rfl (by (with_reducible repeat (first | refine blk_drewN ?_ _ | refine blk_drew ?_ | refine blk_alloc ?_ _)); refine blk_put (cs := #[.int .i64 (-1), .int .i64 0]) ?_ 1 _ rfl; (with_reducible repeat (first | refine blk_drewN ?_ _ | refine blk_drew ?_ | refine blk_alloc ?_ _)); refine blk_put (cs := #[.int .i64 0, .int .i64 0]) ?_ 0 _ rfl; (with_reducible repeat (first | refine blk_drewN ?_ _ | refine blk_drew ?_ | refine blk_alloc ?_ _)); exact BK101.out) Try.underlying47 rfl (by kernel_rfl)) rfl ?_
  exact ⟨by first | rfl | (simp [errW_none, errW_some] <;> rfl) | (simp [*, errW_none, errW_some] <;> rfl), by repeat (first | (with_reducible first | exact HB.out | apply below_alloc | apply pw_below_drewN | apply below_drew1 | refine below_set ?_ GE101.out) | exact HB.out)⟩
/-! slices.Clone at []loop.example/g00870/impl.Face: the same elements in memory of the call's own (nil stays nil). -/
def slices_Clone_Simpl_Face.f (l0 : List (SFace)) : Option (List (SFace)) := if l0.length < 8796093022208 then some l0 else none
set_option maxHeartbeats 8000000 in
set_option maxRecDepth 100000 in
theorem slices_Clone_Simpl_Face.calls (A0 : Option Addr) (c0 : Nat) (l0 : List (SFace)) (r : List (SFace)) (w : World) (hr0 : Kd.C kFace w A0 l0.length l0) (hc0 : l0.length ≤ c0) (h : slices_Clone_Simpl_Face.f l0 = some r) :
    Calls Try.prog 85 #[.slice A0 l0.length c0] w fun e w' => ∃ v0_ : Value, e = .returned (v0_) ∧ Kd.R kFace 47 w' w.heap.size (fun _ => True) v0_ r ∧ Below w.heap.size w w' := by
  have hlt : l0.length < 8796093022208 := by
    unfold slices_Clone_Simpl_Face.f at h
    by_cases c : l0.length < 8796093022208
    · exact c
    · rw [if_neg c] at h; exact absurd h (by simp)
  have hr : l0 = r := by
    unfold slices_Clone_Simpl_Face.f at h
    rw [if_pos hlt] at h
    exact yey h
  clear h
  have HL := Aside0.mk hlt
  clear hlt
  subst hr
  have HR0 := Aside0.mk hr0
  have HC0 := Aside0.mk hc0
  clear hr0 hc0
  have HB := Aside0.mk (Below.refl w.heap.size w)
  have heq := fun (W : World) (n : Nat) => Lib.run_eql_slice_nil (P := Try.prog) W 48 47 A0 n c0 0 0 Try.underlying48
  cases A0 with
  | none =>
    have hz : l0.length = 0 := by
      rcases Nat.eq_zero_or_pos l0.length with h | h
      · exact h
      · obtain ⟨ad, h1, _⟩ := HR0.out.2.2 h
        cases h1
    have hl0 := List.eq_nil_of_length_eq_zero hz
    clear hz
    subst hl0
    simp only [Option.isNone_none] at heq
    go_enter Try.func85, Try.ntmps85
    go_wp2
    go_ret
    exact ⟨_, rfl, Kd.R_nil _ _ _ _ _, HB.out⟩
  | some ad =>
    simp only [Option.isNone_some] at heq
    go_enter Try.func85, Try.ntmps85
    go_wp2_with (first | ((with_reducible refine gate_dst (N := 5) rfl ?_); refine Kd.R_lit kFace _ 47 ?hg (N := 5) ?hd (xs := ([] : List (SFace))) (inner := []) (ok := fun _ => True) (okp := fun _ => True) ?hr ?hp (fun _ hk => hk) trivial (Below.refl _ _) (yoy _) (by simp) ?_; (case hd => rfl); (case hg => rfl); (case hr => first | (go_simp; done) | (go_simp; rfl)); (case hp => exact (Reps.none _ _)); intro v102 w2 ho3 hb hg_ hnew_; clear hg_ hnew_; have n0_ := Aside0.mk (Kd.R_lower ho3 (below_size HB.out)); have n1_ := Aside0.mk (below_step HB.out hb); clear HB; have HO103 := n0_; have HB := n1_; clear n0_ n1_; clear hb ho3) | ((with_reducible refine gate_builtin (b := .append) (xs := #[.tmp 5, .tmp 6]) rfl ?_); at_builtin; refine Kd.R_append_rows kFace (Rr := fun x cs => cs = [.int .i64 x.f0, .int .i64 x.f1]) (w0 := w) w.heap.size rfl (.tmp 5) (.tmp 6) 48 47 (.agg #[(.int .i64 0), (.int .i64 0)]) 16 rfl Try.underlying48 info47 rfl (by decide) (by omega) v102 ([] : List (SFace)) l0 (some ad) l0.length c0 (fun _ => True) (fun _ => False) rfl rfl ?aO ?aR (fun x _ h => h ▸ kFace_mkM _ _ _ x) (fun _ hk => hk.elim) (fun _ _ => trivial) ?aB ?aS ?aL ?_; (case aO => exact HO103.out); (case aR => exact (Kd.C_below HR0.out HB.out).imp_ (Below.refl _ _) (fun _ _ h => kFace_open h)); (case aB => exact HB.out); (case aS => exact below_size HB.out); (case aL => have := HL.out; simp; omega); intro v106 w8 ho hb hg hat; rw [List.nil_append] at ho; have n0_ := Aside0.mk hb; have n1_ := Aside0.mk ho; clear HB; have HB := n0_; have HO107 := n1_; clear n0_ n1_; clear ho hb hg hat))
    go_ret
    exact ⟨_, rfl, HO107.out, HB.out⟩
end Go.Proofs.Ytebehapafpmgbaa.P
