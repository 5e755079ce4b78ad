/- The statement FnExactOrbitSizeSaid, proved: part 2 of 7 (texts of this session and of the kit's print, put together and cut to what is used by a program of it). -/
import Derived.Test.YtcnemjcmnhlflaaMFnExactOrbitSize1
import Derived.Test.YtcnemjcmnhlflaaProg
import Derived.Below
import Derived.Deep.Draws
import Derived.Deep.AppendLies
import Derived.Maps.AppendAt
import Derived.OwnWalk
import Derived.Laws.BytesArg
import Derived.Laws.MakeOwn
import Derived.Laws.OwnMore
import Derived.Deep.OwnRows
import Derived.Tactics
import Derived.Lib.ConvBytes
import Derived.Laws.Slices
import Derived.WalkKit
import Derived.KernelRfl
import Derived.RowKit3
import Derived.Deep.LoopGhost
import Derived.Deep.QuietTactic
import Derived.BigQuiet
import Derived.WideLaws
import Derived.Deep.DeepCutAuto
import Derived.Deep.CutBlock
import Derived.Deep.RegionHeld3
import Derived.Laws.Rows
import Derived.Lib.AppendStr
import Derived.ArgAppend
import Derived.Laws.IdiomCopy
import Derived.OrdersHeld
import Derived.Laws.BitsLemmas
import Derived.RowKit
import Derived.Maps.OwnSet
import Derived.Shelf.SlicesG.Delete
import Derived.Ground.SlgnProg
import Derived.Sort.Row
namespace Go.Proofs.Ytcnemjcmnhlflaa
abbrev yay := @List.setIfInBounds_toArray
abbrev yby := @List.set_cons_zero
abbrev ycy := @List.set_cons_succ
abbrev ydy := @Option.bind_eq_some_iff
abbrev yey := @Option.some.inj
abbrev yfy := @Option.bind_some
abbrev ygy := @decide_eq_true
abbrev yhy := @decide_eq_false
abbrev yiy := @List.map_toArray
abbrev yjy := @List.map_cons
abbrev yky := @List.map_nil
abbrev yly := @List.length_drop
abbrev ymy := @List.length_take
abbrev yny := @Go.World.block_lt_of_cell?
abbrev yoy := @Nat.le_refl
abbrev ypy := @Go.RowKit.Below.refl
end Go.Proofs.Ytcnemjcmnhlflaa
namespace Go.Proofs.Ytcnemjcmnhlflaa.P
open Go.RowKit Go.Proofs.YtcnemjcmnhlflaaW.PrintWords Go.Proofs.YtcnemjcmnhlflaaW.PrintLast Go.Proofs.YtcnemjcmnhlflaaW.PrintMore
attribute [local go_sem] max2_int min2_int max_two min_two max_three min_three max_four min_four   -- for this text's walks alone
set_option linter.unusedVariables false
set_option linter.unusedSimpArgs false
def errW : Option Int → Value
  | none => .nilIface
  | some c => .iface 0 (.int .i64 c)
theorem errW_none : errW none = .nilIface := rfl
theorem errW_some (c : Int) : errW (some c) = .iface 0 (.int .i64 c) := rfl
theorem info2 : (Try.prog.info? 2).map (fun i => (i.zero, i.size, i.bytes)) = some (some (.int .i64 0), 1, 8) := by kernel_rfl
theorem info45 : (Try.prog.info? 45).map (fun i => (i.zero, i.size, i.bytes)) = some (some (.slice none 0 0), 1, 24) := by kernel_rfl
theorem info56 : (Try.prog.info? 56).map (fun i => (i.zero, i.size, i.bytes)) = some (some (.agg #[(.int .i64 0), (.int .i64 0)]), 2, 16) := by kernel_rfl
-- the values' own types
/-! #### struct type 74 -/
structure SLawFace where
  f0 : Int
  f1 : Int
def zLawFace : SLawFace := ⟨(0 : Int), (0 : Int)⟩
def kLawFace : Kd SLawFace := Kd.iso (Kd.pair (Kd.int .i64) (Kd.int .i64)) (fun x : SLawFace => (x.f0, x.f1))
theorem kLawFace_open {w : World} {x : SLawFace} {cs : List Value} (h : kLawFace.K w x cs) : cs = [.int .i64 x.f0, .int .i64 x.f1] := by
  obtain ⟨_, _, rfl, rfl, rfl⟩ := h
  exact rfl
theorem kLawFace_mk (w : World) (x : SLawFace)  : kLawFace.K w x [.int .i64 x.f0, .int .i64 x.f1] := ⟨[.int .i64 x.f0], [.int .i64 x.f1], rfl, rfl, rfl⟩
def rd_LawFace (xs : List SLawFace) (i : Int) : SLawFace := xs.getD i.toNat zLawFace
theorem at_LawFace {w : World} {A : Option Addr} {n : Nat} {xs : List SLawFace} (h : Kd.C kLawFace w A n xs) (i : Int) (h0 : 0 ≤ i) (h1 : i < n) : ∃ ad , A = some ad ∧ w.cell? (ad.add (i.toNat * 2)) = some (.int .i64 (rd_LawFace xs i).f0) ∧ w.cell? ⟨(ad.add (i.toNat * 2)).block, (ad.add (i.toNat * 2)).off + 1, none⟩ = some (.int .i64 (rd_LawFace xs i).f1) := by
  obtain ⟨ad, c, e, _, hK, hc0⟩ := Kd.C_get h zLawFace i h0 h1
  have hc : ∀ j u, c[j]? = some u → w.cell? (ad.add (i.toNat * 2 + j)) = some u := hc0
  obtain rfl := kLawFace_open hK
  exact ⟨ad, e, hc 0 _ rfl, by rw [← add_field _ _ 1 (by omega)]; exact hc 1 _ rfl⟩
def rd_LLawFace (xs : List (List SLawFace)) (i : Int) : (List SLawFace) := xs.getD i.toNat ([] : List SLawFace)
theorem at_LLawFace {w : World} {A : Option Addr} {n : Nat} {xs : List (List SLawFace)} (h : Kd.C (Kd.slice 74 kLawFace) w A n xs) (i : Int) (h0 : 0 ≤ i) (h1 : i < n) : ∃ ad A0 c0, A = some ad ∧ w.cell? (ad.add i.toNat) = some (.slice A0 (rd_LLawFace xs i).length c0) ∧ (rd_LLawFace xs i).length ≤ c0 ∧ kLawFace.C w A0 (rd_LLawFace xs i).length (rd_LLawFace xs i) := by
  obtain ⟨ad, c, e, _, hK, hc0⟩ := Kd.C_get h ([] : List SLawFace) i h0 h1
  have hc : ∀ j u, c[j]? = some u → w.cell? (ad.add (i.toNat * 1 + j)) = some u := hc0
  obtain ⟨A0, c0, rfl, l0, g0⟩ := hK
  exact ⟨ad, A0, c0, e, by have hq := hc 0 _ rfl; rwa [Nat.mul_one, Nat.add_zero] at hq, l0, g0⟩
/-! #### struct type 56 -/
structure SFace where
  f0 : Int
  f1 : Int
def zFace : SFace := ⟨(0 : Int), (0 : Int)⟩
def kFace : Kd SFace := Kd.iso (Kd.pair (Kd.int .i64) (Kd.int .i64)) (fun x : SFace => (x.f0, x.f1))
theorem kFace_open {w : World} {x : SFace} {cs : List Value} (h : kFace.K w x cs) : cs = [.int .i64 x.f0, .int .i64 x.f1] := by
  obtain ⟨_, _, rfl, rfl, rfl⟩ := h
  exact rfl
theorem kFace_openM {w : World} {base : Nat} {ok : Nat → Prop} {x : SFace} {cs : List Value} (h : kFace.M w base ok x cs) : cs = [.int .i64 x.f0, .int .i64 x.f1] := by
  obtain ⟨_, _, rfl, rfl, rfl⟩ := h
  exact rfl
theorem kFace_mkM (w : World) (base : Nat) (ok : Nat → Prop) (x : SFace)  : kFace.M w base ok x [.int .i64 x.f0, .int .i64 x.f1] := ⟨[.int .i64 x.f0], [.int .i64 x.f1], rfl, rfl, rfl⟩
def rd_Face (xs : List SFace) (i : Int) : SFace := xs.getD i.toNat zFace
theorem at_Face {w : World} {A : Option Addr} {n : Nat} {xs : List SFace} (h : Kd.C kFace w A n xs) (i : Int) (h0 : 0 ≤ i) (h1 : i < n) : ∃ ad , A = some ad ∧ w.cell? (ad.add (i.toNat * 2)) = some (.int .i64 (rd_Face xs i).f0) ∧ w.cell? ⟨(ad.add (i.toNat * 2)).block, (ad.add (i.toNat * 2)).off + 1, none⟩ = some (.int .i64 (rd_Face xs i).f1) := by
  obtain ⟨ad, c, e, _, hK, hc0⟩ := Kd.C_get h zFace i h0 h1
  have hc : ∀ j u, c[j]? = some u → w.cell? (ad.add (i.toNat * 2 + j)) = some u := hc0
  obtain rfl := kFace_open hK
  exact ⟨ad, e, hc 0 _ rfl, by rw [← add_field _ _ 1 (by omega)]; exact hc 1 _ rfl⟩
def rd_LFace (xs : List (List SFace)) (i : Int) : (List SFace) := xs.getD i.toNat ([] : List SFace)
theorem at_LFace {w : World} {A : Option Addr} {n : Nat} {xs : List (List SFace)} (h : Kd.C (Kd.slice 56 kFace) w A n xs) (i : Int) (h0 : 0 ≤ i) (h1 : i < n) : ∃ ad A0 c0, A = some ad ∧ w.cell? (ad.add i.toNat) = some (.slice A0 (rd_LFace xs i).length c0) ∧ (rd_LFace xs i).length ≤ c0 ∧ kFace.C w A0 (rd_LFace xs i).length (rd_LFace xs i) := by
  obtain ⟨ad, c, e, _, hK, hc0⟩ := Kd.C_get h ([] : List SFace) i h0 h1
  have hc : ∀ j u, c[j]? = some u → w.cell? (ad.add (i.toNat * 1 + j)) = some u := hc0
  obtain ⟨A0, c0, rfl, l0, g0⟩ := hK
  exact ⟨ad, A0, c0, e, by have hq := hc 0 _ rfl; rwa [Nat.mul_one, Nat.add_zero] at hq, l0, g0⟩
/-! #### struct type 30 -/
/-! ### impl_Face_isBoundary: function 40 -/
def impl_Face_isBoundary.f (a0_0 : Int) (a0_1 : Int) : Option (Bool) := some (decide (a0_0 < 0))
set_option maxHeartbeats 8000000 in
set_option maxRecDepth 100000 in
theorem impl_Face_isBoundary.calls (a0_0 : Int) (a0_1 : Int) (r : Bool) (w : World) (h : impl_Face_isBoundary.f a0_0 a0_1 = some r) :
    Calls Try.prog 40 #[.agg #[.int .i64 a0_0, .int .i64 a0_1]] w fun e w' => e = .returned (.bool r) ∧ Below w.heap.size w w' := by
  have hu56 := Try.underlying56
  have HB := Aside0.mk (ypy w.heap.size w)
  have H : (some (decide (a0_0 < 0))) = some r := h
  clear h
  obtain rfl := yey H
  go_enter Try.func40, Try.ntmps40
  go_wp2_with (first | ((with_reducible refine gate_dst (N := 1) rfl ?_); refine box_event ?hg (N := 1) ?hd (cs := #[.int .i64 a0_0, .int .i64 a0_1]) (t := 56) ?hr ?_; (case hd => rfl); (case hg => rfl); (case hr => first | (go_simp; done) | (go_simp; rfl)); intro gb101 hg w2 hbox hb; have n0_ := Aside0.mk (below_step (by repeat (first | (with_reducible first | exact HB.out | apply below_alloc | apply pw_below_drewN | apply below_drew1) | exact HB.out)) hb); have n1_ := Aside0.mk (hbox); have n2_ := Aside0.mk ((by rw [hg]; exact (below_size (by repeat (first | (with_reducible first | exact HB.out | apply below_alloc | apply pw_below_drewN | apply below_drew1) | exact HB.out))) : w.heap.size ≤ gb101)); have n3_ := Aside0.mk ((by rw [hg]; exact (below_size (by repeat (first | (with_reducible first | exact HB.out | apply below_alloc | apply pw_below_drewN | apply below_drew1) | exact HB.out))) : w.heap.size ≤ gb101)); clear HB; have HB := n0_; have BK101 := n1_; have GW101 := n2_; have GE101 := n3_; clear n0_ n1_ n2_ n3_; clear hb hbox hg; have hcz3_0 : w2.cell? ⟨gb101, 0, none⟩ = some (.int .i64 a0_0) := (blk_cell BK101.out 0).trans rfl; have hcz3_1 : w2.cell? ⟨gb101, 1, none⟩ = some (.int .i64 a0_1) := (blk_cell BK101.out 1).trans rfl; have hfz3_0 := blk_frozen BK101.out 0; have hfz3_1 := blk_frozen BK101.out 1))
  go_ret
  exact ⟨by first | rfl | (simp [errW_none, errW_some] <;> rfl) | (simp [*, errW_none, errW_some] <;> rfl), by repeat (first | (with_reducible first | exact HB.out | apply below_alloc | apply pw_below_drewN | apply below_drew1 | refine below_set ?_ GE101.out) | exact HB.out)⟩
/-! ### impl_counting: function 39 -/
def impl_counting.l0 : Nat → List Int → Int → Int → Option (List Int)
  | 0, _, _, _ => none
  | k + 1, x3, x5, x6 => if x6 < x5 then (if x3.length < 17592186044416 then (impl_counting.l0 k (x3 ++ [x6]) x5 (wrap64 (x6 + 1))) else (none)) else (some x3)
def impl_counting.f (k : Nat) (a0 : Int) : Option (List Int) := impl_counting.l0 k ([] : List Int) a0 0
set_option maxHeartbeats 8000000 in
set_option maxRecDepth 100000 in
theorem impl_counting.calls (k : Nat) (a0 : Int) (r : List Int) (w : World) (h : impl_counting.f k a0 = some r) :
    Calls Try.prog 39 #[.int .i64 a0] w fun e w' => ∃ v0_ : Value, e = .returned (v0_) ∧ Kd.R (Kd.int .i64) 2 w' w.heap.size (fun _ => True) v0_ r ∧ Below w.heap.size w w' := by
  have HB := Aside0.mk (ypy w.heap.size w)
  have H : (impl_counting.l0 k ([] : List Int) a0 0) = some r := h
  clear h
  have H' := Aside0.mk H
  clear H
  go_enter Try.func39, Try.ntmps39
  go_wp2
  go_loopg [3, 6] k (fun kq v3 v6 w' => ∃ (x3_1 : List Int) (x6_1 : Int), v6 = .int .i64 x6_1 ∧ Aside0 (impl_counting.l0 kq x3_1 a0 x6_1 = some r) ∧ Aside0 (kq ≤ k) ∧ Aside0 (Kd.R (Kd.int .i64) 2 w' w.heap.size (fun _ => True) v3 x3_1) ∧ Aside0 (Below w.heap.size w w'))
  case atStart => exact ⟨(([] : List Int)), (0), (by first | rfl | (simp; done) | (simp [*]; done)), H', ⟨yoy _⟩, ⟨by first | exact Kd.R_nil _ _ _ _ _ | exact Kd.N_nil _ _ _ _ _ | exact Kd.V_nil _ _ _ _ _ | exact Kd.Q_nil _ _ _ _ _ | exact Kd.S_nil _ _ _ _ _⟩, ⟨by repeat (first | (with_reducible first | exact HB.out | apply below_alloc | apply pw_below_drewN | apply below_drew1) | exact HB.out)⟩⟩
  case round =>
    clear H'
    obtain ⟨x3_1, x6_1, rfl, HA, HK1, HO_3, HB⟩ := hrel
    cases gk with
    | zero => exact absurd HA.out (by simp [impl_counting.l0])
    | succ k1 =>
      have H := HA.out
      clear HA
      simp only [impl_counting.l0] at H
      by_cases c2 : x6_1 < a0
      · rw [if_pos c2] at H
        have c2b0 : decide (x6_1 < a0) = true := ygy c2
        clear c2
        by_cases c3 : x3_1.length < 17592186044416
        · rw [if_pos c3] at H
          have LMc3 := Aside0.mk c3
          clear c3
          obtain ⟨y101, hy101⟩ : ∃ y_ : List Int, y_ = (x3_1 ++ [x6_1]) := ⟨_, rfl⟩
          replace H : (impl_counting.l0 k1 y101 a0 (wrap64 (x6_1 + 1))) = some r := by first | (rw [hy101]; with_reducible exact H) | (have H2_ := (yfy _ _).symm.trans H; rw [hy101]; with_reducible exact H2_) | (have H2_ := (yfy _ _).symm.trans H; with_reducible exact H2_) | with_reducible exact H | (rw [hy101]; exact H) | exact H
          have Ny101 := Aside0.mk hy101
          clear hy101
          have H' := Aside0.mk H
          clear H
          go_wp2_with (first | ((with_reducible refine gate_builtin (b := .append) (xs := #[.tmp 9, .tmp 11]) rfl ?_); at_builtin; refine Kd.R_append (Kd.int .i64) (w0 := w) w.heap.size rfl (.tmp 9) (.tmp 11) 41 2 (.int .i64 0) 8 rfl Try.underlying41 info2 rfl (by decide) (by omega) u3 x3_1 x6_1 [.int .i64 x6_1] (fun _ => True) (fun _ => False) rfl rfl ?aP (fun _ hk => hk.elim) ?aF ?aO ?aB ?aS ?aL ?_; (case aP => exact rfl); (case aB => exact (by repeat (first | (with_reducible first | exact HB.out | apply below_alloc | apply pw_below_drewN | apply below_drew1) | exact HB.out))); (case aF => exact (fun _ _ => trivial)); (case aO => exact (by (with_reducible repeat (first | apply Kd.R_alloc | apply Kd.R_drewN | apply Kd.R_drew)); exact HO_3.out)); (case aS => exact (below_size (by repeat (first | (with_reducible first | exact HB.out | apply below_alloc | apply pw_below_drewN | apply below_drew1) | exact HB.out)))); (case aL => have := LMc3.out; omega); intro v102 w4 ho hb hg hat; rw [← Ny101.out] at ho; have n0_ := Aside0.mk (hb); have n1_ := Aside0.mk (ho); clear HB; clear HO_3; have HB := n0_; have HO103 := n1_; clear n0_ n1_; clear ho hb hg hat))
          go_roundg k1
          case measure => have := HK1.out; omega
          case rel => exact ⟨(y101), (wrap64 (x6_1 + 1)), (by first | rfl | (simp; done) | (simp [*]; done)), H', ⟨by have := HK1.out; omega⟩, ⟨by (with_reducible repeat (first | apply Kd.R_alloc | apply Kd.R_drewN | apply Kd.R_drew)); exact HO103.out⟩, ⟨by repeat (first | (with_reducible first | exact HB.out | apply below_alloc | apply pw_below_drewN | apply below_drew1) | exact HB.out)⟩⟩
        · rw [if_neg c3] at H
          exact absurd H (by simp)
      · rw [if_neg c2] at H
        have c2b0 : decide (x6_1 < a0) = false := yhy c2
        clear c2
        obtain rfl := yey H
        go_wp2
        go_ret
        exact ⟨_, by first | rfl | (simp [errW_none, errW_some] <;> rfl) | (simp [*, errW_none, errW_some] <;> rfl), by (with_reducible repeat (first | apply Kd.R_alloc | apply Kd.R_drewN | apply Kd.R_drew)); exact HO_3.out, by repeat (first | (with_reducible first | exact HB.out | apply below_alloc | apply pw_below_drewN | apply below_drew1) | exact HB.out)⟩
end Go.Proofs.Ytcnemjcmnhlflaa.P
namespace Go.Proofs.Ytcnemjcmnhlflaa.Lib
open Go.RowKit Go.Proofs.YtcnemjcmnhlflaaW.PrintWords
/-- The place of the first element that f tells true, or -1. -/
def idxO {α : Type} (f : α → Option Bool) : Nat → List α → Option Int
  | _, [] => some (-1)
  | i, x :: xs => (f x).bind fun b => if b = true then some (i : Int) else idxO f (i + 1) xs
theorem idxO_cons {α : Type} (f : α → Option Bool) (i : Nat) (x : α) (xs : List α) : idxO f i (x :: xs) = (f x).bind fun b => if b = true then some (i : Int) else idxO f (i + 1) xs := rfl
end Go.Proofs.Ytcnemjcmnhlflaa.Lib
namespace Go.Proofs.Ytcnemjcmnhlflaa.Lib
set_option linter.unusedVariables false
open Go.RowKit Go.Proofs.YtcnemjcmnhlflaaW.PrintWords
/-- A loop comes to g of its first state: at each state it ends with g, or goes on at a smaller state of the same g. -/
theorem ev_loop {σ ρ : Type} (L : Nat → σ → Option ρ) (I : σ → Prop) (m : σ → Nat) (g : σ → ρ)
    (h : ∀ s, I s → (∃ K, ∀ k, K ≤ k → L (k + 1) s = some (g s)) ∨ (∃ s' K, I s' ∧ m s' < m s ∧ g s' = g s ∧ ∀ k, K ≤ k → L (k + 1) s = L k s')) :
    ∀ s, I s → Ev (fun k => L k s) (g s) := by
  have key : ∀ (n : Nat) (s : σ), m s < n → I s → Ev (fun k => L k s) (g s) := by
    intro n
    induction n with
    | zero => intro s hs; omega
    | succ n ih =>
      intro s hs hi
      rcases h s hi with ⟨K, hK⟩ | ⟨s', K, hi', hm, hg, hK⟩
      · refine ⟨K + 1, fun k hk => ?_⟩
        obtain ⟨j, rfl⟩ : ∃ j, k = j + 1 := ⟨k - 1, by omega⟩
        exact hK j (by omega)
      · obtain ⟨K', hK'⟩ := ih s' (by omega) hi'
        refine ⟨max K K' + 1, fun k hk => ?_⟩
        obtain ⟨j, rfl⟩ : ∃ j, k = j + 1 := ⟨k - 1, by omega⟩
        show L (j + 1) s = some (g s)
        rw [hK j (by omega), ← hg]
        exact hK' j (by omega)
  intro s hi
  exact key (m s + 1) s (by omega) hi
/-- The same, where a round asks for no number of rounds. -/
theorem ev_loop0 {σ ρ : Type} (L : Nat → σ → Option ρ) (I : σ → Prop) (m : σ → Nat) (g : σ → ρ)
    (h : ∀ s, I s → (∀ k, L (k + 1) s = some (g s)) ∨ (∃ s', I s' ∧ m s' < m s ∧ g s' = g s ∧ ∀ k, L (k + 1) s = L k s')) :
    ∀ s, I s → Ev (fun k => L k s) (g s) :=
  ev_loop L I m g fun s hi => by
    rcases h s hi with h1 | ⟨s', h1, h2, h3, h4⟩
    · exact .inl ⟨0, fun k _ => h1 k⟩
    · exact .inr ⟨s', 0, h1, h2, h3, fun k _ => h4 k⟩
theorem wrap_id {x : Int} (h0 : -9223372036854775808 ≤ x) (h1 : x ≤ 9223372036854775807) : wrap64 x = x := by
  unfold wrap64; omega
theorem wrap_succ {n : Nat} (h : n ≤ 4611686018427387904) : wrap64 ((n : Int) + 1) = ((n + 1 : Nat) : Int) := by
  rw [wrap_id (by omega) (by omega)]; rfl
theorem rd_lt (xs : List Int) (n : Nat) (h : n < xs.length) : rd xs (n : Int) = xs[n] := by simp [rd, h]
theorem ev_neg {α : Type} {c : Prop} [Decidable c] {f g : Nat → Option α} {r : α} (h : ¬ c) (k : Ev g r) : Ev (fun n => if c then f n else g n) r := Ev.congr (fun _ => if_neg h) k
theorem ev_pos {α : Type} {c : Prop} [Decidable c] {f g : Nat → Option α} {r : α} (h : c) (k : Ev f r) : Ev (fun n => if c then f n else g n) r := Ev.congr (fun _ => if_pos h) k
theorem ev_some {α : Type} {r r' : α} (h : r = r') : Ev (fun _ => some r) r' := h ▸ Ev.now r
theorem ev_const {α : Type} {o : Option α} {r : α} (h : o = some r) : Ev (fun _ => o) r := ⟨0, fun _ _ => h⟩
theorem ev_const' {α : Type} {g : Nat → Option α} {r : α} (h : ∀ k, g k = some r) : Ev g r := ⟨0, fun k _ => h k⟩
/-- A function whose first step takes one round. -/
theorem ev_step {α : Type} {g f : Nat → Option α} {r : α} (h : ∀ k, g (k + 1) = f k) (k : Ev f r) : Ev g r := Ev.step h k
theorem idxO_any {α : Type} {f : α → Option Bool} {p : α → Bool} : ∀ (i : Nat) (l : List α), (∀ x ∈ l, f x = some (p x)) → ∃ r, idxO f i l = some r ∧ decide (0 ≤ r) = l.any p
  | i, [], _ => ⟨-1, rfl, rfl⟩
  | i, x :: xs, h => by
    rw [idxO_cons, h x (List.mem_cons_self ..), yfy]
    cases hp : p x with
    | true => exact ⟨i, by rw [if_pos rfl], by simp [hp]⟩
    | false =>
      obtain ⟨r, h1, h2⟩ := idxO_any (i + 1) xs (fun y hy => h y (List.mem_cons_of_mem _ hy))
      exact ⟨r, by rw [if_neg (by simp)]; exact h1, by rw [h2]; simp [hp]⟩
theorem contO {α : Type} {f : α → Option Bool} {p : α → Bool} (l : List α) (h : ∀ x ∈ l, f x = some (p x)) : (idxO f 0 l).bind (fun i => some (decide (0 ≤ i))) = some (l.any p) := by
  obtain ⟨r, h1, h2⟩ := idxO_any 0 l h
  rw [h1, yfy, h2]
/-- n numbers from a on. -/
def upFrom (a : Int) : Nat → List Int
  | 0 => []
  | n + 1 => a :: upFrom (a + 1) n
theorem upFrom_length (a : Int) (n : Nat) : (upFrom a n).length = n := by
  induction n generalizing a with
  | zero => rfl
  | succ n ih => simp [upFrom, ih]
theorem upFrom_get (a : Int) (n i : Nat) (h : i < n) : (upFrom a n).getD i 0 = a + i := by
  induction n generalizing a i with
  | zero => omega
  | succ n ih =>
    cases i with
    | zero => simp [upFrom]
    | succ i => simp only [upFrom, List.getD_cons_succ]; rw [ih (a + 1) i (by omega)]; omega
theorem upFrom_snoc (a : Int) (n : Nat) : upFrom a (n + 1) = upFrom a n ++ [a + n] := by
  induction n generalizing a with
  | zero => simp [upFrom]
  | succ n ih => rw [upFrom, ih (a + 1)]; simp [upFrom]; omega
end Go.Proofs.Ytcnemjcmnhlflaa.Lib
namespace Go.Proofs.Ytcnemjcmnhlflaa.Lib
open Go.RowKit Go.Proofs.YtcnemjcmnhlflaaW.PrintWords
set_option linter.unusedVariables false
/-- The sets of i and k put together: each element of k's has the number of i's. -/
def uni (s : List Int) (i k : Int) : List Int := s.map fun x => if x = rd s k then rd s i else x
/-- Two lists part their elements in the same way. -/
def Ker (a b : List Int) : Prop := a.length = b.length ∧ ∀ i j : Nat, i < a.length → j < a.length → (a.getD i 0 = a.getD j 0 ↔ b.getD i 0 = b.getD j 0)
theorem getD_map_lt {α β : Type} (f : α → β) (l : List α) (i : Nat) (d : β) (e : α) (h : i < l.length) : (l.map f).getD i d = f (l.getD i e) := by
  simp [List.getD_eq_getElem?_getD, h]
theorem uni_length (s : List Int) (i k : Int) : (uni s i k).length = s.length := by simp [uni]
theorem uni_get (s : List Int) (i k : Int) (n : Nat) (h : n < s.length) : (uni s i k).getD n 0 = if s.getD n 0 = rd s k then rd s i else s.getD n 0 := getD_map_lt _ s n 0 0 h
/-- The numbers of the sets, those in seen being known. -/
def numGo : List Int → List Int → List Int
  | _, [] => []
  | seen, x :: xs => if x ∈ seen then (seen.idxOf x : Int) :: numGo seen xs else (seen.length : Int) :: numGo (seen ++ [x]) xs
def numb (l : List Int) : List Int := numGo [] l
/-- Pairs that go together. -/
def Cons2 (P : List (Int × Int)) : Prop := ∀ p ∈ P, ∀ q ∈ P, p.1 = q.1 ↔ p.2 = q.2
theorem mem_fst (S : List (Int × Int)) (p : Int × Int) (h : ∀ q ∈ S, q.1 = p.1 ↔ q.2 = p.2) : p.1 ∈ S.map (·.1) ↔ p.2 ∈ S.map (·.2) := by
  simp only [List.mem_map]
  exact ⟨fun ⟨q, hq, e⟩ => ⟨q, hq, (h q hq).1 e⟩, fun ⟨q, hq, e⟩ => ⟨q, hq, (h q hq).2 e⟩⟩
theorem idx_fst : ∀ (S : List (Int × Int)) (p : Int × Int), (∀ q ∈ S, q.1 = p.1 ↔ q.2 = p.2) → (S.map (·.1)).idxOf p.1 = (S.map (·.2)).idxOf p.2
  | [], _, _ => rfl
  | q :: S, p, h => by
    have h0 := h q (List.mem_cons_self ..)
    have ih := idx_fst S p (fun r hr => h r (List.mem_cons_of_mem _ hr))
    simp only [yjy, List.idxOf_cons]
    by_cases e : q.1 = p.1
    · have e2 := h0.1 e
      simp [e, e2]
    · have e2 : ¬ q.2 = p.2 := fun e2 => e (h0.2 e2)
      have b1 : (q.1 == p.1) = false := by simpa using e
      have b2 : (q.2 == p.2) = false := by simpa using e2
      rw [b1, b2, ih]
theorem numGo_pairs : ∀ (L S : List (Int × Int)), Cons2 (S ++ L) → numGo (S.map (·.1)) (L.map (·.1)) = numGo (S.map (·.2)) (L.map (·.2))
  | [], _, _ => rfl
  | p :: L, S, h => by
    have hS : ∀ q ∈ S, q.1 = p.1 ↔ q.2 = p.2 := fun q hq => h q (List.mem_append_left _ hq) p (List.mem_append_right _ (List.mem_cons_self ..))
    have hm := mem_fst S p hS
    simp only [yjy, numGo]
    by_cases e : p.1 ∈ S.map (·.1)
    · rw [if_pos e, if_pos (hm.1 e), idx_fst S p hS, numGo_pairs L S (fun a ha b hb => h a (by simp only [List.mem_append, List.mem_cons] at ha ⊢; rcases ha with ha | ha <;> simp [ha]) b (by simp only [List.mem_append, List.mem_cons] at hb ⊢; rcases hb with hb | hb <;> simp [hb]))]
    · rw [if_neg e, if_neg (fun e2 => e (hm.2 e2))]
      have ih := numGo_pairs L (S ++ [p]) (by rw [List.append_assoc]; exact h)
      simp only [List.map_append, yjy, yky] at ih
      rw [ih, List.length_map, List.length_map]
theorem Ker.numb {a b : List Int} (h : Ker a b) : numb a = numb b := by
  have hz1 : (a.zip b).map (·.1) = a := by
    rw [List.map_fst_zip]; exact Nat.le_of_eq h.1
  have hz2 : (a.zip b).map (·.2) = b := by
    rw [List.map_snd_zip]; exact Nat.le_of_eq h.1.symm
  have hc : Cons2 (a.zip b) := by
    intro p hp q hq
    obtain ⟨i, hi, rfl⟩ := List.getElem_of_mem hp
    obtain ⟨j, hj, rfl⟩ := List.getElem_of_mem hq
    rw [List.length_zip] at hi hj
    have hi1 : i < a.length := by omega
    have hj1 : j < a.length := by omega
    have hi2 : i < b.length := by omega
    have hj2 : j < b.length := by omega
    have := h.2 i j hi1 hj1
    simpa [List.getElem_zip, List.getD_eq_getElem?_getD, hi1, hj1, hi2, hj2] using this
  have := numGo_pairs (a.zip b) [] (by rw [List.nil_append]; exact hc)
  rw [hz1, hz2] at this
  exact this
/-- A list that numbers its sets in the order of their first elements, m being known. -/
inductive CanFrom : Nat → List Int → Prop
  | nil (m : Nat) : CanFrom m []
  | old {m : Nat} {x : Int} {xs : List Int} (h0 : 0 ≤ x) (h1 : x < m) (h : CanFrom m xs) : CanFrom m (x :: xs)
  | new {m : Nat} {xs : List Int} (h : CanFrom (m + 1) xs) : CanFrom m ((m : Int) :: xs)
theorem idxOf_up (a : Int) (n : Nat) (i : Nat) (h : i < n) : (upFrom a n).idxOf (a + i) = i := by
  induction n generalizing a i with
  | zero => omega
  | succ n ih =>
    rw [upFrom, List.idxOf_cons]
    cases i with
    | zero => simp
    | succ i =>
      have b : (a == a + ((i + 1 : Nat) : Int)) = false := by simp; omega
      have e : a + ((i + 1 : Nat) : Int) = (a + 1) + (i : Int) := by omega
      rw [b, e, ih (a + 1) i (by omega)]
      first | done | rfl
theorem mem_up (a x : Int) (n : Nat) : x ∈ upFrom a n ↔ a ≤ x ∧ x < a + n := by
  induction n generalizing a with
  | zero => simp [upFrom]; try omega
  | succ n ih => rw [upFrom, List.mem_cons, ih]; omega
theorem numGo_can {m : Nat} {l : List Int} (h : CanFrom m l) : numGo (upFrom 0 m) l = l := by
  induction h with
  | nil m => rfl
  | @old m x xs h0 h1 h ih =>
    obtain ⟨n, rfl⟩ := Int.eq_ofNat_of_zero_le h0
    rw [numGo, if_pos ((mem_up _ _ _).2 ⟨by omega, by omega⟩), ih]
    have := idxOf_up 0 m n (by omega)
    rw [Int.zero_add] at this
    rw [this]
  | @new m xs h ih =>
    rw [numGo, if_neg (fun hc => by have := (mem_up _ _ _).1 hc; omega), upFrom_length]
    have := upFrom_snoc 0 m
    rw [Int.zero_add] at this
    rw [← this, ih]
theorem numb_can {l : List Int} (h : CanFrom 0 l) : numb l = l := numGo_can h
end Go.Proofs.Ytcnemjcmnhlflaa.Lib
namespace Go.Proofs.Ytcnemjcmnhlflaa.P
open Go.RowKit Go.Proofs.YtcnemjcmnhlflaaW.PrintWords Go.Proofs.YtcnemjcmnhlflaaW.PrintLast Go.Proofs.YtcnemjcmnhlflaaW.PrintMore
attribute [local go_sem] max2_int min2_int max_two min_two max_three min_three max_four min_four   -- for this text's walks alone
set_option linter.unusedVariables false
set_option linter.unusedSimpArgs false
/-! numbered: the numbers of sets, in the order of their first elements. -/
/-- The map that numbers what is in seen. -/
structure MapOf (seen : List Int) (D : DataW Unit) : Prop where
  tidy : Maps.Tidy D
  size : Maps.size D = seen.length
  has : ∀ x, Maps.has D (.int .i64 x) = seen.contains x
  at_ : ∀ x, x ∈ seen → D.atKey (.int .i64 x) (.lit (.int .i64 0)) = .lit (.int .i64 (seen.idxOf x : Int))
theorem MapOf.empty : MapOf [] (.map []) := ⟨Maps.tidy_empty, rfl, fun _ => rfl, fun _ h => by cases h⟩
theorem MapOf.put {seen : List Int} {D : DataW Unit} (h : MapOf seen D) {x : Int} (hx : x ∉ seen) : MapOf (seen ++ [x]) (D.put (.int .i64 x) (.lit (.int .i64 (seen.length : Int)))) := by
  refine ⟨h.tidy.put (show WideAt.IsKeyLit (.int .i64 x) from trivial) _, ?_, fun y => ?_, fun y hy => ?_⟩
  · rw [Maps.size_put h.tidy, h.has, h.size]
    have : seen.contains x = false := by simpa using hx
    rw [this]; simp
  · by_cases e : y = x
    · subst e
      rw [Maps.has_put_same h.tidy.isMap (show WideAt.IsKeyLit (.int .i64 y) from trivial)]; simp
    · rw [Maps.has_put_other (by simpa using e), h.has]
      simp [e]
  · by_cases e : y = x
    · subst e
      rw [Maps.atKey_put_same h.tidy.isMap (show WideAt.IsKeyLit (.int .i64 y) from trivial), List.idxOf_append]; simp [hx]
    · rw [Maps.atKey_put_other (by simpa using e)]
      have hm : y ∈ seen := by simpa [e] using hy
      rw [h.at_ y hm, List.idxOf_append, if_pos hm]
theorem MapOf.get {seen : List Int} {D : DataW Unit} (h : MapOf seen D) {x c : Int} (hx : x ∈ seen) (hat : D.atKey (.int .i64 x) (.lit (.int .i64 0)) = .lit (.int .i64 c)) : c = (seen.idxOf x : Int) := by
  have := (h.at_ x hx).symm.trans hat
  simpa using this.symm
theorem wf_small {a : Int} (h0 : 0 ≤ a) (h1 : a ≤ 1000000) : (Lit.int .i64 a).wf = true := by
  unfold Lit.wf
  rw [Bool.and_eq_true]
  exact ⟨ygy (by show (-9223372036854775808 : Int) ≤ a; omega), ygy (by show a ≤ (9223372036854775807 : Int); omega)⟩
def numOk (l : List Int) : Bool := decide (l.length ≤ 1000000) && l.all fun x => decide (0 ≤ x ∧ x ≤ 1000000)
def impl_numbered.f (l0 : List Int) : Option (List Int) := if numOk l0 = true then some (Lib.numb l0) else none
set_option maxHeartbeats 8000000 in
set_option maxRecDepth 100000 in
theorem impl_numbered.calls (A0 : Option Addr) (c0 : Nat) (l0 : List Int) (r : List Int) (w : World) (hr0 : Kd.C (Kd.int .i64) w A0 l0.length l0) (hc0 : l0.length ≤ c0) (h : impl_numbered.f l0 = some r) :
    Calls Try.prog 42 #[.slice A0 l0.length c0] w fun e w' => ∃ v0_ : Value, e = .returned (v0_) ∧ Kd.R (Kd.int .i64) 2 w' w.heap.size (fun _ => True) v0_ r ∧ Below w.heap.size w w' := by
  unfold impl_numbered.f at h
  by_cases hok : numOk l0 = true
  case neg => rw [if_neg hok] at h; cases h
  rw [if_pos hok] at h
  have hr := yey h
  subst hr
  clear h
  simp only [numOk, Bool.and_eq_true, decide_eq_true_eq, List.all_eq_true] at hok
  obtain ⟨hlen, hall⟩ := hok
  have HALL := Aside0.mk hall
  have HR := Aside0.mk hr0
  have HC := Aside0.mk hc0
  clear hr0 hc0 hall
  have hmm := @run_makeMap Try.prog
  have HK := Aside0.mk (Maps.int_keyed Try.underlying2 : Maps.Keyed Try.prog 2)
  have HZ := Aside0.mk (show ∀ w : World, (zeroValue 2).run Try.prog w = .ok (.int .i64 0) w from fun w => by kernel_rfl)
  have HA : Aside0 ([] ++ Lib.numGo [] (l0.drop 0) = Lib.numb l0) := ⟨rfl⟩
  generalize Lib.numb l0 = R at HA ⊢
  go_enter Try.func42, Try.ntmps42
  go_wp2
  go_loopg [4, 12] l0.length (fun gg v4 v12 w' => ∃ (i : Nat) (seen acc : List Int) (D : DataW Unit), i ≤ l0.length ∧ l0.length - i ≤ gg ∧ v12 = .int .i64 i ∧ Aside0 (acc ++ Lib.numGo seen (l0.drop i) = R) ∧ Aside0 (MapOf seen D ∧ seen.length ≤ i ∧ acc.length = i) ∧ Aside0 (w'.ownsMap Try.prog 2 (plainElem Try.prog 2) w.heap.size i D) ∧ Aside0 (Kd.R (Kd.int .i64) 2 w' w.heap.size (fun k => k ≠ w.heap.size) v4 acc) ∧ Aside0 (Below w.heap.size w w' ∧ w.heap.size + 1 ≤ w'.heap.size))
  case atStart => exact ⟨0, [], [], .map [], Nat.zero_le _, by omega, rfl, HA, ⟨MapOf.empty, yoy _, rfl⟩, ⟨World.ownsMap_made _ _ _ _⟩, ⟨Kd.R_nil _ _ _ _ _⟩, ⟨below_alloc (ypy _ _) _, by simp⟩⟩
  case round =>
    clear HA
    obtain ⟨i, seen, acc, D, hi, hg, rfl, HA, HM, HO, HV, HB⟩ := hrel
    by_cases hlt : i < l0.length
    · have hltz : (i : Int) < (l0.length : Int) := by omega
      obtain ⟨ad, e1, hx⟩ := Kd.at_int HR.out (i : Int) (by omega) (by omega)
      have ex : rd l0 (i : Int) = l0[i] := by simp [rd, hlt]
      rw [ex, Int.toNat_natCast] at hx
      replace hx := (HB.out.1.cell (yny w _ hx)).trans hx
      have hy := HALL.out l0[i] (List.getElem_mem hlt)
      have HA2 := HA.out
      rw [List.drop_eq_getElem_cons hlt, Lib.numGo] at HA2
      have HA3 := Aside0.mk HA2
      clear HA HA2 ex
      generalize l0[i] = y at hx hy HA3
      cases e1
      have HKEY := Aside0.mk (Maps.keyOf_int_mk Try.underlying2 (wf_small hy.1 hy.2))
      clear hy
      by_cases hm : y ∈ seen
      · have hhas : Maps.has D (.int .i64 y) = true := by rw [HM.out.1.has]; simpa using hm
        have HMS := Aside0.mk hm
        have HA4 : Aside0 (acc ++ (seen.idxOf y : Int) :: Lib.numGo seen (l0.drop (i + 1)) = R) := ⟨by have h := HA3.out; rwa [if_pos hm] at h⟩
        clear hm HA3
        go_wp2_with (first
          | (at_lookup; refine wpList_lookup_own_ok_int _ rfl _ _ 78 rfl 2 2 .i64 HK.out Try.underlying78 Try.underlying2 (HZ.out _) w.heap.size i D rfl HO.out _ _ rfl HKEY.out ?_; intro c1 hat1 hwc1; clear hat1 hwc1)
          | (at_lookup; refine wpList_lookup_own_int _ rfl _ _ 78 rfl 2 2 .i64 HK.out Try.underlying78 Try.underlying2 (HZ.out _) w.heap.size i D rfl HO.out _ _ rfl HKEY.out ?_; intro c hat hwc; have HCC := Aside0.mk (HM.out.1.get HMS.out hat); clear hat hwc)
          | ((with_reducible refine gate_builtin (b := .append) (xs := #[.tmp 28, .tmp 32]) rfl ?_); at_builtin; refine Kd.R_append (Kd.int .i64) (w0 := w) w.heap.size rfl (.tmp 28) (.tmp 32) 41 2 (.int .i64 0) 8 rfl Try.underlying41 info2 rfl (by decide) (by omega) u4 acc c [.int .i64 c] (fun k => k ≠ w.heap.size) (fun _ => False) rfl rfl ?aP (fun _ hk => hk.elim) ?aF ?aO ?aB ?aS ?aL ?_; (case aP => exact rfl); (case aB => exact HB.out.1); (case aF => exact (fun k hk e => by have := HB.out.2; omega)); (case aO => exact HV.out); (case aS => exact HB.out.1.size); (case aL => have := HM.out.2.2; omega); intro v102 w4 ho hb hg2 hat; have HO2 := Aside0.mk ((HO.out.kept hg2 (fun e => HV.out.1 _ e.symm rfl)).mono (Nat.le_succ i)); have HV2 := Aside0.mk ho; have HB2 := Aside0.mk (And.intro hb (Nat.le_trans HB.out.2 hg2.size)); clear HO HV HB ho hb hg2 hat))
        go_roundg (l0.length - (i + 1))
        case measure => omega
        case rel => exact ⟨i + 1, seen, acc ++ [c], D, by omega, by omega, by go_num, ⟨by have h := HA4.out; rw [← HCC.out] at h; rw [List.append_assoc]; exact h⟩, ⟨HM.out.1, by have := HM.out.2.1; omega, by have := HM.out.2.2; simp; omega⟩, HO2, HV2, HB2⟩
      · have hhas : Maps.has D (.int .i64 y) = false := by rw [HM.out.1.has]; simpa using hm
        have HM2 := Aside0.mk (HM.out.1.put hm)
        have HA4 : Aside0 (acc ++ (seen.length : Int) :: Lib.numGo (seen ++ [y]) (l0.drop (i + 1)) = R) := ⟨by have h := HA3.out; rwa [if_neg hm] at h⟩
        have HIX : Aside0 ((seen ++ [y]).idxOf y = seen.length) := ⟨by rw [List.idxOf_append, if_neg hm]; simp⟩
        have hsz : Maps.size D = seen.length := HM.out.1.size
        clear hm HA3
        have HSL := Aside0.mk HM.out.2.1
        have HWF := Aside0.mk (show (Lit.int .i64 ((seen.length : Nat) : Int)).wf = true from wf_small (by omega) (by have := HM.out.2.1; omega))
        go_wp2_with (first
          | (at_lookup; refine wpList_lookup_own_ok_int _ rfl _ _ 78 rfl 2 2 .i64 HK.out Try.underlying78 Try.underlying2 (HZ.out _) w.heap.size i D rfl HO.out _ _ rfl HKEY.out ?_; intro c1 hat1 hwc1; clear hat1 hwc1)
          | (at_len; refine wpList_len_own _ rfl _ 78 rfl 2 2 Try.underlying78 _ w.heap.size i D rfl HO.out ?_; rw [hsz])
          | (at_mapUpdate; refine wpList_mapUpdate_own _ rfl _ _ _ 78 rfl 2 2 HK.out Try.underlying78 _ w.heap.size i D rfl HO.out (by unfold maxLen; omega) _ _ _ rfl rfl HKEY.out (.lit (.int .i64 (seen.length : Int))) [] (plainElem_int Try.underlying2 HWF.out) ?_; intro w1 hown1 hgrow1; have HO1 := Aside0.mk hown1; have HV1 := Aside0.mk (Kd.R_grown HV.out hgrow1 (fun k hk e => hk (yey e))); have HB1 := Aside0.mk (And.intro (HB.out.1.grown hgrow1 HB.out.1.size (fun j hj => by cases hj; exact yoy _)) (Nat.le_trans HB.out.2 hgrow1.size)); clear HO HV HB hown1 hgrow1)
          | (at_lookup; refine wpList_lookup_own_int _ rfl _ _ 78 rfl 2 2 .i64 HK.out Try.underlying78 Try.underlying2 (HZ.out _) w.heap.size (i + 1) _ rfl HO1.out _ _ rfl HKEY.out ?_; intro c hat hwc; have HCC := Aside0.mk (HM2.out.get (by simp) hat); clear hat hwc)
          | ((with_reducible refine gate_builtin (b := .append) (xs := #[.tmp 28, .tmp 32]) rfl ?_); at_builtin; refine Kd.R_append (Kd.int .i64) (w0 := w) w.heap.size rfl (.tmp 28) (.tmp 32) 41 2 (.int .i64 0) 8 rfl Try.underlying41 info2 rfl (by decide) (by omega) u4 acc c [.int .i64 c] (fun k => k ≠ w.heap.size) (fun _ => False) rfl rfl ?aP (fun _ hk => hk.elim) ?aF ?aO ?aB ?aS ?aL ?_; (case aP => exact rfl); (case aB => exact HB1.out.1); (case aF => exact (fun k hk e => by have := HB1.out.2; omega)); (case aO => exact HV1.out); (case aS => exact HB1.out.1.size); (case aL => have := HM.out.2.2; omega); intro v102 w4 ho hb hg2 hat; have HO2 := Aside0.mk (HO1.out.kept hg2 (fun e => HV1.out.1 _ e.symm rfl)); have HV2 := Aside0.mk ho; have HB2 := Aside0.mk (And.intro hb (Nat.le_trans HB1.out.2 hg2.size)); clear HO1 HV1 HB1 ho hb hg2 hat))
        go_roundg (l0.length - (i + 1))
        case measure => omega
        case rel => exact ⟨i + 1, seen ++ [y], acc ++ [c], _, by omega, by omega, by go_num, ⟨by have h := HA4.out; rw [← HIX.out, ← HCC.out] at h; rw [List.append_assoc]; exact h⟩, ⟨HM2.out, by have := HSL.out; simp; omega, by have := HM.out.2.2; simp; omega⟩, HO2, HV2, HB2⟩
    · obtain rfl : i = l0.length := by omega
      have HA2 := HA.out
      rw [List.drop_length, Lib.numGo, List.append_nil] at HA2
      subst HA2
      go_wp2
      go_ret
      exact ⟨_, rfl, Kd.R_mono HV.out (fun _ _ => trivial), HB.out.1⟩
/-! ### impl_size_Simpl_Face: function 21 -/
def impl_size_Simpl_Face.f (l0 : List (List (SFace))) : Option (Int) := some (l0.length : Int)
set_option maxHeartbeats 8000000 in
set_option maxRecDepth 100000 in
theorem impl_size_Simpl_Face.calls (A0 : Option Addr) (c0 : Nat) (l0 : List (List (SFace))) (r : Int) (w : World) (hr0 : Kd.C (Kd.slice 56 kFace) w A0 l0.length l0) (hc0 : l0.length ≤ c0) (h : impl_size_Simpl_Face.f l0 = some r) :
    Calls Try.prog 21 #[.slice A0 l0.length c0] w fun e w' => e = .returned (.int .i64 r) ∧ Drawn0 w w' := by
  have HR0 := Aside0.mk hr0
  have HC0 := Aside0.mk hc0
  clear hr0 hc0
  have H : (some (l0.length : Int)) = some r := h
  clear h
  obtain rfl := yey H
  go_enter Try.func21, Try.ntmps21
  go_wp2
  go_ret
  exact ⟨by first | rfl | (simp; done) | (simp [*]; done), by repeat (first | exact Drawn0.refl _ | apply Drawn0.step)⟩
/-! union: each element of one set gets the other's number. -/
def impl_union.f (l : List Int) (i k : Int) : Option (List Int) := if 0 ≤ i ∧ i < l.length ∧ 0 ≤ k ∧ k < l.length then some (Lib.uni l i k) else none
theorem part_get {G : Int → Int} {l cur : List Int} {n : Nat} (h : cur = (l.take n).map G ++ l.drop n) (hn : n < l.length) : rd cur (n : Int) = l[n] := by
  subst h
  have h1 : ((l.take n).map G).length = n := by simp; omega
  simp only [rd, Int.toNat_natCast, List.getD_eq_getElem?_getD]
  rw [List.getElem?_append_right (by omega), h1, Nat.sub_self, List.getElem?_drop]
  simp [hn]
theorem part_keep {G : Int → Int} {l cur : List Int} {n : Nat} (h : cur = (l.take n).map G ++ l.drop n) (hn : n < l.length) (e : G l[n] = l[n]) : cur = (l.take (n + 1)).map G ++ l.drop (n + 1) := by
  subst h
  rw [List.drop_eq_getElem_cons hn, List.take_succ_eq_append_getElem hn, List.map_append, yjy, yky, e, List.append_assoc]
  rfl
theorem part_put {G : Int → Int} {l cur : List Int} {n : Nat} (h : cur = (l.take n).map G ++ l.drop n) (hn : n < l.length) : cur.set n (G l[n]) = (l.take (n + 1)).map G ++ l.drop (n + 1) := by
  subst h
  have h1 : ((l.take n).map G).length = n := by simp; omega
  rw [List.set_append_right _ _ (by omega), h1, Nat.sub_self, List.drop_eq_getElem_cons hn, yby, List.take_succ_eq_append_getElem hn, List.map_append, yjy, yky, List.append_assoc]
  rfl
set_option maxHeartbeats 8000000 in
set_option maxRecDepth 100000 in
theorem impl_union.calls (P0_ : Nat → Prop) (v : Value) (l : List Int) (i k : Int) (r : List Int) (w0 w : World) (hB : Below w0.heap.size w0 w) (ho0 : Kd.R (Kd.int .i64) 2 w w0.heap.size P0_ v l) (h : impl_union.f l i k = some r) :
    Calls Try.prog 41 #[v, .int .i64 i, .int .i64 k] w fun e w' => e = .returned (.tuple #[]) ∧ Kd.R (Kd.int .i64) 2 w' w0.heap.size P0_ v r ∧ Below w0.heap.size w0 w' ∧ Kept w w' P0_ := by
  unfold impl_union.f at h
  by_cases hok : 0 ≤ i ∧ i < l.length ∧ 0 ≤ k ∧ k < l.length
  case neg => rw [if_neg hok] at h; cases h
  rw [if_pos hok] at h
  have hr := yey h
  obtain ⟨hi0, hi1, hk0, hk1⟩ := hok
  obtain ⟨g, cap, rfl, hg1, _, _⟩ := Kd.R_form ho0 (by omega)
  have hbig : l.length ≤ 9223372036854775807 := (Kd.C_max (Kd.R_reads' ho0).2.2)
  have q0 := (Kd.R_celln 0 ho0 k hk0 hk1).1
  have q1 := (Kd.R_celln 0 ho0 i hi0 hi1).1
  replace q0 : w.cell? ⟨g, k.toNat, none⟩ = some (.int .i64 (rd l k)) := q0
  replace q1 : w.cell? ⟨g, i.toNat, none⟩ = some (.int .i64 (rd l i)) := q1
  have hR : Aside0 (l.map (fun x => if x = rd l k then rd l i else x) = r) := ⟨hr⟩
  clear hr h
  generalize rd l k = q at q0 hR
  generalize rd l i = p at q1 hR
  have HO := Aside0.mk ho0
  have HB := Aside0.mk hB
  have HP := Aside0.mk (ho0.1 g rfl)
  clear ho0 hB
  go_enter Try.func41, Try.ntmps41
  go_wp2
  refine start_ (n := 10) (S := fun w' => w'.cell? ⟨g, k.toNat, none⟩ = some (.int .i64 q) ∧ w'.cell? ⟨g, i.toNat, none⟩ = some (.int .i64 p)) (ds := []) #[false, false, false, false, false, false, false, false, false, false] (by kernel_rfl) rfl rfl ⟨q0, q1⟩ (fun hHeld => ?_)
  refine pure_ (i := 0) (N := some 10) (v := ?_) (a' := ?_) #[true, false, false, false, false, false, false, false, false, false] rfl rfl (by kernel_rfl) (fun _ _ _ h => h) (Or.inl ⟨by rfl, ?_⟩) ?_ ?_
  rotate_left
  · intro w'
    go_simp
    with_reducible rfl
  rotate_left
  · simp only [Act.put, yay, yby, ycy, i64_w, i32_w]
    rfl
  refine pure_ (i := 1) (N := some 11) (v := ?_) (a' := ?_) #[true, true, false, false, false, false, false, false, false, false] rfl rfl (by kernel_rfl) (fun _ _ _ h => h) (Or.inl ⟨by rfl, ?_⟩) ?_ ?_
  rotate_left
  · intro w'
    go_simp
    with_reducible rfl
  rotate_left
  · simp only [Act.put, yay, yby, ycy, i64_w, i32_w]
    rfl
  refine pure_ (i := 2) (N := some 12) (v := ?_) (a' := ?_) #[true, true, true, false, false, false, false, false, false, false] rfl rfl (by kernel_rfl) (fun _ _ _ h => h) (Or.inl ⟨by rfl, ?_⟩) ?_ ?_
  rotate_left
  · intro w'
    go_simp
    with_reducible rfl
  rotate_left
  · simp only [Act.put, yay, yby, ycy, i64_w, i32_w]
    rfl
  refine take_ (i := 3) (N := some 13) (v := ?_) (a' := ?_) #[true, true, true, true, false, false, false, false, false, false] rfl rfl (by kernel_rfl) (fun _ _ _ h => h) (Or.inl ⟨by rfl, ?_⟩) hHeld ?_ ?_
  rotate_left
  · rintro w' ⟨s0, s1⟩
    go_simp
    with_reducible rfl
  rotate_left
  · simp only [Act.put, yay, yby, ycy, i64_w, i32_w]
    rfl
  refine pure_ (i := 4) (N := some 14) (v := ?_) (a' := ?_) #[true, true, true, true, true, false, false, false, false, false] rfl rfl (by kernel_rfl) (fun _ _ _ h => h) (Or.inl ⟨by rfl, ?_⟩) ?_ ?_
  rotate_left
  · intro w'
    go_simp
    with_reducible rfl
  rotate_left
  · simp only [Act.put, yay, yby, ycy, i64_w, i32_w]
    rfl
  refine pure_ (i := 5) (N := some 15) (v := ?_) (a' := ?_) #[true, true, true, true, true, true, false, false, false, false] rfl rfl (by kernel_rfl) (fun _ _ _ h => h) (Or.inl ⟨by rfl, ?_⟩) ?_ ?_
  rotate_left
  · intro w'
    go_simp
    with_reducible rfl
  rotate_left
  · simp only [Act.put, yay, yby, ycy, i64_w, i32_w]
    rfl
  refine pure_ (i := 6) (N := some 16) (v := ?_) (a' := ?_) #[true, true, true, true, true, true, true, false, false, false] rfl rfl (by kernel_rfl) (fun _ _ _ h => h) (Or.inl ⟨by rfl, ?_⟩) ?_ ?_
  rotate_left
  · intro w'
    go_simp
    with_reducible rfl
  rotate_left
  · simp only [Act.put, yay, yby, ycy, i64_w, i32_w]
    rfl
  refine take_ (i := 7) (N := some 17) (v := ?_) (a' := ?_) #[true, true, true, true, true, true, true, true, false, false] rfl rfl (by kernel_rfl) (fun _ _ _ h => h) (Or.inl ⟨by rfl, ?_⟩) hHeld ?_ ?_
  rotate_left
  · rintro w' ⟨s0, s1⟩
    go_simp
    with_reducible rfl
  rotate_left
  · simp only [Act.put, yay, yby, ycy, i64_w, i32_w]
    rfl
  refine pure_ (i := 8) (N := some 6) (v := ?_) (a' := ?_) #[true, true, true, true, true, true, true, true, true, false] rfl rfl (by kernel_rfl) (fun _ _ _ h => h) (Or.inl ⟨by rfl, ?_⟩) ?_ ?_
  rotate_left
  · intro w'
    go_simp
    with_reducible rfl
  rotate_left
  · simp only [Act.put, yay, yby, ycy, i64_w, i32_w]
    rfl
  refine pure_ (i := 9) (N := some 7) (v := ?_) (a' := ?_) #[true, true, true, true, true, true, true, true, true, true] rfl rfl (by kernel_rfl) (fun _ _ _ h => h) (Or.inl ⟨by rfl, ?_⟩) ?_ ?_
  rotate_left
  · intro w'
    go_simp
    with_reducible rfl
  rotate_left
  · simp only [Act.put, yay, yby, ycy, i64_w, i32_w]
    rfl
  refine done_ (by kernel_rfl) ?_
  have HO2 := Aside0.mk (Kd.R_drew HO.out)
  have HB2 := Aside0.mk (below_drew1 HB.out)
  have HK := Aside0.mk (Kept.drew (Kept.refl w P0_))
  have HC : Aside0 (l = (l.take 0).map (fun x => if x = q then p else x) ++ l.drop 0) := ⟨by simp⟩
  clear HO HB hHeld q0 q1
  generalize w.drew = wd at *
  go_wp2
  go_loopg [20] l.length (fun gg v20 w' => ∃ (n : Nat) (cur : List Int), n ≤ l.length ∧ l.length - n ≤ gg ∧ v20 = .int .i64 n ∧ Aside0 (cur = (l.take n).map (fun x => if x = q then p else x) ++ l.drop n) ∧ Aside0 (Kd.R (Kd.int .i64) 2 w' w0.heap.size P0_ (.slice (some ⟨g, 0, none⟩) l.length cap) cur) ∧ Aside0 (Below w0.heap.size w0 w') ∧ Aside0 (Kept w w' P0_))
  case atStart => exact ⟨0, l, Nat.zero_le _, by omega, rfl, HC, HO2, HB2, HK⟩
  case round =>
    clear HC HO2 HB2 HK
    obtain ⟨n, cur, hn, hg, rfl, HC, HO, HB, HK⟩ := hrel
    by_cases hlt : n < l.length
    · have hltz : (n : Int) < (l.length : Int) := by omega
      obtain ⟨hc, hf⟩ := Kd.R_celln 0 HO.out (n : Int) (by omega) hltz
      replace hc : wr.cell? ⟨g, n, none⟩ = some (.int .i64 (rd cur (n : Int))) := hc
      replace hf : wr.frozen? ⟨g, n, none⟩ = false := hf
      rw [part_get HC.out hlt] at hc
      by_cases hy : l[n] = q
      · have HC2 := Aside0.mk (part_put HC.out hlt)
        rw [hy] at hc HC2
        have HC3 : Aside0 (cur.set n p = (l.take (n + 1)).map (fun x => if x = q then p else x) ++ l.drop (n + 1)) := ⟨by have h := HC2.out; rwa [if_pos rfl] at h⟩
        have e1 : (q == q) = true := by simp
        clear hy HC2 HC
        go_wp2_with (first
          | ((with_reducible refine gate_store (t := 2) (p := 31) rfl ?_); refine store_event (t := 2) (p := 31) (v := ?vo31) (w1 := (wr.setCell ⟨g, n, none⟩ (.int .i64 p))) ?hg ?ho ?hn ?hr ?_; (case ho => rfl); (case hg => rfl); (case hn => rfl); (case hr => first | (go_simp; done) | (go_simp; rfl)); intro w4 hw; have HO2 := Aside0.mk (show Kd.R (Kd.int .i64) 2 w4 w0.heap.size P0_ (.slice (some ⟨g, 0, none⟩) l.length cap) (cur.set n p) by rw [hw]; exact (Kd.R_putg HO.out (n : Int) p).1); have HB2 := Aside0.mk (show Below w0.heap.size w0 w4 by rw [hw]; exact below_set HB.out hg1); have HK2 := Aside0.mk (show Kept w w4 P0_ by rw [hw]; exact HK.out.setCell (p := ⟨g, n, none⟩) (.inl HP.out) _); clear hw hc hf HO HB HK))
        go_roundg (l.length - (n + 1))
        case measure => omega
        case rel => exact ⟨n + 1, cur.set n p, by omega, by omega, by go_num, HC3, HO2, HB2, HK2⟩
      · have HC2 := Aside0.mk (part_keep HC.out hlt (if_neg hy))
        have e1 : (l[n] == q) = false := by simpa using hy
        generalize l[n] = y at hc e1
        clear hy HC
        go_wp2
        go_roundg (l.length - (n + 1))
        case measure => omega
        case rel => exact ⟨n + 1, cur, by omega, by omega, by go_num, HC2, HO, HB, HK⟩
    · obtain rfl : n = l.length := by omega
      have hcr : cur = r := by rw [HC.out, ← hR.out]; simp
      have HCR := Aside0.mk hcr
      clear hcr HC
      go_wp2
      first | go_end0 | ((try simp only [Exit.inBlock, Exit.then]); refine bodyPost_ret (results_none rfl _ _ _) rfl ?_)
      refine ⟨?_, by rw [← HCR.out]; exact HO.out, HB.out, HK.out⟩
      first | rfl | (simp <;> rfl)
/-! ### impl_Triangulation_components: function 19 -/
mutual
def impl_Triangulation_components.l0 : Nat → List Int → List (List (SFace)) → Int → Int → Option (List Int)
 | 0, _, _, _, _ => none
 | k + 1, x3, x13, x14, x15 => if x15 < x14 then (if 0 ≤ x15 then (if x15 < (x13.length : Int) then (impl_Triangulation_components.l1 k x3 x15 x13 x14 x15 (rd_LFace x13 x15) ((rd_LFace x13 x15).length : Int) 0) else (none)) else (none)) else ((impl_numbered.f x3).bind fun t106 => (some t106))
def impl_Triangulation_components.l1 : Nat → List Int → Int → List (List (SFace)) → Int → Int → List (SFace) → Int → Int → Option (List Int)
 | 0, _, _, _, _, _, _, _, _ => none
 | k + 1, x3, x4, x13, x14, x15, x20, x21, x22 => if x22 < x21 then (if 0 ≤ x22 then (if x22 < (x20.length : Int) then ((impl_Face_isBoundary.f ((rd_Face x20 x22).f0) ((rd_Face x20 x22).f1)).bind fun t112 => (if t112 = true then (impl_Triangulation_components.l1 k x3 x4 x13 x14 x15 x20 x21 (wrap64 (x22 + 1))) else ((impl_union.f x3 x4 ((rd_Face x20 x22).f0)).bind fun t113 => (impl_Triangulation_components.l1 k t113 x4 x13 x14 x15 x20 x21 (wrap64 (x22 + 1)))))) else (none)) else (none)) else (impl_Triangulation_components.l0 k x3 x13 x14 (wrap64 (x15 + 1)))
end
def impl_Triangulation_components.f (k : Nat) (l0_0 : List (List (SFace))) : Option (List Int) := (impl_size_Simpl_Face.f l0_0).bind fun t102 => ((impl_counting.f k t102).bind fun t103 => (impl_Triangulation_components.l0 k t103 l0_0 (l0_0.length : Int) 0))
set_option maxHeartbeats 8000000 in
set_option maxRecDepth 100000 in
theorem impl_Triangulation_components.calls (k : Nat) (A0_0 : Option Addr) (c0_0 : Nat) (l0_0 : List (List (SFace))) (r : List Int) (w : World) (hr0_0 : Kd.C (Kd.slice 56 kFace) w A0_0 l0_0.length l0_0) (hc0_0 : l0_0.length ≤ c0_0) (h : impl_Triangulation_components.f k l0_0 = some r) :
 Calls Try.prog 19 #[.agg #[.slice A0_0 l0_0.length c0_0]] w fun e w' => ∃ v0_ : Value, e = .returned (v0_) ∧ Kd.R (Kd.int .i64) 2 w' w.heap.size (fun _ => True) v0_ r ∧ Below w.heap.size w w' := by
 have hu30 := Try.underlying30
 have hu56 := Try.underlying56
 have HR0_0 := Aside0.mk hr0_0
 have HC0_0 := Aside0.mk hc0_0
 clear hr0_0 hc0_0
 have HB := Aside0.mk (ypy w.heap.size w)
 have H : ((impl_size_Simpl_Face.f l0_0).bind fun t102 => ((impl_counting.f k t102).bind fun t103 => (impl_Triangulation_components.l0 k t103 l0_0 (l0_0.length : Int) 0))) = some r := h
 clear h
 replace H := ydy.mp H
 obtain ⟨t102, A20, H⟩ := H
 replace H : ((impl_counting.f k t102).bind fun t103 => (impl_Triangulation_components.l0 k t103 l0_0 (l0_0.length : Int) 0)) = some r := H
 have A2 := Aside0.mk A20
 clear A20
 replace H := ydy.mp H
 obtain ⟨t103, A30, H⟩ := H
 replace H : (impl_Triangulation_components.l0 k t103 l0_0 (l0_0.length : Int) 0) = some r := H
 have A3 := Aside0.mk A30
 clear A30
 have H' := Aside0.mk H
 clear H
 go_enter Try.func19, Try.ntmps19
 go_wp2_with (first | ((with_reducible refine gate_dst (N := 1) rfl ?_); refine box_event ?hg (N := 1) ?hd (cs := #[.slice A0_0 l0_0.length c0_0]) (t := 30) ?hr ?_; (case hd => rfl); (case hg => rfl); (case hr => first | (go_simp; done) | (go_simp; rfl)); intro gb101 hg w4 hbox hb; have n0_ := Aside0.mk (below_step (by repeat (first | (with_reducible first | exact HB.out | apply below_alloc | apply pw_below_drewN | apply below_drew1) | exact HB.out)) hb); have n1_ := Aside0.mk (hbox); have n2_ := Aside0.mk ((by rw [hg]; exact (below_size (by repeat (first | (with_reducible first | exact HB.out | apply below_alloc | apply pw_below_drewN | apply below_drew1) | exact HB.out))) : w.heap.size ≤ gb101)); have n3_ := Aside0.mk ((by rw [hg]; exact (below_size (by repeat (first | (with_reducible first | exact HB.out | apply below_alloc | apply pw_below_drewN | apply below_drew1) | exact HB.out))) : w.heap.size ≤ gb101)); clear HB; have HB := n0_; have BK101 := n1_; have GW101 := n2_; have GE101 := n3_; clear n0_ n1_ n2_ n3_; clear hb hbox hg; have hcz5_0 : w4.cell? ⟨gb101, 0, none⟩ = some (.slice A0_0 l0_0.length c0_0) := (blk_cell BK101.out 0).trans rfl; have hfz5_0 := blk_frozen BK101.out 0) | ((with_reducible refine gate_callee (f := 21) rfl ?_); refine goesL_ (some 10) rfl rfl Try.func21 (by kernel_rfl) rfl #[.slice A0_0 l0_0.length c0_0] rfl (by (try simp only [yiy, yjy, yky]); first | done | rfl | (simp only [yly, ymy]; rfl)) ?_; (with_reducible refine (impl_size_Simpl_Face.calls _ _ l0_0 t102 _ ?side1 ?side2 A2.out).mono ?_); (case side1 => repeat (first | exact (Kd.C_below HR0_0.out HB.out) | (with_reducible refine Kd.C_alloc ?_ _) | (with_reducible refine Kd.C_drewN ?_ _) | (with_reducible refine Kd.C_drew ?_))); (case side2 => exact HC0_0.out); rintro e w' ⟨rfl, ⟨nd, rfl⟩⟩; refine ⟨_, rfl, ?_⟩) | ((with_reducible refine gate_callee (f := 39) rfl ?_); refine goesL_ (some 11) rfl rfl Try.func39 (by kernel_rfl) rfl #[.int .i64 t102] rfl (by (try simp only [yiy, yjy, yky]); first | done | rfl | (simp only [yly, ymy]; rfl)) ?_; (with_reducible refine (impl_counting.calls k t102 t103 _ A3.out).mono ?_); rintro e w6 ⟨v104, rfl, ho0, hb⟩; refine ⟨_, rfl, ?_⟩; have n0_ := Aside0.mk (Kd.R_lower ho0 (below_size (by repeat (first | (with_reducible first | exact HB.out | apply below_alloc | apply pw_below_drewN | apply below_drew1 | refine below_set ?_ GE101.out) | exact HB.out)))); have n1_ := Aside0.mk (blk_below (g := gb101) (o := .cells #[.slice A0_0 l0_0.length c0_0] 30 (0, 0)) (by (with_reducible repeat (first | refine blk_drewN ?_ _ | refine blk_drew ?_ | refine blk_alloc ?_ _)); exact BK101.out) hb); have n2_ := Aside0.mk (below_step (by repeat (first | (with_reducible first | exact HB.out | apply below_alloc | apply pw_below_drewN | apply below_drew1 | refine below_set ?_ GE101.out) | exact HB.out)) hb); clear BK101; clear HB; have HO105 := n0_; have BK101 := n1_; have HB := n2_; clear n0_ n1_ n2_; (try clear hb); (try clear hb2); (try clear hk); (try clear hi); (try clear ho0); have hcz7_0 : w6.cell? ⟨gb101, 0, none⟩ = some (.slice A0_0 l0_0.length c0_0) := (blk_cell BK101.out 0).trans rfl; have hfz7_0 := blk_frozen BK101.out 0))
 go_loopg [15] k (fun kq v15 w' => ∃ (x3_1 : List Int) (x15_1 : Int), v15 = .int .i64 x15_1 ∧ Aside0 (impl_Triangulation_components.l0 kq x3_1 l0_0 (l0_0.length : Int) x15_1 = some r) ∧ Aside0 (kq ≤ k) ∧ Aside0 (Kd.R (Kd.int .i64) 2 w' w.heap.size (fun _ => True) v104 x3_1) ∧ Aside0 (w'.heap[gb101]? = some (.cells #[(.slice A0_0 l0_0.length c0_0)] 30 (0, 0))) ∧ Aside0 (Below w.heap.size w w'))
 case atStart => exact ⟨(t103), (0), (by first | rfl | (simp; done) | (simp [*]; done)), H', ⟨yoy _⟩, ⟨by (with_reducible repeat (first | apply Kd.R_alloc | apply Kd.R_drewN | apply Kd.R_drew)); exact HO105.out⟩, ⟨by (with_reducible repeat (first | refine blk_drewN ?_ _ | refine blk_drew ?_ | refine blk_alloc ?_ _)); exact BK101.out⟩, ⟨by repeat (first | (with_reducible first | exact HB.out | apply below_alloc | apply pw_below_drewN | apply below_drew1 | refine below_set ?_ GE101.out) | exact HB.out)⟩⟩
 case round =>
  clear H'
  try clear c1
  try clear c2
  try clear p2
  try clear c3
  try clear hcz5_0
  try clear hcz7_0
  try clear hfz5_0
  try clear hfz7_0
  obtain ⟨x3_1, x15_1, rfl, HA, HK1, HO_3, BK101, HB⟩ := hrel
  cases gk with
  | zero => exact absurd HA.out (by simp [impl_Triangulation_components.l0])
  | succ k1 =>
   have H := HA.out
   clear HA
   simp only [impl_Triangulation_components.l0] at H
   by_cases c8 : x15_1 < (l0_0.length : Int)
   rotate_left
   next =>
    rw [if_neg c8] at H
    have c8b0 : decide (x15_1 < (l0_0.length : Int)) = false := yhy c8
    clear c8
    replace H := ydy.mp H
    obtain ⟨t106, A280, H⟩ := H
    replace H : (some t106) = some r := H
    have A28 := Aside0.mk A280
    clear A280
    obtain rfl := yey H
    obtain ⟨Ao29, co29, eo29⟩ := Kd.R_slice HO_3.out
    subst eo29
    go_wp2_with (first | ((with_reducible refine gate_callee (f := 42) rfl ?_); refine goesL_ (some 37) rfl rfl Try.func42 (by kernel_rfl) rfl #[.slice Ao29 x3_1.length co29] rfl (by (try simp only [yiy, yjy, yky]); first | done | rfl | (simp only [yly, ymy]; rfl)) ?_; (with_reducible refine (impl_numbered.calls _ _ x3_1 t106 _ ?side1 ?side2 A28.out).mono ?_); (case side1 => repeat (first | exact (Kd.R_reads' HO_3.out).2.2 | (with_reducible refine Kd.C_alloc ?_ _) | (with_reducible refine Kd.C_drewN ?_ _) | (with_reducible refine Kd.C_drew ?_))); (case side2 => exact (Kd.R_reads' HO_3.out).2.1); rintro e w30 ⟨v107, rfl, ho0, hb⟩; refine ⟨_, rfl, ?_⟩; have n0_ := Aside0.mk (Kd.R_elder' (by (with_reducible repeat (first | apply Kd.R_alloc | apply Kd.R_drewN | apply Kd.R_drew)); exact HO_3.out) (Kd.R_base ho0) hb); have n1_ := Aside0.mk (Kd.R_lower (Kd.R_new' ho0 (Kd.R_lt (by (with_reducible repeat (first | apply Kd.R_alloc | apply Kd.R_drewN | apply Kd.R_drew)); exact HO_3.out))) (below_size (by repeat (first | (with_reducible first | exact HB.out | apply below_alloc | apply pw_below_drewN | apply below_drew1 | refine below_set ?_ GE101.out) | exact HB.out)))); have n2_ := Aside0.mk (blk_below (g := gb101) (o := .cells #[.slice A0_0 l0_0.length c0_0] 30 (0, 0)) (by (with_reducible repeat (first | refine blk_drewN ?_ _ | refine blk_drew ?_ | refine blk_alloc ?_ _)); exact BK101.out) hb); have n3_ := Aside0.mk (below_step (by repeat (first | (with_reducible first | exact HB.out | apply below_alloc | apply pw_below_drewN | apply below_drew1 | refine below_set ?_ GE101.out) | exact HB.out)) hb); clear HO_3; clear BK101; clear HB; have HO_3 := n0_; have HO108 := n1_; have BK101 := n2_; have HB := n3_; clear n0_ n1_ n2_ n3_; (try clear hb); (try clear hb2); (try clear hk); (try clear hi); (try clear ho0)))
    go_ret
    exact ⟨_, by first | rfl | (simp [errW_none, errW_some] <;> rfl) | (simp [*, errW_none, errW_some] <;> rfl), by (with_reducible repeat (first | apply Kd.R_alloc | apply Kd.R_drewN | apply Kd.R_drew)); exact Kd.R_mono HO108.out (fun _ hk => trivial), by repeat (first | (with_reducible first | exact HB.out | apply below_alloc | apply pw_below_drewN | apply below_drew1 | refine below_set ?_ GE101.out) | exact HB.out)⟩
   rw [if_pos c8] at H
   have c8b0 : decide (x15_1 < (l0_0.length : Int)) = true := ygy c8
   clear c8
   by_cases c9 : 0 ≤ x15_1
   rotate_left
   next =>
    rw [if_neg c9] at H
    exact absurd H (by simp)
   rw [if_pos c9] at H
   have c9b0 : decide (0 ≤ x15_1) = true := ygy c9
   clear c9
   by_cases c10 : x15_1 < (l0_0.length : Int)
   rotate_left
   next =>
    rw [if_neg c10] at H
    exact absurd H (by simp)
   rw [if_pos c10] at H
   have c10b0 : decide (x15_1 < (l0_0.length : Int)) = true := ygy c10
   clear c10
   have H' := Aside0.mk H
   clear H
   have p109 : 0 ≤ (x15_1 : Int) := of_decide_eq_true (by first | (with_reducible assumption) | assumption)
   have q109 : x15_1 < (l0_0.length : Int) := of_decide_eq_true (by first | (with_reducible assumption) | assumption)
   obtain ⟨ad109, A109_0, c109_0, e109, hx109_0, hl109_0, hi109_0⟩ := at_LFace HR0_0.out x15_1 p109 q109
   cases e109
   replace hx109_0 := (HB.out.cell (yny w _ hx109_0)).trans hx109_0
   have HR109_0 := Aside0.mk hi109_0
   have HC109_0 := Aside0.mk hl109_0
   clear hi109_0 hl109_0
   replace p109 := eq_true p109
   replace q109 := eq_true q109
   go_wp2
   go_loopg [22] k1 (fun kq v22 w' => ∃ (x3_2 : List Int) (x22_2 : Int), v22 = .int .i64 x22_2 ∧ Aside0 (impl_Triangulation_components.l1 kq x3_2 x15_1 l0_0 (l0_0.length : Int) x15_1 (rd_LFace l0_0 x15_1) ((rd_LFace l0_0 x15_1).length : Int) x22_2 = some r) ∧ Aside0 (kq ≤ k1) ∧ Aside0 (Kd.R (Kd.int .i64) 2 w' w.heap.size (fun _ => True) v104 x3_2) ∧ Aside0 (w'.heap[gb101]? = some (.cells #[(.slice (some ad109) l0_0.length c0_0)] 30 (0, 0))) ∧ Aside0 (Below w.heap.size w w'))
   case atStart => exact ⟨(x3_1), (0), (by first | rfl | (simp; done) | (simp [*]; done)), H', ⟨yoy _⟩, ⟨by (with_reducible repeat (first | apply Kd.R_alloc | apply Kd.R_drewN | apply Kd.R_drew)); exact HO_3.out⟩, ⟨by (with_reducible repeat (first | refine blk_drewN ?_ _ | refine blk_drew ?_ | refine blk_alloc ?_ _)); exact BK101.out⟩, ⟨by repeat (first | (with_reducible first | exact HB.out | apply below_alloc | apply pw_below_drewN | apply below_drew1 | refine below_set ?_ GE101.out) | exact HB.out)⟩⟩
   case round =>
    clear H'
    try clear c1
    try clear p1
    try clear q1
    try clear hx1
    try clear c2
    try clear p2
    try clear c3
    try clear c8
    try clear c8b0
    try clear c9
    try clear c9b0
    try clear c10
    try clear c10b0
    try clear p10
    try clear q10
    try clear hx10
    try clear hcz5_0
    try clear hcz7_0
    try clear hfz5_0
    try clear hfz7_0
    try clear hx109_0
    try clear p109
    try clear p2
    try clear q109
    obtain ⟨x3_2, x22_2, rfl, HA, HK2, HO_3, BK101, HB⟩ := hrel
    cases gk with
    | zero => exact absurd HA.out (by simp [impl_Triangulation_components.l1])
    | succ k2 =>
     have H := HA.out
     clear HA
     simp only [impl_Triangulation_components.l1] at H
     by_cases c11 : x22_2 < ((rd_LFace l0_0 x15_1).length : Int)
     rotate_left
     next =>
      rw [if_neg c11] at H
      have c11b0 : decide (x22_2 < ((rd_LFace l0_0 x15_1).length : Int)) = false := yhy c11
      clear c11
      have H' := Aside0.mk H
      clear H
      go_wp2
      go_roundg k2
      case measure => have := HK1.out; have := HK2.out; omega
      case rel => exact ⟨(x3_2), (wrap64 (x15_1 + 1)), (by first | rfl | (simp; done) | (simp [*]; done)), H', ⟨by have := HK1.out; have := HK2.out; omega⟩, ⟨by (with_reducible repeat (first | apply Kd.R_alloc | apply Kd.R_drewN | apply Kd.R_drew)); exact HO_3.out⟩, ⟨by (with_reducible repeat (first | refine blk_drewN ?_ _ | refine blk_drew ?_ | refine blk_alloc ?_ _)); exact BK101.out⟩, ⟨by repeat (first | (with_reducible first | exact HB.out | apply below_alloc | apply pw_below_drewN | apply below_drew1 | refine below_set ?_ GE101.out) | exact HB.out)⟩⟩
     rw [if_pos c11] at H
     have c11b0 : decide (x22_2 < ((rd_LFace l0_0 x15_1).length : Int)) = true := ygy c11
     clear c11
     by_cases c12 : 0 ≤ x22_2
     rotate_left
     next =>
      rw [if_neg c12] at H
      exact absurd H (by simp)
     rw [if_pos c12] at H
     have c12b0 : decide (0 ≤ x22_2) = true := ygy c12
     clear c12
     by_cases c13 : x22_2 < ((rd_LFace l0_0 x15_1).length : Int)
     rotate_left
     next =>
      rw [if_neg c13] at H
      exact absurd H (by simp)
     rw [if_pos c13] at H
     have c13b0 : decide (x22_2 < ((rd_LFace l0_0 x15_1).length : Int)) = true := ygy c13
     clear c13
     replace H := ydy.mp H
     obtain ⟨t112, A140, H⟩ := H
     replace H : (if t112 = true then (impl_Triangulation_components.l1 k2 x3_2 x15_1 l0_0 (l0_0.length : Int) x15_1 (rd_LFace l0_0 x15_1) ((rd_LFace l0_0 x15_1).length : Int) (wrap64 (x22_2 + 1))) else ((impl_union.f x3_2 x15_1 ((rd_Face (rd_LFace l0_0 x15_1) x22_2).f0)).bind fun t113 => (impl_Triangulation_components.l1 k2 t113 x15_1 l0_0 (l0_0.length : Int) x15_1 (rd_LFace l0_0 x15_1) ((rd_LFace l0_0 x15_1).length : Int) (wrap64 (x22_2 + 1))))) = some r := H
     have A14 := Aside0.mk A140
     clear A140
     by_cases c15 : t112 = true
     next =>
      subst c15
      have H1 : (impl_Triangulation_components.l1 k2 x3_2 x15_1 l0_0 (l0_0.length : Int) x15_1 (rd_LFace l0_0 x15_1) ((rd_LFace l0_0 x15_1).length : Int) (wrap64 (x22_2 + 1))) = some r := by rw [if_pos rfl] at H; exact H
      clear H
      have H := H1
      clear H1
      have H' := Aside0.mk H
      clear H
      have p110 : 0 ≤ (x22_2 : Int) := of_decide_eq_true (by first | (with_reducible assumption) | assumption)
      have q110 : x22_2 < ((rd_LFace l0_0 x15_1).length : Int) := of_decide_eq_true (by first | (with_reducible assumption) | assumption)
      obtain ⟨ad110, e110, hx110_0, hx110_1⟩ := at_Face HR109_0.out x22_2 p110 q110
      cases e110
      replace hx110_0 := (HB.out.cell (yny w _ hx110_0)).trans hx110_0
      replace hx110_1 := (HB.out.cell (yny w _ hx110_1)).trans hx110_1
      replace p110 := eq_true p110
      replace q110 := eq_true q110
      go_wp2_with (first | ((with_reducible refine gate_dst (N := 7) rfl ?_); refine box_event ?hg (N := 7) ?hd (cs := #[.int .i64 0, .int .i64 0]) (t := 56) ?hr ?_; (case hd => rfl); (case hg => rfl); (case hr => first | (go_simp; done) | (go_simp; rfl)); intro gb111 hg w16 hbox hb; have n0_ := Aside0.mk (Kd.R_below (by (with_reducible repeat (first | apply Kd.R_alloc | apply Kd.R_drewN | apply Kd.R_drew)); exact HO_3.out) hb); have n1_ := Aside0.mk (blk_below (g := gb101) (o := .cells #[.slice (some ad109) l0_0.length c0_0] 30 (0, 0)) (by (with_reducible repeat (first | refine blk_drewN ?_ _ | refine blk_drew ?_ | refine blk_alloc ?_ _)); exact BK101.out) hb); have n2_ := Aside0.mk (below_step (by repeat (first | (with_reducible first | exact HB.out | apply below_alloc | apply pw_below_drewN | apply below_drew1 | refine below_set ?_ GE101.out) | exact HB.out)) hb); have n3_ := Aside0.mk (hbox); have n4_ := Aside0.mk ((by rw [hg]; exact (below_size (by repeat (first | (with_reducible first | exact HB.out | apply below_alloc | apply pw_below_drewN | apply below_drew1 | refine below_set ?_ GE101.out) | exact HB.out))) : w.heap.size ≤ gb111)); have n5_ := Aside0.mk ((by rw [hg]; exact (below_size (by repeat (first | (with_reducible first | exact HB.out | apply below_alloc | apply pw_below_drewN | apply below_drew1 | refine below_set ?_ GE101.out) | exact HB.out))) : w.heap.size ≤ gb111)); have n6_ := Aside0.mk ((by rw [hg]; exact Nat.ne_of_lt (blk_lt (g := gb101) (o := .cells #[.slice (some ad109) l0_0.length c0_0] 30 (0, 0)) (by (with_reducible repeat (first | refine blk_drewN ?_ _ | refine blk_drew ?_ | refine blk_alloc ?_ _)); exact BK101.out)) : gb101 ≠ gb111)); have n7_ := Aside0.mk ((by rw [hg]; exact Nat.ne_of_gt (blk_lt (g := gb101) (o := .cells #[.slice (some ad109) l0_0.length c0_0] 30 (0, 0)) (by (with_reducible repeat (first | refine blk_drewN ?_ _ | refine blk_drew ?_ | refine blk_alloc ?_ _)); exact BK101.out)) : gb111 ≠ gb101)); clear HO_3; clear BK101; clear HB; have HO_3 := n0_; have BK101 := n1_; have HB := n2_; have BK111 := n3_; have GW111 := n4_; have GE111 := n5_; have NB101_111 := n6_; have NB111_101 := n7_; clear n0_ n1_ n2_ n3_ n4_ n5_ n6_ n7_; clear hb hbox hg; have hnb17 := NB111_101.out; have hnc17 := NB101_111.out; have hcz18_0 : w16.cell? ⟨gb111, 0, none⟩ = some (.int .i64 0) := (blk_cell BK111.out 0).trans rfl; have hcz18_1 : w16.cell? ⟨gb111, 1, none⟩ = some (.int .i64 0) := (blk_cell BK111.out 1).trans rfl; have hfz18_0 := blk_frozen BK111.out 0; have hfz18_1 := blk_frozen BK111.out 1) | ((with_reducible refine gate_callee (f := 40) rfl ?_); refine goesL_ (some 27) rfl rfl Try.func40 (by kernel_rfl) rfl #[.agg #[.int .i64 ((rd_Face (rd_LFace l0_0 x15_1) x22_2).f0), .int .i64 ((rd_Face (rd_LFace l0_0 x15_1) x22_2).f1)]] rfl (by (try simp only [yiy, yjy, yky]); first | done | rfl | (simp only [yly, ymy]; rfl)) ?_; (with_reducible refine (impl_Face_isBoundary.calls ((rd_Face (rd_LFace l0_0 x15_1) x22_2).f0) ((rd_Face (rd_LFace l0_0 x15_1) x22_2).f1) true _ A14.out).mono ?_); rintro e w19 ⟨rfl, hb⟩; refine ⟨_, rfl, ?_⟩; have n0_ := Aside0.mk (Kd.R_below (by (with_reducible repeat (first | apply Kd.R_alloc | apply Kd.R_drewN | apply Kd.R_drew)); exact (Kd.R_mono (Kd.R_far (p := ⟨gb111, 1, none⟩) (Kd.R_far (p := ⟨gb111, 0, none⟩) (Kd.R_types HO_3.out BK111.out (by decide)) (fun _ hk => hk.2) (.int .i64 ((rd_Face (rd_LFace l0_0 x15_1) x22_2).f0))) (fun _ hk => hk.2) (.int .i64 ((rd_Face (rd_LFace l0_0 x15_1) x22_2).f1))) (fun _ h_ => h_.1))) hb); have n1_ := Aside0.mk (blk_below (g := gb101) (o := .cells #[.slice (some ad109) l0_0.length c0_0] 30 (0, 0)) (by (with_reducible repeat (first | refine blk_drewN ?_ _ | refine blk_drew ?_ | refine blk_alloc ?_ _)); refine blk_far ?_ NB101_111.out _; (with_reducible repeat (first | refine blk_drewN ?_ _ | refine blk_drew ?_ | refine blk_alloc ?_ _)); refine blk_far ?_ NB101_111.out _; (with_reducible repeat (first | refine blk_drewN ?_ _ | refine blk_drew ?_ | refine blk_alloc ?_ _)); exact BK101.out) hb); have n2_ := Aside0.mk (blk_below (g := gb111) (o := .cells #[.int .i64 ((rd_Face (rd_LFace l0_0 x15_1) x22_2).f0), .int .i64 ((rd_Face (rd_LFace l0_0 x15_1) x22_2).f1)] 56 (0, 0)) (by (with_reducible repeat (first | refine blk_drewN ?_ _ | refine blk_drew ?_ | refine blk_alloc ?_ _)); refine blk_put (cs := #[.int .i64 ((rd_Face (rd_LFace l0_0 x15_1) x22_2).f0), .int .i64 0]) ?_ 1 _ rfl; (with_reducible repeat (first | refine blk_drewN ?_ _ | refine blk_drew ?_ | refine blk_alloc ?_ _)); refine blk_put (cs := #[.int .i64 0, .int .i64 0]) ?_ 0 _ rfl; (with_reducible repeat (first | refine blk_drewN ?_ _ | refine blk_drew ?_ | refine blk_alloc ?_ _)); exact BK111.out) hb); have n3_ := Aside0.mk (below_step (by repeat (first | (with_reducible first | exact HB.out | apply below_alloc | apply pw_below_drewN | apply below_drew1 | refine below_set ?_ GE101.out | refine below_set ?_ GE111.out) | exact HB.out)) hb); clear HO_3; clear BK101; clear BK111; clear HB; have HO_3 := n0_; have BK101 := n1_; have BK111 := n2_; have HB := n3_; clear n0_ n1_ n2_ n3_; (try clear hb); (try clear hb2); (try clear hk); (try clear hi)))
      go_roundg k2
      case measure => have := HK1.out; have := HK2.out; omega
      case rel => exact ⟨(x3_2), (wrap64 (x22_2 + 1)), (by first | rfl | (simp; done) | (simp [*]; done)), H', ⟨by have := HK1.out; have := HK2.out; omega⟩, ⟨by (with_reducible repeat (first | apply Kd.R_alloc | apply Kd.R_drewN | apply Kd.R_drew)); exact HO_3.out⟩, ⟨by (with_reducible repeat (first | refine blk_drewN ?_ _ | refine blk_drew ?_ | refine blk_alloc ?_ _)); exact BK101.out⟩, ⟨by repeat (first | (with_reducible first | exact HB.out | apply below_alloc | apply pw_below_drewN | apply below_drew1 | refine below_set ?_ GE101.out | refine below_set ?_ GE111.out) | exact HB.out)⟩⟩
     next =>
      replace c15 := Bool.eq_false_iff.mpr c15
      subst c15
      have H1 : ((impl_union.f x3_2 x15_1 ((rd_Face (rd_LFace l0_0 x15_1) x22_2).f0)).bind fun t113 => (impl_Triangulation_components.l1 k2 t113 x15_1 l0_0 (l0_0.length : Int) x15_1 (rd_LFace l0_0 x15_1) ((rd_LFace l0_0 x15_1).length : Int) (wrap64 (x22_2 + 1)))) = some r := by rw [if_neg (show ¬ (false = true) by decide)] at H; exact H
      clear H
      have H := H1
      clear H1
      replace H := ydy.mp H
      obtain ⟨t113, A200, H⟩ := H
      replace H : (impl_Triangulation_components.l1 k2 t113 x15_1 l0_0 (l0_0.length : Int) x15_1 (rd_LFace l0_0 x15_1) ((rd_LFace l0_0 x15_1).length : Int) (wrap64 (x22_2 + 1))) = some r := H
      have A20 := Aside0.mk A200
      clear A200
      have H' := Aside0.mk H
      clear H
      have p110 : 0 ≤ (x22_2 : Int) := of_decide_eq_true (by first | (with_reducible assumption) | assumption)
      have q110 : x22_2 < ((rd_LFace l0_0 x15_1).length : Int) := of_decide_eq_true (by first | (with_reducible assumption) | assumption)
      obtain ⟨ad110, e110, hx110_0, hx110_1⟩ := at_Face HR109_0.out x22_2 p110 q110
      cases e110
      replace hx110_0 := (HB.out.cell (yny w _ hx110_0)).trans hx110_0
      replace hx110_1 := (HB.out.cell (yny w _ hx110_1)).trans hx110_1
      replace p110 := eq_true p110
      replace q110 := eq_true q110
      go_wp2_with (first | ((with_reducible refine gate_dst (N := 7) rfl ?_); refine box_event ?hg (N := 7) ?hd (cs := #[.int .i64 0, .int .i64 0]) (t := 56) ?hr ?_; (case hd => rfl); (case hg => rfl); (case hr => first | (go_simp; done) | (go_simp; rfl)); intro gb111 hg w21 hbox hb; have n0_ := Aside0.mk (Kd.R_below (by (with_reducible repeat (first | apply Kd.R_alloc | apply Kd.R_drewN | apply Kd.R_drew)); exact HO_3.out) hb); have n1_ := Aside0.mk (blk_below (g := gb101) (o := .cells #[.slice (some ad109) l0_0.length c0_0] 30 (0, 0)) (by (with_reducible repeat (first | refine blk_drewN ?_ _ | refine blk_drew ?_ | refine blk_alloc ?_ _)); exact BK101.out) hb); have n2_ := Aside0.mk (below_step (by repeat (first | (with_reducible first | exact HB.out | apply below_alloc | apply pw_below_drewN | apply below_drew1 | refine below_set ?_ GE101.out) | exact HB.out)) hb); have n3_ := Aside0.mk (hbox); have n4_ := Aside0.mk ((by rw [hg]; exact (below_size (by repeat (first | (with_reducible first | exact HB.out | apply below_alloc | apply pw_below_drewN | apply below_drew1 | refine below_set ?_ GE101.out) | exact HB.out))) : w.heap.size ≤ gb111)); have n5_ := Aside0.mk ((by rw [hg]; exact (below_size (by repeat (first | (with_reducible first | exact HB.out | apply below_alloc | apply pw_below_drewN | apply below_drew1 | refine below_set ?_ GE101.out) | exact HB.out))) : w.heap.size ≤ gb111)); have n6_ := Aside0.mk ((by rw [hg]; exact Nat.ne_of_lt (blk_lt (g := gb101) (o := .cells #[.slice (some ad109) l0_0.length c0_0] 30 (0, 0)) (by (with_reducible repeat (first | refine blk_drewN ?_ _ | refine blk_drew ?_ | refine blk_alloc ?_ _)); exact BK101.out)) : gb101 ≠ gb111)); have n7_ := Aside0.mk ((by rw [hg]; exact Nat.ne_of_gt (blk_lt (g := gb101) (o := .cells #[.slice (some ad109) l0_0.length c0_0] 30 (0, 0)) (by (with_reducible repeat (first | refine blk_drewN ?_ _ | refine blk_drew ?_ | refine blk_alloc ?_ _)); exact BK101.out)) : gb111 ≠ gb101)); clear HO_3; clear BK101; clear HB; have HO_3 := n0_; have BK101 := n1_; have HB := n2_; have BK111 := n3_; have GW111 := n4_; have GE111 := n5_; have NB101_111 := n6_; have NB111_101 := n7_; clear n0_ n1_ n2_ n3_ n4_ n5_ n6_ n7_; clear hb hbox hg; have hnb22 := NB111_101.out; have hnc22 := NB101_111.out; have hcz23_0 : w21.cell? ⟨gb111, 0, none⟩ = some (.int .i64 0) := (blk_cell BK111.out 0).trans rfl; have hcz23_1 : w21.cell? ⟨gb111, 1, none⟩ = some (.int .i64 0) := (blk_cell BK111.out 1).trans rfl; have hfz23_0 := blk_frozen BK111.out 0; have hfz23_1 := blk_frozen BK111.out 1) | ((with_reducible refine gate_callee (f := 40) rfl ?_); refine goesL_ (some 27) rfl rfl Try.func40 (by kernel_rfl) rfl #[.agg #[.int .i64 ((rd_Face (rd_LFace l0_0 x15_1) x22_2).f0), .int .i64 ((rd_Face (rd_LFace l0_0 x15_1) x22_2).f1)]] rfl (by (try simp only [yiy, yjy, yky]); first | done | rfl | (simp only [yly, ymy]; rfl)) ?_; (with_reducible refine (impl_Face_isBoundary.calls ((rd_Face (rd_LFace l0_0 x15_1) x22_2).f0) ((rd_Face (rd_LFace l0_0 x15_1) x22_2).f1) false _ A14.out).mono ?_); rintro e w24 ⟨rfl, hb⟩; refine ⟨_, rfl, ?_⟩; have n0_ := Aside0.mk (Kd.R_below (by (with_reducible repeat (first | apply Kd.R_alloc | apply Kd.R_drewN | apply Kd.R_drew)); exact (Kd.R_mono (Kd.R_far (p := ⟨gb111, 1, none⟩) (Kd.R_far (p := ⟨gb111, 0, none⟩) (Kd.R_types HO_3.out BK111.out (by decide)) (fun _ hk => hk.2) (.int .i64 ((rd_Face (rd_LFace l0_0 x15_1) x22_2).f0))) (fun _ hk => hk.2) (.int .i64 ((rd_Face (rd_LFace l0_0 x15_1) x22_2).f1))) (fun _ h_ => h_.1))) hb); have n1_ := Aside0.mk (blk_below (g := gb101) (o := .cells #[.slice (some ad109) l0_0.length c0_0] 30 (0, 0)) (by (with_reducible repeat (first | refine blk_drewN ?_ _ | refine blk_drew ?_ | refine blk_alloc ?_ _)); refine blk_far ?_ NB101_111.out _; (with_reducible repeat (first | refine blk_drewN ?_ _ | refine blk_drew ?_ | refine blk_alloc ?_ _)); refine blk_far ?_ NB101_111.out _; (with_reducible repeat (first | refine blk_drewN ?_ _ | refine blk_drew ?_ | refine blk_alloc ?_ _)); exact BK101.out) hb); have n2_ := Aside0.mk (blk_below (g := gb111) (o := .cells #[.int .i64 ((rd_Face (rd_LFace l0_0 x15_1) x22_2).f0), .int .i64 ((rd_Face (rd_LFace l0_0 x15_1) x22_2).f1)] 56 (0, 0)) (by (with_reducible repeat (first | refine blk_drewN ?_ _ | refine blk_drew ?_ | refine blk_alloc ?_ _)); refine blk_put (cs := #[.int .i64 ((rd_Face (rd_LFace l0_0 x15_1) x22_2).f0), .int .i64 0]) ?_ 1 _ rfl; (with_reducible repeat (first | refine blk_drewN ?_ _ | refine blk_drew ?_ | refine blk_alloc ?_ _)); refine blk_put (cs := #[.int .i64 0, .int .i64 0]) ?_ 0 _ rfl; (with_reducible repeat (first | refine blk_drewN ?_ _ | refine blk_drew ?_ | refine blk_alloc ?_ _)); exact BK111.out) hb); have n3_ := Aside0.mk (below_step (by repeat (first | (with_reducible first | exact HB.out | apply below_alloc | apply pw_below_drewN | apply below_drew1 | refine below_set ?_ GE101.out | refine below_set ?_ GE111.out) | exact HB.out)) hb); clear HO_3; clear BK101; clear BK111; clear HB; have HO_3 := n0_; have BK101 := n1_; have BK111 := n2_; have HB := n3_; clear n0_ n1_ n2_ n3_; (try clear hb); (try clear hb2); (try clear hk); (try clear hi); have hcz25_0 : w24.cell? ⟨gb111, 0, none⟩ = some (.int .i64 ((rd_Face (rd_LFace l0_0 x15_1) x22_2).f0)) := (blk_cell BK111.out 0).trans rfl; have hcz25_1 : w24.cell? ⟨gb111, 1, none⟩ = some (.int .i64 ((rd_Face (rd_LFace l0_0 x15_1) x22_2).f1)) := (blk_cell BK111.out 1).trans rfl; have hfz25_0 := blk_frozen BK111.out 0; have hfz25_1 := blk_frozen BK111.out 1; obtain ⟨Ao26, co26, eo26⟩ := Kd.R_slice HO_3.out; subst eo26) | ((with_reducible refine gate_callee (f := 41) rfl ?_); refine goesL_ (some 33) rfl rfl Try.func41 (by kernel_rfl) rfl #[.slice Ao26 x3_2.length co26, .int .i64 x15_1, .int .i64 ((rd_Face (rd_LFace l0_0 x15_1) x22_2).f0)] rfl (by (try simp only [yiy, yjy, yky]); first | done | rfl | (simp only [yly, ymy]; rfl)) ?_; (with_reducible refine (impl_union.calls (fun k_ => some k_ = (.slice Ao26 x3_2.length co26 : Value).ownBlock) (.slice Ao26 x3_2.length co26) x3_2 x15_1 ((rd_Face (rd_LFace l0_0 x15_1) x22_2).f0) t113 w _ ?side1 ?side2 A20.out).mono ?_); (case side1 => repeat (first | (with_reducible first | exact HB.out | apply below_alloc | apply pw_below_drewN | apply below_drew1 | refine below_set ?_ GE101.out | refine below_set ?_ GE111.out) | exact HB.out)); (case side2 => exact Kd.R_tight rfl HO_3.out); rintro e w27 ⟨rfl, hy0, hb, hkp⟩; refine ⟨_, rfl, ?_⟩; have n0_ := Aside0.mk (Kd.R_reok rfl hy0 (fun k_ e_ => HO_3.out.1 k_ e_)); have n1_ := Aside0.mk (blk_kept (by (with_reducible repeat (first | refine blk_drewN ?_ _ | refine blk_drew ?_ | refine blk_alloc ?_ _)); exact BK101.out) hkp (fun hs_ => (fun e_ => (Kd.R_ne HO_3.out BK101.out (by decide)) e_) hs_)); have n2_ := Aside0.mk (blk_kept (by (with_reducible repeat (first | refine blk_drewN ?_ _ | refine blk_drew ?_ | refine blk_alloc ?_ _)); exact BK111.out) hkp (fun hs_ => (fun e_ => (Kd.R_ne HO_3.out BK111.out (by decide)) e_) hs_)); have n3_ := Aside0.mk (hb); clear HO_3; clear BK101; clear BK111; clear HB; have HO_3 := n0_; have BK101 := n1_; have BK111 := n2_; have HB := n3_; clear n0_ n1_ n2_ n3_; (try clear hb); (try clear hkp); (try clear hy0)))
      go_roundg k2
      case measure => have := HK1.out; have := HK2.out; omega
      case rel => exact ⟨(t113), (wrap64 (x22_2 + 1)), (by first | rfl | (simp; done) | (simp [*]; done)), H', ⟨by have := HK1.out; have := HK2.out; omega⟩, ⟨by (with_reducible repeat (first | apply Kd.R_alloc | apply Kd.R_drewN | apply Kd.R_drew)); exact HO_3.out⟩, ⟨by (with_reducible repeat (first | refine blk_drewN ?_ _ | refine blk_drew ?_ | refine blk_alloc ?_ _)); exact BK101.out⟩, ⟨by repeat (first | (with_reducible first | exact HB.out | apply below_alloc | apply pw_below_drewN | apply below_drew1 | refine below_set ?_ GE101.out | refine below_set ?_ GE111.out) | exact HB.out)⟩⟩
/-! slices.Max at []int64: the greatest element of a list that is not empty. -/
def slices_Max_Sint64.f (l0 : List Int) : Option Int := match l0 with
  | [] => none
  | x :: xs => some (xs.foldl mx x)
set_option maxHeartbeats 8000000 in
set_option maxRecDepth 100000 in
theorem slices_Max_Sint64.calls (A0 : Option Addr) (c0 : Nat) (l0 : List Int) (r : Int) (w : World) (hr0 : Kd.C (Kd.int .i64) w A0 l0.length l0) (hc0 : l0.length ≤ c0) (h : slices_Max_Sint64.f l0 = some r) :
    Calls Try.prog 38 #[.slice A0 l0.length c0] w fun e w' => e = .returned (.int .i64 r) ∧ Drawn0 w w' := by
  obtain ⟨x0, xs, rfl⟩ : ∃ x xs, l0 = x :: xs := by
    cases l0 with
    | nil => cases h
    | cons x xs => exact ⟨x, xs, rfl⟩
  have hr : xs.foldl mx x0 = r := yey h
  have hbig : (x0 :: xs).length ≤ 9223372036854775807 := hr0.2.1
  have HR := Aside0.mk hr0
  have HA : Aside0 (((x0 :: xs).drop 1).foldl mx x0 = r) := ⟨hr⟩
  obtain ⟨ad, e1, hx⟩ := Kd.at_int hr0 0 (by omega) (by simp)
  have hlen : 1 ≤ (x0 :: xs).length := by simp
  have ex : rd (x0 :: xs) 0 = x0 := by simp [rd]
  rw [ex] at hx
  replace hx : w.cell? ad = some (.int .i64 x0) := by have h2 := hx; rwa [show ad.add (Int.toNat 0) = ad from by cases ad; rfl] at h2
  clear hr h hr0 hc0 ex
  generalize x0 :: xs = l at *
  cases e1
  go_enter Try.func38, Try.ntmps38
  have b1 : decide ((l.length : Int) < 1) = false := yhy (by omega)
  go_wp2
  go_loopg [3, 4] l.length (fun gg v3 v4 w' => ∃ (i : Nat) (m : Int), 1 ≤ i ∧ i ≤ l.length ∧ l.length - i ≤ gg ∧ v3 = .int .i64 m ∧ v4 = .int .i64 i ∧ w' = w ∧ Aside0 ((l.drop i).foldl mx m = r))
  case atStart => exact ⟨1, x0, yoy _, hlen, by omega, rfl, rfl, rfl, HA⟩
  case round =>
    clear HA
    obtain ⟨i, m, h1, hi, hg, rfl, rfl, rfl, HA⟩ := hrel
    by_cases hlt : i < l.length
    · have hltz : (i : Int) < (l.length : Int) := by omega
      obtain ⟨ad2, e2, hy⟩ := Kd.at_int HR.out (i : Int) (by omega) hltz
      have ex : rd l (i : Int) = l[i] := by simp [rd, hlt]
      rw [ex, Int.toNat_natCast] at hy
      have HA2 := HA.out
      rw [List.drop_eq_getElem_cons hlt, List.foldl_cons] at HA2
      have HA3 := Aside0.mk HA2
      clear HA HA2 ex
      generalize l[i] = y at hy HA3
      cases e2
      by_cases hmy : m < y
      · have HA4 : Aside0 ((l.drop (i + 1)).foldl mx y = r) := ⟨by have q := HA3.out; rwa [show mx m y = y from by unfold mx; exact if_pos hmy] at q⟩
        clear HA3
        go_wp2
        go_roundg (l.length - (i + 1))
        case measure => omega
        case rel => exact ⟨i + 1, y, by omega, by omega, by omega, rfl, by go_num, rfl, HA4⟩
      · have HA4 : Aside0 ((l.drop (i + 1)).foldl mx m = r) := ⟨by have q := HA3.out; rwa [show mx m y = m from by unfold mx; exact if_neg hmy] at q⟩
        clear HA3
        have hmy2 : y ≤ m := by omega
        clear hmy
        go_wp2
        go_roundg (l.length - (i + 1))
        case measure => omega
        case rel => exact ⟨i + 1, m, by omega, by omega, by omega, rfl, by go_num, rfl, HA4⟩
    · obtain rfl : i = l.length := by omega
      have HA2 := HA.out
      rw [List.drop_length, List.foldl_nil] at HA2
      have HM := Aside0.mk HA2
      clear HA HA2
      go_wp2
      go_ret
      exact ⟨by rw [← HM.out]; rfl, 0, rfl⟩
/-! ### impl_classCount: function 18 -/
def impl_classCount.f (l0 : List Int) : Option (Int) := if (l0.length : Int) = 0 then (some 0) else ((slices_Max_Sint64.f l0).bind fun t101 => (some (wrap64 (t101 + 1))))
set_option maxHeartbeats 8000000 in
set_option maxRecDepth 100000 in
theorem impl_classCount.calls (A0 : Option Addr) (c0 : Nat) (l0 : List Int) (r : Int) (w : World) (hr0 : Kd.C (Kd.int .i64) w A0 l0.length l0) (hc0 : l0.length ≤ c0) (h : impl_classCount.f l0 = some r) :
    Calls Try.prog 18 #[.slice A0 l0.length c0] w fun e w' => e = .returned (.int .i64 r) ∧ Drawn0 w w' := by
  have HR0 := Aside0.mk hr0
  have HC0 := Aside0.mk hc0
  clear hr0 hc0
  have H : (if (l0.length : Int) = 0 then (some 0) else ((slices_Max_Sint64.f l0).bind fun t101 => (some (wrap64 (t101 + 1))))) = some r := h
  clear h
  by_cases c2 : (l0.length : Int) = 0
  · rw [if_pos c2] at H
    have c2b0 : ((l0.length : Int) == 0) = true := beq_iff_eq.mpr c2
    have c2b1 : ((l0.length : Int) != 0) = false := bne_eq_false_iff_eq.mpr c2
    clear c2
    obtain rfl := yey H
    go_enter Try.func18, Try.ntmps18
    go_wp2
    go_ret
    exact ⟨by first | rfl | (simp; done) | (simp [*]; done), by repeat (first | exact Drawn0.refl _ | apply Drawn0.step)⟩
  · rw [if_neg c2] at H
    have c2b0 : ((l0.length : Int) == 0) = false := beq_eq_false_iff_ne.mpr c2
    have c2b1 : ((l0.length : Int) != 0) = true := bne_iff_ne.mpr c2
    have c2b2 : ¬ (l0 = []) := fun h_ => c2 (by rw [h_]; rfl)
    replace H := ydy.mp H
    obtain ⟨t101, A30, H⟩ := H
    replace H : (some (wrap64 (t101 + 1))) = some r := H
    have A3 := Aside0.mk A30
    clear A30
    obtain rfl := yey H
    go_enter Try.func18, Try.ntmps18
    go_wp2_with (first | ((with_reducible refine gate_callee (f := 38) rfl ?_); refine goesL_ (some 7) rfl rfl Try.func38 (by kernel_rfl) rfl #[.slice A0 l0.length c0] rfl (by (try simp only [yiy, yjy, yky]); first | done | rfl | (simp only [yly, ymy]; rfl)) ?_; (with_reducible refine (slices_Max_Sint64.calls _ _ l0 t101 _ ?side1 ?side2 A3.out).mono ?_); (case side1 => repeat (first | exact HR0.out | (with_reducible refine Kd.C_alloc ?_ _) | (with_reducible refine Kd.C_drewN ?_ _) | (with_reducible refine Kd.C_drew ?_))); (case side2 => exact HC0.out); rintro e w' ⟨rfl, ⟨nd, rfl⟩⟩; refine ⟨_, rfl, ?_⟩))
    go_ret
    exact ⟨by first | rfl | (simp; done) | (simp [*]; done), by repeat (first | exact Drawn0.refl _ | apply Drawn0.step)⟩
theorem eqA56 (d : Nat) (w : World) (x0 y0 : Int) (x1 y1 : Int) :
    (Op.equalIn (d + 2) 56 (.agg #[.int .i64 x0, .int .i64 x1]) (.agg #[.int .i64 y0, .int .i64 y1])).run Try.prog w = .ok (x0 == y0 && (x1 == y1)) w := by
  refine eqA_of Try.underlying56 (by kernel_rfl) ?_
  refine eqf_cons (by rfl) (by go_simp; rfl) (by go_simp; rfl) (by go_simp) ?_
  exact eqf_last (by rfl) (by go_simp; rfl) (by go_simp; rfl) (by go_simp)
/-! slices.Delete at []int64, for one element of a row of the call's own: the shelf's contract, laid here, in the words of this seat. -/
def lDelete_ren : Go.Shelf.Ren := ⟨fun | 45 => 67 | n => n, fun | 22 => 41 | 23 => 2 | 3 => 3 | 4 => 4 | 0 => 0 | n => n, fun | n => n⟩
theorem lDelete : Go.Proofs.SlLaysN.n45 Try.prog lDelete_ren := {
  mixed := by kernel_rfl
  f45 := ⟨Try.f67.name, by decide, Try.func67.trans (congrArg some (by kernel_rfl))⟩
  t0 := Try.underlying0
  a0 := Try.isAgg0
  z0 := Try.sizeOf0
  v0 := Try.zeroValue0
  t3 := Try.underlying3
  a3 := Try.isAgg3
  z3 := Try.sizeOf3
  v3 := Try.zeroValue3
  t4 := Try.underlying4
  a4 := Try.isAgg4
  z4 := Try.sizeOf4
  v4 := Try.zeroValue4
  t22 := Try.underlying41
  a22 := Try.isAgg41
  z22 := Try.sizeOf41
  v22 := Try.zeroValue41
  t23 := Try.underlying2
  a23 := Try.isAgg2
  z23 := Try.sizeOf2
  v23 := Try.zeroValue2
  i23 := by kernel_rfl }
theorem erase_eq (xs : List Int) (i : Nat) : xs.take i ++ xs.drop (i + 1) = xs.eraseIdx i := (List.eraseIdx_eq_take_drop_succ xs i).symm
theorem slices_Delete_int64.calls1 (g cap i : Nat) (xs : List Int) (base : Nat) (ok : Nat → Prop) (w : World) (ho : Kd.R (Kd.int .i64) 2 w base ok (.slice (some ⟨g, 0, none⟩) xs.length cap) xs) (hi : i < xs.length) :
    Calls Try.prog 67 #[.slice (some ⟨g, 0, none⟩) xs.length cap, .int .i64 i, .int .i64 (i + 1)] w fun e w' => e = .returned (.slice (some ⟨g, 0, none⟩) (xs.length - 1) cap) ∧
      Kd.R (Kd.int .i64) 2 w' base ok (.slice (some ⟨g, 0, none⟩) (xs.length - 1) cap) (xs.eraseIdx i) ∧ w.grownBy w' (some g) := by
  have hown := Kd.own_of_R ho
  rcases hown.2 with ⟨hv, _⟩ | ⟨g', cap', cur, hv, hbase, hh, hle, hmax, hcs, htake⟩
  · cases hv
  injection hv with hv1 _ hv3
  injection hv1 with hv1
  injection hv1 with hv1 _ _
  subst hv1 hv3
  rw [Nat.mul_one] at hcs htake
  have hcell : ∀ j, j < xs.length → w.cell? ⟨g, 0 + j, none⟩ = some (.int .i64 xs[j]!) := by
    intro j hj
    rw [Nat.zero_add]
    have h1 : cur.toList[j]? = some (.int .i64 xs[j]!) := by
      have h2 : (cur.toList.take xs.length)[j]? = some (.int .i64 xs[j]!) := by
        rw [htake, encs, List.getElem?_map, List.getElem?_eq_getElem hj]
        simp [getElem!_pos, hj]
      rw [List.getElem?_take, if_pos hj] at h2
      exact h2
    rw [blk_cell hh j, ← Array.getElem?_toList, h1]
  have hH : Go.Sort.Holds (Value.int .i64) w g 0 xs.toArray := by
    intro j hj
    have hj' : j < xs.length := by simpa using hj
    refine ⟨?_, by rw [Nat.zero_add]; exact blk_frozen hh j⟩
    rw [hcell j hj']
    simp [getElem!_pos, hj']
  have hc := AnyG.slices_Delete_int lDelete g 0 cap i (i + 1) xs w hH hle (by unfold maxLen at hmax; omega) (by omega) (by omega)
  have hc2 : Calls Try.prog 67 #[.slice (some ⟨g, 0, none⟩) xs.length cap, .int .i64 (i : Nat), .int .i64 ((i + 1 : Nat) : Int)] w fun e w' => e = .returned (.slice (some ⟨g, 0, none⟩) (xs.length - (i + 1 - i)) cap) ∧ ∃ q, w' = Go.Sort.putRow (Value.int .i64) (Go.Sort.ahead w q) g 0 (xs.take i ++ xs.drop (i + 1) ++ List.replicate (i + 1 - i) 0).toArray := hc
  refine hc2.mono ?_
  rintro e w' ⟨rfl, q, rfl⟩
  have hlen : (xs.eraseIdx i).length = xs.length - 1 := by rw [List.length_eraseIdx]; simp [hi]
  have hd : xs.take i ++ xs.drop (i + 1) ++ List.replicate (i + 1 - i) 0 = xs.eraseIdx i ++ [0] := by
    rw [erase_eq, show i + 1 - i = 1 by omega]; rfl
  rw [hd, show i + 1 - i = 1 by omega]
  have hheap : (Go.Sort.putRow (Value.int .i64) (Go.Sort.ahead w q) g 0 (xs.eraseIdx i ++ [0]).toArray).heap[g]? = some (.cells (Go.Sort.putCells (Value.int .i64) 0 (xs.eraseIdx i ++ [0]).toArray cur) 2 (0, 0)) := by
    show (w.heap.modify g _)[g]? = _
    rw [Array.getElem?_modify, if_pos rfl, hh]
    rfl
  have hfar : ∀ k, k ≠ g → (Go.Sort.putRow (Value.int .i64) (Go.Sort.ahead w q) g 0 (xs.eraseIdx i ++ [0]).toArray).heap[k]? = w.heap[k]? := by
    intro k hk
    show (w.heap.modify g _)[k]? = _
    rw [Array.getElem?_modify, if_neg (Ne.symm hk)]
  refine ⟨rfl, ?_, ⟨rfl, rfl, rfl, ?_, fun k _ hk => hfar k (fun e => hk (by rw [e]))⟩⟩
  · have e1 : xs.length - 1 = (xs.eraseIdx i).length := hlen.symm
    rw [e1]
    refine Kd.R_of_own ⟨by simp [encs], .inr ⟨g, cap, _, rfl, hbase, hheap, by omega, hmax, by simp [Go.Sort.putCells, hcs], ?_⟩⟩ (fun k hk => ho.1 k hk)
    rw [Nat.mul_one]
    apply List.ext_getElem?
    intro j
    rw [List.getElem?_take]
    by_cases hj : j < (xs.eraseIdx i).length
    · rw [if_pos hj, Array.getElem?_toList, Go.Sort.putCells, Array.getElem?_mapIdx, Array.getElem?_eq_getElem (by omega), Option.map_some, if_pos ⟨by omega, by simp; omega⟩, Nat.sub_zero, encs, List.getElem?_map, List.getElem?_eq_getElem hj, Option.map_some]
      congr 2
      rw [List.getElem!_toArray, getElem!_pos _ j (by simp; omega), List.getElem_append_left hj]
    · rw [if_neg hj, List.getElem?_eq_none (by simp [encs]; omega)]
  · show w.heap.size ≤ (w.heap.modify g _).size
    rw [Array.size_modify]
    omega
/-! impl.perm: the images of the permutation with an index. -/
/-- The blocks by which the digits of an index are told. -/
def permB : Nat → Int
 | 0 => 6
 | 1 => 2
 | _ => 1
def permP (p : Int) : Nat → Int
 | 0 => p
 | i + 1 => permP p i % permB i
def permK (p : Int) (i : Nat) : Int := permP p i / permB i
def permLeft (p : Int) : Nat → List Int
 | 0 => [0, 1, 2, 3]
 | i + 1 => (permLeft p i).eraseIdx (permK p i).toNat
def permAt (p : Int) (i : Nat) : Int := (permLeft p i).getD (permK p i).toNat 0
/-- The images. -/
def permL (p : Int) : List Int := [permAt p 0, permAt p 1, permAt p 2, permAt p 3]
theorem permP_bd (p : Int) (h0 : 0 ≤ p) (h1 : p ≤ 23) : (0 ≤ permP p 0 ∧ permP p 0 ≤ 23) ∧ (0 ≤ permP p 1 ∧ permP p 1 ≤ 5) ∧ (0 ≤ permP p 2 ∧ permP p 2 ≤ 1) ∧ (0 ≤ permP p 3 ∧ permP p 3 ≤ 0) := by
 simp only [permP, permB]; omega
theorem permK_bd (p : Int) (h0 : 0 ≤ p) (h1 : p ≤ 23) : (0 ≤ permK p 0 ∧ permK p 0 < 4) ∧ (0 ≤ permK p 1 ∧ permK p 1 < 3) ∧ (0 ≤ permK p 2 ∧ permK p 2 < 2) ∧ (0 ≤ permK p 3 ∧ permK p 3 < 1) := by
 have := permP_bd p h0 h1
 simp only [permK, permB]; omega
theorem permLeft_len (p : Int) (h0 : 0 ≤ p) (h1 : p ≤ 23) : (permLeft p 0).length = 4 ∧ (permLeft p 1).length = 3 ∧ (permLeft p 2).length = 2 ∧ (permLeft p 3).length = 1 ∧ (permLeft p 4).length = 0 := by
 obtain ⟨a, b, c, d⟩ := permK_bd p h0 h1
 have e0 : (permLeft p 0).length = 4 := rfl
 have e1 : (permLeft p 1).length = 3 := by rw [permLeft, List.length_eraseIdx, e0, if_pos (by omega)]
 have e2 : (permLeft p 2).length = 2 := by rw [permLeft, List.length_eraseIdx, e1, if_pos (by omega)]
 have e3 : (permLeft p 3).length = 1 := by rw [permLeft, List.length_eraseIdx, e2, if_pos (by omega)]
 have e4 : (permLeft p 4).length = 0 := by rw [permLeft, List.length_eraseIdx, e3, if_pos (by omega)]
 exact ⟨e0, e1, e2, e3, e4⟩
theorem new_at {W : World} {n : Nat} (h : W.heap.size = n) (o : Obj) : (W.alloc o).heap[n]? = some o := h ▸ blk_new W o
/-- A value of the array after i rounds. -/
def permO (p : Int) (i j : Nat) : Int := if j < i then permAt p j else 0
set_option maxHeartbeats 8000000 in
set_option maxRecDepth 100000 in
theorem impl_perm.calls (p : Int) (w : World) (h0 : 0 ≤ p) (h1 : p ≤ 23) :
 Calls Try.prog 60 #[.int .i64 p] w fun e w' => e = .returned (.agg #[.int .i64 (permAt p 0), .int .i64 (permAt p 1), .int .i64 (permAt p 2), .int .i64 (permAt p 3)]) ∧ Below w.heap.size w w' := by
 have HP := Aside0.mk (permP_bd p h0 h1)
 have HK := Aside0.mk (permK_bd p h0 h1)
 have HL := Aside0.mk (permLeft_len p h0 h1)
 clear h0 h1
 go_enter Try.func60, Try.ntmps60
 go_wp2_with fail
 go_loopg [0, 4, 11] 4 (fun gg v0 v4 v11 w' => ∃ i : Nat, i ≤ 4 ∧ 4 - i ≤ gg ∧ v11 = .int .i64 i ∧ v0 = .int .i64 (permP p i) ∧ v4 = .slice (some ⟨w.heap.size + 1 + 1, 0, none⟩) (permLeft p i).length 4 ∧
  Aside0 (Kd.R (Kd.int .i64) 2 w' w.heap.size (fun k => k = w.heap.size + 1 + 1) (.slice (some ⟨w.heap.size + 1 + 1, 0, none⟩) (permLeft p i).length 4) (permLeft p i)) ∧
  Aside0 (w'.heap[w.heap.size + 1]? = some (.cells #[.int .i64 (permO p i 0), .int .i64 (permO p i 1), .int .i64 (permO p i 2), .int .i64 (permO p i 3)] 84 (0, 0))) ∧
  Aside0 (w'.heap[w.heap.size]? = some (.cells #[.int .i64 0, .int .i64 0, .int .i64 0, .int .i64 0] 84 (0, 0))) ∧
  Aside0 (w'.heap[w.heap.size + 1 + 1 + 1]? = some (.cells #[.int .i64 6, .int .i64 2, .int .i64 1, .int .i64 1] 2 (0, 0))) ∧ Aside0 (Below w.heap.size w w'))
 case atStart =>
  refine ⟨0, by omega, by omega, rfl, rfl, rfl, ⟨?_⟩, ⟨?_⟩, ⟨?_⟩, ⟨?_⟩, ⟨?_⟩⟩
  next =>
   refine Kd.R_of_own ⟨by simp [encs], .inr ⟨w.heap.size + 1 + 1, 4, #[.int .i64 0, .int .i64 1, .int .i64 2, .int .i64 3], rfl, by omega, ?_, yoy 4, by decide, rfl, rfl⟩⟩ (fun k hk => by simpa [Value.ownBlock] using hk.symm)
   exact blk_alloc (new_at (by simp) _) _
  next =>
   exact blk_alloc (blk_alloc (new_at (by simp) _) _) _
  next =>
   exact blk_alloc (blk_alloc (blk_alloc (new_at rfl _) _) _) _
  next =>
   exact new_at (by simp) _
  next =>
   exact below_alloc (below_alloc (below_alloc (below_alloc (ypy _ _) _) _) _) _
 case round =>
  obtain ⟨i, hi, hg, rfl, rfl, rfl, HR, B3, B2, B9, HB⟩ := hrel
  rcases (show i = 4 ∨ i = 3 ∨ i = 2 ∨ i = 1 ∨ i = 0 by omega) with rfl | rfl | rfl | rfl | rfl
  next =>
   have c0 : wr.cell? ⟨w.heap.size + 1, 0, none⟩ = some (.int .i64 (permO p 4 0)) := (blk_cell B3.out 0).trans rfl
   have c1 : wr.cell? ⟨w.heap.size + 1, 1, none⟩ = some (.int .i64 (permO p 4 1)) := (blk_cell B3.out 1).trans rfl
   have c2 : wr.cell? ⟨w.heap.size + 1, 2, none⟩ = some (.int .i64 (permO p 4 2)) := (blk_cell B3.out 2).trans rfl
   have c3 : wr.cell? ⟨w.heap.size + 1, 3, none⟩ = some (.int .i64 (permO p 4 3)) := (blk_cell B3.out 3).trans rfl
   have d0 : wr.cell? ⟨w.heap.size, 0, none⟩ = some (.int .i64 0) := (blk_cell B2.out 0).trans rfl
   have d1 : wr.cell? ⟨w.heap.size, 1, none⟩ = some (.int .i64 0) := (blk_cell B2.out 1).trans rfl
   have d2 : wr.cell? ⟨w.heap.size, 2, none⟩ = some (.int .i64 0) := (blk_cell B2.out 2).trans rfl
   have d3 : wr.cell? ⟨w.heap.size, 3, none⟩ = some (.int .i64 0) := (blk_cell B2.out 3).trans rfl
   have f0 := blk_frozen B2.out 0
   have f1 := blk_frozen B2.out 1
   have f2 := blk_frozen B2.out 2
   have f3 := blk_frozen B2.out 3
   have ht := Try.underlying84
   go_wp2
   refine bodyPost_ret (results_cell_row rfl _ _ w.heap.size 84 #[.int .i64 (permO p 4 0), .int .i64 (permO p 4 1), .int .i64 (permO p 4 2), .int .i64 (permO p 4 3)] (0, 0) _ rfl (blk_put (cs := #[.int .i64 (permO p 4 0), .int .i64 (permO p 4 1), .int .i64 (permO p 4 2), .int .i64 0]) (blk_put (cs := #[.int .i64 (permO p 4 0), .int .i64 (permO p 4 1), .int .i64 0, .int .i64 0]) (blk_put (cs := #[.int .i64 (permO p 4 0), .int .i64 0, .int .i64 0, .int .i64 0]) (blk_put B2.out 0 _ rfl) 1 _ rfl) 2 _ rfl) 3 _ rfl) ht rfl (by kernel_rfl)) rfl ⟨rfl, ?_⟩
   exact below_set (below_set (below_set (below_set HB.out (yoy _)) (yoy _)) (yoy _)) (yoy _)
  next =>
   have hK : 0 ≤ permK p 3 ∧ permK p 3 < (permLeft p 3).length := by have := HK.out; have := HL.out; omega
   have hP : 0 ≤ permP p 3 ∧ permP p 3 ≤ 23 := by have := HP.out; omega
   have HLN := Aside0.mk (show (permLeft p 3).length = 1 by have := HL.out; omega)
   have HLN2 := Aside0.mk (show (permLeft p 4).length = (permLeft p 3).length - 1 by have := HL.out; omega)
   obtain ⟨A1, q1, hA1, hq1, hC⟩ := Kd.R_reads HR.out
   injection hA1 with hA1 hl1 hc1
   subst hA1
   clear hl1 hc1 hq1
   obtain ⟨ad, had, hx⟩ := Kd.at_int hC (permK p 3) hK.1 (by omega)
   injection had with had
   subst had
   rw [add_plain] at hx
   have HAT := Aside0.mk (show rd (permLeft p 3) (permK p 3) = permAt p 3 from rfl)
   rw [HAT.out] at hx
   have HER := Aside0.mk (show (permLeft p 3).eraseIdx (permK p 3).toNat = permLeft p 4 from rfl)
   have hX : permK p 3 = permP p 3 := by have e : permK p 3 = permP p 3 / 1 := rfl; rw [e]; exact Int.ediv_one _
   have HY := Aside0.mk (show 0 = permP p 4 by have e : permP p 4 = permP p 3 % 1 := rfl; rw [e]; omega)
   rw [hX] at hx hK
   have HX := Aside0.mk hX
   clear hX hC
   obtain ⟨hk0, hk1⟩ := hK
   obtain ⟨hp0, hp1⟩ := hP
   have b9 : wr.cell? ⟨w.heap.size + 1 + 1 + 1, 3, none⟩ = some (.int .i64 1) := (blk_cell B9.out 3).trans rfl
   have b3 : wr.cell? ⟨w.heap.size + 1, 3, none⟩ = some (.int .i64 (permO p 3 3)) := (blk_cell B3.out 3).trans rfl
   have f3 := blk_frozen B3.out 3
   have hk2 : permP p 3 < 9223372036854775807 := by omega
   go_wp2_with fail
   have HRw := Aside0.mk (show Kd.R (Kd.int .i64) 2 (wr.setCell ⟨w.heap.size + 1, 3, none⟩ (.int .i64 (permAt p 3))) w.heap.size (fun k => k = w.heap.size + 1 + 1) (.slice (some ⟨w.heap.size + 1 + 1, 0, none⟩) (permLeft p 3).length 4) (permLeft p 3) from Kd.R_far (p := ⟨w.heap.size + 1, 3, none⟩) HR.out (fun k hk => by rw [hk]; show w.heap.size + 1 + 1 ≠ w.heap.size + 1; omega) _)
   refine calls_of_args (args' := #[.slice (some ⟨w.heap.size + 1 + 1, 0, none⟩) (permLeft p 3).length 4, .int .i64 ((permP p 3).toNat : Int), .int .i64 (((permP p 3).toNat : Int) + 1)]) (by rw [Int.toNat_of_nonneg hk0]) ?_
   refine (slices_Delete_int64.calls1 (w.heap.size + 1 + 1) 4 (permP p 3).toNat (permLeft p 3) w.heap.size (fun k => k = w.heap.size + 1 + 1) _ HRw.out (by omega)).mono ?_
   rintro e w1 ⟨rfl, hR1, hg1⟩
   have hl2 := HLN2.out
   have er : (permLeft p 3).eraseIdx (permP p 3).toNat = permLeft p 4 := by rw [← HER.out, HX.out]
   rw [er, ← hl2] at hR1
   rw [← hl2]
   have HR2 := Aside0.mk hR1
   have B3a : (wr.setCell ⟨w.heap.size + 1, 3, none⟩ (.int .i64 (permAt p 3))).heap[w.heap.size + 1]? = some (.cells #[.int .i64 (permO p 4 0), .int .i64 (permO p 4 1), .int .i64 (permO p 4 2), .int .i64 (permO p 4 3)] 84 (0, 0)) := blk_put B3.out 3 _ rfl
   have B3n := Aside0.mk (blk_grown B3a hg1 (by simp))
   have B2n := Aside0.mk (blk_grown (blk_far (p := ⟨w.heap.size + 1, 3, none⟩) B2.out (by show w.heap.size ≠ w.heap.size + 1; omega) (.int .i64 (permAt p 3))) hg1 (by simp; omega))
   have B9n := Aside0.mk (blk_grown (blk_far (p := ⟨w.heap.size + 1, 3, none⟩) B9.out (by show w.heap.size + 1 + 1 + 1 ≠ w.heap.size + 1; omega) (.int .i64 (permAt p 3))) hg1 (by simp))
   have HBn := Aside0.mk (pw_below_grown (below_set (j := 3) (v := .int .i64 (permAt p 3)) HB.out (show w.heap.size ≤ w.heap.size + 1 by omega)) (some (w.heap.size + 1 + 1)) (by have := HB.out.size; simp [World.setCell]; omega) hg1 (fun k hk => by injection hk with hk; omega))
   clear hR1 hg1 B3a HRw B3 B2 B9 HB HR er hl2 hx b9 b3 f3
   go_wp2
   go_roundg (4 - 4)
   case measure => omega
   case rel => exact ⟨4, by omega, by omega, by first | rfl | go_num, by rw [← HY.out], rfl, HR2, B3n, B2n, B9n, HBn⟩
  next =>
   have hK : 0 ≤ permK p 2 ∧ permK p 2 < (permLeft p 2).length := by have := HK.out; have := HL.out; omega
   have hP : 0 ≤ permP p 2 ∧ permP p 2 ≤ 23 := by have := HP.out; omega
   have HLN := Aside0.mk (show (permLeft p 2).length = 2 by have := HL.out; omega)
   have HLN2 := Aside0.mk (show (permLeft p 3).length = (permLeft p 2).length - 1 by have := HL.out; omega)
   obtain ⟨A1, q1, hA1, hq1, hC⟩ := Kd.R_reads HR.out
   injection hA1 with hA1 hl1 hc1
   subst hA1
   clear hl1 hc1 hq1
   obtain ⟨ad, had, hx⟩ := Kd.at_int hC (permK p 2) hK.1 (by omega)
   injection had with had
   subst had
   rw [add_plain] at hx
   have HAT := Aside0.mk (show rd (permLeft p 2) (permK p 2) = permAt p 2 from rfl)
   rw [HAT.out] at hx
   have HER := Aside0.mk (show (permLeft p 2).eraseIdx (permK p 2).toNat = permLeft p 3 from rfl)
   have hX : permK p 2 = permP p 2 := by have e : permK p 2 = permP p 2 / 1 := rfl; rw [e]; exact Int.ediv_one _
   have HY := Aside0.mk (show 0 = permP p 3 by have e : permP p 3 = permP p 2 % 1 := rfl; rw [e]; omega)
   rw [hX] at hx hK
   have HX := Aside0.mk hX
   clear hX hC
   obtain ⟨hk0, hk1⟩ := hK
   obtain ⟨hp0, hp1⟩ := hP
   have b9 : wr.cell? ⟨w.heap.size + 1 + 1 + 1, 2, none⟩ = some (.int .i64 1) := (blk_cell B9.out 2).trans rfl
   have b3 : wr.cell? ⟨w.heap.size + 1, 2, none⟩ = some (.int .i64 (permO p 2 2)) := (blk_cell B3.out 2).trans rfl
   have f3 := blk_frozen B3.out 2
   have hk2 : permP p 2 < 9223372036854775807 := by omega
   go_wp2_with fail
   have HRw := Aside0.mk (show Kd.R (Kd.int .i64) 2 (wr.setCell ⟨w.heap.size + 1, 2, none⟩ (.int .i64 (permAt p 2))) w.heap.size (fun k => k = w.heap.size + 1 + 1) (.slice (some ⟨w.heap.size + 1 + 1, 0, none⟩) (permLeft p 2).length 4) (permLeft p 2) from Kd.R_far (p := ⟨w.heap.size + 1, 2, none⟩) HR.out (fun k hk => by rw [hk]; show w.heap.size + 1 + 1 ≠ w.heap.size + 1; omega) _)
   refine calls_of_args (args' := #[.slice (some ⟨w.heap.size + 1 + 1, 0, none⟩) (permLeft p 2).length 4, .int .i64 ((permP p 2).toNat : Int), .int .i64 (((permP p 2).toNat : Int) + 1)]) (by rw [Int.toNat_of_nonneg hk0]) ?_
   refine (slices_Delete_int64.calls1 (w.heap.size + 1 + 1) 4 (permP p 2).toNat (permLeft p 2) w.heap.size (fun k => k = w.heap.size + 1 + 1) _ HRw.out (by omega)).mono ?_
   rintro e w1 ⟨rfl, hR1, hg1⟩
   have hl2 := HLN2.out
   have er : (permLeft p 2).eraseIdx (permP p 2).toNat = permLeft p 3 := by rw [← HER.out, HX.out]
   rw [er, ← hl2] at hR1
   rw [← hl2]
   have HR2 := Aside0.mk hR1
   have B3a : (wr.setCell ⟨w.heap.size + 1, 2, none⟩ (.int .i64 (permAt p 2))).heap[w.heap.size + 1]? = some (.cells #[.int .i64 (permO p 3 0), .int .i64 (permO p 3 1), .int .i64 (permO p 3 2), .int .i64 (permO p 3 3)] 84 (0, 0)) := blk_put B3.out 2 _ rfl
   have B3n := Aside0.mk (blk_grown B3a hg1 (by simp))
   have B2n := Aside0.mk (blk_grown (blk_far (p := ⟨w.heap.size + 1, 2, none⟩) B2.out (by show w.heap.size ≠ w.heap.size + 1; omega) (.int .i64 (permAt p 2))) hg1 (by simp; omega))
   have B9n := Aside0.mk (blk_grown (blk_far (p := ⟨w.heap.size + 1, 2, none⟩) B9.out (by show w.heap.size + 1 + 1 + 1 ≠ w.heap.size + 1; omega) (.int .i64 (permAt p 2))) hg1 (by simp))
   have HBn := Aside0.mk (pw_below_grown (below_set (j := 2) (v := .int .i64 (permAt p 2)) HB.out (show w.heap.size ≤ w.heap.size + 1 by omega)) (some (w.heap.size + 1 + 1)) (by have := HB.out.size; simp [World.setCell]; omega) hg1 (fun k hk => by injection hk with hk; omega))
   clear hR1 hg1 B3a HRw B3 B2 B9 HB HR er hl2 hx b9 b3 f3
   go_wp2
   go_roundg (4 - 3)
   case measure => omega
   case rel => exact ⟨3, by omega, by omega, by first | rfl | go_num, by rw [← HY.out], rfl, HR2, B3n, B2n, B9n, HBn⟩
  next =>
   have hK : 0 ≤ permK p 1 ∧ permK p 1 < (permLeft p 1).length := by have := HK.out; have := HL.out; omega
   have hP : 0 ≤ permP p 1 ∧ permP p 1 ≤ 23 := by have := HP.out; omega
   have HLN := Aside0.mk (show (permLeft p 1).length = 3 by have := HL.out; omega)
   have HLN2 := Aside0.mk (show (permLeft p 2).length = (permLeft p 1).length - 1 by have := HL.out; omega)
   obtain ⟨A1, q1, hA1, hq1, hC⟩ := Kd.R_reads HR.out
   injection hA1 with hA1 hl1 hc1
   subst hA1
   clear hl1 hc1 hq1
   obtain ⟨ad, had, hx⟩ := Kd.at_int hC (permK p 1) hK.1 (by omega)
   injection had with had
   subst had
   rw [add_plain] at hx
   have HAT := Aside0.mk (show rd (permLeft p 1) (permK p 1) = permAt p 1 from rfl)
   rw [HAT.out] at hx
   have HER := Aside0.mk (show (permLeft p 1).eraseIdx (permK p 1).toNat = permLeft p 2 from rfl)
   have hX : permK p 1 = permP p 1 / 2 := by have e : permK p 1 = permP p 1 / 2 := rfl; rw [e]
   have HY := Aside0.mk (show permP p 1 % 2 = permP p 2 by have e : permP p 2 = permP p 1 % 2 := rfl; rw [e])
   rw [hX] at hx hK
   have HX := Aside0.mk hX
   clear hX hC
   obtain ⟨hk0, hk1⟩ := hK
   obtain ⟨hp0, hp1⟩ := hP
   have b9 : wr.cell? ⟨w.heap.size + 1 + 1 + 1, 1, none⟩ = some (.int .i64 2) := (blk_cell B9.out 1).trans rfl
   have b3 : wr.cell? ⟨w.heap.size + 1, 1, none⟩ = some (.int .i64 (permO p 1 1)) := (blk_cell B3.out 1).trans rfl
   have f3 := blk_frozen B3.out 1
   have hk2 : permP p 1 / 2 < 9223372036854775807 := by omega
   go_wp2_with fail
   have HRw := Aside0.mk (show Kd.R (Kd.int .i64) 2 (wr.setCell ⟨w.heap.size + 1, 1, none⟩ (.int .i64 (permAt p 1))) w.heap.size (fun k => k = w.heap.size + 1 + 1) (.slice (some ⟨w.heap.size + 1 + 1, 0, none⟩) (permLeft p 1).length 4) (permLeft p 1) from Kd.R_far (p := ⟨w.heap.size + 1, 1, none⟩) HR.out (fun k hk => by rw [hk]; show w.heap.size + 1 + 1 ≠ w.heap.size + 1; omega) _)
   refine calls_of_args (args' := #[.slice (some ⟨w.heap.size + 1 + 1, 0, none⟩) (permLeft p 1).length 4, .int .i64 ((permP p 1 / 2).toNat : Int), .int .i64 (((permP p 1 / 2).toNat : Int) + 1)]) (by rw [Int.toNat_of_nonneg hk0]) ?_
   refine (slices_Delete_int64.calls1 (w.heap.size + 1 + 1) 4 (permP p 1 / 2).toNat (permLeft p 1) w.heap.size (fun k => k = w.heap.size + 1 + 1) _ HRw.out (by omega)).mono ?_
   rintro e w1 ⟨rfl, hR1, hg1⟩
   have hl2 := HLN2.out
   have er : (permLeft p 1).eraseIdx (permP p 1 / 2).toNat = permLeft p 2 := by rw [← HER.out, HX.out]
   rw [er, ← hl2] at hR1
   rw [← hl2]
   have HR2 := Aside0.mk hR1
   have B3a : (wr.setCell ⟨w.heap.size + 1, 1, none⟩ (.int .i64 (permAt p 1))).heap[w.heap.size + 1]? = some (.cells #[.int .i64 (permO p 2 0), .int .i64 (permO p 2 1), .int .i64 (permO p 2 2), .int .i64 (permO p 2 3)] 84 (0, 0)) := blk_put B3.out 1 _ rfl
   have B3n := Aside0.mk (blk_grown B3a hg1 (by simp))
   have B2n := Aside0.mk (blk_grown (blk_far (p := ⟨w.heap.size + 1, 1, none⟩) B2.out (by show w.heap.size ≠ w.heap.size + 1; omega) (.int .i64 (permAt p 1))) hg1 (by simp; omega))
   have B9n := Aside0.mk (blk_grown (blk_far (p := ⟨w.heap.size + 1, 1, none⟩) B9.out (by show w.heap.size + 1 + 1 + 1 ≠ w.heap.size + 1; omega) (.int .i64 (permAt p 1))) hg1 (by simp))
   have HBn := Aside0.mk (pw_below_grown (below_set (j := 1) (v := .int .i64 (permAt p 1)) HB.out (show w.heap.size ≤ w.heap.size + 1 by omega)) (some (w.heap.size + 1 + 1)) (by have := HB.out.size; simp [World.setCell]; omega) hg1 (fun k hk => by injection hk with hk; omega))
   clear hR1 hg1 B3a HRw B3 B2 B9 HB HR er hl2 hx b9 b3 f3
   go_wp2
   go_roundg (4 - 2)
   case measure => omega
   case rel => exact ⟨2, by omega, by omega, by first | rfl | go_num, by rw [← HY.out], rfl, HR2, B3n, B2n, B9n, HBn⟩
  next =>
   have hK : 0 ≤ permK p 0 ∧ permK p 0 < (permLeft p 0).length := by have := HK.out; have := HL.out; omega
   have hP : 0 ≤ permP p 0 ∧ permP p 0 ≤ 23 := by have := HP.out; omega
   have HLN := Aside0.mk (show (permLeft p 0).length = 4 by have := HL.out; omega)
   have HLN2 := Aside0.mk (show (permLeft p 1).length = (permLeft p 0).length - 1 by have := HL.out; omega)
   obtain ⟨A1, q1, hA1, hq1, hC⟩ := Kd.R_reads HR.out
   injection hA1 with hA1 hl1 hc1
   subst hA1
   clear hl1 hc1 hq1
   obtain ⟨ad, had, hx⟩ := Kd.at_int hC (permK p 0) hK.1 (by omega)
   injection had with had
   subst had
   rw [add_plain] at hx
   have HAT := Aside0.mk (show rd (permLeft p 0) (permK p 0) = permAt p 0 from rfl)
   rw [HAT.out] at hx
   have HER := Aside0.mk (show (permLeft p 0).eraseIdx (permK p 0).toNat = permLeft p 1 from rfl)
   have hX : permK p 0 = permP p 0 / 6 := by have e : permK p 0 = permP p 0 / 6 := rfl; rw [e]
   have HY := Aside0.mk (show permP p 0 % 6 = permP p 1 by have e : permP p 1 = permP p 0 % 6 := rfl; rw [e])
   rw [hX] at hx hK
   have HX := Aside0.mk hX
   clear hX hC
   obtain ⟨hk0, hk1⟩ := hK
   obtain ⟨hp0, hp1⟩ := hP
   have b9 : wr.cell? ⟨w.heap.size + 1 + 1 + 1, 0, none⟩ = some (.int .i64 6) := (blk_cell B9.out 0).trans rfl
   have b3 : wr.cell? ⟨w.heap.size + 1, 0, none⟩ = some (.int .i64 (permO p 0 0)) := (blk_cell B3.out 0).trans rfl
   have f3 := blk_frozen B3.out 0
   have hk2 : permP p 0 / 6 < 9223372036854775807 := by omega
   go_wp2_with fail
   have HRw := Aside0.mk (show Kd.R (Kd.int .i64) 2 (wr.setCell ⟨w.heap.size + 1, 0, none⟩ (.int .i64 (permAt p 0))) w.heap.size (fun k => k = w.heap.size + 1 + 1) (.slice (some ⟨w.heap.size + 1 + 1, 0, none⟩) (permLeft p 0).length 4) (permLeft p 0) from Kd.R_far (p := ⟨w.heap.size + 1, 0, none⟩) HR.out (fun k hk => by rw [hk]; show w.heap.size + 1 + 1 ≠ w.heap.size + 1; omega) _)
   refine calls_of_args (args' := #[.slice (some ⟨w.heap.size + 1 + 1, 0, none⟩) (permLeft p 0).length 4, .int .i64 ((permP p 0 / 6).toNat : Int), .int .i64 (((permP p 0 / 6).toNat : Int) + 1)]) (by rw [Int.toNat_of_nonneg hk0]) ?_
   refine (slices_Delete_int64.calls1 (w.heap.size + 1 + 1) 4 (permP p 0 / 6).toNat (permLeft p 0) w.heap.size (fun k => k = w.heap.size + 1 + 1) _ HRw.out (by omega)).mono ?_
   rintro e w1 ⟨rfl, hR1, hg1⟩
   have hl2 := HLN2.out
   have er : (permLeft p 0).eraseIdx (permP p 0 / 6).toNat = permLeft p 1 := by rw [← HER.out, HX.out]
   rw [er, ← hl2] at hR1
   rw [← hl2]
   have HR2 := Aside0.mk hR1
   have B3a : (wr.setCell ⟨w.heap.size + 1, 0, none⟩ (.int .i64 (permAt p 0))).heap[w.heap.size + 1]? = some (.cells #[.int .i64 (permO p 1 0), .int .i64 (permO p 1 1), .int .i64 (permO p 1 2), .int .i64 (permO p 1 3)] 84 (0, 0)) := blk_put B3.out 0 _ rfl
   have B3n := Aside0.mk (blk_grown B3a hg1 (by simp))
   have B2n := Aside0.mk (blk_grown (blk_far (p := ⟨w.heap.size + 1, 0, none⟩) B2.out (by show w.heap.size ≠ w.heap.size + 1; omega) (.int .i64 (permAt p 0))) hg1 (by simp; omega))
   have B9n := Aside0.mk (blk_grown (blk_far (p := ⟨w.heap.size + 1, 0, none⟩) B9.out (by show w.heap.size + 1 + 1 + 1 ≠ w.heap.size + 1; omega) (.int .i64 (permAt p 0))) hg1 (by simp))
   have HBn := Aside0.mk (pw_below_grown (below_set (j := 0) (v := .int .i64 (permAt p 0)) HB.out (show w.heap.size ≤ w.heap.size + 1 by omega)) (some (w.heap.size + 1 + 1)) (by have := HB.out.size; simp [World.setCell]; omega) hg1 (fun k hk => by injection hk with hk; omega))
   clear hR1 hg1 B3a HRw B3 B2 B9 HB HR er hl2 hx b9 b3 f3
   go_wp2
   go_roundg (4 - 1)
   case measure => omega
   case rel => exact ⟨1, by omega, by omega, by first | rfl | go_num, by rw [← HY.out], rfl, HR2, B3n, B2n, B9n, HBn⟩
/-! Arrays of four numbers. -/
theorem arr_index (a b c d : Int) (f : Int) (h0 : 0 ≤ f) (h1 : f ≤ 3) : ∀ w : World, (Instr.index 84 (.agg #[.int .i64 a, .int .i64 b, .int .i64 c, .int .i64 d]) (.int .i64 f)).run Try.prog w = .ok (.int .i64 (rd [a, b, c, d] f)) w := by
  intro w
  rcases (show f = 0 ∨ f = 1 ∨ f = 2 ∨ f = 3 by omega) with rfl | rfl | rfl | rfl
  · kernel_rfl
  · kernel_rfl
  · kernel_rfl
  · kernel_rfl
theorem arr_cell {w : World} {g : Nat} {T : TypeId} {a b c d : Int} (h : w.heap[g]? = some (.cells #[.int .i64 a, .int .i64 b, .int .i64 c, .int .i64 d] T (0, 0))) (f : Int) (h0 : 0 ≤ f) (h1 : f ≤ 3) : w.cell? ⟨g, f.toNat, none⟩ = some (.int .i64 (rd [a, b, c, d] f)) := by
  rw [blk_cell h]
  rcases (show f = 0 ∨ f = 1 ∨ f = 2 ∨ f = 3 by omega) with rfl | rfl | rfl | rfl <;> rfl
theorem arr_put {w : World} {g : Nat} {T : TypeId} {a b c d : Int} (h : w.heap[g]? = some (.cells #[.int .i64 a, .int .i64 b, .int .i64 c, .int .i64 d] T (0, 0))) (f v : Int) (h0 : 0 ≤ f) (h1 : f ≤ 3) :
    (w.setCell ⟨g, f.toNat, none⟩ (.int .i64 v)).heap[g]? = some (.cells #[.int .i64 (rd ([a, b, c, d].set f.toNat v) 0), .int .i64 (rd ([a, b, c, d].set f.toNat v) 1), .int .i64 (rd ([a, b, c, d].set f.toNat v) 2), .int .i64 (rd ([a, b, c, d].set f.toNat v) 3)] T (0, 0)) := by
  rcases (show f = 0 ∨ f = 1 ∨ f = 2 ∨ f = 3 by omega) with rfl | rfl | rfl | rfl
  · exact blk_put h 0 _ rfl
  · exact blk_put h 1 _ rfl
  · exact blk_put h 2 _ rfl
  · exact blk_put h 3 _ rfl
theorem new_at4 {W : World} {n : Nat} (h : W.heap.size = n) (o : Obj) : (W.alloc o).heap[n]? = some o := h ▸ blk_new W o
/-- A list of four numbers, written out. -/
theorem four_eq {l : List Int} (h : l.length = 4) : l = [rd l 0, rd l 1, rd l 2, rd l 3] := by
  match l, h with
  | [a, b, c, d], _ => rfl
/-! indexOf: the index of a permutation with given images. -/
/-- The element at i, less one for each of the first j that is smaller. -/
def lessAt (l : List Int) (i : Nat) : Nat → Int
  | 0 => rd l i
  | j + 1 => if rd l j < rd l i then lessAt l i j - 1 else lessAt l i j
def idxAt (l : List Int) : Nat → Int
  | 0 => 0
  | i + 1 => idxAt l i + lessAt l i i * permB i
def idxL (l : List Int) : Int := idxAt l 4
def sm (x : Int) : Prop := 0 ≤ x ∧ x ≤ 3
theorem lessAt_bd (l : List Int) (i : Nat) (h : sm (rd l i)) : ∀ j : Nat, -(j : Int) ≤ lessAt l i j ∧ lessAt l i j ≤ 3
  | 0 => by have := h.1; have := h.2; unfold lessAt; omega
  | j + 1 => by
    have := lessAt_bd l i h j
    unfold lessAt
    split <;> omega
set_option maxHeartbeats 8000000 in
set_option maxRecDepth 100000 in
theorem impl_indexOf.calls (a b c d : Int) (w : World) (ha : sm a) (hb : sm b) (hc : sm c) (hd : sm d) :
    Calls Try.prog 68 #[.agg #[.int .i64 a, .int .i64 b, .int .i64 c, .int .i64 d]] w fun e w' => e = .returned (.int .i64 (idxL [a, b, c, d])) ∧ Below w.heap.size w w' := by
  have hl0 : sm (rd [a, b, c, d] (0 : Nat)) := ha
  have hl1 : sm (rd [a, b, c, d] (1 : Nat)) := hb
  have hl2 : sm (rd [a, b, c, d] (2 : Nat)) := hc
  have hl3 : sm (rd [a, b, c, d] (3 : Nat)) := hd
  have HL := Aside0.mk (And.intro (lessAt_bd _ 0 hl0) (And.intro (lessAt_bd _ 1 hl1) (And.intro (lessAt_bd _ 2 hl2) (lessAt_bd _ 3 hl3))))
  have HS := Aside0.mk (And.intro hl0 (And.intro hl1 (And.intro hl2 hl3)))
  clear ha hb hc hd hl0 hl1 hl2 hl3
  generalize hl : [a, b, c, d] = l at HL HS ⊢
  have HLL := Aside0.mk hl
  clear hl
  go_enter Try.func68, Try.ntmps68
  go_wp2_with fail
  go_loopg [3, 11] 4 (fun gg v3 v11 w' => ∃ i : Nat, i ≤ 4 ∧ 4 - i ≤ gg ∧ v11 = .int .i64 i ∧ v3 = .int .i64 (idxAt l i) ∧ Aside0 (-24 * (i : Int) ≤ idxAt l i ∧ idxAt l i ≤ 24 * i) ∧
    Aside0 (w'.heap[w.heap.size]? = some (.cells #[.int .i64 a, .int .i64 b, .int .i64 c, .int .i64 d] 84 (0, 0))) ∧
    Aside0 (w'.heap[w.heap.size + 1]? = some (.cells #[.int .i64 6, .int .i64 2, .int .i64 1, .int .i64 1] 2 (0, 0))) ∧ Aside0 (Below w.heap.size w w'))
  case atStart =>
    refine ⟨0, by omega, by omega, rfl, rfl, ⟨by simp [idxAt]⟩, ⟨?_⟩, ⟨?_⟩, ⟨?_⟩⟩
    · exact blk_alloc (new_at4 rfl _) _
    · exact new_at4 (by simp) _
    · exact below_alloc (below_alloc (ypy _ _) _) _
  case round =>
    obtain ⟨i, hi, hg, rfl, rfl, HI, B1, B9, HB⟩ := hrel
    rcases (show i = 4 ∨ i = 3 ∨ i = 2 ∨ i = 1 ∨ i = 0 by omega) with rfl | rfl | rfl | rfl | rfl
    · go_wp2
      go_ret
      exact ⟨rfl, HB.out⟩
    · have b9 : wr.cell? ⟨w.heap.size + 1, 3, none⟩ = some (.int .i64 1) := (blk_cell B9.out 3).trans rfl
      have b1 : wr.cell? ⟨w.heap.size, 3, none⟩ = some (.int .i64 (rd l (3 : Nat))) := (blk_cell B1.out 3).trans (by rw [← HLL.out]; rfl)
      have hx : sm (rd l (3 : Nat)) := by have := HS.out; exact this.2.2.2
      have HD := Aside0.mk (show ∀ j : Nat, lessAt l 3 (j + 1) = if rd l (j : Nat) < rd l (3 : Nat) then lessAt l 3 j - 1 else lessAt l 3 j from fun _ => rfl)
      have HD0 := Aside0.mk (show rd l (3 : Nat) = lessAt l 3 0 from rfl)
      generalize rd l (3 : Nat) = xi at b1 HD HD0 hx
      go_wp2_with fail
      go_loopg [6, 22] 3 (fun gg v6 v22 w' => ∃ j : Nat, j ≤ 3 ∧ 3 - j ≤ gg ∧ v22 = .int .i64 j ∧ v6 = .int .i64 (lessAt l 3 j) ∧ w' = wr)
      case atStart => exact ⟨0, by omega, by omega, rfl, by rw [HD0.out], rfl⟩
      case round =>
        obtain ⟨j, hj, hg2, rfl, rfl, rfl⟩ := hrel
        by_cases hlt : j < 3
        · have hltz : (j : Int) < 3 := by omega
          have bj : wr.cell? ⟨w.heap.size, j, none⟩ = some (.int .i64 (rd l (j : Nat))) := by
            have := arr_cell B1.out (j : Int) (by omega) (by omega)
            rw [HLL.out, Int.toNat_natCast] at this
            exact this
          have hbd := (HL.out.2.2.2 j)
          obtain ⟨hbd1, hbd2⟩ := hbd
          have HN := Aside0.mk (HD.out j)
          generalize lessAt l 3 j = lv at HN hbd1 hbd2 ⊢
          generalize rd l (j : Nat) = xj at bj HN
          by_cases hless : xj < xi
          · have hd1 : decide (xj < xi) = true := ygy hless
            go_wp2
            go_roundg (3 - (j + 1))
            case measure => omega
            case rel => exact ⟨j + 1, by omega, by omega, by go_num, by rw [HN.out, if_pos hless], rfl⟩
          · have hd1 : decide (xj < xi) = false := yhy hless
            go_wp2
            go_roundg (3 - (j + 1))
            case measure => omega
            case rel => exact ⟨j + 1, by omega, by omega, by go_num, by rw [HN.out, if_neg (by omega)], rfl⟩
        · have hltz : ¬ (j : Int) < 3 := by omega
          obtain rfl : j = 3 := by omega
          have hbd := (HL.out.2.2.2 3)
          obtain ⟨hbd1, hbd2⟩ := hbd
          obtain ⟨hi1, hi2⟩ := HI.out
          have HN := Aside0.mk (show idxAt l 4 = idxAt l 3 + lessAt l 3 3 * 1 from rfl)
          generalize lessAt l 3 3 = lv at HN hbd1 hbd2 ⊢
          generalize idxAt l 3 = iv at HN hi1 hi2 ⊢
          go_wp2
          go_roundg (4 - 4)
          case measure => omega
          case rel => exact ⟨4, by omega, by omega, by first | rfl | go_num, by rw [HN.out]; rw [Int.mul_one], ⟨by rw [HN.out]; omega⟩, B1, B9, HB⟩
    · have b9 : wr.cell? ⟨w.heap.size + 1, 2, none⟩ = some (.int .i64 1) := (blk_cell B9.out 2).trans rfl
      have b1 : wr.cell? ⟨w.heap.size, 2, none⟩ = some (.int .i64 (rd l (2 : Nat))) := (blk_cell B1.out 2).trans (by rw [← HLL.out]; rfl)
      have hx : sm (rd l (2 : Nat)) := by have := HS.out; exact this.2.2.1
      have HD := Aside0.mk (show ∀ j : Nat, lessAt l 2 (j + 1) = if rd l (j : Nat) < rd l (2 : Nat) then lessAt l 2 j - 1 else lessAt l 2 j from fun _ => rfl)
      have HD0 := Aside0.mk (show rd l (2 : Nat) = lessAt l 2 0 from rfl)
      generalize rd l (2 : Nat) = xi at b1 HD HD0 hx
      go_wp2_with fail
      go_loopg [6, 22] 2 (fun gg v6 v22 w' => ∃ j : Nat, j ≤ 2 ∧ 2 - j ≤ gg ∧ v22 = .int .i64 j ∧ v6 = .int .i64 (lessAt l 2 j) ∧ w' = wr)
      case atStart => exact ⟨0, by omega, by omega, rfl, by rw [HD0.out], rfl⟩
      case round =>
        obtain ⟨j, hj, hg2, rfl, rfl, rfl⟩ := hrel
        by_cases hlt : j < 2
        · have hltz : (j : Int) < 2 := by omega
          have bj : wr.cell? ⟨w.heap.size, j, none⟩ = some (.int .i64 (rd l (j : Nat))) := by
            have := arr_cell B1.out (j : Int) (by omega) (by omega)
            rw [HLL.out, Int.toNat_natCast] at this
            exact this
          have hbd := (HL.out.2.2.1 j)
          obtain ⟨hbd1, hbd2⟩ := hbd
          have HN := Aside0.mk (HD.out j)
          generalize lessAt l 2 j = lv at HN hbd1 hbd2 ⊢
          generalize rd l (j : Nat) = xj at bj HN
          by_cases hless : xj < xi
          · have hd1 : decide (xj < xi) = true := ygy hless
            go_wp2
            go_roundg (2 - (j + 1))
            case measure => omega
            case rel => exact ⟨j + 1, by omega, by omega, by go_num, by rw [HN.out, if_pos hless], rfl⟩
          · have hd1 : decide (xj < xi) = false := yhy hless
            go_wp2
            go_roundg (2 - (j + 1))
            case measure => omega
            case rel => exact ⟨j + 1, by omega, by omega, by go_num, by rw [HN.out, if_neg (by omega)], rfl⟩
        · have hltz : ¬ (j : Int) < 2 := by omega
          obtain rfl : j = 2 := by omega
          have hbd := (HL.out.2.2.1 2)
          obtain ⟨hbd1, hbd2⟩ := hbd
          obtain ⟨hi1, hi2⟩ := HI.out
          have HN := Aside0.mk (show idxAt l 3 = idxAt l 2 + lessAt l 2 2 * 1 from rfl)
          generalize lessAt l 2 2 = lv at HN hbd1 hbd2 ⊢
          generalize idxAt l 2 = iv at HN hi1 hi2 ⊢
          go_wp2
          go_roundg (4 - 3)
          case measure => omega
          case rel => exact ⟨3, by omega, by omega, by first | rfl | go_num, by rw [HN.out]; rw [Int.mul_one], ⟨by rw [HN.out]; omega⟩, B1, B9, HB⟩
    · have b9 : wr.cell? ⟨w.heap.size + 1, 1, none⟩ = some (.int .i64 2) := (blk_cell B9.out 1).trans rfl
      have b1 : wr.cell? ⟨w.heap.size, 1, none⟩ = some (.int .i64 (rd l (1 : Nat))) := (blk_cell B1.out 1).trans (by rw [← HLL.out]; rfl)
      have hx : sm (rd l (1 : Nat)) := by have := HS.out; exact this.2.1
      have HD := Aside0.mk (show ∀ j : Nat, lessAt l 1 (j + 1) = if rd l (j : Nat) < rd l (1 : Nat) then lessAt l 1 j - 1 else lessAt l 1 j from fun _ => rfl)
      have HD0 := Aside0.mk (show rd l (1 : Nat) = lessAt l 1 0 from rfl)
      generalize rd l (1 : Nat) = xi at b1 HD HD0 hx
      go_wp2_with fail
      go_loopg [6, 22] 1 (fun gg v6 v22 w' => ∃ j : Nat, j ≤ 1 ∧ 1 - j ≤ gg ∧ v22 = .int .i64 j ∧ v6 = .int .i64 (lessAt l 1 j) ∧ w' = wr)
      case atStart => exact ⟨0, by omega, by omega, rfl, by rw [HD0.out], rfl⟩
      case round =>
        obtain ⟨j, hj, hg2, rfl, rfl, rfl⟩ := hrel
        by_cases hlt : j < 1
        · have hltz : (j : Int) < 1 := by omega
          have bj : wr.cell? ⟨w.heap.size, j, none⟩ = some (.int .i64 (rd l (j : Nat))) := by
            have := arr_cell B1.out (j : Int) (by omega) (by omega)
            rw [HLL.out, Int.toNat_natCast] at this
            exact this
          have hbd := (HL.out.2.1 j)
          obtain ⟨hbd1, hbd2⟩ := hbd
          have HN := Aside0.mk (HD.out j)
          generalize lessAt l 1 j = lv at HN hbd1 hbd2 ⊢
          generalize rd l (j : Nat) = xj at bj HN
          by_cases hless : xj < xi
          · have hd1 : decide (xj < xi) = true := ygy hless
            go_wp2
            go_roundg (1 - (j + 1))
            case measure => omega
            case rel => exact ⟨j + 1, by omega, by omega, by go_num, by rw [HN.out, if_pos hless], rfl⟩
          · have hd1 : decide (xj < xi) = false := yhy hless
            go_wp2
            go_roundg (1 - (j + 1))
            case measure => omega
            case rel => exact ⟨j + 1, by omega, by omega, by go_num, by rw [HN.out, if_neg (by omega)], rfl⟩
        · have hltz : ¬ (j : Int) < 1 := by omega
          obtain rfl : j = 1 := by omega
          have hbd := (HL.out.2.1 1)
          obtain ⟨hbd1, hbd2⟩ := hbd
          obtain ⟨hi1, hi2⟩ := HI.out
          have HN := Aside0.mk (show idxAt l 2 = idxAt l 1 + lessAt l 1 1 * 2 from rfl)
          generalize lessAt l 1 1 = lv at HN hbd1 hbd2 ⊢
          generalize idxAt l 1 = iv at HN hi1 hi2 ⊢
          go_wp2
          go_roundg (4 - 2)
          case measure => omega
          case rel => exact ⟨2, by omega, by omega, by first | rfl | go_num, by rw [HN.out], ⟨by rw [HN.out]; omega⟩, B1, B9, HB⟩
    · have b9 : wr.cell? ⟨w.heap.size + 1, 0, none⟩ = some (.int .i64 6) := (blk_cell B9.out 0).trans rfl
      have b1 : wr.cell? ⟨w.heap.size, 0, none⟩ = some (.int .i64 (rd l (0 : Nat))) := (blk_cell B1.out 0).trans (by rw [← HLL.out]; rfl)
      have hx : sm (rd l (0 : Nat)) := by have := HS.out; exact this.1
      have HD := Aside0.mk (show ∀ j : Nat, lessAt l 0 (j + 1) = if rd l (j : Nat) < rd l (0 : Nat) then lessAt l 0 j - 1 else lessAt l 0 j from fun _ => rfl)
      have HD0 := Aside0.mk (show rd l (0 : Nat) = lessAt l 0 0 from rfl)
      generalize rd l (0 : Nat) = xi at b1 HD HD0 hx
      go_wp2_with fail
      go_loopg [6, 22] 0 (fun gg v6 v22 w' => ∃ j : Nat, j ≤ 0 ∧ 0 - j ≤ gg ∧ v22 = .int .i64 j ∧ v6 = .int .i64 (lessAt l 0 j) ∧ w' = wr)
      case atStart => exact ⟨0, by omega, by omega, rfl, by rw [HD0.out], rfl⟩
      case round =>
        obtain ⟨j, hj, hg2, rfl, rfl, rfl⟩ := hrel
        by_cases hlt : j < 0
        · have hltz : (j : Int) < 0 := by omega
          have bj : wr.cell? ⟨w.heap.size, j, none⟩ = some (.int .i64 (rd l (j : Nat))) := by
            have := arr_cell B1.out (j : Int) (by omega) (by omega)
            rw [HLL.out, Int.toNat_natCast] at this
            exact this
          have hbd := (HL.out.1 j)
          obtain ⟨hbd1, hbd2⟩ := hbd
          have HN := Aside0.mk (HD.out j)
          generalize lessAt l 0 j = lv at HN hbd1 hbd2 ⊢
          generalize rd l (j : Nat) = xj at bj HN
          by_cases hless : xj < xi
          · have hd1 : decide (xj < xi) = true := ygy hless
            go_wp2
            go_roundg (0 - (j + 1))
            case measure => omega
            case rel => exact ⟨j + 1, by omega, by omega, by go_num, by rw [HN.out, if_pos hless], rfl⟩
          · have hd1 : decide (xj < xi) = false := yhy hless
            go_wp2
            go_roundg (0 - (j + 1))
            case measure => omega
            case rel => exact ⟨j + 1, by omega, by omega, by go_num, by rw [HN.out, if_neg (by omega)], rfl⟩
        · have hltz : ¬ (j : Int) < 0 := by omega
          obtain rfl : j = 0 := by omega
          have hbd := (HL.out.1 0)
          obtain ⟨hbd1, hbd2⟩ := hbd
          obtain ⟨hi1, hi2⟩ := HI.out
          have HN := Aside0.mk (show idxAt l 1 = idxAt l 0 + lessAt l 0 0 * 6 from rfl)
          generalize lessAt l 0 0 = lv at HN hbd1 hbd2 ⊢
          generalize idxAt l 0 = iv at HN hi1 hi2 ⊢
          go_wp2
          go_roundg (4 - 1)
          case measure => omega
          case rel => exact ⟨1, by omega, by omega, by first | rfl | go_num, by rw [HN.out], ⟨by rw [HN.out]; omega⟩, B1, B9, HB⟩
/-! The images of a permutation are 0 to 3; indexes are 0 to 23. -/
theorem permAt_sm (p : Int) (h0 : 0 ≤ p) (h1 : p ≤ 23) : sm (permAt p 0) ∧ sm (permAt p 1) ∧ sm (permAt p 2) ∧ sm (permAt p 3) := by
  obtain ⟨n, rfl⟩ := Int.eq_ofNat_of_zero_le h0
  have hn : n < 24 := by omega
  have key : ∀ m : Fin 24, (0 ≤ permAt (m.val : Int) 0 ∧ permAt (m.val : Int) 0 ≤ 3) ∧ (0 ≤ permAt (m.val : Int) 1 ∧ permAt (m.val : Int) 1 ≤ 3) ∧ (0 ≤ permAt (m.val : Int) 2 ∧ permAt (m.val : Int) 2 ≤ 3) ∧ (0 ≤ permAt (m.val : Int) 3 ∧ permAt (m.val : Int) 3 ≤ 3) := by decide
  exact key ⟨n, hn⟩
/-- The inverse's images after i rounds. -/
def invList (l : List Int) : Nat → List Int
  | 0 => [0, 0, 0, 0]
  | i + 1 => (invList l i).set (rd l i).toNat i
theorem invList_sm (l : List Int) : ∀ i, i ≤ 4 → ∀ x ∈ invList l i, sm x
  | 0, _, x, hx => by
    have : x = 0 := by simp [invList] at hx; exact hx
    subst this; exact ⟨by omega, by omega⟩
  | i + 1, hi, x, hx => by
    rw [invList] at hx
    rcases List.mem_or_eq_of_mem_set hx with h | rfl
    · exact invList_sm l i (by omega) x h
    · exact ⟨by omega, by omega⟩
def invP (p : Int) : Int := idxL (invList (permL p) 4)
def compL (a b : List Int) : List Int := [rd b (rd a 0), rd b (rd a 1), rd b (rd a 2), rd b (rd a 3)]
def compSet (l m : List Int) : Nat → List Int
  | 0 => [0, 0, 0, 0]
  | i + 1 => (compSet l m i).set i (rd m (rd l i))
def compP (p q : Int) : Int := idxL (compL (permL p) (permL q))
theorem rd_four_sm {a b c d : Int} (ha : sm a) (hb : sm b) (hc : sm c) (hd : sm d) (f : Int) (h0 : 0 ≤ f) (h1 : f ≤ 3) : sm (rd [a, b, c, d] f) := by
  rcases (show f = 0 ∨ f = 1 ∨ f = 2 ∨ f = 3 by omega) with rfl | rfl | rfl | rfl <;> assumption
/-! invert: the index of the inverse permutation. -/
def impl_invert.f (a0 : Int) : Option Int := if 0 ≤ a0 ∧ a0 ≤ 23 then some (invP a0) else none
set_option maxHeartbeats 8000000 in
set_option maxRecDepth 100000 in
theorem impl_invert.calls (a0 : Int) (r : Int) (w : World) (h : impl_invert.f a0 = some r) :
    Calls Try.prog 62 #[.int .i64 a0] w fun e w' => e = .returned (.int .i64 r) ∧ Below w.heap.size w w' := by
  unfold impl_invert.f at h
  by_cases hc : 0 ≤ a0 ∧ a0 ≤ 23
  case neg => rw [if_neg hc] at h; exact absurd h (by simp)
  rw [if_pos hc] at h
  have hr : invP a0 = r := yey h
  clear h
  subst hr
  obtain ⟨h0, h1⟩ := hc
  have HS := Aside0.mk (permAt_sm a0 h0 h1)
  have H0 := Aside0.mk h0
  have H1 := Aside0.mk h1
  clear h0 h1
  go_enter Try.func62, Try.ntmps62
  go_wp2_with fail
  refine (impl_perm.calls _ _ H0.out H1.out).mono ?_
  rintro e w1 ⟨rfl, hb⟩
  have B3 := Aside0.mk (blk_below (new_at4 (W := w) rfl (.cells #[.int .i64 0, .int .i64 0, .int .i64 0, .int .i64 0] 84)) hb)
  have HB := Aside0.mk (below_step (below_alloc (ypy _ _) _) hb)
  clear hb
  have HPL := Aside0.mk (show permL a0 = [permAt a0 0, permAt a0 1, permAt a0 2, permAt a0 3] from rfl)
  have HIP := Aside0.mk (show invP a0 = idxL (invList (permL a0) 4) from rfl)
  generalize permL a0 = pl at HPL HIP
  generalize permAt a0 0 = x0 at HS HPL ⊢
  generalize permAt a0 1 = x1 at HS HPL ⊢
  generalize permAt a0 2 = x2 at HS HPL ⊢
  generalize permAt a0 3 = x3 at HS HPL ⊢
  go_wp2_with fail
  go_loopg [8] 4 (fun gg v8 w' => ∃ (i : Nat) (b0 b1 b2 b3 : Int), i ≤ 4 ∧ 4 - i ≤ gg ∧ v8 = .int .i64 i ∧ Aside0 ([b0, b1, b2, b3] = invList pl i) ∧
    Aside0 (w'.heap[w.heap.size]? = some (.cells #[.int .i64 b0, .int .i64 b1, .int .i64 b2, .int .i64 b3] 84 (0, 0))) ∧ Aside0 (Below w.heap.size w w'))
  case atStart => exact ⟨0, 0, 0, 0, 0, by omega, by omega, rfl, ⟨rfl⟩, B3, HB⟩
  case round =>
    clear HB B3
    obtain ⟨i, b0, b1, b2, b3, hi, hg, rfl, HI, B3, HB⟩ := hrel
    rcases (show i = 4 ∨ i = 3 ∨ i = 2 ∨ i = 1 ∨ i = 0 by omega) with rfl | rfl | rfl | rfl | rfl
    · have c0 : wr.cell? ⟨w.heap.size, 0, none⟩ = some (.int .i64 b0) := (blk_cell B3.out 0).trans rfl
      have c1 : wr.cell? ⟨w.heap.size, 1, none⟩ = some (.int .i64 b1) := (blk_cell B3.out 1).trans rfl
      have c2 : wr.cell? ⟨w.heap.size, 2, none⟩ = some (.int .i64 b2) := (blk_cell B3.out 2).trans rfl
      have c3 : wr.cell? ⟨w.heap.size, 3, none⟩ = some (.int .i64 b3) := (blk_cell B3.out 3).trans rfl
      have ht := Try.underlying84
      go_wp2_with fail
      have hsm := invList_sm pl 4 (by omega)
      rw [← HI.out] at hsm
      refine (impl_indexOf.calls b0 b1 b2 b3 _ (hsm _ (by simp)) (hsm _ (by simp)) (hsm _ (by simp)) (hsm _ (by simp))).mono ?_
      rintro e w2 ⟨rfl, hb⟩
      have HB2 := Aside0.mk (below_step HB.out hb)
      clear hb hsm
      go_wp2
      go_ret
      exact ⟨by rw [HIP.out, ← HI.out]; rfl, HB2.out⟩
    · have ix := arr_index x0 x1 x2 x3 3 (by omega) (by omega)
      have hx : rd [x0, x1, x2, x3] 3 = x3 := rfl
      rw [hx] at ix
      have hs : sm x3 := HS.out.2.2.2
      obtain ⟨hs0, hs1⟩ := hs
      have c3 := arr_cell B3.out x3 hs0 hs1
      have f3 := blk_frozen B3.out x3.toNat
      have B3n := Aside0.mk (arr_put B3.out x3 3 hs0 hs1)
      have HN : [b0, b1, b2, b3].set x3.toNat 3 = invList pl (3 + 1) := by rw [HI.out, HPL.out]; rfl
      have hlen : ([b0, b1, b2, b3].set x3.toNat (3 : Int)).length = 4 := by simp
      have HF := Aside0.mk ((four_eq hlen).symm.trans HN)
      clear hx HN hlen
      go_wp2
      go_roundg (4 - (3 + 1))
      case measure => omega
      case rel => exact ⟨3 + 1, _, _, _, _, by omega, by omega, by first | rfl | go_num, HF, B3n, ⟨below_set HB.out (yoy _)⟩⟩
    · have ix := arr_index x0 x1 x2 x3 2 (by omega) (by omega)
      have hx : rd [x0, x1, x2, x3] 2 = x2 := rfl
      rw [hx] at ix
      have hs : sm x2 := HS.out.2.2.1
      obtain ⟨hs0, hs1⟩ := hs
      have c3 := arr_cell B3.out x2 hs0 hs1
      have f3 := blk_frozen B3.out x2.toNat
      have B3n := Aside0.mk (arr_put B3.out x2 2 hs0 hs1)
      have HN : [b0, b1, b2, b3].set x2.toNat 2 = invList pl (2 + 1) := by rw [HI.out, HPL.out]; rfl
      have hlen : ([b0, b1, b2, b3].set x2.toNat (2 : Int)).length = 4 := by simp
      have HF := Aside0.mk ((four_eq hlen).symm.trans HN)
      clear hx HN hlen
      go_wp2
      go_roundg (4 - (2 + 1))
      case measure => omega
      case rel => exact ⟨2 + 1, _, _, _, _, by omega, by omega, by first | rfl | go_num, HF, B3n, ⟨below_set HB.out (yoy _)⟩⟩
    · have ix := arr_index x0 x1 x2 x3 1 (by omega) (by omega)
      have hx : rd [x0, x1, x2, x3] 1 = x1 := rfl
      rw [hx] at ix
      have hs : sm x1 := HS.out.2.1
      obtain ⟨hs0, hs1⟩ := hs
      have c3 := arr_cell B3.out x1 hs0 hs1
      have f3 := blk_frozen B3.out x1.toNat
      have B3n := Aside0.mk (arr_put B3.out x1 1 hs0 hs1)
      have HN : [b0, b1, b2, b3].set x1.toNat 1 = invList pl (1 + 1) := by rw [HI.out, HPL.out]; rfl
      have hlen : ([b0, b1, b2, b3].set x1.toNat (1 : Int)).length = 4 := by simp
      have HF := Aside0.mk ((four_eq hlen).symm.trans HN)
      clear hx HN hlen
      go_wp2
      go_roundg (4 - (1 + 1))
      case measure => omega
      case rel => exact ⟨1 + 1, _, _, _, _, by omega, by omega, by first | rfl | go_num, HF, B3n, ⟨below_set HB.out (yoy _)⟩⟩
    · have ix := arr_index x0 x1 x2 x3 0 (by omega) (by omega)
      have hx : rd [x0, x1, x2, x3] 0 = x0 := rfl
      rw [hx] at ix
      have hs : sm x0 := HS.out.1
      obtain ⟨hs0, hs1⟩ := hs
      have c3 := arr_cell B3.out x0 hs0 hs1
      have f3 := blk_frozen B3.out x0.toNat
      have B3n := Aside0.mk (arr_put B3.out x0 0 hs0 hs1)
      have HN : [b0, b1, b2, b3].set x0.toNat 0 = invList pl (0 + 1) := by rw [HI.out, HPL.out]; rfl
      have hlen : ([b0, b1, b2, b3].set x0.toNat (0 : Int)).length = 4 := by simp
      have HF := Aside0.mk ((four_eq hlen).symm.trans HN)
      clear hx HN hlen
      go_wp2
      go_roundg (4 - (0 + 1))
      case measure => omega
      case rel => exact ⟨0 + 1, _, _, _, _, by omega, by omega, by first | rfl | go_num, HF, B3n, ⟨below_set HB.out (yoy _)⟩⟩
/-! ### impl_Face_partner: function 56 -/
def impl_Face_partner.f (a0_0 : Int) (a0_1 : Int) (a1 : Int) : Option (Int × Int) := (impl_invert.f a0_1).bind fun t103 => (some (a1, t103))
set_option maxHeartbeats 8000000 in
set_option maxRecDepth 100000 in
theorem impl_Face_partner.calls (a0_0 : Int) (a0_1 : Int) (a1 : Int) (r1 : Int) (r2 : Int) (w : World) (h : impl_Face_partner.f a0_0 a0_1 a1 = some (r1, r2)) :
    Calls Try.prog 56 #[.agg #[.int .i64 a0_0, .int .i64 a0_1], .int .i64 a1] w fun e w' => e = .returned (.agg #[.int .i64 r1, .int .i64 r2]) ∧ Below w.heap.size w w' := by
  have hu56 := Try.underlying56
  have HB := Aside0.mk (ypy w.heap.size w)
  have H : ((impl_invert.f a0_1).bind fun t103 => (some (a1, t103))) = some (r1, r2) := h
  clear h
  replace H := ydy.mp H
  obtain ⟨t103, A30, H⟩ := H
  replace H : (some (a1, t103)) = some (r1, r2) := H
  have A3 := Aside0.mk A30
  clear A30
  simp only [Option.some.injEq, Prod.mk.injEq] at H
  obtain ⟨rfl, rfl⟩ := H
  go_enter Try.func56, Try.ntmps56
  go_wp2_with (first | ((with_reducible refine gate_dst (N := 2) rfl ?_); refine box_event ?hg (N := 2) ?hd (cs := #[.int .i64 a0_0, .int .i64 a0_1]) (t := 56) ?hr ?_; (case hd => rfl); (case hg => rfl); (case hr => first | (go_simp; done) | (go_simp; rfl)); intro gb101 hg w4 hbox hb; have n0_ := Aside0.mk (below_step (by repeat (first | (with_reducible first | exact HB.out | apply below_alloc | apply pw_below_drewN | apply below_drew1) | exact HB.out)) hb); have n1_ := Aside0.mk (hbox); have n2_ := Aside0.mk ((by rw [hg]; exact (below_size (by repeat (first | (with_reducible first | exact HB.out | apply below_alloc | apply pw_below_drewN | apply below_drew1) | exact HB.out))) : w.heap.size ≤ gb101)); have n3_ := Aside0.mk ((by rw [hg]; exact (below_size (by repeat (first | (with_reducible first | exact HB.out | apply below_alloc | apply pw_below_drewN | apply below_drew1) | exact HB.out))) : w.heap.size ≤ gb101)); clear HB; have HB := n0_; have BK101 := n1_; have GW101 := n2_; have GE101 := n3_; clear n0_ n1_ n2_ n3_; clear hb hbox hg) | ((with_reducible refine gate_dst (N := 4) rfl ?_); refine box_event ?hg (N := 4) ?hd (cs := #[.int .i64 0, .int .i64 0]) (t := 56) ?hr ?_; (case hd => rfl); (case hg => rfl); (case hr => first | (go_simp; done) | (go_simp; rfl)); intro gb102 hg w5 hbox hb; have n0_ := Aside0.mk (blk_below (g := gb101) (o := .cells #[.int .i64 a0_0, .int .i64 a0_1] 56 (0, 0)) (by (with_reducible repeat (first | refine blk_drewN ?_ _ | refine blk_drew ?_ | refine blk_alloc ?_ _)); exact BK101.out) hb); have n1_ := Aside0.mk (below_step (by repeat (first | (with_reducible first | exact HB.out | apply below_alloc | apply pw_below_drewN | apply below_drew1 | refine below_set ?_ GE101.out) | exact HB.out)) hb); have n2_ := Aside0.mk (hbox); have n3_ := Aside0.mk ((by rw [hg]; exact (below_size (by repeat (first | (with_reducible first | exact HB.out | apply below_alloc | apply pw_below_drewN | apply below_drew1 | refine below_set ?_ GE101.out) | exact HB.out))) : w.heap.size ≤ gb102)); have n4_ := Aside0.mk ((by rw [hg]; exact (below_size (by repeat (first | (with_reducible first | exact HB.out | apply below_alloc | apply pw_below_drewN | apply below_drew1 | refine below_set ?_ GE101.out) | exact HB.out))) : w.heap.size ≤ gb102)); have n5_ := Aside0.mk ((by rw [hg]; exact Nat.ne_of_lt (blk_lt (g := gb101) (o := .cells #[.int .i64 a0_0, .int .i64 a0_1] 56 (0, 0)) (by (with_reducible repeat (first | refine blk_drewN ?_ _ | refine blk_drew ?_ | refine blk_alloc ?_ _)); exact BK101.out)) : gb101 ≠ gb102)); have n6_ := Aside0.mk ((by rw [hg]; exact Nat.ne_of_gt (blk_lt (g := gb101) (o := .cells #[.int .i64 a0_0, .int .i64 a0_1] 56 (0, 0)) (by (with_reducible repeat (first | refine blk_drewN ?_ _ | refine blk_drew ?_ | refine blk_alloc ?_ _)); exact BK101.out)) : gb102 ≠ gb101)); clear BK101; clear HB; have BK101 := n0_; have HB := n1_; have BK102 := n2_; have GW102 := n3_; have GE102 := n4_; have NB101_102 := n5_; have NB102_101 := n6_; clear n0_ n1_ n2_ n3_ n4_ n5_ n6_; clear hb hbox hg; have hnb6 := NB101_102.out; have hnc6 := NB102_101.out; have hcz7_0 : w5.cell? ⟨gb101, 0, none⟩ = some (.int .i64 a0_0) := (blk_cell BK101.out 0).trans rfl; have hcz7_1 : w5.cell? ⟨gb101, 1, none⟩ = some (.int .i64 a0_1) := (blk_cell BK101.out 1).trans rfl; have hfz7_0 := blk_frozen BK101.out 0; have hfz7_1 := blk_frozen BK101.out 1) | ((with_reducible refine gate_callee (f := 62) rfl ?_); refine goesL_ (some 8) rfl rfl Try.func62 (by kernel_rfl) rfl #[.int .i64 a0_1] rfl (by (try simp only [yiy, yjy, yky]); first | done | rfl | (simp only [yly, ymy]; rfl)) ?_; (with_reducible refine (impl_invert.calls a0_1 t103 _ A3.out).mono ?_); rintro e w8 ⟨rfl, hb⟩; refine ⟨_, rfl, ?_⟩; have n0_ := Aside0.mk (blk_below (g := gb101) (o := .cells #[.int .i64 a0_0, .int .i64 a0_1] 56 (0, 0)) (by (with_reducible repeat (first | refine blk_drewN ?_ _ | refine blk_drew ?_ | refine blk_alloc ?_ _)); exact BK101.out) hb); have n1_ := Aside0.mk (blk_below (g := gb102) (o := .cells #[.int .i64 0, .int .i64 0] 56 (0, 0)) (by (with_reducible repeat (first | refine blk_drewN ?_ _ | refine blk_drew ?_ | refine blk_alloc ?_ _)); exact BK102.out) hb); have n2_ := Aside0.mk (below_step (by repeat (first | (with_reducible first | exact HB.out | apply below_alloc | apply pw_below_drewN | apply below_drew1 | refine below_set ?_ GE101.out | refine below_set ?_ GE102.out) | exact HB.out)) hb); clear BK101; clear BK102; clear HB; have BK101 := n0_; have BK102 := n1_; have HB := n2_; clear n0_ n1_ n2_; (try clear hb); (try clear hb2); (try clear hk); (try clear hi); have hcz9_0 : w8.cell? ⟨gb102, 0, none⟩ = some (.int .i64 0) := (blk_cell BK102.out 0).trans rfl; have hcz9_1 : w8.cell? ⟨gb102, 1, none⟩ = some (.int .i64 0) := (blk_cell BK102.out 1).trans rfl; have hfz9_0 := blk_frozen BK102.out 0; have hfz9_1 := blk_frozen BK102.out 1))
  refine bodyPost_ret (results_cell_row rfl _ _ gb102 56 #[.int .i64 a1, .int .i64 t103] (0, 0) _ rfl (by (with_reducible repeat (first | refine blk_drewN ?_ _ | refine blk_drew ?_ | refine blk_alloc ?_ _)); refine blk_put (cs := #[.int .i64 a1, .int .i64 0]) ?_ 1 _ rfl; (with_reducible repeat (first | refine blk_drewN ?_ _ | refine blk_drew ?_ | refine blk_alloc ?_ _)); refine blk_put (cs := #[.int .i64 0, .int .i64 0]) ?_ 0 _ rfl; (with_reducible repeat (first | refine blk_drewN ?_ _ | refine blk_drew ?_ | refine blk_alloc ?_ _)); exact BK102.out) Try.underlying56 rfl (by kernel_rfl)) rfl ?_
  exact ⟨by first | rfl | (simp [errW_none, errW_some] <;> rfl) | (simp [*, errW_none, errW_some] <;> rfl), by repeat (first | (with_reducible first | exact HB.out | apply below_alloc | apply pw_below_drewN | apply below_drew1 | refine below_set ?_ GE101.out | refine below_set ?_ GE102.out) | exact HB.out)⟩
/-! Face.target: the image of a face's number. -/
def impl_Face_target.f (a0_0 : Int) (a0_1 : Int) (a1 : Int) : Option Int := if 0 ≤ a0_1 ∧ a0_1 ≤ 23 ∧ 0 ≤ a1 ∧ a1 ≤ 3 then some (rd (permL a0_1) a1) else none
set_option maxHeartbeats 800000 in
set_option maxRecDepth 100000 in
theorem impl_Face_target.calls (a0_0 : Int) (a0_1 : Int) (a1 : Int) (r : Int) (w : World) (h : impl_Face_target.f a0_0 a0_1 a1 = some r) :
    Calls Try.prog 55 #[.agg #[.int .i64 a0_0, .int .i64 a0_1], .int .i64 a1] w fun e w' => e = .returned (.int .i64 r) ∧ Below w.heap.size w w' := by
  unfold impl_Face_target.f at h
  by_cases hc : 0 ≤ a0_1 ∧ a0_1 ≤ 23 ∧ 0 ≤ a1 ∧ a1 ≤ 3
  · rw [if_pos hc] at h
    obtain ⟨h0, h1, hf0, hf1⟩ := hc
    have ix := arr_index (permAt a0_1 0) (permAt a0_1 1) (permAt a0_1 2) (permAt a0_1 3) a1 hf0 hf1
    have H0 := Aside0.mk h0
    have H1 := Aside0.mk h1
    clear h0 h1
    have hr : rd [permAt a0_1 0, permAt a0_1 1, permAt a0_1 2, permAt a0_1 3] a1 = r := yey h
    rw [hr] at ix
    clear hr h
    go_enter Try.func55, Try.ntmps55
    go_wp2_with fail
    refine (impl_perm.calls _ _ H0.out H1.out).mono ?_
    rintro e w' ⟨rfl, hb⟩
    have HB := Aside0.mk (below_step (below_alloc (ypy _ _) _) hb)
    clear hb
    go_wp2
    go_ret
    exact ⟨rfl, HB.out⟩
  · rw [if_neg hc] at h
    exact absurd h (by simp)
/-! ### impl_inRange: function 63 -/
def impl_inRange.f (a0 : Int) (a1 : Int) (a2 : Int) : Option (Bool) := if a1 ≤ a0 then (some (decide (a0 ≤ a2))) else (some false)
set_option maxHeartbeats 8000000 in
set_option maxRecDepth 100000 in
theorem impl_inRange.calls (a0 : Int) (a1 : Int) (a2 : Int) (r : Bool) (w : World) (h : impl_inRange.f a0 a1 a2 = some r) :
    Calls Try.prog 63 #[.int .i64 a0, .int .i64 a1, .int .i64 a2] w fun e w' => e = .returned (.bool r) ∧ Drawn0 w w' := by
  have H : (if a1 ≤ a0 then (some (decide (a0 ≤ a2))) else (some false)) = some r := h
  clear h
  by_cases c4 : a1 ≤ a0
  · rw [if_pos c4] at H
    have c4b0 : decide (a1 ≤ a0) = true := ygy c4
    clear c4
    obtain rfl := yey H
    go_enter Try.func63, Try.ntmps63
    go_wp2
    go_ret
    exact ⟨by first | rfl | (simp; done) | (simp [*]; done), by repeat (first | exact Drawn0.refl _ | apply Drawn0.step)⟩
  · rw [if_neg c4] at H
    have c4b0 : decide (a1 ≤ a0) = false := yhy c4
    clear c4
    obtain rfl := yey H
    go_enter Try.func63, Try.ntmps63
    go_wp2
    go_ret
    exact ⟨by first | rfl | (simp; done) | (simp [*]; done), by repeat (first | exact Drawn0.refl _ | apply Drawn0.step)⟩
/-! ### impl_hasIndex_Simpl_Face: function 53 -/
def impl_hasIndex_Simpl_Face.f (l0 : List (List (SFace))) (a1 : Int) : Option (Bool) := (impl_size_Simpl_Face.f l0).bind fun t101 => ((impl_inRange.f a1 0 (wrap64 (t101 - 1))).bind fun t102 => (some t102))
set_option maxHeartbeats 8000000 in
set_option maxRecDepth 100000 in
theorem impl_hasIndex_Simpl_Face.calls (A0 : Option Addr) (c0 : Nat) (l0 : List (List (SFace))) (a1 : Int) (r : Bool) (w : World) (hr0 : Kd.C (Kd.slice 56 kFace) w A0 l0.length l0) (hc0 : l0.length ≤ c0) (h : impl_hasIndex_Simpl_Face.f l0 a1 = some r) :
    Calls Try.prog 53 #[.slice A0 l0.length c0, .int .i64 a1] w fun e w' => e = .returned (.bool r) ∧ Drawn0 w w' := by
  have HR0 := Aside0.mk hr0
  have HC0 := Aside0.mk hc0
  clear hr0 hc0
  have H : ((impl_size_Simpl_Face.f l0).bind fun t101 => ((impl_inRange.f a1 0 (wrap64 (t101 - 1))).bind fun t102 => (some t102))) = some r := h
  clear h
  replace H := ydy.mp H
  obtain ⟨t101, A30, H⟩ := H
  replace H : ((impl_inRange.f a1 0 (wrap64 (t101 - 1))).bind fun t102 => (some t102)) = some r := H
  have A3 := Aside0.mk A30
  clear A30
  replace H := ydy.mp H
  obtain ⟨t102, A40, H⟩ := H
  replace H : (some t102) = some r := H
  have A4 := Aside0.mk A40
  clear A40
  obtain rfl := yey H
  go_enter Try.func53, Try.ntmps53
  go_wp2_with (first | ((with_reducible refine gate_callee (f := 21) rfl ?_); refine goesL_ (some 7) rfl rfl Try.func21 (by kernel_rfl) rfl #[.slice A0 l0.length c0] rfl (by (try simp only [yiy, yjy, yky]); first | done | rfl | (simp only [yly, ymy]; rfl)) ?_; (with_reducible refine (impl_size_Simpl_Face.calls _ _ l0 t101 _ ?side1 ?side2 A3.out).mono ?_); (case side1 => repeat (first | exact HR0.out | (with_reducible refine Kd.C_alloc ?_ _) | (with_reducible refine Kd.C_drewN ?_ _) | (with_reducible refine Kd.C_drew ?_))); (case side2 => exact HC0.out); rintro e w' ⟨rfl, ⟨nd, rfl⟩⟩; refine ⟨_, rfl, ?_⟩) | ((with_reducible refine gate_callee (f := 63) rfl ?_); refine goesL_ (some 9) rfl rfl Try.func63 (by kernel_rfl) rfl #[.int .i64 a1, .int .i64 0, .int .i64 (wrap64 (t101 - 1))] rfl (by (try simp only [yiy, yjy, yky]); first | done | rfl | (simp only [yly, ymy]; rfl)) ?_; (with_reducible refine (impl_inRange.calls a1 0 (wrap64 (t101 - 1)) t102 _ A4.out).mono ?_); rintro e w' ⟨rfl, ⟨nd, rfl⟩⟩; refine ⟨_, rfl, ?_⟩))
  go_ret
  exact ⟨by first | rfl | (simp; done) | (simp [*]; done), by repeat (first | exact Drawn0.refl _ | apply Drawn0.step)⟩
/-! ### impl_isPerm: function 54 -/
def impl_isPerm.f (a0 : Int) : Option (Bool) := (impl_inRange.f a0 0 23).bind fun t101 => (some t101)
set_option maxHeartbeats 8000000 in
set_option maxRecDepth 100000 in
theorem impl_isPerm.calls (a0 : Int) (r : Bool) (w : World) (h : impl_isPerm.f a0 = some r) :
    Calls Try.prog 54 #[.int .i64 a0] w fun e w' => e = .returned (.bool r) ∧ Drawn0 w w' := by
  have H : ((impl_inRange.f a0 0 23).bind fun t101 => (some t101)) = some r := h
  clear h
  replace H := ydy.mp H
  obtain ⟨t101, A20, H⟩ := H
  replace H : (some t101) = some r := H
  have A2 := Aside0.mk A20
  clear A20
  obtain rfl := yey H
  go_enter Try.func54, Try.ntmps54
  go_wp2_with (first | ((with_reducible refine gate_callee (f := 63) rfl ?_); refine goesL_ (some 4) rfl rfl Try.func63 (by kernel_rfl) rfl #[.int .i64 a0, .int .i64 0, .int .i64 23] rfl (by (try simp only [yiy, yjy, yky]); first | done | rfl | (simp only [yly, ymy]; rfl)) ?_; (with_reducible refine (impl_inRange.calls a0 0 23 t101 _ A2.out).mono ?_); rintro e w' ⟨rfl, ⟨nd, rfl⟩⟩; refine ⟨_, rfl, ?_⟩))
  go_ret
  exact ⟨by first | rfl | (simp; done) | (simp [*]; done), by repeat (first | exact Drawn0.refl _ | apply Drawn0.step)⟩
section
attribute [local go_sem high] eqA56
/-! ### impl_Triangulation_isGood: function 37 -/
def impl_Triangulation_isGood.j0 : Nat → Int → Int → Bool → List (List (SFace)) → Int → Int → Option (Bool)
 | 0, _, _, _, _, _, _ => none
 | k + 1, x1, x2, x34, x102000, x105000, x105001 => if x34 = true then (some false) else ((impl_Face_target.f x105000 x105001 x2).bind fun t107 => (if 0 ≤ x105000 then (if x105000 < (x102000.length : Int) then (if 0 ≤ t107 then (if t107 < ((rd_LFace x102000 x105000).length : Int) then ((impl_Face_partner.f x105000 x105001 x1).bind fun bt110 => (if (((rd_Face (rd_LFace x102000 x105000) t107).f0) == bt110.1 && (((rd_Face (rd_LFace x102000 x105000) t107).f1) == bt110.2)) = true then (if x105000 = x1 then (some (t107 != x2)) else (some true)) else (some false))) else (none)) else (none)) else (none)) else (none)))
def impl_Triangulation_isGood.f (k : Nat) (l0_0 : List (List (SFace))) (a1 : Int) (a2 : Int) : Option (Bool) := if 0 ≤ a1 then (if a1 < (l0_0.length : Int) then (if 0 ≤ a2 then (if a2 < ((rd_LFace l0_0 a1).length : Int) then (if ((rd_Face (rd_LFace l0_0 a1) a2).f0) = (-1) then (some (((rd_Face (rd_LFace l0_0 a1) a2).f1) == 0)) else ((impl_hasIndex_Simpl_Face.f l0_0 ((rd_Face (rd_LFace l0_0 a1) a2).f0)).bind fun t105 => (if t105 = true then ((impl_isPerm.f ((rd_Face (rd_LFace l0_0 a1) a2).f1)).bind fun t106 => (impl_Triangulation_isGood.j0 k a1 a2 (!t106) l0_0 ((rd_Face (rd_LFace l0_0 a1) a2).f0) ((rd_Face (rd_LFace l0_0 a1) a2).f1))) else (impl_Triangulation_isGood.j0 k a1 a2 true l0_0 ((rd_Face (rd_LFace l0_0 a1) a2).f0) ((rd_Face (rd_LFace l0_0 a1) a2).f1))))) else (none)) else (none)) else (none)) else (none)
def impl_Triangulation_isGood.T7 : Bool × List (List Nat × List Nat) := (true, [([], []), ([0], [0]), ([], []), ([2], [2]), ([1, 3], [1, 3]), ([4], [4]), ([], []), ([5, 6], [5, 6]), ([7], [7]), ([], []), ([], []), ([9, 10], [9, 10]), ([8, 11], [8, 11]), ([12, 11], [12]), ([13], [13]), ([14, 13], [13, 14]), ([13], [13]), ([15, 16, 13], [13, 15, 16]), ([17, 13, 13], [13, 17]), ([18], [18]), ([18], [18]), ([19, 20, 18], [18, 19, 20]), ([18, 21, 13], [13, 18, 21]), ([13, 22], [13, 22]), ([23, 18, 0, 1, 2, 3, 4, 5, 6, 7, 8, 9, 10, 11, 12, 13, 14, 15, 16, 17, 18, 19, 20, 21, 22, 23], [23])])
def impl_Triangulation_isGood.B7 : List Nat := [0, 1, 0, 4, 15, 31, 0, 127, 255, 0, 0, 1536, 4095, 8191, 16383, 32767, 16383, 131071, 262143, 524287, 524287, 2097151, 4194303, 8388607, 16777215]
theorem impl_Triangulation_isGood.tab7 : rtab .any (opsOf Try.f37 7) = impl_Triangulation_isGood.T7 := by kernel_rfl
theorem impl_Triangulation_isGood.bits7 : waitsOk impl_Triangulation_isGood.T7.2 impl_Triangulation_isGood.B7 = true := by kernel_rfl
set_option maxHeartbeats 8000000 in
set_option maxRecDepth 100000 in
theorem impl_Triangulation_isGood.calls (k : Nat) (A0_0 : Option Addr) (c0_0 : Nat) (l0_0 : List (List (SFace))) (a1 : Int) (a2 : Int) (r : Bool) (w : World) (hr0_0 : Kd.C (Kd.slice 56 kFace) w A0_0 l0_0.length l0_0) (hc0_0 : l0_0.length ≤ c0_0) (h : impl_Triangulation_isGood.f k l0_0 a1 a2 = some r) :
 Calls Try.prog 37 #[.agg #[.slice A0_0 l0_0.length c0_0], .int .i64 a1, .int .i64 a2] w fun e w' => e = .returned (.bool r) ∧ Below w.heap.size w w' := by
 have hu30 := Try.underlying30
 have hu56 := Try.underlying56
 have HR0_0 := Aside0.mk hr0_0
 have HC0_0 := Aside0.mk hc0_0
 clear hr0_0 hc0_0
 have HB := Aside0.mk (ypy w.heap.size w)
 have H : (if 0 ≤ a1 then (if a1 < (l0_0.length : Int) then (if 0 ≤ a2 then (if a2 < ((rd_LFace l0_0 a1).length : Int) then (if ((rd_Face (rd_LFace l0_0 a1) a2).f0) = (-1) then (some (((rd_Face (rd_LFace l0_0 a1) a2).f1) == 0)) else ((impl_hasIndex_Simpl_Face.f l0_0 ((rd_Face (rd_LFace l0_0 a1) a2).f0)).bind fun t105 => (if t105 = true then ((impl_isPerm.f ((rd_Face (rd_LFace l0_0 a1) a2).f1)).bind fun t106 => (impl_Triangulation_isGood.j0 k a1 a2 (!t106) l0_0 ((rd_Face (rd_LFace l0_0 a1) a2).f0) ((rd_Face (rd_LFace l0_0 a1) a2).f1))) else (impl_Triangulation_isGood.j0 k a1 a2 true l0_0 ((rd_Face (rd_LFace l0_0 a1) a2).f0) ((rd_Face (rd_LFace l0_0 a1) a2).f1))))) else (none)) else (none)) else (none)) else (none)) = some r := h
 clear h
 by_cases c4 : 0 ≤ a1
 rotate_left
 next =>
  rw [if_neg c4] at H
  exact absurd H (by simp)
 rw [if_pos c4] at H
 have c4b0 : decide (0 ≤ a1) = true := ygy c4
 clear c4
 by_cases c5 : a1 < (l0_0.length : Int)
 rotate_left
 next =>
  rw [if_neg c5] at H
  exact absurd H (by simp)
 rw [if_pos c5] at H
 have c5b0 : decide (a1 < (l0_0.length : Int)) = true := ygy c5
 clear c5
 by_cases c6 : 0 ≤ a2
 rotate_left
 next =>
  rw [if_neg c6] at H
  exact absurd H (by simp)
 rw [if_pos c6] at H
 have c6b0 : decide (0 ≤ a2) = true := ygy c6
 clear c6
 by_cases c7 : a2 < ((rd_LFace l0_0 a1).length : Int)
 rotate_left
 next =>
  rw [if_neg c7] at H
  exact absurd H (by simp)
 rw [if_pos c7] at H
 have c7b0 : decide (a2 < ((rd_LFace l0_0 a1).length : Int)) = true := ygy c7
 clear c7
 by_cases c8 : ((rd_Face (rd_LFace l0_0 a1) a2).f0) = (-1)
 next =>
  rw [if_pos c8] at H
  have c8b0 : (((rd_Face (rd_LFace l0_0 a1) a2).f0) == (-1)) = true := beq_iff_eq.mpr c8
  have c8b1 : (((rd_Face (rd_LFace l0_0 a1) a2).f0) != (-1)) = false := bne_eq_false_iff_eq.mpr c8
  clear c8
  obtain rfl := yey H
  go_enter Try.func37, Try.ntmps37
  go_wp2_with (first | ((with_reducible refine gate_dst (N := 3) rfl ?_); refine box_event ?hg (N := 3) ?hd (cs := #[.slice A0_0 l0_0.length c0_0]) (t := 30) ?hr ?_; (case hd => rfl); (case hg => rfl); (case hr => first | (go_simp; done) | (go_simp; rfl)); intro gb101 hg w9 hbox hb; have n0_ := Aside0.mk (below_step (by repeat (first | (with_reducible first | exact HB.out | apply below_alloc | apply pw_below_drewN | apply below_drew1) | exact HB.out)) hb); have n1_ := Aside0.mk (hbox); have n2_ := Aside0.mk ((by rw [hg]; exact (below_size (by repeat (first | (with_reducible first | exact HB.out | apply below_alloc | apply pw_below_drewN | apply below_drew1) | exact HB.out))) : w.heap.size ≤ gb101)); have n3_ := Aside0.mk ((by rw [hg]; exact (below_size (by repeat (first | (with_reducible first | exact HB.out | apply below_alloc | apply pw_below_drewN | apply below_drew1) | exact HB.out))) : w.heap.size ≤ gb101)); clear HB; have HB := n0_; have BK101 := n1_; have GW101 := n2_; have GE101 := n3_; clear n0_ n1_ n2_ n3_; clear hb hbox hg; have hcz10_0 : w9.cell? ⟨gb101, 0, none⟩ = some (.slice A0_0 l0_0.length c0_0) := (blk_cell BK101.out 0).trans rfl; have hfz10_0 := blk_frozen BK101.out 0; have p102 : 0 ≤ (a1 : Int) := of_decide_eq_true (by first | (with_reducible assumption) | assumption); have q102 : a1 < (l0_0.length : Int) := of_decide_eq_true (by first | (with_reducible assumption) | assumption); obtain ⟨ad102, A102_0, c102_0, e102, hx102_0, hl102_0, hi102_0⟩ := at_LFace HR0_0.out a1 p102 q102; cases e102; replace hx102_0 := (HB.out.cell (yny w _ hx102_0)).trans hx102_0; have HR102_0 := Aside0.mk hi102_0; have HC102_0 := Aside0.mk hl102_0; clear hi102_0 hl102_0; replace p102 := eq_true p102; replace q102 := eq_true q102; have p103 : 0 ≤ (a2 : Int) := of_decide_eq_true (by first | (with_reducible assumption) | assumption); have q103 : a2 < ((rd_LFace l0_0 a1).length : Int) := of_decide_eq_true (by first | (with_reducible assumption) | assumption); obtain ⟨ad103, e103, hx103_0, hx103_1⟩ := at_Face HR102_0.out a2 p103 q103; cases e103; replace hx103_0 := (HB.out.cell (yny w _ hx103_0)).trans hx103_0; replace hx103_1 := (HB.out.cell (yny w _ hx103_1)).trans hx103_1; replace p103 := eq_true p103; replace q103 := eq_true q103) | ((with_reducible refine gate_dst (N := 7) rfl ?_); refine box_event ?hg (N := 7) ?hd (cs := #[.int .i64 0, .int .i64 0]) (t := 56) ?hr ?_; (case hd => rfl); (case hg => rfl); (case hr => first | (go_simp; done) | (go_simp; rfl)); intro gb104 hg w11 hbox hb; have n0_ := Aside0.mk (blk_below (g := gb101) (o := .cells #[.slice (some ad102) l0_0.length c0_0] 30 (0, 0)) (by (with_reducible repeat (first | refine blk_drewN ?_ _ | refine blk_drew ?_ | refine blk_alloc ?_ _)); exact BK101.out) hb); have n1_ := Aside0.mk (below_step (by repeat (first | (with_reducible first | exact HB.out | apply below_alloc | apply pw_below_drewN | apply below_drew1 | refine below_set ?_ GE101.out) | exact HB.out)) hb); have n2_ := Aside0.mk (hbox); have n3_ := Aside0.mk ((by rw [hg]; exact (below_size (by repeat (first | (with_reducible first | exact HB.out | apply below_alloc | apply pw_below_drewN | apply below_drew1 | refine below_set ?_ GE101.out) | exact HB.out))) : w.heap.size ≤ gb104)); have n4_ := Aside0.mk ((by rw [hg]; exact (below_size (by repeat (first | (with_reducible first | exact HB.out | apply below_alloc | apply pw_below_drewN | apply below_drew1 | refine below_set ?_ GE101.out) | exact HB.out))) : w.heap.size ≤ gb104)); have n5_ := Aside0.mk ((by rw [hg]; exact Nat.ne_of_lt (blk_lt (g := gb101) (o := .cells #[.slice (some ad102) l0_0.length c0_0] 30 (0, 0)) (by (with_reducible repeat (first | refine blk_drewN ?_ _ | refine blk_drew ?_ | refine blk_alloc ?_ _)); exact BK101.out)) : gb101 ≠ gb104)); have n6_ := Aside0.mk ((by rw [hg]; exact Nat.ne_of_gt (blk_lt (g := gb101) (o := .cells #[.slice (some ad102) l0_0.length c0_0] 30 (0, 0)) (by (with_reducible repeat (first | refine blk_drewN ?_ _ | refine blk_drew ?_ | refine blk_alloc ?_ _)); exact BK101.out)) : gb104 ≠ gb101)); clear BK101; clear HB; have BK101 := n0_; have HB := n1_; have BK104 := n2_; have GW104 := n3_; have GE104 := n4_; have NB101_104 := n5_; have NB104_101 := n6_; clear n0_ n1_ n2_ n3_ n4_ n5_ n6_; clear hb hbox hg; have hnb12 := NB104_101.out; have hnc12 := NB101_104.out; have hcz13_0 : w11.cell? ⟨gb104, 0, none⟩ = some (.int .i64 0) := (blk_cell BK104.out 0).trans rfl; have hcz13_1 : w11.cell? ⟨gb104, 1, none⟩ = some (.int .i64 0) := (blk_cell BK104.out 1).trans rfl; have hfz13_0 := blk_frozen BK104.out 0; have hfz13_1 := blk_frozen BK104.out 1))
  go_ret
  exact ⟨by first | rfl | (simp [errW_none, errW_some] <;> rfl) | (simp [*, errW_none, errW_some] <;> rfl), by repeat (first | (with_reducible first | exact HB.out | apply below_alloc | apply pw_below_drewN | apply below_drew1 | refine below_set ?_ GE101.out | refine below_set ?_ GE104.out) | exact HB.out)⟩
 next =>
  rw [if_neg c8] at H
  have c8b0 : (((rd_Face (rd_LFace l0_0 a1) a2).f0) == (-1)) = false := beq_eq_false_iff_ne.mpr c8
  have c8b1 : (((rd_Face (rd_LFace l0_0 a1) a2).f0) != (-1)) = true := bne_iff_ne.mpr c8
  have HC14 := Aside0.mk H
  clear H
  go_enter Try.func37, Try.ntmps37
  go_upto_region 4 with (first | ((with_reducible refine gate_dst (N := 3) rfl ?_); refine box_event ?hg (N := 3) ?hd (cs := #[.slice A0_0 l0_0.length c0_0]) (t := 30) ?hr ?_; (case hd => rfl); (case hg => rfl); (case hr => first | (go_simp; done) | (go_simp; rfl)); intro gb101 hg w15 hbox hb; have n0_ := Aside0.mk (below_step (by repeat (first | (with_reducible first | exact HB.out | apply below_alloc | apply pw_below_drewN | apply below_drew1) | exact HB.out)) hb); have n1_ := Aside0.mk (hbox); have n2_ := Aside0.mk ((by rw [hg]; exact (below_size (by repeat (first | (with_reducible first | exact HB.out | apply below_alloc | apply pw_below_drewN | apply below_drew1) | exact HB.out))) : w.heap.size ≤ gb101)); have n3_ := Aside0.mk ((by rw [hg]; exact (below_size (by repeat (first | (with_reducible first | exact HB.out | apply below_alloc | apply pw_below_drewN | apply below_drew1) | exact HB.out))) : w.heap.size ≤ gb101)); clear HB; have HB := n0_; have BK101 := n1_; have GW101 := n2_; have GE101 := n3_; clear n0_ n1_ n2_ n3_; clear hb hbox hg; have hcz16_0 : w15.cell? ⟨gb101, 0, none⟩ = some (.slice A0_0 l0_0.length c0_0) := (blk_cell BK101.out 0).trans rfl; have hfz16_0 := blk_frozen BK101.out 0; have p102 : 0 ≤ (a1 : Int) := of_decide_eq_true (by first | (with_reducible assumption) | assumption); have q102 : a1 < (l0_0.length : Int) := of_decide_eq_true (by first | (with_reducible assumption) | assumption); obtain ⟨ad102, A102_0, c102_0, e102, hx102_0, hl102_0, hi102_0⟩ := at_LFace HR0_0.out a1 p102 q102; cases e102; replace hx102_0 := (HB.out.cell (yny w _ hx102_0)).trans hx102_0; have HR102_0 := Aside0.mk hi102_0; have HC102_0 := Aside0.mk hl102_0; clear hi102_0 hl102_0; replace p102 := eq_true p102; replace q102 := eq_true q102; have p103 : 0 ≤ (a2 : Int) := of_decide_eq_true (by first | (with_reducible assumption) | assumption); have q103 : a2 < ((rd_LFace l0_0 a1).length : Int) := of_decide_eq_true (by first | (with_reducible assumption) | assumption); obtain ⟨ad103, e103, hx103_0, hx103_1⟩ := at_Face HR102_0.out a2 p103 q103; cases e103; replace hx103_0 := (HB.out.cell (yny w _ hx103_0)).trans hx103_0; replace hx103_1 := (HB.out.cell (yny w _ hx103_1)).trans hx103_1; replace p103 := eq_true p103; replace q103 := eq_true q103) | ((with_reducible refine gate_dst (N := 7) rfl ?_); refine box_event ?hg (N := 7) ?hd (cs := #[.int .i64 0, .int .i64 0]) (t := 56) ?hr ?_; (case hd => rfl); (case hg => rfl); (case hr => first | (go_simp; done) | (go_simp; rfl)); intro gb104 hg w17 hbox hb; have n0_ := Aside0.mk (blk_below (g := gb101) (o := .cells #[.slice (some ad102) l0_0.length c0_0] 30 (0, 0)) (by (with_reducible repeat (first | refine blk_drewN ?_ _ | refine blk_drew ?_ | refine blk_alloc ?_ _)); exact BK101.out) hb); have n1_ := Aside0.mk (below_step (by repeat (first | (with_reducible first | exact HB.out | apply below_alloc | apply pw_below_drewN | apply below_drew1 | refine below_set ?_ GE101.out) | exact HB.out)) hb); have n2_ := Aside0.mk (hbox); have n3_ := Aside0.mk ((by rw [hg]; exact (below_size (by repeat (first | (with_reducible first | exact HB.out | apply below_alloc | apply pw_below_drewN | apply below_drew1 | refine below_set ?_ GE101.out) | exact HB.out))) : w.heap.size ≤ gb104)); have n4_ := Aside0.mk ((by rw [hg]; exact (below_size (by repeat (first | (with_reducible first | exact HB.out | apply below_alloc | apply pw_below_drewN | apply below_drew1 | refine below_set ?_ GE101.out) | exact HB.out))) : w.heap.size ≤ gb104)); have n5_ := Aside0.mk ((by rw [hg]; exact Nat.ne_of_lt (blk_lt (g := gb101) (o := .cells #[.slice (some ad102) l0_0.length c0_0] 30 (0, 0)) (by (with_reducible repeat (first | refine blk_drewN ?_ _ | refine blk_drew ?_ | refine blk_alloc ?_ _)); exact BK101.out)) : gb101 ≠ gb104)); have n6_ := Aside0.mk ((by rw [hg]; exact Nat.ne_of_gt (blk_lt (g := gb101) (o := .cells #[.slice (some ad102) l0_0.length c0_0] 30 (0, 0)) (by (with_reducible repeat (first | refine blk_drewN ?_ _ | refine blk_drew ?_ | refine blk_alloc ?_ _)); exact BK101.out)) : gb104 ≠ gb101)); clear BK101; clear HB; have BK101 := n0_; have HB := n1_; have BK104 := n2_; have GW104 := n3_; have GE104 := n4_; have NB101_104 := n5_; have NB104_101 := n6_; clear n0_ n1_ n2_ n3_ n4_ n5_ n6_; clear hb hbox hg; have hnb18 := NB104_101.out; have hnc18 := NB101_104.out; have hcz19_0 : w17.cell? ⟨gb104, 0, none⟩ = some (.int .i64 0) := (blk_cell BK104.out 0).trans rfl; have hcz19_1 : w17.cell? ⟨gb104, 1, none⟩ = some (.int .i64 0) := (blk_cell BK104.out 1).trans rfl; have hfz19_0 := blk_frozen BK104.out 0; have hfz19_1 := blk_frozen BK104.out 1))
  (try simp only [Act.put, yay, yby, ycy])
  go_cut [34] (fun v34 wc => ∃ (kq : Nat) (x34_13 : Bool), v34 = .bool x34_13 ∧ Aside0 (impl_Triangulation_isGood.j0 kq a1 a2 x34_13 l0_0 ((rd_Face (rd_LFace l0_0 a1) a2).f0) ((rd_Face (rd_LFace l0_0 a1) a2).f1) = some r) ∧ Aside0 (kq ≤ k) ∧ Aside0 (wc.heap[gb101]? = some (.cells #[(.slice (some ad102) l0_0.length c0_0)] 30 (0, 0))) ∧ Aside0 (wc.heap[gb104]? = some (.cells #[.int .i64 ((rd_Face (rd_LFace l0_0 a1) a2).f0), .int .i64 ((rd_Face (rd_LFace l0_0 a1) a2).f1)] 56 (0, 0))) ∧ Aside0 (Below w.heap.size w wc))
  case first =>
   have H := HC14.out
   clear HC14
   replace H := ydy.mp H
   obtain ⟨t105, A200, H⟩ := H
   replace H : (if t105 = true then ((impl_isPerm.f ((rd_Face (rd_LFace l0_0 a1) a2).f1)).bind fun t106 => (impl_Triangulation_isGood.j0 k a1 a2 (!t106) l0_0 ((rd_Face (rd_LFace l0_0 a1) a2).f0) ((rd_Face (rd_LFace l0_0 a1) a2).f1))) else (impl_Triangulation_isGood.j0 k a1 a2 true l0_0 ((rd_Face (rd_LFace l0_0 a1) a2).f0) ((rd_Face (rd_LFace l0_0 a1) a2).f1))) = some r := H
   have A20 := Aside0.mk A200
   clear A200
   by_cases c21 : t105 = true
   rotate_left
   next =>
    replace c21 := Bool.eq_false_iff.mpr c21
    subst c21
    have H1 : (impl_Triangulation_isGood.j0 k a1 a2 true l0_0 ((rd_Face (rd_LFace l0_0 a1) a2).f0) ((rd_Face (rd_LFace l0_0 a1) a2).f1)) = some r := by rw [if_neg (show ¬ (false = true) by decide)] at H; exact H
    clear H
    have H := H1
    clear H1
    have H' := Aside0.mk H
    clear H
    have hnb26 := NB101_104.out
    have hnc26 := NB104_101.out
    have hcz27_0 : w17.cell? ⟨gb101, 0, none⟩ = some (.slice (some ad102) l0_0.length c0_0) := (blk_cell BK101.out 0).trans rfl
    have hfz27_0 := blk_frozen BK101.out 0
    have hcz28_0 : w17.cell? ⟨gb104, 0, none⟩ = some (.int .i64 0) := (blk_cell BK104.out 0).trans rfl
    have hcz28_1 : w17.cell? ⟨gb104, 1, none⟩ = some (.int .i64 0) := (blk_cell BK104.out 1).trans rfl
    have hfz28_0 := blk_frozen BK104.out 0
    have hfz28_1 := blk_frozen BK104.out 1
    go_wp2_with (first | ((with_reducible refine gate_callee (f := 53) rfl ?_); refine goesL_ (some 27) rfl rfl Try.func53 (by kernel_rfl) rfl #[.slice (some ad102) l0_0.length c0_0, .int .i64 ((rd_Face (rd_LFace l0_0 a1) a2).f0)] rfl (by (try simp only [yiy, yjy, yky]); first | done | rfl | (simp only [yly, ymy]; rfl)) ?_; (with_reducible refine (impl_hasIndex_Simpl_Face.calls _ _ l0_0 ((rd_Face (rd_LFace l0_0 a1) a2).f0) false _ ?side1 ?side2 A20.out).mono ?_); (case side1 => exact Kd.C_below HR0_0.out (by repeat (first | (with_reducible first | exact HB.out | apply below_alloc | apply pw_below_drewN | apply below_drew1 | refine below_set ?_ GE101.out | refine below_set ?_ GE104.out) | exact HB.out))); (case side2 => exact HC0_0.out); rintro e w' ⟨rfl, ⟨nd, rfl⟩⟩; refine ⟨_, rfl, ?_⟩))
    go_meet
    case rel => exact ⟨_, (true), (by first | rfl | (simp; done) | (simp [*]; done)), H', ⟨by first | omega | exact yoy _⟩, ⟨by (with_reducible repeat (first | refine blk_drewN ?_ _ | refine blk_drew ?_ | refine blk_alloc ?_ _)); refine blk_far ?_ NB101_104.out _; (with_reducible repeat (first | refine blk_drewN ?_ _ | refine blk_drew ?_ | refine blk_alloc ?_ _)); refine blk_far ?_ NB101_104.out _; (with_reducible repeat (first | refine blk_drewN ?_ _ | refine blk_drew ?_ | refine blk_alloc ?_ _)); exact BK101.out⟩, ⟨by (with_reducible repeat (first | refine blk_drewN ?_ _ | refine blk_drew ?_ | refine blk_alloc ?_ _)); refine blk_put (cs := #[.int .i64 ((rd_Face (rd_LFace l0_0 a1) a2).f0), .int .i64 0]) ?_ 1 _ rfl; (with_reducible repeat (first | refine blk_drewN ?_ _ | refine blk_drew ?_ | refine blk_alloc ?_ _)); refine blk_put (cs := #[.int .i64 0, .int .i64 0]) ?_ 0 _ rfl; (with_reducible repeat (first | refine blk_drewN ?_ _ | refine blk_drew ?_ | refine blk_alloc ?_ _)); exact BK104.out⟩, ⟨by repeat (first | (with_reducible first | exact HB.out | apply below_alloc | apply pw_below_drewN | apply below_drew1 | refine below_set ?_ GE101.out | refine below_set ?_ GE104.out) | exact HB.out)⟩⟩
   subst c21
   have H1 : ((impl_isPerm.f ((rd_Face (rd_LFace l0_0 a1) a2).f1)).bind fun t106 => (impl_Triangulation_isGood.j0 k a1 a2 (!t106) l0_0 ((rd_Face (rd_LFace l0_0 a1) a2).f0) ((rd_Face (rd_LFace l0_0 a1) a2).f1))) = some r := by rw [if_pos rfl] at H; exact H
   clear H
   have H := H1
   clear H1
   replace H := ydy.mp H
   obtain ⟨t106, A220, H⟩ := H
   replace H : (impl_Triangulation_isGood.j0 k a1 a2 (!t106) l0_0 ((rd_Face (rd_LFace l0_0 a1) a2).f0) ((rd_Face (rd_LFace l0_0 a1) a2).f1)) = some r := H
   have A22 := Aside0.mk A220
   clear A220
   have H' := Aside0.mk H
   clear H
   have hnb23 := NB101_104.out
   have hnc23 := NB104_101.out
   have hcz24_0 : w17.cell? ⟨gb101, 0, none⟩ = some (.slice (some ad102) l0_0.length c0_0) := (blk_cell BK101.out 0).trans rfl
   have hfz24_0 := blk_frozen BK101.out 0
   have hcz25_0 : w17.cell? ⟨gb104, 0, none⟩ = some (.int .i64 0) := (blk_cell BK104.out 0).trans rfl
   have hcz25_1 : w17.cell? ⟨gb104, 1, none⟩ = some (.int .i64 0) := (blk_cell BK104.out 1).trans rfl
   have hfz25_0 := blk_frozen BK104.out 0
   have hfz25_1 := blk_frozen BK104.out 1
   go_wp2_with (first | ((with_reducible refine gate_callee (f := 53) rfl ?_); refine goesL_ (some 27) rfl rfl Try.func53 (by kernel_rfl) rfl #[.slice (some ad102) l0_0.length c0_0, .int .i64 ((rd_Face (rd_LFace l0_0 a1) a2).f0)] rfl (by (try simp only [yiy, yjy, yky]); first | done | rfl | (simp only [yly, ymy]; rfl)) ?_; (with_reducible refine (impl_hasIndex_Simpl_Face.calls _ _ l0_0 ((rd_Face (rd_LFace l0_0 a1) a2).f0) true _ ?side1 ?side2 A20.out).mono ?_); (case side1 => exact Kd.C_below HR0_0.out (by repeat (first | (with_reducible first | exact HB.out | apply below_alloc | apply pw_below_drewN | apply below_drew1 | refine below_set ?_ GE101.out | refine below_set ?_ GE104.out) | exact HB.out))); (case side2 => exact HC0_0.out); rintro e w' ⟨rfl, ⟨nd, rfl⟩⟩; refine ⟨_, rfl, ?_⟩) | (go_at_call 54; (with_reducible refine (impl_isPerm.calls ((rd_Face (rd_LFace l0_0 a1) a2).f1) t106 _ A22.out).mono ?_); rintro e w' ⟨rfl, ⟨nd, rfl⟩⟩))
   go_meet
   case rel => exact ⟨_, (!t106), (by first | rfl | (simp; done) | (simp [*]; done)), H', ⟨by first | omega | exact yoy _⟩, ⟨by (with_reducible repeat (first | refine blk_drewN ?_ _ | refine blk_drew ?_ | refine blk_alloc ?_ _)); refine blk_far ?_ NB101_104.out _; (with_reducible repeat (first | refine blk_drewN ?_ _ | refine blk_drew ?_ | refine blk_alloc ?_ _)); refine blk_far ?_ NB101_104.out _; (with_reducible repeat (first | refine blk_drewN ?_ _ | refine blk_drew ?_ | refine blk_alloc ?_ _)); exact BK101.out⟩, ⟨by (with_reducible repeat (first | refine blk_drewN ?_ _ | refine blk_drew ?_ | refine blk_alloc ?_ _)); refine blk_put (cs := #[.int .i64 ((rd_Face (rd_LFace l0_0 a1) a2).f0), .int .i64 0]) ?_ 1 _ rfl; (with_reducible repeat (first | refine blk_drewN ?_ _ | refine blk_drew ?_ | refine blk_alloc ?_ _)); refine blk_put (cs := #[.int .i64 0, .int .i64 0]) ?_ 0 _ rfl; (with_reducible repeat (first | refine blk_drewN ?_ _ | refine blk_drew ?_ | refine blk_alloc ?_ _)); exact BK104.out⟩, ⟨by repeat (first | (with_reducible first | exact HB.out | apply below_alloc | apply pw_below_drewN | apply below_drew1 | refine below_set ?_ GE101.out | refine below_set ?_ GE104.out) | exact HB.out)⟩⟩
  case rest =>
   clear HC14
   try clear c1
   try clear p1
   try clear q1
   try clear hx1
   try clear c2
   try clear p2
   try clear c3
   try clear c4
   try clear c4b0
   try clear c5
   try clear c5b0
   try clear c6
   try clear c6b0
   try clear c7
   try clear c7b0
   try clear c8
   try clear c8b0
   try clear c8b1
   try clear c10
   try clear p10
   try clear q10
   try clear hx10
   try clear c12
   try clear c18
   try clear c21
   try clear c23
   try clear c26
   try clear hcz10_0
   try clear hcz13_0
   try clear hcz13_1
   try clear hcz16_0
   try clear hcz19_0
   try clear hcz19_1
   try clear hcz24_0
   try clear hcz25_0
   try clear hcz25_1
   try clear hcz27_0
   try clear hcz28_0
   try clear hcz28_1
   try clear hfz10_0
   try clear hfz13_0
   try clear hfz13_1
   try clear hfz16_0
   try clear hfz19_0
   try clear hfz19_1
   try clear hfz24_0
   try clear hfz25_0
   try clear hfz25_1
   try clear hfz27_0
   try clear hfz28_0
   try clear hfz28_1
   try clear hx102_0
   try clear hx103_0
   try clear hx103_1
   try clear p102
   try clear p103
   try clear q102
   try clear q103
   obtain ⟨kq, x34_13, rfl, HA, HJ13, BK101, BK104, HB⟩ := hcut
   cases kq with
   | zero => exact absurd HA.out (by simp [impl_Triangulation_isGood.j0])
   | succ kj13 =>
    have H := HA.out
    clear HA
    simp only [impl_Triangulation_isGood.j0] at H
    by_cases c29 : x34_13 = true
    next =>
     subst c29
     have H1 : (some false) = some r := by rw [if_pos rfl] at H; exact H
     clear H
     have H := H1
     clear H1
     obtain rfl := yey H
     go_wp2
     go_ret
     exact ⟨by first | rfl | (simp [errW_none, errW_some] <;> rfl) | (simp [*, errW_none, errW_some] <;> rfl), by repeat (first | (with_reducible first | exact HB.out | apply below_alloc | apply pw_below_drewN | apply below_drew1 | refine below_set ?_ GE101.out | refine below_set ?_ GE104.out) | exact HB.out)⟩
    next =>
     replace c29 := Bool.eq_false_iff.mpr c29
     subst c29
     have H1 : ((impl_Face_target.f ((rd_Face (rd_LFace l0_0 a1) a2).f0) ((rd_Face (rd_LFace l0_0 a1) a2).f1) a2).bind fun t107 => (if 0 ≤ ((rd_Face (rd_LFace l0_0 a1) a2).f0) then (if ((rd_Face (rd_LFace l0_0 a1) a2).f0) < (l0_0.length : Int) then (if 0 ≤ t107 then (if t107 < ((rd_LFace l0_0 ((rd_Face (rd_LFace l0_0 a1) a2).f0)).length : Int) then ((impl_Face_partner.f ((rd_Face (rd_LFace l0_0 a1) a2).f0) ((rd_Face (rd_LFace l0_0 a1) a2).f1) a1).bind fun bt110 => (if (((rd_Face (rd_LFace l0_0 ((rd_Face (rd_LFace l0_0 a1) a2).f0)) t107).f0) == bt110.1 && (((rd_Face (rd_LFace l0_0 ((rd_Face (rd_LFace l0_0 a1) a2).f0)) t107).f1) == bt110.2)) = true then (if ((rd_Face (rd_LFace l0_0 a1) a2).f0) = a1 then (some (t107 != a2)) else (some true)) else (some false))) else (none)) else (none)) else (none)) else (none))) = some r := by rw [if_neg (show ¬ (false = true) by decide)] at H; exact H
     clear H
     have H := H1
     clear H1
     replace H := ydy.mp H
     obtain ⟨t107, A300, H⟩ := H
     replace H : (if 0 ≤ ((rd_Face (rd_LFace l0_0 a1) a2).f0) then (if ((rd_Face (rd_LFace l0_0 a1) a2).f0) < (l0_0.length : Int) then (if 0 ≤ t107 then (if t107 < ((rd_LFace l0_0 ((rd_Face (rd_LFace l0_0 a1) a2).f0)).length : Int) then ((impl_Face_partner.f ((rd_Face (rd_LFace l0_0 a1) a2).f0) ((rd_Face (rd_LFace l0_0 a1) a2).f1) a1).bind fun bt110 => (if (((rd_Face (rd_LFace l0_0 ((rd_Face (rd_LFace l0_0 a1) a2).f0)) t107).f0) == bt110.1 && (((rd_Face (rd_LFace l0_0 ((rd_Face (rd_LFace l0_0 a1) a2).f0)) t107).f1) == bt110.2)) = true then (if ((rd_Face (rd_LFace l0_0 a1) a2).f0) = a1 then (some (t107 != a2)) else (some true)) else (some false))) else (none)) else (none)) else (none)) else (none)) = some r := H
     have A30 := Aside0.mk A300
     clear A300
     by_cases c31 : 0 ≤ ((rd_Face (rd_LFace l0_0 a1) a2).f0)
     rotate_left
     next =>
      rw [if_neg c31] at H
      exact absurd H (by simp)
     rw [if_pos c31] at H
     have c31b0 : decide (0 ≤ ((rd_Face (rd_LFace l0_0 a1) a2).f0)) = true := ygy c31
     clear c31
     by_cases c32 : ((rd_Face (rd_LFace l0_0 a1) a2).f0) < (l0_0.length : Int)
     rotate_left
     next =>
      rw [if_neg c32] at H
      exact absurd H (by simp)
     rw [if_pos c32] at H
     have c32b0 : decide (((rd_Face (rd_LFace l0_0 a1) a2).f0) < (l0_0.length : Int)) = true := ygy c32
     clear c32
     by_cases c33 : 0 ≤ t107
     rotate_left
     next =>
      rw [if_neg c33] at H
      exact absurd H (by simp)
     rw [if_pos c33] at H
     have c33b0 : decide (0 ≤ t107) = true := ygy c33
     clear c33
     by_cases c34 : t107 < ((rd_LFace l0_0 ((rd_Face (rd_LFace l0_0 a1) a2).f0)).length : Int)
     rotate_left
     next =>
      rw [if_neg c34] at H
      exact absurd H (by simp)
     rw [if_pos c34] at H
     have c34b0 : decide (t107 < ((rd_LFace l0_0 ((rd_Face (rd_LFace l0_0 a1) a2).f0)).length : Int)) = true := ygy c34
     clear c34
     replace H := ydy.mp H
     obtain ⟨⟨t110, t111⟩, A350, H⟩ := H
     replace H : (if (((rd_Face (rd_LFace l0_0 ((rd_Face (rd_LFace l0_0 a1) a2).f0)) t107).f0) == t110 && (((rd_Face (rd_LFace l0_0 ((rd_Face (rd_LFace l0_0 a1) a2).f0)) t107).f1) == t111)) = true then (if ((rd_Face (rd_LFace l0_0 a1) a2).f0) = a1 then (some (t107 != a2)) else (some true)) else (some false)) = some r := H
     have A35 := Aside0.mk A350
     clear A350
     by_cases c36 : (((rd_Face (rd_LFace l0_0 ((rd_Face (rd_LFace l0_0 a1) a2).f0)) t107).f0) == t110 && (((rd_Face (rd_LFace l0_0 ((rd_Face (rd_LFace l0_0 a1) a2).f0)) t107).f1) == t111)) = true
     rotate_left
     next =>
      rw [if_neg c36] at H
      have c36b0 : (((rd_Face (rd_LFace l0_0 ((rd_Face (rd_LFace l0_0 a1) a2).f0)) t107).f0) == t110 && (((rd_Face (rd_LFace l0_0 ((rd_Face (rd_LFace l0_0 a1) a2).f0)) t107).f1) == t111)) = false := by simpa using c36
      (try (have c36b1 : decide (((rd_Face (rd_LFace l0_0 ((rd_Face (rd_LFace l0_0 a1) a2).f0)) t107).f0) = t110 && (((rd_Face (rd_LFace l0_0 ((rd_Face (rd_LFace l0_0 a1) a2).f0)) t107).f1) == t111)) = false := by simpa using c36))
      (try (have c36b2 : (((rd_Face (rd_LFace l0_0 ((rd_Face (rd_LFace l0_0 a1) a2).f0)) t107).f0) == t110 && (((rd_Face (rd_LFace l0_0 ((rd_Face (rd_LFace l0_0 a1) a2).f0)) t107).f1) == t111)) = false := by simpa using c36))
      (try (have c36b3 : ¬ (((rd_Face (rd_LFace l0_0 ((rd_Face (rd_LFace l0_0 a1) a2).f0)) t107).f0) = t110 && (((rd_Face (rd_LFace l0_0 ((rd_Face (rd_LFace l0_0 a1) a2).f0)) t107).f1) == t111)) := by simpa using c36))
      clear c36
      obtain rfl := yey H
      have hnb48 := NB104_101.out
      have hnc48 := NB101_104.out
      have hcz49_0 : wc.cell? ⟨gb104, 0, none⟩ = some (.int .i64 ((rd_Face (rd_LFace l0_0 a1) a2).f0)) := (blk_cell BK104.out 0).trans rfl
      have hcz49_1 : wc.cell? ⟨gb104, 1, none⟩ = some (.int .i64 ((rd_Face (rd_LFace l0_0 a1) a2).f1)) := (blk_cell BK104.out 1).trans rfl
      have hfz49_0 := blk_frozen BK104.out 0
      have hfz49_1 := blk_frozen BK104.out 1
      try go_wp2_with (first | ((with_reducible refine gate_callee (f := 55) rfl ?_); refine goesL_ (some 37) rfl rfl Try.func55 (by kernel_rfl) rfl #[.agg #[.int .i64 ((rd_Face (rd_LFace l0_0 a1) a2).f0), .int .i64 ((rd_Face (rd_LFace l0_0 a1) a2).f1)], .int .i64 a2] rfl (by (try simp only [yiy, yjy, yky]); first | done | rfl | (simp only [yly, ymy]; rfl)) ?_; (with_reducible refine (impl_Face_target.calls ((rd_Face (rd_LFace l0_0 a1) a2).f0) ((rd_Face (rd_LFace l0_0 a1) a2).f1) a2 t107 _ A30.out).mono ?_); rintro e w50 ⟨rfl, hb⟩; refine ⟨_, rfl, ?_⟩; have n0_ := Aside0.mk (blk_below (g := gb101) (o := .cells #[.slice (some ad102) l0_0.length c0_0] 30 (0, 0)) (by (with_reducible repeat (first | refine blk_drewN ?_ _ | refine blk_drew ?_ | refine blk_alloc ?_ _)); exact BK101.out) hb); have n1_ := Aside0.mk (blk_below (g := gb104) (o := .cells #[.int .i64 ((rd_Face (rd_LFace l0_0 a1) a2).f0), .int .i64 ((rd_Face (rd_LFace l0_0 a1) a2).f1)] 56 (0, 0)) (by (with_reducible repeat (first | refine blk_drewN ?_ _ | refine blk_drew ?_ | refine blk_alloc ?_ _)); exact BK104.out) hb); have n2_ := Aside0.mk (below_step (by repeat (first | (with_reducible first | exact HB.out | apply below_alloc | apply pw_below_drewN | apply below_drew1 | refine below_set ?_ GE101.out | refine below_set ?_ GE104.out) | exact HB.out)) hb); clear BK101; clear BK104; clear HB; have BK101 := n0_; have BK104 := n1_; have HB := n2_; clear n0_ n1_ n2_; (try clear hb); (try clear hb2); (try clear hk); (try clear hi)))
      have n0_ := Aside0.mk (blk_drew BK101.out)
      have n1_ := Aside0.mk (blk_drew BK104.out)
      have n2_ := Aside0.mk (below_drew1 HB.out)
      clear BK101
      clear BK104
      clear HB
      have BK101 := n0_
      have BK104 := n1_
      have HB := n2_
      clear n0_ n1_ n2_
      have p108 : 0 ≤ (((rd_Face (rd_LFace l0_0 a1) a2).f0) : Int) := of_decide_eq_true (by first | (with_reducible assumption) | assumption)
      have q108 : ((rd_Face (rd_LFace l0_0 a1) a2).f0) < (l0_0.length : Int) := of_decide_eq_true (by first | (with_reducible assumption) | assumption)
      obtain ⟨ad108, A108_0, c108_0, e108, hx108_0, hl108_0, hi108_0⟩ := at_LFace HR0_0.out ((rd_Face (rd_LFace l0_0 a1) a2).f0) p108 q108
      have hw108_0 := hx108_0
      obtain rfl : ad102 = ad108 := (by injection e108)
      replace hx108_0 := (HB.out.cell (yny w _ hx108_0)).trans hx108_0
      have HR108_0 := Aside0.mk hi108_0
      have HC108_0 := Aside0.mk hl108_0
      clear hi108_0 hl108_0
      replace p108 := eq_true p108
      replace q108 := eq_true q108
      have p109 : 0 ≤ (t107 : Int) := of_decide_eq_true (by first | (with_reducible assumption) | assumption)
      have q109 : t107 < ((rd_LFace l0_0 ((rd_Face (rd_LFace l0_0 a1) a2).f0)).length : Int) := of_decide_eq_true (by first | (with_reducible assumption) | assumption)
      obtain ⟨ad109, e109, hx109_0, hx109_1⟩ := at_Face HR108_0.out t107 p109 q109
      have hw109_1 := hx109_1
      have hw109_0 := hx109_0
      cases e109
      replace hx109_0 := (HB.out.cell (yny w _ hx109_0)).trans hx109_0
      replace hx109_1 := (HB.out.cell (yny w _ hx109_1)).trans hx109_1
      replace p109 := eq_true p109
      replace q109 := eq_true q109
      refine start_ (n := 25) (S := fun w' => w'.cell? ⟨gb101, 0, none⟩ = some (.slice (some ad102) l0_0.length c0_0) ∧ w'.cell? ⟨gb104, 0, none⟩ = some (.int .i64 ((rd_Face (rd_LFace l0_0 a1) a2).f0)) ∧ w'.cell? ⟨gb104, 1, none⟩ = some (.int .i64 ((rd_Face (rd_LFace l0_0 a1) a2).f1)) ∧ w'.cell? (ad102.add (((rd_Face (rd_LFace l0_0 a1) a2).f0)).toNat) = some (.slice (some ad109) (rd_LFace l0_0 ((rd_Face (rd_LFace l0_0 a1) a2).f0)).length c108_0) ∧ w'.cell? (ad109.add ((t107).toNat * 2)) = some (.int .i64 ((rd_Face (rd_LFace l0_0 ((rd_Face (rd_LFace l0_0 a1) a2).f0)) t107).f0)) ∧ w'.cell? ⟨(ad109.add ((t107).toNat * 2)).block, (ad109.add ((t107).toNat * 2)).off + 1, none⟩ = some (.int .i64 ((rd_Face (rd_LFace l0_0 ((rd_Face (rd_LFace l0_0 a1) a2).f0)) t107).f1))) (ds := []) #[false, false, false, false, false, false, false, false, false, false, false, false, false, false, false, false, false, false, false, false, false, false, false, false, false] (by kernel_rfl) rfl rfl ⟨(blk_cell BK101.out 0).trans rfl, (blk_cell BK104.out 0).trans rfl, (blk_cell BK104.out 1).trans rfl, ((HB.out.cell (yny w _ hw108_0)).trans hw108_0), ((HB.out.cell (yny w _ hw109_0)).trans hw109_0), ((HB.out.cell (yny w _ hw109_1)).trans hw109_1)⟩ (fun hHeld => ?_); refine with_tabW impl_Triangulation_isGood.tab7 impl_Triangulation_isGood.bits7 (fun HT_ HW_ => ?_)
      generalize w50.drew = w51 at BK101 BK104 HB HR108_0 hx108_0 hx109_0 hx109_1 hHeld ⊢
      refine pure_ (i := 0) (N := some 38) (v := ?_) (a' := ?_) #[true, false, false, false, false, false, false, false, false, false, false, false, false, false, false, false, false, false, false, false, false, false, false, false, false] rfl rfl (any_of HT_.out (by kernel_rfl)) (fun _ _ _ h => h) (Or.inl ⟨by rfl, ?_⟩) ?_ ?_
      rotate_left
      next =>
       intro w'
       go_simp
       with_reducible rfl
      rotate_left
      next =>
       simp only [Act.put, yay, yby, ycy, i64_w, i32_w]
       rfl
      refine pure_ (i := 2) (N := some 40) (v := ?_) (a' := ?_) #[true, false, true, false, false, false, false, false, false, false, false, false, false, false, false, false, false, false, false, false, false, false, false, false, false] rfl rfl (any_of HT_.out (by kernel_rfl)) (fun _ _ _ h => h) (Or.inl ⟨by rfl, ?_⟩) ?_ ?_
      rotate_left
      next =>
       intro w'
       go_simp
       with_reducible rfl
      rotate_left
      next =>
       simp only [Act.put, yay, yby, ycy, i64_w, i32_w]
       rfl
      refine pure_ (i := 6) (N := some 44) (v := ?_) (a' := ?_) #[true, false, true, false, false, false, true, false, false, false, false, false, false, false, false, false, false, false, false, false, false, false, false, false, false] rfl rfl (any_of HT_.out (by kernel_rfl)) (fun _ _ _ h => h) (Or.inl ⟨by rfl, ?_⟩) ?_ ?_
      rotate_left
      next =>
       intro w'
       go_simp
       with_reducible rfl
      rotate_left
      next =>
       simp only [Act.put, yay, yby, ycy, i64_w, i32_w]
       rfl
      refine pure_ (i := 10) (N := some 48) (v := ?_) (a' := ?_) #[true, false, true, false, false, false, true, false, false, false, true, false, false, false, false, false, false, false, false, false, false, false, false, false, false] rfl rfl (any_of HT_.out (by kernel_rfl)) (fun _ _ _ h => h) (Or.inl ⟨by rfl, ?_⟩) ?_ ?_
      rotate_left
      next =>
       intro w'
       go_simp
       with_reducible rfl
      rotate_left
      next =>
       simp only [Act.put, yay, yby, ycy, i64_w, i32_w]
       rfl
      refine take_ (i := 1) (N := some 39) (v := ?_) (a' := ?_) #[true, true, true, false, false, false, true, false, false, false, true, false, false, false, false, false, false, false, false, false, false, false, false, false, false] rfl rfl (take_ofW HT_.out HW_.out (by kernel_rfl)) (fun _ _ _ h => h) (Or.inl ⟨by rfl, ?_⟩) hHeld ?_ ?_
      rotate_left
      next =>
       rintro w' ⟨s0, s1, s2, s3, s4, s5⟩
       go_simp
       with_reducible rfl
      rotate_left
      next =>
       simp only [Act.put, yay, yby, ycy, i64_w, i32_w]
       rfl
      refine take_ (i := 3) (N := some 41) (v := ?_) (a' := ?_) #[true, true, true, true, false, false, true, false, false, false, true, false, false, false, false, false, false, false, false, false, false, false, false, false, false] rfl rfl (take_ofW HT_.out HW_.out (by kernel_rfl)) (fun _ _ _ h => h) (Or.inl ⟨by rfl, ?_⟩) hHeld ?_ ?_
      rotate_left
      next =>
       rintro w' ⟨s0, s1, s2, s3, s4, s5⟩
       go_simp
       with_reducible rfl
      rotate_left
      next =>
       simp only [Act.put, yay, yby, ycy, i64_w, i32_w]
       rfl
      refine pure_ (i := 4) (N := some 42) (v := ?_) (a' := ?_) #[true, true, true, true, true, false, true, false, false, false, true, false, false, false, false, false, false, false, false, false, false, false, false, false, false] rfl rfl (any_of HT_.out (by kernel_rfl)) (fun _ _ _ h => h) (Or.inl ⟨by rfl, ?_⟩) ?_ ?_
      rotate_left
      next =>
       intro w'
       go_simp
       with_reducible rfl
      rotate_left
      next =>
       simp only [Act.put, yay, yby, ycy, i64_w, i32_w]
       rfl
      refine take_ (i := 5) (N := some 43) (v := ?_) (a' := ?_) #[true, true, true, true, true, true, true, false, false, false, true, false, false, false, false, false, false, false, false, false, false, false, false, false, false] rfl rfl (take_ofW HT_.out HW_.out (by kernel_rfl)) (fun _ _ _ h => h) (Or.inl ⟨by rfl, ?_⟩) hHeld ?_ ?_
      rotate_left
      next =>
       rintro w' ⟨s0, s1, s2, s3, s4, s5⟩
       go_simp
       with_reducible rfl
      rotate_left
      next =>
       simp only [Act.put, yay, yby, ycy, i64_w, i32_w]
       rfl
      refine pure_ (i := 7) (N := some 45) (v := ?_) (a' := ?_) #[true, true, true, true, true, true, true, true, false, false, true, false, false, false, false, false, false, false, false, false, false, false, false, false, false] rfl rfl (any_of HT_.out (by kernel_rfl)) (fun _ _ _ h => h) (Or.inl ⟨by rfl, ?_⟩) ?_ ?_
      rotate_left
      next =>
       intro w'
       go_simp
       with_reducible rfl
      rotate_left
      next =>
       simp only [Act.put, yay, yby, ycy, i64_w, i32_w]
       rfl
      refine take_ (i := 8) (N := some 46) (v := ?_) (a' := ?_) #[true, true, true, true, true, true, true, true, true, false, true, false, false, false, false, false, false, false, false, false, false, false, false, false, false] rfl rfl (take_ofW HT_.out HW_.out (by kernel_rfl)) (fun _ _ _ h => h) (Or.inl ⟨by rfl, ?_⟩) hHeld ?_ ?_
      rotate_left
      next =>
       rintro w' ⟨s0, s1, s2, s3, s4, s5⟩
       go_simp
       with_reducible rfl
      rotate_left
      next =>
       simp only [Act.put, yay, yby, ycy, i64_w, i32_w]
       rfl
      refine take_ (i := 9) (N := some 47) (v := ?_) (a' := ?_) #[true, true, true, true, true, true, true, true, true, true, true, false, false, false, false, false, false, false, false, false, false, false, false, false, false] rfl rfl (take_ofW HT_.out HW_.out (by kernel_rfl)) (fun _ _ _ h => h) (Or.inl ⟨by rfl, ?_⟩) hHeld ?_ ?_
      rotate_left
      next =>
       rintro w' ⟨s0, s1, s2, s3, s4, s5⟩
       go_simp
       with_reducible rfl
      rotate_left
      next =>
       simp only [Act.put, yay, yby, ycy, i64_w, i32_w]
       rfl
      refine one_ (i := 11) (N := some 49) #[true, true, true, true, true, true, true, true, true, true, true, true, false, false, false, false, false, false, false, false, false, false, false, false, false] rfl rfl (one_of HT_.out (by kernel_rfl)) (by decide) (fun K hK => ?_)
      refine goes_ Try.func56 (by kernel_rfl) rfl #[.agg #[.int .i64 ((rd_Face (rd_LFace l0_0 a1) a2).f0), .int .i64 ((rd_Face (rd_LFace l0_0 a1) a2).f1)], .int .i64 a1] (by rfl) rfl rfl (by (try simp only [yiy, yjy, yky]); first | done | rfl | (simp only [yly, ymy]; rfl)) ?_
      with_reducible refine (impl_Face_partner.calls ((rd_Face (rd_LFace l0_0 a1) a2).f0) ((rd_Face (rd_LFace l0_0 a1) a2).f1) a1 t110 t111 _ A35.out).mono ?_
      rintro e w52 ⟨rfl, hb⟩
      refine ⟨_, rfl, ?_⟩
      have n0_ := Aside0.mk (blk_below (g := gb101) (o := .cells #[.slice (some ad102) l0_0.length c0_0] 30 (0, 0)) (by (with_reducible repeat (first | refine blk_drewN ?_ _ | refine blk_drew ?_ | refine blk_alloc ?_ _)); exact BK101.out) hb)
      have n1_ := Aside0.mk (blk_below (g := gb104) (o := .cells #[.int .i64 ((rd_Face (rd_LFace l0_0 a1) a2).f0), .int .i64 ((rd_Face (rd_LFace l0_0 a1) a2).f1)] 56 (0, 0)) (by (with_reducible repeat (first | refine blk_drewN ?_ _ | refine blk_drew ?_ | refine blk_alloc ?_ _)); exact BK104.out) hb)
      have n2_ := Aside0.mk (below_step (by repeat (first | (with_reducible first | exact HB.out | apply below_alloc | apply pw_below_drewN | apply below_drew1 | refine below_set ?_ GE101.out | refine below_set ?_ GE104.out) | exact HB.out)) hb)
      clear BK101
      clear BK104
      clear HB
      have BK101 := n0_
      have BK104 := n1_
      have HB := n2_
      clear n0_ n1_ n2_
      (try clear hb)
      (try clear hb2)
      (try clear hk)
      (try clear hi)
      refine hK.out _ _ ⟨(blk_cell BK101.out 0).trans rfl, (blk_cell BK104.out 0).trans rfl, (blk_cell BK104.out 1).trans rfl, ((HB.out.cell (yny w _ hw108_0)).trans hw108_0), ((HB.out.cell (yny w _ hw109_0)).trans hw109_0), ((HB.out.cell (yny w _ hw109_1)).trans hw109_1)⟩ (fun hHeld => ?_)
      clear hK K
      refine norm_ (a' := ?_) ?_ ?_
      rotate_left
      next =>
       show Act.put _ (some 49) _ = _
       simp only [Act.put, yay, yby, ycy, i64_w, i32_w]
       rfl
      refine pure_ (i := 12) (N := some 50) (v := ?_) (a' := ?_) #[true, true, true, true, true, true, true, true, true, true, true, true, true, false, false, false, false, false, false, false, false, false, false, false, false] rfl rfl (any_of HT_.out (by kernel_rfl)) (fun _ _ _ h => h) (Or.inl ⟨by rfl, ?_⟩) ?_ ?_
      rotate_left
      next =>
       intro w'
       go_simp
       with_reducible rfl
      rotate_left
      next =>
       simp only [Act.put, yay, yby, ycy, i64_w, i32_w]
       rfl
      refine pure_ (i := 13) (N := some 51) (v := ?_) (a' := ?_) #[true, true, true, true, true, true, true, true, true, true, true, true, true, true, false, false, false, false, false, false, false, false, false, false, false] rfl rfl (any_of HT_.out (by kernel_rfl)) (fun _ _ _ h => h) (Or.inl ⟨by rfl, ?_⟩) ?_ ?_
      rotate_left
      next =>
       intro w'
       go_simp
       with_reducible rfl
      rotate_left
      next =>
       simp only [Act.put, yay, yby, ycy, i64_w, i32_w]
       rfl
      refine pure_ (i := 14) (N := some 52) (v := undef) (a' := ?_) #[true, true, true, true, true, true, true, true, true, true, true, true, true, true, true, false, false, false, false, false, false, false, false, false, false] rfl rfl (any_of HT_.out (by kernel_rfl)) (fun _ _ _ h => h) (Or.inr ⟨by rfl, rfl⟩) ?_ ?_
      rotate_left
      next =>
       simp only [Act.put, yay, yby, ycy, i64_w, i32_w]
       rfl
      refine pure_ (i := 15) (N := some 53) (v := undef) (a' := ?_) #[true, true, true, true, true, true, true, true, true, true, true, true, true, true, true, true, false, false, false, false, false, false, false, false, false] rfl rfl (any_of HT_.out (by kernel_rfl)) (fun _ _ _ h => h) (Or.inr ⟨by rfl, rfl⟩) ?_ ?_
      rotate_left
      next =>
       simp only [Act.put, yay, yby, ycy, i64_w, i32_w]
       rfl
      refine pure_ (i := 16) (N := some 54) (v := undef) (a' := ?_) #[true, true, true, true, true, true, true, true, true, true, true, true, true, true, true, true, true, false, false, false, false, false, false, false, false] rfl rfl (any_of HT_.out (by kernel_rfl)) (fun _ _ _ h => h) (Or.inr ⟨by rfl, rfl⟩) ?_ ?_
      rotate_left
      next =>
       simp only [Act.put, yay, yby, ycy, i64_w, i32_w]
       rfl
      refine pure_ (i := 17) (N := some 55) (v := undef) (a' := ?_) #[true, true, true, true, true, true, true, true, true, true, true, true, true, true, true, true, true, true, false, false, false, false, false, false, false] rfl rfl (any_of HT_.out (by kernel_rfl)) (fun _ _ _ h => h) (Or.inr ⟨by rfl, rfl⟩) ?_ ?_
      rotate_left
      next =>
       simp only [Act.put, yay, yby, ycy, i64_w, i32_w]
       rfl
      refine pure_ (i := 18) (N := some 56) (v := undef) (a' := ?_) #[true, true, true, true, true, true, true, true, true, true, true, true, true, true, true, true, true, true, true, false, false, false, false, false, false] rfl rfl (any_of HT_.out (by kernel_rfl)) (fun _ _ _ h => h) (Or.inr ⟨by rfl, rfl⟩) ?_ ?_
      rotate_left
      next =>
       simp only [Act.put, yay, yby, ycy, i64_w, i32_w]
       rfl
      refine pure_ (i := 19) (N := some 57) (v := undef) (a' := ?_) #[true, true, true, true, true, true, true, true, true, true, true, true, true, true, true, true, true, true, true, true, false, false, false, false, false] rfl rfl (any_of HT_.out (by kernel_rfl)) (fun _ _ _ h => h) (Or.inr ⟨by rfl, rfl⟩) ?_ ?_
      rotate_left
      next =>
       simp only [Act.put, yay, yby, ycy, i64_w, i32_w]
       rfl
      refine pure_ (i := 20) (N := some 58) (v := undef) (a' := ?_) #[true, true, true, true, true, true, true, true, true, true, true, true, true, true, true, true, true, true, true, true, true, false, false, false, false] rfl rfl (any_of HT_.out (by kernel_rfl)) (fun _ _ _ h => h) (Or.inr ⟨by rfl, rfl⟩) ?_ ?_
      rotate_left
      next =>
       simp only [Act.put, yay, yby, ycy, i64_w, i32_w]
       rfl
      refine pure_ (i := 21) (N := some 59) (v := undef) (a' := ?_) #[true, true, true, true, true, true, true, true, true, true, true, true, true, true, true, true, true, true, true, true, true, true, false, false, false] rfl rfl (any_of HT_.out (by kernel_rfl)) (fun _ _ _ h => h) (Or.inr ⟨by rfl, rfl⟩) ?_ ?_
      rotate_left
      next =>
       simp only [Act.put, yay, yby, ycy, i64_w, i32_w]
       rfl
      refine pure_ (i := 22) (N := some 60) (v := undef) (a' := ?_) #[true, true, true, true, true, true, true, true, true, true, true, true, true, true, true, true, true, true, true, true, true, true, true, false, false] rfl rfl (any_of HT_.out (by kernel_rfl)) (fun _ _ _ h => h) (Or.inr ⟨by rfl, rfl⟩) ?_ ?_
      rotate_left
      next =>
       simp only [Act.put, yay, yby, ycy, i64_w, i32_w]
       rfl
      refine pure_ (i := 23) (N := some 61) (v := ?_) (a' := ?_) #[true, true, true, true, true, true, true, true, true, true, true, true, true, true, true, true, true, true, true, true, true, true, true, true, false] rfl rfl (any_of HT_.out (by kernel_rfl)) (fun _ _ _ h => h) (Or.inl ⟨by rfl, ?_⟩) ?_ ?_
      rotate_left
      next =>
       intro w'
       go_simp
       with_reducible rfl
      rotate_left
      next =>
       simp only [Act.put, yay, yby, ycy, i64_w, i32_w]
       rfl
      refine pure_ (i := 24) (N := some 6) (v := ?_) (a' := ?_) #[true, true, true, true, true, true, true, true, true, true, true, true, true, true, true, true, true, true, true, true, true, true, true, true, true] rfl rfl (any_of HT_.out (by kernel_rfl)) (fun _ _ _ h => h) (Or.inl ⟨by rfl, ?_⟩) ?_ ?_
      rotate_left
      next =>
       intro w'
       go_simp
       with_reducible rfl
      rotate_left
      next =>
       simp only [Act.put, yay, yby, ycy, i64_w, i32_w]
       rfl
      refine done_ (done_of HT_.out (by kernel_rfl)) ?_
      try go_wp2
      go_ret
      exact ⟨by first | rfl | (simp [errW_none, errW_some] <;> rfl) | (simp [*, errW_none, errW_some] <;> rfl), by repeat (first | (with_reducible first | exact HB.out | apply below_alloc | apply pw_below_drewN | apply below_drew1 | refine below_set ?_ GE101.out | refine below_set ?_ GE104.out) | exact HB.out)⟩
     rw [if_pos c36] at H
     have c36b0 : (((rd_Face (rd_LFace l0_0 ((rd_Face (rd_LFace l0_0 a1) a2).f0)) t107).f0) == t110 && (((rd_Face (rd_LFace l0_0 ((rd_Face (rd_LFace l0_0 a1) a2).f0)) t107).f1) == t111)) = true := c36
     (try (have c36b1 : decide (((rd_Face (rd_LFace l0_0 ((rd_Face (rd_LFace l0_0 a1) a2).f0)) t107).f0) = t110 && (((rd_Face (rd_LFace l0_0 ((rd_Face (rd_LFace l0_0 a1) a2).f0)) t107).f1) == t111)) = true := by simpa using c36))
     (try (have c36b2 : (((rd_Face (rd_LFace l0_0 ((rd_Face (rd_LFace l0_0 a1) a2).f0)) t107).f0) == t110 && (((rd_Face (rd_LFace l0_0 ((rd_Face (rd_LFace l0_0 a1) a2).f0)) t107).f1) == t111)) = true := by simpa using c36))
     clear c36
     by_cases c37 : ((rd_Face (rd_LFace l0_0 a1) a2).f0) = a1
     rotate_left
     next =>
      rw [if_neg c37] at H
      have c37b0 : (((rd_Face (rd_LFace l0_0 a1) a2).f0) == a1) = false := beq_eq_false_iff_ne.mpr c37
      have c37b1 : (((rd_Face (rd_LFace l0_0 a1) a2).f0) != a1) = true := bne_iff_ne.mpr c37
      obtain rfl := yey H
      have hnb43 := NB104_101.out
      have hnc43 := NB101_104.out
      have hcz44_0 : wc.cell? ⟨gb104, 0, none⟩ = some (.int .i64 ((rd_Face (rd_LFace l0_0 a1) a2).f0)) := (blk_cell BK104.out 0).trans rfl
      have hcz44_1 : wc.cell? ⟨gb104, 1, none⟩ = some (.int .i64 ((rd_Face (rd_LFace l0_0 a1) a2).f1)) := (blk_cell BK104.out 1).trans rfl
      have hfz44_0 := blk_frozen BK104.out 0
      have hfz44_1 := blk_frozen BK104.out 1
      try go_wp2_with (first | ((with_reducible refine gate_callee (f := 55) rfl ?_); refine goesL_ (some 37) rfl rfl Try.func55 (by kernel_rfl) rfl #[.agg #[.int .i64 ((rd_Face (rd_LFace l0_0 a1) a2).f0), .int .i64 ((rd_Face (rd_LFace l0_0 a1) a2).f1)], .int .i64 a2] rfl (by (try simp only [yiy, yjy, yky]); first | done | rfl | (simp only [yly, ymy]; rfl)) ?_; (with_reducible refine (impl_Face_target.calls ((rd_Face (rd_LFace l0_0 a1) a2).f0) ((rd_Face (rd_LFace l0_0 a1) a2).f1) a2 t107 _ A30.out).mono ?_); rintro e w45 ⟨rfl, hb⟩; refine ⟨_, rfl, ?_⟩; have n0_ := Aside0.mk (blk_below (g := gb101) (o := .cells #[.slice (some ad102) l0_0.length c0_0] 30 (0, 0)) (by (with_reducible repeat (first | refine blk_drewN ?_ _ | refine blk_drew ?_ | refine blk_alloc ?_ _)); exact BK101.out) hb); have n1_ := Aside0.mk (blk_below (g := gb104) (o := .cells #[.int .i64 ((rd_Face (rd_LFace l0_0 a1) a2).f0), .int .i64 ((rd_Face (rd_LFace l0_0 a1) a2).f1)] 56 (0, 0)) (by (with_reducible repeat (first | refine blk_drewN ?_ _ | refine blk_drew ?_ | refine blk_alloc ?_ _)); exact BK104.out) hb); have n2_ := Aside0.mk (below_step (by repeat (first | (with_reducible first | exact HB.out | apply below_alloc | apply pw_below_drewN | apply below_drew1 | refine below_set ?_ GE101.out | refine below_set ?_ GE104.out) | exact HB.out)) hb); clear BK101; clear BK104; clear HB; have BK101 := n0_; have BK104 := n1_; have HB := n2_; clear n0_ n1_ n2_; (try clear hb); (try clear hb2); (try clear hk); (try clear hi)))
      have n0_ := Aside0.mk (blk_drew BK101.out)
      have n1_ := Aside0.mk (blk_drew BK104.out)
      have n2_ := Aside0.mk (below_drew1 HB.out)
      clear BK101
      clear BK104
      clear HB
      have BK101 := n0_
      have BK104 := n1_
      have HB := n2_
      clear n0_ n1_ n2_
      have p108 : 0 ≤ (((rd_Face (rd_LFace l0_0 a1) a2).f0) : Int) := of_decide_eq_true (by first | (with_reducible assumption) | assumption)
      have q108 : ((rd_Face (rd_LFace l0_0 a1) a2).f0) < (l0_0.length : Int) := of_decide_eq_true (by first | (with_reducible assumption) | assumption)
      obtain ⟨ad108, A108_0, c108_0, e108, hx108_0, hl108_0, hi108_0⟩ := at_LFace HR0_0.out ((rd_Face (rd_LFace l0_0 a1) a2).f0) p108 q108
      have hw108_0 := hx108_0
      obtain rfl : ad102 = ad108 := (by injection e108)
      replace hx108_0 := (HB.out.cell (yny w _ hx108_0)).trans hx108_0
      have HR108_0 := Aside0.mk hi108_0
      have HC108_0 := Aside0.mk hl108_0
      clear hi108_0 hl108_0
      replace p108 := eq_true p108
      replace q108 := eq_true q108
      have p109 : 0 ≤ (t107 : Int) := of_decide_eq_true (by first | (with_reducible assumption) | assumption)
      have q109 : t107 < ((rd_LFace l0_0 ((rd_Face (rd_LFace l0_0 a1) a2).f0)).length : Int) := of_decide_eq_true (by first | (with_reducible assumption) | assumption)
      obtain ⟨ad109, e109, hx109_0, hx109_1⟩ := at_Face HR108_0.out t107 p109 q109
      have hw109_1 := hx109_1
      have hw109_0 := hx109_0
      cases e109
      replace hx109_0 := (HB.out.cell (yny w _ hx109_0)).trans hx109_0
      replace hx109_1 := (HB.out.cell (yny w _ hx109_1)).trans hx109_1
      replace p109 := eq_true p109
      replace q109 := eq_true q109
      refine start_ (n := 25) (S := fun w' => w'.cell? ⟨gb101, 0, none⟩ = some (.slice (some ad102) l0_0.length c0_0) ∧ w'.cell? ⟨gb104, 0, none⟩ = some (.int .i64 ((rd_Face (rd_LFace l0_0 a1) a2).f0)) ∧ w'.cell? ⟨gb104, 1, none⟩ = some (.int .i64 ((rd_Face (rd_LFace l0_0 a1) a2).f1)) ∧ w'.cell? (ad102.add (((rd_Face (rd_LFace l0_0 a1) a2).f0)).toNat) = some (.slice (some ad109) (rd_LFace l0_0 ((rd_Face (rd_LFace l0_0 a1) a2).f0)).length c108_0) ∧ w'.cell? (ad109.add ((t107).toNat * 2)) = some (.int .i64 ((rd_Face (rd_LFace l0_0 ((rd_Face (rd_LFace l0_0 a1) a2).f0)) t107).f0)) ∧ w'.cell? ⟨(ad109.add ((t107).toNat * 2)).block, (ad109.add ((t107).toNat * 2)).off + 1, none⟩ = some (.int .i64 ((rd_Face (rd_LFace l0_0 ((rd_Face (rd_LFace l0_0 a1) a2).f0)) t107).f1))) (ds := []) #[false, false, false, false, false, false, false, false, false, false, false, false, false, false, false, false, false, false, false, false, false, false, false, false, false] (by kernel_rfl) rfl rfl ⟨(blk_cell BK101.out 0).trans rfl, (blk_cell BK104.out 0).trans rfl, (blk_cell BK104.out 1).trans rfl, ((HB.out.cell (yny w _ hw108_0)).trans hw108_0), ((HB.out.cell (yny w _ hw109_0)).trans hw109_0), ((HB.out.cell (yny w _ hw109_1)).trans hw109_1)⟩ (fun hHeld => ?_); refine with_tabW impl_Triangulation_isGood.tab7 impl_Triangulation_isGood.bits7 (fun HT_ HW_ => ?_)
      generalize w45.drew = w46 at BK101 BK104 HB HR108_0 hx108_0 hx109_0 hx109_1 hHeld ⊢
      refine pure_ (i := 0) (N := some 38) (v := ?_) (a' := ?_) #[true, false, false, false, false, false, false, false, false, false, false, false, false, false, false, false, false, false, false, false, false, false, false, false, false] rfl rfl (any_of HT_.out (by kernel_rfl)) (fun _ _ _ h => h) (Or.inl ⟨by rfl, ?_⟩) ?_ ?_
      rotate_left
      next =>
       intro w'
       go_simp
       with_reducible rfl
      rotate_left
      next =>
       simp only [Act.put, yay, yby, ycy, i64_w, i32_w]
       rfl
      refine pure_ (i := 2) (N := some 40) (v := ?_) (a' := ?_) #[true, false, true, false, false, false, false, false, false, false, false, false, false, false, false, false, false, false, false, false, false, false, false, false, false] rfl rfl (any_of HT_.out (by kernel_rfl)) (fun _ _ _ h => h) (Or.inl ⟨by rfl, ?_⟩) ?_ ?_
      rotate_left
      next =>
       intro w'
       go_simp
       with_reducible rfl
      rotate_left
      next =>
       simp only [Act.put, yay, yby, ycy, i64_w, i32_w]
       rfl
      refine pure_ (i := 6) (N := some 44) (v := ?_) (a' := ?_) #[true, false, true, false, false, false, true, false, false, false, false, false, false, false, false, false, false, false, false, false, false, false, false, false, false] rfl rfl (any_of HT_.out (by kernel_rfl)) (fun _ _ _ h => h) (Or.inl ⟨by rfl, ?_⟩) ?_ ?_
      rotate_left
      next =>
       intro w'
       go_simp
       with_reducible rfl
      rotate_left
      next =>
       simp only [Act.put, yay, yby, ycy, i64_w, i32_w]
       rfl
      refine pure_ (i := 10) (N := some 48) (v := ?_) (a' := ?_) #[true, false, true, false, false, false, true, false, false, false, true, false, false, false, false, false, false, false, false, false, false, false, false, false, false] rfl rfl (any_of HT_.out (by kernel_rfl)) (fun _ _ _ h => h) (Or.inl ⟨by rfl, ?_⟩) ?_ ?_
      rotate_left
      next =>
       intro w'
       go_simp
       with_reducible rfl
      rotate_left
      next =>
       simp only [Act.put, yay, yby, ycy, i64_w, i32_w]
       rfl
      refine take_ (i := 1) (N := some 39) (v := ?_) (a' := ?_) #[true, true, true, false, false, false, true, false, false, false, true, false, false, false, false, false, false, false, false, false, false, false, false, false, false] rfl rfl (take_ofW HT_.out HW_.out (by kernel_rfl)) (fun _ _ _ h => h) (Or.inl ⟨by rfl, ?_⟩) hHeld ?_ ?_
      rotate_left
      next =>
       rintro w' ⟨s0, s1, s2, s3, s4, s5⟩
       go_simp
       with_reducible rfl
      rotate_left
      next =>
       simp only [Act.put, yay, yby, ycy, i64_w, i32_w]
       rfl
      refine take_ (i := 3) (N := some 41) (v := ?_) (a' := ?_) #[true, true, true, true, false, false, true, false, false, false, true, false, false, false, false, false, false, false, false, false, false, false, false, false, false] rfl rfl (take_ofW HT_.out HW_.out (by kernel_rfl)) (fun _ _ _ h => h) (Or.inl ⟨by rfl, ?_⟩) hHeld ?_ ?_
      rotate_left
      next =>
       rintro w' ⟨s0, s1, s2, s3, s4, s5⟩
       go_simp
       with_reducible rfl
      rotate_left
      next =>
       simp only [Act.put, yay, yby, ycy, i64_w, i32_w]
       rfl
      refine pure_ (i := 4) (N := some 42) (v := ?_) (a' := ?_) #[true, true, true, true, true, false, true, false, false, false, true, false, false, false, false, false, false, false, false, false, false, false, false, false, false] rfl rfl (any_of HT_.out (by kernel_rfl)) (fun _ _ _ h => h) (Or.inl ⟨by rfl, ?_⟩) ?_ ?_
      rotate_left
      next =>
       intro w'
       go_simp
       with_reducible rfl
      rotate_left
      next =>
       simp only [Act.put, yay, yby, ycy, i64_w, i32_w]
       rfl
      refine take_ (i := 5) (N := some 43) (v := ?_) (a' := ?_) #[true, true, true, true, true, true, true, false, false, false, true, false, false, false, false, false, false, false, false, false, false, false, false, false, false] rfl rfl (take_ofW HT_.out HW_.out (by kernel_rfl)) (fun _ _ _ h => h) (Or.inl ⟨by rfl, ?_⟩) hHeld ?_ ?_
      rotate_left
      next =>
       rintro w' ⟨s0, s1, s2, s3, s4, s5⟩
       go_simp
       with_reducible rfl
      rotate_left
      next =>
       simp only [Act.put, yay, yby, ycy, i64_w, i32_w]
       rfl
      refine pure_ (i := 7) (N := some 45) (v := ?_) (a' := ?_) #[true, true, true, true, true, true, true, true, false, false, true, false, false, false, false, false, false, false, false, false, false, false, false, false, false] rfl rfl (any_of HT_.out (by kernel_rfl)) (fun _ _ _ h => h) (Or.inl ⟨by rfl, ?_⟩) ?_ ?_
      rotate_left
      next =>
       intro w'
       go_simp
       with_reducible rfl
      rotate_left
      next =>
       simp only [Act.put, yay, yby, ycy, i64_w, i32_w]
       rfl
      refine take_ (i := 8) (N := some 46) (v := ?_) (a' := ?_) #[true, true, true, true, true, true, true, true, true, false, true, false, false, false, false, false, false, false, false, false, false, false, false, false, false] rfl rfl (take_ofW HT_.out HW_.out (by kernel_rfl)) (fun _ _ _ h => h) (Or.inl ⟨by rfl, ?_⟩) hHeld ?_ ?_
      rotate_left
      next =>
       rintro w' ⟨s0, s1, s2, s3, s4, s5⟩
       go_simp
       with_reducible rfl
      rotate_left
      next =>
       simp only [Act.put, yay, yby, ycy, i64_w, i32_w]
       rfl
      refine take_ (i := 9) (N := some 47) (v := ?_) (a' := ?_) #[true, true, true, true, true, true, true, true, true, true, true, false, false, false, false, false, false, false, false, false, false, false, false, false, false] rfl rfl (take_ofW HT_.out HW_.out (by kernel_rfl)) (fun _ _ _ h => h) (Or.inl ⟨by rfl, ?_⟩) hHeld ?_ ?_
      rotate_left
      next =>
       rintro w' ⟨s0, s1, s2, s3, s4, s5⟩
       go_simp
       with_reducible rfl
      rotate_left
      next =>
       simp only [Act.put, yay, yby, ycy, i64_w, i32_w]
       rfl
      refine one_ (i := 11) (N := some 49) #[true, true, true, true, true, true, true, true, true, true, true, true, false, false, false, false, false, false, false, false, false, false, false, false, false] rfl rfl (one_of HT_.out (by kernel_rfl)) (by decide) (fun K hK => ?_)
      refine goes_ Try.func56 (by kernel_rfl) rfl #[.agg #[.int .i64 ((rd_Face (rd_LFace l0_0 a1) a2).f0), .int .i64 ((rd_Face (rd_LFace l0_0 a1) a2).f1)], .int .i64 a1] (by rfl) rfl rfl (by (try simp only [yiy, yjy, yky]); first | done | rfl | (simp only [yly, ymy]; rfl)) ?_
      with_reducible refine (impl_Face_partner.calls ((rd_Face (rd_LFace l0_0 a1) a2).f0) ((rd_Face (rd_LFace l0_0 a1) a2).f1) a1 t110 t111 _ A35.out).mono ?_
      rintro e w47 ⟨rfl, hb⟩
      refine ⟨_, rfl, ?_⟩
      have n0_ := Aside0.mk (blk_below (g := gb101) (o := .cells #[.slice (some ad102) l0_0.length c0_0] 30 (0, 0)) (by (with_reducible repeat (first | refine blk_drewN ?_ _ | refine blk_drew ?_ | refine blk_alloc ?_ _)); exact BK101.out) hb)
      have n1_ := Aside0.mk (blk_below (g := gb104) (o := .cells #[.int .i64 ((rd_Face (rd_LFace l0_0 a1) a2).f0), .int .i64 ((rd_Face (rd_LFace l0_0 a1) a2).f1)] 56 (0, 0)) (by (with_reducible repeat (first | refine blk_drewN ?_ _ | refine blk_drew ?_ | refine blk_alloc ?_ _)); exact BK104.out) hb)
      have n2_ := Aside0.mk (below_step (by repeat (first | (with_reducible first | exact HB.out | apply below_alloc | apply pw_below_drewN | apply below_drew1 | refine below_set ?_ GE101.out | refine below_set ?_ GE104.out) | exact HB.out)) hb)
      clear BK101
      clear BK104
      clear HB
      have BK101 := n0_
      have BK104 := n1_
      have HB := n2_
      clear n0_ n1_ n2_
      (try clear hb)
      (try clear hb2)
      (try clear hk)
      (try clear hi)
      refine hK.out _ _ ⟨(blk_cell BK101.out 0).trans rfl, (blk_cell BK104.out 0).trans rfl, (blk_cell BK104.out 1).trans rfl, ((HB.out.cell (yny w _ hw108_0)).trans hw108_0), ((HB.out.cell (yny w _ hw109_0)).trans hw109_0), ((HB.out.cell (yny w _ hw109_1)).trans hw109_1)⟩ (fun hHeld => ?_)
      clear hK K
      refine norm_ (a' := ?_) ?_ ?_
      rotate_left
      next =>
       show Act.put _ (some 49) _ = _
       simp only [Act.put, yay, yby, ycy, i64_w, i32_w]
       rfl
      refine pure_ (i := 12) (N := some 50) (v := ?_) (a' := ?_) #[true, true, true, true, true, true, true, true, true, true, true, true, true, false, false, false, false, false, false, false, false, false, false, false, false] rfl rfl (any_of HT_.out (by kernel_rfl)) (fun _ _ _ h => h) (Or.inl ⟨by rfl, ?_⟩) ?_ ?_
      rotate_left
      next =>
       intro w'
       go_simp
       with_reducible rfl
      rotate_left
      next =>
       simp only [Act.put, yay, yby, ycy, i64_w, i32_w]
       rfl
      refine pure_ (i := 13) (N := some 51) (v := ?_) (a' := ?_) #[true, true, true, true, true, true, true, true, true, true, true, true, true, true, false, false, false, false, false, false, false, false, false, false, false] rfl rfl (any_of HT_.out (by kernel_rfl)) (fun _ _ _ h => h) (Or.inl ⟨by rfl, ?_⟩) ?_ ?_
      rotate_left
      next =>
       intro w'
       go_simp
       with_reducible rfl
      rotate_left
      next =>
       simp only [Act.put, yay, yby, ycy, i64_w, i32_w]
       rfl
      refine pure_ (i := 14) (N := some 52) (v := ?_) (a' := ?_) #[true, true, true, true, true, true, true, true, true, true, true, true, true, true, true, false, false, false, false, false, false, false, false, false, false] rfl rfl (any_of HT_.out (by kernel_rfl)) (fun _ _ _ h => h) (Or.inl ⟨by rfl, ?_⟩) ?_ ?_
      rotate_left
      next =>
       intro w'
       go_simp
       with_reducible rfl
      rotate_left
      next =>
       simp only [Act.put, yay, yby, ycy, i64_w, i32_w]
       rfl
      refine pure_ (i := 16) (N := some 54) (v := ?_) (a' := ?_) #[true, true, true, true, true, true, true, true, true, true, true, true, true, true, true, false, true, false, false, false, false, false, false, false, false] rfl rfl (any_of HT_.out (by kernel_rfl)) (fun _ _ _ h => h) (Or.inl ⟨by rfl, ?_⟩) ?_ ?_
      rotate_left
      next =>
       intro w'
       go_simp
       with_reducible rfl
      rotate_left
      next =>
       simp only [Act.put, yay, yby, ycy, i64_w, i32_w]
       rfl
      refine take_ (i := 15) (N := some 53) (v := ?_) (a' := ?_) #[true, true, true, true, true, true, true, true, true, true, true, true, true, true, true, true, true, false, false, false, false, false, false, false, false] rfl rfl (take_ofW HT_.out HW_.out (by kernel_rfl)) (fun _ _ _ h => h) (Or.inl ⟨by rfl, ?_⟩) hHeld ?_ ?_
      rotate_left
      next =>
       rintro w' ⟨s0, s1, s2, s3, s4, s5⟩
       go_simp
       with_reducible rfl
      rotate_left
      next =>
       simp only [Act.put, yay, yby, ycy, i64_w, i32_w]
       rfl
      refine pure_ (i := 17) (N := some 55) (v := ?_) (a' := ?_) #[true, true, true, true, true, true, true, true, true, true, true, true, true, true, true, true, true, true, false, false, false, false, false, false, false] rfl rfl (any_of HT_.out (by kernel_rfl)) (fun _ _ _ h => h) (Or.inl ⟨by rfl, ?_⟩) ?_ ?_
      rotate_left
      next =>
       intro w'
       go_simp
       with_reducible rfl
      rotate_left
      next =>
       simp only [Act.put, yay, yby, ycy, i64_w, i32_w]
       rfl
      refine pure_ (i := 18) (N := some 56) (v := ?_) (a' := ?_) #[true, true, true, true, true, true, true, true, true, true, true, true, true, true, true, true, true, true, true, false, false, false, false, false, false] rfl rfl (any_of HT_.out (by kernel_rfl)) (fun _ _ _ h => h) (Or.inl ⟨by rfl, ?_⟩) ?_ ?_
      rotate_left
      next =>
       intro w'
       go_simp
       with_reducible rfl
      rotate_left
      next =>
       simp only [Act.put, yay, yby, ycy, i64_w, i32_w]
       rfl
      refine pure_ (i := 19) (N := some 57) (v := undef) (a' := ?_) #[true, true, true, true, true, true, true, true, true, true, true, true, true, true, true, true, true, true, true, true, false, false, false, false, false] rfl rfl (any_of HT_.out (by kernel_rfl)) (fun _ _ _ h => h) (Or.inr ⟨by rfl, rfl⟩) ?_ ?_
      rotate_left
      next =>
       simp only [Act.put, yay, yby, ycy, i64_w, i32_w]
       rfl
      refine pure_ (i := 20) (N := some 58) (v := undef) (a' := ?_) #[true, true, true, true, true, true, true, true, true, true, true, true, true, true, true, true, true, true, true, true, true, false, false, false, false] rfl rfl (any_of HT_.out (by kernel_rfl)) (fun _ _ _ h => h) (Or.inr ⟨by rfl, rfl⟩) ?_ ?_
      rotate_left
      next =>
       simp only [Act.put, yay, yby, ycy, i64_w, i32_w]
       rfl
      refine pure_ (i := 21) (N := some 59) (v := undef) (a' := ?_) #[true, true, true, true, true, true, true, true, true, true, true, true, true, true, true, true, true, true, true, true, true, true, false, false, false] rfl rfl (any_of HT_.out (by kernel_rfl)) (fun _ _ _ h => h) (Or.inr ⟨by rfl, rfl⟩) ?_ ?_
      rotate_left
      next =>
       simp only [Act.put, yay, yby, ycy, i64_w, i32_w]
       rfl
      refine pure_ (i := 22) (N := some 60) (v := ?_) (a' := ?_) #[true, true, true, true, true, true, true, true, true, true, true, true, true, true, true, true, true, true, true, true, true, true, true, false, false] rfl rfl (any_of HT_.out (by kernel_rfl)) (fun _ _ _ h => h) (Or.inl ⟨by rfl, ?_⟩) ?_ ?_
      rotate_left
      next =>
       intro w'
       go_simp
       with_reducible rfl
      rotate_left
      next =>
       simp only [Act.put, yay, yby, ycy, i64_w, i32_w]
       rfl
      refine pure_ (i := 23) (N := some 61) (v := ?_) (a' := ?_) #[true, true, true, true, true, true, true, true, true, true, true, true, true, true, true, true, true, true, true, true, true, true, true, true, false] rfl rfl (any_of HT_.out (by kernel_rfl)) (fun _ _ _ h => h) (Or.inl ⟨by rfl, ?_⟩) ?_ ?_
      rotate_left
      next =>
       intro w'
       go_simp
       with_reducible rfl
      rotate_left
      next =>
       simp only [Act.put, yay, yby, ycy, i64_w, i32_w]
       rfl
      refine pure_ (i := 24) (N := some 6) (v := ?_) (a' := ?_) #[true, true, true, true, true, true, true, true, true, true, true, true, true, true, true, true, true, true, true, true, true, true, true, true, true] rfl rfl (any_of HT_.out (by kernel_rfl)) (fun _ _ _ h => h) (Or.inl ⟨by rfl, ?_⟩) ?_ ?_
      rotate_left
      next =>
       intro w'
       go_simp
       with_reducible rfl
      rotate_left
      next =>
       simp only [Act.put, yay, yby, ycy, i64_w, i32_w]
       rfl
      refine done_ (done_of HT_.out (by kernel_rfl)) ?_
      try go_wp2
      go_ret
      exact ⟨by first | rfl | (simp [errW_none, errW_some] <;> rfl) | (simp [*, errW_none, errW_some] <;> rfl), by repeat (first | (with_reducible first | exact HB.out | apply below_alloc | apply pw_below_drewN | apply below_drew1 | refine below_set ?_ GE101.out | refine below_set ?_ GE104.out) | exact HB.out)⟩
     rw [if_pos c37] at H
     have c37b0 : (((rd_Face (rd_LFace l0_0 a1) a2).f0) == a1) = true := beq_iff_eq.mpr c37
     have c37b1 : (((rd_Face (rd_LFace l0_0 a1) a2).f0) != a1) = false := bne_eq_false_iff_eq.mpr c37
     clear c37
     obtain rfl := yey H
     have hnb38 := NB104_101.out
     have hnc38 := NB101_104.out
     have hcz39_0 : wc.cell? ⟨gb104, 0, none⟩ = some (.int .i64 ((rd_Face (rd_LFace l0_0 a1) a2).f0)) := (blk_cell BK104.out 0).trans rfl
     have hcz39_1 : wc.cell? ⟨gb104, 1, none⟩ = some (.int .i64 ((rd_Face (rd_LFace l0_0 a1) a2).f1)) := (blk_cell BK104.out 1).trans rfl
     have hfz39_0 := blk_frozen BK104.out 0
     have hfz39_1 := blk_frozen BK104.out 1
     try go_wp2_with (first | ((with_reducible refine gate_callee (f := 55) rfl ?_); refine goesL_ (some 37) rfl rfl Try.func55 (by kernel_rfl) rfl #[.agg #[.int .i64 ((rd_Face (rd_LFace l0_0 a1) a2).f0), .int .i64 ((rd_Face (rd_LFace l0_0 a1) a2).f1)], .int .i64 a2] rfl (by (try simp only [yiy, yjy, yky]); first | done | rfl | (simp only [yly, ymy]; rfl)) ?_; (with_reducible refine (impl_Face_target.calls ((rd_Face (rd_LFace l0_0 a1) a2).f0) ((rd_Face (rd_LFace l0_0 a1) a2).f1) a2 t107 _ A30.out).mono ?_); rintro e w40 ⟨rfl, hb⟩; refine ⟨_, rfl, ?_⟩; have n0_ := Aside0.mk (blk_below (g := gb101) (o := .cells #[.slice (some ad102) l0_0.length c0_0] 30 (0, 0)) (by (with_reducible repeat (first | refine blk_drewN ?_ _ | refine blk_drew ?_ | refine blk_alloc ?_ _)); exact BK101.out) hb); have n1_ := Aside0.mk (blk_below (g := gb104) (o := .cells #[.int .i64 ((rd_Face (rd_LFace l0_0 a1) a2).f0), .int .i64 ((rd_Face (rd_LFace l0_0 a1) a2).f1)] 56 (0, 0)) (by (with_reducible repeat (first | refine blk_drewN ?_ _ | refine blk_drew ?_ | refine blk_alloc ?_ _)); exact BK104.out) hb); have n2_ := Aside0.mk (below_step (by repeat (first | (with_reducible first | exact HB.out | apply below_alloc | apply pw_below_drewN | apply below_drew1 | refine below_set ?_ GE101.out | refine below_set ?_ GE104.out) | exact HB.out)) hb); clear BK101; clear BK104; clear HB; have BK101 := n0_; have BK104 := n1_; have HB := n2_; clear n0_ n1_ n2_; (try clear hb); (try clear hb2); (try clear hk); (try clear hi)))
     have n0_ := Aside0.mk (blk_drew BK101.out)
     have n1_ := Aside0.mk (blk_drew BK104.out)
     have n2_ := Aside0.mk (below_drew1 HB.out)
     clear BK101
     clear BK104
     clear HB
     have BK101 := n0_
     have BK104 := n1_
     have HB := n2_
     clear n0_ n1_ n2_
     have p108 : 0 ≤ (((rd_Face (rd_LFace l0_0 a1) a2).f0) : Int) := of_decide_eq_true (by first | (with_reducible assumption) | assumption)
     have q108 : ((rd_Face (rd_LFace l0_0 a1) a2).f0) < (l0_0.length : Int) := of_decide_eq_true (by first | (with_reducible assumption) | assumption)
     obtain ⟨ad108, A108_0, c108_0, e108, hx108_0, hl108_0, hi108_0⟩ := at_LFace HR0_0.out ((rd_Face (rd_LFace l0_0 a1) a2).f0) p108 q108
     have hw108_0 := hx108_0
     obtain rfl : ad102 = ad108 := (by injection e108)
     replace hx108_0 := (HB.out.cell (yny w _ hx108_0)).trans hx108_0
     have HR108_0 := Aside0.mk hi108_0
     have HC108_0 := Aside0.mk hl108_0
     clear hi108_0 hl108_0
     replace p108 := eq_true p108
     replace q108 := eq_true q108
     have p109 : 0 ≤ (t107 : Int) := of_decide_eq_true (by first | (with_reducible assumption) | assumption)
     have q109 : t107 < ((rd_LFace l0_0 ((rd_Face (rd_LFace l0_0 a1) a2).f0)).length : Int) := of_decide_eq_true (by first | (with_reducible assumption) | assumption)
     obtain ⟨ad109, e109, hx109_0, hx109_1⟩ := at_Face HR108_0.out t107 p109 q109
     have hw109_1 := hx109_1
     have hw109_0 := hx109_0
     cases e109
     replace hx109_0 := (HB.out.cell (yny w _ hx109_0)).trans hx109_0
     replace hx109_1 := (HB.out.cell (yny w _ hx109_1)).trans hx109_1
     replace p109 := eq_true p109
     replace q109 := eq_true q109
     refine start_ (n := 25) (S := fun w' => w'.cell? ⟨gb101, 0, none⟩ = some (.slice (some ad102) l0_0.length c0_0) ∧ w'.cell? ⟨gb104, 0, none⟩ = some (.int .i64 ((rd_Face (rd_LFace l0_0 a1) a2).f0)) ∧ w'.cell? ⟨gb104, 1, none⟩ = some (.int .i64 ((rd_Face (rd_LFace l0_0 a1) a2).f1)) ∧ w'.cell? (ad102.add (((rd_Face (rd_LFace l0_0 a1) a2).f0)).toNat) = some (.slice (some ad109) (rd_LFace l0_0 ((rd_Face (rd_LFace l0_0 a1) a2).f0)).length c108_0) ∧ w'.cell? (ad109.add ((t107).toNat * 2)) = some (.int .i64 ((rd_Face (rd_LFace l0_0 ((rd_Face (rd_LFace l0_0 a1) a2).f0)) t107).f0)) ∧ w'.cell? ⟨(ad109.add ((t107).toNat * 2)).block, (ad109.add ((t107).toNat * 2)).off + 1, none⟩ = some (.int .i64 ((rd_Face (rd_LFace l0_0 ((rd_Face (rd_LFace l0_0 a1) a2).f0)) t107).f1))) (ds := []) #[false, false, false, false, false, false, false, false, false, false, false, false, false, false, false, false, false, false, false, false, false, false, false, false, false] (by kernel_rfl) rfl rfl ⟨(blk_cell BK101.out 0).trans rfl, (blk_cell BK104.out 0).trans rfl, (blk_cell BK104.out 1).trans rfl, ((HB.out.cell (yny w _ hw108_0)).trans hw108_0), ((HB.out.cell (yny w _ hw109_0)).trans hw109_0), ((HB.out.cell (yny w _ hw109_1)).trans hw109_1)⟩ (fun hHeld => ?_); refine with_tabW impl_Triangulation_isGood.tab7 impl_Triangulation_isGood.bits7 (fun HT_ HW_ => ?_)
     generalize w40.drew = w41 at BK101 BK104 HB HR108_0 hx108_0 hx109_0 hx109_1 hHeld ⊢
     refine pure_ (i := 0) (N := some 38) (v := ?_) (a' := ?_) #[true, false, false, false, false, false, false, false, false, false, false, false, false, false, false, false, false, false, false, false, false, false, false, false, false] rfl rfl (any_of HT_.out (by kernel_rfl)) (fun _ _ _ h => h) (Or.inl ⟨by rfl, ?_⟩) ?_ ?_
     rotate_left
     next =>
      intro w'
      go_simp
      with_reducible rfl
     rotate_left
     next =>
      simp only [Act.put, yay, yby, ycy, i64_w, i32_w]
      rfl
     refine pure_ (i := 2) (N := some 40) (v := ?_) (a' := ?_) #[true, false, true, false, false, false, false, false, false, false, false, false, false, false, false, false, false, false, false, false, false, false, false, false, false] rfl rfl (any_of HT_.out (by kernel_rfl)) (fun _ _ _ h => h) (Or.inl ⟨by rfl, ?_⟩) ?_ ?_
     rotate_left
     next =>
      intro w'
      go_simp
      with_reducible rfl
     rotate_left
     next =>
      simp only [Act.put, yay, yby, ycy, i64_w, i32_w]
      rfl
     refine pure_ (i := 6) (N := some 44) (v := ?_) (a' := ?_) #[true, false, true, false, false, false, true, false, false, false, false, false, false, false, false, false, false, false, false, false, false, false, false, false, false] rfl rfl (any_of HT_.out (by kernel_rfl)) (fun _ _ _ h => h) (Or.inl ⟨by rfl, ?_⟩) ?_ ?_
     rotate_left
     next =>
      intro w'
      go_simp
      with_reducible rfl
     rotate_left
     next =>
      simp only [Act.put, yay, yby, ycy, i64_w, i32_w]
      rfl
     refine pure_ (i := 10) (N := some 48) (v := ?_) (a' := ?_) #[true, false, true, false, false, false, true, false, false, false, true, false, false, false, false, false, false, false, false, false, false, false, false, false, false] rfl rfl (any_of HT_.out (by kernel_rfl)) (fun _ _ _ h => h) (Or.inl ⟨by rfl, ?_⟩) ?_ ?_
     rotate_left
     next =>
      intro w'
      go_simp
      with_reducible rfl
     rotate_left
     next =>
      simp only [Act.put, yay, yby, ycy, i64_w, i32_w]
      rfl
     refine take_ (i := 1) (N := some 39) (v := ?_) (a' := ?_) #[true, true, true, false, false, false, true, false, false, false, true, false, false, false, false, false, false, false, false, false, false, false, false, false, false] rfl rfl (take_ofW HT_.out HW_.out (by kernel_rfl)) (fun _ _ _ h => h) (Or.inl ⟨by rfl, ?_⟩) hHeld ?_ ?_
     rotate_left
     next =>
      rintro w' ⟨s0, s1, s2, s3, s4, s5⟩
      go_simp
      with_reducible rfl
     rotate_left
     next =>
      simp only [Act.put, yay, yby, ycy, i64_w, i32_w]
      rfl
     refine take_ (i := 3) (N := some 41) (v := ?_) (a' := ?_) #[true, true, true, true, false, false, true, false, false, false, true, false, false, false, false, false, false, false, false, false, false, false, false, false, false] rfl rfl (take_ofW HT_.out HW_.out (by kernel_rfl)) (fun _ _ _ h => h) (Or.inl ⟨by rfl, ?_⟩) hHeld ?_ ?_
     rotate_left
     next =>
      rintro w' ⟨s0, s1, s2, s3, s4, s5⟩
      go_simp
      with_reducible rfl
     rotate_left
     next =>
      simp only [Act.put, yay, yby, ycy, i64_w, i32_w]
      rfl
     refine pure_ (i := 4) (N := some 42) (v := ?_) (a' := ?_) #[true, true, true, true, true, false, true, false, false, false, true, false, false, false, false, false, false, false, false, false, false, false, false, false, false] rfl rfl (any_of HT_.out (by kernel_rfl)) (fun _ _ _ h => h) (Or.inl ⟨by rfl, ?_⟩) ?_ ?_
     rotate_left
     next =>
      intro w'
      go_simp
      with_reducible rfl
     rotate_left
     next =>
      simp only [Act.put, yay, yby, ycy, i64_w, i32_w]
      rfl
     refine take_ (i := 5) (N := some 43) (v := ?_) (a' := ?_) #[true, true, true, true, true, true, true, false, false, false, true, false, false, false, false, false, false, false, false, false, false, false, false, false, false] rfl rfl (take_ofW HT_.out HW_.out (by kernel_rfl)) (fun _ _ _ h => h) (Or.inl ⟨by rfl, ?_⟩) hHeld ?_ ?_
     rotate_left
     next =>
      rintro w' ⟨s0, s1, s2, s3, s4, s5⟩
      go_simp
      with_reducible rfl
     rotate_left
     next =>
      simp only [Act.put, yay, yby, ycy, i64_w, i32_w]
      rfl
     refine pure_ (i := 7) (N := some 45) (v := ?_) (a' := ?_) #[true, true, true, true, true, true, true, true, false, false, true, false, false, false, false, false, false, false, false, false, false, false, false, false, false] rfl rfl (any_of HT_.out (by kernel_rfl)) (fun _ _ _ h => h) (Or.inl ⟨by rfl, ?_⟩) ?_ ?_
     rotate_left
     next =>
      intro w'
      go_simp
      with_reducible rfl
     rotate_left
     next =>
      simp only [Act.put, yay, yby, ycy, i64_w, i32_w]
      rfl
     refine take_ (i := 8) (N := some 46) (v := ?_) (a' := ?_) #[true, true, true, true, true, true, true, true, true, false, true, false, false, false, false, false, false, false, false, false, false, false, false, false, false] rfl rfl (take_ofW HT_.out HW_.out (by kernel_rfl)) (fun _ _ _ h => h) (Or.inl ⟨by rfl, ?_⟩) hHeld ?_ ?_
     rotate_left
     next =>
      rintro w' ⟨s0, s1, s2, s3, s4, s5⟩
      go_simp
      with_reducible rfl
     rotate_left
     next =>
      simp only [Act.put, yay, yby, ycy, i64_w, i32_w]
      rfl
     refine take_ (i := 9) (N := some 47) (v := ?_) (a' := ?_) #[true, true, true, true, true, true, true, true, true, true, true, false, false, false, false, false, false, false, false, false, false, false, false, false, false] rfl rfl (take_ofW HT_.out HW_.out (by kernel_rfl)) (fun _ _ _ h => h) (Or.inl ⟨by rfl, ?_⟩) hHeld ?_ ?_
     rotate_left
     next =>
      rintro w' ⟨s0, s1, s2, s3, s4, s5⟩
      go_simp
      with_reducible rfl
     rotate_left
     next =>
      simp only [Act.put, yay, yby, ycy, i64_w, i32_w]
      rfl
     refine one_ (i := 11) (N := some 49) #[true, true, true, true, true, true, true, true, true, true, true, true, false, false, false, false, false, false, false, false, false, false, false, false, false] rfl rfl (one_of HT_.out (by kernel_rfl)) (by decide) (fun K hK => ?_)
     refine goes_ Try.func56 (by kernel_rfl) rfl #[.agg #[.int .i64 ((rd_Face (rd_LFace l0_0 a1) a2).f0), .int .i64 ((rd_Face (rd_LFace l0_0 a1) a2).f1)], .int .i64 a1] (by rfl) rfl rfl (by (try simp only [yiy, yjy, yky]); first | done | rfl | (simp only [yly, ymy]; rfl)) ?_
     with_reducible refine (impl_Face_partner.calls ((rd_Face (rd_LFace l0_0 a1) a2).f0) ((rd_Face (rd_LFace l0_0 a1) a2).f1) a1 t110 t111 _ A35.out).mono ?_
     rintro e w42 ⟨rfl, hb⟩
     refine ⟨_, rfl, ?_⟩
     have n0_ := Aside0.mk (blk_below (g := gb101) (o := .cells #[.slice (some ad102) l0_0.length c0_0] 30 (0, 0)) (by (with_reducible repeat (first | refine blk_drewN ?_ _ | refine blk_drew ?_ | refine blk_alloc ?_ _)); exact BK101.out) hb)
     have n1_ := Aside0.mk (blk_below (g := gb104) (o := .cells #[.int .i64 ((rd_Face (rd_LFace l0_0 a1) a2).f0), .int .i64 ((rd_Face (rd_LFace l0_0 a1) a2).f1)] 56 (0, 0)) (by (with_reducible repeat (first | refine blk_drewN ?_ _ | refine blk_drew ?_ | refine blk_alloc ?_ _)); exact BK104.out) hb)
     have n2_ := Aside0.mk (below_step (by repeat (first | (with_reducible first | exact HB.out | apply below_alloc | apply pw_below_drewN | apply below_drew1 | refine below_set ?_ GE101.out | refine below_set ?_ GE104.out) | exact HB.out)) hb)
     clear BK101
     clear BK104
     clear HB
     have BK101 := n0_
     have BK104 := n1_
     have HB := n2_
     clear n0_ n1_ n2_
     (try clear hb)
     (try clear hb2)
     (try clear hk)
     (try clear hi)
     refine hK.out _ _ ⟨(blk_cell BK101.out 0).trans rfl, (blk_cell BK104.out 0).trans rfl, (blk_cell BK104.out 1).trans rfl, ((HB.out.cell (yny w _ hw108_0)).trans hw108_0), ((HB.out.cell (yny w _ hw109_0)).trans hw109_0), ((HB.out.cell (yny w _ hw109_1)).trans hw109_1)⟩ (fun hHeld => ?_)
     clear hK K
     refine norm_ (a' := ?_) ?_ ?_
     rotate_left
     next =>
      show Act.put _ (some 49) _ = _
      simp only [Act.put, yay, yby, ycy, i64_w, i32_w]
      rfl
     refine pure_ (i := 12) (N := some 50) (v := ?_) (a' := ?_) #[true, true, true, true, true, true, true, true, true, true, true, true, true, false, false, false, false, false, false, false, false, false, false, false, false] rfl rfl (any_of HT_.out (by kernel_rfl)) (fun _ _ _ h => h) (Or.inl ⟨by rfl, ?_⟩) ?_ ?_
     rotate_left
     next =>
      intro w'
      go_simp
      with_reducible rfl
     rotate_left
     next =>
      simp only [Act.put, yay, yby, ycy, i64_w, i32_w]
      rfl
     refine pure_ (i := 13) (N := some 51) (v := ?_) (a' := ?_) #[true, true, true, true, true, true, true, true, true, true, true, true, true, true, false, false, false, false, false, false, false, false, false, false, false] rfl rfl (any_of HT_.out (by kernel_rfl)) (fun _ _ _ h => h) (Or.inl ⟨by rfl, ?_⟩) ?_ ?_
     rotate_left
     next =>
      intro w'
      go_simp
      with_reducible rfl
     rotate_left
     next =>
      simp only [Act.put, yay, yby, ycy, i64_w, i32_w]
      rfl
     refine pure_ (i := 14) (N := some 52) (v := ?_) (a' := ?_) #[true, true, true, true, true, true, true, true, true, true, true, true, true, true, true, false, false, false, false, false, false, false, false, false, false] rfl rfl (any_of HT_.out (by kernel_rfl)) (fun _ _ _ h => h) (Or.inl ⟨by rfl, ?_⟩) ?_ ?_
     rotate_left
     next =>
      intro w'
      go_simp
      with_reducible rfl
     rotate_left
     next =>
      simp only [Act.put, yay, yby, ycy, i64_w, i32_w]
      rfl
     refine pure_ (i := 16) (N := some 54) (v := ?_) (a' := ?_) #[true, true, true, true, true, true, true, true, true, true, true, true, true, true, true, false, true, false, false, false, false, false, false, false, false] rfl rfl (any_of HT_.out (by kernel_rfl)) (fun _ _ _ h => h) (Or.inl ⟨by rfl, ?_⟩) ?_ ?_
     rotate_left
     next =>
      intro w'
      go_simp
      with_reducible rfl
     rotate_left
     next =>
      simp only [Act.put, yay, yby, ycy, i64_w, i32_w]
      rfl
     refine take_ (i := 15) (N := some 53) (v := ?_) (a' := ?_) #[true, true, true, true, true, true, true, true, true, true, true, true, true, true, true, true, true, false, false, false, false, false, false, false, false] rfl rfl (take_ofW HT_.out HW_.out (by kernel_rfl)) (fun _ _ _ h => h) (Or.inl ⟨by rfl, ?_⟩) hHeld ?_ ?_
     rotate_left
     next =>
      rintro w' ⟨s0, s1, s2, s3, s4, s5⟩
      go_simp
      with_reducible rfl
     rotate_left
     next =>
      simp only [Act.put, yay, yby, ycy, i64_w, i32_w]
      rfl
     refine pure_ (i := 17) (N := some 55) (v := ?_) (a' := ?_) #[true, true, true, true, true, true, true, true, true, true, true, true, true, true, true, true, true, true, false, false, false, false, false, false, false] rfl rfl (any_of HT_.out (by kernel_rfl)) (fun _ _ _ h => h) (Or.inl ⟨by rfl, ?_⟩) ?_ ?_
     rotate_left
     next =>
      intro w'
      go_simp
      with_reducible rfl
     rotate_left
     next =>
      simp only [Act.put, yay, yby, ycy, i64_w, i32_w]
      rfl
     refine pure_ (i := 18) (N := some 56) (v := ?_) (a' := ?_) #[true, true, true, true, true, true, true, true, true, true, true, true, true, true, true, true, true, true, true, false, false, false, false, false, false] rfl rfl (any_of HT_.out (by kernel_rfl)) (fun _ _ _ h => h) (Or.inl ⟨by rfl, ?_⟩) ?_ ?_
     rotate_left
     next =>
      intro w'
      go_simp
      with_reducible rfl
     rotate_left
     next =>
      simp only [Act.put, yay, yby, ycy, i64_w, i32_w]
      rfl
     refine pure_ (i := 19) (N := some 57) (v := ?_) (a' := ?_) #[true, true, true, true, true, true, true, true, true, true, true, true, true, true, true, true, true, true, true, true, false, false, false, false, false] rfl rfl (any_of HT_.out (by kernel_rfl)) (fun _ _ _ h => h) (Or.inl ⟨by rfl, ?_⟩) ?_ ?_
     rotate_left
     next =>
      intro w'
      go_simp
      with_reducible rfl
     rotate_left
     next =>
      simp only [Act.put, yay, yby, ycy, i64_w, i32_w]
      rfl
     refine pure_ (i := 20) (N := some 58) (v := ?_) (a' := ?_) #[true, true, true, true, true, true, true, true, true, true, true, true, true, true, true, true, true, true, true, true, true, false, false, false, false] rfl rfl (any_of HT_.out (by kernel_rfl)) (fun _ _ _ h => h) (Or.inl ⟨by rfl, ?_⟩) ?_ ?_
     rotate_left
     next =>
      intro w'
      go_simp
      with_reducible rfl
     rotate_left
     next =>
      simp only [Act.put, yay, yby, ycy, i64_w, i32_w]
      rfl
     refine pure_ (i := 21) (N := some 59) (v := ?_) (a' := ?_) #[true, true, true, true, true, true, true, true, true, true, true, true, true, true, true, true, true, true, true, true, true, true, false, false, false] rfl rfl (any_of HT_.out (by kernel_rfl)) (fun _ _ _ h => h) (Or.inl ⟨by rfl, ?_⟩) ?_ ?_
     rotate_left
     next =>
      intro w'
      go_simp
      with_reducible rfl
     rotate_left
     next =>
      simp only [Act.put, yay, yby, ycy, i64_w, i32_w]
      rfl
     refine pure_ (i := 22) (N := some 60) (v := ?_) (a' := ?_) #[true, true, true, true, true, true, true, true, true, true, true, true, true, true, true, true, true, true, true, true, true, true, true, false, false] rfl rfl (any_of HT_.out (by kernel_rfl)) (fun _ _ _ h => h) (Or.inl ⟨by rfl, ?_⟩) ?_ ?_
     rotate_left
     next =>
      intro w'
      go_simp
      with_reducible rfl
     rotate_left
     next =>
      simp only [Act.put, yay, yby, ycy, i64_w, i32_w]
      rfl
     refine pure_ (i := 23) (N := some 61) (v := ?_) (a' := ?_) #[true, true, true, true, true, true, true, true, true, true, true, true, true, true, true, true, true, true, true, true, true, true, true, true, false] rfl rfl (any_of HT_.out (by kernel_rfl)) (fun _ _ _ h => h) (Or.inl ⟨by rfl, ?_⟩) ?_ ?_
     rotate_left
     next =>
      intro w'
      go_simp
      with_reducible rfl
     rotate_left
     next =>
      simp only [Act.put, yay, yby, ycy, i64_w, i32_w]
      rfl
     refine pure_ (i := 24) (N := some 6) (v := ?_) (a' := ?_) #[true, true, true, true, true, true, true, true, true, true, true, true, true, true, true, true, true, true, true, true, true, true, true, true, true] rfl rfl (any_of HT_.out (by kernel_rfl)) (fun _ _ _ h => h) (Or.inl ⟨by rfl, ?_⟩) ?_ ?_
     rotate_left
     next =>
      intro w'
      go_simp
      with_reducible rfl
     rotate_left
     next =>
      simp only [Act.put, yay, yby, ycy, i64_w, i32_w]
      rfl
     refine done_ (done_of HT_.out (by kernel_rfl)) ?_
     try go_wp2
     go_ret
     exact ⟨by first | rfl | (simp [errW_none, errW_some] <;> rfl) | (simp [*, errW_none, errW_some] <;> rfl), by repeat (first | (with_reducible first | exact HB.out | apply below_alloc | apply pw_below_drewN | apply below_drew1 | refine below_set ?_ GE101.out | refine below_set ?_ GE104.out) | exact HB.out)⟩
end
/-! ### impl_isTriangulation_1: function 36 -/
def impl_isTriangulation_1.f (l0 : List (SFace)) : Option (Bool) := some ((l0.length : Int) != 4)
set_option maxHeartbeats 8000000 in
set_option maxRecDepth 100000 in
theorem impl_isTriangulation_1.calls (A0 : Option Addr) (c0 : Nat) (l0 : List (SFace)) (r : Bool) (w : World) (hr0 : Kd.C kFace w A0 l0.length l0) (hc0 : l0.length ≤ c0) (h : impl_isTriangulation_1.f l0 = some r) :
    Calls Try.prog 36 #[.slice A0 l0.length c0] w fun e w' => e = .returned (.bool r) ∧ Drawn0 w w' := by
  have HR0 := Aside0.mk hr0
  have HC0 := Aside0.mk hc0
  clear hr0 hc0
  have H : (some ((l0.length : Int) != 4)) = some r := h
  clear h
  obtain rfl := yey H
  go_enter Try.func36, Try.ntmps36
  go_wp2
  go_ret
  exact ⟨by first | rfl | (simp; done) | (simp [*]; done), by repeat (first | exact Drawn0.refl _ | apply Drawn0.step)⟩
end Go.Proofs.Ytcnemjcmnhlflaa.P
namespace Go.Proofs.Ytcnemjcmnhlflaa.P
open Go.RowKit Go.Proofs.YtcnemjcmnhlflaaW.PrintWords Go.Proofs.YtcnemjcmnhlflaaW.PrintLast Go.Proofs.YtcnemjcmnhlflaaW.PrintMore
attribute [local go_sem] max2_int min2_int max_two min_two max_three min_three max_four min_four   -- for this text's walks alone
set_option linter.unusedVariables false
set_option linter.unusedSimpArgs false
open Go.Proofs.Ytcnemjcmnhlflaa.Lib
/-! ### slices_IndexFunc_SSimpl_Face_at_impl_isTriangulation_1: function 52 at the literal 36 -/
def slices_IndexFunc_SSimpl_Face_at_impl_isTriangulation_1.f (l0 : List (List (SFace))) : Option Int := idxO (fun x => impl_isTriangulation_1.f x) 0 l0
set_option maxHeartbeats 8000000 in
set_option maxRecDepth 100000 in
theorem slices_IndexFunc_SSimpl_Face_at_impl_isTriangulation_1.calls (A0 : Option Addr) (c0 : Nat) (l0 : List (List (SFace))) (r : Int) (w : World) (hr0 : Kd.C (Kd.slice 56 kFace) w A0 l0.length l0) (hc0 : l0.length ≤ c0) (h : slices_IndexFunc_SSimpl_Face_at_impl_isTriangulation_1.f l0 = some r) :
    Calls Try.prog 52 #[.slice A0 l0.length c0, .func (.func 36) #[] #[]] w fun e w' => e = .returned (.int .i64 r) ∧ Below w.heap.size w w' := by
  have HR0 := Aside0.mk hr0
  clear hr0 hc0
  have hbig : l0.length ≤ 9223372036854775807 := HR0.out.2.1
  have HB := Aside0.mk (ypy w.heap.size w)
  have H' := Aside0.mk (show idxO (fun x => impl_isTriangulation_1.f x) 0 l0 = some r from h)
  clear h
  go_enter Try.func52, Try.ntmps52
  go_wp2
  go_loopg [5, 8] l0.length (fun gg v5 v8 w' => ∃ kk : Nat, kk ≤ l0.length ∧ l0.length - kk ≤ gg ∧ v8 = .int .i64 kk ∧ Aside0 (idxO (fun x => impl_isTriangulation_1.f x) kk (l0.drop kk) = some r) ∧ Aside0 (Below w.heap.size w w'))
  case atStart => exact ⟨0, Nat.zero_le _, by omega, rfl, H', HB⟩
  case round =>
    clear H' HB
    obtain ⟨kk, hkk, hg, rfl, HA, HB⟩ := hrel
    by_cases hlt : kk < l0.length
    · have hltz : (kk : Int) < (l0.length : Int) := by omega
      have H := HA.out
      clear HA
      rw [List.drop_eq_getElem_cons hlt, idxO_cons] at H
      replace H := ydy.mp H
      obtain ⟨b, hb, H⟩ := H
      obtain ⟨ad, A1, c1, e104, hx, hl1, hi1⟩ := at_LFace HR0.out (kk : Int) (by omega) (by omega)
      have ex : rd_LFace l0 (kk : Int) = l0[kk] := by simp [rd_LFace, hlt]
      rw [ex] at hx hl1 hi1
      rw [Int.toNat_natCast] at hx
      replace hx := (HB.out.cell (yny w _ hx)).trans hx
      replace hi1 := Kd.C_below hi1 HB.out
      generalize l0[kk] = y at hx hl1 hi1 hb
      have HI1 := Aside0.mk hi1
      have HL1 := Aside0.mk hl1
      clear ex hi1 hl1
      cases e104
      have HC := Aside0.mk hb
      clear hb
      cases b with
      | true =>
        have H2 := Aside0.mk H
        clear H
        go_wp2_with fail
        refine (impl_isTriangulation_1.calls _ _ _ _ _ HI1.out HL1.out HC.out).mono ?_
        rintro e w' ⟨rfl, hd⟩
        have HB2 := Aside0.mk (below_step HB.out hd.below)
        clear hd HB
        go_wp2
        go_ret
        exact ⟨by rw [yey H2.out]; rfl, HB2.out⟩
      | false =>
        have H2 := Aside0.mk H
        clear H
        go_wp2_with fail
        refine (impl_isTriangulation_1.calls _ _ _ _ _ HI1.out HL1.out HC.out).mono ?_
        rintro e w' ⟨rfl, hd⟩
        have HB2 := Aside0.mk (below_step HB.out hd.below)
        clear hd HB
        go_wp2
        go_roundg (l0.length - (kk + 1))
        case measure => omega
        case rel => exact ⟨kk + 1, by omega, by omega, by go_num, H2, HB2⟩
    · have hltz : ¬ (kk : Int) < (l0.length : Int) := by omega
      have e : kk = l0.length := by omega
      subst e
      have H2 := Aside0.mk (yey (by simpa [idxO] using HA.out))
      clear HA
      go_wp2
      go_ret
      exact ⟨by rw [← H2.out]; rfl, HB.out⟩
/-! ### slices_ContainsFunc_SSimpl_Face_at_impl_isTriangulation_1: function 35 at the literal 36 -/
def slices_ContainsFunc_SSimpl_Face_at_impl_isTriangulation_1.f (l0 : List (List (SFace))) : Option Bool := (slices_IndexFunc_SSimpl_Face_at_impl_isTriangulation_1.f l0).bind fun i => some (decide (0 ≤ i))
set_option maxHeartbeats 8000000 in
set_option maxRecDepth 100000 in
theorem slices_ContainsFunc_SSimpl_Face_at_impl_isTriangulation_1.calls (A0 : Option Addr) (c0 : Nat) (l0 : List (List (SFace))) (r : Bool) (w : World) (hr0 : Kd.C (Kd.slice 56 kFace) w A0 l0.length l0) (hc0 : l0.length ≤ c0) (h : slices_ContainsFunc_SSimpl_Face_at_impl_isTriangulation_1.f l0 = some r) :
    Calls Try.prog 35 #[.slice A0 l0.length c0, .func (.func 36) #[] #[]] w fun e w' => e = .returned (.bool r) ∧ Below w.heap.size w w' := by
  obtain ⟨i, hi, h⟩ := ydy.mp h
  have H := Aside0.mk (yey h)
  clear h
  have HI := Aside0.mk hi
  clear hi
  have HR0 := Aside0.mk hr0
  have HC0 := Aside0.mk hc0
  clear hr0 hc0
  go_enter Try.func35, Try.ntmps35
  go_wp2_with fail
  refine (slices_IndexFunc_SSimpl_Face_at_impl_isTriangulation_1.calls _ _ _ _ _ HR0.out HC0.out HI.out).mono ?_
  rintro e w' ⟨rfl, hd⟩
  have HB := Aside0.mk hd
  clear hd
  go_wp2
  go_ret
  exact ⟨by rw [← H.out]; rfl, HB.out⟩
end Go.Proofs.Ytcnemjcmnhlflaa.P
namespace Go.Proofs.Ytcnemjcmnhlflaa.P
open Go.RowKit Go.Proofs.YtcnemjcmnhlflaaW.PrintWords Go.Proofs.YtcnemjcmnhlflaaW.PrintLast Go.Proofs.YtcnemjcmnhlflaaW.PrintMore
attribute [local go_sem] max2_int min2_int max_two min_two max_three min_three max_four min_four   -- for this text's walks alone
set_option linter.unusedVariables false
set_option linter.unusedSimpArgs false
/-! ### impl_isTriangulation: function 17 -/
mutual
def impl_isTriangulation.j0 : Nat → Bool → List (List (SFace)) → Option (Bool)
  | 0, _, _ => none
  | k + 1, x13, x102000 => if x13 = true then (some false) else ((impl_size_Simpl_Face.f x102000).bind fun t103 => (impl_isTriangulation.l0 k t103 0 x102000))
def impl_isTriangulation.l0 : Nat → Int → Int → List (List (SFace)) → Option (Bool)
  | 0, _, _, _ => none
  | k + 1, x16, x17, x102000 => if x17 < x16 then (impl_isTriangulation.l1 k x17 x16 x17 0 x102000) else (some true)
def impl_isTriangulation.l1 : Nat → Int → Int → Int → Int → List (List (SFace)) → Option (Bool)
  | 0, _, _, _, _, _ => none
  | k + 1, x3, x16, x17, x20, x102000 => if x20 < 4 then ((impl_Triangulation_isGood.f k x102000 x3 x20).bind fun t104 => (if t104 = true then (impl_isTriangulation.l1 k x3 x16 x17 (wrap64 (x20 + 1)) x102000) else (some false))) else (impl_isTriangulation.l0 k x16 (wrap64 (x17 + 1)) x102000)
end
def impl_isTriangulation.f (k : Nat) (l0_0 : List (List (SFace))) : Option (Bool) := if (l0_0.length : Int) > 8 then (impl_isTriangulation.j0 k true l0_0) else ((slices_ContainsFunc_SSimpl_Face_at_impl_isTriangulation_1.f l0_0).bind fun t102 => (impl_isTriangulation.j0 k t102 l0_0))
set_option maxHeartbeats 8000000 in
set_option maxRecDepth 100000 in
theorem impl_isTriangulation.calls (k : Nat) (A0_0 : Option Addr) (c0_0 : Nat) (l0_0 : List (List (SFace))) (r : Bool) (w : World) (hr0_0 : Kd.C (Kd.slice 56 kFace) w A0_0 l0_0.length l0_0) (hc0_0 : l0_0.length ≤ c0_0) (h : impl_isTriangulation.f k l0_0 = some r) :
    Calls Try.prog 17 #[.agg #[.slice A0_0 l0_0.length c0_0]] w fun e w' => e = .returned (.bool r) ∧ Below w.heap.size w w' := by
  have hu30 := Try.underlying30
  have HR0_0 := Aside0.mk hr0_0
  have HC0_0 := Aside0.mk hc0_0
  clear hr0_0 hc0_0
  have HB := Aside0.mk (ypy w.heap.size w)
  have H : (if (l0_0.length : Int) > 8 then (impl_isTriangulation.j0 k true l0_0) else ((slices_ContainsFunc_SSimpl_Face_at_impl_isTriangulation_1.f l0_0).bind fun t102 => (impl_isTriangulation.j0 k t102 l0_0))) = some r := h
  clear h
  have HC2 := Aside0.mk H
  clear H
  go_enter Try.func17, Try.ntmps17
  go_upto_region 1 with (first | ((with_reducible refine gate_dst (N := 1) rfl ?_); refine box_event ?hg (N := 1) ?hd (cs := #[.slice A0_0 l0_0.length c0_0]) (t := 30) ?hr ?_; (case hd => rfl); (case hg => rfl); (case hr => first | (go_simp; done) | (go_simp; rfl)); intro gb101 hg w3 hbox hb; have n0_ := Aside0.mk (below_step (by repeat (first | (with_reducible first | exact HB.out | apply below_alloc | apply pw_below_drewN | apply below_drew1) | exact HB.out)) hb); have n1_ := Aside0.mk (hbox); have n2_ := Aside0.mk ((by rw [hg]; exact (below_size (by repeat (first | (with_reducible first | exact HB.out | apply below_alloc | apply pw_below_drewN | apply below_drew1) | exact HB.out))) : w.heap.size ≤ gb101)); have n3_ := Aside0.mk ((by rw [hg]; exact (below_size (by repeat (first | (with_reducible first | exact HB.out | apply below_alloc | apply pw_below_drewN | apply below_drew1) | exact HB.out))) : w.heap.size ≤ gb101)); clear HB; have HB := n0_; have BK101 := n1_; have GW101 := n2_; have GE101 := n3_; clear n0_ n1_ n2_ n3_; clear hb hbox hg))
  (try simp only [Act.put, yay, yby, ycy])
  go_cut [13] (fun v13 wc => ∃ (kq : Nat) (x13_1 : Bool), v13 = .bool x13_1 ∧ Aside0 (impl_isTriangulation.j0 kq x13_1 l0_0 = some r) ∧ Aside0 (kq ≤ k) ∧ Aside0 (wc.heap[gb101]? = some (.cells #[(.slice A0_0 l0_0.length c0_0)] 30 (0, 0))) ∧ Aside0 (Below w.heap.size w wc))
  case first =>
    have H := HC2.out
    clear HC2
    by_cases c4 : (l0_0.length : Int) > 8
    · rw [if_pos c4] at H
      have c4b0 : decide (8 < (l0_0.length : Int)) = true := ygy c4
      have c4b1 : decide (8 < l0_0.length) = true := ygy (by omega)
      clear c4
      (first | rw [c4b0] | (simp only [i64_w, i32_w]; rw [c4b0]) | skip)
      have H' := Aside0.mk H
      clear H
      have hcz5_0 : w3.cell? ⟨gb101, 0, none⟩ = some (.slice A0_0 l0_0.length c0_0) := (blk_cell BK101.out 0).trans rfl
      have hfz5_0 := blk_frozen BK101.out 0
      go_wp2
      go_meet
      case rel => exact ⟨_, (true), (by first | rfl | (simp; done) | (simp [*]; done)), H', ⟨by first | omega | exact yoy _⟩, ⟨by (with_reducible repeat (first | refine blk_drewN ?_ _ | refine blk_drew ?_ | refine blk_alloc ?_ _)); exact BK101.out⟩, ⟨by repeat (first | (with_reducible first | exact HB.out | apply below_alloc | apply pw_below_drewN | apply below_drew1 | refine below_set ?_ GE101.out) | exact HB.out)⟩⟩
    · rw [if_neg c4] at H
      have c4b0 : decide (8 < (l0_0.length : Int)) = false := yhy c4
      have c4b1 : decide (8 < l0_0.length) = false := yhy (by omega)
      clear c4
      (first | rw [c4b0] | (simp only [i64_w, i32_w]; rw [c4b0]) | skip)
      replace H := ydy.mp H
      obtain ⟨t102, A60, H⟩ := H
      replace H : (impl_isTriangulation.j0 k t102 l0_0) = some r := H
      have A6 := Aside0.mk A60
      clear A60
      have H' := Aside0.mk H
      clear H
      have hcz7_0 : w3.cell? ⟨gb101, 0, none⟩ = some (.slice A0_0 l0_0.length c0_0) := (blk_cell BK101.out 0).trans rfl
      have hfz7_0 := blk_frozen BK101.out 0
      go_wp2_with (first | (go_at_call 35; (with_reducible refine (slices_ContainsFunc_SSimpl_Face_at_impl_isTriangulation_1.calls _ _ l0_0 t102 _ ?side1 ?side2 A6.out).mono ?_); (case side1 => repeat (first | exact (Kd.C_below HR0_0.out HB.out) | (with_reducible refine Kd.C_alloc ?_ _) | (with_reducible refine Kd.C_drewN ?_ _) | (with_reducible refine Kd.C_drew ?_))); (case side2 => exact HC0_0.out); rintro e w8 ⟨rfl, hb⟩; have n0_ := Aside0.mk (blk_below (g := gb101) (o := .cells #[.slice A0_0 l0_0.length c0_0] 30 (0, 0)) (by (with_reducible repeat (first | refine blk_drewN ?_ _ | refine blk_drew ?_ | refine blk_alloc ?_ _)); exact BK101.out) hb); have n1_ := Aside0.mk (below_step (by repeat (first | (with_reducible first | exact HB.out | apply below_alloc | apply pw_below_drewN | apply below_drew1 | refine below_set ?_ GE101.out) | exact HB.out)) hb); clear BK101; clear HB; have BK101 := n0_; have HB := n1_; clear n0_ n1_; (try clear hb); (try clear hb2); (try clear hk); (try clear hi)))
      go_meet
      case rel => exact ⟨_, (t102), (by first | rfl | (simp; done) | (simp [*]; done)), H', ⟨by first | omega | exact yoy _⟩, ⟨by (with_reducible repeat (first | refine blk_drewN ?_ _ | refine blk_drew ?_ | refine blk_alloc ?_ _)); exact BK101.out⟩, ⟨by repeat (first | (with_reducible first | exact HB.out | apply below_alloc | apply pw_below_drewN | apply below_drew1 | refine below_set ?_ GE101.out) | exact HB.out)⟩⟩
  case rest =>
    clear HC2
    try clear c1
    try clear p2
    try clear c4
    try clear c4b0
    try clear c4b1
    try clear hcz5_0
    try clear hcz7_0
    try clear hfz5_0
    try clear hfz7_0
    obtain ⟨kq, x13_1, rfl, HA, HJ1, BK101, HB⟩ := hcut
    cases kq with
    | zero => exact absurd HA.out (by simp [impl_isTriangulation.j0])
    | succ kj1 =>
      have H := HA.out
      clear HA
      simp only [impl_isTriangulation.j0] at H
      by_cases c9 : x13_1 = true
      · subst c9
        have H1 : (some false) = some r := by rw [if_pos rfl] at H; exact H
        clear H
        have H := H1
        clear H1
        obtain rfl := yey H
        go_wp2
        go_ret
        exact ⟨by first | rfl | (simp [errW_none, errW_some] <;> rfl) | (simp [*, errW_none, errW_some] <;> rfl), by repeat (first | (with_reducible first | exact HB.out | apply below_alloc | apply pw_below_drewN | apply below_drew1 | refine below_set ?_ GE101.out) | exact HB.out)⟩
      · replace c9 := Bool.eq_false_iff.mpr c9
        subst c9
        have H1 : ((impl_size_Simpl_Face.f l0_0).bind fun t103 => (impl_isTriangulation.l0 kj1 t103 0 l0_0)) = some r := by rw [if_neg (show ¬ (false = true) by decide)] at H; exact H
        clear H
        have H := H1
        clear H1
        replace H := ydy.mp H
        obtain ⟨t103, A100, H⟩ := H
        replace H : (impl_isTriangulation.l0 kj1 t103 0 l0_0) = some r := H
        have A10 := Aside0.mk A100
        clear A100
        have H' := Aside0.mk H
        clear H
        have hcz11_0 : wc.cell? ⟨gb101, 0, none⟩ = some (.slice A0_0 l0_0.length c0_0) := (blk_cell BK101.out 0).trans rfl
        have hfz11_0 := blk_frozen BK101.out 0
        go_wp2_with (first | ((with_reducible refine gate_callee (f := 21) rfl ?_); refine goesL_ (some 16) rfl rfl Try.func21 (by kernel_rfl) rfl #[.slice A0_0 l0_0.length c0_0] rfl (by (try simp only [yiy, yjy, yky]); first | done | rfl | (simp only [yly, ymy]; rfl)) ?_; (with_reducible refine (impl_size_Simpl_Face.calls _ _ l0_0 t103 _ ?side1 ?side2 A10.out).mono ?_); (case side1 => repeat (first | exact (Kd.C_below HR0_0.out HB.out) | (with_reducible refine Kd.C_alloc ?_ _) | (with_reducible refine Kd.C_drewN ?_ _) | (with_reducible refine Kd.C_drew ?_))); (case side2 => exact HC0_0.out); rintro e w' ⟨rfl, ⟨nd, rfl⟩⟩; refine ⟨_, rfl, ?_⟩))
        go_loopg [17] kj1 (fun kq v17 w' => ∃ (x17_2 : Int), v17 = .int .i64 x17_2 ∧ Aside0 (impl_isTriangulation.l0 kq t103 x17_2 l0_0 = some r) ∧ Aside0 (kq ≤ kj1) ∧ Aside0 (w'.heap[gb101]? = some (.cells #[(.slice A0_0 l0_0.length c0_0)] 30 (0, 0))) ∧ Aside0 (Below w.heap.size w w'))
        case atStart => exact ⟨(0), (by first | rfl | (simp; done) | (simp [*]; done)), H', ⟨yoy _⟩, ⟨by (with_reducible repeat (first | refine blk_drewN ?_ _ | refine blk_drew ?_ | refine blk_alloc ?_ _)); exact BK101.out⟩, ⟨by repeat (first | (with_reducible first | exact HB.out | apply below_alloc | apply pw_below_drewN | apply below_drew1 | refine below_set ?_ GE101.out) | exact HB.out)⟩⟩
        case round =>
          clear H'
          try clear c1
          try clear c2
          try clear p2
          try clear c4
          try clear c4b0
          try clear c4b1
          try clear c9
          try clear hcz11_0
          try clear hcz5_0
          try clear hcz7_0
          try clear hfz11_0
          try clear hfz5_0
          try clear hfz7_0
          try clear p2
          obtain ⟨x17_2, rfl, HA, HK2, BK101, HB⟩ := hrel
          cases gk with
          | zero => exact absurd HA.out (by simp [impl_isTriangulation.l0])
          | succ k2 =>
            have H := HA.out
            clear HA
            simp only [impl_isTriangulation.l0] at H
            by_cases c12 : x17_2 < t103
            · rw [if_pos c12] at H
              have c12b0 : decide (x17_2 < t103) = true := ygy c12
              clear c12
              have H' := Aside0.mk H
              clear H
              go_wp2
              go_loopg [20] k2 (fun kq v20 w' => ∃ (x20_3 : Int), v20 = .int .i64 x20_3 ∧ Aside0 (impl_isTriangulation.l1 kq x17_2 t103 x17_2 x20_3 l0_0 = some r) ∧ Aside0 (kq ≤ k2) ∧ Aside0 (w'.heap[gb101]? = some (.cells #[(.slice A0_0 l0_0.length c0_0)] 30 (0, 0))) ∧ Aside0 (Below w.heap.size w w'))
              case atStart => exact ⟨(0), (by first | rfl | (simp; done) | (simp [*]; done)), H', ⟨yoy _⟩, ⟨by (with_reducible repeat (first | refine blk_drewN ?_ _ | refine blk_drew ?_ | refine blk_alloc ?_ _)); exact BK101.out⟩, ⟨by repeat (first | (with_reducible first | exact HB.out | apply below_alloc | apply pw_below_drewN | apply below_drew1 | refine below_set ?_ GE101.out) | exact HB.out)⟩⟩
              case round =>
                clear H'
                try clear c1
                try clear c2
                try clear p2
                try clear c4
                try clear c4b0
                try clear c4b1
                try clear c9
                try clear c12
                try clear c12b0
                try clear hcz11_0
                try clear hcz5_0
                try clear hcz7_0
                try clear hfz11_0
                try clear hfz5_0
                try clear hfz7_0
                try clear p2
                obtain ⟨x20_3, rfl, HA, HK3, BK101, HB⟩ := hrel
                cases gk with
                | zero => exact absurd HA.out (by simp [impl_isTriangulation.l1])
                | succ k3 =>
                  have H := HA.out
                  clear HA
                  simp only [impl_isTriangulation.l1] at H
                  by_cases c13 : x20_3 < 4
                  · rw [if_pos c13] at H
                    have c13b0 : decide (x20_3 < 4) = true := ygy c13
                    clear c13
                    replace H := ydy.mp H
                    obtain ⟨t104, A140, H⟩ := H
                    replace H : (if t104 = true then (impl_isTriangulation.l1 k3 x17_2 t103 x17_2 (wrap64 (x20_3 + 1)) l0_0) else (some false)) = some r := H
                    have A14 := Aside0.mk A140
                    clear A140
                    by_cases c15 : t104 = true
                    · subst c15
                      have H1 : (impl_isTriangulation.l1 k3 x17_2 t103 x17_2 (wrap64 (x20_3 + 1)) l0_0) = some r := by rw [if_pos rfl] at H; exact H
                      clear H
                      have H := H1
                      clear H1
                      have H' := Aside0.mk H
                      clear H
                      have hcz16_0 : wr.cell? ⟨gb101, 0, none⟩ = some (.slice A0_0 l0_0.length c0_0) := (blk_cell BK101.out 0).trans rfl
                      have hfz16_0 := blk_frozen BK101.out 0
                      go_wp2_with (first | ((with_reducible refine gate_callee (f := 37) rfl ?_); refine goesL_ (some 26) rfl rfl Try.func37 (by kernel_rfl) rfl #[.agg #[.slice A0_0 l0_0.length c0_0], .int .i64 x17_2, .int .i64 x20_3] rfl (by (try simp only [yiy, yjy, yky]); first | done | rfl | (simp only [yly, ymy]; rfl)) ?_; (with_reducible refine (impl_Triangulation_isGood.calls k3 _ _ l0_0 x17_2 x20_3 true _ ?side1 ?side2 A14.out).mono ?_); (case side1 => repeat (first | exact (Kd.C_below HR0_0.out HB.out) | (with_reducible refine Kd.C_alloc ?_ _) | (with_reducible refine Kd.C_drewN ?_ _) | (with_reducible refine Kd.C_drew ?_))); (case side2 => exact HC0_0.out); rintro e w17 ⟨rfl, hb⟩; refine ⟨_, rfl, ?_⟩; have n0_ := Aside0.mk (blk_below (g := gb101) (o := .cells #[.slice A0_0 l0_0.length c0_0] 30 (0, 0)) (by (with_reducible repeat (first | refine blk_drewN ?_ _ | refine blk_drew ?_ | refine blk_alloc ?_ _)); exact BK101.out) hb); have n1_ := Aside0.mk (below_step (by repeat (first | (with_reducible first | exact HB.out | apply below_alloc | apply pw_below_drewN | apply below_drew1 | refine below_set ?_ GE101.out) | exact HB.out)) hb); clear BK101; clear HB; have BK101 := n0_; have HB := n1_; clear n0_ n1_; (try clear hb); (try clear hb2); (try clear hk); (try clear hi)))
                      go_roundg k3
                      case measure => have := HJ1.out; have := HK2.out; have := HK3.out; omega
                      case rel => exact ⟨(wrap64 (x20_3 + 1)), (by first | rfl | (simp; done) | (simp [*]; done)), H', ⟨by have := HJ1.out; have := HK2.out; have := HK3.out; omega⟩, ⟨by (with_reducible repeat (first | refine blk_drewN ?_ _ | refine blk_drew ?_ | refine blk_alloc ?_ _)); exact BK101.out⟩, ⟨by repeat (first | (with_reducible first | exact HB.out | apply below_alloc | apply pw_below_drewN | apply below_drew1 | refine below_set ?_ GE101.out) | exact HB.out)⟩⟩
                    · replace c15 := Bool.eq_false_iff.mpr c15
                      subst c15
                      have H1 : (some false) = some r := by rw [if_neg (show ¬ (false = true) by decide)] at H; exact H
                      clear H
                      have H := H1
                      clear H1
                      obtain rfl := yey H
                      have hcz18_0 : wr.cell? ⟨gb101, 0, none⟩ = some (.slice A0_0 l0_0.length c0_0) := (blk_cell BK101.out 0).trans rfl
                      have hfz18_0 := blk_frozen BK101.out 0
                      go_wp2_with (first | ((with_reducible refine gate_callee (f := 37) rfl ?_); refine goesL_ (some 26) rfl rfl Try.func37 (by kernel_rfl) rfl #[.agg #[.slice A0_0 l0_0.length c0_0], .int .i64 x17_2, .int .i64 x20_3] rfl (by (try simp only [yiy, yjy, yky]); first | done | rfl | (simp only [yly, ymy]; rfl)) ?_; (with_reducible refine (impl_Triangulation_isGood.calls k3 _ _ l0_0 x17_2 x20_3 false _ ?side1 ?side2 A14.out).mono ?_); (case side1 => repeat (first | exact (Kd.C_below HR0_0.out HB.out) | (with_reducible refine Kd.C_alloc ?_ _) | (with_reducible refine Kd.C_drewN ?_ _) | (with_reducible refine Kd.C_drew ?_))); (case side2 => exact HC0_0.out); rintro e w19 ⟨rfl, hb⟩; refine ⟨_, rfl, ?_⟩; have n0_ := Aside0.mk (blk_below (g := gb101) (o := .cells #[.slice A0_0 l0_0.length c0_0] 30 (0, 0)) (by (with_reducible repeat (first | refine blk_drewN ?_ _ | refine blk_drew ?_ | refine blk_alloc ?_ _)); exact BK101.out) hb); have n1_ := Aside0.mk (below_step (by repeat (first | (with_reducible first | exact HB.out | apply below_alloc | apply pw_below_drewN | apply below_drew1 | refine below_set ?_ GE101.out) | exact HB.out)) hb); clear BK101; clear HB; have BK101 := n0_; have HB := n1_; clear n0_ n1_; (try clear hb); (try clear hb2); (try clear hk); (try clear hi)))
                      go_ret
                      exact ⟨by first | rfl | (simp [errW_none, errW_some] <;> rfl) | (simp [*, errW_none, errW_some] <;> rfl), by repeat (first | (with_reducible first | exact HB.out | apply below_alloc | apply pw_below_drewN | apply below_drew1 | refine below_set ?_ GE101.out) | exact HB.out)⟩
                  · rw [if_neg c13] at H
                    have c13b0 : decide (x20_3 < 4) = false := yhy c13
                    clear c13
                    have H' := Aside0.mk H
                    clear H
                    go_wp2
                    go_roundg k3
                    case measure => have := HJ1.out; have := HK2.out; have := HK3.out; omega
                    case rel => exact ⟨(wrap64 (x17_2 + 1)), (by first | rfl | (simp; done) | (simp [*]; done)), H', ⟨by have := HJ1.out; have := HK2.out; have := HK3.out; omega⟩, ⟨by (with_reducible repeat (first | refine blk_drewN ?_ _ | refine blk_drew ?_ | refine blk_alloc ?_ _)); exact BK101.out⟩, ⟨by repeat (first | (with_reducible first | exact HB.out | apply below_alloc | apply pw_below_drewN | apply below_drew1 | refine below_set ?_ GE101.out) | exact HB.out)⟩⟩
            · rw [if_neg c12] at H
              have c12b0 : decide (x17_2 < t103) = false := yhy c12
              clear c12
              obtain rfl := yey H
              go_wp2
              go_ret
              exact ⟨by first | rfl | (simp [errW_none, errW_some] <;> rfl) | (simp [*, errW_none, errW_some] <;> rfl), by repeat (first | (with_reducible first | exact HB.out | apply below_alloc | apply pw_below_drewN | apply below_drew1 | refine below_set ?_ GE101.out) | exact HB.out)⟩
end Go.Proofs.Ytcnemjcmnhlflaa.P
