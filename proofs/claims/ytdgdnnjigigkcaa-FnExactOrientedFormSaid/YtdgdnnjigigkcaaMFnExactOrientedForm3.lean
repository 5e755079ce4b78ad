/- The statement FnExactOrientedFormSaid, proved: part 3 of 8 (texts of this session and of the kit's print, put together and cut to what is used by a program of it). -/
import Derived.Test.YtdgdnnjigigkcaaMFnExactOrientedForm2
import Derived.Shelf.Bits.Mul64
import Derived.Laws.CopyOwn
namespace Go.Proofs.Ytdgdnnjigigkcaa.P
open Go.RowKit Go.Proofs.YtdgdnnjigigkcaaW.PrintWords Go.Proofs.YtdgdnnjigigkcaaW.PrintLast Go.Proofs.YtdgdnnjigigkcaaW.PrintMore
attribute [local go_sem] Qm Qn JO JP QT QU Qo Qp
set_option linter.unusedVariables false
set_option linter.unusedSimpArgs false
def JE.f  : Option (Int × Int) := some ((-1), 0)
set_option maxHeartbeats 8000000 in
set_option maxRecDepth 100000 in
theorem JE.calls  (r1 : Int) (r2 : Int) (w : World) (h : JE.f  = some (r1, r2)) :
    Calls Try.prog 130 #[] w fun e w' => e = .returned (.agg #[.int .i64 r1, .int .i64 r2]) ∧ Below w.heap.size w w' := by
  have hu74 := Try.underlying74
  have HB := zA.mk (yqy w.heap.size w)
  have H : (some ((-1), 0)) = some (r1, r2) := h
  clear h
  simp only [Option.some.injEq, Prod.mk.injEq] at H
  obtain ⟨rfl, rfl⟩ := H
  go_enter Try.func130, Try.ntmps130
  go_wp2_with (first | ((with_reducible refine zm (N := 0) rfl ?_); refine zp ?hg (N := 0) ?hd (cs := #[.int .i64 0, .int .i64 0]) (t := 74) ?hr ?_; (case hd => rfl); (case hg => rfl); (case hr => first | (go_simp; done) | (go_simp; rfl)); intro gb101 hg w1 hbox hb; have n0_ := zA.mk (zO (by repeat (first | (with_reducible first | exact HB.out | apply zD | apply zB | apply zE) | exact HB.out)) hb); have n1_ := zA.mk (hbox); have n2_ := zA.mk ((by rw [hg]; exact (zP (by repeat (first | (with_reducible first | exact HB.out | apply zD | apply zB | apply zE) | exact HB.out))) : w.heap.size ≤ gb101)); have n3_ := zA.mk ((by rw [hg]; exact (zP (by repeat (first | (with_reducible first | exact HB.out | apply zD | apply zB | apply zE) | exact HB.out))) : w.heap.size ≤ gb101)); clear HB; have HB := n0_; have BK101 := n1_; have GW101 := n2_; have GE101 := n3_; clear n0_ n1_ n2_ n3_; clear hb hbox hg; have hcz2_0 : w1.cell? ⟨gb101, 0, none⟩ = some (.int .i64 0) := (zJ BK101.out 0).trans rfl; have hcz2_1 : w1.cell? ⟨gb101, 1, none⟩ = some (.int .i64 0) := (zJ BK101.out 1).trans rfl; have hfz2_0 := zL BK101.out 0; have hfz2_1 := zL BK101.out 1))
  refine bodyPost_ret (results_cell_row rfl _ _ gb101 74 #[.int .i64 (-1), .int .i64 0] (0, 0) _ rfl (by (with_reducible repeat (first | refine zI ?_ _ | refine zK ?_ | refine zH ?_ _)); refine qH (cs := #[.int .i64 (-1), .int .i64 0]) ?_ 1 _ rfl; (with_reducible repeat (first | refine zI ?_ _ | refine zK ?_ | refine zH ?_ _)); refine qH (cs := #[.int .i64 0, .int .i64 0]) ?_ 0 _ rfl; (with_reducible repeat (first | refine zI ?_ _ | refine zK ?_ | refine zH ?_ _)); exact BK101.out) Try.underlying74 rfl (by kernel_rfl)) rfl ?_
  exact ⟨by first | rfl | (simp [zX, zY] <;> rfl) | (simp [*, zX, zY] <;> rfl), by repeat (first | (with_reducible first | exact HB.out | apply zD | apply zB | apply zE | refine zG ?_ GE101.out) | exact HB.out)⟩
def QV.f (a0 : Int) (a1 : Int) : Option Int := if 0 ≤ a0 ∧ a0 ≤ 23 ∧ 0 ≤ a1 ∧ a1 ≤ 23 then some (QD a0 a1) else none
set_option maxHeartbeats 8000000 in
set_option maxRecDepth 100000 in
theorem QV.calls (a0 : Int) (a1 : Int) (r : Int) (w : World) (h : QV.f a0 a1 = some r) :
    Calls Try.prog 136 #[.int .i64 a0, .int .i64 a1] w fun e w' => e = .returned (.int .i64 r) ∧ Below w.heap.size w w' := by
  unfold QV.f at h
  by_cases hc : 0 ≤ a0 ∧ a0 ≤ 23 ∧ 0 ≤ a1 ∧ a1 ≤ 23
  case neg => rw [if_neg hc] at h; exact absurd h (by simp)
  rw [if_pos hc] at h
  have hr : QD a0 a1 = r := yey h
  clear h
  subst hr
  obtain ⟨h0, h1, h2, h3⟩ := hc
  have HS := zA.mk (Qy a0 h0 h1)
  have HT := zA.mk (Qy a1 h2 h3)
  have H0 := zA.mk h0
  have H1 := zA.mk h1
  have H2 := zA.mk h2
  have H3 := zA.mk h3
  clear h0 h1 h2 h3
  have HCP := zA.mk (show QD a0 a1 = zEq (zEi [zo a0 0, zo a0 1, zo a0 2, zo a0 3] [zo a1 0, zo a1 1, zo a1 2, zo a1 3]) from rfl)
  go_enter Try.func136, Try.ntmps136
  go_wp2_with fail
  refine (Qx.calls _ _ H0.out H1.out).mono ?_
  rintro e w1 ⟨rfl, hb⟩
  have HB1 := zA.mk hb
  clear hb
  go_wp2_with fail
  refine (Qx.calls _ _ H2.out H3.out).mono ?_
  rintro e w2 ⟨rfl, hb⟩
  have HB2 := zA.mk (zO HB1.out hb)
  clear hb HB1
  generalize zo a0 0 = x0 at HS HCP ⊢
  generalize zo a0 1 = x1 at HS HCP ⊢
  generalize zo a0 2 = x2 at HS HCP ⊢
  generalize zo a0 3 = x3 at HS HCP ⊢
  generalize zo a1 0 = z0 at HT HCP ⊢
  generalize zo a1 1 = z1 at HT HCP ⊢
  generalize zo a1 2 = z2 at HT HCP ⊢
  generalize zo a1 3 = z3 at HT HCP ⊢
  have ht := Try.underlying108
  go_wp2_with fail
  have hsz := HB2.out.size
  have B5 := zA.mk (zH (zH (ZH (W := w2) rfl (.cells #[.int .i64 x0, .int .i64 x1, .int .i64 x2, .int .i64 x3] 108)) (.cells #[.int .i64 z0, .int .i64 z1, .int .i64 z2, .int .i64 z3] 108)) (.cells #[.int .i64 0, .int .i64 0, .int .i64 0, .int .i64 0] 108))
  have B6 := zA.mk (zH (ZH (W := w2.alloc (.cells #[.int .i64 x0, .int .i64 x1, .int .i64 x2, .int .i64 x3] 108)) (n := w2.heap.size + 1) (by simp) (.cells #[.int .i64 z0, .int .i64 z1, .int .i64 z2, .int .i64 z3] 108)) (.cells #[.int .i64 0, .int .i64 0, .int .i64 0, .int .i64 0] 108))
  have B7 := zA.mk (ZH (W := (w2.alloc (.cells #[.int .i64 x0, .int .i64 x1, .int .i64 x2, .int .i64 x3] 108)).alloc (.cells #[.int .i64 z0, .int .i64 z1, .int .i64 z2, .int .i64 z3] 108)) (n := w2.heap.size + 1 + 1) (by simp) (.cells #[.int .i64 0, .int .i64 0, .int .i64 0, .int .i64 0] 108))
  have HB := zA.mk (zD (zD (zD HB2.out (.cells #[.int .i64 x0, .int .i64 x1, .int .i64 x2, .int .i64 x3] 108)) (.cells #[.int .i64 z0, .int .i64 z1, .int .i64 z2, .int .i64 z3] 108)) (.cells #[.int .i64 0, .int .i64 0, .int .i64 0, .int .i64 0] 108))
  clear HB2 B5
  go_loopg [15] 4 (fun gg v15 w' => ∃ (i : Nat) (b0 b1 b2 b3 : Int), i ≤ 4 ∧ 4 - i ≤ gg ∧ v15 = .int .i64 i ∧ zA ([b0, b1, b2, b3] = zA4 [x0, x1, x2, x3] [z0, z1, z2, z3] i) ∧
    zA (w'.heap[w2.heap.size + 1]? = some (.cells #[.int .i64 z0, .int .i64 z1, .int .i64 z2, .int .i64 z3] 108 (0, 0))) ∧
    zA (w'.heap[w2.heap.size + 1 + 1]? = some (.cells #[.int .i64 b0, .int .i64 b1, .int .i64 b2, .int .i64 b3] 108 (0, 0))) ∧ zA (Below w.heap.size w w'))
  case atStart => exact ⟨0, 0, 0, 0, 0, by omega, by omega, rfl, ⟨rfl⟩, B6, B7, HB⟩
  case round =>
    clear HB B6 B7
    obtain ⟨i, b0, b1, b2, b3, hi, hg, rfl, HI, B6, B7, HB⟩ := hrel
    rcases (show i = 4 ∨ i = 3 ∨ i = 2 ∨ i = 1 ∨ i = 0 by omega) with rfl | rfl | rfl | rfl | rfl
    · have c0 : wr.cell? ⟨w2.heap.size + 1 + 1, 0, none⟩ = some (.int .i64 b0) := (zJ B7.out 0).trans rfl
      have c1 : wr.cell? ⟨w2.heap.size + 1 + 1, 1, none⟩ = some (.int .i64 b1) := (zJ B7.out 1).trans rfl
      have c2 : wr.cell? ⟨w2.heap.size + 1 + 1, 2, none⟩ = some (.int .i64 b2) := (zJ B7.out 2).trans rfl
      have c3 : wr.cell? ⟨w2.heap.size + 1 + 1, 3, none⟩ = some (.int .i64 b3) := (zJ B7.out 3).trans rfl
      go_wp2_with fail
      have hI : [b0, b1, b2, b3] = zEi [x0, x1, x2, x3] [z0, z1, z2, z3] := HI.out
      have hs0 := QO HT.out.1 HT.out.2.1 HT.out.2.2.1 HT.out.2.2.2 x0 HS.out.1.1 HS.out.1.2
      have hs1 := QO HT.out.1 HT.out.2.1 HT.out.2.2.1 HT.out.2.2.2 x1 HS.out.2.1.1 HS.out.2.1.2
      have hs2 := QO HT.out.1 HT.out.2.1 HT.out.2.2.1 HT.out.2.2.2 x2 HS.out.2.2.1.1 HS.out.2.2.1.2
      have hs3 := QO HT.out.1 HT.out.2.1 HT.out.2.2.1 HT.out.2.2.2 x3 HS.out.2.2.2.1 HS.out.2.2.2.2
      have hI2 : [b0, b1, b2, b3] = [rd [z0, z1, z2, z3] x0, rd [z0, z1, z2, z3] x1, rd [z0, z1, z2, z3] x2, rd [z0, z1, z2, z3] x3] := hI
      simp only [List.cons.injEq, and_true] at hI2
      rw [← hI2.1] at hs0
      rw [← hI2.2.1] at hs1
      rw [← hI2.2.2.1] at hs2
      rw [← hI2.2.2.2] at hs3
      refine (zAE.calls b0 b1 b2 b3 _ hs0 hs1 hs2 hs3).mono ?_
      rintro e w3 ⟨rfl, hb⟩
      have HB2 := zA.mk (zO HB.out hb)
      have HF := zA.mk (show zEq [b0, b1, b2, b3] = QD a0 a1 by rw [HCP.out, ← hI])
      clear hb hI hI2 hs0 hs1 hs2 hs3
      go_wp2
      go_ret
      exact ⟨by rw [← HF.out]; rfl, HB2.out⟩
    · have ix := ZZ x0 x1 x2 x3 3 (by omega) (by omega)
      have hx : rd [x0, x1, x2, x3] 3 = x3 := rfl
      rw [hx] at ix
      have hs : sm x3 := HS.out.2.2.2
      obtain ⟨hs0, hs1⟩ := hs
      have c6 := ZU B6.out x3 hs0 hs1
      have b7 : wr.cell? ⟨w2.heap.size + 1 + 1, 3, none⟩ = some (.int .i64 b3) := (zJ B7.out 3).trans rfl
      have f7 := zL B7.out 3
      have HN : [b0, b1, b2, b3].set 3 (rd [z0, z1, z2, z3] x3) = zA4 [x0, x1, x2, x3] [z0, z1, z2, z3] (3 + 1) := by rw [HI.out]; rfl
      generalize rd [z0, z1, z2, z3] x3 = yy at c6 HN
      have B7n := zA.mk (JQ B7.out 3 yy (by omega) (by omega))
      have B6n := zA.mk (zv (p := ⟨w2.heap.size + 1 + 1, 3, none⟩) B6.out (by show w2.heap.size + 1 ≠ w2.heap.size + 1 + 1; omega) (.int .i64 yy))
      have HF := zA.mk HN
      clear hx HN
      go_wp2
      go_roundg (4 - (3 + 1))
      case measure => omega
      case rel => exact ⟨3 + 1, _, _, _, _, by omega, by omega, by first | rfl | go_num, HF, B6n, B7n, ⟨zG HB.out (by omega)⟩⟩
    · have ix := ZZ x0 x1 x2 x3 2 (by omega) (by omega)
      have hx : rd [x0, x1, x2, x3] 2 = x2 := rfl
      rw [hx] at ix
      have hs : sm x2 := HS.out.2.2.1
      obtain ⟨hs0, hs1⟩ := hs
      have c6 := ZU B6.out x2 hs0 hs1
      have b7 : wr.cell? ⟨w2.heap.size + 1 + 1, 2, none⟩ = some (.int .i64 b2) := (zJ B7.out 2).trans rfl
      have f7 := zL B7.out 2
      have HN : [b0, b1, b2, b3].set 2 (rd [z0, z1, z2, z3] x2) = zA4 [x0, x1, x2, x3] [z0, z1, z2, z3] (2 + 1) := by rw [HI.out]; rfl
      generalize rd [z0, z1, z2, z3] x2 = yy at c6 HN
      have B7n := zA.mk (JQ B7.out 2 yy (by omega) (by omega))
      have B6n := zA.mk (zv (p := ⟨w2.heap.size + 1 + 1, 2, none⟩) B6.out (by show w2.heap.size + 1 ≠ w2.heap.size + 1 + 1; omega) (.int .i64 yy))
      have HF := zA.mk HN
      clear hx HN
      go_wp2
      go_roundg (4 - (2 + 1))
      case measure => omega
      case rel => exact ⟨2 + 1, _, _, _, _, by omega, by omega, by first | rfl | go_num, HF, B6n, B7n, ⟨zG HB.out (by omega)⟩⟩
    · have ix := ZZ x0 x1 x2 x3 1 (by omega) (by omega)
      have hx : rd [x0, x1, x2, x3] 1 = x1 := rfl
      rw [hx] at ix
      have hs : sm x1 := HS.out.2.1
      obtain ⟨hs0, hs1⟩ := hs
      have c6 := ZU B6.out x1 hs0 hs1
      have b7 : wr.cell? ⟨w2.heap.size + 1 + 1, 1, none⟩ = some (.int .i64 b1) := (zJ B7.out 1).trans rfl
      have f7 := zL B7.out 1
      have HN : [b0, b1, b2, b3].set 1 (rd [z0, z1, z2, z3] x1) = zA4 [x0, x1, x2, x3] [z0, z1, z2, z3] (1 + 1) := by rw [HI.out]; rfl
      generalize rd [z0, z1, z2, z3] x1 = yy at c6 HN
      have B7n := zA.mk (JQ B7.out 1 yy (by omega) (by omega))
      have B6n := zA.mk (zv (p := ⟨w2.heap.size + 1 + 1, 1, none⟩) B6.out (by show w2.heap.size + 1 ≠ w2.heap.size + 1 + 1; omega) (.int .i64 yy))
      have HF := zA.mk HN
      clear hx HN
      go_wp2
      go_roundg (4 - (1 + 1))
      case measure => omega
      case rel => exact ⟨1 + 1, _, _, _, _, by omega, by omega, by first | rfl | go_num, HF, B6n, B7n, ⟨zG HB.out (by omega)⟩⟩
    · have ix := ZZ x0 x1 x2 x3 0 (by omega) (by omega)
      have hx : rd [x0, x1, x2, x3] 0 = x0 := rfl
      rw [hx] at ix
      have hs : sm x0 := HS.out.1
      obtain ⟨hs0, hs1⟩ := hs
      have c6 := ZU B6.out x0 hs0 hs1
      have b7 : wr.cell? ⟨w2.heap.size + 1 + 1, 0, none⟩ = some (.int .i64 b0) := (zJ B7.out 0).trans rfl
      have f7 := zL B7.out 0
      have HN : [b0, b1, b2, b3].set 0 (rd [z0, z1, z2, z3] x0) = zA4 [x0, x1, x2, x3] [z0, z1, z2, z3] (0 + 1) := by rw [HI.out]; rfl
      generalize rd [z0, z1, z2, z3] x0 = yy at c6 HN
      have B7n := zA.mk (JQ B7.out 0 yy (by omega) (by omega))
      have B6n := zA.mk (zv (p := ⟨w2.heap.size + 1 + 1, 0, none⟩) B6.out (by show w2.heap.size + 1 ≠ w2.heap.size + 1 + 1; omega) (.int .i64 yy))
      have HF := zA.mk HN
      clear hx HN
      go_wp2
      go_roundg (4 - (0 + 1))
      case measure => omega
      case rel => exact ⟨0 + 1, _, _, _, _, by omega, by omega, by first | rfl | go_num, HF, B6n, B7n, ⟨zG HB.out (by omega)⟩⟩
def relF (t : List (List zh)) (ts ps : List Int) (a f : Int) (row : List zh) : List zh :=
  if (zF (zC t a) f).f0 < 0 then row else row.set (rd (ZR (rd ps a)) f).toNat ⟨rd ts (zF (zC t a) f).f0, QD (QD (JD (rd ps a)) (zF (zC t a) f).f1) (rd ps (zF (zC t a) f).f0)⟩
def zCc (t : List (List zh)) (ts ps : List Int) (a : Int) : Nat → List zh
  | 0 => List.replicate 4 ⟨-1, 0⟩
  | f + 1 => relF t ts ps a (f : Int) (zCc t ts ps a f)
def zAl (t : List (List zh)) (ts ps : List Int) : Nat → List (List zh) → List (List zh)
  | 0, u => u
  | n + 1, u => (zAl t ts ps n u).set (rd ts (n : Int)).toNat (zCc t ts ps (n : Int) 4)
theorem zCD (t : List (List zh)) (ts ps : List Int) (a f : Int) (row : List zh) : (relF t ts ps a f row).length = row.length := by
  unfold relF; split
  · rfl
  · rw [List.length_set]
theorem zAd (t : List (List zh)) (ts ps : List Int) (a : Int) : ∀ n, (zCc t ts ps a n).length = 4
  | 0 => rfl
  | n + 1 => by rw [zCc, zCD, zAd t ts ps a n]
theorem Zq (t : List (List zh)) (ts ps : List Int) (u : List (List zh)) : ∀ n, (zAl t ts ps n u).length = u.length
  | 0 => rfl
  | n + 1 => by rw [zAl, List.length_set, Zq t ts ps u n]
def okF (n : Nat) (x : zh) : Bool := decide (x.f0 < 0) || (decide (x.f0 < (n : Int)) && decide (0 ≤ x.f1) && decide (x.f1 ≤ 23))
def zBn (t : List (List zh)) (ts ps : List Int) : Bool :=
  decide (t.length ≤ 1000000) && t.all (fun r => decide (r.length = 4) && r.all (okF t.length)) && decide (ts.length = t.length) && ts.all (fun i => decide (0 ≤ i) && decide (i < (t.length : Int))) && decide (ps.length = t.length) && ps.all (fun p => decide (0 ≤ p) && decide (p ≤ 23))
theorem zDY {t : List (List zh)} {ts ps : List Int} (h : zBn t ts ps = true) : t.length ≤ 1000000 ∧ (∀ r ∈ t, r.length = 4) ∧ (∀ r ∈ t, ∀ x ∈ r, ¬ x.f0 < 0 → 0 ≤ x.f0 ∧ x.f0 < (t.length : Int) ∧ 0 ≤ x.f1 ∧ x.f1 ≤ 23) ∧ ts.length = t.length ∧ (∀ i ∈ ts, 0 ≤ i ∧ i < (t.length : Int)) ∧ ps.length = t.length ∧ ∀ p ∈ ps, 0 ≤ p ∧ p ≤ 23 := by
  unfold zBn at h
  simp only [Bool.and_eq_true, decide_eq_true_eq, List.all_eq_true] at h
  obtain ⟨⟨⟨⟨⟨h1, h2⟩, h3⟩, h4⟩, h5⟩, h6⟩ := h
  refine ⟨h1, fun r hr => (h2 r hr).1, fun r hr x hx hb => ?_, h3, h4, h5, h6⟩
  have := (h2 r hr).2 x hx
  unfold okF at this
  rw [yhy hb, Bool.false_or, Bool.and_eq_true, Bool.and_eq_true, decide_eq_true_eq, decide_eq_true_eq, decide_eq_true_eq] at this
  exact ⟨by omega, this.1.1, this.1.2, this.2⟩
theorem zCd {p q : Int} (h0 : 0 ≤ p) (h1 : p ≤ 23) (h2 : 0 ≤ q) (h3 : q ≤ 23) : 0 ≤ QD p q ∧ QD p q ≤ 23 := by
  obtain ⟨m, rfl⟩ : ∃ m : Fin 24, p = (m.val : Int) := ⟨⟨p.toNat, by omega⟩, by simp; omega⟩
  obtain ⟨n, rfl⟩ : ∃ m : Fin 24, q = (m.val : Int) := ⟨⟨q.toNat, by omega⟩, by simp; omega⟩
  have key : ∀ m n : Fin 24, 0 ≤ QD (m.val : Int) (n.val : Int) ∧ QD (m.val : Int) (n.val : Int) ≤ 23 := by decide +kernel
  exact key m n
theorem zCe {p : Int} (h0 : 0 ≤ p) (h1 : p ≤ 23) : 0 ≤ JD p ∧ JD p ≤ 23 := by
  obtain ⟨m, rfl⟩ : ∃ m : Fin 24, p = (m.val : Int) := ⟨⟨p.toNat, by omega⟩, by simp; omega⟩
  have key : ∀ m : Fin 24, 0 ≤ JD (m.val : Int) ∧ JD (m.val : Int) ≤ 23 := by decide +kernel
  exact key m
theorem Je {l : List Int} {P : Int → Prop} (h : ∀ x ∈ l, P x) {i : Int} (h0 : 0 ≤ i) (h1 : i < (l.length : Int)) : P (rd l i) := by
  obtain ⟨m, rfl⟩ := Int.eq_ofNat_of_zero_le h0
  have hm : m < l.length := by omega
  have e : rd l (m : Int) = l[m] := by simp [rd, hm]
  rw [e]; exact h _ (List.getElem_mem hm)
theorem zDZ {W : World} {b go n cap : Nat} {t : List (List zh)} {v : Value} {row : List zh} (h : Kd.S (Kd.slice 74 qJ) 75 W b (fun k => some k ≠ v.ownBlock) (.slice (some ⟨go, 0, none⟩) n cap) t) (hr : Kd.R qJ 74 W b (fun _ => True) v row) (i : Int) (h0 : 0 ≤ i) (h1 : i < n) :
    (∃ old, W.cell? ⟨go, i.toNat, none⟩ = some old) ∧ W.frozen? ⟨go, i.toNat, none⟩ = false ∧ Kd.S (Kd.slice 74 qJ) 75 (W.setCell ⟨go, i.toNat, none⟩ v) b (fun _ => True) (.slice (some ⟨go, 0, none⟩) n cap) (t.set i.toNat row) ∧ W.grownBy (W.setCell ⟨go, i.toNat, none⟩ v) (some go) := by
  have hS : Kd.S (Kd.slice 74 qJ) 75 W b (fun k_ => (fun _ => True) k_ ∧ ¬ (fun k_ => some k_ = v.ownBlock) k_) (.slice (some ⟨go, 0, none⟩) n cap) t := Kd.Qk h (fun k hk => ⟨trivial, hk⟩)
  have hR : Kd.R qJ 74 W b (fun k => (fun _ => True) k ∧ k ≠ go) v row := Kd.qR (Kd.Jn hr (Kd.zAb h) (by decide)) (fun k_ hk => ⟨trivial, fun e_ => hk.2 (by rw [e_]; rfl)⟩)
  obtain ⟨oki, ce, hcl, hM, hcc, hfr, hoki, hH⟩ := Kd.zDS hS [] i h0 h1
  obtain ⟨ve, rfl, ge⟩ := hM
  have HP := Kd.S_seg hH h0 h1 (seg := [v]) (j := 0) (show 1 ≤ 1 from by decide) (x' := row) (Kd.zEX (Kd.qR (Kd.zA3 rfl hR) (fun _ h_ => Or.inr h_))) (fun _ hk => hk) (fun k_ hk_ => hR.1 k_ hk_.symm)
  have hx := hcc 0 _ rfl
  have hf := hfr 0
  simp only [show ((Kd.slice 74 qJ)).sz = 1 from rfl, Nat.mul_one, Nat.add_zero] at hx hf HP
  exact ⟨⟨_, hx⟩, hf, HP.1, HP.2⟩
theorem zCf {W : World} {b g n cap : Nat} {ok : Nat → Prop} {row : List zh} (h : Kd.R qJ 74 W b ok (.slice (some ⟨g, 0, none⟩) n cap) row) (f : Int) (h0 : 0 ≤ f) (h1 : f < n) (x : zh) :
    (∃ u, W.cell? ⟨g, f.toNat * 2, none⟩ = some (.int .i64 u)) ∧ (∃ u, W.cell? ⟨g, f.toNat * 2 + 1, none⟩ = some (.int .i64 u)) ∧ W.frozen? ⟨g, f.toNat * 2, none⟩ = false ∧ W.frozen? ⟨g, f.toNat * 2 + 1, none⟩ = false ∧
      Kd.R qJ 74 ((W.setCell ⟨g, f.toNat * 2, none⟩ (.int .i64 x.f0)).setCell ⟨g, f.toNat * 2 + 1, none⟩ (.int .i64 x.f1)) b ok (.slice (some ⟨g, 0, none⟩) n cap) (row.set f.toNat x) ∧
      W.grownBy ((W.setCell ⟨g, f.toNat * 2, none⟩ (.int .i64 x.f0)).setCell ⟨g, f.toNat * 2 + 1, none⟩ (.int .i64 x.f1)) (some g) := by
  obtain ⟨cf, hcl2, hN, hcc2, hfr⟩ := Kd.zAA h Qt f h0 h1
  obtain rfl := QC hN
  have hP := Kd.zDH h f h0 h1 (seg := [.int .i64 x.f0, .int .i64 x.f1]) (j := 0) hcl2 hcc2 (show 2 ≤ 2 from by decide) (x' := x) (Zi _ _ _ x) (fun _ hk => hk)
  exact ⟨⟨_, hcc2 0 _ rfl⟩, ⟨_, hcc2 1 _ rfl⟩, hfr 0, hfr 1, hP.1, hP.2⟩
def zEA : Go.Shelf.Ren := ⟨fun | 212 => 169 | 263 => 180 | 264 => 181 | n => n, fun | 46 => 138 | 51 => 146 | 53 => 149 | 146 => 147 | 148 => 150 | n => n, fun | n => n⟩
theorem lMul : Go.Proofs.Lays.n212 Try.prog zEA := {
  mixed := by kernel_rfl
  f212 := Try.func169.trans (congrArg some (by kernel_rfl))
  f263 := Try.func180.trans (congrArg some (by kernel_rfl))
  f264 := Try.func181.trans (congrArg some (by kernel_rfl))
  t46 := Try.underlying138
  a46 := Try.isAgg138
  z46 := Try.sizeOf138
  v46 := Try.zeroValue138
  t51 := Try.underlying146
  a51 := Try.isAgg146
  z51 := Try.sizeOf146
  v51 := Try.zeroValue146
  t53 := Try.underlying149
  a53 := Try.isAgg149
  z53 := Try.sizeOf149
  v53 := Try.zeroValue149
  t146 := Try.underlying147
  a146 := Try.isAgg147
  z146 := Try.sizeOf147
  v146 := Try.zeroValue147
  t148 := Try.underlying150
  a148 := Try.isAgg150
  z148 := Try.sizeOf150
  v148 := Try.zeroValue150 }
theorem zBo (m : Nat) (hm : m ≤ 1000000) (w : World) : Calls Try.prog 169 #[.int .u64 1, .int .u64 (m : Int)] w fun e w' => e = .returned (.tuple #[.int .u64 0, .int .u64 (m : Int)]) ∧ w' = w := by
  have h : Calls Try.prog 169 #[.int .u64 ((1 : Nat) : Int), .int .u64 (m : Int)] w fun e w' => e = .returned (.tuple #[.int .u64 ((1 * m / 18446744073709551616 : Nat) : Int), .int .u64 ((1 * m % 18446744073709551616 : Nat) : Int)]) ∧ w' = w := Go.Proofs.Any.bits_Mul lMul 1 m (by omega) (by omega) w
  rw [Nat.one_mul, Nat.div_eq_of_lt (by omega), Nat.mod_eq_of_lt (by omega)] at h
  exact h
theorem zAe {P : Program} (w : World) (dT sT ty elem : TypeId) (g o dLen dCap : Nat) (a : Addr) (sLen sCap sz : Nat) (cur : Array Value) (t : TypeId) (cs : List Value)
    (hu : P.underlying dT = some (.slice elem)) (hs : (P.info? elem).map (·.size) = some sz)
    (hg : w.heap[g]? = some (.cells cur t (0, 0))) (hn : cs.length = Nat.min sLen dLen * sz)
    (hsrc : ∀ j v, cs[j]? = some v → w.cell? (a.add j) = some v) (hfit : o + cs.length ≤ cur.size) (h1 : ∀ v ∈ cs, v.oneCell' = true) :
    (Builtin.copy_ #[dT, sT] ty #[.slice (some ⟨g, o, none⟩) dLen dCap, .slice (some a) sLen sCap]).run P w =
      .ok (goInt (Nat.min sLen dLen)) (w.setRow g (cur.toList.take o ++ cs ++ cur.toList.drop (o + cs.length)).toArray) := by
  have hl := run_loadCells_list (P := P) w a cs hsrc
  have hst := run_storeCells_at P g o t cs 0 cur w hg (by simpa using hfit) h1
  cases hq : P.info? elem with
  | none => simp [hq] at hs
  | some i =>
    have hi : i.size = sz := by simpa [hq] using hs
    simp [Builtin.copy_, run_underlying hu, Builtin.lenOf, Builtin.firstCells, sizeOf, typeInfo, hq, hi, ← hn, hl, hst]
section
variable {P : Program} {ops : Array Oper} {rest : List Oper} {o : Oper} {a : Act} {Q : Exit → Act → World → Prop} {K : Act → World → Prop} {w w1 : World}
theorem zAf (d s : Operand) (dT sT : TypeId) (ho : o.op = .call { callee := .builtin .copy, args := #[d, s], argTypes := #[dT, sT] }) (vd vs : Value) (hd : a.eval d = vd) (hs : a.eval s = vs) (n : Nat)
    (hrun : ∀ ty, (Builtin.copy_ #[dT, sT] ty #[vd, vs]).run P w = .ok (goInt n) w1) : (execOp a.eval o).run P w = .ok (.value (goInt n)) w1 := by
  simp [execOp, ho, resolve, invoke, builtin, hd, hs, hrun, Result.andThen]
theorem zCx (hgd : o.guard = none) (d s : Operand) (dT sT : TypeId) (ho : o.op = .call { callee := .builtin .copy, args := #[d, s], argTypes := #[dT, sT] }) (vd vs : Value) (hd : a.eval d = vd) (hs : a.eval s = vs) (n : Nat)
    (hrun : ∀ ty, (Builtin.copy_ #[dT, sT] ty #[vd, vs]).run P w = .ok (goInt n) w1) (h : wpList P ops Q rest (a.put o.dst (goInt n)) w1) : wpList P ops Q (o :: rest) a w :=
  Kd.zAT hgd (zAf d s dT sT ho vd vs hd hs n hrun) h
theorem zDa (hw : Region.wanted o (yielded ops a.tmps) = true) (d s : Operand) (dT sT : TypeId) (ho : o.op = .call { callee := .builtin .copy, args := #[d, s], argTypes := #[dT, sT] }) (vd vs : Value) (hd : a.eval d = vd) (hs : a.eval s = vs) (n : Nat)
    (hrun : ∀ ty, (Builtin.copy_ #[dT, sT] ty #[vd, vs]).run P w = .ok (goInt n) w1) (h : K (a.put o.dst (goInt n)) w1) : if Region.wanted o (yielded ops a.tmps) = true then Oper.wp P o a w K Q else K (a.put o.dst undef) w :=
  zA1 hw (zAf d s dT sT ho vd vs hd hs n hrun) h
end
def qq.f (l0 : List zh) (a1 : Int) : Option (List zh) := match l0 with
  | [e] => if 0 ≤ a1 ∧ a1 ≤ 1000000 then some (List.replicate a1.toNat e) else none
  | _ => none
def qw (e : zh) : List Value := [.int .i64 e.f0, .int .i64 e.f1]
def zd (e : zh) (n : Nat) : List Value := (List.replicate n (qw e)).flatten
theorem qT (e : zh) : ∀ n, (zd e n).length = n * 2
  | 0 => by simp [zd]
  | n + 1 => by
    have := qT e n
    unfold zd at this ⊢
    rw [List.replicate_succ, List.flatten_cons, List.length_append, this]
    simp [qw]; omega
theorem Zx (e : zh) (a b : Nat) : zd e (a + b) = zd e a ++ zd e b := by
  unfold zd
  rw [← List.replicate_append_replicate, List.flatten_append]
theorem Qa (e : zh) (n : Nat) : ∀ v ∈ zd e n, v.oneCell' = true := by
  intro v hv
  unfold zd at hv
  obtain ⟨l, hl, hv⟩ := List.mem_flatten.1 hv
  obtain ⟨_, rfl⟩ := List.mem_replicate.1 hl
  simp only [qw, List.mem_cons, List.not_mem_nil, or_false] at hv
  rcases hv with rfl | rfl <;> rfl
theorem QW (w : World) (b : Nat) (ok : Nat → Prop) (e : zh) : ∀ n, Zs (qJ.M w b ok) 2 (List.replicate n e) (zd e n)
  | 0 => Zs.none _ _
  | n + 1 => by
    have h := (QW w b ok e n).snoc (p := e) (c := qw e) (Zi _ _ _ e) rfl
    rw [Zx, List.replicate_succ']
    have e1 : zd e 1 = qw e := by simp [zd]
    rw [e1]; exact h
theorem QJ {cur : List Value} {e : zh} {n k m : Nat} (hc : cur.take (n * 2) = zd e n) (hm : m * 2 ≤ cur.length) (hk : n + k ≤ m) :
    (cur.take (n * 2) ++ zd e k ++ cur.drop (n * 2 + (zd e k).length)).take ((n + k) * 2) = zd e (n + k) ∧
    (cur.take (n * 2) ++ zd e k ++ cur.drop (n * 2 + (zd e k).length)).length = cur.length := by
  have l1 := qT e n
  have l2 := qT e k
  rw [hc, ← Zx]
  have l3 := qT e (n + k)
  refine ⟨?_, ?_⟩
  · rw [List.take_append_of_le_length (by omega), List.take_of_length_le (by omega)]
  · rw [List.length_append, yly, l3, l2]; omega
theorem Jf {w : World} {g : Nat} {cur : List Value} {T : TypeId} {e : zh} {n k : Nat} (hg : w.heap[g]? = some (.cells cur.toArray T (0, 0))) (hc : cur.take (n * 2) = zd e n) (hk : k ≤ n) :
    ∀ j v, (zd e k)[j]? = some v → w.cell? ((⟨g, 0, none⟩ : Addr).add j) = some v := by
  intro j v hj
  have hl : j < (zd e k).length := (List.getElem?_eq_some_iff.1 hj).1
  rw [qT] at hl
  rw [add_plain, zJ hg j]
  have h2 : (zd e n)[j]? = some v := by
    rw [show n = k + (n - k) by omega, Zx, List.getElem?_append_left (by rw [qT]; exact hl)]
    exact hj
  rw [← hc, List.getElem?_take] at h2
  split at h2
  · simpa using h2
  · cases h2
set_option maxHeartbeats 8000000 in
set_option maxRecDepth 100000 in
theorem qq.calls (A0 : Option Addr) (c0 : Nat) (l0 : List zh) (a1 : Int) (r : List zh) (w : World) (hr0 : Kd.C qJ w A0 l0.length l0) (hc0 : l0.length ≤ c0) (h : qq.f l0 a1 = some r) :
    Calls Try.prog 129 #[.slice A0 l0.length c0, .int .i64 a1] w fun e w' => ∃ v0_ : Value, e = .returned (v0_) ∧ Kd.R qJ 74 w' w.heap.size (fun _ => True) v0_ r ∧ Below w.heap.size w w' := by
  match l0, h, hr0, hc0 with
  | [e], h, hr0, hc0 =>
  unfold qq.f at h
  dsimp only at h
  show Calls Try.prog 129 #[.slice A0 1 c0, .int .i64 a1] w _
  by_cases hc : 0 ≤ a1 ∧ a1 ≤ 1000000
  case neg => rw [if_neg hc] at h; cases h
  rw [if_pos hc] at h
  obtain ⟨m, rfl⟩ := Int.eq_ofNat_of_zero_le hc.1
  rw [yny] at h
  have hr := yey h
  have hm9 : m ≤ 1000000 := by omega
  obtain ⟨ad, eA, hcl⟩ : ∃ ad, A0 = some ad ∧ ∀ j v, (qw e)[j]? = some v → w.cell? (ad.add j) = some v := by
    have hx := ZM hr0 0 (by decide) (by simp)
    obtain ⟨ad, e1, h1, h2⟩ := hx
    refine ⟨ad, e1, fun j v hj => ?_⟩
    have e0 : zF [e] 0 = e := rfl
    rw [e0] at h1 h2
    match j, hj with
    | 0, hj => rw [← show _ = v from by simpa [qw] using hj]; simpa using h1
    | 1, hj => rw [← show _ = v from by simpa [qw] using hj]; simpa [Addr.add] using h2
    | j + 2, hj => simp [qw] at hj
  subst eA
  clear h hc hr0 hc0
  have HR := zA.mk hr
  have HCL := zA.mk hcl
  have HMUL := zA.mk (zBo m hm9)
  clear hr hcl
  have u1 : IntKind.u64.wrap 1 = 1 := by rw [IntKind.wrap_u64]; rfl
  have u2 : IntKind.u64.wrap (m : Int) = (m : Int) := by rw [IntKind.wrap_u64]; omega
  go_enter Try.func129, Try.ntmps129
  go_wp2_with (first
    | (go_at_call 169; refine (HMUL.out _).mono ?_; rintro e w' ⟨rfl, hw⟩; rw [hw]; clear HMUL hw)
    | ((with_reducible refine zm (N := 30) rfl ?_); refine Kd.zAu qJ (w0 := w) w.heap.size 74 rfl (N := 30) rfl 75 _ _ rfl (m : Int) rfl rfl Try.underlying75 (.agg #[(.int .i64 0), (.int .i64 0)]) 16 zDU rfl (by decide) (by omega) Qt (ok := fun _ => True) (okp := fun _ => True) (Zi _ _ _ Qt) (fun _ hk => hk) trivial (by omega) (by omega) (yqy _ _) (ypy _) ?_; intro v1 w1 ho hb _ hnew; rw [yny] at ho; obtain ⟨gB, hbs, hge⟩ := hnew; obtain ⟨inner, hown⟩ := Kd.zC7 ho; rw [List.length_replicate] at hown; rcases hown.2 with ⟨hv, _⟩ | ⟨g, cap, cur, rfl, hbase, hh, hle, hmax, hcs, _⟩; (case inl => (rw [hv] at hbs; simp [Value.ownBlock] at hbs)); have hszz : (qJ).sz = 2 := rfl; rw [hszz] at hcs; have HH := zA.mk (show w1.heap[g]? = some (.cells cur.toList.toArray 74 (0, 0)) by rw [Array.toArray_toList]; exact hh); have HCS := zA.mk (show m ≤ cap ∧ cur.toList.length = cap * 2 ∧ cap ≤ 9223372036854775807 from ⟨hle, by rw [Array.length_toList]; exact hcs, hmax⟩); have HB := zA.mk hb; have HG := zA.mk hbase; clear ho hb hbs hge hown hh hle hmax hcs hbase hszz; generalize cur.toList = cur at HH HCS; have HN0 := zA.mk (show Nat.min 1 m ≤ m ∧ Nat.min 1 m ≤ 1 ∧ (0 < m → Nat.min 1 m = 1) from ⟨Nat.min_le_right _ _, Nat.min_le_left _ _, fun h => Nat.min_eq_left h⟩); generalize hn0 : Nat.min 1 m = n0 at HN0; have HN1 := zA.mk hn0; clear hn0)
    | ((with_reducible refine zm (N := 33) rfl ?_); refine zCx rfl (.tmp 31) (.tmp 32) 75 75 rfl (.slice (some ⟨g, 0, none⟩) m cap) (.slice (some ad) 1 c0) rfl rfl n0 (w1 := w1.setRow g (cur.take 0 ++ zd e n0 ++ cur.drop (0 + (zd e n0).length)).toArray) ?hrun ?_; (case hrun => intro ty; have q := zAe (P := Try.prog) w1 75 75 ty 74 g 0 m cap ad 1 c0 2 cur.toArray 74 (zd e n0) Try.underlying75 (by kernel_rfl) HH.out (by rw [HN1.out, qT]) (by intro j v hj; have h1 := HN0.out.2.1; rcases (show n0 = 0 ∨ n0 = 1 by omega) with e0 | e0; (· rw [e0] at hj; simp [zd] at hj); (· rw [e0] at hj; exact Ji HB.out (HCL.out j v (by simpa [zd] using hj)))) (by rw [qT]; have := HN0.out.1; have := HCS.out; simp; omega) (Qa e n0); rw [HN1.out] at q; exact q); have q1 := QJ (cur := cur) (e := e) (n := 0) (k := n0) (m := m) (by simp [zd]) (by have := HCS.out; omega) (by have := HN0.out.1; omega); rw [Nat.zero_mul, Nat.zero_add] at q1; have HH2 := zA.mk (setRow_heap w1 g cur.toArray (cur.take 0 ++ zd e n0 ++ cur.drop (0 + (zd e n0).length)).toArray 74 (0, 0) HH.out); have HB2 := zA.mk (below_setRow HB.out HG.out (cur.take 0 ++ zd e n0 ++ cur.drop (0 + (zd e n0).length)).toArray); have HT := zA.mk q1; clear q1 HH HB; generalize World.setRow w1 g _ = w2 at *; generalize (cur.take 0 ++ zd e n0 ++ cur.drop (0 + (zd e n0).length)) = cur2 at *))
  clear HCL HN1
  have hn1 := HN0.out.1
  have HT1 := zA.mk HT.out.1
  have HT2 := zA.mk (show cur2.length = cap * 2 by rw [HT.out.2]; exact HCS.out.2.1)
  have HPOS := zA.mk HN0.out.2.2
  clear HT HN0
  have hcap : m ≤ cap := HCS.out.1
  have hcap9 : cap ≤ 9223372036854775807 := HCS.out.2.2
  clear HCS
  go_loopg [8] m (fun gg v8 w' => ∃ (n : Nat) (cur : List Value), n ≤ m ∧ m - n ≤ gg ∧ zA (0 < m → 0 < n) ∧ v8 = .int .i64 n ∧ zA (w'.heap[g]? = some (.cells cur.toArray 74 (0, 0))) ∧ zA (cur.take (n * 2) = zd e n) ∧ zA (cur.length = cap * 2) ∧ zA (Below w.heap.size w w'))
  case atStart => exact ⟨n0, cur2, hn1, by omega, ⟨fun h => by rw [HPOS.out h]; omega⟩, rfl, HH2, HT1, HT2, HB2⟩
  case round =>
    clear HH2 HT1 HT2 HB2 hn1 HPOS
    obtain ⟨n, cur, hnm, hgg, HP, rfl, HH, HT, HL, HB⟩ := hrel
    by_cases hlt : n < m
    · have hltz : (n : Int) < (m : Int) := by omega
      have hn0 : 0 < n := HP.out (by omega)
      have hne : cap ≠ n := by omega
      have hnc : n ≤ cap := by omega
      go_wp2
      refine ZN (n := 10) (S := fun _ => True) (ds := []) #[false, false, false, false, false, false, false, false, false, false] (by kernel_rfl) rfl rfl trivial (fun hHeld => ?_)
      refine zg (i := 0) (N := some 38) (v := ?_) (a' := ?_) #[true, false, false, false, false, false, false, false, false, false] rfl rfl (by kernel_rfl) (fun _ _ _ h => h) (Or.inl ⟨by rfl, ?_⟩) ?_ ?_
      rotate_left
      · intro w'
        go_simp
        with_reducible rfl
      rotate_left
      · simp only [Act.put, yay, yby, ycy, zT, zU]
        rfl
      refine zg (i := 1) (N := some 39) (v := ?_) (a' := ?_) #[true, true, false, false, false, false, false, false, false, false] rfl rfl (by kernel_rfl) (fun _ _ _ h => h) (Or.inl ⟨by rfl, ?_⟩) ?_ ?_
      rotate_left
      · intro w'
        go_simp
        with_reducible rfl
      rotate_left
      · simp only [Act.put, yay, yby, ycy, zT, zU]
        rfl
      refine zg (i := 2) (N := some 40) (v := ?_) (a' := ?_) #[true, true, true, false, false, false, false, false, false, false] rfl rfl (by kernel_rfl) (fun _ _ _ h => h) (Or.inl ⟨by rfl, ?_⟩) ?_ ?_
      rotate_left
      · intro w'
        go_simp
        with_reducible rfl
      rotate_left
      · simp only [Act.put, yay, yby, ycy, zT, zU]
        rfl
      refine zg (i := 3) (N := some 41) (v := ?_) (a' := ?_) #[true, true, true, true, false, false, false, false, false, false] rfl rfl (by kernel_rfl) (fun _ _ _ h => h) (Or.inl ⟨by rfl, ?_⟩) ?_ ?_
      rotate_left
      · intro w'
        go_simp
        with_reducible rfl
      rotate_left
      · simp only [Act.put, yay, yby, ycy, zT, zU]
        rfl
      refine zg (i := 4) (N := some 42) (v := ?_) (a' := ?_) #[true, true, true, true, true, false, false, false, false, false] rfl rfl (by kernel_rfl) (fun _ _ _ h => h) (Or.inl ⟨by rfl, ?_⟩) ?_ ?_
      rotate_left
      · intro w'
        go_simp
        with_reducible rfl
      rotate_left
      · simp only [Act.put, yay, yby, ycy, zT, zU]
        rfl
      refine zg (i := 5) (N := some 43) (v := ?_) (a' := ?_) #[true, true, true, true, true, true, false, false, false, false] rfl rfl (by kernel_rfl) (fun _ _ _ h => h) (Or.inl ⟨by rfl, ?_⟩) ?_ ?_
      rotate_left
      · intro w'
        go_simp
        with_reducible rfl
      rotate_left
      · simp only [Act.put, yay, yby, ycy, zT, zU]
        rfl
      refine zg (i := 6) (N := some 44) (v := ?_) (a' := ?_) #[true, true, true, true, true, true, true, false, false, false] rfl rfl (by kernel_rfl) (fun _ _ _ h => h) (Or.inl ⟨by rfl, ?_⟩) ?_ ?_
      rotate_left
      · intro w'
        go_simp
        with_reducible rfl
      rotate_left
      · simp only [Act.put, yay, yby, ycy, zT, zU]
        rfl
      obtain ⟨k, hk, hk1, hk2, hk3⟩ : ∃ k, Nat.min n (m - n) = k ∧ k ≤ n ∧ k ≤ m - n ∧ 0 < k := ⟨_, rfl, Nat.min_le_left _ _, Nat.min_le_right _ _, Nat.lt_min.2 ⟨hn0, by omega⟩⟩
      refine QH (i := 7) (N := some 45) #[true, true, true, true, true, true, true, true, false, false] rfl rfl (by kernel_rfl) (by decide) (fun K hK => ?_)
      refine zDa (by rfl) (.tmp 41) (.tmp 44) 75 75 rfl (.slice (some ⟨g, n * 2, none⟩) (m - n) (cap - n)) (.slice (some ⟨g, 0, none⟩) n cap) (by rfl) (by rfl) k (w1 := wr.drew.setRow g (cur.take (n * 2) ++ zd e k ++ cur.drop (n * 2 + (zd e k).length)).toArray) ?hrun ?_
      case hrun =>
        intro ty
        have q := zAe (P := Try.prog) wr.drew 75 75 ty 74 g (n * 2) (m - n) (cap - n) ⟨g, 0, none⟩ n cap 2 cur.toArray 74 (zd e k) Try.underlying75 (by kernel_rfl) HH.out (by rw [hk]; exact qT _ _) (Jf (w := wr.drew) HH.out HT.out hk1) (by rw [qT, List.size_toArray, HL.out]; omega) (Qa e _)
        rw [hk] at q; exact q
      refine hK.out _ _ trivial (fun hHeld => ?_)
      clear hK K
      refine ZQ (a' := ?_) ?_ ?_
      rotate_left
      · show Act.put _ (some 45) _ = _
        simp only [Act.put, yay, yby, ycy, zT, zU]
        rfl
      have q1 := QJ (cur := cur) (e := e) (n := n) (k := k) (m := m) HT.out (by rw [HL.out]; omega) (by omega)
      have HH3 := zA.mk (setRow_heap wr.drew g cur.toArray (cur.take (n * 2) ++ zd e k ++ cur.drop (n * 2 + (zd e k).length)).toArray 74 (0, 0) HH.out)
      have HB3 := zA.mk (below_setRow HB.out.drew HG.out (cur.take (n * 2) ++ zd e k ++ cur.drop (n * 2 + (zd e k).length)).toArray)
      have HT3 := zA.mk q1.1
      have HL3 := zA.mk (q1.2.trans HL.out)
      clear q1 HH HB HT HL hk
      generalize World.setRow wr.drew g _ = w3 at *
      generalize (cur.take (n * 2) ++ zd e k ++ cur.drop (n * 2 + (zd e k).length)) = cur3 at *
      refine zg (i := 8) (N := some 46) (v := ?_) (a' := ?_) #[true, true, true, true, true, true, true, true, true, false] rfl rfl (by kernel_rfl) (fun _ _ _ h => h) (Or.inl ⟨by rfl, ?_⟩) ?_ ?_
      rotate_left
      · intro w'
        go_simp
        with_reducible rfl
      rotate_left
      · simp only [Act.put, yay, yby, ycy, zT, zU]
        rfl
      refine zg (i := 9) (N := some 8) (v := ?_) (a' := ?_) #[true, true, true, true, true, true, true, true, true, true] rfl rfl (by kernel_rfl) (fun _ _ _ h => h) (Or.inl ⟨by rfl, ?_⟩) ?_ ?_
      rotate_left
      · intro w'
        go_simp
        with_reducible rfl
      rotate_left
      · simp only [Act.put, yay, yby, ycy, zT, zU]
        rfl
      refine Zo (by kernel_rfl) ?_
      go_wp2
      go_roundg (m - (n + k))
      case measure => omega
      case rel => exact ⟨n + k, cur3, by omega, by omega, ⟨fun _ => by omega⟩, by (have hw : wrap64 ((n : Int) + (k : Int)) = ((n + k : Nat) : Int) := by unfold wrap64; omega); rw [hw], HH3, HT3, HL3, HB3⟩
    · obtain rfl : n = m := by omega
      have hltz : ¬ (n : Int) < (n : Int) := by omega
      have hR : Kd.R qJ 74 wr w.heap.size (fun _ => True) (.slice (some ⟨g, 0, none⟩) n cap) r := by
        rw [← HR.out]
        have hown : wr.ownsRow w.heap.size 74 (qJ).sz (.slice (some ⟨g, 0, none⟩) n cap) (List.replicate n e).length (zd e n) := by
          rw [List.length_replicate]
          exact ⟨by rw [qT]; rfl, .inr ⟨g, cap, cur.toArray, rfl, HG.out, HH.out, hcap, hcap9, by rw [List.size_toArray]; exact HL.out, by show cur.toArray.toList.take (n * 2) = _; exact HT.out⟩⟩
        exact ⟨fun _ _ => trivial, _, hown, QW _ _ _ e n⟩
      have HRR := zA.mk hR
      clear hR
      go_wp2
      go_ret
      exact ⟨_, rfl, HRR.out, HB.out⟩
  | [], h, _, _ => simp [qq.f] at h
  | _ :: _ :: _, h, _, _ => simp [qq.f] at h
def qG.f (t : List (List zh)) (ts ps : List Int) : Option (List (List zh)) := if zBn t ts ps = true then some (zAl t ts ps t.length (List.replicate t.length [])) else none
set_option maxHeartbeats 8000000 in
set_option maxRecDepth 100000 in
theorem qG.calls (A0_0 : Option Addr) (c0_0 : Nat) (l0_0 : List (List zh)) (A1 : Option Addr) (c1 : Nat) (l1 : List Int) (A2 : Option Addr) (c2 : Nat) (l2 : List Int) (r : List (List zh)) (w : World) (hr0_0 : Kd.C (Kd.slice 74 qJ) w A0_0 l0_0.length l0_0) (hc0_0 : l0_0.length ≤ c0_0) (hr1 : Kd.C (Kd.int .i64) w A1 l1.length l1) (hc1 : l1.length ≤ c1) (hr2 : Kd.C (Kd.int .i64) w A2 l2.length l2) (hc2 : l2.length ≤ c2) (h : qG.f l0_0 l1 l2 = some r) :
 Calls Try.prog 87 #[.agg #[.slice A0_0 l0_0.length c0_0], .slice A1 l1.length c1, .slice A2 l2.length c2] w fun e w' => ∃ v0_ : Value, e = .returned (.agg #[v0_]) ∧ Kd.S (Kd.slice 74 qJ) 75 w' w.heap.size (fun _ => True) v0_ r ∧ Below w.heap.size w w' := by
 unfold qG.f at h
 by_cases hok : zBn l0_0 l1 l2 = true
 case neg => rw [if_neg hok] at h; cases h
 rw [if_pos hok] at h
 have hr := yey h
 clear h
 obtain ⟨hbig, h4, hf, ht, hts, hp, hps⟩ := zDY hok
 clear hok
 have HR := zA.mk hr0_0
 have HT := zA.mk hr1
 have HP := zA.mk hr2
 have H4 := zA.mk h4
 have HF := zA.mk hf
 have HTS := zA.mk hts
 have HPS := zA.mk hps
 have HRR := zA.mk hr
 have L1 := zA.mk ht
 have L2 := zA.mk hp
 clear hr0_0 hr1 hr2 h4 hf hts hps hr hc0_0 hc1 hc2 ht hp
 have B3 := zA.mk (zH (ZH (W := w) rfl (.cells #[.slice A0_0 l0_0.length c0_0] 28)) (.cells #[.slice none 0 0] 28))
 have B6 := zA.mk (ZH (W := w.alloc (.cells #[.slice A0_0 l0_0.length c0_0] 28)) (n := w.heap.size + 1) (by simp) (.cells #[.slice none 0 0] 28))
 have HB := zA.mk (zD (zD (yqy w.heap.size w) (.cells #[.slice A0_0 l0_0.length c0_0] 28)) (.cells #[.slice none 0 0] 28))
 go_enter Try.func87, Try.ntmps87
 go_wp2_with (first | ((with_reducible refine zm (N := 18) rfl ?_); refine Kd.zEM (Kd.slice 74 qJ) (w0 := w) w.heap.size 75 rfl (N := 18) rfl 26 _ _ rfl (l0_0.length : Int) rfl rfl Try.underlying26 (.slice none 0 0) 24 zDV rfl (by decide) (by omega) [] (ok := fun _ => True) (okp := fun _ => True) ⟨_, rfl, Kd.Jl _ _ _ _ _⟩ (fun _ hk => hk) trivial (by omega) (by omega) HB.out (zP HB.out) ?_; intro v1 w3 ho hb hg hnew; have HO := zA.mk ho; have B32 := zA.mk (zu B3.out hg (by simp)); have B62 := zA.mk (zu B6.out hg (by simp)); have HB2 := zA.mk hb; clear ho hb hg hnew B3 B6 HB; have B3 := B32; have B6 := B62; have HB := HB2; clear B32 B62 HB2; obtain ⟨A7, c7, ev⟩ := Kd.QY HO.out; rw [List.length_replicate, yny] at ev; subst ev; rw [yny] at HO; have B7 := zA.mk (ZH (W := w3) rfl (.cells #[.slice A7 l0_0.length c7] 28)); have HO2 := zA.mk (Kd.Ze HO.out (.cells #[.slice A7 l0_0.length c7] 28)); have B32 := zA.mk (zH B3.out (.cells #[.slice A7 l0_0.length c7] 28)); have B62 := zA.mk (zH B6.out (.cells #[.slice A7 l0_0.length c7] 28)); have HB2 := zA.mk (zD HB.out (.cells #[.slice A7 l0_0.length c7] 28)); have G7 := zA.mk (show w.heap.size + 1 < w3.heap.size from qE B6.out); clear HO B3 B6 HB; have HO := HO2; have B3 := B32; have B6 := B62; have HB := HB2; clear HO2 B32 B62 HB2; have hx3 : (w3.alloc (.cells #[.slice A7 l0_0.length c7] 28)).cell? ⟨w.heap.size, 0, none⟩ = some (.slice A0_0 l0_0.length c0_0) := (zJ B3.out 0).trans rfl))
 clear hx3
 have HU := zA.mk (List.length_replicate (n := l0_0.length) (a := ([] : List zh)))
 generalize List.replicate l0_0.length ([] : List zh) = u0 at HO HRR HU
 generalize hg7 : w3.heap.size = g7 at *
 have GG := G7.out
 go_loopg [23] l0_0.length (fun gg v23 w' => ∃ i : Nat, i ≤ l0_0.length ∧ l0_0.length - i ≤ gg ∧ v23 = .int .i64 i ∧ zA (Kd.S (Kd.slice 74 qJ) 75 w' w.heap.size (fun _ => True) (.slice A7 l0_0.length c7) (zAl l0_0 l1 l2 i u0)) ∧ zA (w'.heap[w.heap.size]? = some (.cells #[.slice A0_0 l0_0.length c0_0] 28 (0, 0))) ∧ zA (w'.heap[w.heap.size + 1]? = some (.cells #[.slice none 0 0] 28 (0, 0))) ∧ zA (w'.heap[g7]? = some (.cells #[.slice A7 l0_0.length c7] 28 (0, 0))) ∧ zA (Below w.heap.size w w'))
 case atStart => exact ⟨0, Nat.zero_le _, by omega, rfl, HO, B3, B6, B7, HB⟩
 case round =>
  clear HO B3 B6 B7 HB hg7
  obtain ⟨i, hi, hg, rfl, HO, B3, B6, B7, HB⟩ := hrel
  by_cases hlt : i < l0_0.length
  rotate_left
  next =>
   obtain rfl : i = l0_0.length := by omega
   have hcz7 : wr.cell? ⟨g7, 0, none⟩ = some (.slice A7 l0_0.length c7) := (zJ B7.out 0).trans rfl
   have hcz6 : wr.cell? ⟨w.heap.size + 1, 0, none⟩ = some (.slice none 0 0) := (zJ B6.out 0).trans rfl
   have hfz6 := zL B6.out 0
   go_wp2
   refine bodyPost_ret (results_cell_row rfl _ _ (w.heap.size + 1) 28 #[.slice A7 l0_0.length c7] (0, 0) _ rfl (qH (cs := #[.slice none 0 0]) B6.out 0 _ rfl) Try.underlying28 rfl (by kernel_rfl)) rfl ?_
   refine ⟨_, rfl, ?_, zG HB.out (by omega)⟩
   rw [← HRR.out]
   exact Kd.zDz HO.out B6.out (by decide) 0 _
  have hltz : (i : Int) < (l0_0.length : Int) := by omega
  have hl1z : (i : Int) < (l1.length : Int) := by have := L1.out; omega
  have hl2z : (i : Int) < (l2.length : Int) := by have := L2.out; omega
  obtain ⟨ay, A3, c3, e4, hy, hl3, hi3⟩ := qt HR.out (i : Int) (by omega) hltz
  subst e4
  replace hy := (HB.out.cell (yoy w _ hy)).trans hy
  rw [yny] at hy
  have ex : zC l0_0 (i : Int) = l0_0[i] := by simp [zC, hlt]
  have h4 := H4.out l0_0[i] (List.getElem_mem hlt)
  have HFR := zA.mk (HF.out l0_0[i] (List.getElem_mem hlt))
  have HPB := zA.mk (Je HPS.out (i := (i : Int)) (by omega) hl2z)
  have HTB := zA.mk (Je HTS.out (i := (i : Int)) (by omega) hl1z)
  rw [← ex] at h4 HFR
  obtain ⟨aps, eps, hps0⟩ := Kd.qi HP.out (i : Int) (by omega) hl2z
  obtain ⟨ats, ets, hts0⟩ := Kd.qi HT.out (i : Int) (by omega) hl1z
  subst eps
  subst ets
  rw [yny] at hps0 hts0
  have HY := zA.mk hi3
  have hp0 := (HB.out.cell (yoy w _ hps0)).trans hps0
  have ht0 := (HB.out.cell (yoy w _ hts0)).trans hts0
  rw [h4] at hy
  clear hl3 hi3 ex
  have HPS0 := zA.mk hps0
  have HTS0 := zA.mk hts0
  have H4R := zA.mk h4
  clear hps0 hts0 h4
  have HRK := zA.mk (show zAl l0_0 l1 l2 (i + 1) u0 = (zAl l0_0 l1 l2 i u0).set (rd l1 (i : Int)).toNat (zCc l0_0 l1 l2 (i : Int) 4) from rfl)
  generalize rd l1 (i : Int) = tsi at *
  generalize hpsi : rd l2 (i : Int) = ps at *
  have HPSI := zA.mk hpsi
  clear hpsi
  go_wp2_with fail
  refine (JE.calls (-1) 0 _ rfl).mono ?_
  rintro e w4 ⟨rfl, hb⟩
  replace hp0 := (hb.cell (yoy _ _ hp0)).trans hp0
  replace ht0 := (hb.cell (yoy _ _ ht0)).trans ht0
  have HO2 := zA.mk (Kd.Zw HO.out hb)
  have B32 := zA.mk (zN B3.out hb)
  have B62 := zA.mk (zN B6.out hb)
  have B72 := zA.mk (zN B7.out hb)
  have HB2 := zA.mk (zO HB.out hb)
  clear HO B3 B6 B7 HB
  have HO := HO2
  have B3 := B32
  have B6 := B62
  have B7 := B72
  have HB := HB2
  clear HO2 B32 B62 B72 HB2
  clear hb
  go_wp2_with (first | ((with_reducible refine zm (N := 29) rfl ?_); refine Kd.zBI qJ _ 74 ?hg (N := 29) ?hd (xs := [(⟨-1, 0⟩ : zh)]) (inner := [.int .i64 (-1), .int .i64 0]) (ok := fun _ => True) (okp := fun _ => True) ?hr ?hp (fun _ hk => hk) trivial (yqy _ _) (ypy _) (by simp) ?_; (case hd => rfl); (case hg => rfl); (case hr => first | (go_simp; done) | (go_simp; rfl)); (case hp => exact (Zs.c2 (show Kd.M qJ _ _ _ (⟨-1, 0⟩ : zh) [.int .i64 (-1), .int .i64 0] from (Zi _ _ _ (⟨-1, 0⟩ : zh) )) (Zs.none _ _))); intro v29 w5 ho29 hb hg_ hnew_; obtain ⟨Aq, cq, ev⟩ := Kd.qv ho29; subst ev; have HO29 := zA.mk ho29; clear ho29 hg_ hnew_; replace hp0 := (hb.cell (yoy _ _ hp0)).trans hp0; replace ht0 := (hb.cell (yoy _ _ ht0)).trans ht0; have HO2 := zA.mk (Kd.Zw HO.out hb); have B32 := zA.mk (zN B3.out hb); have B62 := zA.mk (zN B6.out hb); have B72 := zA.mk (zN B7.out hb); have HB2 := zA.mk (zO HB.out hb); clear HO B3 B6 B7 HB; have HO := HO2; have B3 := B32; have B6 := B62; have B7 := B72; have HB := HB2; clear HO2 B32 B62 B72 HB2; clear hb) | (go_at_call 129; (refine (qq.calls Aq cq [(⟨-1, 0⟩ : zh)] 4 (List.replicate 4 (⟨-1, 0⟩ : zh)) _ (Kd.zj HO29.out).2.2 (Kd.zj HO29.out).2.1 rfl).mono ?_); rintro e w6 ⟨v10, rfl, ho10, hb⟩; have HM := zA.mk (Kd.qy ho10 (zP HB.out)); have HM9 := zA.mk (show ∀ k, v10.ownBlock = some k → w5.heap.size ≤ k from Kd.QI ho10); replace hp0 := (hb.cell (yoy _ _ hp0)).trans hp0; replace ht0 := (hb.cell (yoy _ _ ht0)).trans ht0; have HO2 := zA.mk (Kd.Qk (ok' := fun k => some k ≠ v10.ownBlock) (Kd.zAN HO.out (Kd.QI ho10) hb) (fun k hk => hk.2)); have B32 := zA.mk (zN B3.out hb); have B62 := zA.mk (zN B6.out hb); have B72 := zA.mk (zN B7.out hb); have HB2 := zA.mk (zO HB.out hb); clear HO B3 B6 B7 HB; have HO := HO2; have B3 := B32; have B6 := B62; have B7 := B72; have HB := HB2; clear HO2 B32 B62 B72 HB2; clear hb ho10 HO29) | (go_at_call 127; (refine (Qx.calls ps _ HPB.out.1 HPB.out.2).mono ?_); rintro e w7 ⟨rfl, hb⟩; replace hp0 := (hb.cell (yoy _ _ hp0)).trans hp0; replace ht0 := (hb.cell (yoy _ _ ht0)).trans ht0; have HO2 := zA.mk (Kd.Zw HO.out hb); have HM2 := zA.mk (Kd.qe HM.out hb); have B32 := zA.mk (zN B3.out hb); have B62 := zA.mk (zN B6.out hb); have B72 := zA.mk (zN B7.out hb); have HB2 := zA.mk (zO HB.out hb); clear HO HM B3 B6 B7 HB; have HO := HO2; have HM := HM2; have B3 := B32; have B6 := B62; have B7 := B72; have HB := HB2; clear HO2 HM2 B32 B62 B72 HB2; clear hb))
  obtain ⟨gm, cm, ev, hgm, hgl, cells, hcl⟩ := Kd.JJ HM.out (by decide)
  replace ev : v10 = .slice (some ⟨gm, 0, none⟩) 4 cm := ev
  subst ev
  have GM := zA.mk hgm
  clear hgm hgl hcl cells HM9
  have BA := zA.mk (ZH (W := w7) rfl (.cells #[.int .i64 (zo ps 0), .int .i64 (zo ps 1), .int .i64 (zo ps 2), .int .i64 (zo ps 3)] 108))
  have HO2 := zA.mk (Kd.Ze HO.out (.cells #[.int .i64 (zo ps 0), .int .i64 (zo ps 1), .int .i64 (zo ps 2), .int .i64 (zo ps 3)] 108))
  have HM2 := zA.mk (Kd.zZ HM.out (.cells #[.int .i64 (zo ps 0), .int .i64 (zo ps 1), .int .i64 (zo ps 2), .int .i64 (zo ps 3)] 108))
  have B32 := zA.mk (zH B3.out (.cells #[.int .i64 (zo ps 0), .int .i64 (zo ps 1), .int .i64 (zo ps 2), .int .i64 (zo ps 3)] 108))
  have B62 := zA.mk (zH B6.out (.cells #[.int .i64 (zo ps 0), .int .i64 (zo ps 1), .int .i64 (zo ps 2), .int .i64 (zo ps 3)] 108))
  have B72 := zA.mk (zH B7.out (.cells #[.int .i64 (zo ps 0), .int .i64 (zo ps 1), .int .i64 (zo ps 2), .int .i64 (zo ps 3)] 108))
  have HB2 := zA.mk (zD HB.out (.cells #[.int .i64 (zo ps 0), .int .i64 (zo ps 1), .int .i64 (zo ps 2), .int .i64 (zo ps 3)] 108))
  clear HO HM B3 B6 B7 HB
  have HO := HO2
  have HM := HM2
  have B3 := B32
  have B6 := B62
  have B7 := B72
  have HB := HB2
  clear HO2 HM2 B32 B62 B72 HB2
  generalize hw8 : w7.alloc (.cells #[.int .i64 (zo ps 0), .int .i64 (zo ps 1), .int .i64 (zo ps 2), .int .i64 (zo ps 3)] 108) = w8 at HO HM B3 B6 B7 BA HB ⊢
  generalize w7.heap.size = ga at BA ⊢
  clear hw8 hp0 ht0 hy
  go_loopg [38] 4 (fun gg v38 w' => ∃ f : Nat, f ≤ 4 ∧ 4 - f ≤ gg ∧ v38 = .int .i64 f ∧ zA (Kd.R qJ 74 w' w.heap.size (fun _ => True) (.slice (some ⟨gm, 0, none⟩) 4 cm) (zCc l0_0 l1 l2 (i : Int) f)) ∧ zA (Kd.S (Kd.slice 74 qJ) 75 w' w.heap.size (fun k => some k ≠ (Value.slice (some ⟨gm, 0, none⟩) 4 cm).ownBlock) (.slice A7 l0_0.length c7) (zAl l0_0 l1 l2 i u0)) ∧ zA (w'.heap[w.heap.size]? = some (.cells #[.slice (some ay) l0_0.length c0_0] 28 (0, 0))) ∧ zA (w'.heap[w.heap.size + 1]? = some (.cells #[.slice none 0 0] 28 (0, 0))) ∧ zA (w'.heap[g7]? = some (.cells #[.slice A7 l0_0.length c7] 28 (0, 0))) ∧ zA (w'.heap[ga]? = some (.cells #[.int .i64 (zo ps 0), .int .i64 (zo ps 1), .int .i64 (zo ps 2), .int .i64 (zo ps 3)] 108 (0, 0))) ∧ zA (Below w.heap.size w w'))
  case atStart => exact ⟨0, by omega, by omega, rfl, HM, HO, B3, B6, B7, BA, HB⟩
  case round =>
   clear HM HO B3 B6 B7 BA HB
   obtain ⟨f, hf4, hgf, rfl, HM, HO, B3, B6, B7, BA, HB⟩ := hrel
   by_cases hlf : f < 4
   rotate_left
   next =>
    obtain rfl : f = 4 := by omega
    obtain ⟨go, co, ev, hgo, hgl, cells, hcl⟩ := Kd.zCV HO.out (by rw [Zq, HU.out]; omega)
    injection ev with e1 e2 e3
    subst e1
    subst e3
    clear e2 hgl hcl cells
    have GO := zA.mk hgo
    clear hgo
    have ht0 := (HB.out.cell (yoy w _ HTS0.out)).trans HTS0.out
    have t0 := eq_true HTB.out.1
    have t1 := eq_true HTB.out.2
    have t2 := eq_true (show 0 ≤ (i : Int) by omega)
    have t3 := eq_true hl1z
    go_wp2
    refine ZN (n := 9) (S := fun w' => w'.cell? ⟨g7, 0, none⟩ = some (.slice (some ⟨go, 0, none⟩) l0_0.length c7) ∧ w'.cell? (ats.add i) = some (.int .i64 tsi)) (ds := [8]) #[false, false, false, false, false, false, false, false, false] (by kernel_rfl) rfl rfl ⟨(zJ B7.out 0).trans rfl, ht0⟩ (fun hHeld => ?_)
    have HO2 := zA.mk (Kd.Zz HO.out)
    have HM2 := zA.mk (Kd.zf HM.out)
    have B32 := zA.mk (zK B3.out)
    have B62 := zA.mk (zK B6.out)
    have B72 := zA.mk (zK B7.out)
    have HB2 := zA.mk (zE HB.out)
    clear HO HM B3 B6 B7 HB
    have HO := HO2
    have HM := HM2
    have B3 := B32
    have B6 := B62
    have B7 := B72
    have HB := HB2
    clear HO2 HM2 B32 B62 B72 HB2
    generalize wr.drew = w16 at HO HM B3 B6 B7 HB hHeld ⊢
    refine zg (i := 0) (N := some 73) (v := ?_) (a' := ?_) #[true, false, false, false, false, false, false, false, false] rfl rfl (by kernel_rfl) (fun _ _ _ h => h) (Or.inl ⟨by rfl, ?_⟩) ?_ ?_
    rotate_left
    next =>
     intro w'
     go_simp
     with_reducible rfl
    rotate_left
    next =>
     simp only [Act.put, yay, yby, ycy, zT, zU]
     rfl
    refine qQ (i := 1) (N := some 74) (v := ?_) (a' := ?_) #[true, true, false, false, false, false, false, false, false] rfl rfl (by kernel_rfl) (fun _ _ _ h => h) (Or.inl ⟨by rfl, ?_⟩) hHeld ?_ ?_
    rotate_left
    next =>
     rintro w' ⟨s0, s1⟩
     go_simp
     with_reducible rfl
    rotate_left
    next =>
     simp only [Act.put, yay, yby, ycy, zT, zU]
     rfl
    refine zg (i := 2) (N := some 75) (v := ?_) (a' := ?_) #[true, true, true, false, false, false, false, false, false] rfl rfl (by kernel_rfl) (fun _ _ _ h => h) (Or.inl ⟨by rfl, ?_⟩) ?_ ?_
    rotate_left
    next =>
     intro w'
     go_simp
     with_reducible rfl
    rotate_left
    next =>
     simp only [Act.put, yay, yby, ycy, zT, zU]
     rfl
    refine zg (i := 3) (N := some 76) (v := ?_) (a' := ?_) #[true, true, true, true, false, false, false, false, false] rfl rfl (by kernel_rfl) (fun _ _ _ h => h) (Or.inl ⟨by rfl, ?_⟩) ?_ ?_
    rotate_left
    next =>
     intro w'
     go_simp
     with_reducible rfl
    rotate_left
    next =>
     simp only [Act.put, yay, yby, ycy, zT, zU]
     rfl
    refine zg (i := 4) (N := some 77) (v := ?_) (a' := ?_) #[true, true, true, true, true, false, false, false, false] rfl rfl (by kernel_rfl) (fun _ _ _ h => h) (Or.inl ⟨by rfl, ?_⟩) ?_ ?_
    rotate_left
    next =>
     intro w'
     go_simp
     with_reducible rfl
    rotate_left
    next =>
     simp only [Act.put, yay, yby, ycy, zT, zU]
     rfl
    refine qQ (i := 5) (N := some 78) (v := ?_) (a' := ?_) #[true, true, true, true, true, true, false, false, false] rfl rfl (by kernel_rfl) (fun _ _ _ h => h) (Or.inl ⟨by rfl, ?_⟩) hHeld ?_ ?_
    rotate_left
    next =>
     rintro w' ⟨s0, s1⟩
     go_simp
     with_reducible rfl
    rotate_left
    next =>
     simp only [Act.put, yay, yby, ycy, zT, zU]
     rfl
    refine zg (i := 6) (N := some 79) (v := ?_) (a' := ?_) #[true, true, true, true, true, true, true, false, false] rfl rfl (by kernel_rfl) (fun _ _ _ h => h) (Or.inl ⟨by rfl, ?_⟩) ?_ ?_
    rotate_left
    next =>
     intro w'
     go_simp
     with_reducible rfl
    rotate_left
    next =>
     simp only [Act.put, yay, yby, ycy, zT, zU]
     rfl
    refine zg (i := 7) (N := some 80) (v := ?_) (a' := ?_) #[true, true, true, true, true, true, true, true, false] rfl rfl (by kernel_rfl) (fun _ _ _ h => h) (Or.inl ⟨by rfl, ?_⟩) ?_ ?_
    rotate_left
    next =>
     intro w'
     go_simp
     with_reducible rfl
    rotate_left
    next =>
     simp only [Act.put, yay, yby, ycy, zT, zU]
     rfl
    obtain ⟨⟨old, hx0⟩, hz0, hSS, hgr⟩ := zDZ HO.out HM.out tsi HTB.out.1 HTB.out.2
    refine zCs (i := 8) (N := none) #[true, true, true, true, true, true, true, true, true] rfl rfl (by kernel_rfl) (by decide) (fun K hK => ?_)
    refine zAJ (w1 := ?_) (by rfl) rfl ?_ ?_
    rotate_left
    next =>
     go_simp
     rfl
    refine hK.out _ _ ?_
    clear hK K
    refine Zo (by kernel_rfl) ?_
    have HO2 := zA.mk hSS
    have B32 := zA.mk (zu B3.out hgr (Kd.zE0 HO.out B3.out (by decide)))
    have B62 := zA.mk (zu B6.out hgr (Kd.zE0 HO.out B6.out (by decide)))
    have B72 := zA.mk (zu B7.out hgr (Kd.zE0 HO.out B7.out (by decide)))
    have HB2 := zA.mk (zG (j := tsi.toNat) (v := .slice (some ⟨gm, 0, none⟩) 4 cm) HB.out GO.out)
    clear hSS hgr hx0 hz0 HM
    clear HO B3 B6 B7 HB
    have HO := HO2
    have B3 := B32
    have B6 := B62
    have B7 := B72
    have HB := HB2
    clear HO2 B32 B62 B72 HB2
    generalize w16.setCell ⟨go, tsi.toNat, none⟩ (.slice (some ⟨gm, 0, none⟩) 4 cm) = w17 at HO B3 B6 B7 HB ⊢
    go_wp2
    go_roundg (l0_0.length - (i + 1))
    case measure => omega
    case rel => exact ⟨i + 1, by omega, ypy _, by go_num, ⟨by rw [HRK.out]; exact HO.out⟩, B3, B6, B7, HB⟩
   have hlfz : (f : Int) < 4 := by omega
   have hlr : (f : Int) < ((zC l0_0 (i : Int)).length : Int) := by have := H4R.out; omega
   obtain ⟨ad2, e2, hy2, hy3⟩ := ZM HY.out (f : Int) (by omega) hlr
   subst e2
   replace hy2 := (HB.out.cell (yoy w _ hy2)).trans hy2
   replace hy3 := (HB.out.cell (yoy w _ hy3)).trans hy3
   rw [yny] at hy2 hy3
   have HK := zA.mk (show zCc l0_0 l1 l2 (i : Int) (f + 1) = if (zF (zC l0_0 (i : Int)) (f : Int)).f0 < 0 then zCc l0_0 l1 l2 (i : Int) f else (zCc l0_0 l1 l2 (i : Int) f).set (rd (ZR ps) (f : Int)).toNat ⟨rd l1 (zF (zC l0_0 (i : Int)) (f : Int)).f0, QD (QD (JD ps) (zF (zC l0_0 (i : Int)) (f : Int)).f1) (rd l2 (zF (zC l0_0 (i : Int)) (f : Int)).f0)⟩ from by rw [← HPSI.out]; rfl)
   have hlt2 : f < (zC l0_0 (i : Int)).length := by omega
   have exf : zF (zC l0_0 (i : Int)) (f : Int) = (zC l0_0 (i : Int))[f] := by simp [zF, hlt2]
   have HFB := zA.mk (HFR.out (zF (zC l0_0 (i : Int)) (f : Int)) (by rw [exf]; exact List.getElem_mem hlt2))
   clear exf hlt2
   generalize zF (zC l0_0 (i : Int)) (f : Int) = y at hy2 hy3 HK HFB
   obtain ⟨f0, f1⟩ := y
   clear hlr
   have BF := zA.mk (ZH (W := wr) rfl (.cells #[.int .i64 f0, .int .i64 f1] 74))
   have G8 := zA.mk (show w.heap.size ≤ wr.heap.size from zP HB.out)
   have HO2 := zA.mk (Kd.Ze HO.out (.cells #[.int .i64 f0, .int .i64 f1] 74))
   have HM2 := zA.mk (Kd.zZ HM.out (.cells #[.int .i64 f0, .int .i64 f1] 74))
   have B32 := zA.mk (zH B3.out (.cells #[.int .i64 f0, .int .i64 f1] 74))
   have B62 := zA.mk (zH B6.out (.cells #[.int .i64 f0, .int .i64 f1] 74))
   have B72 := zA.mk (zH B7.out (.cells #[.int .i64 f0, .int .i64 f1] 74))
   have BA2 := zA.mk (zH BA.out (.cells #[.int .i64 f0, .int .i64 f1] 74))
   have HB2 := zA.mk (zD HB.out (.cells #[.int .i64 f0, .int .i64 f1] 74))
   clear HO HM B3 B6 B7 BA HB
   have HO := HO2
   have HM := HM2
   have B3 := B32
   have B6 := B62
   have B7 := B72
   have BA := BA2
   have HB := HB2
   clear HO2 HM2 B32 B62 B72 BA2 HB2
   by_cases hb : f0 < 0
   next =>
    have HK2 := zA.mk (HK.out.trans (if_pos hb))
    have d0 : decide (f0 < 0) = true := ygy hb
    clear HK HFB
    go_wp2_with (first | (go_at_call 75; (with_reducible refine (qf.calls f0 f1 true _ (by unfold qf.f; rw [d0])).mono ?_); rintro e w9 ⟨rfl, hb5⟩; have HO2 := zA.mk (Kd.Zw HO.out hb5); have HM2 := zA.mk (Kd.qe HM.out hb5); have B32 := zA.mk (zN B3.out hb5); have B62 := zA.mk (zN B6.out hb5); have B72 := zA.mk (zN B7.out hb5); have BA2 := zA.mk (zN BA.out hb5); have HB2 := zA.mk (zO HB.out hb5); clear HO HM B3 B6 B7 BA HB; have HO := HO2; have HM := HM2; have B3 := B32; have B6 := B62; have B7 := B72; have BA := BA2; have HB := HB2; clear HO2 HM2 B32 B62 B72 BA2 HB2; clear hb5 BF))
    go_roundg (4 - (f + 1))
    case measure => omega
    case rel => exact ⟨f + 1, by omega, by omega, by go_num, ⟨by rw [HK2.out]; exact HM.out⟩, HO, B3, B6, B7, BA, HB⟩
   next =>
    have HK2 := zA.mk (HK.out.trans (if_neg hb))
    have d0 : decide (f0 < 0) = false := yhy hb
    have HFB9 := zA.mk (show 0 ≤ f0 ∧ f0 < (l0_0.length : Int) ∧ 0 ≤ f1 ∧ f1 ≤ 23 from HFB.out (by first | exact hb | (show (0 : Int) ≤ f0; omega)))
    clear HK HFB
    have HFB := HFB9
    clear HFB9
    go_wp2_with (first | (go_at_call 75; (with_reducible refine (qf.calls f0 f1 false _ (by unfold qf.f; rw [d0])).mono ?_); rintro e w9 ⟨rfl, hb5⟩; have HO2 := zA.mk (Kd.Zw HO.out hb5); have HM2 := zA.mk (Kd.qe HM.out hb5); have B32 := zA.mk (zN B3.out hb5); have B62 := zA.mk (zN B6.out hb5); have B72 := zA.mk (zN B7.out hb5); have BA2 := zA.mk (zN BA.out hb5); have BF2 := zA.mk (zN BF.out hb5); have HB2 := zA.mk (zO HB.out hb5); clear HO HM B3 B6 B7 BA BF HB; have HO := HO2; have HM := HM2; have B3 := B32; have B6 := B62; have B7 := B72; have BA := BA2; have BF := BF2; have HB := HB2; clear HO2 HM2 B32 B62 B72 BA2 BF2 HB2; clear hb5))
    have g0 := HFB.out.1
    have g1 : f0 < (l1.length : Int) := by have := HFB.out.2.1; have := L1.out; omega
    have g2 : f0 < (l2.length : Int) := by have := HFB.out.2.1; have := L2.out; omega
    obtain ⟨apx, epx, hp1⟩ := Kd.qi HP.out f0 g0 g2
    obtain rfl : aps = apx := by injection epx
    obtain ⟨atx, etx, ht1⟩ := Kd.qi HT.out f0 g0 g1
    obtain rfl : ats = atx := by injection etx
    have HPB2 := zA.mk (zCe HPB.out.1 HPB.out.2)
    have HPB3 := zA.mk (zCd HPB2.out.1 HPB2.out.2 HFB.out.2.2.1 HFB.out.2.2.2)
    have HPT := zA.mk (Je HPS.out g0 g2)
    have HTT := zA.mk (Je HTS.out g0 g1)
    clear epx etx
    generalize rd l1 f0 = tt at *
    generalize rd l2 f0 = pt at *
    replace hp1 := (HB.out.cell (yoy w _ hp1)).trans hp1
    replace ht1 := (HB.out.cell (yoy w _ ht1)).trans ht1
    have hp0 := (HB.out.cell (yoy w _ HPS0.out)).trans HPS0.out
    have p0 := eq_true g0
    have p1 := eq_true g1
    have p2 := eq_true g2
    clear hy2 hy3 hb d0
    generalize hgf9 : wr.heap.size = gf at *
    clear hgf9
    refine ZN (n := 15) (S := fun w' => w'.cell? (aps.add i) = some (.int .i64 ps) ∧ w'.cell? ⟨gf, 0, none⟩ = some (.int .i64 f0) ∧ w'.cell? ⟨gf, 1, none⟩ = some (.int .i64 f1) ∧ w'.cell? (aps.add f0.toNat) = some (.int .i64 pt)) (ds := []) #[false, false, false, false, false, false, false, false, false, false, false, false, false, false, false] (by kernel_rfl) rfl rfl ⟨hp0, (zJ BF.out 0).trans rfl, (zJ BF.out 1).trans rfl, hp1⟩ (fun hHeld => ?_)
    have HO2 := zA.mk (Kd.Zz HO.out)
    have HM2 := zA.mk (Kd.zf HM.out)
    have B32 := zA.mk (zK B3.out)
    have B62 := zA.mk (zK B6.out)
    have B72 := zA.mk (zK B7.out)
    have BA2 := zA.mk (zK BA.out)
    have BF2 := zA.mk (zK BF.out)
    have HB2 := zA.mk (zE HB.out)
    clear HO HM B3 B6 B7 BA BF HB
    have HO := HO2
    have HM := HM2
    have B3 := B32
    have B6 := B62
    have B7 := B72
    have BA := BA2
    have BF := BF2
    have HB := HB2
    clear HO2 HM2 B32 B62 B72 BA2 BF2 HB2
    replace hp0 : w9.drew.cell? (aps.add i) = some (.int .i64 ps) := hp0
    replace hp1 : w9.drew.cell? (aps.add f0.toNat) = some (.int .i64 pt) := hp1
    replace ht1 : w9.drew.cell? (ats.add f0.toNat) = some (.int .i64 tt) := ht1
    generalize w9.drew = w10 at HO HM B3 B6 B7 BA BF HB hp0 hp1 ht1 hHeld ⊢
    refine zg (i := 0) (N := some 46) (v := ?_) (a' := ?_) #[true, false, false, false, false, false, false, false, false, false, false, false, false, false, false] rfl rfl (by kernel_rfl) (fun _ _ _ h => h) (Or.inl ⟨by rfl, ?_⟩) ?_ ?_
    rotate_left
    next =>
     intro w'
     go_simp
     with_reducible rfl
    rotate_left
    next =>
     simp only [Act.put, yay, yby, ycy, zT, zU]
     rfl
    refine zg (i := 1) (N := some 47) (v := ?_) (a' := ?_) #[true, true, false, false, false, false, false, false, false, false, false, false, false, false, false] rfl rfl (by kernel_rfl) (fun _ _ _ h => h) (Or.inl ⟨by rfl, ?_⟩) ?_ ?_
    rotate_left
    next =>
     intro w'
     go_simp
     with_reducible rfl
    rotate_left
    next =>
     simp only [Act.put, yay, yby, ycy, zT, zU]
     rfl
    refine zg (i := 2) (N := some 48) (v := ?_) (a' := ?_) #[true, true, true, false, false, false, false, false, false, false, false, false, false, false, false] rfl rfl (by kernel_rfl) (fun _ _ _ h => h) (Or.inl ⟨by rfl, ?_⟩) ?_ ?_
    rotate_left
    next =>
     intro w'
     go_simp
     with_reducible rfl
    rotate_left
    next =>
     simp only [Act.put, yay, yby, ycy, zT, zU]
     rfl
    refine qQ (i := 3) (N := some 49) (v := ?_) (a' := ?_) #[true, true, true, true, false, false, false, false, false, false, false, false, false, false, false] rfl rfl (by kernel_rfl) (fun _ _ _ h => h) (Or.inl ⟨by rfl, ?_⟩) hHeld ?_ ?_
    rotate_left
    next =>
     rintro w' ⟨s0, s1, s2, s3⟩
     go_simp
     with_reducible rfl
    rotate_left
    next =>
     simp only [Act.put, yay, yby, ycy, zT, zU]
     rfl
    refine zg (i := 5) (N := some 51) (v := ?_) (a' := ?_) #[true, true, true, true, false, true, false, false, false, false, false, false, false, false, false] rfl rfl (by kernel_rfl) (fun _ _ _ h => h) (Or.inl ⟨by rfl, ?_⟩) ?_ ?_
    rotate_left
    next =>
     intro w'
     go_simp
     with_reducible rfl
    rotate_left
    next =>
     simp only [Act.put, yay, yby, ycy, zT, zU]
     rfl
    refine qQ (i := 6) (N := some 52) (v := ?_) (a' := ?_) #[true, true, true, true, false, true, true, false, false, false, false, false, false, false, false] rfl rfl (by kernel_rfl) (fun _ _ _ h => h) (Or.inl ⟨by rfl, ?_⟩) hHeld ?_ ?_
    rotate_left
    next =>
     rintro w' ⟨s0, s1, s2, s3⟩
     go_simp
     with_reducible rfl
    rotate_left
    next =>
     simp only [Act.put, yay, yby, ycy, zT, zU]
     rfl
    refine zg (i := 8) (N := some 54) (v := ?_) (a' := ?_) #[true, true, true, true, false, true, true, false, true, false, false, false, false, false, false] rfl rfl (by kernel_rfl) (fun _ _ _ h => h) (Or.inl ⟨by rfl, ?_⟩) ?_ ?_
    rotate_left
    next =>
     intro w'
     go_simp
     with_reducible rfl
    rotate_left
    next =>
     simp only [Act.put, yay, yby, ycy, zT, zU]
     rfl
    refine zg (i := 9) (N := some 55) (v := ?_) (a' := ?_) #[true, true, true, true, false, true, true, false, true, true, false, false, false, false, false] rfl rfl (by kernel_rfl) (fun _ _ _ h => h) (Or.inl ⟨by rfl, ?_⟩) ?_ ?_
    rotate_left
    next =>
     intro w'
     go_simp
     with_reducible rfl
    rotate_left
    next =>
     simp only [Act.put, yay, yby, ycy, zT, zU]
     rfl
    refine qQ (i := 10) (N := some 56) (v := ?_) (a' := ?_) #[true, true, true, true, false, true, true, false, true, true, true, false, false, false, false] rfl rfl (by kernel_rfl) (fun _ _ _ h => h) (Or.inl ⟨by rfl, ?_⟩) hHeld ?_ ?_
    rotate_left
    next =>
     rintro w' ⟨s0, s1, s2, s3⟩
     go_simp
     with_reducible rfl
    rotate_left
    next =>
     simp only [Act.put, yay, yby, ycy, zT, zU]
     rfl
    refine zg (i := 11) (N := some 57) (v := ?_) (a' := ?_) #[true, true, true, true, false, true, true, false, true, true, true, true, false, false, false] rfl rfl (by kernel_rfl) (fun _ _ _ h => h) (Or.inl ⟨by rfl, ?_⟩) ?_ ?_
    rotate_left
    next =>
     intro w'
     go_simp
     with_reducible rfl
    rotate_left
    next =>
     simp only [Act.put, yay, yby, ycy, zT, zU]
     rfl
    refine qQ (i := 12) (N := some 58) (v := ?_) (a' := ?_) #[true, true, true, true, false, true, true, false, true, true, true, true, true, false, false] rfl rfl (by kernel_rfl) (fun _ _ _ h => h) (Or.inl ⟨by rfl, ?_⟩) hHeld ?_ ?_
    rotate_left
    next =>
     rintro w' ⟨s0, s1, s2, s3⟩
     go_simp
     with_reducible rfl
    rotate_left
    next =>
     simp only [Act.put, yay, yby, ycy, zT, zU]
     rfl
    refine QH (i := 4) (N := some 50) #[true, true, true, true, true, true, true, false, true, true, true, true, true, false, false] rfl rfl (by kernel_rfl) (by decide) (fun K hK => ?_)
    refine Zv Try.func137 (by kernel_rfl) rfl #[.int .i64 ps] (by rfl) rfl rfl (by (try simp only [yiy, yjy, yky]); first | done | rfl) ?_
    refine (Zp.calls ps (JD ps) _ (if_pos HPB.out)).mono ?_
    rintro e w11 ⟨rfl, hb⟩
    refine ⟨_, rfl, ?_⟩
    replace hp0 := (hb.cell (yoy _ _ hp0)).trans hp0
    replace hp1 := (hb.cell (yoy _ _ hp1)).trans hp1
    replace ht1 := (hb.cell (yoy _ _ ht1)).trans ht1
    have HO2 := zA.mk (Kd.Zw HO.out hb)
    have HM2 := zA.mk (Kd.qe HM.out hb)
    have B32 := zA.mk (zN B3.out hb)
    have B62 := zA.mk (zN B6.out hb)
    have B72 := zA.mk (zN B7.out hb)
    have BA2 := zA.mk (zN BA.out hb)
    have BF2 := zA.mk (zN BF.out hb)
    have HB2 := zA.mk (zO HB.out hb)
    clear HO HM B3 B6 B7 BA BF HB
    have HO := HO2
    have HM := HM2
    have B3 := B32
    have B6 := B62
    have B7 := B72
    have BA := BA2
    have BF := BF2
    have HB := HB2
    clear HO2 HM2 B32 B62 B72 BA2 BF2 HB2
    clear hb
    refine hK.out _ _ ⟨hp0, (zJ BF.out 0).trans rfl, (zJ BF.out 1).trans rfl, hp1⟩ (fun hHeld => ?_)
    clear hK K
    refine ZQ (a' := ?_) ?_ ?_
    rotate_left
    next =>
     show Act.put _ (some 50) _ = _
     simp only [Act.put, yay, yby, ycy, zT, zU]
     rfl
    refine QH (i := 7) (N := some 53) #[true, true, true, true, true, true, true, true, true, true, true, true, true, false, false] rfl rfl (by kernel_rfl) (by decide) (fun K hK => ?_)
    refine Zv Try.func136 (by kernel_rfl) rfl #[.int .i64 (JD ps), .int .i64 f1] (by rfl) rfl rfl (by (try simp only [yiy, yjy, yky]); first | done | rfl) ?_
    refine (QV.calls (JD ps) f1 (QD (JD ps) f1) _ (if_pos ⟨HPB2.out.1, HPB2.out.2, HFB.out.2.2⟩)).mono ?_
    rintro e w12 ⟨rfl, hb⟩
    refine ⟨_, rfl, ?_⟩
    replace hp0 := (hb.cell (yoy _ _ hp0)).trans hp0
    replace hp1 := (hb.cell (yoy _ _ hp1)).trans hp1
    replace ht1 := (hb.cell (yoy _ _ ht1)).trans ht1
    have HO2 := zA.mk (Kd.Zw HO.out hb)
    have HM2 := zA.mk (Kd.qe HM.out hb)
    have B32 := zA.mk (zN B3.out hb)
    have B62 := zA.mk (zN B6.out hb)
    have B72 := zA.mk (zN B7.out hb)
    have BA2 := zA.mk (zN BA.out hb)
    have BF2 := zA.mk (zN BF.out hb)
    have HB2 := zA.mk (zO HB.out hb)
    clear HO HM B3 B6 B7 BA BF HB
    have HO := HO2
    have HM := HM2
    have B3 := B32
    have B6 := B62
    have B7 := B72
    have BA := BA2
    have BF := BF2
    have HB := HB2
    clear HO2 HM2 B32 B62 B72 BA2 BF2 HB2
    clear hb
    refine hK.out _ _ ⟨hp0, (zJ BF.out 0).trans rfl, (zJ BF.out 1).trans rfl, hp1⟩ (fun hHeld => ?_)
    clear hK K
    refine ZQ (a' := ?_) ?_ ?_
    rotate_left
    next =>
     show Act.put _ (some 53) _ = _
     simp only [Act.put, yay, yby, ycy, zT, zU]
     rfl
    refine QH (i := 13) (N := some 59) #[true, true, true, true, true, true, true, true, true, true, true, true, true, true, false] rfl rfl (by kernel_rfl) (by decide) (fun K hK => ?_)
    refine Zv Try.func136 (by kernel_rfl) rfl #[.int .i64 (QD (JD ps) f1), .int .i64 pt] (by rfl) rfl rfl (by (try simp only [yiy, yjy, yky]); first | done | rfl) ?_
    refine (QV.calls (QD (JD ps) f1) pt (QD (QD (JD ps) f1) pt) _ (if_pos ⟨HPB3.out.1, HPB3.out.2, HPT.out⟩)).mono ?_
    rintro e w13 ⟨rfl, hb⟩
    refine ⟨_, rfl, ?_⟩
    replace hp0 := (hb.cell (yoy _ _ hp0)).trans hp0
    replace hp1 := (hb.cell (yoy _ _ hp1)).trans hp1
    replace ht1 := (hb.cell (yoy _ _ ht1)).trans ht1
    have HO2 := zA.mk (Kd.Zw HO.out hb)
    have HM2 := zA.mk (Kd.qe HM.out hb)
    have B32 := zA.mk (zN B3.out hb)
    have B62 := zA.mk (zN B6.out hb)
    have B72 := zA.mk (zN B7.out hb)
    have BA2 := zA.mk (zN BA.out hb)
    have BF2 := zA.mk (zN BF.out hb)
    have HB2 := zA.mk (zO HB.out hb)
    clear HO HM B3 B6 B7 BA BF HB
    have HO := HO2
    have HM := HM2
    have B3 := B32
    have B6 := B62
    have B7 := B72
    have BA := BA2
    have BF := BF2
    have HB := HB2
    clear HO2 HM2 B32 B62 B72 BA2 BF2 HB2
    clear hb
    refine hK.out _ _ ⟨hp0, (zJ BF.out 0).trans rfl, (zJ BF.out 1).trans rfl, hp1⟩ (fun hHeld => ?_)
    clear hK K
    refine ZQ (a' := ?_) ?_ ?_
    rotate_left
    next =>
     show Act.put _ (some 59) _ = _
     simp only [Act.put, yay, yby, ycy, zT, zU]
     rfl
    refine zg (i := 14) (N := some 14) (v := ?_) (a' := ?_) #[true, true, true, true, true, true, true, true, true, true, true, true, true, true, true] rfl rfl (by kernel_rfl) (fun _ _ _ h => h) (Or.inl ⟨by rfl, ?_⟩) ?_ ?_
    rotate_left
    next =>
     intro w'
     go_simp
     with_reducible rfl
    rotate_left
    next =>
     simp only [Act.put, yay, yby, ycy, zT, zU]
     rfl
    refine Zo (by kernel_rfl) ?_
    generalize hpp : QD (QD (JD ps) f1) pt = pp at *
    clear hpp hHeld hp0 hp1 HPB3 HPT p2
    go_wp2
    have hba := ZU BA.out (f : Int) (by omega) (by omega)
    rw [yny] at hba
    replace hba : w13.cell? ⟨ga, f, none⟩ = some (.int .i64 (rd (ZR ps) (f : Int))) := hba
    have HIM := zA.mk (show 0 ≤ rd (ZR ps) (f : Int) ∧ rd (ZR ps) (f : Int) ≤ 3 from by obtain ⟨a, b, c, d⟩ := Qy ps HPB.out.1 HPB.out.2; exact QO a b c d (f : Int) (by omega) (by omega))
    generalize rd (ZR ps) (f : Int) = im at hba HIM HK2
    have q0 := eq_true HIM.out.1
    have q1 := eq_true (show im < 4 by have := HIM.out.2; omega)
    have q2 := eq_true (show 0 ≤ (f : Int) by omega)
    have q3 := eq_true hlfz
    refine ZN (n := 13) (S := fun w' => w'.cell? ⟨ga, f, none⟩ = some (.int .i64 im) ∧ w'.cell? ⟨gf, 0, none⟩ = some (.int .i64 f0) ∧ w'.cell? (ats.add f0.toNat) = some (.int .i64 tt)) (ds := [12]) #[false, false, false, false, false, false, false, false, false, false, false, false, false] (by kernel_rfl) rfl rfl ⟨hba, (zJ BF.out 0).trans rfl, ht1⟩ (fun hHeld => ?_)
    have HO2 := zA.mk (Kd.Zz HO.out)
    have HM2 := zA.mk (Kd.zf HM.out)
    have B32 := zA.mk (zK B3.out)
    have B62 := zA.mk (zK B6.out)
    have B72 := zA.mk (zK B7.out)
    have BA2 := zA.mk (zK BA.out)
    have HB2 := zA.mk (zE HB.out)
    clear HO HM B3 B6 B7 BA HB
    have HO := HO2
    have HM := HM2
    have B3 := B32
    have B6 := B62
    have B7 := B72
    have BA := BA2
    have HB := HB2
    clear HO2 HM2 B32 B62 B72 BA2 HB2
    generalize w13.drew = w14 at HO HM B3 B6 B7 BA HB hHeld ⊢
    refine zg (i := 0) (N := some 60) (v := ?_) (a' := ?_) #[true, false, false, false, false, false, false, false, false, false, false, false, false] rfl rfl (by kernel_rfl) (fun _ _ _ h => h) (Or.inl ⟨by rfl, ?_⟩) ?_ ?_
    rotate_left
    next =>
     intro w'
     go_simp
     with_reducible rfl
    rotate_left
    next =>
     simp only [Act.put, yay, yby, ycy, zT, zU]
     rfl
    refine zg (i := 1) (N := some 61) (v := ?_) (a' := ?_) #[true, true, false, false, false, false, false, false, false, false, false, false, false] rfl rfl (by kernel_rfl) (fun _ _ _ h => h) (Or.inl ⟨by rfl, ?_⟩) ?_ ?_
    rotate_left
    next =>
     intro w'
     go_simp
     with_reducible rfl
    rotate_left
    next =>
     simp only [Act.put, yay, yby, ycy, zT, zU]
     rfl
    refine zg (i := 2) (N := some 62) (v := ?_) (a' := ?_) #[true, true, true, false, false, false, false, false, false, false, false, false, false] rfl rfl (by kernel_rfl) (fun _ _ _ h => h) (Or.inl ⟨by rfl, ?_⟩) ?_ ?_
    rotate_left
    next =>
     intro w'
     go_simp
     with_reducible rfl
    rotate_left
    next =>
     simp only [Act.put, yay, yby, ycy, zT, zU]
     rfl
    refine qQ (i := 3) (N := some 63) (v := ?_) (a' := ?_) #[true, true, true, true, false, false, false, false, false, false, false, false, false] rfl rfl (by kernel_rfl) (fun _ _ _ h => h) (Or.inl ⟨by rfl, ?_⟩) hHeld ?_ ?_
    rotate_left
    next =>
     rintro w' ⟨s0, s1, s2⟩
     go_simp
     with_reducible rfl
    rotate_left
    next =>
     simp only [Act.put, yay, yby, ycy, zT, zU]
     rfl
    refine zg (i := 4) (N := some 64) (v := ?_) (a' := ?_) #[true, true, true, true, true, false, false, false, false, false, false, false, false] rfl rfl (by kernel_rfl) (fun _ _ _ h => h) (Or.inl ⟨by rfl, ?_⟩) ?_ ?_
    rotate_left
    next =>
     intro w'
     go_simp
     with_reducible rfl
    rotate_left
    next =>
     simp only [Act.put, yay, yby, ycy, zT, zU]
     rfl
    refine zg (i := 5) (N := some 65) (v := ?_) (a' := ?_) #[true, true, true, true, true, true, false, false, false, false, false, false, false] rfl rfl (by kernel_rfl) (fun _ _ _ h => h) (Or.inl ⟨by rfl, ?_⟩) ?_ ?_
    rotate_left
    next =>
     intro w'
     go_simp
     with_reducible rfl
    rotate_left
    next =>
     simp only [Act.put, yay, yby, ycy, zT, zU]
     rfl
    refine qQ (i := 6) (N := some 66) (v := ?_) (a' := ?_) #[true, true, true, true, true, true, true, false, false, false, false, false, false] rfl rfl (by kernel_rfl) (fun _ _ _ h => h) (Or.inl ⟨by rfl, ?_⟩) hHeld ?_ ?_
    rotate_left
    next =>
     rintro w' ⟨s0, s1, s2⟩
     go_simp
     with_reducible rfl
    rotate_left
    next =>
     simp only [Act.put, yay, yby, ycy, zT, zU]
     rfl
    refine zg (i := 7) (N := some 67) (v := ?_) (a' := ?_) #[true, true, true, true, true, true, true, true, false, false, false, false, false] rfl rfl (by kernel_rfl) (fun _ _ _ h => h) (Or.inl ⟨by rfl, ?_⟩) ?_ ?_
    rotate_left
    next =>
     intro w'
     go_simp
     with_reducible rfl
    rotate_left
    next =>
     simp only [Act.put, yay, yby, ycy, zT, zU]
     rfl
    refine qQ (i := 8) (N := some 68) (v := ?_) (a' := ?_) #[true, true, true, true, true, true, true, true, true, false, false, false, false] rfl rfl (by kernel_rfl) (fun _ _ _ h => h) (Or.inl ⟨by rfl, ?_⟩) hHeld ?_ ?_
    rotate_left
    next =>
     rintro w' ⟨s0, s1, s2⟩
     go_simp
     with_reducible rfl
    rotate_left
    next =>
     simp only [Act.put, yay, yby, ycy, zT, zU]
     rfl
    refine zg (i := 9) (N := some 69) (v := ?_) (a' := ?_) #[true, true, true, true, true, true, true, true, true, true, false, false, false] rfl rfl (by kernel_rfl) (fun _ _ _ h => h) (Or.inl ⟨by rfl, ?_⟩) ?_ ?_
    rotate_left
    next =>
     intro w'
     go_simp
     with_reducible rfl
    rotate_left
    next =>
     simp only [Act.put, yay, yby, ycy, zT, zU]
     rfl
    refine zg (i := 10) (N := some 70) (v := ?_) (a' := ?_) #[true, true, true, true, true, true, true, true, true, true, true, false, false] rfl rfl (by kernel_rfl) (fun _ _ _ h => h) (Or.inl ⟨by rfl, ?_⟩) ?_ ?_
    rotate_left
    next =>
     intro w'
     go_simp
     with_reducible rfl
    rotate_left
    next =>
     simp only [Act.put, yay, yby, ycy, zT, zU]
     rfl
    refine zg (i := 11) (N := some 71) (v := ?_) (a' := ?_) #[true, true, true, true, true, true, true, true, true, true, true, true, false] rfl rfl (by kernel_rfl) (fun _ _ _ h => h) (Or.inl ⟨by rfl, ?_⟩) ?_ ?_
    rotate_left
    next =>
     intro w'
     go_simp
     with_reducible rfl
    rotate_left
    next =>
     simp only [Act.put, yay, yby, ycy, zT, zU]
     rfl
    obtain ⟨⟨u1_, hx0⟩, ⟨u2_, hx1⟩, hz0, hz1, hMS, hgr⟩ := zCf HM.out im HIM.out.1 (by have := HIM.out.2; omega) ⟨tt, pp⟩
    refine zCs (i := 12) (N := none) #[true, true, true, true, true, true, true, true, true, true, true, true, true] rfl rfl (by kernel_rfl) (by decide) (fun K hK => ?_)
    refine zAJ (w1 := ?_) (by rfl) rfl ?_ ?_
    rotate_left
    next =>
     go_simp
     rfl
    refine hK.out _ _ ?_
    clear hK K
    refine Zo (by kernel_rfl) ?_
    have HM2 := zA.mk hMS
    have HO2 := zA.mk (Kd.zDR HO.out hgr (fun k hk => hk))
    have B32 := zA.mk (zu B3.out hgr (Kd.QA HM.out B3.out (by decide)))
    have B62 := zA.mk (zu B6.out hgr (Kd.QA HM.out B6.out (by decide)))
    have B72 := zA.mk (zu B7.out hgr (Kd.QA HM.out B7.out (by decide)))
    have BA2 := zA.mk (zu BA.out hgr (Kd.QA HM.out BA.out (by decide)))
    have HB2 := zA.mk (zG (j := im.toNat * 2 + 1) (v := .int .i64 pp) (zG (j := im.toNat * 2) (v := .int .i64 tt) HB.out GM.out) GM.out)
    clear hMS hgr hx0 hx1 hz0 hz1
    clear HM HO B3 B6 B7 BA HB
    have HM := HM2
    have HO := HO2
    have B3 := B32
    have B6 := B62
    have B7 := B72
    have BA := BA2
    have HB := HB2
    clear HM2 HO2 B32 B62 B72 BA2 HB2
    generalize (w14.setCell ⟨gm, im.toNat * 2, none⟩ (.int .i64 tt)).setCell ⟨gm, im.toNat * 2 + 1, none⟩ (.int .i64 pp) = w15 at HO HM B3 B6 B7 BA HB ⊢
    go_wp2
    go_roundg (4 - (f + 1))
    case measure => omega
    case rel => exact ⟨f + 1, by omega, by omega, by go_num, ⟨by rw [HK2.out]; exact HM.out⟩, HO, B3, B6, B7, BA, HB⟩
def qh.l0 : Nat → List Int → Int → Int → Option (List Int)
  | 0, _, _, _ => none
  | k + 1, x3, x5, x6 => if x6 < x5 then (if x3.length < 17592186044416 then (qh.l0 k (x3 ++ [x6]) x5 (wrap64 (x6 + 1))) else (none)) else (some x3)
def qh.f (k : Nat) (a0 : Int) : Option (List Int) := qh.l0 k ([] : List Int) a0 0
set_option maxHeartbeats 8000000 in
set_option maxRecDepth 100000 in
theorem qh.calls (k : Nat) (a0 : Int) (r : List Int) (w : World) (h : qh.f k a0 = some r) :
    Calls Try.prog 119 #[.int .i64 a0] w fun e w' => ∃ v0_ : Value, e = .returned (v0_) ∧ Kd.R (Kd.int .i64) 2 w' w.heap.size (fun _ => True) v0_ r ∧ Below w.heap.size w w' := by
  have HB := zA.mk (yqy w.heap.size w)
  have H : (qh.l0 k ([] : List Int) a0 0) = some r := h
  clear h
  have H' := zA.mk H
  clear H
  go_enter Try.func119, Try.ntmps119
  go_wp2
  go_loopg [3, 6] k (fun kq v3 v6 w' => ∃ (x3_1 : List Int) (x6_1 : Int), v6 = .int .i64 x6_1 ∧ zA (qh.l0 kq x3_1 a0 x6_1 = some r) ∧ zA (kq ≤ k) ∧ zA (Kd.R (Kd.int .i64) 2 w' w.heap.size (fun _ => True) v3 x3_1) ∧ zA (Below w.heap.size w w'))
  case atStart => exact ⟨(([] : List Int)), (0), (by first | rfl | (simp; done) | (simp [*]; done)), H', ⟨ypy _⟩, ⟨by first | exact Kd.Jl _ _ _ _ _ | exact Kd.zBP _ _ _ _ _ | exact Kd.zBQ _ _ _ _ _ | exact Kd.zBJ _ _ _ _ _ | exact Kd.zAq _ _ _ _ _⟩, ⟨by repeat (first | (with_reducible first | exact HB.out | apply zD | apply zB | apply zE) | exact HB.out)⟩⟩
  case round =>
    clear H'
    try clear c1
    obtain ⟨x3_1, x6_1, rfl, HA, HK1, HO_3, HB⟩ := hrel
    cases gk with
    | zero => exact absurd HA.out (by simp [qh.l0])
    | succ k1 =>
      have H := HA.out
      clear HA
      simp only [qh.l0] at H
      by_cases c2 : x6_1 < a0
      · rw [if_pos c2] at H
        have c2b0 : decide (x6_1 < a0) = true := ygy c2
        clear c2
        by_cases c3 : x3_1.length < 17592186044416
        · rw [if_pos c3] at H
          have LMc3 := zA.mk c3
          clear c3
          obtain ⟨y101, hy101⟩ : ∃ y_ : List Int, y_ = (x3_1 ++ [x6_1]) := ⟨_, rfl⟩
          replace H : (qh.l0 k1 y101 a0 (wrap64 (x6_1 + 1))) = some r := by first | (rw [hy101]; with_reducible exact H) | (have H2_ := (yfy _ _).symm.trans H; rw [hy101]; with_reducible exact H2_) | (have H2_ := (yfy _ _).symm.trans H; with_reducible exact H2_) | with_reducible exact H | (rw [hy101]; exact H) | exact H
          have Ny101 := zA.mk hy101
          clear hy101
          have H' := zA.mk H
          clear H
          go_wp2_with (first | ((with_reducible refine Zd (b := .append) (xs := #[.tmp 9, .tmp 11]) rfl ?_); at_builtin; refine Kd.Qj (Kd.int .i64) (w0 := w) w.heap.size rfl (.tmp 9) (.tmp 11) 41 2 (.int .i64 0) 8 rfl Try.underlying41 JC rfl (by decide) (by omega) u3 x3_1 x6_1 [.int .i64 x6_1] (fun _ => True) (fun _ => False) rfl rfl ?aP (fun _ hk => hk.elim) ?aF ?aO ?aB ?aS ?aL ?_; (case aP => exact rfl); (case aB => exact (by repeat (first | (with_reducible first | exact HB.out | apply zD | apply zB | apply zE) | exact HB.out))); (case aF => exact (fun _ _ => trivial)); (case aO => exact (by (with_reducible repeat (first | apply Kd.zZ | apply Kd.za | apply Kd.zf)); exact HO_3.out)); (case aS => exact (zP (by repeat (first | (with_reducible first | exact HB.out | apply zD | apply zB | apply zE) | exact HB.out)))); (case aL => have := LMc3.out; omega); intro v102 w4 ho hb hg hat; rw [← Ny101.out] at ho; have n0_ := zA.mk (hb); have n1_ := zA.mk (ho); clear HB; clear HO_3; have HB := n0_; have HO103 := n1_; clear n0_ n1_; clear ho hb hg hat))
          go_roundg k1
          case measure => have := HK1.out; omega
          case rel => exact ⟨(y101), (wrap64 (x6_1 + 1)), (by first | rfl | (simp; done) | (simp [*]; done)), H', ⟨by have := HK1.out; omega⟩, ⟨by (with_reducible repeat (first | apply Kd.zZ | apply Kd.za | apply Kd.zf)); exact HO103.out⟩, ⟨by repeat (first | (with_reducible first | exact HB.out | apply zD | apply zB | apply zE) | exact HB.out)⟩⟩
        · rw [if_neg c3] at H
          exact absurd H (by simp)
      · rw [if_neg c2] at H
        have c2b0 : decide (x6_1 < a0) = false := yhy c2
        clear c2
        obtain rfl := yey H
        go_wp2
        go_ret
        exact ⟨_, by first | rfl | (simp [zX, zY] <;> rfl) | (simp [*, zX, zY] <;> rfl), by (with_reducible repeat (first | apply Kd.zZ | apply Kd.za | apply Kd.zf)); exact HO_3.out, by repeat (first | (with_reducible first | exact HB.out | apply zD | apply zB | apply zE) | exact HB.out)⟩
def exP (p : Nat → Bool) (n j : Nat) : List Int := (List.range n).map fun i => if decide (i < j) && p i then 1 else 0
theorem QE (p : Nat → Bool) (n j : Nat) : (exP p n j).length = n := by simp [exP]
theorem zEB (p : Nat → Bool) (n : Nat) : exP p n 0 = List.replicate n 0 := by
  apply List.ext_getElem
  · simp [exP]
  · intro i h1 h2; simp [exP]
theorem zEk (p : Nat → Bool) (n j : Nat) (h : p j = true) : exP p n (j + 1) = (exP p n j).set j 1 := by
  apply List.ext_getElem
  · simp [exP]
  · intro i h1 h2
    rw [List.getElem_set]
    simp only [exP, List.getElem_map, List.getElem_range]
    by_cases e : j = i
    · subst e; simp [h]
    · rw [if_neg e]
      by_cases c : i < j
      · rw [ygy c, ygy (by omega)]
      · rw [yhy c, yhy (by omega)]
theorem exP_no (p : Nat → Bool) (n j : Nat) (h : p j = false) : exP p n (j + 1) = exP p n j := by
  apply List.ext_getElem
  · simp [exP]
  · intro i h1 h2
    simp only [exP, List.getElem_map, List.getElem_range]
    by_cases e : j = i
    · subst e; simp [h]
    · by_cases c : i < j
      · rw [ygy c, ygy (by omega)]
      · rw [yhy c, yhy (by omega)]
set_option maxHeartbeats 8000000 in
set_option maxRecDepth 100000 in
theorem zAK.calls (p : Nat → Bool) (k : Nat) (k1_ : Value) (A0_0 : Option Addr) (c0_0 : Nat) (l0_0 : List (List zh)) (cs : List Int) (r : List (List zh)) (w : World) (hr0_0 : Kd.C (Kd.slice 74 qJ) w A0_0 l0_0.length l0_0) (hc0_0 : l0_0.length ≤ c0_0) (hn : l0_0.length ≤ 1000000)
    (hp : ∀ (W : World) (j : Nat), j < l0_0.length → Below w.heap.size w W → Calls Try.prog 93 #[.int .i64 (j : Int), k1_] W fun e W' => e = .returned (.bool (p j)) ∧ Below W.heap.size W W')
    (hc : qh.f k (l0_0.length : Int) = some cs) (h : qG.f l0_0 cs (exP p l0_0.length l0_0.length) = some r) :
    Calls Try.prog 89 #[.agg #[.slice A0_0 l0_0.length c0_0], .func (.func 93) #[] #[k1_]] w fun e w' => ∃ v0_ : Value, e = .returned (.agg #[v0_]) ∧ Kd.S (Kd.slice 74 qJ) 75 w' w.heap.size (fun _ => True) v0_ r ∧ Below w.heap.size w w' := by
  have HR := zA.mk hr0_0
  have HC := zA.mk hc0_0
  have HPP := zA.mk hp
  have HCN := zA.mk hc
  have HREL := zA.mk h
  clear hr0_0 hc0_0 hp hc h
  have B2 := zA.mk (zH (ZH (W := w) rfl (.cells #[.slice A0_0 l0_0.length c0_0] 28)) (.cells #[.slice none 0 0] 28))
  have B4 := zA.mk (ZH (W := w.alloc (.cells #[.slice A0_0 l0_0.length c0_0] 28)) (n := w.heap.size + 1) (by simp) (.cells #[.slice none 0 0] 28))
  have HB := zA.mk (zD (zD (yqy w.heap.size w) (.cells #[.slice A0_0 l0_0.length c0_0] 28)) (.cells #[.slice none 0 0] 28))
  go_enter Try.func89, Try.ntmps89
  go_wp2_with (first | ((with_reducible refine zm (N := 10) rfl ?_); refine Kd.zAu (Kd.int .i64) (w0 := w) w.heap.size 2 rfl (N := 10) rfl 41 _ _ rfl (l0_0.length : Int) rfl rfl Try.underlying41 (.int .i64 0) 8 JC rfl (by decide) (by omega) 0 (ok := fun _ => True) (okp := fun _ => True) rfl (fun _ hk => hk) trivial (by omega) (by omega) HB.out (zP HB.out) ?_; intro v1 w3 ho hb hg hnew; rw [yny] at ho; have HP := zA.mk ho; have B22 := zA.mk (zu B2.out hg (by simp)); have B42 := zA.mk (zu B4.out hg (by simp)); have HB2 := zA.mk hb; clear ho hb hg hnew B2 B4 HB; have B2 := B22; have B4 := B42; have HB := HB2; clear B22 B42 HB2; obtain ⟨A5, c5, ev⟩ := Kd.qv HP.out; rw [List.length_replicate] at ev; subst ev))
  rw [← zEB p] at HP
  go_loopg [13] l0_0.length (fun gg v13 w' => ∃ j : Nat, j ≤ l0_0.length ∧ l0_0.length - j ≤ gg ∧ v13 = .int .i64 j ∧ zA (Kd.R (Kd.int .i64) 2 w' w.heap.size (fun _ => True) (.slice A5 l0_0.length c5) (exP p l0_0.length j)) ∧ zA (w'.heap[w.heap.size]? = some (.cells #[.slice A0_0 l0_0.length c0_0] 28 (0, 0))) ∧ zA (w'.heap[w.heap.size + 1]? = some (.cells #[.slice none 0 0] 28 (0, 0))) ∧ zA (Below w.heap.size w w'))
  case atStart => exact ⟨0, Nat.zero_le _, by omega, rfl, HP, B2, B4, HB⟩
  case round =>
    clear HP B2 B4 HB
    obtain ⟨j, hj, hg, rfl, HP, B2, B4, HB⟩ := hrel
    by_cases hlt : j < l0_0.length
    · have hltz : (j : Int) < (l0_0.length : Int) := by omega
      have HCL := zA.mk (HPP.out wr j hlt HB.out)
      cases hq : p j with
      | true =>
        rw [hq] at HCL
        have HQ := zA.mk hq
        clear hq
        obtain ⟨g, cap, ev, hgb, hgl, hgc⟩ := Kd.JJ HP.out (by rw [QE]; omega)
        rw [QE] at ev
        injection ev with e1 e2 e3
        subst e1
        subst e3
        clear e2 hgl hgc
        have GG := zA.mk hgb
        clear hgb
        go_wp2_with fail
        refine HCL.out.mono ?_
        rintro e w5 ⟨rfl, hb⟩
        have B22 := zA.mk (zN B2.out hb)
        have B42 := zA.mk (zN B4.out hb)
        have HP2 := zA.mk (Kd.qe HP.out hb)
        have HB2 := zA.mk (zO HB.out hb)
        clear B2 B4 HP HB
        have B2 := B22
        have B4 := B42
        have HP := HP2
        have HB := HB2
        clear B22 B42 HP2 HB2
        clear hb HCL
        obtain ⟨hx, hf⟩ := Kd.QL 0 HP.out (j : Int) (by omega) hltz
        have HP2 := zA.mk (Kd.zAB HP.out (j : Int) 1).1
        have hgr := (Kd.zAB HP.out (j : Int) 1).2
        rw [yny] at hx hf HP2 hgr
        have B22 := zA.mk (zu B2.out hgr (Kd.QA HP.out B2.out (by decide)))
        have B42 := zA.mk (zu B4.out hgr (Kd.QA HP.out B4.out (by decide)))
        have HB2 := zA.mk (zG (j := j) (v := .int .i64 1) HB.out GG.out)
        rw [← zEk p _ _ HQ.out] at HP2
        clear hgr HP B2 B4 HB
        have h0 : (0 : Int) ≤ (j : Int) := by omega
        go_wp2
        go_roundg (l0_0.length - (j + 1))
        case measure => omega
        case rel => exact ⟨j + 1, by omega, ypy _, by go_num, HP2, B22, B42, HB2⟩
      | false =>
        rw [hq] at HCL
        have HP2 := zA.mk (show Kd.R (Kd.int .i64) 2 wr w.heap.size (fun _ => True) (.slice A5 l0_0.length c5) (exP p l0_0.length (j + 1)) by rw [exP_no p _ _ hq]; exact HP.out)
        clear hq HP
        have HP := HP2
        clear HP2
        go_wp2_with fail
        refine HCL.out.mono ?_
        rintro e w5 ⟨rfl, hb⟩
        have B22 := zA.mk (zN B2.out hb)
        have B42 := zA.mk (zN B4.out hb)
        have HP2 := zA.mk (Kd.qe HP.out hb)
        have HB2 := zA.mk (zO HB.out hb)
        clear B2 B4 HP HB
        have B2 := B22
        have B4 := B42
        have HP := HP2
        have HB := HB2
        clear B22 B42 HP2 HB2
        clear hb HCL
        go_wp2
        go_roundg (l0_0.length - (j + 1))
        case measure => omega
        case rel => exact ⟨j + 1, by omega, ypy _, by go_num, HP, B2, B4, HB⟩
    · obtain rfl : j = l0_0.length := by omega
      go_wp2
      refine ZN (n := 8) (S := fun w' => w'.cell? ⟨w.heap.size, 0, none⟩ = some (.slice A0_0 l0_0.length c0_0)) (ds := [7]) #[false, false, false, false, false, false, false, false] (by kernel_rfl) rfl rfl ((zJ B2.out 0).trans rfl) (fun hHeld => ?_)
      have HP2 := zA.mk (Kd.zf HP.out)
      have B22 := zA.mk (zK B2.out)
      have B42 := zA.mk (zK B4.out)
      have HB2 := zA.mk (zE HB.out)
      clear HP B2 B4 HB
      have HP := HP2
      have B2 := B22
      have B4 := B42
      have HB := HB2
      clear HP2 B22 B42 HB2
      generalize wr.drew = w8 at HP B2 B4 HB hHeld ⊢
      refine qQ (i := 0) (N := some 23) (v := ?_) (a' := ?_) #[true, false, false, false, false, false, false, false] rfl rfl (by kernel_rfl) (fun _ _ _ h => h) (Or.inl ⟨by rfl, ?_⟩) hHeld ?_ ?_
      rotate_left
      · rintro w' s0
        go_simp
        with_reducible rfl
      rotate_left
      · simp only [Act.put, yay, yby, ycy, zT, zU]
        rfl
      refine zg (i := 1) (N := some 24) (v := ?_) (a' := ?_) #[true, true, false, false, false, false, false, false] rfl rfl (by kernel_rfl) (fun _ _ _ h => h) (Or.inl ⟨by rfl, ?_⟩) ?_ ?_
      rotate_left
      · intro w'
        go_simp
        with_reducible rfl
      rotate_left
      · simp only [Act.put, yay, yby, ycy, zT, zU]
        rfl
      refine qQ (i := 2) (N := some 25) (v := ?_) (a' := ?_) #[true, true, true, false, false, false, false, false] rfl rfl (by kernel_rfl) (fun _ _ _ h => h) (Or.inl ⟨by rfl, ?_⟩) hHeld ?_ ?_
      rotate_left
      · rintro w' s0
        go_simp
        with_reducible rfl
      rotate_left
      · simp only [Act.put, yay, yby, ycy, zT, zU]
        rfl
      refine zg (i := 5) (N := some 28) (v := ?_) (a' := ?_) #[true, true, true, false, false, true, false, false] rfl rfl (by kernel_rfl) (fun _ _ _ h => h) (Or.inl ⟨by rfl, ?_⟩) ?_ ?_
      rotate_left
      · intro w'
        go_simp
        with_reducible rfl
      rotate_left
      · simp only [Act.put, yay, yby, ycy, zT, zU]
        rfl
      refine QH (i := 3) (N := some 26) #[true, true, true, true, false, true, false, false] rfl rfl (by kernel_rfl) (by decide) (fun K hK => ?_)
      refine Zv Try.func79 (by kernel_rfl) rfl #[.slice A0_0 l0_0.length c0_0] (by rfl) rfl rfl (by (try simp only [yiy, yjy, yky]); first | done | rfl) ?_
      refine (qN.calls A0_0 c0_0 l0_0 (l0_0.length : Int) _ (Kd.qA HR.out HB.out) HC.out (by unfold qN.f; rfl)).mono ?_
      rintro e w9 ⟨rfl, hd⟩
      have hb := zz.below hd
      refine ⟨_, rfl, ?_⟩
      have B22 := zA.mk (zN B2.out hb)
      have B42 := zA.mk (zN B4.out hb)
      have HP2 := zA.mk (Kd.qe HP.out hb)
      have HB2 := zA.mk (zO HB.out hb)
      clear B2 B4 HP HB
      have B2 := B22
      have B4 := B42
      have HP := HP2
      have HB := HB2
      clear B22 B42 HP2 HB2
      clear hb hd
      refine hK.out _ _ ((zJ B2.out 0).trans rfl) (fun hHeld => ?_)
      clear hK K
      refine ZQ (a' := ?_) ?_ ?_
      rotate_left
      · show Act.put _ (some 26) _ = _
        simp only [Act.put, yay, yby, ycy, zT, zU]
        rfl
      refine QH (i := 4) (N := some 27) #[true, true, true, true, true, true, false, false] rfl rfl (by kernel_rfl) (by decide) (fun K hK => ?_)
      refine Zv Try.func119 (by kernel_rfl) rfl #[.int .i64 (l0_0.length : Int)] (by rfl) rfl rfl (by (try simp only [yiy, yjy, yky]); first | done | rfl) ?_
      refine (qh.calls k (l0_0.length : Int) cs _ HCN.out).mono ?_
      rintro e w10 ⟨v27, rfl, ho27, hb⟩
      have HC27 := zA.mk ho27
      refine ⟨_, rfl, ?_⟩
      have B22 := zA.mk (zN B2.out hb)
      have B42 := zA.mk (zN B4.out hb)
      have HP2 := zA.mk (Kd.qe HP.out hb)
      have HB2 := zA.mk (zO HB.out hb)
      clear B2 B4 HP HB
      have B2 := B22
      have B4 := B42
      have HP := HP2
      have HB := HB2
      clear B22 B42 HP2 HB2
      clear hb ho27
      obtain ⟨A27, c27, ev27⟩ := Kd.qv HC27.out
      subst ev27
      refine hK.out _ _ ((zJ B2.out 0).trans rfl) (fun hHeld => ?_)
      clear hK K
      refine ZQ (a' := ?_) ?_ ?_
      rotate_left
      · show Act.put _ (some 27) _ = _
        simp only [Act.put, yay, yby, ycy, zT, zU]
        rfl
      refine QH (i := 6) (N := some 29) #[true, true, true, true, true, true, true, false] rfl rfl (by kernel_rfl) (by decide) (fun K hK => ?_)
      refine Zv Try.func87 (by kernel_rfl) rfl #[.agg #[.slice A0_0 l0_0.length c0_0], .slice A27 cs.length c27, .slice A5 l0_0.length c5] (by rfl) rfl rfl (by (try simp only [yiy, yjy, yky]); first | done | rfl) ?_
      refine (by have h9 := qG.calls A0_0 c0_0 l0_0 A27 c27 cs A5 c5 (exP p l0_0.length l0_0.length) r w10 (Kd.qA HR.out HB.out) HC.out (Kd.zj HC27.out).2.2 (Kd.zj HC27.out).2.1 (by have h8 := (Kd.zj HP.out).2.2; exact h8) (by rw [QE]; have h8 := (Kd.zj HP.out); omega) HREL.out; rw [QE] at h9; exact h9 : Calls _ _ _ _ _).mono ?_
      rintro e w11 ⟨v29, rfl, ho29, hb⟩
      have HO := zA.mk (Kd.JN ho29 (zP HB.out))
      refine ⟨_, rfl, ?_⟩
      have B22 := zA.mk (zN B2.out hb)
      have B42 := zA.mk (zN B4.out hb)
      have HB2 := zA.mk (zO HB.out hb)
      clear B2 B4 HB
      have B2 := B22
      have B4 := B42
      have HB := HB2
      clear B22 B42 HB2
      clear hb ho29 HP HC27
      obtain ⟨A29, c29, ev29⟩ := Kd.QY HO.out
      subst ev29
      refine hK.out _ _ ((zJ B2.out 0).trans rfl) (fun hHeld => ?_)
      clear hK K
      refine ZQ (a' := ?_) ?_ ?_
      rotate_left
      · show Act.put _ (some 29) _ = _
        simp only [Act.put, yay, yby, ycy, zT, zU]
        rfl
      have hs4 : w11.cell? ⟨w.heap.size + 1, 0, none⟩ = some (.slice none 0 0) := (zJ B4.out 0).trans rfl
      have hf4 := zL B4.out 0
      refine zCs (i := 7) (N := none) #[true, true, true, true, true, true, true, true] rfl rfl (by kernel_rfl) (by decide) (fun K hK => ?_)
      refine zAJ (w1 := ?_) (by rfl) rfl ?_ ?_
      rotate_left
      · go_simp
        rfl
      refine hK.out _ _ ?_
      clear hK K
      refine Zo (by kernel_rfl) ?_
      go_wp2
      refine bodyPost_ret (results_cell_row rfl _ _ (w.heap.size + 1) 28 #[.slice A29 r.length c29] (0, 0) _ rfl (qH (cs := #[.slice none 0 0]) B4.out 0 _ rfl) Try.underlying28 rfl (by kernel_rfl)) rfl ?_
      exact ⟨_, rfl, Kd.zDz HO.out B4.out (by decide) 0 _, zG HB.out (by omega)⟩
def zD9 (sg : List Int) (j : Nat) : Bool := decide (rd sg (j : Int) < 0)
def ZD.f (k : Nat) (t : List (List zh)) : Option (List (List zh) × Int) := (Zm.f k t).bind fun so => if so.2 = 0 then (if t.length ≤ 1000000 ∧ so.1.length = t.length then (qh.f k (t.length : Int)).bind fun cs => (qG.f t cs (exP (zD9 so.1) t.length t.length)).bind fun r => some (r, 0) else none) else some ([], so.2)
set_option maxHeartbeats 8000000 in
set_option maxRecDepth 100000 in
theorem JS (g : Nat) (A : Option Addr) (c : Nat) (sg : List Int) (j : Nat) (hj : j < sg.length) (w : World) (hb : w.heap[g]? = some (.cells #[.slice A sg.length c] 41 (0, 0))) (hr : Kd.C (Kd.int .i64) w A sg.length sg) :
    Calls Try.prog 93 #[.int .i64 (j : Int), .pointer (some ⟨g, 0, none⟩)] w fun e w' => e = .returned (.bool (zD9 sg j)) ∧ Below w.heap.size w w' := by
  have hx : w.cell? ⟨g, 0, none⟩ = some (.slice A sg.length c) := (zJ hb 0).trans rfl
  obtain ⟨ad, e1, hy⟩ := Kd.qi hr (j : Int) (by omega) (by omega)
  subst e1
  rw [yny] at hy
  have hjz : (j : Int) < (sg.length : Int) := by omega
  have h0 : (0 : Int) ≤ (j : Int) := by omega
  clear hb hr
  show Calls _ _ _ _ (fun e w' => e = .returned (.bool (decide (rd sg (j : Int) < 0))) ∧ Below w.heap.size w w')
  generalize rd sg (j : Int) = y at hy ⊢
  go_enter Try.func93, Try.ntmps93
  go_wp2
  go_ret
  exact ⟨rfl, yqy _ _⟩
set_option maxHeartbeats 8000000 in
set_option maxRecDepth 100000 in
theorem ZD.calls (k : Nat) (A0_0 : Option Addr) (c0_0 : Nat) (l0_0 : List (List zh)) (r1 : List (List zh)) (r2 : Int) (w : World) (hr0_0 : Kd.C (Kd.slice 74 qJ) w A0_0 l0_0.length l0_0) (hc0_0 : l0_0.length ≤ c0_0) (h : ZD.f k l0_0 = some (r1, r2)) :
    Calls Try.prog 38 #[.agg #[.slice A0_0 l0_0.length c0_0]] w fun e w' => ∃ v0_ : Value, e = .returned (.tuple #[.agg #[v0_], .int .i64 r2]) ∧ Kd.S (Kd.slice 74 qJ) 75 w' w.heap.size (fun _ => True) v0_ r1 ∧ Below w.heap.size w w' := by
  unfold ZD.f at h
  obtain ⟨⟨sg, co⟩, hn, h⟩ := ydy.mp h
  have HR := zA.mk hr0_0
  have HC := zA.mk hc0_0
  have HN := zA.mk hn
  clear hr0_0 hc0_0 hn
  have B1 := zA.mk (zH (ZH (W := w) rfl (.cells #[.slice A0_0 l0_0.length c0_0] 28)) (.cells #[.slice none 0 0] 28))
  have B2 := zA.mk (ZH (W := w.alloc (.cells #[.slice A0_0 l0_0.length c0_0] 28)) (n := w.heap.size + 1) (by simp) (.cells #[.slice none 0 0] 28))
  have HB := zA.mk (zD (zD (yqy w.heap.size w) (.cells #[.slice A0_0 l0_0.length c0_0] 28)) (.cells #[.slice none 0 0] 28))
  go_enter Try.func38, Try.ntmps38
  go_wp2_with fail
  generalize World.alloc (World.alloc w _) _ = w0 at B1 B2 HB ⊢
  refine (Zm.calls k A0_0 c0_0 l0_0 sg co w0 (Kd.qA HR.out HB.out) HC.out HN.out).mono ?_
  rintro e w1 ⟨v1, rfl, ho, hb⟩
  have HG := zA.mk ho
  have B12 := zA.mk (zN B1.out hb)
  have B22 := zA.mk (zN B2.out hb)
  have HB2 := zA.mk (zO HB.out hb)
  clear B1 B2 HB
  have B1 := B12
  have B2 := B22
  have HB := HB2
  clear B12 B22 HB2
  clear hb HN ho
  obtain ⟨A1, c1, ev⟩ := Kd.qv HG.out
  subst ev
  have B4 := zA.mk (ZH (W := w1) rfl (.cells #[.slice A1 sg.length c1] 41))
  have HG2 := zA.mk (Kd.zZ HG.out (.cells #[.slice A1 sg.length c1] 41))
  have B12 := zA.mk (zH B1.out (.cells #[.slice A1 sg.length c1] 41))
  have B22 := zA.mk (zH B2.out (.cells #[.slice A1 sg.length c1] 41))
  have HB2 := zA.mk (zD HB.out (.cells #[.slice A1 sg.length c1] 41))
  have G4 := zA.mk (show w1.heap.size < (w1.alloc (.cells #[.slice A1 sg.length c1] 41)).heap.size by simp)
  have G5 := zA.mk (show w.heap.size + 1 < w1.heap.size from qE B2.out)
  clear HG B1 B2 HB
  have HG := HG2
  have B1 := B12
  have B2 := B22
  have HB := HB2
  clear HG2 B12 B22 HB2
  by_cases hc : co = 0
  case neg =>
    rw [if_neg hc] at h
    obtain ⟨rfl, rfl⟩ := Prod.mk.inj (yey h)
    have hc0 : (co != 0) = true := by simpa using hc
    have hx2 : (w1.alloc (.cells #[.slice A1 sg.length c1] 41)).cell? ⟨w.heap.size + 1, 0, none⟩ = some (.slice none 0 0) := (zJ B2.out 0).trans rfl
    have hf2 : (w1.alloc (.cells #[.slice A1 sg.length c1] 41)).frozen? ⟨w.heap.size + 1, 0, none⟩ = false := zL B2.out 0
    clear h hc
    go_wp2
    refine bodyPost_ret (JV rfl _ _ (w.heap.size + 1) 28 #[.slice none 0 0] (0, 0) _ rfl (qH (cs := #[.slice none 0 0]) B2.out 0 _ rfl) Try.underlying28 rfl (by kernel_rfl)) rfl ?_
    exact ⟨_, rfl, Kd.zAq _ _ _ _ _, zG HB.out (by omega)⟩
  subst hc
  rw [if_pos rfl] at h
  by_cases hbl : l0_0.length ≤ 1000000 ∧ sg.length = l0_0.length
  case neg => rw [if_neg hbl] at h; cases h
  rw [if_pos hbl] at h
  obtain ⟨hbig, hsl⟩ := hbl
  obtain ⟨cs, hcs, h⟩ := ydy.mp h
  obtain ⟨r, hrl, h⟩ := ydy.mp h
  obtain ⟨rfl, rfl⟩ := Prod.mk.inj (yey h)
  have HCS := zA.mk hcs
  have HRL := zA.mk hrl
  have HSL := zA.mk hsl
  clear h hcs hrl hsl
  have hx1 : (w1.alloc (.cells #[.slice A1 sg.length c1] 41)).cell? ⟨w.heap.size, 0, none⟩ = some (.slice A0_0 l0_0.length c0_0) := (zJ B1.out 0).trans rfl
  go_wp2_with fail
  generalize hw3 : w1.alloc (.cells #[.slice A1 sg.length c1] 41) = w3 at HG B1 B2 B4 HB G4 ⊢
  generalize w1.heap.size = g4 at B4 G4 ⊢
  clear hw3
  refine (zAK.calls (zD9 sg) k (.pointer (some ⟨g4, 0, none⟩)) A0_0 c0_0 l0_0 cs r w3 (Kd.qA HR.out HB.out) HC.out hbig (fun W j hj hb => JS g4 A1 c1 sg j (by have := HSL.out; omega) W ((hb.block g4 G4.out).trans B4.out) (Kd.zj (Kd.qe HG.out hb)).2.2) HCS.out HRL.out).mono ?_
  rintro e w2 ⟨v2, rfl, ho, hb⟩
  have HO := zA.mk (Kd.JN ho (zP HB.out))
  have B12 := zA.mk (zN B1.out hb)
  have B22 := zA.mk (zN B2.out hb)
  have HB2 := zA.mk (zO HB.out hb)
  clear B1 B2 HB
  have B1 := B12
  have B2 := B22
  have HB := HB2
  clear B12 B22 HB2
  clear hb ho hx1
  obtain ⟨A2, c2, ev⟩ := Kd.QY HO.out
  subst ev
  have hx2 : w2.cell? ⟨w.heap.size + 1, 0, none⟩ = some (.slice none 0 0) := (zJ B2.out 0).trans rfl
  have hf2 := zL B2.out 0
  go_wp2
  refine bodyPost_ret (JV rfl _ _ (w.heap.size + 1) 28 #[.slice A2 r.length c2] (0, 0) _ rfl (qH (cs := #[.slice none 0 0]) B2.out 0 _ rfl) Try.underlying28 rfl (by kernel_rfl)) rfl ?_
  exact ⟨_, rfl, Kd.zDz HO.out B2.out (by decide) 0 _, zG HB.out (by omega)⟩
def QP.f (a0_0 : Int) (a0_1 : Int) (a1_0 : Int) (a1_1 : Int) : Option (Bool) := if a0_0 = a1_0 then (if a0_1 = a1_1 then (some true) else (some false)) else (some false)
set_option maxHeartbeats 8000000 in
set_option maxRecDepth 100000 in
theorem QP.calls (a0_0 : Int) (a0_1 : Int) (a1_0 : Int) (a1_1 : Int) (r : Bool) (w : World) (h : QP.f a0_0 a0_1 a1_0 a1_1 = some r) :
    Calls Try.prog 168 #[.agg #[.int .i64 a0_0, .int .i64 a0_1], .agg #[.int .i64 a1_0, .int .i64 a1_1]] w fun e w' => e = .returned (.bool r) ∧ Below w.heap.size w w' := by
  have hu74 := Try.underlying74
  have HB := zA.mk (yqy w.heap.size w)
  have H : (if a0_0 = a1_0 then (if a0_1 = a1_1 then (some true) else (some false)) else (some false)) = some r := h
  clear h
  by_cases c3 : a0_0 = a1_0
  · rw [if_pos c3] at H
    have c3b0 : (a0_0 == a1_0) = true := beq_iff_eq.mpr c3
    have c3b1 : (a0_0 != a1_0) = false := bne_eq_false_iff_eq.mpr c3
    clear c3
    by_cases c4 : a0_1 = a1_1
    · rw [if_pos c4] at H
      have c4b0 : (a0_1 == a1_1) = true := beq_iff_eq.mpr c4
      have c4b1 : (a0_1 != a1_1) = false := bne_eq_false_iff_eq.mpr c4
      clear c4
      obtain rfl := yey H
      go_enter Try.func168, Try.ntmps168
      go_wp2_with (first | ((with_reducible refine zm (N := 2) rfl ?_); refine zp ?hg (N := 2) ?hd (cs := #[.int .i64 a0_0, .int .i64 a0_1]) (t := 74) ?hr ?_; (case hd => rfl); (case hg => rfl); (case hr => first | (go_simp; done) | (go_simp; rfl)); intro gb101 hg w5 hbox hb; have n0_ := zA.mk (zO (by repeat (first | (with_reducible first | exact HB.out | apply zD | apply zB | apply zE) | exact HB.out)) hb); have n1_ := zA.mk (hbox); have n2_ := zA.mk ((by rw [hg]; exact (zP (by repeat (first | (with_reducible first | exact HB.out | apply zD | apply zB | apply zE) | exact HB.out))) : w.heap.size ≤ gb101)); have n3_ := zA.mk ((by rw [hg]; exact (zP (by repeat (first | (with_reducible first | exact HB.out | apply zD | apply zB | apply zE) | exact HB.out))) : w.heap.size ≤ gb101)); clear HB; have HB := n0_; have BK101 := n1_; have GW101 := n2_; have GE101 := n3_; clear n0_ n1_ n2_ n3_; clear hb hbox hg) | ((with_reducible refine zm (N := 3) rfl ?_); refine zp ?hg (N := 3) ?hd (cs := #[.int .i64 a1_0, .int .i64 a1_1]) (t := 74) ?hr ?_; (case hd => rfl); (case hg => rfl); (case hr => first | (go_simp; done) | (go_simp; rfl)); intro gb102 hg w6 hbox hb; have n0_ := zA.mk (zN (g := gb101) (o := .cells #[.int .i64 a0_0, .int .i64 a0_1] 74 (0, 0)) (by (with_reducible repeat (first | refine zI ?_ _ | refine zK ?_ | refine zH ?_ _)); exact BK101.out) hb); have n1_ := zA.mk (zO (by repeat (first | (with_reducible first | exact HB.out | apply zD | apply zB | apply zE | refine zG ?_ GE101.out) | exact HB.out)) hb); have n2_ := zA.mk (hbox); have n3_ := zA.mk ((by rw [hg]; exact (zP (by repeat (first | (with_reducible first | exact HB.out | apply zD | apply zB | apply zE | refine zG ?_ GE101.out) | exact HB.out))) : w.heap.size ≤ gb102)); have n4_ := zA.mk ((by rw [hg]; exact (zP (by repeat (first | (with_reducible first | exact HB.out | apply zD | apply zB | apply zE | refine zG ?_ GE101.out) | exact HB.out))) : w.heap.size ≤ gb102)); have n5_ := zA.mk ((by rw [hg]; exact Nat.ne_of_lt (qE (g := gb101) (o := .cells #[.int .i64 a0_0, .int .i64 a0_1] 74 (0, 0)) (by (with_reducible repeat (first | refine zI ?_ _ | refine zK ?_ | refine zH ?_ _)); exact BK101.out)) : gb101 ≠ gb102)); have n6_ := zA.mk ((by rw [hg]; exact Nat.ne_of_gt (qE (g := gb101) (o := .cells #[.int .i64 a0_0, .int .i64 a0_1] 74 (0, 0)) (by (with_reducible repeat (first | refine zI ?_ _ | refine zK ?_ | refine zH ?_ _)); exact BK101.out)) : gb102 ≠ gb101)); clear BK101; clear HB; have BK101 := n0_; have HB := n1_; have BK102 := n2_; have GW102 := n3_; have GE102 := n4_; have NB101_102 := n5_; have NB102_101 := n6_; clear n0_ n1_ n2_ n3_ n4_ n5_ n6_; clear hb hbox hg; have hnb7 := NB101_102.out; have hnc7 := NB102_101.out; have hcz8_0 : w6.cell? ⟨gb101, 0, none⟩ = some (.int .i64 a0_0) := (zJ BK101.out 0).trans rfl; have hcz8_1 : w6.cell? ⟨gb101, 1, none⟩ = some (.int .i64 a0_1) := (zJ BK101.out 1).trans rfl; have hfz8_0 := zL BK101.out 0; have hfz8_1 := zL BK101.out 1; have hcz9_0 : w6.cell? ⟨gb102, 0, none⟩ = some (.int .i64 a1_0) := (zJ BK102.out 0).trans rfl; have hcz9_1 : w6.cell? ⟨gb102, 1, none⟩ = some (.int .i64 a1_1) := (zJ BK102.out 1).trans rfl; have hfz9_0 := zL BK102.out 0; have hfz9_1 := zL BK102.out 1))
      go_ret
      exact ⟨by first | rfl | (simp [zX, zY] <;> rfl) | (simp [*, zX, zY] <;> rfl), by repeat (first | (with_reducible first | exact HB.out | apply zD | apply zB | apply zE | refine zG ?_ GE101.out | refine zG ?_ GE102.out) | exact HB.out)⟩
    · rw [if_neg c4] at H
      have c4b0 : (a0_1 == a1_1) = false := beq_eq_false_iff_ne.mpr c4
      have c4b1 : (a0_1 != a1_1) = true := bne_iff_ne.mpr c4
      obtain rfl := yey H
      go_enter Try.func168, Try.ntmps168
      go_wp2_with (first | ((with_reducible refine zm (N := 2) rfl ?_); refine zp ?hg (N := 2) ?hd (cs := #[.int .i64 a0_0, .int .i64 a0_1]) (t := 74) ?hr ?_; (case hd => rfl); (case hg => rfl); (case hr => first | (go_simp; done) | (go_simp; rfl)); intro gb101 hg w10 hbox hb; have n0_ := zA.mk (zO (by repeat (first | (with_reducible first | exact HB.out | apply zD | apply zB | apply zE) | exact HB.out)) hb); have n1_ := zA.mk (hbox); have n2_ := zA.mk ((by rw [hg]; exact (zP (by repeat (first | (with_reducible first | exact HB.out | apply zD | apply zB | apply zE) | exact HB.out))) : w.heap.size ≤ gb101)); have n3_ := zA.mk ((by rw [hg]; exact (zP (by repeat (first | (with_reducible first | exact HB.out | apply zD | apply zB | apply zE) | exact HB.out))) : w.heap.size ≤ gb101)); clear HB; have HB := n0_; have BK101 := n1_; have GW101 := n2_; have GE101 := n3_; clear n0_ n1_ n2_ n3_; clear hb hbox hg) | ((with_reducible refine zm (N := 3) rfl ?_); refine zp ?hg (N := 3) ?hd (cs := #[.int .i64 a1_0, .int .i64 a1_1]) (t := 74) ?hr ?_; (case hd => rfl); (case hg => rfl); (case hr => first | (go_simp; done) | (go_simp; rfl)); intro gb102 hg w11 hbox hb; have n0_ := zA.mk (zN (g := gb101) (o := .cells #[.int .i64 a0_0, .int .i64 a0_1] 74 (0, 0)) (by (with_reducible repeat (first | refine zI ?_ _ | refine zK ?_ | refine zH ?_ _)); exact BK101.out) hb); have n1_ := zA.mk (zO (by repeat (first | (with_reducible first | exact HB.out | apply zD | apply zB | apply zE | refine zG ?_ GE101.out) | exact HB.out)) hb); have n2_ := zA.mk (hbox); have n3_ := zA.mk ((by rw [hg]; exact (zP (by repeat (first | (with_reducible first | exact HB.out | apply zD | apply zB | apply zE | refine zG ?_ GE101.out) | exact HB.out))) : w.heap.size ≤ gb102)); have n4_ := zA.mk ((by rw [hg]; exact (zP (by repeat (first | (with_reducible first | exact HB.out | apply zD | apply zB | apply zE | refine zG ?_ GE101.out) | exact HB.out))) : w.heap.size ≤ gb102)); have n5_ := zA.mk ((by rw [hg]; exact Nat.ne_of_lt (qE (g := gb101) (o := .cells #[.int .i64 a0_0, .int .i64 a0_1] 74 (0, 0)) (by (with_reducible repeat (first | refine zI ?_ _ | refine zK ?_ | refine zH ?_ _)); exact BK101.out)) : gb101 ≠ gb102)); have n6_ := zA.mk ((by rw [hg]; exact Nat.ne_of_gt (qE (g := gb101) (o := .cells #[.int .i64 a0_0, .int .i64 a0_1] 74 (0, 0)) (by (with_reducible repeat (first | refine zI ?_ _ | refine zK ?_ | refine zH ?_ _)); exact BK101.out)) : gb102 ≠ gb101)); clear BK101; clear HB; have BK101 := n0_; have HB := n1_; have BK102 := n2_; have GW102 := n3_; have GE102 := n4_; have NB101_102 := n5_; have NB102_101 := n6_; clear n0_ n1_ n2_ n3_ n4_ n5_ n6_; clear hb hbox hg; have hnb12 := NB101_102.out; have hnc12 := NB102_101.out; have hcz13_0 : w11.cell? ⟨gb101, 0, none⟩ = some (.int .i64 a0_0) := (zJ BK101.out 0).trans rfl; have hcz13_1 : w11.cell? ⟨gb101, 1, none⟩ = some (.int .i64 a0_1) := (zJ BK101.out 1).trans rfl; have hfz13_0 := zL BK101.out 0; have hfz13_1 := zL BK101.out 1; have hcz14_0 : w11.cell? ⟨gb102, 0, none⟩ = some (.int .i64 a1_0) := (zJ BK102.out 0).trans rfl; have hcz14_1 : w11.cell? ⟨gb102, 1, none⟩ = some (.int .i64 a1_1) := (zJ BK102.out 1).trans rfl; have hfz14_0 := zL BK102.out 0; have hfz14_1 := zL BK102.out 1))
      go_ret
      exact ⟨by first | rfl | (simp [zX, zY] <;> rfl) | (simp [*, zX, zY] <;> rfl), by repeat (first | (with_reducible first | exact HB.out | apply zD | apply zB | apply zE | refine zG ?_ GE101.out | refine zG ?_ GE102.out) | exact HB.out)⟩
  · rw [if_neg c3] at H
    have c3b0 : (a0_0 == a1_0) = false := beq_eq_false_iff_ne.mpr c3
    have c3b1 : (a0_0 != a1_0) = true := bne_iff_ne.mpr c3
    obtain rfl := yey H
    go_enter Try.func168, Try.ntmps168
    go_wp2_with (first | ((with_reducible refine zm (N := 2) rfl ?_); refine zp ?hg (N := 2) ?hd (cs := #[.int .i64 a0_0, .int .i64 a0_1]) (t := 74) ?hr ?_; (case hd => rfl); (case hg => rfl); (case hr => first | (go_simp; done) | (go_simp; rfl)); intro gb101 hg w15 hbox hb; have n0_ := zA.mk (zO (by repeat (first | (with_reducible first | exact HB.out | apply zD | apply zB | apply zE) | exact HB.out)) hb); have n1_ := zA.mk (hbox); have n2_ := zA.mk ((by rw [hg]; exact (zP (by repeat (first | (with_reducible first | exact HB.out | apply zD | apply zB | apply zE) | exact HB.out))) : w.heap.size ≤ gb101)); have n3_ := zA.mk ((by rw [hg]; exact (zP (by repeat (first | (with_reducible first | exact HB.out | apply zD | apply zB | apply zE) | exact HB.out))) : w.heap.size ≤ gb101)); clear HB; have HB := n0_; have BK101 := n1_; have GW101 := n2_; have GE101 := n3_; clear n0_ n1_ n2_ n3_; clear hb hbox hg) | ((with_reducible refine zm (N := 3) rfl ?_); refine zp ?hg (N := 3) ?hd (cs := #[.int .i64 a1_0, .int .i64 a1_1]) (t := 74) ?hr ?_; (case hd => rfl); (case hg => rfl); (case hr => first | (go_simp; done) | (go_simp; rfl)); intro gb102 hg w16 hbox hb; have n0_ := zA.mk (zN (g := gb101) (o := .cells #[.int .i64 a0_0, .int .i64 a0_1] 74 (0, 0)) (by (with_reducible repeat (first | refine zI ?_ _ | refine zK ?_ | refine zH ?_ _)); exact BK101.out) hb); have n1_ := zA.mk (zO (by repeat (first | (with_reducible first | exact HB.out | apply zD | apply zB | apply zE | refine zG ?_ GE101.out) | exact HB.out)) hb); have n2_ := zA.mk (hbox); have n3_ := zA.mk ((by rw [hg]; exact (zP (by repeat (first | (with_reducible first | exact HB.out | apply zD | apply zB | apply zE | refine zG ?_ GE101.out) | exact HB.out))) : w.heap.size ≤ gb102)); have n4_ := zA.mk ((by rw [hg]; exact (zP (by repeat (first | (with_reducible first | exact HB.out | apply zD | apply zB | apply zE | refine zG ?_ GE101.out) | exact HB.out))) : w.heap.size ≤ gb102)); have n5_ := zA.mk ((by rw [hg]; exact Nat.ne_of_lt (qE (g := gb101) (o := .cells #[.int .i64 a0_0, .int .i64 a0_1] 74 (0, 0)) (by (with_reducible repeat (first | refine zI ?_ _ | refine zK ?_ | refine zH ?_ _)); exact BK101.out)) : gb101 ≠ gb102)); have n6_ := zA.mk ((by rw [hg]; exact Nat.ne_of_gt (qE (g := gb101) (o := .cells #[.int .i64 a0_0, .int .i64 a0_1] 74 (0, 0)) (by (with_reducible repeat (first | refine zI ?_ _ | refine zK ?_ | refine zH ?_ _)); exact BK101.out)) : gb102 ≠ gb101)); clear BK101; clear HB; have BK101 := n0_; have HB := n1_; have BK102 := n2_; have GW102 := n3_; have GE102 := n4_; have NB101_102 := n5_; have NB102_101 := n6_; clear n0_ n1_ n2_ n3_ n4_ n5_ n6_; clear hb hbox hg; have hnb17 := NB101_102.out; have hnc17 := NB102_101.out; have hcz18_0 : w16.cell? ⟨gb101, 0, none⟩ = some (.int .i64 a0_0) := (zJ BK101.out 0).trans rfl; have hcz18_1 : w16.cell? ⟨gb101, 1, none⟩ = some (.int .i64 a0_1) := (zJ BK101.out 1).trans rfl; have hfz18_0 := zL BK101.out 0; have hfz18_1 := zL BK101.out 1; have hcz19_0 : w16.cell? ⟨gb102, 0, none⟩ = some (.int .i64 a1_0) := (zJ BK102.out 0).trans rfl; have hcz19_1 : w16.cell? ⟨gb102, 1, none⟩ = some (.int .i64 a1_1) := (zJ BK102.out 1).trans rfl; have hfz19_0 := zL BK102.out 0; have hfz19_1 := zL BK102.out 1))
    go_ret
    exact ⟨by first | rfl | (simp [zX, zY] <;> rfl) | (simp [*, zX, zY] <;> rfl), by repeat (first | (with_reducible first | exact HB.out | apply zD | apply zB | apply zE | refine zG ?_ GE101.out | refine zG ?_ GE102.out) | exact HB.out)⟩
def zy.l0 : Nat → List (zh) → List (zh) → Int → Option (Bool)
 | 0, _, _, _ => none
 | k + 1, x0, x1, x5 => if x5 < (x0.length : Int) then (if 0 ≤ x5 then (if x5 < (x1.length : Int) then ((QP.f ((zF x0 x5).f0) ((zF x0 x5).f1) ((zF x1 x5).f0) ((zF x1 x5).f1)).bind fun t103 => (if t103 = true then (zy.l0 k x0 x1 (wrap64 (x5 + 1))) else (some false))) else (none)) else (none)) else (some true)
def zy.f (k : Nat) (l0 : List (zh)) (l1 : List (zh)) : Option (Bool) := if (l0.length : Int) = (l1.length : Int) then (zy.l0 k l0 l1 0) else (some false)
def zy.T6 : Bool × List (List Nat × List Nat) := (true, [([], []), ([], []), ([0, 1], [0, 1]), ([2], [2]), ([], []), ([], []), ([4, 5], [4, 5]), ([6], [6]), ([3, 7], [3, 7]), ([8], [8])])
def zy.B6 : List Nat := [0, 0, 3, 7, 0, 0, 48, 112, 255, 511]
theorem zy.tab6 : Jq .any (opsOf Try.f123 6) = zy.T6 := by kernel_rfl
theorem zy.zDb : QM zy.T6.2 zy.B6 = true := by kernel_rfl
set_option maxHeartbeats 8000000 in
set_option maxRecDepth 100000 in
theorem zy.calls (k : Nat) (A0 : Option Addr) (c0 : Nat) (l0 : List (zh)) (A1 : Option Addr) (c1 : Nat) (l1 : List (zh)) (r : Bool) (w : World) (hr0 : Kd.C qJ w A0 l0.length l0) (hc0 : l0.length ≤ c0) (hr1 : Kd.C qJ w A1 l1.length l1) (hc1 : l1.length ≤ c1) (h : zy.f k l0 l1 = some r) :
 Calls Try.prog 123 #[.slice A0 l0.length c0, .slice A1 l1.length c1] w fun e w' => e = .returned (.bool r) ∧ Below w.heap.size w w' := by
 have hu74 := Try.underlying74
 have HR0 := zA.mk hr0
 have HC0 := zA.mk hc0
 clear hr0 hc0
 have HR1 := zA.mk hr1
 have HC1 := zA.mk hc1
 clear hr1 hc1
 have HB := zA.mk (yqy w.heap.size w)
 have H : (if (l0.length : Int) = (l1.length : Int) then (zy.l0 k l0 l1 0) else (some false)) = some r := h
 clear h
 by_cases c3 : (l0.length : Int) = (l1.length : Int)
 rotate_left
 next =>
  rw [if_neg c3] at H
  have c3b0 : ((l0.length : Int) == (l1.length : Int)) = false := beq_eq_false_iff_ne.mpr c3
  have c3b1 : ((l0.length : Int) != (l1.length : Int)) = true := bne_iff_ne.mpr c3
  have c3b2 : (l0.length == l1.length) = false := by first | simpa using c3 | (simp at c3 ⊢; omega)
  obtain rfl := yey H
  go_enter Try.func123, Try.ntmps123
  go_wp2
  go_ret
  exact ⟨by first | rfl | (simp [zX, zY] <;> rfl) | (simp [*, zX, zY] <;> rfl), by repeat (first | (with_reducible first | exact HB.out | apply zD | apply zB | apply zE) | exact HB.out)⟩
 rw [if_pos c3] at H
 have c3b0 : ((l0.length : Int) == (l1.length : Int)) = true := beq_iff_eq.mpr c3
 have c3b1 : ((l0.length : Int) != (l1.length : Int)) = false := bne_eq_false_iff_eq.mpr c3
 have c3b2 : (l0.length == l1.length) = true := by first | simpa using c3 | (simp at c3 ⊢; omega)
 clear c3
 have H' := zA.mk H
 clear H
 go_enter Try.func123, Try.ntmps123
 go_wp2
 go_loopg [5] k (fun kq v5 w' => ∃ (x5_1 : Int), v5 = .int .i64 x5_1 ∧ zA (zy.l0 kq l0 l1 x5_1 = some r) ∧ zA (kq ≤ k) ∧ zA (Below w.heap.size w w'))
 case atStart => exact ⟨(0), (by first | rfl | (simp; done) | (simp [*]; done)), H', ⟨ypy _⟩, ⟨by repeat (first | (with_reducible first | exact HB.out | apply zD | apply zB | apply zE) | exact HB.out)⟩⟩
 case round =>
  clear H'
  try clear c1
  try clear p2
  try clear c3
  try clear c3b0
  try clear c3b1
  try clear c3b2
  obtain ⟨x5_1, rfl, HA, HK1, HB⟩ := hrel
  cases gk with
  | zero => exact absurd HA.out (by simp [zy.l0])
  | succ k1 =>
   have H := HA.out
   clear HA
   simp only [zy.l0] at H
   by_cases c4 : x5_1 < (l0.length : Int)
   rotate_left
   next =>
    rw [if_neg c4] at H
    have c4b0 : decide (x5_1 < (l0.length : Int)) = false := yhy c4
    clear c4
    obtain rfl := yey H
    go_wp2
    go_ret
    exact ⟨by first | rfl | (simp [zX, zY] <;> rfl) | (simp [*, zX, zY] <;> rfl), by repeat (first | (with_reducible first | exact HB.out | apply zD | apply zB | apply zE) | exact HB.out)⟩
   rw [if_pos c4] at H
   have c4b0 : decide (x5_1 < (l0.length : Int)) = true := ygy c4
   clear c4
   by_cases c5 : 0 ≤ x5_1
   rotate_left
   next =>
    rw [if_neg c5] at H
    exact absurd H (by simp)
   rw [if_pos c5] at H
   have c5b0 : decide (0 ≤ x5_1) = true := ygy c5
   clear c5
   by_cases c6 : x5_1 < (l1.length : Int)
   rotate_left
   next =>
    rw [if_neg c6] at H
    exact absurd H (by simp)
   rw [if_pos c6] at H
   have c6b0 : decide (x5_1 < (l1.length : Int)) = true := ygy c6
   clear c6
   replace H := ydy.mp H
   obtain ⟨t103, A70, H⟩ := H
   replace H : (if t103 = true then (zy.l0 k1 l0 l1 (wrap64 (x5_1 + 1))) else (some false)) = some r := H
   have A7 := zA.mk A70
   clear A70
   by_cases c8 : t103 = true
   rotate_left
   next =>
    replace c8 := Bool.eq_false_iff.mpr c8
    subst c8
    have H1 : (some false) = some r := by rw [if_neg (show ¬ (false = true) by decide)] at H; exact H
    clear H
    have H := H1
    clear H1
    obtain rfl := yey H
    try go_wp2
    have n0_ := zA.mk (zE HB.out)
    clear HB
    have HB := n0_
    clear n0_
    have p101 : 0 ≤ (x5_1 : Int) := of_decide_eq_true (by first | (with_reducible assumption) | assumption)
    have q101 : x5_1 < (l0.length : Int) := of_decide_eq_true (by first | (with_reducible assumption) | assumption)
    obtain ⟨ad101, e101, hx101_0, hx101_1⟩ := ZM HR0.out x5_1 p101 q101
    have hw101_1 := hx101_1
    have hw101_0 := hx101_0
    cases e101
    replace hx101_0 := (HB.out.cell (yoy w _ hx101_0)).trans hx101_0
    replace hx101_1 := (HB.out.cell (yoy w _ hx101_1)).trans hx101_1
    replace p101 := eq_true p101
    replace q101 := eq_true q101
    have p102 : 0 ≤ (x5_1 : Int) := of_decide_eq_true (by first | (with_reducible assumption) | assumption)
    have q102 : x5_1 < (l1.length : Int) := of_decide_eq_true (by first | (with_reducible assumption) | assumption)
    obtain ⟨ad102, e102, hx102_0, hx102_1⟩ := ZM HR1.out x5_1 p102 q102
    have hw102_1 := hx102_1
    have hw102_0 := hx102_0
    cases e102
    replace hx102_0 := (HB.out.cell (yoy w _ hx102_0)).trans hx102_0
    replace hx102_1 := (HB.out.cell (yoy w _ hx102_1)).trans hx102_1
    replace p102 := eq_true p102
    replace q102 := eq_true q102
    refine ZN (n := 10) (S := fun w' => w'.cell? (ad101.add ((x5_1).toNat * 2)) = some (.int .i64 ((zF l0 x5_1).f0)) ∧ w'.cell? ⟨(ad101.add ((x5_1).toNat * 2)).block, (ad101.add ((x5_1).toNat * 2)).off + 1, none⟩ = some (.int .i64 ((zF l0 x5_1).f1)) ∧ w'.cell? (ad102.add ((x5_1).toNat * 2)) = some (.int .i64 ((zF l1 x5_1).f0)) ∧ w'.cell? ⟨(ad102.add ((x5_1).toNat * 2)).block, (ad102.add ((x5_1).toNat * 2)).off + 1, none⟩ = some (.int .i64 ((zF l1 x5_1).f1))) (ds := []) #[false, false, false, false, false, false, false, false, false, false] (by kernel_rfl) rfl rfl ⟨((HB.out.cell (yoy w _ hw101_0)).trans hw101_0), ((HB.out.cell (yoy w _ hw101_1)).trans hw101_1), ((HB.out.cell (yoy w _ hw102_0)).trans hw102_0), ((HB.out.cell (yoy w _ hw102_1)).trans hw102_1)⟩ (fun hHeld => ?_); refine qx zy.tab6 zy.zDb (fun HT_ HW_ => ?_)
    generalize wr.drew = w11 at HB hx101_0 hx101_1 hx102_0 hx102_1 hHeld ⊢
    refine zg (i := 0) (N := some 17) (v := ?_) (a' := ?_) #[true, false, false, false, false, false, false, false, false, false] rfl rfl (zb HT_.out (by kernel_rfl)) (fun _ _ _ h => h) (Or.inl ⟨by rfl, ?_⟩) ?_ ?_
    rotate_left
    next =>
     intro w'
     go_simp
     with_reducible rfl
    rotate_left
    next =>
     simp only [Act.put, yay, yby, ycy, zT, zU]
     rfl
    refine zg (i := 1) (N := some 18) (v := ?_) (a' := ?_) #[true, true, false, false, false, false, false, false, false, false] rfl rfl (zb HT_.out (by kernel_rfl)) (fun _ _ _ h => h) (Or.inl ⟨by rfl, ?_⟩) ?_ ?_
    rotate_left
    next =>
     intro w'
     go_simp
     with_reducible rfl
    rotate_left
    next =>
     simp only [Act.put, yay, yby, ycy, zT, zU]
     rfl
    refine zg (i := 2) (N := some 19) (v := ?_) (a' := ?_) #[true, true, true, false, false, false, false, false, false, false] rfl rfl (zb HT_.out (by kernel_rfl)) (fun _ _ _ h => h) (Or.inl ⟨by rfl, ?_⟩) ?_ ?_
    rotate_left
    next =>
     intro w'
     go_simp
     with_reducible rfl
    rotate_left
    next =>
     simp only [Act.put, yay, yby, ycy, zT, zU]
     rfl
    refine zg (i := 4) (N := some 21) (v := ?_) (a' := ?_) #[true, true, true, false, true, false, false, false, false, false] rfl rfl (zb HT_.out (by kernel_rfl)) (fun _ _ _ h => h) (Or.inl ⟨by rfl, ?_⟩) ?_ ?_
    rotate_left
    next =>
     intro w'
     go_simp
     with_reducible rfl
    rotate_left
    next =>
     simp only [Act.put, yay, yby, ycy, zT, zU]
     rfl
    refine zg (i := 5) (N := some 22) (v := ?_) (a' := ?_) #[true, true, true, false, true, true, false, false, false, false] rfl rfl (zb HT_.out (by kernel_rfl)) (fun _ _ _ h => h) (Or.inl ⟨by rfl, ?_⟩) ?_ ?_
    rotate_left
    next =>
     intro w'
     go_simp
     with_reducible rfl
    rotate_left
    next =>
     simp only [Act.put, yay, yby, ycy, zT, zU]
     rfl
    refine zg (i := 6) (N := some 23) (v := ?_) (a' := ?_) #[true, true, true, false, true, true, true, false, false, false] rfl rfl (zb HT_.out (by kernel_rfl)) (fun _ _ _ h => h) (Or.inl ⟨by rfl, ?_⟩) ?_ ?_
    rotate_left
    next =>
     intro w'
     go_simp
     with_reducible rfl
    rotate_left
    next =>
     simp only [Act.put, yay, yby, ycy, zT, zU]
     rfl
    refine qQ (i := 3) (N := some 20) (v := ?_) (a' := ?_) #[true, true, true, true, true, true, true, false, false, false] rfl rfl (zn HT_.out HW_.out (by kernel_rfl)) (fun _ _ _ h => h) (Or.inl ⟨by rfl, ?_⟩) hHeld ?_ ?_
    rotate_left
    next =>
     rintro w' ⟨s0, s1, s2, s3⟩
     go_simp
     with_reducible rfl
    rotate_left
    next =>
     simp only [Act.put, yay, yby, ycy, zT, zU]
     rfl
    refine qQ (i := 7) (N := some 24) (v := ?_) (a' := ?_) #[true, true, true, true, true, true, true, true, false, false] rfl rfl (zn HT_.out HW_.out (by kernel_rfl)) (fun _ _ _ h => h) (Or.inl ⟨by rfl, ?_⟩) hHeld ?_ ?_
    rotate_left
    next =>
     rintro w' ⟨s0, s1, s2, s3⟩
     go_simp
     with_reducible rfl
    rotate_left
    next =>
     simp only [Act.put, yay, yby, ycy, zT, zU]
     rfl
    refine QH (i := 8) (N := some 25) #[true, true, true, true, true, true, true, true, true, false] rfl rfl (ZF HT_.out (by kernel_rfl)) (by decide) (fun K hK => ?_)
    refine Zv Try.func168 (by kernel_rfl) rfl #[.agg #[.int .i64 ((zF l0 x5_1).f0), .int .i64 ((zF l0 x5_1).f1)], .agg #[.int .i64 ((zF l1 x5_1).f0), .int .i64 ((zF l1 x5_1).f1)]] (by rfl) rfl rfl (by (try simp only [yiy, yjy, yky]); first | done | rfl | (simp only [yly, ymy]; rfl)) ?_
    with_reducible refine (QP.calls ((zF l0 x5_1).f0) ((zF l0 x5_1).f1) ((zF l1 x5_1).f0) ((zF l1 x5_1).f1) false _ A7.out).mono ?_
    rintro e w12 ⟨rfl, hb⟩
    refine ⟨_, rfl, ?_⟩
    have n0_ := zA.mk (zO (by repeat (first | (with_reducible first | exact HB.out | apply zD | apply zB | apply zE) | exact HB.out)) hb)
    clear HB
    have HB := n0_
    clear n0_
    (try clear hb)
    (try clear hb2)
    (try clear hk)
    (try clear hi)
    refine hK.out _ _ ⟨((HB.out.cell (yoy w _ hw101_0)).trans hw101_0), ((HB.out.cell (yoy w _ hw101_1)).trans hw101_1), ((HB.out.cell (yoy w _ hw102_0)).trans hw102_0), ((HB.out.cell (yoy w _ hw102_1)).trans hw102_1)⟩ (fun hHeld => ?_)
    clear hK K
    refine ZQ (a' := ?_) ?_ ?_
    rotate_left
    next =>
     show Act.put _ (some 25) _ = _
     simp only [Act.put, yay, yby, ycy, zT, zU]
     rfl
    refine zg (i := 9) (N := some 26) (v := ?_) (a' := ?_) #[true, true, true, true, true, true, true, true, true, true] rfl rfl (zb HT_.out (by kernel_rfl)) (fun _ _ _ h => h) (Or.inl ⟨by rfl, ?_⟩) ?_ ?_
    rotate_left
    next =>
     intro w'
     go_simp
     with_reducible rfl
    rotate_left
    next =>
     simp only [Act.put, yay, yby, ycy, zT, zU]
     rfl
    refine Zo (ZS HT_.out (by kernel_rfl)) ?_
    try go_wp2
    go_ret
    exact ⟨by first | rfl | (simp [zX, zY] <;> rfl) | (simp [*, zX, zY] <;> rfl), by repeat (first | (with_reducible first | exact HB.out | apply zD | apply zB | apply zE) | exact HB.out)⟩
   subst c8
   have H1 : (zy.l0 k1 l0 l1 (wrap64 (x5_1 + 1))) = some r := by rw [if_pos rfl] at H; exact H
   clear H
   have H := H1
   clear H1
   have H' := zA.mk H
   clear H
   try go_wp2
   have n0_ := zA.mk (zE HB.out)
   clear HB
   have HB := n0_
   clear n0_
   have p101 : 0 ≤ (x5_1 : Int) := of_decide_eq_true (by first | (with_reducible assumption) | assumption)
   have q101 : x5_1 < (l0.length : Int) := of_decide_eq_true (by first | (with_reducible assumption) | assumption)
   obtain ⟨ad101, e101, hx101_0, hx101_1⟩ := ZM HR0.out x5_1 p101 q101
   have hw101_1 := hx101_1
   have hw101_0 := hx101_0
   cases e101
   replace hx101_0 := (HB.out.cell (yoy w _ hx101_0)).trans hx101_0
   replace hx101_1 := (HB.out.cell (yoy w _ hx101_1)).trans hx101_1
   replace p101 := eq_true p101
   replace q101 := eq_true q101
   have p102 : 0 ≤ (x5_1 : Int) := of_decide_eq_true (by first | (with_reducible assumption) | assumption)
   have q102 : x5_1 < (l1.length : Int) := of_decide_eq_true (by first | (with_reducible assumption) | assumption)
   obtain ⟨ad102, e102, hx102_0, hx102_1⟩ := ZM HR1.out x5_1 p102 q102
   have hw102_1 := hx102_1
   have hw102_0 := hx102_0
   cases e102
   replace hx102_0 := (HB.out.cell (yoy w _ hx102_0)).trans hx102_0
   replace hx102_1 := (HB.out.cell (yoy w _ hx102_1)).trans hx102_1
   replace p102 := eq_true p102
   replace q102 := eq_true q102
   refine ZN (n := 10) (S := fun w' => w'.cell? (ad101.add ((x5_1).toNat * 2)) = some (.int .i64 ((zF l0 x5_1).f0)) ∧ w'.cell? ⟨(ad101.add ((x5_1).toNat * 2)).block, (ad101.add ((x5_1).toNat * 2)).off + 1, none⟩ = some (.int .i64 ((zF l0 x5_1).f1)) ∧ w'.cell? (ad102.add ((x5_1).toNat * 2)) = some (.int .i64 ((zF l1 x5_1).f0)) ∧ w'.cell? ⟨(ad102.add ((x5_1).toNat * 2)).block, (ad102.add ((x5_1).toNat * 2)).off + 1, none⟩ = some (.int .i64 ((zF l1 x5_1).f1))) (ds := []) #[false, false, false, false, false, false, false, false, false, false] (by kernel_rfl) rfl rfl ⟨((HB.out.cell (yoy w _ hw101_0)).trans hw101_0), ((HB.out.cell (yoy w _ hw101_1)).trans hw101_1), ((HB.out.cell (yoy w _ hw102_0)).trans hw102_0), ((HB.out.cell (yoy w _ hw102_1)).trans hw102_1)⟩ (fun hHeld => ?_); refine qx zy.tab6 zy.zDb (fun HT_ HW_ => ?_)
   generalize wr.drew = w9 at HB hx101_0 hx101_1 hx102_0 hx102_1 hHeld ⊢
   refine zg (i := 0) (N := some 17) (v := ?_) (a' := ?_) #[true, false, false, false, false, false, false, false, false, false] rfl rfl (zb HT_.out (by kernel_rfl)) (fun _ _ _ h => h) (Or.inl ⟨by rfl, ?_⟩) ?_ ?_
   rotate_left
   next =>
    intro w'
    go_simp
    with_reducible rfl
   rotate_left
   next =>
    simp only [Act.put, yay, yby, ycy, zT, zU]
    rfl
   refine zg (i := 1) (N := some 18) (v := ?_) (a' := ?_) #[true, true, false, false, false, false, false, false, false, false] rfl rfl (zb HT_.out (by kernel_rfl)) (fun _ _ _ h => h) (Or.inl ⟨by rfl, ?_⟩) ?_ ?_
   rotate_left
   next =>
    intro w'
    go_simp
    with_reducible rfl
   rotate_left
   next =>
    simp only [Act.put, yay, yby, ycy, zT, zU]
    rfl
   refine zg (i := 2) (N := some 19) (v := ?_) (a' := ?_) #[true, true, true, false, false, false, false, false, false, false] rfl rfl (zb HT_.out (by kernel_rfl)) (fun _ _ _ h => h) (Or.inl ⟨by rfl, ?_⟩) ?_ ?_
   rotate_left
   next =>
    intro w'
    go_simp
    with_reducible rfl
   rotate_left
   next =>
    simp only [Act.put, yay, yby, ycy, zT, zU]
    rfl
   refine zg (i := 4) (N := some 21) (v := ?_) (a' := ?_) #[true, true, true, false, true, false, false, false, false, false] rfl rfl (zb HT_.out (by kernel_rfl)) (fun _ _ _ h => h) (Or.inl ⟨by rfl, ?_⟩) ?_ ?_
   rotate_left
   next =>
    intro w'
    go_simp
    with_reducible rfl
   rotate_left
   next =>
    simp only [Act.put, yay, yby, ycy, zT, zU]
    rfl
   refine zg (i := 5) (N := some 22) (v := ?_) (a' := ?_) #[true, true, true, false, true, true, false, false, false, false] rfl rfl (zb HT_.out (by kernel_rfl)) (fun _ _ _ h => h) (Or.inl ⟨by rfl, ?_⟩) ?_ ?_
   rotate_left
   next =>
    intro w'
    go_simp
    with_reducible rfl
   rotate_left
   next =>
    simp only [Act.put, yay, yby, ycy, zT, zU]
    rfl
   refine zg (i := 6) (N := some 23) (v := ?_) (a' := ?_) #[true, true, true, false, true, true, true, false, false, false] rfl rfl (zb HT_.out (by kernel_rfl)) (fun _ _ _ h => h) (Or.inl ⟨by rfl, ?_⟩) ?_ ?_
   rotate_left
   next =>
    intro w'
    go_simp
    with_reducible rfl
   rotate_left
   next =>
    simp only [Act.put, yay, yby, ycy, zT, zU]
    rfl
   refine qQ (i := 3) (N := some 20) (v := ?_) (a' := ?_) #[true, true, true, true, true, true, true, false, false, false] rfl rfl (zn HT_.out HW_.out (by kernel_rfl)) (fun _ _ _ h => h) (Or.inl ⟨by rfl, ?_⟩) hHeld ?_ ?_
   rotate_left
   next =>
    rintro w' ⟨s0, s1, s2, s3⟩
    go_simp
    with_reducible rfl
   rotate_left
   next =>
    simp only [Act.put, yay, yby, ycy, zT, zU]
    rfl
   refine qQ (i := 7) (N := some 24) (v := ?_) (a' := ?_) #[true, true, true, true, true, true, true, true, false, false] rfl rfl (zn HT_.out HW_.out (by kernel_rfl)) (fun _ _ _ h => h) (Or.inl ⟨by rfl, ?_⟩) hHeld ?_ ?_
   rotate_left
   next =>
    rintro w' ⟨s0, s1, s2, s3⟩
    go_simp
    with_reducible rfl
   rotate_left
   next =>
    simp only [Act.put, yay, yby, ycy, zT, zU]
    rfl
   refine QH (i := 8) (N := some 25) #[true, true, true, true, true, true, true, true, true, false] rfl rfl (ZF HT_.out (by kernel_rfl)) (by decide) (fun K hK => ?_)
   refine Zv Try.func168 (by kernel_rfl) rfl #[.agg #[.int .i64 ((zF l0 x5_1).f0), .int .i64 ((zF l0 x5_1).f1)], .agg #[.int .i64 ((zF l1 x5_1).f0), .int .i64 ((zF l1 x5_1).f1)]] (by rfl) rfl rfl (by (try simp only [yiy, yjy, yky]); first | done | rfl | (simp only [yly, ymy]; rfl)) ?_
   with_reducible refine (QP.calls ((zF l0 x5_1).f0) ((zF l0 x5_1).f1) ((zF l1 x5_1).f0) ((zF l1 x5_1).f1) true _ A7.out).mono ?_
   rintro e w10 ⟨rfl, hb⟩
   refine ⟨_, rfl, ?_⟩
   have n0_ := zA.mk (zO (by repeat (first | (with_reducible first | exact HB.out | apply zD | apply zB | apply zE) | exact HB.out)) hb)
   clear HB
   have HB := n0_
   clear n0_
   (try clear hb)
   (try clear hb2)
   (try clear hk)
   (try clear hi)
   refine hK.out _ _ ⟨((HB.out.cell (yoy w _ hw101_0)).trans hw101_0), ((HB.out.cell (yoy w _ hw101_1)).trans hw101_1), ((HB.out.cell (yoy w _ hw102_0)).trans hw102_0), ((HB.out.cell (yoy w _ hw102_1)).trans hw102_1)⟩ (fun hHeld => ?_)
   clear hK K
   refine ZQ (a' := ?_) ?_ ?_
   rotate_left
   next =>
    show Act.put _ (some 25) _ = _
    simp only [Act.put, yay, yby, ycy, zT, zU]
    rfl
   refine zg (i := 9) (N := some 26) (v := ?_) (a' := ?_) #[true, true, true, true, true, true, true, true, true, true] rfl rfl (zb HT_.out (by kernel_rfl)) (fun _ _ _ h => h) (Or.inl ⟨by rfl, ?_⟩) ?_ ?_
   rotate_left
   next =>
    intro w'
    go_simp
    with_reducible rfl
   rotate_left
   next =>
    simp only [Act.put, yay, yby, ycy, zT, zU]
    rfl
   refine Zo (ZS HT_.out (by kernel_rfl)) ?_
   try go_wp2
   go_roundg k1
   case measure => have := HK1.out; omega
   case rel => exact ⟨(wrap64 (x5_1 + 1)), (by first | rfl | (simp; done) | (simp [*]; done)), H', ⟨by have := HK1.out; omega⟩, ⟨by repeat (first | (with_reducible first | exact HB.out | apply zD | apply zB | apply zE) | exact HB.out)⟩⟩
def zt.l0 : Nat → List (List (zh)) → List (List (zh)) → Int → Option (Bool)
 | 0, _, _, _ => none
 | k + 1, x0, x1, x5 => if x5 < (x0.length : Int) then (if 0 ≤ x5 then (if x5 < (x1.length : Int) then ((zy.f k (zC x0 x5) (zC x1 x5)).bind fun t103 => (if t103 = true then (zt.l0 k x0 x1 (wrap64 (x5 + 1))) else (some false))) else (none)) else (none)) else (some true)
def zt.f (k : Nat) (l0 : List (List (zh))) (l1 : List (List (zh))) : Option (Bool) := if (l0.length : Int) = (l1.length : Int) then (zt.l0 k l0 l1 0) else (some false)
def zt.T6 : Bool × List (List Nat × List Nat) := (true, [([], []), ([], []), ([0, 1], [0, 1]), ([2], [2]), ([], []), ([], []), ([4, 5], [4, 5]), ([6], [6]), ([3, 7], [3, 7]), ([8], [8])])
def zt.B6 : List Nat := [0, 0, 3, 7, 0, 0, 48, 112, 255, 511]
theorem zt.tab6 : Jq .any (opsOf Try.f62 6) = zt.T6 := by kernel_rfl
theorem zt.zDb : QM zt.T6.2 zt.B6 = true := by kernel_rfl
set_option maxHeartbeats 8000000 in
set_option maxRecDepth 100000 in
theorem zt.calls (k : Nat) (A0 : Option Addr) (c0 : Nat) (l0 : List (List (zh))) (A1 : Option Addr) (c1 : Nat) (l1 : List (List (zh))) (r : Bool) (w : World) (hr0 : Kd.C (Kd.slice 74 qJ) w A0 l0.length l0) (hc0 : l0.length ≤ c0) (hr1 : Kd.C (Kd.slice 74 qJ) w A1 l1.length l1) (hc1 : l1.length ≤ c1) (h : zt.f k l0 l1 = some r) :
 Calls Try.prog 62 #[.slice A0 l0.length c0, .slice A1 l1.length c1] w fun e w' => e = .returned (.bool r) ∧ Below w.heap.size w w' := by
 have HR0 := zA.mk hr0
 have HC0 := zA.mk hc0
 clear hr0 hc0
 have HR1 := zA.mk hr1
 have HC1 := zA.mk hc1
 clear hr1 hc1
 have HB := zA.mk (yqy w.heap.size w)
 have H : (if (l0.length : Int) = (l1.length : Int) then (zt.l0 k l0 l1 0) else (some false)) = some r := h
 clear h
 by_cases c3 : (l0.length : Int) = (l1.length : Int)
 rotate_left
 next =>
  rw [if_neg c3] at H
  have c3b0 : ((l0.length : Int) == (l1.length : Int)) = false := beq_eq_false_iff_ne.mpr c3
  have c3b1 : ((l0.length : Int) != (l1.length : Int)) = true := bne_iff_ne.mpr c3
  have c3b2 : (l0.length == l1.length) = false := by first | simpa using c3 | (simp at c3 ⊢; omega)
  obtain rfl := yey H
  go_enter Try.func62, Try.ntmps62
  go_wp2
  go_ret
  exact ⟨by first | rfl | (simp [zX, zY] <;> rfl) | (simp [*, zX, zY] <;> rfl), by repeat (first | (with_reducible first | exact HB.out | apply zD | apply zB | apply zE) | exact HB.out)⟩
 rw [if_pos c3] at H
 have c3b0 : ((l0.length : Int) == (l1.length : Int)) = true := beq_iff_eq.mpr c3
 have c3b1 : ((l0.length : Int) != (l1.length : Int)) = false := bne_eq_false_iff_eq.mpr c3
 have c3b2 : (l0.length == l1.length) = true := by first | simpa using c3 | (simp at c3 ⊢; omega)
 clear c3
 have H' := zA.mk H
 clear H
 go_enter Try.func62, Try.ntmps62
 go_wp2
 go_loopg [5] k (fun kq v5 w' => ∃ (x5_1 : Int), v5 = .int .i64 x5_1 ∧ zA (zt.l0 kq l0 l1 x5_1 = some r) ∧ zA (kq ≤ k) ∧ zA (Below w.heap.size w w'))
 case atStart => exact ⟨(0), (by first | rfl | (simp; done) | (simp [*]; done)), H', ⟨ypy _⟩, ⟨by repeat (first | (with_reducible first | exact HB.out | apply zD | apply zB | apply zE) | exact HB.out)⟩⟩
 case round =>
  clear H'
  try clear c1
  try clear p2
  try clear c3
  try clear c3b0
  try clear c3b1
  try clear c3b2
  obtain ⟨x5_1, rfl, HA, HK1, HB⟩ := hrel
  cases gk with
  | zero => exact absurd HA.out (by simp [zt.l0])
  | succ k1 =>
   have H := HA.out
   clear HA
   simp only [zt.l0] at H
   by_cases c4 : x5_1 < (l0.length : Int)
   rotate_left
   next =>
    rw [if_neg c4] at H
    have c4b0 : decide (x5_1 < (l0.length : Int)) = false := yhy c4
    clear c4
    obtain rfl := yey H
    go_wp2
    go_ret
    exact ⟨by first | rfl | (simp [zX, zY] <;> rfl) | (simp [*, zX, zY] <;> rfl), by repeat (first | (with_reducible first | exact HB.out | apply zD | apply zB | apply zE) | exact HB.out)⟩
   rw [if_pos c4] at H
   have c4b0 : decide (x5_1 < (l0.length : Int)) = true := ygy c4
   clear c4
   by_cases c5 : 0 ≤ x5_1
   rotate_left
   next =>
    rw [if_neg c5] at H
    exact absurd H (by simp)
   rw [if_pos c5] at H
   have c5b0 : decide (0 ≤ x5_1) = true := ygy c5
   clear c5
   by_cases c6 : x5_1 < (l1.length : Int)
   rotate_left
   next =>
    rw [if_neg c6] at H
    exact absurd H (by simp)
   rw [if_pos c6] at H
   have c6b0 : decide (x5_1 < (l1.length : Int)) = true := ygy c6
   clear c6
   replace H := ydy.mp H
   obtain ⟨t103, A70, H⟩ := H
   replace H : (if t103 = true then (zt.l0 k1 l0 l1 (wrap64 (x5_1 + 1))) else (some false)) = some r := H
   have A7 := zA.mk A70
   clear A70
   by_cases c8 : t103 = true
   rotate_left
   next =>
    replace c8 := Bool.eq_false_iff.mpr c8
    subst c8
    have H1 : (some false) = some r := by rw [if_neg (show ¬ (false = true) by decide)] at H; exact H
    clear H
    have H := H1
    clear H1
    obtain rfl := yey H
    try go_wp2
    have n0_ := zA.mk (zE HB.out)
    clear HB
    have HB := n0_
    clear n0_
    have p101 : 0 ≤ (x5_1 : Int) := of_decide_eq_true (by first | (with_reducible assumption) | assumption)
    have q101 : x5_1 < (l0.length : Int) := of_decide_eq_true (by first | (with_reducible assumption) | assumption)
    obtain ⟨ad101, A101_0, c101_0, e101, hx101_0, hl101_0, hi101_0⟩ := qt HR0.out x5_1 p101 q101
    have hw101_0 := hx101_0
    cases e101
    replace hx101_0 := (HB.out.cell (yoy w _ hx101_0)).trans hx101_0
    have HR101_0 := zA.mk hi101_0
    have HC101_0 := zA.mk hl101_0
    clear hi101_0 hl101_0
    replace p101 := eq_true p101
    replace q101 := eq_true q101
    have p102 : 0 ≤ (x5_1 : Int) := of_decide_eq_true (by first | (with_reducible assumption) | assumption)
    have q102 : x5_1 < (l1.length : Int) := of_decide_eq_true (by first | (with_reducible assumption) | assumption)
    obtain ⟨ad102, A102_0, c102_0, e102, hx102_0, hl102_0, hi102_0⟩ := qt HR1.out x5_1 p102 q102
    have hw102_0 := hx102_0
    cases e102
    replace hx102_0 := (HB.out.cell (yoy w _ hx102_0)).trans hx102_0
    have HR102_0 := zA.mk hi102_0
    have HC102_0 := zA.mk hl102_0
    clear hi102_0 hl102_0
    replace p102 := eq_true p102
    replace q102 := eq_true q102
    refine ZN (n := 10) (S := fun w' => w'.cell? (ad101.add (x5_1).toNat) = some (.slice A101_0 (zC l0 x5_1).length c101_0) ∧ w'.cell? (ad102.add (x5_1).toNat) = some (.slice A102_0 (zC l1 x5_1).length c102_0)) (ds := []) #[false, false, false, false, false, false, false, false, false, false] (by kernel_rfl) rfl rfl ⟨((HB.out.cell (yoy w _ hw101_0)).trans hw101_0), ((HB.out.cell (yoy w _ hw102_0)).trans hw102_0)⟩ (fun hHeld => ?_); refine qx zt.tab6 zt.zDb (fun HT_ HW_ => ?_)
    generalize wr.drew = w11 at HB HR101_0 HR102_0 hx101_0 hx102_0 hHeld ⊢
    refine zg (i := 0) (N := some 17) (v := ?_) (a' := ?_) #[true, false, false, false, false, false, false, false, false, false] rfl rfl (zb HT_.out (by kernel_rfl)) (fun _ _ _ h => h) (Or.inl ⟨by rfl, ?_⟩) ?_ ?_
    rotate_left
    next =>
     intro w'
     go_simp
     with_reducible rfl
    rotate_left
    next =>
     simp only [Act.put, yay, yby, ycy, zT, zU]
     rfl
    refine zg (i := 1) (N := some 18) (v := ?_) (a' := ?_) #[true, true, false, false, false, false, false, false, false, false] rfl rfl (zb HT_.out (by kernel_rfl)) (fun _ _ _ h => h) (Or.inl ⟨by rfl, ?_⟩) ?_ ?_
    rotate_left
    next =>
     intro w'
     go_simp
     with_reducible rfl
    rotate_left
    next =>
     simp only [Act.put, yay, yby, ycy, zT, zU]
     rfl
    refine zg (i := 2) (N := some 19) (v := ?_) (a' := ?_) #[true, true, true, false, false, false, false, false, false, false] rfl rfl (zb HT_.out (by kernel_rfl)) (fun _ _ _ h => h) (Or.inl ⟨by rfl, ?_⟩) ?_ ?_
    rotate_left
    next =>
     intro w'
     go_simp
     with_reducible rfl
    rotate_left
    next =>
     simp only [Act.put, yay, yby, ycy, zT, zU]
     rfl
    refine zg (i := 4) (N := some 21) (v := ?_) (a' := ?_) #[true, true, true, false, true, false, false, false, false, false] rfl rfl (zb HT_.out (by kernel_rfl)) (fun _ _ _ h => h) (Or.inl ⟨by rfl, ?_⟩) ?_ ?_
    rotate_left
    next =>
     intro w'
     go_simp
     with_reducible rfl
    rotate_left
    next =>
     simp only [Act.put, yay, yby, ycy, zT, zU]
     rfl
    refine zg (i := 5) (N := some 22) (v := ?_) (a' := ?_) #[true, true, true, false, true, true, false, false, false, false] rfl rfl (zb HT_.out (by kernel_rfl)) (fun _ _ _ h => h) (Or.inl ⟨by rfl, ?_⟩) ?_ ?_
    rotate_left
    next =>
     intro w'
     go_simp
     with_reducible rfl
    rotate_left
    next =>
     simp only [Act.put, yay, yby, ycy, zT, zU]
     rfl
    refine zg (i := 6) (N := some 23) (v := ?_) (a' := ?_) #[true, true, true, false, true, true, true, false, false, false] rfl rfl (zb HT_.out (by kernel_rfl)) (fun _ _ _ h => h) (Or.inl ⟨by rfl, ?_⟩) ?_ ?_
    rotate_left
    next =>
     intro w'
     go_simp
     with_reducible rfl
    rotate_left
    next =>
     simp only [Act.put, yay, yby, ycy, zT, zU]
     rfl
    refine qQ (i := 3) (N := some 20) (v := ?_) (a' := ?_) #[true, true, true, true, true, true, true, false, false, false] rfl rfl (zn HT_.out HW_.out (by kernel_rfl)) (fun _ _ _ h => h) (Or.inl ⟨by rfl, ?_⟩) hHeld ?_ ?_
    rotate_left
    next =>
     rintro w' ⟨s0, s1⟩
     go_simp
     with_reducible rfl
    rotate_left
    next =>
     simp only [Act.put, yay, yby, ycy, zT, zU]
     rfl
    refine qQ (i := 7) (N := some 24) (v := ?_) (a' := ?_) #[true, true, true, true, true, true, true, true, false, false] rfl rfl (zn HT_.out HW_.out (by kernel_rfl)) (fun _ _ _ h => h) (Or.inl ⟨by rfl, ?_⟩) hHeld ?_ ?_
    rotate_left
    next =>
     rintro w' ⟨s0, s1⟩
     go_simp
     with_reducible rfl
    rotate_left
    next =>
     simp only [Act.put, yay, yby, ycy, zT, zU]
     rfl
    refine QH (i := 8) (N := some 25) #[true, true, true, true, true, true, true, true, true, false] rfl rfl (ZF HT_.out (by kernel_rfl)) (by decide) (fun K hK => ?_)
    refine Zv Try.func123 (by kernel_rfl) rfl #[.slice A101_0 (zC l0 x5_1).length c101_0, .slice A102_0 (zC l1 x5_1).length c102_0] (by rfl) rfl rfl (by (try simp only [yiy, yjy, yky]); first | done | rfl | (simp only [yly, ymy]; rfl)) ?_
    with_reducible refine (zy.calls k1 _ _ (zC l0 x5_1) _ _ (zC l1 x5_1) false _ ?side1 ?side2 ?side3 ?side4 A7.out).mono ?_
    (case side1 => repeat (first | exact (Kd.qA HR101_0.out HB.out) | (with_reducible refine Kd.qB ?_ _) | (with_reducible refine Kd.qC ?_ _) | (with_reducible refine Kd.qW ?_)))
    (case side2 => exact HC101_0.out)
    (case side3 => repeat (first | exact (Kd.qA HR102_0.out HB.out) | (with_reducible refine Kd.qB ?_ _) | (with_reducible refine Kd.qC ?_ _) | (with_reducible refine Kd.qW ?_)))
    (case side4 => exact HC102_0.out)
    rintro e w12 ⟨rfl, hb⟩
    refine ⟨_, rfl, ?_⟩
    have n0_ := zA.mk (zO (by repeat (first | (with_reducible first | exact HB.out | apply zD | apply zB | apply zE) | exact HB.out)) hb)
    clear HB
    have HB := n0_
    clear n0_
    (try clear hb)
    (try clear hb2)
    (try clear hk)
    (try clear hi)
    refine hK.out _ _ ⟨((HB.out.cell (yoy w _ hw101_0)).trans hw101_0), ((HB.out.cell (yoy w _ hw102_0)).trans hw102_0)⟩ (fun hHeld => ?_)
    clear hK K
    refine ZQ (a' := ?_) ?_ ?_
    rotate_left
    next =>
     show Act.put _ (some 25) _ = _
     simp only [Act.put, yay, yby, ycy, zT, zU]
     rfl
    refine zg (i := 9) (N := some 26) (v := ?_) (a' := ?_) #[true, true, true, true, true, true, true, true, true, true] rfl rfl (zb HT_.out (by kernel_rfl)) (fun _ _ _ h => h) (Or.inl ⟨by rfl, ?_⟩) ?_ ?_
    rotate_left
    next =>
     intro w'
     go_simp
     with_reducible rfl
    rotate_left
    next =>
     simp only [Act.put, yay, yby, ycy, zT, zU]
     rfl
    refine Zo (ZS HT_.out (by kernel_rfl)) ?_
    try go_wp2
    go_ret
    exact ⟨by first | rfl | (simp [zX, zY] <;> rfl) | (simp [*, zX, zY] <;> rfl), by repeat (first | (with_reducible first | exact HB.out | apply zD | apply zB | apply zE) | exact HB.out)⟩
   subst c8
   have H1 : (zt.l0 k1 l0 l1 (wrap64 (x5_1 + 1))) = some r := by rw [if_pos rfl] at H; exact H
   clear H
   have H := H1
   clear H1
   have H' := zA.mk H
   clear H
   try go_wp2
   have n0_ := zA.mk (zE HB.out)
   clear HB
   have HB := n0_
   clear n0_
   have p101 : 0 ≤ (x5_1 : Int) := of_decide_eq_true (by first | (with_reducible assumption) | assumption)
   have q101 : x5_1 < (l0.length : Int) := of_decide_eq_true (by first | (with_reducible assumption) | assumption)
   obtain ⟨ad101, A101_0, c101_0, e101, hx101_0, hl101_0, hi101_0⟩ := qt HR0.out x5_1 p101 q101
   have hw101_0 := hx101_0
   cases e101
   replace hx101_0 := (HB.out.cell (yoy w _ hx101_0)).trans hx101_0
   have HR101_0 := zA.mk hi101_0
   have HC101_0 := zA.mk hl101_0
   clear hi101_0 hl101_0
   replace p101 := eq_true p101
   replace q101 := eq_true q101
   have p102 : 0 ≤ (x5_1 : Int) := of_decide_eq_true (by first | (with_reducible assumption) | assumption)
   have q102 : x5_1 < (l1.length : Int) := of_decide_eq_true (by first | (with_reducible assumption) | assumption)
   obtain ⟨ad102, A102_0, c102_0, e102, hx102_0, hl102_0, hi102_0⟩ := qt HR1.out x5_1 p102 q102
   have hw102_0 := hx102_0
   cases e102
   replace hx102_0 := (HB.out.cell (yoy w _ hx102_0)).trans hx102_0
   have HR102_0 := zA.mk hi102_0
   have HC102_0 := zA.mk hl102_0
   clear hi102_0 hl102_0
   replace p102 := eq_true p102
   replace q102 := eq_true q102
   refine ZN (n := 10) (S := fun w' => w'.cell? (ad101.add (x5_1).toNat) = some (.slice A101_0 (zC l0 x5_1).length c101_0) ∧ w'.cell? (ad102.add (x5_1).toNat) = some (.slice A102_0 (zC l1 x5_1).length c102_0)) (ds := []) #[false, false, false, false, false, false, false, false, false, false] (by kernel_rfl) rfl rfl ⟨((HB.out.cell (yoy w _ hw101_0)).trans hw101_0), ((HB.out.cell (yoy w _ hw102_0)).trans hw102_0)⟩ (fun hHeld => ?_); refine qx zt.tab6 zt.zDb (fun HT_ HW_ => ?_)
   generalize wr.drew = w9 at HB HR101_0 HR102_0 hx101_0 hx102_0 hHeld ⊢
   refine zg (i := 0) (N := some 17) (v := ?_) (a' := ?_) #[true, false, false, false, false, false, false, false, false, false] rfl rfl (zb HT_.out (by kernel_rfl)) (fun _ _ _ h => h) (Or.inl ⟨by rfl, ?_⟩) ?_ ?_
   rotate_left
   next =>
    intro w'
    go_simp
    with_reducible rfl
   rotate_left
   next =>
    simp only [Act.put, yay, yby, ycy, zT, zU]
    rfl
   refine zg (i := 1) (N := some 18) (v := ?_) (a' := ?_) #[true, true, false, false, false, false, false, false, false, false] rfl rfl (zb HT_.out (by kernel_rfl)) (fun _ _ _ h => h) (Or.inl ⟨by rfl, ?_⟩) ?_ ?_
   rotate_left
   next =>
    intro w'
    go_simp
    with_reducible rfl
   rotate_left
   next =>
    simp only [Act.put, yay, yby, ycy, zT, zU]
    rfl
   refine zg (i := 2) (N := some 19) (v := ?_) (a' := ?_) #[true, true, true, false, false, false, false, false, false, false] rfl rfl (zb HT_.out (by kernel_rfl)) (fun _ _ _ h => h) (Or.inl ⟨by rfl, ?_⟩) ?_ ?_
   rotate_left
   next =>
    intro w'
    go_simp
    with_reducible rfl
   rotate_left
   next =>
    simp only [Act.put, yay, yby, ycy, zT, zU]
    rfl
   refine zg (i := 4) (N := some 21) (v := ?_) (a' := ?_) #[true, true, true, false, true, false, false, false, false, false] rfl rfl (zb HT_.out (by kernel_rfl)) (fun _ _ _ h => h) (Or.inl ⟨by rfl, ?_⟩) ?_ ?_
   rotate_left
   next =>
    intro w'
    go_simp
    with_reducible rfl
   rotate_left
   next =>
    simp only [Act.put, yay, yby, ycy, zT, zU]
    rfl
   refine zg (i := 5) (N := some 22) (v := ?_) (a' := ?_) #[true, true, true, false, true, true, false, false, false, false] rfl rfl (zb HT_.out (by kernel_rfl)) (fun _ _ _ h => h) (Or.inl ⟨by rfl, ?_⟩) ?_ ?_
   rotate_left
   next =>
    intro w'
    go_simp
    with_reducible rfl
   rotate_left
   next =>
    simp only [Act.put, yay, yby, ycy, zT, zU]
    rfl
   refine zg (i := 6) (N := some 23) (v := ?_) (a' := ?_) #[true, true, true, false, true, true, true, false, false, false] rfl rfl (zb HT_.out (by kernel_rfl)) (fun _ _ _ h => h) (Or.inl ⟨by rfl, ?_⟩) ?_ ?_
   rotate_left
   next =>
    intro w'
    go_simp
    with_reducible rfl
   rotate_left
   next =>
    simp only [Act.put, yay, yby, ycy, zT, zU]
    rfl
   refine qQ (i := 3) (N := some 20) (v := ?_) (a' := ?_) #[true, true, true, true, true, true, true, false, false, false] rfl rfl (zn HT_.out HW_.out (by kernel_rfl)) (fun _ _ _ h => h) (Or.inl ⟨by rfl, ?_⟩) hHeld ?_ ?_
   rotate_left
   next =>
    rintro w' ⟨s0, s1⟩
    go_simp
    with_reducible rfl
   rotate_left
   next =>
    simp only [Act.put, yay, yby, ycy, zT, zU]
    rfl
   refine qQ (i := 7) (N := some 24) (v := ?_) (a' := ?_) #[true, true, true, true, true, true, true, true, false, false] rfl rfl (zn HT_.out HW_.out (by kernel_rfl)) (fun _ _ _ h => h) (Or.inl ⟨by rfl, ?_⟩) hHeld ?_ ?_
   rotate_left
   next =>
    rintro w' ⟨s0, s1⟩
    go_simp
    with_reducible rfl
   rotate_left
   next =>
    simp only [Act.put, yay, yby, ycy, zT, zU]
    rfl
   refine QH (i := 8) (N := some 25) #[true, true, true, true, true, true, true, true, true, false] rfl rfl (ZF HT_.out (by kernel_rfl)) (by decide) (fun K hK => ?_)
   refine Zv Try.func123 (by kernel_rfl) rfl #[.slice A101_0 (zC l0 x5_1).length c101_0, .slice A102_0 (zC l1 x5_1).length c102_0] (by rfl) rfl rfl (by (try simp only [yiy, yjy, yky]); first | done | rfl | (simp only [yly, ymy]; rfl)) ?_
   with_reducible refine (zy.calls k1 _ _ (zC l0 x5_1) _ _ (zC l1 x5_1) true _ ?side1 ?side2 ?side3 ?side4 A7.out).mono ?_
   (case side1 => repeat (first | exact (Kd.qA HR101_0.out HB.out) | (with_reducible refine Kd.qB ?_ _) | (with_reducible refine Kd.qC ?_ _) | (with_reducible refine Kd.qW ?_)))
   (case side2 => exact HC101_0.out)
   (case side3 => repeat (first | exact (Kd.qA HR102_0.out HB.out) | (with_reducible refine Kd.qB ?_ _) | (with_reducible refine Kd.qC ?_ _) | (with_reducible refine Kd.qW ?_)))
   (case side4 => exact HC102_0.out)
   rintro e w10 ⟨rfl, hb⟩
   refine ⟨_, rfl, ?_⟩
   have n0_ := zA.mk (zO (by repeat (first | (with_reducible first | exact HB.out | apply zD | apply zB | apply zE) | exact HB.out)) hb)
   clear HB
   have HB := n0_
   clear n0_
   (try clear hb)
   (try clear hb2)
   (try clear hk)
   (try clear hi)
   refine hK.out _ _ ⟨((HB.out.cell (yoy w _ hw101_0)).trans hw101_0), ((HB.out.cell (yoy w _ hw102_0)).trans hw102_0)⟩ (fun hHeld => ?_)
   clear hK K
   refine ZQ (a' := ?_) ?_ ?_
   rotate_left
   next =>
    show Act.put _ (some 25) _ = _
    simp only [Act.put, yay, yby, ycy, zT, zU]
    rfl
   refine zg (i := 9) (N := some 26) (v := ?_) (a' := ?_) #[true, true, true, true, true, true, true, true, true, true] rfl rfl (zb HT_.out (by kernel_rfl)) (fun _ _ _ h => h) (Or.inl ⟨by rfl, ?_⟩) ?_ ?_
   rotate_left
   next =>
    intro w'
    go_simp
    with_reducible rfl
   rotate_left
   next =>
    simp only [Act.put, yay, yby, ycy, zT, zU]
    rfl
   refine Zo (ZS HT_.out (by kernel_rfl)) ?_
   try go_wp2
   go_roundg k1
   case measure => have := HK1.out; omega
   case rel => exact ⟨(wrap64 (x5_1 + 1)), (by first | rfl | (simp; done) | (simp [*]; done)), H', ⟨by have := HK1.out; omega⟩, ⟨by repeat (first | (with_reducible first | exact HB.out | apply zD | apply zB | apply zE) | exact HB.out)⟩⟩
def qU.f (k : Nat) (l0_0 : List (List (zh))) (l1_0 : List (List (zh))) : Option (Bool) := (zt.f k l0_0 l1_0).bind fun t103 => (if t103 = true then (some true) else (some false))
set_option maxHeartbeats 8000000 in
set_option maxRecDepth 100000 in
theorem qU.calls (k : Nat) (A0_0 : Option Addr) (c0_0 : Nat) (l0_0 : List (List (zh))) (A1_0 : Option Addr) (c1_0 : Nat) (l1_0 : List (List (zh))) (r : Bool) (w : World) (hr0_0 : Kd.C (Kd.slice 74 qJ) w A0_0 l0_0.length l0_0) (hc0_0 : l0_0.length ≤ c0_0) (hr1_0 : Kd.C (Kd.slice 74 qJ) w A1_0 l1_0.length l1_0) (hc1_0 : l1_0.length ≤ c1_0) (h : qU.f k l0_0 l1_0 = some r) :
    Calls Try.prog 19 #[.agg #[.slice A0_0 l0_0.length c0_0], .agg #[.slice A1_0 l1_0.length c1_0]] w fun e w' => e = .returned (.bool r) ∧ Below w.heap.size w w' := by
  have hu28 := Try.underlying28
  have HR0_0 := zA.mk hr0_0
  have HC0_0 := zA.mk hc0_0
  clear hr0_0 hc0_0
  have HR1_0 := zA.mk hr1_0
  have HC1_0 := zA.mk hc1_0
  clear hr1_0 hc1_0
  have HB := zA.mk (yqy w.heap.size w)
  have H : ((zt.f k l0_0 l1_0).bind fun t103 => (if t103 = true then (some true) else (some false))) = some r := h
  clear h
  replace H := ydy.mp H
  obtain ⟨t103, A30, H⟩ := H
  replace H : (if t103 = true then (some true) else (some false)) = some r := H
  have A3 := zA.mk A30
  clear A30
  by_cases c4 : t103 = true
  · subst c4
    have H1 : (some true) = some r := by rw [if_pos rfl] at H; exact H
    clear H
    have H := H1
    clear H1
    obtain rfl := yey H
    go_enter Try.func19, Try.ntmps19
    go_wp2_with (first | ((with_reducible refine zm (N := 2) rfl ?_); refine zp ?hg (N := 2) ?hd (cs := #[.slice A0_0 l0_0.length c0_0]) (t := 28) ?hr ?_; (case hd => rfl); (case hg => rfl); (case hr => first | (go_simp; done) | (go_simp; rfl)); intro gb101 hg w5 hbox hb; have n0_ := zA.mk (zO (by repeat (first | (with_reducible first | exact HB.out | apply zD | apply zB | apply zE) | exact HB.out)) hb); have n1_ := zA.mk (hbox); have n2_ := zA.mk ((by rw [hg]; exact (zP (by repeat (first | (with_reducible first | exact HB.out | apply zD | apply zB | apply zE) | exact HB.out))) : w.heap.size ≤ gb101)); have n3_ := zA.mk ((by rw [hg]; exact (zP (by repeat (first | (with_reducible first | exact HB.out | apply zD | apply zB | apply zE) | exact HB.out))) : w.heap.size ≤ gb101)); clear HB; have HB := n0_; have BK101 := n1_; have GW101 := n2_; have GE101 := n3_; clear n0_ n1_ n2_ n3_; clear hb hbox hg) | ((with_reducible refine zm (N := 3) rfl ?_); refine zp ?hg (N := 3) ?hd (cs := #[.slice A1_0 l1_0.length c1_0]) (t := 28) ?hr ?_; (case hd => rfl); (case hg => rfl); (case hr => first | (go_simp; done) | (go_simp; rfl)); intro gb102 hg w6 hbox hb; have n0_ := zA.mk (zN (g := gb101) (o := .cells #[.slice A0_0 l0_0.length c0_0] 28 (0, 0)) (by (with_reducible repeat (first | refine zI ?_ _ | refine zK ?_ | refine zH ?_ _)); exact BK101.out) hb); have n1_ := zA.mk (zO (by repeat (first | (with_reducible first | exact HB.out | apply zD | apply zB | apply zE | refine zG ?_ GE101.out) | exact HB.out)) hb); have n2_ := zA.mk (hbox); have n3_ := zA.mk ((by rw [hg]; exact (zP (by repeat (first | (with_reducible first | exact HB.out | apply zD | apply zB | apply zE | refine zG ?_ GE101.out) | exact HB.out))) : w.heap.size ≤ gb102)); have n4_ := zA.mk ((by rw [hg]; exact (zP (by repeat (first | (with_reducible first | exact HB.out | apply zD | apply zB | apply zE | refine zG ?_ GE101.out) | exact HB.out))) : w.heap.size ≤ gb102)); have n5_ := zA.mk ((by rw [hg]; exact Nat.ne_of_lt (qE (g := gb101) (o := .cells #[.slice A0_0 l0_0.length c0_0] 28 (0, 0)) (by (with_reducible repeat (first | refine zI ?_ _ | refine zK ?_ | refine zH ?_ _)); exact BK101.out)) : gb101 ≠ gb102)); have n6_ := zA.mk ((by rw [hg]; exact Nat.ne_of_gt (qE (g := gb101) (o := .cells #[.slice A0_0 l0_0.length c0_0] 28 (0, 0)) (by (with_reducible repeat (first | refine zI ?_ _ | refine zK ?_ | refine zH ?_ _)); exact BK101.out)) : gb102 ≠ gb101)); clear BK101; clear HB; have BK101 := n0_; have HB := n1_; have BK102 := n2_; have GW102 := n3_; have GE102 := n4_; have NB101_102 := n5_; have NB102_101 := n6_; clear n0_ n1_ n2_ n3_ n4_ n5_ n6_; clear hb hbox hg; have hnb7 := NB101_102.out; have hnc7 := NB102_101.out; have hcz8_0 : w6.cell? ⟨gb101, 0, none⟩ = some (.slice A0_0 l0_0.length c0_0) := (zJ BK101.out 0).trans rfl; have hfz8_0 := zL BK101.out 0; have hcz9_0 : w6.cell? ⟨gb102, 0, none⟩ = some (.slice A1_0 l1_0.length c1_0) := (zJ BK102.out 0).trans rfl; have hfz9_0 := zL BK102.out 0) | ((with_reducible refine ze (f := 62) rfl ?_); refine qP (some 9) rfl rfl Try.func62 (by kernel_rfl) rfl #[.slice A0_0 l0_0.length c0_0, .slice A1_0 l1_0.length c1_0] rfl (by (try simp only [yiy, yjy, yky]); first | done | rfl | (simp only [yly, ymy]; rfl)) ?_; (with_reducible refine (zt.calls k _ _ l0_0 _ _ l1_0 true _ ?side1 ?side2 ?side3 ?side4 A3.out).mono ?_); (case side1 => repeat (first | exact (Kd.qA HR0_0.out HB.out) | (with_reducible refine Kd.qB ?_ _) | (with_reducible refine Kd.qC ?_ _) | (with_reducible refine Kd.qW ?_))); (case side2 => exact HC0_0.out); (case side3 => repeat (first | exact (Kd.qA HR1_0.out HB.out) | (with_reducible refine Kd.qB ?_ _) | (with_reducible refine Kd.qC ?_ _) | (with_reducible refine Kd.qW ?_))); (case side4 => exact HC1_0.out); rintro e w10 ⟨rfl, hb⟩; refine ⟨_, rfl, ?_⟩; have n0_ := zA.mk (zN (g := gb101) (o := .cells #[.slice A0_0 l0_0.length c0_0] 28 (0, 0)) (by (with_reducible repeat (first | refine zI ?_ _ | refine zK ?_ | refine zH ?_ _)); exact BK101.out) hb); have n1_ := zA.mk (zN (g := gb102) (o := .cells #[.slice A1_0 l1_0.length c1_0] 28 (0, 0)) (by (with_reducible repeat (first | refine zI ?_ _ | refine zK ?_ | refine zH ?_ _)); exact BK102.out) hb); have n2_ := zA.mk (zO (by repeat (first | (with_reducible first | exact HB.out | apply zD | apply zB | apply zE | refine zG ?_ GE101.out | refine zG ?_ GE102.out) | exact HB.out)) hb); clear BK101; clear BK102; clear HB; have BK101 := n0_; have BK102 := n1_; have HB := n2_; clear n0_ n1_ n2_; (try clear hb); (try clear hb2); (try clear hk); (try clear hi)))
    go_ret
    exact ⟨by first | rfl | (simp [zX, zY] <;> rfl) | (simp [*, zX, zY] <;> rfl), by repeat (first | (with_reducible first | exact HB.out | apply zD | apply zB | apply zE | refine zG ?_ GE101.out | refine zG ?_ GE102.out) | exact HB.out)⟩
  · replace c4 := Bool.eq_false_iff.mpr c4
    subst c4
    have H1 : (some false) = some r := by rw [if_neg (show ¬ (false = true) by decide)] at H; exact H
    clear H
    have H := H1
    clear H1
    obtain rfl := yey H
    go_enter Try.func19, Try.ntmps19
    go_wp2_with (first | ((with_reducible refine zm (N := 2) rfl ?_); refine zp ?hg (N := 2) ?hd (cs := #[.slice A0_0 l0_0.length c0_0]) (t := 28) ?hr ?_; (case hd => rfl); (case hg => rfl); (case hr => first | (go_simp; done) | (go_simp; rfl)); intro gb101 hg w11 hbox hb; have n0_ := zA.mk (zO (by repeat (first | (with_reducible first | exact HB.out | apply zD | apply zB | apply zE) | exact HB.out)) hb); have n1_ := zA.mk (hbox); have n2_ := zA.mk ((by rw [hg]; exact (zP (by repeat (first | (with_reducible first | exact HB.out | apply zD | apply zB | apply zE) | exact HB.out))) : w.heap.size ≤ gb101)); have n3_ := zA.mk ((by rw [hg]; exact (zP (by repeat (first | (with_reducible first | exact HB.out | apply zD | apply zB | apply zE) | exact HB.out))) : w.heap.size ≤ gb101)); clear HB; have HB := n0_; have BK101 := n1_; have GW101 := n2_; have GE101 := n3_; clear n0_ n1_ n2_ n3_; clear hb hbox hg) | ((with_reducible refine zm (N := 3) rfl ?_); refine zp ?hg (N := 3) ?hd (cs := #[.slice A1_0 l1_0.length c1_0]) (t := 28) ?hr ?_; (case hd => rfl); (case hg => rfl); (case hr => first | (go_simp; done) | (go_simp; rfl)); intro gb102 hg w12 hbox hb; have n0_ := zA.mk (zN (g := gb101) (o := .cells #[.slice A0_0 l0_0.length c0_0] 28 (0, 0)) (by (with_reducible repeat (first | refine zI ?_ _ | refine zK ?_ | refine zH ?_ _)); exact BK101.out) hb); have n1_ := zA.mk (zO (by repeat (first | (with_reducible first | exact HB.out | apply zD | apply zB | apply zE | refine zG ?_ GE101.out) | exact HB.out)) hb); have n2_ := zA.mk (hbox); have n3_ := zA.mk ((by rw [hg]; exact (zP (by repeat (first | (with_reducible first | exact HB.out | apply zD | apply zB | apply zE | refine zG ?_ GE101.out) | exact HB.out))) : w.heap.size ≤ gb102)); have n4_ := zA.mk ((by rw [hg]; exact (zP (by repeat (first | (with_reducible first | exact HB.out | apply zD | apply zB | apply zE | refine zG ?_ GE101.out) | exact HB.out))) : w.heap.size ≤ gb102)); have n5_ := zA.mk ((by rw [hg]; exact Nat.ne_of_lt (qE (g := gb101) (o := .cells #[.slice A0_0 l0_0.length c0_0] 28 (0, 0)) (by (with_reducible repeat (first | refine zI ?_ _ | refine zK ?_ | refine zH ?_ _)); exact BK101.out)) : gb101 ≠ gb102)); have n6_ := zA.mk ((by rw [hg]; exact Nat.ne_of_gt (qE (g := gb101) (o := .cells #[.slice A0_0 l0_0.length c0_0] 28 (0, 0)) (by (with_reducible repeat (first | refine zI ?_ _ | refine zK ?_ | refine zH ?_ _)); exact BK101.out)) : gb102 ≠ gb101)); clear BK101; clear HB; have BK101 := n0_; have HB := n1_; have BK102 := n2_; have GW102 := n3_; have GE102 := n4_; have NB101_102 := n5_; have NB102_101 := n6_; clear n0_ n1_ n2_ n3_ n4_ n5_ n6_; clear hb hbox hg; have hnb13 := NB101_102.out; have hnc13 := NB102_101.out; have hcz14_0 : w12.cell? ⟨gb101, 0, none⟩ = some (.slice A0_0 l0_0.length c0_0) := (zJ BK101.out 0).trans rfl; have hfz14_0 := zL BK101.out 0; have hcz15_0 : w12.cell? ⟨gb102, 0, none⟩ = some (.slice A1_0 l1_0.length c1_0) := (zJ BK102.out 0).trans rfl; have hfz15_0 := zL BK102.out 0) | ((with_reducible refine ze (f := 62) rfl ?_); refine qP (some 9) rfl rfl Try.func62 (by kernel_rfl) rfl #[.slice A0_0 l0_0.length c0_0, .slice A1_0 l1_0.length c1_0] rfl (by (try simp only [yiy, yjy, yky]); first | done | rfl | (simp only [yly, ymy]; rfl)) ?_; (with_reducible refine (zt.calls k _ _ l0_0 _ _ l1_0 false _ ?side1 ?side2 ?side3 ?side4 A3.out).mono ?_); (case side1 => repeat (first | exact (Kd.qA HR0_0.out HB.out) | (with_reducible refine Kd.qB ?_ _) | (with_reducible refine Kd.qC ?_ _) | (with_reducible refine Kd.qW ?_))); (case side2 => exact HC0_0.out); (case side3 => repeat (first | exact (Kd.qA HR1_0.out HB.out) | (with_reducible refine Kd.qB ?_ _) | (with_reducible refine Kd.qC ?_ _) | (with_reducible refine Kd.qW ?_))); (case side4 => exact HC1_0.out); rintro e w16 ⟨rfl, hb⟩; refine ⟨_, rfl, ?_⟩; have n0_ := zA.mk (zN (g := gb101) (o := .cells #[.slice A0_0 l0_0.length c0_0] 28 (0, 0)) (by (with_reducible repeat (first | refine zI ?_ _ | refine zK ?_ | refine zH ?_ _)); exact BK101.out) hb); have n1_ := zA.mk (zN (g := gb102) (o := .cells #[.slice A1_0 l1_0.length c1_0] 28 (0, 0)) (by (with_reducible repeat (first | refine zI ?_ _ | refine zK ?_ | refine zH ?_ _)); exact BK102.out) hb); have n2_ := zA.mk (zO (by repeat (first | (with_reducible first | exact HB.out | apply zD | apply zB | apply zE | refine zG ?_ GE101.out | refine zG ?_ GE102.out) | exact HB.out)) hb); clear BK101; clear BK102; clear HB; have BK101 := n0_; have BK102 := n1_; have HB := n2_; clear n0_ n1_ n2_; (try clear hb); (try clear hb2); (try clear hk); (try clear hi)))
    go_ret
    exact ⟨by first | rfl | (simp [zX, zY] <;> rfl) | (simp [*, zX, zY] <;> rfl), by repeat (first | (with_reducible first | exact HB.out | apply zD | apply zB | apply zE | refine zG ?_ GE101.out | refine zG ?_ GE102.out) | exact HB.out)⟩
def qX.l0 : Nat → List (zh) → Int → Int → Option (Int)
  | 0, _, _, _ => none
  | k + 1, x0, x1, x5 => if x5 < (x0.length : Int) then (if 0 ≤ x5 then (if ((zF x0 x5).f0) = x1 then (if ((zF x0 x5).f1) = (wrap64 (x1 + 1)) then (qX.l0 k x0 (wrap64 ((wrap64 (x1 + 1)) + 1)) (wrap64 (x5 + 1))) else (some (-1))) else (some (-1))) else (none)) else (some x1)
def qX.f (k : Nat) (l0 : List (zh)) (a1 : Int) : Option (Int) := qX.l0 k l0 a1 0
set_option maxHeartbeats 8000000 in
set_option maxRecDepth 100000 in
theorem qX.calls (k : Nat) (A0 : Option Addr) (c0 : Nat) (l0 : List (zh)) (a1 : Int) (r : Int) (w : World) (hr0 : Kd.C qJ w A0 l0.length l0) (hc0 : l0.length ≤ c0) (h : qX.f k l0 a1 = some r) :
    Calls Try.prog 125 #[.slice A0 l0.length c0, .int .i64 a1] w fun e w' => e = .returned (.int .i64 r) ∧ zz w w' := by
  have HR0 := zA.mk hr0
  have HC0 := zA.mk hc0
  clear hr0 hc0
  have H : (qX.l0 k l0 a1 0) = some r := h
  clear h
  have H' := zA.mk H
  clear H
  go_enter Try.func125, Try.ntmps125
  go_wp2
  go_loopg [1, 5] k (fun kq v1 v5 w' => ∃ (x1_1 : Int) (x5_1 : Int), v1 = .int .i64 x1_1 ∧ v5 = .int .i64 x5_1 ∧ zA (qX.l0 kq l0 x1_1 x5_1 = some r) ∧ zA (kq ≤ k) ∧ zz w w')
  case atStart => exact ⟨(a1), (0), (by first | rfl | (simp; done) | (simp [*]; done)), (by first | rfl | (simp; done) | (simp [*]; done)), H', ⟨ypy _⟩, by repeat (first | exact zz.refl _ | apply zz.step)⟩
  case round =>
    clear H'
    try clear c1
    try clear p2
    obtain ⟨x1_1, x5_1, rfl, rfl, HA, HK1, ⟨m1, rfl⟩⟩ := hrel
    cases gk with
    | zero => exact absurd HA.out (by simp [qX.l0])
    | succ k1 =>
      have H := HA.out
      clear HA
      simp only [qX.l0] at H
      by_cases c3 : x5_1 < (l0.length : Int)
      · rw [if_pos c3] at H
        have c3b0 : decide (x5_1 < (l0.length : Int)) = true := ygy c3
        clear c3
        by_cases c4 : 0 ≤ x5_1
        · rw [if_pos c4] at H
          have c4b0 : decide (0 ≤ x5_1) = true := ygy c4
          clear c4
          by_cases c5 : ((zF l0 x5_1).f0) = x1_1
          · rw [if_pos c5] at H
            have c5b0 : (((zF l0 x5_1).f0) == x1_1) = true := beq_iff_eq.mpr c5
            have c5b1 : (((zF l0 x5_1).f0) != x1_1) = false := bne_eq_false_iff_eq.mpr c5
            clear c5
            by_cases c6 : ((zF l0 x5_1).f1) = (wrap64 (x1_1 + 1))
            · rw [if_pos c6] at H
              have c6b0 : (((zF l0 x5_1).f1) == (wrap64 (x1_1 + 1))) = true := beq_iff_eq.mpr c6
              have c6b1 : (((zF l0 x5_1).f1) != (wrap64 (x1_1 + 1))) = false := bne_eq_false_iff_eq.mpr c6
              clear c6
              have H' := zA.mk H
              clear H
              have p101 : 0 ≤ (x5_1 : Int) := of_decide_eq_true (by first | (with_reducible assumption) | assumption)
              have q101 : x5_1 < (l0.length : Int) := of_decide_eq_true (by first | (with_reducible assumption) | assumption)
              obtain ⟨ad101, e101, hx101_0, hx101_1⟩ := ZM HR0.out x5_1 p101 q101
              cases e101
              replace p101 := eq_true p101
              replace q101 := eq_true q101
              have p102 : 0 ≤ (x5_1 : Int) := of_decide_eq_true (by first | (with_reducible assumption) | assumption)
              have q102 : x5_1 < (l0.length : Int) := of_decide_eq_true (by first | (with_reducible assumption) | assumption)
              obtain ⟨ad102, e102, hx102_0, hx102_1⟩ := ZM HR0.out x5_1 p102 q102
              obtain rfl : ad101 = ad102 := (by injection e102)
              replace p102 := eq_true p102
              replace q102 := eq_true q102
              go_wp2
              go_roundg k1
              case measure => have := HK1.out; omega
              case rel => exact ⟨(wrap64 ((wrap64 (x1_1 + 1)) + 1)), (wrap64 (x5_1 + 1)), (by first | rfl | (simp; done) | (simp [*]; done)), (by first | rfl | (simp; done) | (simp [*]; done)), H', ⟨by have := HK1.out; omega⟩, by repeat (first | exact zz.refl _ | apply zz.step)⟩
            · rw [if_neg c6] at H
              have c6b0 : (((zF l0 x5_1).f1) == (wrap64 (x1_1 + 1))) = false := beq_eq_false_iff_ne.mpr c6
              have c6b1 : (((zF l0 x5_1).f1) != (wrap64 (x1_1 + 1))) = true := bne_iff_ne.mpr c6
              obtain rfl := yey H
              have p101 : 0 ≤ (x5_1 : Int) := of_decide_eq_true (by first | (with_reducible assumption) | assumption)
              have q101 : x5_1 < (l0.length : Int) := of_decide_eq_true (by first | (with_reducible assumption) | assumption)
              obtain ⟨ad101, e101, hx101_0, hx101_1⟩ := ZM HR0.out x5_1 p101 q101
              cases e101
              replace p101 := eq_true p101
              replace q101 := eq_true q101
              have p102 : 0 ≤ (x5_1 : Int) := of_decide_eq_true (by first | (with_reducible assumption) | assumption)
              have q102 : x5_1 < (l0.length : Int) := of_decide_eq_true (by first | (with_reducible assumption) | assumption)
              obtain ⟨ad102, e102, hx102_0, hx102_1⟩ := ZM HR0.out x5_1 p102 q102
              obtain rfl : ad101 = ad102 := (by injection e102)
              replace p102 := eq_true p102
              replace q102 := eq_true q102
              go_wp2
              go_ret
              exact ⟨by first | rfl | (simp; done) | (simp [*]; done), by repeat (first | exact zz.refl _ | apply zz.step)⟩
          · rw [if_neg c5] at H
            have c5b0 : (((zF l0 x5_1).f0) == x1_1) = false := beq_eq_false_iff_ne.mpr c5
            have c5b1 : (((zF l0 x5_1).f0) != x1_1) = true := bne_iff_ne.mpr c5
            obtain rfl := yey H
            have p101 : 0 ≤ (x5_1 : Int) := of_decide_eq_true (by first | (with_reducible assumption) | assumption)
            have q101 : x5_1 < (l0.length : Int) := of_decide_eq_true (by first | (with_reducible assumption) | assumption)
            obtain ⟨ad101, e101, hx101_0, hx101_1⟩ := ZM HR0.out x5_1 p101 q101
            cases e101
            replace p101 := eq_true p101
            replace q101 := eq_true q101
            go_wp2
            go_ret
            exact ⟨by first | rfl | (simp; done) | (simp [*]; done), by repeat (first | exact zz.refl _ | apply zz.step)⟩
        · rw [if_neg c4] at H
          exact absurd H (by simp)
      · rw [if_neg c3] at H
        have c3b0 : decide (x5_1 < (l0.length : Int)) = false := yhy c3
        clear c3
        obtain rfl := yey H
        go_wp2
        go_ret
        exact ⟨by first | rfl | (simp; done) | (simp [*]; done), by repeat (first | exact zz.refl _ | apply zz.step)⟩
def qL.l0 : Nat → List (List (zh)) → Int → Int → Option (Int)
  | 0, _, _, _ => none
  | k + 1, x0, x1, x5 => if x5 < (x0.length : Int) then (if 0 ≤ x5 then ((qX.f k (zC x0 x5) x1).bind fun t102 => (if t102 < 0 then (some (-1)) else (qL.l0 k x0 t102 (wrap64 (x5 + 1))))) else (none)) else (some x1)
def qL.f (k : Nat) (l0 : List (List (zh))) (a1 : Int) : Option (Int) := qL.l0 k l0 a1 0
set_option maxHeartbeats 8000000 in
set_option maxRecDepth 100000 in
theorem qL.calls (k : Nat) (A0 : Option Addr) (c0 : Nat) (l0 : List (List (zh))) (a1 : Int) (r : Int) (w : World) (hr0 : Kd.C (Kd.slice 74 qJ) w A0 l0.length l0) (hc0 : l0.length ≤ c0) (h : qL.f k l0 a1 = some r) :
    Calls Try.prog 64 #[.slice A0 l0.length c0, .int .i64 a1] w fun e w' => e = .returned (.int .i64 r) ∧ zz w w' := by
  have HR0 := zA.mk hr0
  have HC0 := zA.mk hc0
  clear hr0 hc0
  have H : (qL.l0 k l0 a1 0) = some r := h
  clear h
  have H' := zA.mk H
  clear H
  go_enter Try.func64, Try.ntmps64
  go_wp2
  go_loopg [1, 5] k (fun kq v1 v5 w' => ∃ (x1_1 : Int) (x5_1 : Int), v1 = .int .i64 x1_1 ∧ v5 = .int .i64 x5_1 ∧ zA (qL.l0 kq l0 x1_1 x5_1 = some r) ∧ zA (kq ≤ k) ∧ zz w w')
  case atStart => exact ⟨(a1), (0), (by first | rfl | (simp; done) | (simp [*]; done)), (by first | rfl | (simp; done) | (simp [*]; done)), H', ⟨ypy _⟩, by repeat (first | exact zz.refl _ | apply zz.step)⟩
  case round =>
    clear H'
    try clear p2
    obtain ⟨x1_1, x5_1, rfl, rfl, HA, HK1, ⟨m1, rfl⟩⟩ := hrel
    cases gk with
    | zero => exact absurd HA.out (by simp [qL.l0])
    | succ k1 =>
      have H := HA.out
      clear HA
      simp only [qL.l0] at H
      by_cases c3 : x5_1 < (l0.length : Int)
      · rw [if_pos c3] at H
        have c3b0 : decide (x5_1 < (l0.length : Int)) = true := ygy c3
        clear c3
        by_cases c4 : 0 ≤ x5_1
        · rw [if_pos c4] at H
          have c4b0 : decide (0 ≤ x5_1) = true := ygy c4
          clear c4
          replace H := ydy.mp H
          obtain ⟨t102, A50, H⟩ := H
          replace H : (if t102 < 0 then (some (-1)) else (qL.l0 k1 l0 t102 (wrap64 (x5_1 + 1)))) = some r := H
          have A5 := zA.mk A50
          clear A50
          by_cases c6 : t102 < 0
          · rw [if_pos c6] at H
            have c6b0 : decide (t102 < 0) = true := ygy c6
            clear c6
            obtain rfl := yey H
            have p101 : 0 ≤ (x5_1 : Int) := of_decide_eq_true (by first | (with_reducible assumption) | assumption)
            have q101 : x5_1 < (l0.length : Int) := of_decide_eq_true (by first | (with_reducible assumption) | assumption)
            obtain ⟨ad101, A101_0, c101_0, e101, hx101_0, hl101_0, hi101_0⟩ := qt HR0.out x5_1 p101 q101
            cases e101
            have HR101_0 := zA.mk hi101_0
            have HC101_0 := zA.mk hl101_0
            clear hi101_0 hl101_0
            replace p101 := eq_true p101
            replace q101 := eq_true q101
            go_wp2_with (first | ((with_reducible refine ze (f := 125) rfl ?_); refine qP (some 17) rfl rfl Try.func125 (by kernel_rfl) rfl #[.slice A101_0 (zC l0 x5_1).length c101_0, .int .i64 x1_1] rfl (by (try simp only [yiy, yjy, yky]); first | done | rfl | (simp only [yly, ymy]; rfl)) ?_; (with_reducible refine (qX.calls k1 _ _ (zC l0 x5_1) x1_1 t102 _ ?side1 ?side2 A5.out).mono ?_); (case side1 => repeat (first | exact HR101_0.out | (with_reducible refine Kd.qB ?_ _) | (with_reducible refine Kd.qC ?_ _) | (with_reducible refine Kd.qW ?_))); (case side2 => exact HC101_0.out); rintro e w' ⟨rfl, ⟨nd, rfl⟩⟩; refine ⟨_, rfl, ?_⟩))
            go_ret
            exact ⟨by first | rfl | (simp; done) | (simp [*]; done), by repeat (first | exact zz.refl _ | apply zz.step)⟩
          · rw [if_neg c6] at H
            have c6b0 : decide (t102 < 0) = false := yhy c6
            clear c6
            have H' := zA.mk H
            clear H
            have p101 : 0 ≤ (x5_1 : Int) := of_decide_eq_true (by first | (with_reducible assumption) | assumption)
            have q101 : x5_1 < (l0.length : Int) := of_decide_eq_true (by first | (with_reducible assumption) | assumption)
            obtain ⟨ad101, A101_0, c101_0, e101, hx101_0, hl101_0, hi101_0⟩ := qt HR0.out x5_1 p101 q101
            cases e101
            have HR101_0 := zA.mk hi101_0
            have HC101_0 := zA.mk hl101_0
            clear hi101_0 hl101_0
            replace p101 := eq_true p101
            replace q101 := eq_true q101
            go_wp2_with (first | ((with_reducible refine ze (f := 125) rfl ?_); refine qP (some 17) rfl rfl Try.func125 (by kernel_rfl) rfl #[.slice A101_0 (zC l0 x5_1).length c101_0, .int .i64 x1_1] rfl (by (try simp only [yiy, yjy, yky]); first | done | rfl | (simp only [yly, ymy]; rfl)) ?_; (with_reducible refine (qX.calls k1 _ _ (zC l0 x5_1) x1_1 t102 _ ?side1 ?side2 A5.out).mono ?_); (case side1 => repeat (first | exact HR101_0.out | (with_reducible refine Kd.qB ?_ _) | (with_reducible refine Kd.qC ?_ _) | (with_reducible refine Kd.qW ?_))); (case side2 => exact HC101_0.out); rintro e w' ⟨rfl, ⟨nd, rfl⟩⟩; refine ⟨_, rfl, ?_⟩))
            go_roundg k1
            case measure => have := HK1.out; omega
            case rel => exact ⟨(t102), (wrap64 (x5_1 + 1)), (by first | rfl | (simp; done) | (simp [*]; done)), (by first | rfl | (simp; done) | (simp [*]; done)), H', ⟨by have := HK1.out; omega⟩, by repeat (first | exact zz.refl _ | apply zz.step)⟩
        · rw [if_neg c4] at H
          exact absurd H (by simp)
      · rw [if_neg c3] at H
        have c3b0 : decide (x5_1 < (l0.length : Int)) = false := yhy c3
        clear c3
        obtain rfl := yey H
        go_wp2
        go_ret
        exact ⟨by first | rfl | (simp; done) | (simp [*]; done), by repeat (first | exact zz.refl _ | apply zz.step)⟩
def qo.f (k : Nat) (l0_0 : List (List (zh))) (a1 : Int) : Option (Int) := (qL.f k l0_0 a1).bind fun t102 => (if t102 < 0 then (some (-1)) else (some t102))
set_option maxHeartbeats 8000000 in
set_option maxRecDepth 100000 in
theorem qo.calls (k : Nat) (A0_0 : Option Addr) (c0_0 : Nat) (l0_0 : List (List (zh))) (a1 : Int) (r : Int) (w : World) (hr0_0 : Kd.C (Kd.slice 74 qJ) w A0_0 l0_0.length l0_0) (hc0_0 : l0_0.length ≤ c0_0) (h : qo.f k l0_0 a1 = some r) :
    Calls Try.prog 21 #[.agg #[.slice A0_0 l0_0.length c0_0], .int .i64 a1] w fun e w' => e = .returned (.int .i64 r) ∧ Below w.heap.size w w' := by
  have hu28 := Try.underlying28
  have HR0_0 := zA.mk hr0_0
  have HC0_0 := zA.mk hc0_0
  clear hr0_0 hc0_0
  have HB := zA.mk (yqy w.heap.size w)
  have H : ((qL.f k l0_0 a1).bind fun t102 => (if t102 < 0 then (some (-1)) else (some t102))) = some r := h
  clear h
  replace H := ydy.mp H
  obtain ⟨t102, A30, H⟩ := H
  replace H : (if t102 < 0 then (some (-1)) else (some t102)) = some r := H
  have A3 := zA.mk A30
  clear A30
  by_cases c4 : t102 < 0
  · rw [if_pos c4] at H
    have c4b0 : decide (t102 < 0) = true := ygy c4
    clear c4
    obtain rfl := yey H
    go_enter Try.func21, Try.ntmps21
    go_wp2_with (first | ((with_reducible refine zm (N := 2) rfl ?_); refine zp ?hg (N := 2) ?hd (cs := #[.slice A0_0 l0_0.length c0_0]) (t := 28) ?hr ?_; (case hd => rfl); (case hg => rfl); (case hr => first | (go_simp; done) | (go_simp; rfl)); intro gb101 hg w5 hbox hb; have n0_ := zA.mk (zO (by repeat (first | (with_reducible first | exact HB.out | apply zD | apply zB | apply zE) | exact HB.out)) hb); have n1_ := zA.mk (hbox); have n2_ := zA.mk ((by rw [hg]; exact (zP (by repeat (first | (with_reducible first | exact HB.out | apply zD | apply zB | apply zE) | exact HB.out))) : w.heap.size ≤ gb101)); have n3_ := zA.mk ((by rw [hg]; exact (zP (by repeat (first | (with_reducible first | exact HB.out | apply zD | apply zB | apply zE) | exact HB.out))) : w.heap.size ≤ gb101)); clear HB; have HB := n0_; have BK101 := n1_; have GW101 := n2_; have GE101 := n3_; clear n0_ n1_ n2_ n3_; clear hb hbox hg; have hcz6_0 : w5.cell? ⟨gb101, 0, none⟩ = some (.slice A0_0 l0_0.length c0_0) := (zJ BK101.out 0).trans rfl; have hfz6_0 := zL BK101.out 0) | ((with_reducible refine ze (f := 64) rfl ?_); refine qP (some 8) rfl rfl Try.func64 (by kernel_rfl) rfl #[.slice A0_0 l0_0.length c0_0, .int .i64 a1] rfl (by (try simp only [yiy, yjy, yky]); first | done | rfl | (simp only [yly, ymy]; rfl)) ?_; (with_reducible refine (qL.calls k _ _ l0_0 a1 t102 _ ?side1 ?side2 A3.out).mono ?_); (case side1 => repeat (first | exact (Kd.qA HR0_0.out HB.out) | (with_reducible refine Kd.qB ?_ _) | (with_reducible refine Kd.qC ?_ _) | (with_reducible refine Kd.qW ?_))); (case side2 => exact HC0_0.out); rintro e w' ⟨rfl, ⟨nd, rfl⟩⟩; refine ⟨_, rfl, ?_⟩))
    go_ret
    exact ⟨by first | rfl | (simp [zX, zY] <;> rfl) | (simp [*, zX, zY] <;> rfl), by repeat (first | (with_reducible first | exact HB.out | apply zD | apply zB | apply zE | refine zG ?_ GE101.out) | exact HB.out)⟩
  · rw [if_neg c4] at H
    have c4b0 : decide (t102 < 0) = false := yhy c4
    clear c4
    obtain rfl := yey H
    go_enter Try.func21, Try.ntmps21
    go_wp2_with (first | ((with_reducible refine zm (N := 2) rfl ?_); refine zp ?hg (N := 2) ?hd (cs := #[.slice A0_0 l0_0.length c0_0]) (t := 28) ?hr ?_; (case hd => rfl); (case hg => rfl); (case hr => first | (go_simp; done) | (go_simp; rfl)); intro gb101 hg w7 hbox hb; have n0_ := zA.mk (zO (by repeat (first | (with_reducible first | exact HB.out | apply zD | apply zB | apply zE) | exact HB.out)) hb); have n1_ := zA.mk (hbox); have n2_ := zA.mk ((by rw [hg]; exact (zP (by repeat (first | (with_reducible first | exact HB.out | apply zD | apply zB | apply zE) | exact HB.out))) : w.heap.size ≤ gb101)); have n3_ := zA.mk ((by rw [hg]; exact (zP (by repeat (first | (with_reducible first | exact HB.out | apply zD | apply zB | apply zE) | exact HB.out))) : w.heap.size ≤ gb101)); clear HB; have HB := n0_; have BK101 := n1_; have GW101 := n2_; have GE101 := n3_; clear n0_ n1_ n2_ n3_; clear hb hbox hg; have hcz8_0 : w7.cell? ⟨gb101, 0, none⟩ = some (.slice A0_0 l0_0.length c0_0) := (zJ BK101.out 0).trans rfl; have hfz8_0 := zL BK101.out 0) | ((with_reducible refine ze (f := 64) rfl ?_); refine qP (some 8) rfl rfl Try.func64 (by kernel_rfl) rfl #[.slice A0_0 l0_0.length c0_0, .int .i64 a1] rfl (by (try simp only [yiy, yjy, yky]); first | done | rfl | (simp only [yly, ymy]; rfl)) ?_; (with_reducible refine (qL.calls k _ _ l0_0 a1 t102 _ ?side1 ?side2 A3.out).mono ?_); (case side1 => repeat (first | exact (Kd.qA HR0_0.out HB.out) | (with_reducible refine Kd.qB ?_ _) | (with_reducible refine Kd.qC ?_ _) | (with_reducible refine Kd.qW ?_))); (case side2 => exact HC0_0.out); rintro e w' ⟨rfl, ⟨nd, rfl⟩⟩; refine ⟨_, rfl, ?_⟩))
    go_ret
    exact ⟨by first | rfl | (simp [zX, zY] <;> rfl) | (simp [*, zX, zY] <;> rfl), by repeat (first | (with_reducible first | exact HB.out | apply zD | apply zB | apply zE | refine zG ?_ GE101.out) | exact HB.out)⟩
def qS.l0 : Nat → List (zh) → Int → Int → Option (Int × (List (zh)))
  | 0, _, _, _ => none
  | k + 1, x0, x1, x5 => if x5 < (x0.length : Int) then (if 0 ≤ x5 then ((some (x0.set (x5 : Int).toNat (⟨x1, (zF x0 x5).f1⟩ : zh) : List (zh))).bind fun y101 => (qS.l0 k (y101.set (x5 : Int).toNat (⟨(zF y101 x5).f0, wrap64 (x1 + 1)⟩ : zh)) (wrap64 ((wrap64 (x1 + 1)) + 1)) (wrap64 (x5 + 1)))) else (none)) else (some (x1, x0))
def qS.f (k : Nat) (l0 : List (zh)) (a1 : Int) : Option (Int × (List (zh))) := qS.l0 k l0 a1 0
set_option maxHeartbeats 8000000 in
set_option maxRecDepth 100000 in
theorem qS.calls (k : Nat) (P0_ : Nat → Prop) (u9000_ : Value) (l0 : List (zh)) (a1 : Int) (r1 : Int) (r2 : List (zh)) (w0 w : World) (hB : Below w0.heap.size w0 w) (ho0 : Kd.R qJ 74 w w0.heap.size P0_ u9000_ l0) (h : qS.f k l0 a1 = some (r1, r2)) :
    Calls Try.prog 124 #[u9000_, .int .i64 a1] w fun e w' => e = .returned (.int .i64 r1) ∧ Kd.R qJ 74 w' w0.heap.size (fun k_ => (P0_ k_ ∨ w.heap.size ≤ k_)) u9000_ r2 ∧ Below w0.heap.size w0 w' ∧ Kept w w' (fun k_ => P0_ k_) := by
  have HO0 := zA.mk (show Kd.R qJ 74 w w0.heap.size (fun k_ => (P0_ k_ ∨ w.heap.size ≤ k_)) u9000_ l0 from Kd.qR ho0 (fun k_ hk => (.inl hk)))
  have HK := zA.mk (Kept.refl w (fun k_ => P0_ k_))
  have HW0 := zA.mk hB.size
  have HB := zA.mk hB
  clear hB
  have H : (qS.l0 k l0 a1 0) = some (r1, r2) := h
  clear h
  have H' := zA.mk H
  clear H
  go_enter Try.func124, Try.ntmps124
  go_wp2
  go_loopg [1, 5] k (fun kq v1 v5 w' => ∃ (x0_1 : List (zh)) (x1_1 : Int) (x5_1 : Int), v1 = .int .i64 x1_1 ∧ v5 = .int .i64 x5_1 ∧ zA (qS.l0 kq x0_1 x1_1 x5_1 = some (r1, r2)) ∧ zA (kq ≤ k) ∧ zA (Kd.R qJ 74 w' w0.heap.size (fun k_ => (P0_ k_ ∨ w.heap.size ≤ k_)) u9000_ x0_1) ∧ zA (Kept w w' (fun k_ => P0_ k_)) ∧ zA (Below w0.heap.size w0 w'))
  case atStart => exact ⟨(l0), (a1), (0), (by first | rfl | (simp; done) | (simp [*]; done)), (by first | rfl | (simp; done) | (simp [*]; done)), H', ⟨ypy _⟩, ⟨by (with_reducible repeat (first | apply Kd.zZ | apply Kd.za | apply Kd.zf)); exact HO0.out⟩, ⟨by repeat (first | (with_reducible first | exact HK.out | apply Kept.alloc | apply Kept.drewN | apply Kept.drew) | exact HK.out)⟩, ⟨by repeat (first | (with_reducible first | exact HB.out | apply zD | apply zB | apply zE) | exact HB.out)⟩⟩
  case round =>
    clear H'
    try clear c1
    try clear p2
    obtain ⟨x0_1, x1_1, x5_1, rfl, rfl, HA, HK1, HO_0, HK, HB⟩ := hrel
    cases gk with
    | zero => exact absurd HA.out (by simp [qS.l0])
    | succ k1 =>
      have H := HA.out
      clear HA
      simp only [qS.l0] at H
      by_cases c3 : x5_1 < (x0_1.length : Int)
      · rw [if_pos c3] at H
        have c3b0 : decide (x5_1 < (x0_1.length : Int)) = true := ygy c3
        clear c3
        by_cases c4 : 0 ≤ x5_1
        · rw [if_pos c4] at H
          have c4b0 : decide (0 ≤ x5_1) = true := ygy c4
          clear c4
          obtain ⟨y101, hy101⟩ : ∃ y_ : List (zh), y_ = (x0_1.set (x5_1 : Int).toNat (⟨x1_1, (zF x0_1 x5_1).f1⟩ : zh)) := ⟨_, rfl⟩
          replace H : (qS.l0 k1 (y101.set (x5_1 : Int).toNat (⟨(zF y101 x5_1).f0, wrap64 (x1_1 + 1)⟩ : zh)) (wrap64 ((wrap64 (x1_1 + 1)) + 1)) (wrap64 (x5_1 + 1))) = some (r1, r2) := by first | (rw [hy101]; with_reducible exact H) | (have H2_ := (yfy _ _).symm.trans H; rw [hy101]; with_reducible exact H2_) | (have H2_ := (yfy _ _).symm.trans H; with_reducible exact H2_) | with_reducible exact H | (rw [hy101]; exact H) | exact H
          have Ny101 := zA.mk hy101
          clear hy101
          obtain ⟨y102, hy102⟩ : ∃ y_ : List (zh), y_ = (y101.set (x5_1 : Int).toNat (⟨(zF y101 x5_1).f0, wrap64 (x1_1 + 1)⟩ : zh)) := ⟨_, rfl⟩
          replace H : (qS.l0 k1 y102 (wrap64 ((wrap64 (x1_1 + 1)) + 1)) (wrap64 (x5_1 + 1))) = some (r1, r2) := by first | (rw [hy102]; with_reducible exact H) | (have H2_ := (yfy _ _).symm.trans H; rw [hy102]; with_reducible exact H2_) | (have H2_ := (yfy _ _).symm.trans H; with_reducible exact H2_) | with_reducible exact H | (rw [hy102]; exact H) | exact H
          have Ny102 := zA.mk hy102
          clear hy102
          have H' := zA.mk H
          clear H
          obtain ⟨Ao7, co7, eo7⟩ := Kd.qv HO_0.out
          subst eo7
          have p5 : 0 ≤ (x5_1 : Int) := of_decide_eq_true (by first | (with_reducible assumption) | assumption)
          have q5 : (x5_1 : Int) < ((x0_1.length : Int) : Int) := of_decide_eq_true (by first | (with_reducible assumption) | assumption)
          obtain ⟨go5, co5, eo5, gb5, gl5, cl5, HG5⟩ := Kd.JJ HO_0.out (by omega)
          (first | cases eo5 | (injection eo5 with ea_ en_ ec_; (first | subst ea_ | (injection ea_ with ea_; subst ea_)); subst ec_; clear en_))
          have GB5 := zA.mk gb5
          have GG5 := zA.mk HG5
          clear gb5 gl5 HG5
          have HMgo5 := zA.mk (show (P0_ go5 ∨ w.heap.size ≤ go5) from (HO_0.out.1 _ rfl))
          obtain ⟨ce5, hcl5, hM5, hcc5, hfr5⟩ := Kd.zAA HO_0.out Qt (x5_1 : Int) p5 q5
          obtain rfl := QC hM5
          have hx5_0 : wr.cell? ⟨go5, (x5_1 : Int).toNat * 2, none⟩ = some (.int .i64 ((zF x0_1 x5_1).f0)) := hcc5 0 _ rfl
          have hx5_1 : wr.cell? ⟨go5, (x5_1 : Int).toNat * 2 + 1, none⟩ = some (.int .i64 ((zF x0_1 x5_1).f1)) := hcc5 1 _ rfl
          have hf5_0 : wr.frozen? ⟨go5, (x5_1 : Int).toNat * 2, none⟩ = false := hfr5 0
          have hf5_1 : wr.frozen? ⟨go5, (x5_1 : Int).toNat * 2 + 1, none⟩ = false := hfr5 1
          clear hcl5 hcc5 hfr5 hM5
          replace p5 := eq_true p5
          replace q5 := eq_true q5
          have HX8 := zA.mk (show Kd.R qJ 74 wr w0.heap.size (fun k_ => (P0_ k_ ∨ w.heap.size ≤ k_)) (.slice (some ⟨go5, 0, none⟩) x0_1.length co7) x0_1 from (by (with_reducible repeat (first | apply Kd.zZ | apply Kd.za | apply Kd.zf)); exact HO_0.out))
          obtain ⟨ce8, hcl8, hM8, hcc8, hfr8⟩ := Kd.zAA HX8.out Qt (x5_1 : Int) (of_decide_eq_true (by first | (with_reducible assumption) | assumption)) (by have h_ : (x5_1 : Int) < ((x0_1.length : Int) : Int) := of_decide_eq_true (by first | (with_reducible assumption) | assumption); first | exact h_ | (have e_ := (Kd.zj HO_0.out).1; omega) | simpa using h_)
          obtain rfl := QC hM8
          have HP8 := Kd.zDH HX8.out (x5_1 : Int) (of_decide_eq_true (by first | (with_reducible assumption) | assumption)) (by have h_ : (x5_1 : Int) < ((x0_1.length : Int) : Int) := of_decide_eq_true (by first | (with_reducible assumption) | assumption); first | exact h_ | (have e_ := (Kd.zj HO_0.out).1; omega) | simpa using h_) (seg := [.int .i64 x1_1]) (j := 0) hcl8 hcc8 (show 1 ≤ 2 from by decide) (x' := (⟨x1_1, (zF x0_1 x5_1).f1⟩ : zh)) (Zi _ _ _ (⟨x1_1, (zF x0_1 x5_1).f1⟩ : zh) ) (fun _ hk => hk)
          have hx8_0 := hcc8 0 _ rfl
          (try simp only [show (qJ).sz = 2 from rfl, Nat.mul_one, Nat.add_zero] at hx8_0)
          have hf8_0 := hfr8 0
          (try simp only [show (qJ).sz = 2 from rfl, Nat.mul_one, Nat.add_zero] at hf8_0)
          clear hcl8 hcc8 hfr8 hM8
          go_wp2_with (first | ((with_reducible refine Zk (t := 2) (p := 16) rfl ?_); refine ZW (t := 2) (p := 16) (v := ?vo_w9) (w1 := (wr.setCell ⟨go5, (x5_1 : Int).toNat * 2, none⟩ (.int .i64 x1_1))) ?hg ?ho ?hn ?hr ?_; (case ho => rfl); (case hg => rfl); (case hn => rfl); (case hr => first | (go_simp; done) | (go_simp; rfl)); intro w9 hw; have hg : wr.grownBy w9 (some go5) := (by rw [hw]; exact HP8.2); have hp_ : Kd.R qJ 74 w9 w0.heap.size (fun k_ => (P0_ k_ ∨ w.heap.size ≤ k_)) (.slice (some ⟨go5, 0, none⟩) x0_1.length co7) y101 := (by rw [hw, Ny101.out]; exact HP8.1); clear HP8; have n0_ := zA.mk (hp_); have n1_ := zA.mk ((by rw [hw]; exact zG (HB.out) GB5.out : Below w0.heap.size w0 w9)); have n2_ := zA.mk (Kept.zCW (S := (fun k_ => P0_ k_)) hg (by repeat (first | (with_reducible first | exact HK.out | apply Kept.alloc | apply Kept.drewN | apply Kept.drew) | exact HK.out)) (fun k_ e_ => (HO_0.out.1 k_ e_))); clear HO_0; clear HB; clear HK; have HO_0 := n0_; have HB := n1_; have HK := n2_; clear n0_ n1_ n2_; clear hg hw hp_; have p6 : 0 ≤ (x5_1 : Int) := of_decide_eq_true (by first | (with_reducible assumption) | assumption); have q6 : (x5_1 : Int) < ((x0_1.length : Int) : Int) := of_decide_eq_true (by first | (with_reducible assumption) | assumption); obtain ⟨ce6, hcl6, hM6, hcc6, hfr6⟩ := Kd.zAA HO_0.out Qt (x5_1 : Int) p6 q6; obtain rfl := QC hM6; have hx6_0 : w9.cell? ⟨go5, (x5_1 : Int).toNat * 2, none⟩ = some (.int .i64 ((zF y101 x5_1).f0)) := hcc6 0 _ rfl; have hx6_1 : w9.cell? ⟨go5, (x5_1 : Int).toNat * 2 + 1, none⟩ = some (.int .i64 ((zF y101 x5_1).f1)) := hcc6 1 _ rfl; have hf6_0 : w9.frozen? ⟨go5, (x5_1 : Int).toNat * 2, none⟩ = false := hfr6 0; have hf6_1 : w9.frozen? ⟨go5, (x5_1 : Int).toNat * 2 + 1, none⟩ = false := hfr6 1; clear hcl6 hcc6 hfr6; (try clear hM6); replace p6 := eq_true p6; replace q6 := eq_true q6; have HX10 := zA.mk (show Kd.R qJ 74 w9 w0.heap.size (fun k_ => (P0_ k_ ∨ w.heap.size ≤ k_)) (.slice (some ⟨go5, 0, none⟩) x0_1.length co7) y101 from (by (with_reducible repeat (first | apply Kd.zZ | apply Kd.za | apply Kd.zf)); exact HO_0.out)); obtain ⟨ce10, hcl10, hM10, hcc10, hfr10⟩ := Kd.zAA HX10.out Qt (x5_1 : Int) (of_decide_eq_true (by first | (with_reducible assumption) | assumption)) (by have h_ : (x5_1 : Int) < ((x0_1.length : Int) : Int) := of_decide_eq_true (by first | (with_reducible assumption) | assumption); first | exact h_ | (have e_ := (Kd.zj HO_0.out).1; omega) | simpa using h_); obtain rfl := QC hM10; have HP10 := Kd.zDH HX10.out (x5_1 : Int) (of_decide_eq_true (by first | (with_reducible assumption) | assumption)) (by have h_ : (x5_1 : Int) < ((x0_1.length : Int) : Int) := of_decide_eq_true (by first | (with_reducible assumption) | assumption); first | exact h_ | (have e_ := (Kd.zj HO_0.out).1; omega) | simpa using h_) (seg := [.int .i64 (wrap64 (x1_1 + 1))]) (j := 1) hcl10 hcc10 (show 2 ≤ 2 from by decide) (x' := (⟨(zF y101 x5_1).f0, wrap64 (x1_1 + 1)⟩ : zh)) (Zi _ _ _ (⟨(zF y101 x5_1).f0, wrap64 (x1_1 + 1)⟩ : zh) ) (fun _ hk => hk); have hx10_1 := hcc10 1 _ rfl; (try simp only [show (qJ).sz = 2 from rfl, Nat.mul_one, Nat.add_zero] at hx10_1); have hf10_1 := hfr10 1; (try simp only [show (qJ).sz = 2 from rfl, Nat.mul_one, Nat.add_zero] at hf10_1); clear hcl10 hcc10 hfr10 hM10) | ((with_reducible refine Zk (t := 2) (p := 23) rfl ?_); refine ZW (t := 2) (p := 23) (v := ?vo_w11) (w1 := (w9.setCell ⟨go5, (x5_1 : Int).toNat * 2 + 1, none⟩ (.int .i64 (wrap64 (x1_1 + 1))))) ?hg ?ho ?hn ?hr ?_; (case ho => rfl); (case hg => rfl); (case hn => rfl); (case hr => first | (go_simp; done) | (go_simp; rfl)); intro w11 hw; have hg : w9.grownBy w11 (some go5) := (by rw [hw]; exact HP10.2); have hp_ : Kd.R qJ 74 w11 w0.heap.size (fun k_ => (P0_ k_ ∨ w.heap.size ≤ k_)) (.slice (some ⟨go5, 0, none⟩) x0_1.length co7) y102 := (by rw [hw, Ny102.out]; exact HP10.1); clear HP10; have n0_ := zA.mk (hp_); have n1_ := zA.mk ((by rw [hw]; exact zG (HB.out) GB5.out : Below w0.heap.size w0 w11)); have n2_ := zA.mk (Kept.zCW (S := (fun k_ => P0_ k_)) hg (by repeat (first | (with_reducible first | exact HK.out | apply Kept.alloc | apply Kept.drewN | apply Kept.drew) | exact HK.out)) (fun k_ e_ => (HO_0.out.1 k_ e_))); clear HO_0; clear HB; clear HK; have HO_0 := n0_; have HB := n1_; have HK := n2_; clear n0_ n1_ n2_; clear hg hw hp_))
          go_roundg k1
          case measure => have := HK1.out; omega
          case rel => exact ⟨(y102), (wrap64 ((wrap64 (x1_1 + 1)) + 1)), (wrap64 (x5_1 + 1)), (by first | rfl | (simp; done) | (simp [*]; done)), (by first | rfl | (simp; done) | (simp [*]; done)), H', ⟨by have := HK1.out; omega⟩, ⟨by (with_reducible repeat (first | apply Kd.zZ | apply Kd.za | apply Kd.zf)); exact HO_0.out⟩, ⟨by repeat (first | (with_reducible first | exact HK.out | apply Kept.alloc | apply Kept.drewN | apply Kept.drew) | exact HK.out)⟩, ⟨by repeat (first | (with_reducible first | exact HB.out | apply zD | apply zB | apply zE) | exact HB.out)⟩⟩
        · rw [if_neg c4] at H
          exact absurd H (by simp)
      · rw [if_neg c3] at H
        have c3b0 : decide (x5_1 < (x0_1.length : Int)) = false := yhy c3
        clear c3
        simp only [Option.some.injEq, Prod.mk.injEq] at H
        obtain ⟨rfl, rfl⟩ := H
        obtain ⟨Ao12, co12, eo12⟩ := Kd.qv HO_0.out
        subst eo12
        go_wp2
        go_ret
        exact ⟨by first | rfl | (simp [zX, zY] <;> rfl) | (simp [*, zX, zY] <;> rfl), by (with_reducible repeat (first | apply Kd.zZ | apply Kd.za | apply Kd.zf)); exact HO_0.out, by repeat (first | (with_reducible first | exact HB.out | apply zD | apply zB | apply zE) | exact HB.out), by repeat (first | (with_reducible first | exact HK.out | apply Kept.alloc | apply Kept.drewN | apply Kept.drew) | exact HK.out)⟩
def ql.go (k : Nat) : Nat → List (List zh) → Int → Nat → Option (Int × List (List zh))
  | 0, l, a, _ => some (a, l)
  | d + 1, l, a, i => (qS.f k (l.getD i []) a).bind fun p => ql.go k d (l.set i p.2) p.1 (i + 1)
def ql.f (k : Nat) (l : List (List zh)) (a : Int) : Option (Int × List (List zh)) := ql.go k l.length l a 0
set_option maxHeartbeats 8000000 in
set_option maxRecDepth 100000 in
theorem ql.calls (k : Nat) (P0_ : Nat → Prop) (v : Value) (l0 : List (List zh)) (a1 r1 : Int) (r2 : List (List zh)) (w0 w : World) (hB : Below w0.heap.size w0 w) (ho0 : Kd.S (Kd.slice 74 qJ) 75 w w0.heap.size P0_ v l0) (h : ql.f k l0 a1 = some (r1, r2)) :
    Calls Try.prog 63 #[v, .int .i64 a1] w fun e w' => e = .returned (.int .i64 r1) ∧ Kd.S (Kd.slice 74 qJ) 75 w' w0.heap.size P0_ v r2 ∧ Below w0.heap.size w0 w' ∧ Kept w w' P0_ := by
  obtain ⟨A, c, rfl⟩ := Kd.QY ho0
  have hbig : l0.length ≤ 9223372036854775807 := (Kd.zAO ho0).2.2.2.1
  have HO := zA.mk ho0
  have HB := zA.mk hB
  have HK := zA.mk (Kept.refl w P0_)
  have H' := zA.mk (show ql.go k l0.length l0 a1 0 = some (r1, r2) from h)
  clear h hB ho0
  go_enter Try.func63, Try.ntmps63
  go_wp2
  go_loopg [1, 5] l0.length (fun gg v1 v5 w' => ∃ (d i : Nat) (l : List (List zh)) (a : Int), i + d = l0.length ∧ d ≤ gg ∧ zA (l.length = l0.length) ∧ v1 = .int .i64 a ∧ v5 = .int .i64 i ∧ zA (ql.go k d l a i = some (r1, r2)) ∧ zA (Kd.S (Kd.slice 74 qJ) 75 w' w0.heap.size P0_ (.slice A l0.length c) l) ∧ zA (Below w0.heap.size w0 w') ∧ zA (Kept w w' P0_))
  case atStart => exact ⟨l0.length, 0, l0, a1, by omega, by omega, ⟨rfl⟩, rfl, rfl, H', HO, HB, HK⟩
  case round =>
    clear H' HO HB HK
    obtain ⟨d, i, l, a, hid, hg, HL, rfl, rfl, HA, HO, HB, HK⟩ := hrel
    cases d with
    | zero =>
      obtain rfl : i = l0.length := by omega
      have H2 := zA.mk (yey HA.out)
      clear HA
      go_wp2
      go_ret
      obtain ⟨e1, e2⟩ := Prod.mk.inj H2.out
      exact ⟨by rw [e1]; rfl, by rw [← e2]; exact HO.out, HB.out, HK.out⟩
    | succ d =>
      have hltz : (i : Int) < (l0.length : Int) := by omega
      have hL := HL.out
      obtain ⟨p, hp, H⟩ := ydy.mp HA.out
      obtain ⟨p1, p2⟩ := p
      have HH := zA.mk H
      have HP := zA.mk hp
      clear HA hp H
      rcases A with _ | ad
      · obtain ⟨g, cap, ev, _, _, _⟩ := Kd.zCV HO.out (by omega)
        cases ev
      obtain ⟨oki, cs, hcl, hM, hcc, hoki, hback⟩ := Kd.zE2 (ad := ad) HO.out [] (i : Int) (by omega) (by omega)
      obtain ⟨v1, rfl, hR⟩ := hM
      have hx := hcc 0 v1 rfl
      rw [yny] at hR hx hback
      have hx2 : wr.cell? (ad.add i) = some v1 := by
        have e : i * (Kd.slice 74 qJ).sz + 0 = i := by show i * 1 + 0 = i; omega
        rw [e] at hx; exact hx
      clear hcl hcc hx
      have HR := zA.mk (Kd.zA3 rfl hR)
      have HI := zA.mk (show ∀ k_, v1.ownBlock = some k_ → oki k_ from hR.1)
      have HOK := zA.mk hoki
      have HBK := zA.mk (@hback)
      clear hR hoki hback
      generalize l.getD i [] = y at HP HR
      obtain ⟨A1, c1, rfl⟩ := Kd.qv HR.out
      clear hL
      go_wp2_with (first | (go_at_call 124; (with_reducible refine (qS.calls k (fun k_ => some k_ = (.slice A1 y.length c1 : Value).ownBlock) (.slice A1 y.length c1) y a p1 p2 w0 _ HB.out HR.out HP.out).mono ?_); rintro e w' ⟨rfl, hy, hb, hk⟩; have HO2 := zA.mk (HBK.out (w1 := w') (row := (.slice A1 y.length c1 : Value).ownBlock) (x' := p2) ⟨hb.os.trans HB.out.os.symm, hb.tape.trans HB.out.tape.symm, hb.output.trans HB.out.output.symm, hk.1, fun k_ h1 h2 => hk.2 k_ h1 h2⟩ (fun k_ e_ => HI.out k_ e_) ⟨_, rfl, Kd.R_reok rfl hy (fun k_ e_ => HI.out k_ e_)⟩); have HB2 := zA.mk hb; have HK2 := zA.mk (HK.out.zE4 hk (fun k_ e_ => .inl (HOK.out k_ (HI.out k_ e_.symm)).1)); clear hy hb hk HB HK HBK HO))
      go_roundg d
      case measure => omega
      case rel => exact ⟨d, i + 1, l.set i p2, p1, by omega, by omega, ⟨by rw [List.length_set]; exact HL.out⟩, rfl, by go_num, HH, HO2, HB2, HK2⟩
def qp.f (k : Nat) (l : List (List zh)) (a : Int) : Option (Int × List (List zh)) := ql.f k l a
set_option maxHeartbeats 8000000 in
set_option maxRecDepth 100000 in
theorem qp.calls (k : Nat) (P0_ : Nat → Prop) (v : Value) (l0 : List (List zh)) (a1 r1 : Int) (r2 : List (List zh)) (w0 w : World) (hB : Below w0.heap.size w0 w) (ho0 : Kd.S (Kd.slice 74 qJ) 75 w w0.heap.size P0_ v l0) (h : qp.f k l0 a1 = some (r1, r2)) :
    Calls Try.prog 20 #[.agg #[v], .int .i64 a1] w fun e w' => e = .returned (.int .i64 r1) ∧ Kd.S (Kd.slice 74 qJ) 75 w' w0.heap.size P0_ v r2 ∧ Below w0.heap.size w0 w' ∧ Kept w w' P0_ := by
  obtain ⟨A, c, rfl⟩ := Kd.QY ho0
  have HO := zA.mk ho0
  have HB := zA.mk hB
  have H' := zA.mk h
  clear h hB ho0
  go_enter Try.func20, Try.ntmps20
  go_wp2_with fail
  refine (ql.calls k P0_ (.slice A l0.length c) l0 a1 r1 r2 w0 _ (zD HB.out _) (Kd.Ze HO.out _) H'.out).mono ?_
  rintro e w' ⟨rfl, hy, hb, hk⟩
  have HO2 := zA.mk hy
  have HB2 := zA.mk hb
  have HK2 := zA.mk ((Kept.refl w P0_).alloc _ |>.zE4 hk (fun _ h_ => .inl h_))
  clear hy hb hk HO HB H'
  go_wp2
  go_ret
  exact ⟨rfl, HO2.out, HB2.out, HK2.out⟩
def Zr.f (l0 : List (qI)) (a1 : Int) : Option (Int) := if (wrap64 (a1 - (l0.length : Int))) < 0 then (some (-1)) else (some (wrap64 (a1 - (l0.length : Int))))
set_option maxHeartbeats 8000000 in
set_option maxRecDepth 100000 in
theorem Zr.calls (A0 : Option Addr) (c0 : Nat) (l0 : List (qI)) (a1 : Int) (r : Int) (w : World) (hr0 : Kd.C Zt w A0 l0.length l0) (hc0 : l0.length ≤ c0) (h : Zr.f l0 a1 = some r) :
    Calls Try.prog 112 #[.slice A0 l0.length c0, .int .i64 a1] w fun e w' => e = .returned (.int .i64 r) ∧ zz w w' := by
  have HR0 := zA.mk hr0
  have HC0 := zA.mk hc0
  clear hr0 hc0
  have H : (if (wrap64 (a1 - (l0.length : Int))) < 0 then (some (-1)) else (some (wrap64 (a1 - (l0.length : Int))))) = some r := h
  clear h
  by_cases c3 : (wrap64 (a1 - (l0.length : Int))) < 0
  · rw [if_pos c3] at H
    have c3b0 : decide ((wrap64 (a1 - (l0.length : Int))) < 0) = true := ygy c3
    clear c3
    obtain rfl := yey H
    go_enter Try.func112, Try.ntmps112
    go_wp2
    go_ret
    exact ⟨by first | rfl | (simp; done) | (simp [*]; done), by repeat (first | exact zz.refl _ | apply zz.step)⟩
  · rw [if_neg c3] at H
    have c3b0 : decide ((wrap64 (a1 - (l0.length : Int))) < 0) = false := yhy c3
    clear c3
    obtain rfl := yey H
    go_enter Try.func112, Try.ntmps112
    go_wp2
    go_ret
    exact ⟨by first | rfl | (simp; done) | (simp [*]; done), by repeat (first | exact zz.refl _ | apply zz.step)⟩
def qK.l0 : Nat → List (List (qI)) → Int → Int → Option (Int)
  | 0, _, _, _ => none
  | k + 1, x0, x1, x5 => if x5 < (x0.length : Int) then (if 0 ≤ x5 then ((Zr.f (ZG x0 x5) x1).bind fun t102 => (if t102 < 0 then (some (-1)) else (qK.l0 k x0 t102 (wrap64 (x5 + 1))))) else (none)) else (some x1)
def qK.f (k : Nat) (l0 : List (List (qI))) (a1 : Int) : Option (Int) := if (wrap64 (a1 - (l0.length : Int))) < 0 then (some (-1)) else (qK.l0 k l0 (wrap64 (a1 - (l0.length : Int))) 0)
set_option maxHeartbeats 8000000 in
set_option maxRecDepth 100000 in
theorem qK.calls (k : Nat) (A0 : Option Addr) (c0 : Nat) (l0 : List (List (qI))) (a1 : Int) (r : Int) (w : World) (hr0 : Kd.C (Kd.slice 133 Zt) w A0 l0.length l0) (hc0 : l0.length ≤ c0) (h : qK.f k l0 a1 = some r) :
    Calls Try.prog 51 #[.slice A0 l0.length c0, .int .i64 a1] w fun e w' => e = .returned (.int .i64 r) ∧ zz w w' := by
  have HR0 := zA.mk hr0
  have HC0 := zA.mk hc0
  clear hr0 hc0
  have H : (if (wrap64 (a1 - (l0.length : Int))) < 0 then (some (-1)) else (qK.l0 k l0 (wrap64 (a1 - (l0.length : Int))) 0)) = some r := h
  clear h
  by_cases c3 : (wrap64 (a1 - (l0.length : Int))) < 0
  · rw [if_pos c3] at H
    have c3b0 : decide ((wrap64 (a1 - (l0.length : Int))) < 0) = true := ygy c3
    clear c3
    obtain rfl := yey H
    go_enter Try.func51, Try.ntmps51
    go_wp2
    go_ret
    exact ⟨by first | rfl | (simp; done) | (simp [*]; done), by repeat (first | exact zz.refl _ | apply zz.step)⟩
  · rw [if_neg c3] at H
    have c3b0 : decide ((wrap64 (a1 - (l0.length : Int))) < 0) = false := yhy c3
    clear c3
    have H' := zA.mk H
    clear H
    go_enter Try.func51, Try.ntmps51
    go_wp2
    go_loopg [1, 5] k (fun kq v1 v5 w' => ∃ (x1_1 : Int) (x5_1 : Int), v1 = .int .i64 x1_1 ∧ v5 = .int .i64 x5_1 ∧ zA (qK.l0 kq l0 x1_1 x5_1 = some r) ∧ zA (kq ≤ k) ∧ zz w w')
    case atStart => exact ⟨(wrap64 (a1 - (l0.length : Int))), (0), (by first | rfl | (simp; done) | (simp [*]; done)), (by first | rfl | (simp; done) | (simp [*]; done)), H', ⟨ypy _⟩, by repeat (first | exact zz.refl _ | apply zz.step)⟩
    case round =>
      clear H'
      try clear p2
      try clear c3
      try clear c3b0
      obtain ⟨x1_1, x5_1, rfl, rfl, HA, HK1, ⟨m1, rfl⟩⟩ := hrel
      cases gk with
      | zero => exact absurd HA.out (by simp [qK.l0])
      | succ k1 =>
        have H := HA.out
        clear HA
        simp only [qK.l0] at H
        by_cases c4 : x5_1 < (l0.length : Int)
        · rw [if_pos c4] at H
          have c4b0 : decide (x5_1 < (l0.length : Int)) = true := ygy c4
          clear c4
          by_cases c5 : 0 ≤ x5_1
          · rw [if_pos c5] at H
            have c5b0 : decide (0 ≤ x5_1) = true := ygy c5
            clear c5
            replace H := ydy.mp H
            obtain ⟨t102, A60, H⟩ := H
            replace H : (if t102 < 0 then (some (-1)) else (qK.l0 k1 l0 t102 (wrap64 (x5_1 + 1)))) = some r := H
            have A6 := zA.mk A60
            clear A60
            by_cases c7 : t102 < 0
            · rw [if_pos c7] at H
              have c7b0 : decide (t102 < 0) = true := ygy c7
              clear c7
              obtain rfl := yey H
              have p101 : 0 ≤ (x5_1 : Int) := of_decide_eq_true (by first | (with_reducible assumption) | assumption)
              have q101 : x5_1 < (l0.length : Int) := of_decide_eq_true (by first | (with_reducible assumption) | assumption)
              obtain ⟨ad101, A101_0, c101_0, e101, hx101_0, hl101_0, hi101_0⟩ := Jd HR0.out x5_1 p101 q101
              cases e101
              have HR101_0 := zA.mk hi101_0
              have HC101_0 := zA.mk hl101_0
              clear hi101_0 hl101_0
              replace p101 := eq_true p101
              replace q101 := eq_true q101
              go_wp2_with (first | ((with_reducible refine ze (f := 112) rfl ?_); refine qP (some 23) rfl rfl Try.func112 (by kernel_rfl) rfl #[.slice A101_0 (ZG l0 x5_1).length c101_0, .int .i64 x1_1] rfl (by (try simp only [yiy, yjy, yky]); first | done | rfl | (simp only [yly, ymy]; rfl)) ?_; (with_reducible refine (Zr.calls _ _ (ZG l0 x5_1) x1_1 t102 _ ?side1 ?side2 A6.out).mono ?_); (case side1 => repeat (first | exact HR101_0.out | (with_reducible refine Kd.qB ?_ _) | (with_reducible refine Kd.qC ?_ _) | (with_reducible refine Kd.qW ?_))); (case side2 => exact HC101_0.out); rintro e w' ⟨rfl, ⟨nd, rfl⟩⟩; refine ⟨_, rfl, ?_⟩))
              go_ret
              exact ⟨by first | rfl | (simp; done) | (simp [*]; done), by repeat (first | exact zz.refl _ | apply zz.step)⟩
            · rw [if_neg c7] at H
              have c7b0 : decide (t102 < 0) = false := yhy c7
              clear c7
              have H' := zA.mk H
              clear H
              have p101 : 0 ≤ (x5_1 : Int) := of_decide_eq_true (by first | (with_reducible assumption) | assumption)
              have q101 : x5_1 < (l0.length : Int) := of_decide_eq_true (by first | (with_reducible assumption) | assumption)
              obtain ⟨ad101, A101_0, c101_0, e101, hx101_0, hl101_0, hi101_0⟩ := Jd HR0.out x5_1 p101 q101
              cases e101
              have HR101_0 := zA.mk hi101_0
              have HC101_0 := zA.mk hl101_0
              clear hi101_0 hl101_0
              replace p101 := eq_true p101
              replace q101 := eq_true q101
              go_wp2_with (first | ((with_reducible refine ze (f := 112) rfl ?_); refine qP (some 23) rfl rfl Try.func112 (by kernel_rfl) rfl #[.slice A101_0 (ZG l0 x5_1).length c101_0, .int .i64 x1_1] rfl (by (try simp only [yiy, yjy, yky]); first | done | rfl | (simp only [yly, ymy]; rfl)) ?_; (with_reducible refine (Zr.calls _ _ (ZG l0 x5_1) x1_1 t102 _ ?side1 ?side2 A6.out).mono ?_); (case side1 => repeat (first | exact HR101_0.out | (with_reducible refine Kd.qB ?_ _) | (with_reducible refine Kd.qC ?_ _) | (with_reducible refine Kd.qW ?_))); (case side2 => exact HC101_0.out); rintro e w' ⟨rfl, ⟨nd, rfl⟩⟩; refine ⟨_, rfl, ?_⟩))
              go_roundg k1
              case measure => have := HK1.out; omega
              case rel => exact ⟨(t102), (wrap64 (x5_1 + 1)), (by first | rfl | (simp; done) | (simp [*]; done)), (by first | rfl | (simp; done) | (simp [*]; done)), H', ⟨by have := HK1.out; omega⟩, by repeat (first | exact zz.refl _ | apply zz.step)⟩
          · rw [if_neg c5] at H
            exact absurd H (by simp)
        · rw [if_neg c4] at H
          have c4b0 : decide (x5_1 < (l0.length : Int)) = false := yhy c4
          clear c4
          obtain rfl := yey H
          go_wp2
          go_ret
          exact ⟨by first | rfl | (simp; done) | (simp [*]; done), by repeat (first | exact zz.refl _ | apply zz.step)⟩
def ZK.f (k : Nat) (l0_0 : List (List (qI))) (a1 : Int) : Option (Int) := (qK.f k l0_0 a1).bind fun t102 => (if t102 < 0 then (some (-1)) else (some t102))
set_option maxHeartbeats 8000000 in
set_option maxRecDepth 100000 in
theorem ZK.calls (k : Nat) (A0_0 : Option Addr) (c0_0 : Nat) (l0_0 : List (List (qI))) (a1 : Int) (r : Int) (w : World) (hr0_0 : Kd.C (Kd.slice 133 Zt) w A0_0 l0_0.length l0_0) (hc0_0 : l0_0.length ≤ c0_0) (h : ZK.f k l0_0 a1 = some r) :
    Calls Try.prog 15 #[.agg #[.slice A0_0 l0_0.length c0_0], .int .i64 a1] w fun e w' => e = .returned (.int .i64 r) ∧ Below w.heap.size w w' := by
  have hu24 := Try.underlying24
  have HR0_0 := zA.mk hr0_0
  have HC0_0 := zA.mk hc0_0
  clear hr0_0 hc0_0
  have HB := zA.mk (yqy w.heap.size w)
  have H : ((qK.f k l0_0 a1).bind fun t102 => (if t102 < 0 then (some (-1)) else (some t102))) = some r := h
  clear h
  replace H := ydy.mp H
  obtain ⟨t102, A30, H⟩ := H
  replace H : (if t102 < 0 then (some (-1)) else (some t102)) = some r := H
  have A3 := zA.mk A30
  clear A30
  by_cases c4 : t102 < 0
  · rw [if_pos c4] at H
    have c4b0 : decide (t102 < 0) = true := ygy c4
    clear c4
    obtain rfl := yey H
    go_enter Try.func15, Try.ntmps15
    go_wp2_with (first | ((with_reducible refine zm (N := 2) rfl ?_); refine zp ?hg (N := 2) ?hd (cs := #[.slice A0_0 l0_0.length c0_0]) (t := 24) ?hr ?_; (case hd => rfl); (case hg => rfl); (case hr => first | (go_simp; done) | (go_simp; rfl)); intro gb101 hg w5 hbox hb; have n0_ := zA.mk (zO (by repeat (first | (with_reducible first | exact HB.out | apply zD | apply zB | apply zE) | exact HB.out)) hb); have n1_ := zA.mk (hbox); have n2_ := zA.mk ((by rw [hg]; exact (zP (by repeat (first | (with_reducible first | exact HB.out | apply zD | apply zB | apply zE) | exact HB.out))) : w.heap.size ≤ gb101)); have n3_ := zA.mk ((by rw [hg]; exact (zP (by repeat (first | (with_reducible first | exact HB.out | apply zD | apply zB | apply zE) | exact HB.out))) : w.heap.size ≤ gb101)); clear HB; have HB := n0_; have BK101 := n1_; have GW101 := n2_; have GE101 := n3_; clear n0_ n1_ n2_ n3_; clear hb hbox hg; have hcz6_0 : w5.cell? ⟨gb101, 0, none⟩ = some (.slice A0_0 l0_0.length c0_0) := (zJ BK101.out 0).trans rfl; have hfz6_0 := zL BK101.out 0) | ((with_reducible refine ze (f := 51) rfl ?_); refine qP (some 8) rfl rfl Try.func51 (by kernel_rfl) rfl #[.slice A0_0 l0_0.length c0_0, .int .i64 a1] rfl (by (try simp only [yiy, yjy, yky]); first | done | rfl | (simp only [yly, ymy]; rfl)) ?_; (with_reducible refine (qK.calls k _ _ l0_0 a1 t102 _ ?side1 ?side2 A3.out).mono ?_); (case side1 => repeat (first | exact (Kd.qA HR0_0.out HB.out) | (with_reducible refine Kd.qB ?_ _) | (with_reducible refine Kd.qC ?_ _) | (with_reducible refine Kd.qW ?_))); (case side2 => exact HC0_0.out); rintro e w' ⟨rfl, ⟨nd, rfl⟩⟩; refine ⟨_, rfl, ?_⟩))
    go_ret
    exact ⟨by first | rfl | (simp [zX, zY] <;> rfl) | (simp [*, zX, zY] <;> rfl), by repeat (first | (with_reducible first | exact HB.out | apply zD | apply zB | apply zE | refine zG ?_ GE101.out) | exact HB.out)⟩
  · rw [if_neg c4] at H
    have c4b0 : decide (t102 < 0) = false := yhy c4
    clear c4
    obtain rfl := yey H
    go_enter Try.func15, Try.ntmps15
    go_wp2_with (first | ((with_reducible refine zm (N := 2) rfl ?_); refine zp ?hg (N := 2) ?hd (cs := #[.slice A0_0 l0_0.length c0_0]) (t := 24) ?hr ?_; (case hd => rfl); (case hg => rfl); (case hr => first | (go_simp; done) | (go_simp; rfl)); intro gb101 hg w7 hbox hb; have n0_ := zA.mk (zO (by repeat (first | (with_reducible first | exact HB.out | apply zD | apply zB | apply zE) | exact HB.out)) hb); have n1_ := zA.mk (hbox); have n2_ := zA.mk ((by rw [hg]; exact (zP (by repeat (first | (with_reducible first | exact HB.out | apply zD | apply zB | apply zE) | exact HB.out))) : w.heap.size ≤ gb101)); have n3_ := zA.mk ((by rw [hg]; exact (zP (by repeat (first | (with_reducible first | exact HB.out | apply zD | apply zB | apply zE) | exact HB.out))) : w.heap.size ≤ gb101)); clear HB; have HB := n0_; have BK101 := n1_; have GW101 := n2_; have GE101 := n3_; clear n0_ n1_ n2_ n3_; clear hb hbox hg; have hcz8_0 : w7.cell? ⟨gb101, 0, none⟩ = some (.slice A0_0 l0_0.length c0_0) := (zJ BK101.out 0).trans rfl; have hfz8_0 := zL BK101.out 0) | ((with_reducible refine ze (f := 51) rfl ?_); refine qP (some 8) rfl rfl Try.func51 (by kernel_rfl) rfl #[.slice A0_0 l0_0.length c0_0, .int .i64 a1] rfl (by (try simp only [yiy, yjy, yky]); first | done | rfl | (simp only [yly, ymy]; rfl)) ?_; (with_reducible refine (qK.calls k _ _ l0_0 a1 t102 _ ?side1 ?side2 A3.out).mono ?_); (case side1 => repeat (first | exact (Kd.qA HR0_0.out HB.out) | (with_reducible refine Kd.qB ?_ _) | (with_reducible refine Kd.qC ?_ _) | (with_reducible refine Kd.qW ?_))); (case side2 => exact HC0_0.out); rintro e w' ⟨rfl, ⟨nd, rfl⟩⟩; refine ⟨_, rfl, ?_⟩))
    go_ret
    exact ⟨by first | rfl | (simp [zX, zY] <;> rfl) | (simp [*, zX, zY] <;> rfl), by repeat (first | (with_reducible first | exact HB.out | apply zD | apply zB | apply zE | refine zG ?_ GE101.out) | exact HB.out)⟩
def Qf.f (a0_0 : Int) (a0_1 : Int) : Option (Int × Int) := some (a0_0, a0_1)
set_option maxHeartbeats 8000000 in
set_option maxRecDepth 100000 in
theorem Qf.calls (a0_0 : Int) (a0_1 : Int) (r1 : Int) (r2 : Int) (w : World) (h : Qf.f a0_0 a0_1 = some (r1, r2)) :
    Calls Try.prog 166 #[.agg #[.int .i64 a0_0, .int .i64 a0_1]] w fun e w' => e = .returned (.agg #[.int .i64 r1, .int .i64 r2]) ∧ Below w.heap.size w w' := by
  have hu133 := Try.underlying133
  have hu74 := Try.underlying74
  have HB := zA.mk (yqy w.heap.size w)
  have H : (some (a0_0, a0_1)) = some (r1, r2) := h
  clear h
  simp only [Option.some.injEq, Prod.mk.injEq] at H
  obtain ⟨rfl, rfl⟩ := H
  go_enter Try.func166, Try.ntmps166
  go_wp2_with (first | ((with_reducible refine zm (N := 1) rfl ?_); refine zp ?hg (N := 1) ?hd (cs := #[.int .i64 a0_0, .int .i64 a0_1]) (t := 133) ?hr ?_; (case hd => rfl); (case hg => rfl); (case hr => first | (go_simp; done) | (go_simp; rfl)); intro gb101 hg w2 hbox hb; have n0_ := zA.mk (zO (by repeat (first | (with_reducible first | exact HB.out | apply zD | apply zB | apply zE) | exact HB.out)) hb); have n1_ := zA.mk (hbox); have n2_ := zA.mk ((by rw [hg]; exact (zP (by repeat (first | (with_reducible first | exact HB.out | apply zD | apply zB | apply zE) | exact HB.out))) : w.heap.size ≤ gb101)); have n3_ := zA.mk ((by rw [hg]; exact (zP (by repeat (first | (with_reducible first | exact HB.out | apply zD | apply zB | apply zE) | exact HB.out))) : w.heap.size ≤ gb101)); clear HB; have HB := n0_; have BK101 := n1_; have GW101 := n2_; have GE101 := n3_; clear n0_ n1_ n2_ n3_; clear hb hbox hg) | ((with_reducible refine zm (N := 2) rfl ?_); refine zp ?hg (N := 2) ?hd (cs := #[.int .i64 0, .int .i64 0]) (t := 74) ?hr ?_; (case hd => rfl); (case hg => rfl); (case hr => first | (go_simp; done) | (go_simp; rfl)); intro gb102 hg w3 hbox hb; have n0_ := zA.mk (zN (g := gb101) (o := .cells #[.int .i64 a0_0, .int .i64 a0_1] 133 (0, 0)) (by (with_reducible repeat (first | refine zI ?_ _ | refine zK ?_ | refine zH ?_ _)); exact BK101.out) hb); have n1_ := zA.mk (zO (by repeat (first | (with_reducible first | exact HB.out | apply zD | apply zB | apply zE | refine zG ?_ GE101.out) | exact HB.out)) hb); have n2_ := zA.mk (hbox); have n3_ := zA.mk ((by rw [hg]; exact (zP (by repeat (first | (with_reducible first | exact HB.out | apply zD | apply zB | apply zE | refine zG ?_ GE101.out) | exact HB.out))) : w.heap.size ≤ gb102)); have n4_ := zA.mk ((by rw [hg]; exact (zP (by repeat (first | (with_reducible first | exact HB.out | apply zD | apply zB | apply zE | refine zG ?_ GE101.out) | exact HB.out))) : w.heap.size ≤ gb102)); have n5_ := zA.mk ((by rw [hg]; exact Nat.ne_of_lt (qE (g := gb101) (o := .cells #[.int .i64 a0_0, .int .i64 a0_1] 133 (0, 0)) (by (with_reducible repeat (first | refine zI ?_ _ | refine zK ?_ | refine zH ?_ _)); exact BK101.out)) : gb101 ≠ gb102)); have n6_ := zA.mk ((by rw [hg]; exact Nat.ne_of_gt (qE (g := gb101) (o := .cells #[.int .i64 a0_0, .int .i64 a0_1] 133 (0, 0)) (by (with_reducible repeat (first | refine zI ?_ _ | refine zK ?_ | refine zH ?_ _)); exact BK101.out)) : gb102 ≠ gb101)); clear BK101; clear HB; have BK101 := n0_; have HB := n1_; have BK102 := n2_; have GW102 := n3_; have GE102 := n4_; have NB101_102 := n5_; have NB102_101 := n6_; clear n0_ n1_ n2_ n3_ n4_ n5_ n6_; clear hb hbox hg) | ((with_reducible refine zm (N := 3) rfl ?_); refine zp ?hg (N := 3) ?hd (cs := #[.int .i64 0, .int .i64 0]) (t := 74) ?hr ?_; (case hd => rfl); (case hg => rfl); (case hr => first | (go_simp; done) | (go_simp; rfl)); intro gb103 hg w4 hbox hb; have n0_ := zA.mk (zN (g := gb101) (o := .cells #[.int .i64 a0_0, .int .i64 a0_1] 133 (0, 0)) (by (with_reducible repeat (first | refine zI ?_ _ | refine zK ?_ | refine zH ?_ _)); exact BK101.out) hb); have n1_ := zA.mk (zN (g := gb102) (o := .cells #[.int .i64 0, .int .i64 0] 74 (0, 0)) (by (with_reducible repeat (first | refine zI ?_ _ | refine zK ?_ | refine zH ?_ _)); exact BK102.out) hb); have n2_ := zA.mk (zO (by repeat (first | (with_reducible first | exact HB.out | apply zD | apply zB | apply zE | refine zG ?_ GE101.out | refine zG ?_ GE102.out) | exact HB.out)) hb); have n3_ := zA.mk (hbox); have n4_ := zA.mk ((by rw [hg]; exact (zP (by repeat (first | (with_reducible first | exact HB.out | apply zD | apply zB | apply zE | refine zG ?_ GE101.out | refine zG ?_ GE102.out) | exact HB.out))) : w.heap.size ≤ gb103)); have n5_ := zA.mk ((by rw [hg]; exact (zP (by repeat (first | (with_reducible first | exact HB.out | apply zD | apply zB | apply zE | refine zG ?_ GE101.out | refine zG ?_ GE102.out) | exact HB.out))) : w.heap.size ≤ gb103)); have n6_ := zA.mk ((by rw [hg]; exact Nat.ne_of_lt (qE (g := gb101) (o := .cells #[.int .i64 a0_0, .int .i64 a0_1] 133 (0, 0)) (by (with_reducible repeat (first | refine zI ?_ _ | refine zK ?_ | refine zH ?_ _)); exact BK101.out)) : gb101 ≠ gb103)); have n7_ := zA.mk ((by rw [hg]; exact Nat.ne_of_gt (qE (g := gb101) (o := .cells #[.int .i64 a0_0, .int .i64 a0_1] 133 (0, 0)) (by (with_reducible repeat (first | refine zI ?_ _ | refine zK ?_ | refine zH ?_ _)); exact BK101.out)) : gb103 ≠ gb101)); have n8_ := zA.mk ((by rw [hg]; exact Nat.ne_of_lt (qE (g := gb102) (o := .cells #[.int .i64 0, .int .i64 0] 74 (0, 0)) (by (with_reducible repeat (first | refine zI ?_ _ | refine zK ?_ | refine zH ?_ _)); exact BK102.out)) : gb102 ≠ gb103)); have n9_ := zA.mk ((by rw [hg]; exact Nat.ne_of_gt (qE (g := gb102) (o := .cells #[.int .i64 0, .int .i64 0] 74 (0, 0)) (by (with_reducible repeat (first | refine zI ?_ _ | refine zK ?_ | refine zH ?_ _)); exact BK102.out)) : gb103 ≠ gb102)); clear BK101; clear BK102; clear HB; have BK101 := n0_; have BK102 := n1_; have HB := n2_; have BK103 := n3_; have GW103 := n4_; have GE103 := n5_; have NB101_103 := n6_; have NB103_101 := n7_; have NB102_103 := n8_; have NB103_102 := n9_; clear n0_ n1_ n2_ n3_ n4_ n5_ n6_ n7_ n8_ n9_; clear hb hbox hg; have hnb5 := NB101_102.out; have hnc5 := NB102_101.out; have hnb6 := NB101_103.out; have hnc6 := NB103_101.out; have hcz7_0 : w4.cell? ⟨gb101, 0, none⟩ = some (.int .i64 a0_0) := (zJ BK101.out 0).trans rfl; have hcz7_1 : w4.cell? ⟨gb101, 1, none⟩ = some (.int .i64 a0_1) := (zJ BK101.out 1).trans rfl; have hfz7_0 := zL BK101.out 0; have hfz7_1 := zL BK101.out 1; have hnb8 := NB103_102.out; have hnc8 := NB102_103.out; have hcz9_0 : w4.cell? ⟨gb103, 0, none⟩ = some (.int .i64 0) := (zJ BK103.out 0).trans rfl; have hcz9_1 : w4.cell? ⟨gb103, 1, none⟩ = some (.int .i64 0) := (zJ BK103.out 1).trans rfl; have hfz9_0 := zL BK103.out 0; have hfz9_1 := zL BK103.out 1; have hcz10_0 : w4.cell? ⟨gb102, 0, none⟩ = some (.int .i64 0) := (zJ BK102.out 0).trans rfl; have hcz10_1 : w4.cell? ⟨gb102, 1, none⟩ = some (.int .i64 0) := (zJ BK102.out 1).trans rfl; have hfz10_0 := zL BK102.out 0; have hfz10_1 := zL BK102.out 1))
  refine bodyPost_ret (results_cell_row rfl _ _ gb102 74 #[.int .i64 a0_0, .int .i64 a0_1] (0, 0) _ rfl (by (with_reducible repeat (first | refine zI ?_ _ | refine zK ?_ | refine zH ?_ _)); refine qH (cs := #[.int .i64 a0_0, .int .i64 0]) ?_ 1 _ rfl; (with_reducible repeat (first | refine zI ?_ _ | refine zK ?_ | refine zH ?_ _)); refine qH (cs := #[.int .i64 0, .int .i64 0]) ?_ 0 _ rfl; (with_reducible repeat (first | refine zI ?_ _ | refine zK ?_ | refine zH ?_ _)); refine zv ?_ NB102_103.out _; (with_reducible repeat (first | refine zI ?_ _ | refine zK ?_ | refine zH ?_ _)); refine zv ?_ NB102_103.out _; (with_reducible repeat (first | refine zI ?_ _ | refine zK ?_ | refine zH ?_ _)); exact BK102.out) Try.underlying74 rfl (by kernel_rfl)) rfl ?_
  exact ⟨by first | rfl | (simp [zX, zY] <;> rfl) | (simp [*, zX, zY] <;> rfl), by repeat (first | (with_reducible first | exact HB.out | apply zD | apply zB | apply zE | refine zG ?_ GE101.out | refine zG ?_ GE102.out | refine zG ?_ GE103.out) | exact HB.out)⟩
def qY.l0 : Nat → List (qI) → List (zh) → Int → Option ((List (zh)))
  | 0, _, _, _ => none
  | k + 1, x0, x3, x4 => if x4 < (x0.length : Int) then (if 0 ≤ x4 then ((Qf.f ((Zl x0 x4).f0) ((Zl x0 x4).f1)).bind fun bt105 => (if x4 < (x3.length : Int) then (qY.l0 k x0 (x3.set (x4 : Int).toNat (⟨bt105.1, bt105.2⟩ : zh)) (wrap64 (x4 + 1))) else (none))) else (none)) else (some x3)
def qY.f (k : Nat) (l0 : List (qI)) : Option ((List (zh))) := if 0 ≤ (l0.length : Int) then (if ((l0.length : Int) : Int).toNat ≤ 17592186044416 then (qY.l0 k l0 (List.replicate ((l0.length : Int) : Int).toNat Qt) 0) else (none)) else (none)
set_option maxHeartbeats 8000000 in
set_option maxRecDepth 100000 in
theorem qY.calls (k : Nat) (A0 : Option Addr) (c0 : Nat) (l0 : List (qI)) (r : List (zh)) (w : World) (hr0 : Kd.C Zt w A0 l0.length l0) (hc0 : l0.length ≤ c0) (h : qY.f k l0 = some r) :
    Calls Try.prog 114 #[.slice A0 l0.length c0] w fun e w' => ∃ v0_ : Value, e = .returned (v0_) ∧ Kd.R qJ 74 w' w.heap.size (fun _ => True) v0_ r ∧ Below w.heap.size w w' := by
  have hu133 := Try.underlying133
  have hu74 := Try.underlying74
  have HR0 := zA.mk hr0
  have HC0 := zA.mk hc0
  clear hr0 hc0
  have HB := zA.mk (yqy w.heap.size w)
  have H : (if 0 ≤ (l0.length : Int) then (if ((l0.length : Int) : Int).toNat ≤ 17592186044416 then (qY.l0 k l0 (List.replicate ((l0.length : Int) : Int).toNat Qt) 0) else (none)) else (none)) = some r := h
  clear h
  by_cases c2 : 0 ≤ (l0.length : Int)
  · rw [if_pos c2] at H
    have c2b0 := eq_true c2
    have c2b1 : decide (0 ≤ (l0.length : Int)) = true := ygy c2
    clear c2
    by_cases c3 : ((l0.length : Int) : Int).toNat ≤ 17592186044416
    · rw [if_pos c3] at H
      have c3b0 := eq_true c3
      have c3b1 : decide (((l0.length : Int) : Int).toNat ≤ 17592186044416) = true := ygy c3
      clear c3
      obtain ⟨y101, hy101⟩ : ∃ y_ : List (zh), y_ = (List.replicate ((l0.length : Int) : Int).toNat Qt) := ⟨_, rfl⟩
      replace H : (qY.l0 k l0 y101 0) = some r := by first | (rw [hy101]; with_reducible exact H) | (have H2_ := (yfy _ _).symm.trans H; rw [hy101]; with_reducible exact H2_) | (have H2_ := (yfy _ _).symm.trans H; with_reducible exact H2_) | with_reducible exact H | (rw [hy101]; exact H) | exact H
      have Ny101 := zA.mk hy101
      clear hy101
      have H' := zA.mk H
      clear H
      go_enter Try.func114, Try.ntmps114
      go_wp2_with (first | ((with_reducible refine zm (N := 7) rfl ?_); refine Kd.zAu qJ _ 74 rfl (N := 7) rfl 75 _ _ rfl (l0.length : Int) rfl rfl Try.underlying75 (.agg #[(.int .i64 0), (.int .i64 0)]) 16 zDU rfl (by decide) (by omega) Qt (ok := fun _ => True) (okp := fun _ => True) (Zi _ _ _ Qt ) (fun _ hk => hk) trivial (of_decide_eq_true (by first | (with_reducible assumption) | assumption)) (Nat.le_trans (Nat.mul_le_mul_right _ (of_decide_eq_true (by first | (with_reducible assumption) | assumption) : (l0.length : Int).toNat ≤ 17592186044416)) (by omega)) (yqy _ _) (ypy _) ?_; intro v102 w4 ho5 hb hg_ hnew_; clear hg_ hnew_; (first | rw [← Ny101.out] at ho5 | (simp only [Int.reduceToNat] at ho5; rw [← Ny101.out] at ho5)); have n0_ := zA.mk (Kd.qy ho5 (zP (by repeat (first | (with_reducible first | exact HB.out | apply zD | apply zB | apply zE) | exact HB.out)))); have n1_ := zA.mk (zO (by repeat (first | (with_reducible first | exact HB.out | apply zD | apply zB | apply zE) | exact HB.out)) hb); clear HB; have HO103 := n0_; have HB := n1_; clear n0_ n1_; clear hb ho5))
      go_loopg [4] k (fun kq v4 w' => ∃ (x3_1 : List (zh)) (x4_1 : Int), v4 = .int .i64 x4_1 ∧ zA (qY.l0 kq l0 x3_1 x4_1 = some r) ∧ zA (kq ≤ k) ∧ zA (Kd.R qJ 74 w' w.heap.size (fun _ => True) v102 x3_1) ∧ zA (Below w.heap.size w w'))
      case atStart => exact ⟨(y101), (0), (by first | rfl | (simp; done) | (simp [*]; done)), H', ⟨ypy _⟩, ⟨by (with_reducible repeat (first | apply Kd.zZ | apply Kd.za | apply Kd.zf)); exact HO103.out⟩, ⟨by repeat (first | (with_reducible first | exact HB.out | apply zD | apply zB | apply zE) | exact HB.out)⟩⟩
      case round =>
        clear H'
        try clear c1
        try clear c2
        try clear c2b0
        try clear c2b1
        try clear p2
        try clear c3
        try clear c3b0
        try clear c3b1
        obtain ⟨x3_1, x4_1, rfl, HA, HK1, HO_3, HB⟩ := hrel
        cases gk with
        | zero => exact absurd HA.out (by simp [qY.l0])
        | succ k1 =>
          have H := HA.out
          clear HA
          simp only [qY.l0] at H
          by_cases c6 : x4_1 < (l0.length : Int)
          · rw [if_pos c6] at H
            have c6b0 : decide (x4_1 < (l0.length : Int)) = true := ygy c6
            clear c6
            by_cases c7 : 0 ≤ x4_1
            · rw [if_pos c7] at H
              have c7b0 : decide (0 ≤ x4_1) = true := ygy c7
              clear c7
              replace H := ydy.mp H
              obtain ⟨⟨t105, t106⟩, A80, H⟩ := H
              replace H : (if x4_1 < (x3_1.length : Int) then (qY.l0 k1 l0 (x3_1.set (x4_1 : Int).toNat (⟨t105, t106⟩ : zh)) (wrap64 (x4_1 + 1))) else (none)) = some r := H
              have A8 := zA.mk A80
              clear A80
              by_cases c9 : x4_1 < (x3_1.length : Int)
              · rw [if_pos c9] at H
                have c9b0 : decide (x4_1 < (x3_1.length : Int)) = true := ygy c9
                clear c9
                obtain ⟨y107, hy107⟩ : ∃ y_ : List (zh), y_ = (x3_1.set (x4_1 : Int).toNat (⟨t105, t106⟩ : zh)) := ⟨_, rfl⟩
                replace H : (qY.l0 k1 l0 y107 (wrap64 (x4_1 + 1))) = some r := by first | (rw [hy107]; with_reducible exact H) | (have H2_ := (yfy _ _).symm.trans H; rw [hy107]; with_reducible exact H2_) | (have H2_ := (yfy _ _).symm.trans H; with_reducible exact H2_) | with_reducible exact H | (rw [hy107]; exact H) | exact H
                have Ny107 := zA.mk hy107
                clear hy107
                have H' := zA.mk H
                clear H
                have p104 : 0 ≤ (x4_1 : Int) := of_decide_eq_true (by first | (with_reducible assumption) | assumption)
                have q104 : x4_1 < (l0.length : Int) := of_decide_eq_true (by first | (with_reducible assumption) | assumption)
                obtain ⟨ad104, e104, hx104_0, hx104_1⟩ := zCu HR0.out x4_1 p104 q104
                cases e104
                replace hx104_0 := (HB.out.cell (yoy w _ hx104_0)).trans hx104_0
                replace hx104_1 := (HB.out.cell (yoy w _ hx104_1)).trans hx104_1
                replace p104 := eq_true p104
                replace q104 := eq_true q104
                go_wp2_with (first | ((with_reducible refine ze (f := 166) rfl ?_); refine qP (some 20) rfl rfl Try.func166 (by kernel_rfl) rfl #[.agg #[.int .i64 ((Zl l0 x4_1).f0), .int .i64 ((Zl l0 x4_1).f1)]] rfl (by (try simp only [yiy, yjy, yky]); first | done | rfl | (simp only [yly, ymy]; rfl)) ?_; (with_reducible refine (Qf.calls ((Zl l0 x4_1).f0) ((Zl l0 x4_1).f1) t105 t106 _ A8.out).mono ?_); rintro e w11 ⟨rfl, hb⟩; refine ⟨_, rfl, ?_⟩; have n0_ := zA.mk (Kd.qe (by (with_reducible repeat (first | apply Kd.zZ | apply Kd.za | apply Kd.zf)); exact HO_3.out) hb); have n1_ := zA.mk (zO (by repeat (first | (with_reducible first | exact HB.out | apply zD | apply zB | apply zE) | exact HB.out)) hb); clear HO_3; clear HB; have HO_3 := n0_; have HB := n1_; clear n0_ n1_; (try clear hb); (try clear hb2); (try clear hk); (try clear hi); have p10 : 0 ≤ (x4_1 : Int) := of_decide_eq_true (by first | (with_reducible assumption) | assumption); have q10 : (x4_1 : Int) < ((x3_1.length : Int) : Int) := of_decide_eq_true (by first | (with_reducible assumption) | assumption); obtain ⟨go10, co10, eo10, gb10, gl10, cl10, HG10⟩ := Kd.JJ HO_3.out (by omega); (first | cases eo10 | (injection eo10 with ea_ en_ ec_; (first | subst ea_ | (injection ea_ with ea_; subst ea_)); subst ec_; clear en_)); have GB10 := zA.mk gb10; have GG10 := zA.mk HG10; clear gb10 gl10 HG10; obtain ⟨ce10, hcl10, hM10, hcc10, hfr10⟩ := Kd.zAA HO_3.out Qt (x4_1 : Int) p10 q10; obtain rfl := QC hM10; have hx10_0 : w11.cell? ⟨go10, (x4_1 : Int).toNat * 2, none⟩ = some (.int .i64 ((zF x3_1 x4_1).f0)) := hcc10 0 _ rfl; have hx10_1 : w11.cell? ⟨go10, (x4_1 : Int).toNat * 2 + 1, none⟩ = some (.int .i64 ((zF x3_1 x4_1).f1)) := hcc10 1 _ rfl; have hf10_0 : w11.frozen? ⟨go10, (x4_1 : Int).toNat * 2, none⟩ = false := hfr10 0; have hf10_1 : w11.frozen? ⟨go10, (x4_1 : Int).toNat * 2 + 1, none⟩ = false := hfr10 1; clear hcl10 hcc10 hfr10; (try clear hM10); replace p10 := eq_true p10; replace q10 := eq_true q10; have HX12 := zA.mk (show Kd.R qJ 74 w11 w.heap.size (fun _ => True) (.slice (some ⟨go10, 0, none⟩) x3_1.length co10) x3_1 from (by (with_reducible repeat (first | apply Kd.zZ | apply Kd.za | apply Kd.zf)); exact HO_3.out)); obtain ⟨ce12, hcl12, hM12, hcc12, hfr12⟩ := Kd.zAA HX12.out Qt (x4_1 : Int) (of_decide_eq_true (by first | (with_reducible assumption) | assumption)) (by have h_ : (x4_1 : Int) < ((x3_1.length : Int) : Int) := of_decide_eq_true (by first | (with_reducible assumption) | assumption); first | exact h_ | (have e_ := (Kd.zj HO_3.out).1; omega) | simpa using h_); obtain rfl := QC hM12; have HP12 := Kd.zDH HX12.out (x4_1 : Int) (of_decide_eq_true (by first | (with_reducible assumption) | assumption)) (by have h_ : (x4_1 : Int) < ((x3_1.length : Int) : Int) := of_decide_eq_true (by first | (with_reducible assumption) | assumption); first | exact h_ | (have e_ := (Kd.zj HO_3.out).1; omega) | simpa using h_) (seg := [.int .i64 t105, .int .i64 t106]) (j := 0) hcl12 hcc12 (show 2 ≤ 2 from by decide) (x' := (⟨t105, t106⟩ : zh)) (Zi _ _ _ (⟨t105, t106⟩ : zh) ) (fun _ hk => hk); have hx12_0 := hcc12 0 _ rfl; (try simp only [show (qJ).sz = 2 from rfl, Nat.mul_one, Nat.add_zero] at hx12_0); have hf12_0 := hfr12 0; (try simp only [show (qJ).sz = 2 from rfl, Nat.mul_one, Nat.add_zero] at hf12_0); have hx12_1 := hcc12 1 _ rfl; (try simp only [show (qJ).sz = 2 from rfl, Nat.mul_one, Nat.add_zero] at hx12_1); have hf12_1 := hfr12 1; (try simp only [show (qJ).sz = 2 from rfl, Nat.mul_one, Nat.add_zero] at hf12_1); clear hcl12 hcc12 hfr12 hM12) | ((with_reducible refine Zk (t := 74) (p := 21) rfl ?_); refine ZW (t := 74) (p := 21) (v := ?vo_w13) (w1 := ((w11.setCell ⟨go10, (x4_1 : Int).toNat * 2, none⟩ (.int .i64 t105)).setCell ⟨go10, (x4_1 : Int).toNat * 2 + 1, none⟩ (.int .i64 t106))) ?hg ?ho ?hn ?hr ?_; (case ho => rfl); (case hg => rfl); (case hn => rfl); (case hr => first | (go_simp; done) | (go_simp; rfl)); intro w13 hw; have hg : w11.grownBy w13 (some go10) := (by rw [hw]; exact HP12.2); have hp_ : Kd.R qJ 74 w13 w.heap.size (fun _ => True) (.slice (some ⟨go10, 0, none⟩) x3_1.length co10) y107 := (by rw [hw, Ny107.out]; exact HP12.1); clear HP12; have n0_ := zA.mk (hp_); have n1_ := zA.mk ((by rw [hw]; exact zG (zG (HB.out) GB10.out) GB10.out : Below w.heap.size w w13)); clear HO_3; clear HB; have HO_3 := n0_; have HB := n1_; clear n0_ n1_; clear hg hw hp_))
                go_roundg k1
                case measure => have := HK1.out; omega
                case rel => exact ⟨(y107), (wrap64 (x4_1 + 1)), (by first | rfl | (simp; done) | (simp [*]; done)), H', ⟨by have := HK1.out; omega⟩, ⟨by (with_reducible repeat (first | apply Kd.zZ | apply Kd.za | apply Kd.zf)); exact HO_3.out⟩, ⟨by repeat (first | (with_reducible first | exact HB.out | apply zD | apply zB | apply zE) | exact HB.out)⟩⟩
              · rw [if_neg c9] at H
                exact absurd H (by simp)
            · rw [if_neg c7] at H
              exact absurd H (by simp)
          · rw [if_neg c6] at H
            have c6b0 : decide (x4_1 < (l0.length : Int)) = false := yhy c6
            clear c6
            obtain rfl := yey H
            go_wp2
            go_ret
            exact ⟨_, by first | rfl | (simp [zX, zY] <;> rfl) | (simp [*, zX, zY] <;> rfl), by (with_reducible repeat (first | apply Kd.zZ | apply Kd.za | apply Kd.zf)); exact HO_3.out, by repeat (first | (with_reducible first | exact HB.out | apply zD | apply zB | apply zE) | exact HB.out)⟩
    · rw [if_neg c3] at H
      exact absurd H (by simp)
  · rw [if_neg c2] at H
    exact absurd H (by simp)
end Go.Proofs.Ytdgdnnjigigkcaa.P
