/- The statement FnExactAreCompatibleSaid, proved: part 7 of 7 (texts of this session and of the kit's print, put together and cut to what is used by a program of it). -/
import Derived.Test.YthjpdljdodalaaaMFnExactAreCompatible6
import Derived.Deep.Slices
import Derived.ChangeSame
import Derived.ChangeArms
import Derived.WideShapes
import Derived.Lib.SmallJoins
import Derived.ChangeShapes
import Derived.Test.YthjpdljdodalaaaRows
import Derived.WalkKit
import Derived.ProofKit
import Derived.OpenShut
import Derived.ShutString
import Derived.ChangeOld
import Derived.Below
import Derived.SizedLaws
import Derived.Carry
namespace Go.Proofs.Ythjpdljdodalaaa.P
open Go.RowKit Go.Proofs.YthjpdljdodalaaaW.PrintWords Go.Proofs.Ythjpdljdodalaaa.Lib
set_option linter.unusedVariables false
abbrev fc (t : Tri) (a f : Int) : qI := zG (zE t a) f
def zAT (t : Tri) (a f : Int) : Bool :=
  if (fc t a f).f0 = -1 then (fc t a f).f1 == 0
  else if 0 ≤ (fc t a f).f0 ∧ (fc t a f).f0 < (t.length : Int) ∧ 0 ≤ (fc t a f).f1 ∧ (fc t a f).f1 ≤ 23 then
    ((fc t (fc t a f).f0 (rd (ZD (fc t a f).f1) f)).f0 == a && (fc t (fc t a f).f0 (rd (ZD (fc t a f).f1) f)).f1 == zDa (fc t a f).f1) && !((fc t a f).f0 == a && rd (ZD (fc t a f).f1) f == f)
  else false
def Qr (t : Tri) (a : Int) : Int → Nat → Bool
  | _, 0 => true
  | f, d + 1 => zAT t a f && Qr t a (f + 1) d
def JZ (t : Tri) : Int → Nat → Bool
  | _, 0 => true
  | a, d + 1 => Qr t a 0 4 && JZ t (a + 1) d
def QH (t : Tri) : Bool := decide (t.length ≤ 8) && (t.all (fun r => decide (r.length = 4)) && JZ t 0 t.length)
section
variable {t : Tri}
theorem zFV (h4 : ∀ r ∈ t, r.length = 4) {a : Int} (h0 : 0 ≤ a) (h1 : a < t.length) : (zE t a).length = 4 := by
  obtain ⟨n, rfl⟩ := Int.eq_ofNat_of_zero_le h0
  rw [Qe t n (by omega)]
  exact h4 _ (List.getElem_mem _)
theorem zB5 (h4 : ∀ r ∈ t, r.length = 4) (hn : t.length ≤ 8) {a f : Int} (h0 : 0 ≤ a) (h1 : a < t.length) (hf0 : 0 ≤ f) (hf1 : f ≤ 3) : Ev (fun k => zS.f k t a f) (zAT t a f) := by
  have hr := zFV h4 h0 h1
  refine Ev.congr (fun k => by unfold zS.f; rw [if_pos h0, if_pos h1, if_pos hf0, if_pos (by omega)]) ?_
  change Ev (fun k => if (fc t a f).f0 = -1 then some ((fc t a f).f1 == 0) else _) (zAT t a f)
  unfold zAT
  by_cases hb : (fc t a f).f0 = -1
  · rw [if_pos hb]; exact ql hb (Ev.now _)
  · refine ZR hb ?_
    rw [if_neg hb]
    have hix : qg.f t (fc t a f).f0 = some (decide (0 ≤ (fc t a f).f0) && decide ((fc t a f).f0 ≤ (t.length : Int) - 1)) := by
      unfold qg.f qi.f
      rw [yfy, qt (by omega) (by omega), zA8]; rfl
    have hfalse : Ev (fun k => zS.j0 k a f true t (fc t a f).f0 (fc t a f).f1) false := qh (fun k => by rw [zS.j0, if_pos rfl]) (Ev.now false)
    refine Ev.bind (Qh hix) ?_
    by_cases hi : 0 ≤ (fc t a f).f0 ∧ (fc t a f).f0 < (t.length : Int)
    · refine ql (by simp; omega) ?_
      refine Ev.bind (Qh (zEI _)) ?_
      by_cases hp : 0 ≤ (fc t a f).f1 ∧ (fc t a f).f1 ≤ 23
      · rw [if_pos ⟨hi.1, hi.2, hp.1, hp.2⟩]
        have e : (!(decide (0 ≤ (fc t a f).f1) && decide ((fc t a f).f1 ≤ 23))) = false := by simp [hp]
        rw [e]
        refine qh (fun k => by rw [zS.j0, if_neg (by simp), zEK hp.1 hp.2 hf0 hf1, yfy]) ?_
        obtain ⟨hg0, hg1⟩ := Js hp.1 hp.2 hf0 hf1
        have hr2 := zFV h4 hi.1 hi.2
        refine ql hi.1 (ql hi.2 (ql hg0 (ql (by rw [hr2]; omega) ?_)))
        refine Ev.bind (Qh (zDf hp.1 hp.2)) ?_
        change Ev (fun k => if ((fc t (fc t a f).f0 (rd (ZD (fc t a f).f1) f)).f0 == a && (fc t (fc t a f).f0 (rd (ZD (fc t a f).f1) f)).f1 == zDa (fc t a f).f1) = true then _ else _) _
        generalize ((fc t (fc t a f).f0 (rd (ZD (fc t a f).f1) f)).f0 == a && (fc t (fc t a f).f0 (rd (ZD (fc t a f).f1) f)).f1 == zDa (fc t a f).f1) = b
        cases b with
        | false => refine ZR (by simp) ?_; rw [Bool.false_and]; exact Ev.now false
        | true =>
          refine ql rfl ?_
          rw [Bool.true_and]
          by_cases ha : (fc t a f).f0 = a
          · refine ql ha (Qj ?_)
            rw [ha]; simp [bne]
          · refine ZR ha (Qj ?_)
            simp [ha]
      · rw [if_neg (by omega)]
        have e : (!(decide (0 ≤ (fc t a f).f1) && decide ((fc t a f).f1 ≤ 23))) = true := by
          rw [Bool.not_eq_true', Bool.and_eq_false_iff, decide_eq_false_iff_not, decide_eq_false_iff_not]; omega
        rw [e]
        exact hfalse
    · rw [if_neg (by omega)]
      refine ZR ?_ hfalse
      rw [Bool.and_eq_true, decide_eq_true_eq, decide_eq_true_eq]; omega
theorem zBQ (h4 : ∀ r ∈ t, r.length = 4) (hn : t.length ≤ 8) {a : Int} (h0 : 0 ≤ a) (h1 : a < t.length) {R : Bool} (hR : Ev (fun k => zT.l0 k (t.length : Int) (a + 1) t) R) :
    ∀ (d : Nat) (f : Int), 0 ≤ f → f + d = 4 → Ev (fun k => zT.l1 k a (t.length : Int) a f t) (Qr t a f d && R)
  | 0, f, hf, he => by
    refine qh (fun k => by rw [zT.l1, if_neg (by omega), qt (by omega) (by omega)]) ?_
    rw [Qr, Bool.true_and]; exact hR
  | d + 1, f, hf, he => by
    refine qh (fun k => by rw [zT.l1, if_pos (by omega)]) ?_
    refine Ev.bind (zB5 h4 hn h0 h1 hf (by omega)) ?_
    rw [Qr]
    cases hg : zAT t a f with
    | false => exact ZR (by simp) (by rw [Bool.false_and, Bool.false_and]; exact Ev.now false)
    | true =>
      refine ql rfl ?_
      rw [Bool.true_and]
      exact Ev.congr (fun k => by rw [qt (by omega) (by omega)]) (zBQ h4 hn h0 h1 hR d (f + 1) (by omega) (by omega))
theorem zBR (h4 : ∀ r ∈ t, r.length = 4) (hn : t.length ≤ 8) : ∀ (d : Nat) (a : Int), 0 ≤ a → a + d = t.length → Ev (fun k => zT.l0 k (t.length : Int) a t) (JZ t a d)
  | 0, a, ha, he => by
    refine qh (fun k => by rw [zT.l0, if_neg (by omega)]) ?_
    exact Ev.now true
  | d + 1, a, ha, he => by
    refine qh (fun k => by rw [zT.l0, if_pos (by omega)]) ?_
    rw [JZ]
    exact zBQ h4 hn ha (by omega) (zBR h4 hn d (a + 1) (by omega) (by omega)) 4 0 (by omega) (by omega)
theorem zC0 : t.all (fun r => decide (r.length = 4)) = true ↔ ∀ r ∈ t, r.length = 4 := by simp
theorem zEM (h : Small t) : zh.f t = some (!(t.all fun r => decide (r.length = 4))) := by
  unfold zh.f zz.f
  rw [contO (p := fun r => !(decide (r.length = 4))) t (fun r _ => by
    show qf.f r = _
    unfold qf.f
    congr 1
    by_cases h : r.length = 4
    · simp [h]
    · have : ¬ ((r.length : Int) = 4) := by omega
      simp [h, this]), List.not_all_eq_any_not]
theorem zC1 (h : Small t) : Ev (fun k => zT.f k t) (QH t) := by
  have hfalse : Ev (fun k => zT.j0 k true t) false := qh (fun k => by rw [zT.j0, if_pos rfl]) (Ev.now false)
  unfold QH
  by_cases h8 : t.length ≤ 8
  · refine Ev.congr (fun k => by unfold zT.f; rw [if_neg (by omega), zEM h, yfy]) ?_
    rw [ygy h8, Bool.true_and]
    cases hall : t.all (fun r => decide (r.length = 4)) with
    | false => rw [Bool.false_and]; exact hfalse
    | true =>
      rw [Bool.true_and]
      refine qh (fun k => by rw [zT.j0, if_neg (by simp)]) ?_
      exact zBR (zC0.1 hall) h8 t.length 0 (by omega) (by omega)
  · refine Ev.congr (fun k => by unfold zT.f; rw [if_pos (by omega)]) ?_
    rw [yhy h8, Bool.false_and]; exact hfalse
theorem zBS (h4 : ∀ r ∈ t, r.length = 4) (hn : t.length ≤ 8) {a : Int} (h0 : 0 ≤ a) (h1 : a < t.length) {R : Bool} (hR : Ev (fun k => zJ.l1 k (a + 1) t) R) :
    ∀ (d : Nat) (f : Int), 0 ≤ f → f + d = 4 → Ev (fun k => zJ.l2 k a f t) (Qr t a f d && R)
  | 0, f, hf, he => by
    refine qh (fun k => by rw [zJ.l2, if_neg (by omega), qt (by omega) (by omega)]) ?_
    rw [Qr, Bool.true_and]; exact hR
  | d + 1, f, hf, he => by
    have hr := zFV h4 h0 h1
    have ih : Ev (fun k => zJ.l2 k a (wrap64 (f + 1)) t) (Qr t a (f + 1) d && R) := Ev.congr (fun k => by rw [qt (by omega) (by omega)]) (zBS h4 hn h0 h1 hR d (f + 1) (by omega) (by omega))
    refine qh (fun k => by rw [zJ.l2, if_pos (by omega), if_pos h0, if_pos h1, if_pos hf, if_pos (by omega)]) ?_
    change Ev (fun k => if (fc t a f).f0 = -1 then zJ.j3 k a f ((fc t a f).f1 == 0) t (fc t a f).f0 (fc t a f).f1 else zJ.j3 k a f false t (fc t a f).f0 (fc t a f).f1) _
    rw [Qr]
    have hstop : ∀ b, Ev (fun k => zJ.j4 k a f true t (fc t a f).f0 (fc t a f).f1) (false && b) := fun b => by
      rw [Bool.false_and]; exact qh (fun k => by rw [zJ.j4, if_pos rfl]) (Ev.now false)
    have hgo : Ev (fun k => zJ.j3 k a f true t (fc t a f).f0 (fc t a f).f1) (Qr t a (f + 1) d && R) := qh (fun k => by rw [zJ.j3, if_pos rfl]) ih
    have hrest : (¬ ((fc t a f).f0 = -1 ∧ (fc t a f).f1 = 0)) → Ev (fun k => zJ.j3 k a f false t (fc t a f).f0 (fc t a f).f1) (zAT t a f && Qr t a (f + 1) d && R) := by
      intro hnb
      refine qh (fun k => by rw [zJ.j3, zr.f, if_neg (by simp), yfy, zEs, yfy, qt (by omega) (by omega)]) ?_
      unfold zAT
      by_cases hi : 0 ≤ (fc t a f).f0 ∧ (fc t a f).f0 < (t.length : Int)
      · refine ql (by simp; omega) ?_
        refine Ev.bind (Qh (zCt _)) ?_
        rw [if_neg (by omega)]
        by_cases hp : 0 ≤ (fc t a f).f1 ∧ (fc t a f).f1 ≤ 23
        · rw [if_pos ⟨hi.1, hi.2, hp.1, hp.2⟩]
          have e : (!(decide (0 ≤ (fc t a f).f1) && decide ((fc t a f).f1 ≤ 23))) = false := by simp [hp]
          rw [e]
          obtain ⟨hg0, hg1⟩ := Js hp.1 hp.2 hf (by omega)
          have hr2 := zFV h4 hi.1 hi.2
          refine qh (fun k => by rw [zJ.j4, if_neg (by simp)]) ?_
          refine Ev.bind (zAW hp.1 hp.2 hf (by omega)) ?_
          refine Ev.bind (zDe hp.1 hp.2) ?_
          refine ql hi.1 (ql hi.2 (ql hg0 (ql (by rw [hr2]; omega) ?_)))
          change Ev (fun k => if (!((fc t (fc t a f).f0 (rd (ZD (fc t a f).f1) f)).f0 == a) || !((fc t (fc t a f).f0 (rd (ZD (fc t a f).f1) f)).f1 == zDa (fc t a f).f1)) = true then _ else _) _
          generalize ((fc t (fc t a f).f0 (rd (ZD (fc t a f).f1) f)).f0 == a) = b1
          generalize ((fc t (fc t a f).f0 (rd (ZD (fc t a f).f1) f)).f1 == zDa (fc t a f).f1) = b2
          cases b1 with
          | false => exact ql rfl (by rw [Bool.false_and, Bool.false_and, Bool.false_and, Bool.false_and]; exact Ev.now false)
          | true =>
            cases b2 with
            | false => exact ql rfl (by rw [Bool.true_and, Bool.false_and, Bool.false_and, Bool.false_and]; exact Ev.now false)
            | true =>
              refine ZR (by simp) ?_
              rw [Bool.true_and, Bool.true_and]
              by_cases ha : (fc t a f).f0 = a
              · refine ql ha ?_
                by_cases hg : rd (ZD (fc t a f).f1) f = f
                · refine ql hg ?_
                  rw [ha, hg]
                  simp
                  exact Ev.now false
                · refine ZR hg ?_
                  have : (rd (ZD (fc t a f).f1) f == f) = false := by simp [hg]
                  rw [this, Bool.and_false, Bool.not_false, Bool.true_and]
                  exact ih
              · refine ZR ha ?_
                have : ((fc t a f).f0 == a) = false := by simp [ha]
                rw [this, Bool.false_and, Bool.not_false, Bool.true_and]
                exact ih
        · rw [if_neg (by omega)]
          have e : (!(decide (0 ≤ (fc t a f).f1) && decide ((fc t a f).f1 ≤ 23))) = true := by
            rw [Bool.not_eq_true', Bool.and_eq_false_iff, decide_eq_false_iff_not, decide_eq_false_iff_not]; omega
          rw [e, Bool.false_and]
          exact hstop R
      · have hg : (if (fc t a f).f0 = -1 then ((fc t a f).f1 == 0) else if 0 ≤ (fc t a f).f0 ∧ (fc t a f).f0 < (t.length : Int) ∧ 0 ≤ (fc t a f).f1 ∧ (fc t a f).f1 ≤ 23 then
            ((fc t (fc t a f).f0 (rd (ZD (fc t a f).f1) f)).f0 == a && (fc t (fc t a f).f0 (rd (ZD (fc t a f).f1) f)).f1 == zDa (fc t a f).f1) && !((fc t a f).f0 == a && rd (ZD (fc t a f).f1) f == f) else false) = false := by
          by_cases hb : (fc t a f).f0 = -1
          · rw [if_pos hb]; simp; intro h; exact hnb ⟨hb, h⟩
          · rw [if_neg hb, if_neg (by omega)]
        rw [hg, Bool.false_and]
        refine ZR ?_ (hstop R)
        rw [Bool.and_eq_true, decide_eq_true_eq, decide_eq_true_eq]; omega
    by_cases hb : (fc t a f).f0 = -1
    · refine ql hb ?_
      by_cases h0' : (fc t a f).f1 = 0
      · have e : zAT t a f = true := by unfold zAT; rw [if_pos hb]; simp [h0']
        rw [e, Bool.true_and]
        have e2 : ((fc t a f).f1 == 0) = true := by simp [h0']
        rw [e2]; exact hgo
      · have e2 : ((fc t a f).f1 == 0) = false := by simp [h0']
        rw [e2]; exact hrest (fun h => h0' h.2)
    · exact ZR hb (hrest (fun h => hb h.1))
theorem zBT (h4 : ∀ r ∈ t, r.length = 4) (hn : t.length ≤ 8) : ∀ (d : Nat) (a : Int), 0 ≤ a → a + d = t.length → Ev (fun k => zJ.l1 k a t) (JZ t a d)
  | 0, a, ha, he => by
    refine qh (fun k => by rw [zJ.l1, zr.f, yfy, if_neg (by omega)]) ?_
    exact Ev.now true
  | d + 1, a, ha, he => by
    refine qh (fun k => by rw [zJ.l1, zr.f, yfy, if_pos (by omega)]) ?_
    rw [JZ]
    exact zBS h4 hn ha (by omega) (zBT h4 hn d (a + 1) (by omega) (by omega)) 4 0 (by omega) (by omega)
theorem zDi (h8 : t.length ≤ 8) (d : Nat) : ∀ n : Nat, n + d = t.length → (t.all (fun r => decide (r.length = 4)) = (t.drop n).all (fun r => decide (r.length = 4))) → Ev (fun k => zJ.l0 k (n : Int) t) (t.all (fun r => decide (r.length = 4)) && JZ t 0 t.length) := by
  induction d with
  | zero =>
    intro n hn ha
    refine qh (fun k => by rw [zJ.l0, if_neg (by omega)]) ?_
    have hall : t.all (fun r => decide (r.length = 4)) = true := by rw [ha, List.drop_eq_nil_of_le (by omega)]; rfl
    rw [hall, Bool.true_and]
    exact zBT (zC0.1 hall) h8 t.length 0 (by omega) (by omega)
  | succ d ih =>
    intro n hn ha
    have hlt : n < t.length := by omega
    refine qh (fun k => by rw [zJ.l0, if_pos (by omega), if_pos (by omega), Qe t n hlt]) ?_
    rw [yoy hlt, List.all_cons] at ha
    by_cases h : t[n].length = 4
    · refine ql (by omega) ?_
      refine Ev.congr (fun k => by rw [ZK (by omega)]) (ih (n + 1) (by omega) ?_)
      rw [ha, ygy h, Bool.true_and]
    · refine ZR (by omega) ?_
      rw [ha, yhy h, Bool.false_and, Bool.false_and]
      exact Ev.now false
theorem zC2 (t : Tri) : Ev (fun k => zJ.f k t) (QH t) := by
  refine Ev.congr (fun k => by unfold zJ.f zr.f; rw [yfy]) ?_
  unfold QH
  by_cases h8 : t.length ≤ 8
  · refine ZR (by omega) ?_
    rw [ygy h8, Bool.true_and]
    exact zDi h8 t.length 0 (by omega) (by rw [List.drop_zero])
  · refine ql (by omega) ?_
    rw [yhy h8, Bool.false_and]
    exact Ev.now false
end
theorem ZX {t : Tri} (h : QH t = true) : t.length ≤ 8 ∧ (∀ r ∈ t, r.length = 4) ∧ JZ t 0 t.length = true := by
  unfold QH at h
  rw [Bool.and_eq_true, Bool.and_eq_true, decide_eq_true_eq] at h
  exact ⟨h.1, zC0.1 h.2.1, h.2.2⟩
theorem zEN (t : Tri) (a : Int) (d : Nat) : ∀ f, Qr t a f d = true → ∀ g, f ≤ g → g < f + d → zAT t a g = true := by
  induction d with
  | zero => intro f _ g h1 h2; omega
  | succ d ih =>
    intro f h g h1 h2
    rw [Qr, Bool.and_eq_true] at h
    by_cases e : g = f
    · rw [e]; exact h.1
    · exact ih (f + 1) h.2 g (by omega) (by omega)
theorem zEO (t : Tri) (d : Nat) : ∀ a, JZ t a d = true → ∀ b, a ≤ b → b < a + d → ∀ g, 0 ≤ g → g ≤ 3 → zAT t b g = true := by
  induction d with
  | zero => intro a _ b h1 h2; omega
  | succ d ih =>
    intro a h b h1 h2 g hg0 hg1
    rw [JZ, Bool.and_eq_true] at h
    by_cases e : b = a
    · rw [e]; exact zEN t a 4 0 h.1 g hg0 (by omega)
    · exact ih (a + 1) h.2 b (by omega) (by omega) g hg0 hg1
theorem Jw {t : Tri} (h : QH t = true) {a f : Int} (h0 : 0 ≤ a) (h1 : a < t.length) (hf0 : 0 ≤ f) (hf1 : f ≤ 3) :
    ((fc t a f).f0 = -1 ∧ (fc t a f).f1 = 0) ∨
    ((0 ≤ (fc t a f).f0 ∧ (fc t a f).f0 < (t.length : Int) ∧ 0 ≤ (fc t a f).f1 ∧ (fc t a f).f1 ≤ 23) ∧
      (fc t (fc t a f).f0 (rd (ZD (fc t a f).f1) f)).f0 = a ∧ (fc t (fc t a f).f0 (rd (ZD (fc t a f).f1) f)).f1 = zDa (fc t a f).f1 ∧ ¬ ((fc t a f).f0 = a ∧ rd (ZD (fc t a f).f1) f = f)) := by
  have hg := zEO t t.length 0 (ZX h).2.2 a h0 (by omega) f hf0 hf1
  unfold zAT at hg
  by_cases hb : (fc t a f).f0 = -1
  · rw [if_pos hb] at hg
    exact .inl ⟨hb, by simpa using hg⟩
  · rw [if_neg hb] at hg
    by_cases hi : 0 ≤ (fc t a f).f0 ∧ (fc t a f).f0 < (t.length : Int) ∧ 0 ≤ (fc t a f).f1 ∧ (fc t a f).f1 ≤ 23
    · rw [if_pos hi, Bool.and_eq_true, Bool.and_eq_true, Bool.not_eq_true'] at hg
      refine .inr ⟨hi, eq_of_beq hg.1.1, eq_of_beq hg.1.2, fun hc => ?_⟩
      have := hg.2
      rw [Bool.and_eq_false_iff] at this
      rcases this with h2 | h2
      · exact absurd hc.1 (by simpa using h2)
      · exact absurd hc.2 (by simpa using h2)
    · rw [if_neg hi] at hg; cases hg
def zEP (cols : Nat) (j f b : Int) (p : List Int) : List (List Int) := (zDW [f]).map fun c => zCf cols j f b p c
theorem zBU (cols : Nat) (j f b : Int) (p : List Int) : ∀ (L : List Int) (A : List (List Int)), QU cols j f b p L (A.flatten, (A.length : Int)) = ((A ++ L.map fun c => zCf cols j f b p c).flatten, ((A ++ L.map fun c => zCf cols j f b p c).length : Int))
 | [], A => by simp [QU]
 | c :: cs, A => by
  have h := zBU cols j f b p cs (A ++ [zCf cols j f b p c])
  have e1 : (A ++ [zCf cols j f b p c]).flatten = A.flatten ++ zCf cols j f b p c := by simp
  have e2 : ((A ++ [zCf cols j f b p c]).length : Int) = (A.length : Int) + 1 := by simp
  rw [e1, e2] at h
  rw [QU, h]
  simp
def zEQ (cols : Nat) (A : List (List Int)) (j f : Nat) (x : qI) : List (List Int) :=
 if 4 * x.f0 + rd (ZD x.f1) (f : Int) < 4 * (j : Int) + (f : Int) then A else A ++ zEP cols j f x.f0 (ZD x.f1)
theorem zDF {σ τ : Type} {Rel : σ → τ → Prop} {s1 : σ → Nat → Nat → qI → σ} {s2 : τ → Nat → Nat → qI → τ} (h : ∀ a b j f x, Rel a b → Rel (s1 a j f x) (s2 b j f x)) (j : Nat) : ∀ (r : List qI) (f : Nat) (a : σ) (b : τ), Rel a b → Rel (zDX s1 j r f a) (zDX s2 j r f b)
 | [], _, _, _, hr => hr
 | x :: xs, f, a, b, hr => by
  rw [zDX, zDX]
  refine zDF h j xs (f + 1) _ _ ?_
  split
  next =>
   exact hr
  next =>
   exact h _ _ _ _ _ hr
theorem zDG {σ τ : Type} {Rel : σ → τ → Prop} {s1 : σ → Nat → Nat → qI → σ} {s2 : τ → Nat → Nat → qI → τ} (h : ∀ a b j f x, Rel a b → Rel (s1 a j f x) (s2 b j f x)) : ∀ (l : List (List qI)) (j : Nat) (a : σ) (b : τ), Rel a b → Rel (zBx s1 l j a) (zBx s2 l j b)
 | [], _, _, _, hr => hr
 | r :: rs, j, a, b, hr => by
  rw [zBx, zBx]
  exact zDG h rs (j + 1) _ _ (zDF h j r 0 a b hr)
def JG (t : Tri) : List (List Int) := zBx (zEQ (7 * t.length)) t 0 []
theorem zEt (t : Tri) : zB3 t = ((JG t).flatten, ((JG t).length : Int)) := by
 refine zDG (Rel := fun (a : List Int × Int) (b : List (List Int)) => a = (b.flatten, (b.length : Int))) (fun a b j f x hr => ?_) t 0 ([], 0) [] (by simp)
 rw [hr]
 unfold Jr zEQ
 split
 next =>
  rfl
 next =>
  exact zBU _ _ _ _ _ _ _
def zAU (t : Tri) (a f : Int) : Prop := (fc t a f).f0 > a ∨ ((fc t a f).f0 = a ∧ rd (ZD (fc t a f).f1) f > f)
instance (t : Tri) (a f : Int) : Decidable (zAU t a f) := by unfold zAU; infer_instance
def QV (t : Tri) (a : Int) : Int → Nat → List (List Int)
 | _, 0 => []
 | f, d + 1 => (if zAU t a f then [[a, f]] else []) ++ QV t a (f + 1) d
def QR (t : Tri) : Int → Nat → List (List Int)
 | _, 0 => []
 | a, d + 1 => QV t a 0 4 ++ QR t (a + 1) d
def zC3 (t : Tri) (p : List Int) : List (List Int) := zEP (7 * t.length) (rd p 0) (rd p 1) (fc t (rd p 0) (rd p 1)).f0 (ZD (fc t (rd p 0) (rd p 1)).f1)
theorem zFN {t : Tri} (h : QH t = true) {a f : Int} (h0 : 0 ≤ a) (h1 : a < t.length) (hf0 : 0 ≤ f) (hf1 : f ≤ 3) (hb : ¬ (fc t a f).f0 < 0) : zAU t a f ↔ ¬ (4 * (fc t a f).f0 + rd (ZD (fc t a f).f1) f < 4 * a + f) := by
 rcases Jw h h0 h1 hf0 hf1 with ⟨e, _⟩ | ⟨⟨g0, g1, g2, g3⟩, _, _, hn⟩
 next =>
  omega
 next =>
  obtain ⟨k0, k1⟩ := Js g2 g3 hf0 hf1
  unfold zAU
  generalize (fc t a f).f0 = b at *
  generalize rd (ZD (fc t a f).f1) f = g at *
  by_cases e : b = a
  next =>
   have : ¬ g = f := fun hc => hn ⟨e, hc⟩
   constructor <;> intro hh <;> omega
  next =>
   constructor <;> intro hh <;> omega
theorem zBV {t : Tri} (h : QH t = true) (j : Nat) (hj : j < t.length) : ∀ (d f : Nat) (A : List (List Int)), f + d = 4 → zDX (zEQ (7 * t.length)) j (t[j].drop f) f A = A ++ (QV t j f d).flatMap (zC3 t)
 | 0, f, A, hf => by
  have h4 : t[j].length = 4 := (ZX h).2.1 _ (List.getElem_mem hj)
  rw [List.drop_eq_nil_of_le (by omega), zDX, QV]; simp
 | d + 1, f, A, hf => by
  have h4 : t[j].length = 4 := (ZX h).2.1 _ (List.getElem_mem hj)
  have hlt : f < t[j].length := by omega
  have hfc : fc t (j : Int) (f : Int) = t[j][f] := by unfold fc; rw [Qe t j hj, zBO _ f hlt]
  rw [yoy hlt, zDX, zBV h j hj d (f + 1) _ (by omega), QV]
  have e1 : ((f : Int) + 1) = ((f + 1 : Nat) : Int) := by omega
  rw [e1, List.flatMap_append, ← List.append_assoc]
  congr 1
  have hff := zFN (a := (j : Int)) (f := (f : Int)) h (by omega) (by omega) (by omega) (by omega)
  by_cases hb : t[j][f].f0 < 0
  next =>
   rw [if_pos hb, if_neg (fun hc => by unfold zAU at hc; rw [hfc] at hc; omega)]; simp
  next =>
   rw [if_neg hb]
   have hff2 := hff (by rw [hfc]; exact hb)
   rw [hfc] at hff2
   unfold zEQ
   by_cases hc : 4 * t[j][f].f0 + rd (ZD t[j][f].f1) (f : Int) < 4 * (j : Int) + (f : Int)
   next =>
    rw [if_pos hc, if_neg (fun hq => (hff2.1 hq) hc)]; simp
   next =>
    rw [if_neg hc, if_pos (hff2.2 hc)]
    have e2 : zC3 t [(j : Int), (f : Int)] = zEP (7 * t.length) (j : Int) (f : Int) t[j][f].f0 (ZD t[j][f].f1) := by
     show zEP (7 * t.length) (j : Int) (f : Int) (fc t (j : Int) (f : Int)).f0 (ZD (fc t (j : Int) (f : Int)).f1) = _
     rw [hfc]
    simp [e2]
theorem zBW {t : Tri} (h : QH t = true) : ∀ (d j : Nat) (A : List (List Int)), j + d = t.length → zBx (zEQ (7 * t.length)) (t.drop j) j A = A ++ (QR t j d).flatMap (zC3 t)
 | 0, j, A, hj => by rw [List.drop_eq_nil_of_le (by omega), zBx, QR]; simp
 | d + 1, j, A, hj => by
  have hlt : j < t.length := by omega
  have e1 : ((j : Int) + 1) = ((j + 1 : Nat) : Int) := by omega
  have h2 := zBV h j hlt 4 0 A (by omega)
  rw [List.drop_zero] at h2
  rw [yoy hlt, zBx, h2, zBW h d (j + 1) _ (by omega), QR, List.flatMap_append, List.append_assoc, e1]
  rfl
theorem Jf {t : Tri} (h : QH t = true) : JG t = (QR t 0 t.length).flatMap (zC3 t) := by
 have := zBW h t.length 0 [] (by omega)
 rw [List.drop_zero, List.nil_append] at this
 exact this
theorem zEu {t : Tri} (h : QH t = true) : zFU t := by
 obtain ⟨h8, h4, _⟩ := ZX h
 refine ⟨h8, fun r hr => by rw [h4 r hr]; omega, fun r hr x hx hb => ?_⟩
 obtain ⟨j, hj, rfl⟩ := List.getElem_of_mem hr
 obtain ⟨f, hf, rfl⟩ := List.getElem_of_mem hx
 have h4' := h4 _ (List.getElem_mem hj)
 have hfc : fc t (j : Int) (f : Int) = t[j][f] := by unfold fc; rw [Qe t j hj, zBO _ f hf]
 have := Jw (a := (j : Int)) (f := (f : Int)) h (by omega) (by omega) (by omega) (by omega)
 rw [hfc] at this
 rcases this with ⟨e, _⟩ | ⟨⟨g0, g1, g2, g3⟩, _⟩
 next =>
  omega
 next =>
  exact ⟨g1, g2, g3⟩
theorem zDj {t : Tri} (h : QH t = true) : zw.f t = some (((JG t).length : Int), 7 * (t.length : Int), (JG t).flatten) := by
 unfold zw.f
 rw [if_pos (zEu h), zEt]
theorem zAn {t : Tri} (h : QH t = true) : ∀ r ∈ JG t, r.length = 7 * t.length := by
 intro r hr
 rw [Jf h] at hr
 obtain ⟨p, _, hp⟩ := List.mem_flatMap.1 hr
 obtain ⟨c, _, rfl⟩ := List.mem_map.1 hp
 exact zCp _ _ _ _ _ _
theorem zBX (t : Tri) (a : Int) : ∀ (d : Nat) (f : Int), (QV t a f d).length ≤ d
 | 0, _ => by simp [QV]
 | d + 1, f => by
  have := zBX t a d (f + 1)
  rw [QV, List.length_append]
  split <;> simp <;> omega
theorem zA9 (t : Tri) : ∀ (d : Nat) (a : Int), (QR t a d).length ≤ 4 * d
 | 0, _ => by simp [QR]
 | d + 1, a => by
  have := zA9 t d (a + 1)
  have := zBX t a 4 0
  rw [QR, List.length_append]
  omega
def zER (t : Tri) (p : List Int) : Prop := ∃ a f : Int, p = [a, f] ∧ 0 ≤ a ∧ a < t.length ∧ 0 ≤ f ∧ f ≤ 3 ∧ ¬ (fc t a f).f0 < 0
theorem zCW (t : Tri) {a : Int} (h0 : 0 ≤ a) (h1 : a < t.length) : ∀ (d : Nat) (f : Int), 0 ≤ f → f + d = 4 → ∀ p ∈ QV t a f d, zER t p
 | 0, _, _, _, p, hp => by simp [QV] at hp
 | d + 1, f, hf, he, p, hp => by
  rw [QV, List.mem_append] at hp
  rcases hp with hp | hp
  next =>
   by_cases hc : zAU t a f
   next =>
    rw [if_pos hc] at hp
    have : p = [a, f] := by simpa using hp
    exact ⟨a, f, this, h0, h1, hf, by omega, by unfold zAU at hc; omega⟩
   next =>
    rw [if_neg hc] at hp; simp at hp
  next =>
   exact zCW t h0 h1 d (f + 1) (by omega) (by omega) p hp
theorem zCX (t : Tri) : ∀ (d : Nat) (a : Int), 0 ≤ a → a + d = t.length → ∀ p ∈ QR t a d, zER t p
 | 0, _, _, _, p, hp => by simp [QR] at hp
 | d + 1, a, ha, he, p, hp => by
  rw [QR, List.mem_append] at hp
  rcases hp with hp | hp
  next =>
   exact zCW t ha (by omega) 4 0 (by omega) (by omega) p hp
  next =>
   exact zCX t d (a + 1) (by omega) (by omega) p hp
section
variable {t : Tri}
theorem Jg (h : QH t = true) {a : Int} (h0 : 0 ≤ a) (h1 : a < t.length) {R : List (List Int)} {D : Nat} (hR : ∀ acc : List (List Int), acc.length + D ≤ 100 → Ev (fun k => zm.l0 k acc (a + 1) t) (acc ++ R)) :
 ∀ (d : Nat) (f : Int) (acc : List (List Int)), 0 ≤ f → f + d = 4 → acc.length + d + D ≤ 100 → Ev (fun k => zm.l1 k acc a f t) (acc ++ QV t a f d ++ R)
 | 0, f, acc, hf, he, hl => by
  have h8 := (ZX h).1
  refine qh (fun k => by rw [zm.l1, if_neg (by omega), qt (by omega) (by omega)]) ?_
  rw [QV, List.append_nil]; exact hR acc (by omega)
 | d + 1, f, acc, hf, he, hl => by
  obtain ⟨h8, h4, _⟩ := ZX h
  have hr := zFV h4 h0 h1
  refine qh (fun k => by rw [zm.l1, if_pos (by omega), if_pos h0, if_pos h1, if_pos hf, if_pos (by omega)]) ?_
  rw [QV]
  have hyes : zAU t a f → Ev (fun k => if acc.length < 5864062014805 then zm.l1 k (acc ++ [[a, f]]) a (wrap64 (f + 1)) t else none) (acc ++ ((if zAU t a f then [[a, f]] else []) ++ QV t a (f + 1) d) ++ R) := fun hc => by
   rw [if_pos hc]
   refine ql (by omega) (Ev.congr (fun k => by rw [qt (by omega) (by omega)]) ?_)
   have := Jg h h0 h1 hR d (f + 1) (acc ++ [[a, f]]) (by omega) (by omega) (by simp; omega)
   rwa [List.append_assoc acc] at this
  have hno : ¬ zAU t a f → Ev (fun k => zm.l1 k acc a (wrap64 (f + 1)) t) (acc ++ ((if zAU t a f then [[a, f]] else []) ++ QV t a (f + 1) d) ++ R) := fun hc => by
   rw [if_neg hc, List.nil_append]
   exact Ev.congr (fun k => by rw [qt (by omega) (by omega)]) (Jg h h0 h1 hR d (f + 1) acc (by omega) (by omega) (by omega))
  change Ev (fun k => if (fc t a f).f0 > a then _ else if (fc t a f).f0 = a then (qq.f k (fc t a f).f1 f).bind _ else _) _
  by_cases c1 : (fc t a f).f0 > a
  next =>
   exact ql c1 (hyes (.inl c1))
  next =>
   refine ZR c1 ?_
   by_cases c2 : (fc t a f).f0 = a
   next =>
    have hp : 0 ≤ (fc t a f).f1 ∧ (fc t a f).f1 ≤ 23 := by
     rcases Jw h h0 h1 hf (by omega) with ⟨e, _⟩ | ⟨⟨_, _, g2, g3⟩, _⟩
     next =>
      omega
     next =>
      exact ⟨g2, g3⟩
    refine ql c2 (Ev.bind (zAW hp.1 hp.2 hf (by omega)) ?_)
    by_cases c3 : rd (ZD (fc t a f).f1) f > f
    next =>
     exact ql c3 (hyes (.inr ⟨c2, c3⟩))
    next =>
     exact ZR c3 (hno (fun hc => by rcases hc with hc | hc; exact c1 hc; exact c3 hc.2))
   next =>
    exact ZR c2 (hno (fun hc => by rcases hc with hc | hc; exact c1 hc; exact c2 hc.1))
theorem zAo (h : QH t = true) : ∀ (d : Nat) (a : Int) (acc : List (List Int)), 0 ≤ a → a + d = t.length → acc.length + 4 * d ≤ 100 → Ev (fun k => zm.l0 k acc a t) (acc ++ QR t a d)
 | 0, a, acc, ha, he, hl => by
  refine qh (fun k => by rw [zm.l0, zr.f, yfy, if_neg (by omega)]) ?_
  rw [QR, List.append_nil]; exact Ev.now _
 | d + 1, a, acc, ha, he, hl => by
  refine qh (fun k => by rw [zm.l0, zr.f, yfy, if_pos (by omega)]) ?_
  have := Jg h ha (by omega) (R := QR t (a + 1) d) (D := 4 * d) (fun acc2 hl2 => zAo h d (a + 1) acc2 (by omega) (by omega) hl2) 4 0 acc (by omega) (by omega) (by omega)
  rwa [List.append_assoc] at this
theorem zC4 (h : QH t = true) : Ev (fun k => zm.f k t) (QR t 0 t.length) := by
 have h8 := (ZX h).1
 have := zAo h t.length 0 [] (by omega) (by omega) (by simp; omega)
 rwa [List.nil_append] at this
theorem zBY {a b : Int} (ha : sm a) (hb : sm b) (hne : b ≠ a) : qC.f a b = some (qd b a) := by
 obtain ⟨ha0, ha1⟩ := ha
 obtain ⟨hb0, hb1⟩ := hb
 rcases (show a = 0 ∨ a = 1 ∨ a = 2 ∨ a = 3 by omega) with rfl | rfl | rfl | rfl <;> rcases (show b = 0 ∨ b = 1 ∨ b = 2 ∨ b = 3 by omega) with rfl | rfl | rfl | rfl <;> first | exact absurd rfl hne | decide +kernel
theorem qd_bd {a b : Int} (ha : sm a) (hb : sm b) (hne : a ≠ b) : 0 ≤ qd a b ∧ qd a b ≤ 2 := (zCo ha hb hne).2
theorem zBZ (h : QH t = true) {P : List (List Int)} {i : Int} {a f : Int} (h0 : 0 ≤ a) (h1 : a < t.length) (hf0 : 0 ≤ f) (hf1 : f ≤ 3) (hb : ¬ (fc t a f).f0 < 0) {R : List (List Int)} {D : Nat} (hi : 0 ≤ i) (hi2 : i ≤ 1000)
 (hR : ∀ acc : List (List Int), acc.length + D ≤ 1000 → Ev (fun k => zi.l0 k acc P (i + 1) t) (acc ++ R)) :
 ∀ (d : Nat) (c : Int) (acc : List (List Int)), 0 ≤ c → c + d = 4 → acc.length + d + D ≤ 1000 → Ev (fun k => zi.l1 k acc P i a f c t) (acc ++ ((zCU c d).filter fun x => ![f].contains x).map (fun x => zCf (7 * t.length) a f (fc t a f).f0 (ZD (fc t a f).f1) x) ++ R)
 | 0, c, acc, hc, he, hl => by
  refine qh (fun k => by rw [zi.l1, if_neg (by omega), qt (by omega) (by omega)]) ?_
  rw [zCU]; simp only [List.filter_nil, yky, List.append_nil]; exact hR acc (by omega)
 | d + 1, c, acc, hc, he, hl => by
  obtain ⟨h8, h4, _⟩ := ZX h
  have ih := fun (acc2 : List (List Int)) (hl2 : acc2.length + d + D ≤ 1000) => zBZ h h0 h1 hf0 hf1 hb hi hi2 hR d (c + 1) acc2 (by omega) (by omega) hl2
  by_cases hcf : c = f
  next =>
   refine qh (fun k => by rw [zi.l1, if_pos (by omega), if_pos hcf, qt (by omega) (by omega)]) ?_
   have e1 : (![f].contains c) = false := by simp [hcf]
   rw [zCU, List.filter_cons, e1, if_neg (by simp)]
   exact ih acc (by omega)
  next =>
   have e1 : (![f].contains c) = true := by simp [hcf]
   have hsc : sm c := ⟨hc, by omega⟩
   have hsf : sm f := ⟨hf0, hf1⟩
   obtain ⟨g0, g1, g2, g3⟩ : 0 ≤ (fc t a f).f0 ∧ (fc t a f).f0 < (t.length : Int) ∧ 0 ≤ (fc t a f).f1 ∧ (fc t a f).f1 ≤ 23 := by
    rcases Jw h h0 h1 hf0 hf1 with ⟨e, _⟩ | ⟨e, _⟩
    next =>
     omega
    next =>
     exact e
   have hd := Js g2 g3 hc (show c ≤ 3 by omega)
   have hx := Js g2 g3 hf0 hf1
   have hne := zCP g2 g3 hsc hsf hcf
   obtain ⟨q0, q1⟩ := qd_bd hsc hsf hcf
   obtain ⟨r0, r1⟩ := qd_bd hd hx hne
   have hmr : zCf (7 * t.length) a f (fc t a f).f0 (ZD (fc t a f).f1) c = zA6 (zA6 (Jq (Jq (List.replicate (7 * t.length) 0) (7 * a + c)) (7 * a + 4 + qd c f)) (7 * (fc t a f).f0 + rd (ZD (fc t a f).f1) c)) (7 * (fc t a f).f0 + 4 + qd (rd (ZD (fc t a f).f1) c) (rd (ZD (fc t a f).f1) f)) := rfl
   have hcorner : Ev (fun k => qX.f k t a f c) ((fc t a f).f0, rd (ZD (fc t a f).f1) f, rd (ZD (fc t a f).f1) c) := by
    have hr := zFV h4 h0 h1
    refine Ev.congr (fun k => by unfold qX.f; rw [if_pos h0, if_pos h1, if_pos hf0, if_pos (by omega)]) ?_
    exact Ev.bind (zAW g2 g3 hf0 hf1) (Ev.bind (zAW g2 g3 hc (by omega)) (Ev.now _))
   have hbt1 := zBY hsf hsc hcf
   have hbt2 := zBY (show sm (rd (ZD (fc t a f).f1) f) from hx) (show sm (rd (ZD (fc t a f).f1) c) from hd) hne
   have hlt : (7 * (t.length : Int)) = ((7 * t.length : Nat) : Int) := by omega
   rw [zCU, List.filter_cons, e1, if_pos rfl, yjy, hmr]
   generalize (fc t a f).f0 = b at *
   generalize rd (ZD (fc t a f).f1) c = dd at *
   generalize rd (ZD (fc t a f).f1) f = x at *
   generalize qd c f = q at *
   generalize qd dd x = q2 at *
   obtain ⟨d0, d1⟩ := hd
   have w1 : wrap64 (7 * a) = 7 * a := qt (by omega) (by omega)
   have w2 : wrap64 (7 * a + c) = 7 * a + c := qt (by omega) (by omega)
   have w3 : wrap64 (7 * a + 4) = 7 * a + 4 := qt (by omega) (by omega)
   have w4 : wrap64 (7 * a + 4 + q) = 7 * a + 4 + q := qt (by omega) (by omega)
   have w5 : wrap64 (7 * b) = 7 * b := qt (by omega) (by omega)
   have w6 : wrap64 (7 * b + dd) = 7 * b + dd := qt (by omega) (by omega)
   have w7 : wrap64 (7 * b + 4) = 7 * b + 4 := qt (by omega) (by omega)
   have w8 : wrap64 (7 * b + 4 + q2) = 7 * b + 4 + q2 := qt (by omega) (by omega)
   have w9 : wrap64 (7 * (t.length : Int)) = 7 * (t.length : Int) := qt (by omega) (by omega)
   have w10 : wrap64 (c + 1) = c + 1 := qt (by omega) (by omega)
   have hln : (List.replicate (7 * t.length) (0 : Int)).length = 7 * t.length := List.length_replicate
   refine qh (fun k => by rw [zi.l1, if_pos (by omega), if_neg hcf, zr.f, yfy, w9, if_pos (by omega), if_pos (by omega), yfy, hlt, yny]) ?_
   refine Ev.bind hcorner ?_
   dsimp only
   refine Ev.congr (fun k => by rw [w1, w2, if_pos (by omega), if_pos (by rw [hln]; omega), yfy, hbt1, yfy, w3, w4, if_pos (by omega), if_pos (by rw [hln]; omega), yfy, w5, w6, if_pos (by omega), if_pos (by rw [hln]; omega), yfy, hbt2, yfy, w7, w8, if_pos (by omega), if_pos (by rw [hln]; omega), if_pos (by omega), w10]) ?_
   have := ih (acc ++ [zA6 (zA6 (Jq (Jq (List.replicate (7 * t.length) 0) (7 * a + c)) (7 * a + 4 + q)) (7 * b + dd)) (7 * b + 4 + q2)]) (by simp; omega)
   rw [List.append_assoc acc] at this
   exact this
theorem zBa (h : QH t = true) {P : List (List Int)} (hP : ∀ p ∈ P, zER t p) (hPl : P.length ≤ 100) : ∀ (d i : Nat) (acc : List (List Int)), i + d = P.length → acc.length + 4 * d ≤ 1000 → Ev (fun k => zi.l0 k acc P (i : Int) t) (acc ++ (P.drop i).flatMap (zC3 t))
 | 0, i, acc, he, hl => by
  refine qh (fun k => by rw [zi.l0, if_neg (by omega)]) ?_
  rw [List.drop_eq_nil_of_le (by omega)]; simp only [List.flatMap_nil, List.append_nil]; exact Ev.now _
 | d + 1, i, acc, he, hl => by
  have hlt : i < P.length := by omega
  obtain ⟨a, f, hp, h0, h1, hf0, hf1, hb⟩ := hP P[i] (List.getElem_mem hlt)
  have ex : zZ P (i : Int) = [a, f] := by simp [zZ, hlt, hp]
  refine qh (fun k => by rw [zi.l0, if_pos (by omega), if_pos (by omega), ex, if_pos (by simp), if_pos (by simp)]) ?_
  have := zBZ h (P := P) (i := (i : Int)) h0 h1 hf0 hf1 hb (R := (P.drop (i + 1)).flatMap (zC3 t)) (D := 4 * d) (by omega) (by omega) (fun acc2 hl2 => zBa h hP hPl d (i + 1) acc2 (by omega) hl2) 4 0 acc (by omega) (by omega) (by omega)
  rw [List.append_assoc] at this
  rw [yoy hlt, hp, List.flatMap_cons]
  exact this
theorem zCY (h : QH t = true) : Ev (fun k => zi.f k t) (JG t) := by
 have h8 := (ZX h).1
 have hl := zA9 t t.length 0
 refine Ev.bind (zC4 h) ?_
 have := zBa h (zCX t t.length 0 (by omega) (by omega)) (by omega) (QR t 0 t.length).length 0 [] (by omega) (by simp; omega)
 rw [List.nil_append, List.drop_zero, ← Jf h] at this
 exact this
theorem zBb (h : QH t = true) : (JG t).length ≤ 1000 := by
 have h8 := (ZX h).1
 have hl := zA9 t t.length 0
 rw [Jf h, List.length_flatMap]
 have : ∀ P : List (List Int), ((P.map fun p => (zC3 t p).length).sum) ≤ 4 * P.length := by
  intro P
  induction P with
  | nil => simp
  | cons p ps ih =>
   simp only [yjy, List.sum_cons, List.length_cons]
   have h1 : (zC3 t p).length ≤ 4 := by unfold zC3 zEP; rw [List.length_map]; exact zD9 _
   omega
 have := this (QR t 0 t.length)
 omega
end
def Qy (t : Tri) : Int := if QH t then (if (t.length : Int) > 6 then 3 else 0) else 1
def inR (x : Int) : Bool := decide (0 ≤ x) && decide (x ≤ 1000)
theorem JU {t : Tri} (h : Qy t = 0) : QH t = true ∧ t.length ≤ 6 := by
  unfold Qy at h
  cases ht : QH t with
  | false => rw [ht] at h; simp at h
  | true =>
    rw [ht, if_pos rfl] at h
    refine ⟨rfl, ?_⟩
    by_cases hl : (t.length : Int) > 6
    · rw [if_pos hl] at h; simp at h
    · omega
theorem zC5 (t : Tri) : Ev (fun k => Zu.f k t) (Qy t) := by
  refine Ev.bind (zC2 t) ?_
  unfold Qy
  cases QH t with
  | false => exact ZR (by simp) (Ev.now _)
  | true =>
    refine ql rfl (Ev.bind (Qh (by unfold zr.f; rfl)) ?_)
    rw [if_pos rfl]
    by_cases hl : (t.length : Int) > 6
    · exact ql hl (Qj (if_pos hl).symm)
    · exact ZR hl (Qj (if_neg hl).symm)
theorem zC6 {t : Tri} (hs : Small t) : Ev (fun k => ZW.f k t) (Qy t) := by
  refine Ev.bind (zC1 hs) ?_
  unfold Qy
  cases QH t with
  | false => exact ZR (by simp) (Ev.now _)
  | true =>
    refine ql rfl ?_
    rw [if_pos rfl]
    by_cases hl : (t.length : Int) > 6
    · exact ql hl (Qj (if_pos hl).symm)
    · exact ZR hl (Qj (if_neg hl).symm)
theorem zEv (a b c : Int) : QN.f a b c = some (decide (b ≤ a) && decide (a ≤ c)) := by
  unfold QN.f
  by_cases h : b ≤ a <;> simp [h]
theorem zC7 {α : Type} (l : List α) (z : α) (n : Nat) (h : n < l.length) :
    (l.take n ++ List.replicate (l.length - n) z).set n l[n] = l.take (n + 1) ++ List.replicate (l.length - (n + 1)) z := by
  have e : l.length - n = (l.length - (n + 1)) + 1 := by omega
  rw [e, List.replicate_succ, List.set_append_right _ _ (by simp; omega)]
  have : n - (l.take n).length = 0 := by simp; omega
  rw [this, yby, List.take_succ_eq_append_getElem h, List.append_assoc]
  rfl
theorem zAp (l : List Int) (h : l.length ≤ 4398046511104) : Ev (fun k => qB.f k l) l := by
  have hl : Ev (fun k => qB.l0 k l (List.replicate l.length 0) 0) l := by
    refine JT (fun k (s : List Int × Int) => qB.l0 k l s.1 s.2) (fun s => ∃ n : Nat, n ≤ l.length ∧ s.2 = n ∧ s.1 = l.take n ++ List.replicate (l.length - n) 0) (fun s => l.length - s.2.toNat) (fun _ => l) ?_ (List.replicate l.length 0, 0) ⟨0, by omega, rfl, by simp⟩
    rintro ⟨a, i⟩ ⟨n, hn, rfl, rfl⟩
    dsimp only
    by_cases hlt : n < l.length
    · refine .inr ⟨(l.take (n + 1) ++ List.replicate (l.length - (n + 1)) 0, ((n + 1 : Nat) : Int)), ⟨n + 1, by omega, rfl, rfl⟩, by simp; omega, rfl, fun k => ?_⟩
      simp only [qB.l0]
      rw [if_pos (by omega), if_pos (by omega), if_pos (by simp; omega), ZK (by omega), yny, zA7 l n hlt, zC7 l 0 n hlt]
    · obtain rfl : n = l.length := by omega
      refine .inl fun k => ?_
      simp only [qB.l0]
      rw [if_neg (by omega)]
      simp
  refine Ev.congr (fun k => ?_) hl
  unfold qB.f
  rw [if_pos (by omega), if_pos (by simp; omega), yny]
theorem zAq (l : List Int) (h : l.length ≤ 4398046511104) : Ev (fun k => qa.f k l l) true := by
  have hl : Ev (fun k => qa.l0 k l l 0) true := by
    refine JT (fun k (s : Int) => qa.l0 k l l s) (fun s => ∃ n : Nat, n ≤ l.length ∧ s = n) (fun s => l.length - s.toNat) (fun _ => true) ?_ 0 ⟨0, by omega, rfl⟩
    rintro i ⟨n, hn, rfl⟩
    by_cases hlt : n < l.length
    · refine .inr ⟨((n + 1 : Nat) : Int), ⟨n + 1, by omega, rfl⟩, by simp; omega, rfl, fun k => ?_⟩
      simp only [qa.l0]
      rw [if_pos (by omega), if_pos (by omega), if_pos (by omega), if_pos trivial, ZK (by omega)]
    · refine .inl fun k => ?_
      simp only [qa.l0]
      rw [if_neg (by omega)]
  refine Ev.congr (fun k => ?_) hl
  unfold qa.f
  rw [if_pos rfl]
def JR (R : List (List Int)) (v : List Int) : Bool := R.all fun r => decide (zDc r v 0 = 0)
def Ql (t : Tri) (v : List Int) : Bool := if (v.length : Int) = 7 * (t.length : Int) then (if v.all inR = true then JR (JG t) v else false) else false
def Ja (t : Tri) (v : List Int) : Bool := if Qy t = 0 then Ql t v else false
theorem zDk {t : Tri} {v : List Int} (hv : v.length ≤ 4398046511104) {R : Bool} (hR : Ev (fun k => (zi.f k t).bind fun t106 => zc.l1 k v t106 0) R) (d : Nat) : ∀ n : Nat, n + d = v.length → Ev (fun k => zc.l0 k v (n : Int) t) (if (v.drop n).all inR = true then R else false) := by
  induction d with
  | zero =>
    intro n hn
    refine qh (fun k => by rw [zc.l0, if_neg (by omega)]) ?_
    rw [List.drop_eq_nil_of_le (by omega), if_pos (by rfl)]; exact hR
  | succ d ih =>
    intro n hn
    have hlt : n < v.length := by omega
    refine qh (fun k => by rw [zc.l0, if_pos (by omega), if_pos (by omega), zA7 v n hlt, zEv, yfy, ZK (by omega)]) ?_
    rw [yoy hlt, List.all_cons]
    change Ev (fun k => if inR v[n] = true then _ else _) _
    cases h : inR v[n] with
    | false => exact ZR (by simp) (by rw [Bool.false_and, if_neg (by simp)]; exact Ev.now _)
    | true => exact ql rfl (by rw [Bool.true_and]; exact ih (n + 1) (by omega))
theorem zAr (r v : List Int) (hl : r.length ≤ v.length) (hr : r.length ≤ 1000000) : ∀ (d n : Nat) (s : Int), n + d = r.length → Ev (fun k => qv.l0 k r v s (n : Int)) (zDc (r.drop n) (v.drop n) s)
  | 0, n, s, hn => by
    refine qh (fun k => by rw [qv.l0, if_neg (by omega)]) ?_
    rw [List.drop_eq_nil_of_le (by omega)]
    cases v.drop n <;> exact Ev.now _
  | d + 1, n, s, hn => by
    have hlt : n < r.length := by omega
    have hlv : n < v.length := by omega
    refine qh (fun k => by rw [qv.l0, if_pos (by omega), if_pos (by omega), if_pos (by omega), zA7 r n hlt, zA7 v n hlv, ZK (by omega)]) ?_
    rw [yoy hlt, yoy hlv, zDc]
    exact zAr r v hl hr d (n + 1) _ (by omega)
theorem zCw (r v : List Int) (hl : r.length ≤ v.length) (hr : r.length ≤ 1000000) : Ev (fun k => qv.f k r v) (zDc r v 0) := by
  have := zAr r v hl hr r.length 0 0 (by omega)
  rwa [List.drop_zero, List.drop_zero] at this
theorem zBc (R : List (List Int)) (v : List Int) (hR : ∀ r ∈ R, r.length ≤ v.length ∧ r.length ≤ 1000000) (hl : R.length ≤ 1000000) : ∀ (d n : Nat), n + d = R.length → Ev (fun k => zc.l1 k v R (n : Int)) (JR (R.drop n) v)
  | 0, n, hn => by
    refine qh (fun k => by rw [zc.l1, if_neg (by omega)]) ?_
    rw [List.drop_eq_nil_of_le (by omega)]; exact Ev.now _
  | d + 1, n, hn => by
    have hlt : n < R.length := by omega
    have ex : zZ R (n : Int) = R[n] := by simp [zZ, hlt]
    have h1 := hR R[n] (List.getElem_mem hlt)
    refine qh (fun k => by rw [zc.l1, if_pos (by omega), if_pos (by omega), ex, ZK (by omega)]) ?_
    refine Ev.bind (zCw _ v h1.1 h1.2) ?_
    unfold JR
    rw [yoy hlt, List.all_cons]
    by_cases hz : zDc R[n] v 0 = 0
    · rw [ygy hz, Bool.true_and]
      exact ql hz (zBc R v hR hl d (n + 1) (by omega))
    · rw [yhy hz, Bool.false_and]
      exact ZR hz (Ev.now _)
theorem zB6 (t : Tri) (v : List Int) (hv : v.length ≤ 4398046511104) : Ev (fun k => zc.f k t v) (Ja t v) := by
  have hfalse : Ev (fun k => zc.j0 k v true t) false := qh (fun k => by rw [zc.j0, if_pos rfl]) (Ev.now false)
  refine Ev.bind (zC5 t) ?_
  unfold Ja
  by_cases hc : Qy t = 0
  · obtain ⟨ht, h6⟩ := JU hc
    rw [if_pos hc]
    unfold Ql
    refine ql hc (Ev.bind (Qh (by unfold zr.f; rfl)) ?_)
    refine Ev.congr (fun k => by rw [qt (by omega) (by omega)]) (f := fun k => zc.j0 k v ((v.length : Int) != (7 * (t.length : Int))) t) ?_
    by_cases hl : (v.length : Int) = 7 * (t.length : Int)
    · rw [if_pos hl]
      have e : ((v.length : Int) != (7 * (t.length : Int))) = false := by simp [hl]
      rw [e]
      refine qh (fun k => by rw [zc.j0, if_neg (by simp)]) ?_
      have hrows : Ev (fun k => (zi.f k t).bind fun t106 => zc.l1 k v t106 0) (JR (JG t) v) := by
        refine Ev.bind (zCY ht) ?_
        have := zBc (JG t) v (fun r hr => by have := zAn ht r hr; omega) (by have := zBb ht; omega) (JG t).length 0 (by omega)
        rwa [List.drop_zero] at this
      have := zDk hv hrows v.length 0 (by omega)
      rwa [List.drop_zero] at this
    · rw [if_neg hl]
      have e : ((v.length : Int) != (7 * (t.length : Int))) = true := by simp [hl]
      rw [e]
      exact hfalse
  · rw [if_neg hc]
    exact ZR hc hfalse
theorem zCZ (cols : Nat) (A r B : List Int) (k : Nat) (hA : A.length = k * cols) (hr : r.length = cols) : rowAt cols (A ++ (r ++ B)) k = r := by
  unfold rowAt
  have h3 : (k + 1) * cols = A.length + r.length := by rw [Nat.succ_mul]; omega
  rw [h3, ← hA, ← List.append_assoc, List.take_append_of_le_length (by simp), List.take_of_length_le (by simp), List.drop_append_of_le_length (yqy _), List.drop_length, List.nil_append]
theorem zBd (cols : Nat) (v : List Int) : ∀ (R : List (List Int)) (A : List Int) (k : Nat), A.length = k * cols → (∀ r ∈ R, r.length = cols) → JP cols (A ++ R.flatten) v R.length k = JR R v
  | [], _, _, _, _ => rfl
  | r :: R, A, k, hA, hR => by
    have hr := hR r (List.mem_cons_self ..)
    rw [List.length_cons, JP, List.flatten_cons, zCZ cols A r _ k hA hr]
    have ih := zBd cols v R (A ++ r) (k + 1) (by rw [List.length_append, hA, hr, Nat.succ_mul]) (fun x hx => hR x (List.mem_cons_of_mem _ hx))
    rw [List.append_assoc] at ih
    rw [ih]
    unfold JR
    rw [List.all_cons]
    by_cases hz : zDc r v 0 = 0
    · rw [if_pos hz, ygy hz, Bool.true_and]
    · rw [if_neg hz, yhy hz, Bool.false_and]
theorem zAs (cols : Nat) : ∀ (R : List (List Int)), (∀ r ∈ R, r.length = cols) → R.flatten.length = R.length * cols
  | [], _ => by simp
  | r :: R, h => by
    rw [List.flatten_cons, List.length_append, zAs cols R (fun x hx => h x (List.mem_cons_of_mem _ hx)), h r (List.mem_cons_self ..), List.length_cons, Nat.succ_mul]; omega
theorem zB7 {t : Tri} (h : QH t = true) (v : List Int) (hv : (v.length : Int) = 7 * (t.length : Int)) : ZV.f ((JG t).length : Int) (7 * (t.length : Int)) (JG t).flatten v = some (JR (JG t) v) := by
  have h8 := (ZX h).1
  have hs := zBb h
  have hf := zAs (7 * t.length) (JG t) (zAn h)
  have e7 : (7 * (t.length : Int)).toNat = 7 * t.length := by omega
  unfold ZV.f
  rw [if_pos ?_, e7, yny]
  · have := zBd (7 * t.length) v (JG t) [] 0 (by simp) (zAn h)
    rw [List.nil_append] at this
    rw [this]
  · refine ⟨by omega, by omega, by omega, by omega, ?_, by omega⟩
    rw [hf]; push_cast; rfl
theorem zES (v : List Int) : za.f v = some (!(v.all inR)) := by
  unfold za.f zy.f
  rw [contO (p := fun y => !(inR y)) v (fun y _ => by
    show qM.f y = _
    unfold qM.f
    rw [zA8]; rfl), List.not_all_eq_any_not]
theorem zC8 {t : Tri} (h : QH t = true) (v : List Int) : qV.f t v = some (Ql t v) := by
  have h8 := (ZX h).1
  unfold qV.f Ql
  rw [qt (by omega) (by omega)]
  by_cases hl : (v.length : Int) = 7 * (t.length : Int)
  · rw [if_pos hl, if_pos hl, zES, yfy]
    cases ha : v.all inR with
    | false => rfl
    | true => rw [if_neg (by simp), zDj h, yfy, zB7 h v hl, yfy, if_pos rfl]
  · rw [if_neg hl, if_neg hl]
end Go.Proofs.Ythjpdljdodalaaa.P
namespace Go.Proofs.Ythjpdljdodalaaa.P
open Go.RowKit Go.Proofs.YthjpdljdodalaaaW.PrintWords Go.Proofs.YthjpdljdodalaaaW.PrintLast Go.Proofs.YthjpdljdodalaaaW.PrintMore
attribute [local go_sem] QD QE QZ Qa Zr Zs QF QG
set_option linter.unusedVariables false
set_option linter.unusedSimpArgs false
def ZO.l0 : Nat → List Int → List Int → Int → Option (List Int)
  | 0, _, _, _ => none
  | k + 1, x0, x3, x4 => if x4 < (x0.length : Int) then (if 0 ≤ x4 then (if (rd x0 x4) = 0 then (ZO.l0 k x0 x3 (wrap64 (x4 + 1))) else (if x3.length < 17592186044416 then (ZO.l0 k x0 (x3 ++ [x4]) (wrap64 (x4 + 1))) else (none))) else (none)) else (some x3)
def ZO.f (k : Nat) (l0 : List Int) : Option (List Int) := ZO.l0 k l0 (([] : List Int)) 0
end Go.Proofs.Ythjpdljdodalaaa.P
namespace Go.Proofs.Ythjpdljdodalaaa.P
open Go.RowKit Go.Proofs.YthjpdljdodalaaaW.PrintWords Go.Proofs.Ythjpdljdodalaaa.Lib
set_option linter.unusedVariables false
def zDH : Nat → List Int → List Int
  | _, [] => []
  | i, x :: xs => if x = 0 then zDH (i + 1) xs else (i : Int) :: zDH (i + 1) xs
theorem zCa (l : List Int) (n : Nat) (h : n < l.length) : zDH n (l.drop n) = if l[n] = 0 then zDH (n + 1) (l.drop (n + 1)) else (n : Int) :: zDH (n + 1) (l.drop (n + 1)) := by
  rw [yoy h]; rfl
theorem zDl (l : List Int) (h : l.length ≤ 4398046511104) : Ev (fun k => ZO.f k l) (zDH 0 l) := by
  refine JT (fun k (s : List Int × Int) => ZO.l0 k l s.1 s.2) (fun s => ∃ n : Nat, n ≤ l.length ∧ s.2 = n ∧ s.1.length ≤ n) (fun s => l.length - s.2.toNat) (fun s => s.1 ++ zDH s.2.toNat (l.drop s.2.toNat)) ?_ ([], 0) ⟨0, by omega, rfl, by simp⟩
  rintro ⟨a, i⟩ ⟨n, hn, rfl, ha⟩
  dsimp only at ha ⊢
  by_cases hlt : n < l.length
  · right
    rw [yny, zCa l n hlt]
    by_cases hx : l[n] = 0
    · refine ⟨(a, ((n + 1 : Nat) : Int)), ⟨n + 1, by omega, rfl, by dsimp only; omega⟩, by dsimp only; omega, by dsimp only; rw [yny, if_pos hx], fun k => ?_⟩
      simp only [ZO.l0]
      rw [if_pos (by omega), if_pos (by omega), zA7 l n hlt, if_pos hx, ZK (by omega)]
    · refine ⟨(a ++ [(n : Int)], ((n + 1 : Nat) : Int)), ⟨n + 1, by omega, rfl, by simp; omega⟩, by dsimp only; omega, by dsimp only; rw [yny, if_neg hx]; simp, fun k => ?_⟩
      simp only [ZO.l0]
      rw [if_pos (by omega), if_pos (by omega), zA7 l n hlt, if_neg hx, if_pos (by omega), ZK (by omega)]
  · obtain rfl : n = l.length := by omega
    refine .inl fun k => ?_
    simp only [ZO.l0]
    rw [if_neg (by omega)]
    simp [zDH]
theorem zAA (l : List Int) (h : l.length ≤ 4398046511104) : Ev (fun k => qL.f k l) (zDH 0 l) := by
  refine JT (fun k (s : List Int × Int) => qL.l0 k s.1 l (l.length : Int) s.2) (fun s => ∃ n : Nat, n ≤ l.length ∧ s.2 = n ∧ s.1.length ≤ n) (fun s => l.length - s.2.toNat) (fun s => s.1 ++ zDH s.2.toNat (l.drop s.2.toNat)) ?_ ([], 0) ⟨0, by omega, rfl, by simp⟩
  rintro ⟨a, i⟩ ⟨n, hn, rfl, ha⟩
  dsimp only at ha ⊢
  by_cases hlt : n < l.length
  · right
    rw [yny, zCa l n hlt]
    by_cases hx : l[n] = 0
    · refine ⟨(a, ((n + 1 : Nat) : Int)), ⟨n + 1, by omega, rfl, by dsimp only; omega⟩, by dsimp only; omega, by dsimp only; rw [yny, if_pos hx], fun k => ?_⟩
      simp only [qL.l0]
      rw [if_pos (by omega), if_pos (by omega), if_pos (by omega), zA7 l n hlt, if_pos hx, ZK (by omega)]
    · refine ⟨(a ++ [(n : Int)], ((n + 1 : Nat) : Int)), ⟨n + 1, by omega, rfl, by simp; omega⟩, by dsimp only; omega, by dsimp only; rw [yny, if_neg hx]; simp, fun k => ?_⟩
      simp only [qL.l0]
      rw [if_pos (by omega), if_pos (by omega), if_pos (by omega), zA7 l n hlt, if_neg hx, if_pos (by omega), ZK (by omega)]
  · obtain rfl : n = l.length := by omega
    refine .inl fun k => ?_
    simp only [qL.l0]
    rw [if_neg (by omega)]
    simp [zDH]
def nzc : List Int → Nat
  | [] => 0
  | x :: xs => if x = 0 then nzc xs else nzc xs + 1
theorem zEw (l : List Int) : ∀ i, (zDH i l).length = nzc l := by
  induction l with
  | nil => intro i; rfl
  | cons x xs ih => intro i; unfold zDH nzc; split <;> simp [ih]
def zFO (v : List Int) (i : Nat) : Bool := decide (nzc (Qc 7 4 3 v i) ≤ 1)
def zFP (v : List Int) : Nat → Nat → Bool
  | 0, _ => true
  | d + 1, n => zFO v n && zFP v d (n + 1)
def zFQ (v : List Int) : Bool := zFP v (v.length / 7) 0
def zFR (v : List Int) : Nat → Bool
  | 0 => true
  | n + 1 => zFR v n && zFO v n
theorem zDI (v : List Int) : ∀ d n, zFP v d n = true ↔ ∀ i, n ≤ i → i < n + d → zFO v i = true
  | 0, n => by simp [zFP]; intro i h1 h2; omega
  | d + 1, n => by
    rw [zFP, Bool.and_eq_true, zDI v d (n + 1)]
    constructor
    · rintro ⟨h0, h1⟩ i hi hd
      rcases Nat.eq_or_lt_of_le hi with rfl | h
      · exact h0
      · exact h1 i h (by omega)
    · intro h
      exact ⟨h n (yqy _) (by omega), fun i hi hd => h i (by omega) (by omega)⟩
theorem zDJ (v : List Int) : ∀ n, zFR v n = true ↔ ∀ i, i < n → zFO v i = true
  | 0 => by simp [zFR]
  | n + 1 => by
    rw [zFR, Bool.and_eq_true, zDJ v n]
    constructor
    · rintro ⟨h0, h1⟩ i hi
      rcases Nat.lt_succ_iff_lt_or_eq.1 hi with h | rfl
      · exact h0 i h
      · exact h1
    · intro h
      exact ⟨fun i hi => h i (by omega), h n (by omega)⟩
theorem zFS (v : List Int) (n : Nat) : zFR v n = zFP v n 0 := by
  rw [Bool.eq_iff_iff, zDJ, zDI]
  constructor
  · intro h i _ hi; exact h i (by omega)
  · intro h i hi; exact h i (by omega) (by omega)
theorem zAL {v : List Int} {n : Nat} (h : n * 7 + 7 ≤ v.length) : Qc 7 4 3 v n = [v[n * 7 + 4], v[n * 7 + 5], v[n * 7 + 6]] := by
  unfold Qc
  rw [yoy (by omega), List.take_succ_cons, yoy (by omega), List.take_succ_cons, yoy (by omega), List.take_succ_cons, List.take_zero]
theorem zET (v : List Int) : ∀ n, n * 7 ≤ v.length → Ev (fun k => zDA (fun i => zFL (qL.f k) 7 4 3 v i) n) (zFR v n)
  | 0, _ => Ev.now true
  | n + 1, h => by
    refine Ev.bind (zET v n (by omega)) ?_
    have h3 : (Qc 7 4 3 v n).length = 3 := by rw [zAL (by omega)]; rfl
    have hs := zAA (Qc 7 4 3 v n) (by omega)
    obtain ⟨K, hK⟩ := hs
    refine ⟨K, fun k hk => ?_⟩
    have h9 : qL.f k (Qc 7 4 3 v n) = some (zDH 0 (Qc 7 4 3 v n)) := hK k hk
    dsimp only
    unfold zFL
    rw [h9]
    simp [zFR, zFO, zEw]
theorem zAM (v : List Int) (h7 : v.length % 7 = 0) (hl : v.length ≤ 7000000000) : Ev (fun k => qP.f k v) (zFQ v) := by
  refine Ev.congr (fun k => by unfold qP.f; rw [if_pos ⟨h7, hl⟩]) ?_
  unfold zFQ
  rw [← zFS]
  exact zET v _ (by omega)
def nz1 (x : Int) : Int := if x = 0 then 0 else 1
theorem zFT (x : Int) : 0 ≤ nz1 x ∧ nz1 x ≤ 1 := by unfold nz1; split <;> omega
theorem Qz (v : List Int) (n q : Nat) (hq4 : 4 ≤ q) (hq : q ≤ 6) (h : n * 7 + 7 ≤ v.length) (hb : v.length ≤ 7000000000) (hp : ∀ x ∈ v, 0 ≤ x) (c : Int) (hc0 : 0 ≤ c) (hc : c ≤ 10) {R : Bool} (hlt : n * 7 + q < v.length)
    (hR : Ev (fun k => zu.l1 k v ((n * 7 : Nat) : Int) (c + nz1 v[n * 7 + q]) ((q + 1 : Nat) : Int)) R) : Ev (fun k => zu.l1 k v ((n * 7 : Nat) : Int) c (q : Int)) R := by
  have e1 : wrap64 (((n * 7 : Nat) : Int) + (q : Int)) = ((n * 7 + q : Nat) : Int) := by rw [qt (by omega) (by omega)]; omega
  have e2 : wrap64 ((q : Int) + 1) = ((q + 1 : Nat) : Int) := ZK (by omega)
  have hv := hp v[n * 7 + q] (List.getElem_mem hlt)
  refine qh (fun k => by rw [zu.l1, if_pos (by omega), e1, if_pos (by omega), if_pos (by omega), zA7 v _ hlt, e2]) ?_
  by_cases hz : v[n * 7 + q] > 0
  · refine ql hz ?_
    have e3 : wrap64 (c + 1) = c + nz1 v[n * 7 + q] := by rw [qt (by omega) (by omega)]; unfold nz1; rw [if_neg (by omega)]
    rw [e3]; exact hR
  · refine ZR hz ?_
    have e3 : c = c + nz1 v[n * 7 + q] := by unfold nz1; rw [if_pos (by omega)]; omega
    rw [e3]; exact hR
theorem zCx (v : List Int) (n : Nat) (h : n * 7 + 7 ≤ v.length) (hb : v.length ≤ 7000000000) (hp : ∀ x ∈ v, 0 ≤ x) {R : Bool} (hR : Ev (fun k => zu.l0 k v (((n + 1) * 7 : Nat) : Int)) R) : Ev (fun k => zu.l1 k v ((n * 7 : Nat) : Int) 0 4) (zFO v n && R) := by
  have b4 := zFT (v[n * 7 + 4])
  have b5 := zFT (v[n * 7 + 5])
  have b6 := zFT (v[n * 7 + 6])
  refine Qz v n 4 (by omega) (by omega) h hb hp 0 (by omega) (by omega) (by omega) ?_
  refine Qz v n 5 (by omega) (by omega) h hb hp _ (by omega) (by omega) (by omega) ?_
  refine Qz v n 6 (by omega) (by omega) h hb hp _ (by omega) (by omega) (by omega) ?_
  have e1 : wrap64 (((n * 7 : Nat) : Int) + 7) = (((n + 1) * 7 : Nat) : Int) := by rw [qt (by omega) (by omega)]; omega
  refine qh (fun k => by rw [zu.l1, if_neg (by omega), e1]) ?_
  have hn : (0 + nz1 v[n * 7 + 4] + nz1 v[n * 7 + 5] + nz1 v[n * 7 + 6] : Int) = (nzc (Qc 7 4 3 v n) : Int) := by
    rw [zAL h]
    unfold nzc nzc nzc nzc nz1
    repeat' split
    all_goals simp
  rw [hn]
  unfold zFO
  by_cases hz : nzc (Qc 7 4 3 v n) ≤ 1
  · rw [ygy hz, Bool.true_and]
    exact ZR (by omega) hR
  · rw [yhy hz, Bool.false_and]
    exact ql (by omega) (Ev.now _)
theorem zAt (v : List Int) (hb : v.length ≤ 7000000000) (hp : ∀ x ∈ v, 0 ≤ x) (N : Nat) (hN : v.length = N * 7) : ∀ d n, n + d = N → Ev (fun k => zu.l0 k v ((n * 7 : Nat) : Int)) (zFP v d n)
  | 0, n, hn => by
    have e1 : wrap64 (((n * 7 : Nat) : Int) + 7) = ((n * 7 + 7 : Nat) : Int) := by rw [qt (by omega) (by omega)]; omega
    refine qh (fun k => by rw [zu.l0, e1, if_neg (by omega)]) ?_
    exact Ev.now _
  | d + 1, n, hn => by
    have e1 : wrap64 (((n * 7 : Nat) : Int) + 7) = ((n * 7 + 7 : Nat) : Int) := by rw [qt (by omega) (by omega)]; omega
    refine qh (fun k => by rw [zu.l0, e1, if_pos (by omega)]) ?_
    exact zCx v n (by omega) hb hp (zAt v hb hp N hN d (n + 1) (by omega))
theorem zAN (v : List Int) (h7 : v.length % 7 = 0) (hl : v.length ≤ 7000000000) (hp : ∀ x ∈ v, 0 ≤ x) : Ev (fun k => zu.f k v) (zFQ v) := by
  have := zAt v hl hp (v.length / 7) (by omega) (v.length / 7) 0 (by omega)
  unfold zFQ
  exact this
theorem JV {t : Tri} {v : List Int} (h : Ql t v = true) : (v.length : Int) = 7 * (t.length : Int) ∧ (∀ x ∈ v, 0 ≤ x ∧ x ≤ 1000) ∧ JR (JG t) v = true := by
  unfold Ql at h
  by_cases hl : (v.length : Int) = 7 * (t.length : Int)
  · rw [if_pos hl] at h
    by_cases ha : v.all inR = true
    · rw [if_pos ha] at h
      refine ⟨hl, fun x hx => ?_, h⟩
      have := List.all_eq_true.1 ha x hx
      unfold inR at this
      simp at this
      exact this
    · rw [if_neg ha] at h; cases h
  · rw [if_neg hl] at h; cases h
def adm0 (t : Tri) (v : List Int) : Bool := if Ql t v = true then zFQ v else false
def adm (t : Tri) (v : List Int) : Bool := if Ja t v = true then zFQ v else false
theorem Jy {t : Tri} (h : Qy t = 0) (v : List Int) : Ja t v = Ql t v := by unfold Ja; rw [if_pos h]
theorem zF8 {t : Tri} (h : Qy t = 0) (v : List Int) : adm t v = adm0 t v := by unfold adm adm0; rw [Jy h]
theorem zAu {t : Tri} {v : List Int} (h : Ja t v = true) : Qy t = 0 := by
  unfold Ja at h
  by_cases hc : Qy t = 0
  · exact hc
  · rw [if_neg hc] at h; cases h
theorem zAO {t : Tri} (hc : Qy t = 0) (v : List Int) : Ev (fun k => zl.f k t v) (adm0 t v) := by
  obtain ⟨ht, h6⟩ := JU hc
  refine Ev.bind (Qh (zC8 ht v)) ?_
  unfold adm0
  by_cases hn : Ql t v = true
  · obtain ⟨hl, hr, _⟩ := JV hn
    refine ql hn (Ev.bind (zAM v (by omega) (by omega)) ?_)
    rw [if_pos hn]; exact Ev.now _
  · rw [if_neg hn]; exact ZR hn (Ev.now _)
theorem zAv (t : Tri) (v : List Int) (hv : v.length ≤ 4398046511104) : Ev (fun k => qW.f k t v) (adm t v) := by
  refine Ev.bind (zB6 t v hv) ?_
  unfold adm
  by_cases hn : Ja t v = true
  · have hc := zAu hn
    obtain ⟨ht, h6⟩ := JU hc
    rw [Jy hc] at hn
    obtain ⟨hl, hr, _⟩ := JV hn
    rw [Jy hc]
    refine ql hn (Ev.bind (zAN v (by omega) (by omega) (fun x hx => (hr x hx).1)) ?_)
    rw [if_pos hn]; exact Ev.now _
  · rw [if_neg hn]; exact ZR hn (Ev.now _)
theorem zEx {t : Tri} (hc : ¬ Qy t = 0) (v : List Int) : adm t v = false := by
  unfold adm Ja
  rw [if_neg hc, if_neg (by simp)]
def Jz (u v : List Int) : List Int := List.zipWith (· + ·) u v
def JD (u : List Int) : Prop := ∀ x ∈ u, 0 ≤ x ∧ x ≤ 1000
theorem zAP {u v : List Int} (h : u.length = v.length) : (Jz u v).length = u.length := by unfold Jz; rw [List.length_zipWith]; omega
theorem zAQ : ∀ {u v : List Int}, JD u → JD v → ∀ x ∈ Jz u v, 0 ≤ x ∧ x ≤ 2000
  | [], _, _, _ => by simp [Jz]
  | _ :: _, [], _, _ => by simp [Jz]
  | a :: u, b :: v, hu, hv => by
    intro x hx
    rcases List.mem_cons.1 hx with rfl | hx
    · have h1 := hu a (List.mem_cons_self ..)
      have h2 := hv b (List.mem_cons_self ..)
      show 0 ≤ a + b ∧ a + b ≤ 2000
      omega
    · exact zAQ (u := u) (v := v) (fun y hy => hu y (List.mem_cons_of_mem _ hy)) (fun y hy => hv y (List.mem_cons_of_mem _ hy)) x hx
theorem zAR (u v : List Int) (hl : u.length = v.length) (hb : u.length ≤ 7000000000) (hu : JD u) (hv : JD v) : ∀ (d n : Nat) (acc : List Int), n + d = u.length → acc.length = n → Ev (fun k => qH.l0 k u v 1 acc (n : Int)) (acc ++ Jz (u.drop n) (v.drop n))
  | 0, n, acc, hn, ha => by
    refine qh (fun k => by rw [qH.l0, if_neg (by omega)]) ?_
    rw [List.drop_eq_nil_of_le (by omega)]
    exact Qj (by simp [Jz])
  | d + 1, n, acc, hn, ha => by
    have hlt : n < u.length := by omega
    have hlv : n < v.length := by omega
    have h1 := hu u[n] (List.getElem_mem hlt)
    have h2 := hv v[n] (List.getElem_mem hlv)
    have e : wrap64 (u[n] + wrap64 (1 * v[n])) = u[n] + v[n] := by rw [Int.one_mul, qt (x := v[n]) (by omega) (by omega), qt (by omega) (by omega)]
    refine qh (fun k => by rw [qH.l0, if_pos (by omega), if_pos (by omega), if_pos (by omega), if_pos (by omega), zA7 u n hlt, zA7 v n hlv, e, ZK (by omega)]) ?_
    have := zAR u v hl hb hu hv d (n + 1) (acc ++ [u[n] + v[n]]) (by omega) (by simp; omega)
    rw [yoy hlt, yoy hlv]
    rw [List.append_assoc] at this
    exact this
theorem zCb (u v : List Int) (hl : u.length = v.length) (hb : u.length ≤ 7000000000) (hu : JD u) (hv : JD v) : Ev (fun k => qH.f k u v 1) (Jz u v) := by
  have := zAR u v hl hb hu hv u.length 0 [] (by omega) rfl
  rwa [List.drop_zero, List.drop_zero, List.nil_append] at this
theorem zAS (u v : List Int) (hl : u.length = v.length) (hb : u.length ≤ 7000000000) (hu : JD u) (hv : JD v) : ∀ (d n : Nat) (acc : List Int), n + d = u.length → acc.length = n → Ev (fun k => qu.l0 k (acc ++ u.drop n) v (v.length : Int) (n : Int)) (acc ++ Jz (u.drop n) (v.drop n))
  | 0, n, acc, hn, ha => by
    refine qh (fun k => by rw [qu.l0, if_neg (by omega)]) ?_
    rw [List.drop_eq_nil_of_le (by omega)]
    exact Qj (by simp [Jz])
  | d + 1, n, acc, hn, ha => by
    have hlt : n < u.length := by omega
    have hlv : n < v.length := by omega
    have h1 := hu u[n] (List.getElem_mem hlt)
    have h2 := hv v[n] (List.getElem_mem hlv)
    have e : wrap64 (u[n] + v[n]) = u[n] + v[n] := qt (by omega) (by omega)
    have hL : (acc ++ u.drop n).length = u.length := by rw [List.length_append, yly]; omega
    have hr : rd (acc ++ u.drop n) (n : Int) = u[n] := by
      rw [zA7 _ n (by omega)]
      rw [List.getElem_append_right (by omega)]
      simp [ha]
    have hset : (acc ++ u.drop n).set n (u[n] + v[n]) = (acc ++ [u[n] + v[n]]) ++ u.drop (n + 1) := by
      rw [List.set_append_right _ _ (by omega), ha, Nat.sub_self, yoy hlt, yby, List.append_assoc]; rfl
    refine qh (fun k => by rw [qu.l0, if_pos (by omega), if_pos (by omega), if_pos (by omega), if_pos (by omega), hr, zA7 v n hlv, e, yny, hset, ZK (by omega)]) ?_
    have := zAS u v hl hb hu hv d (n + 1) (acc ++ [u[n] + v[n]]) (by omega) (by simp; omega)
    rw [yoy hlt, yoy hlv]
    have e2 : acc ++ Jz (u[n] :: u.drop (n + 1)) (v[n] :: v.drop (n + 1)) = acc ++ [u[n] + v[n]] ++ Jz (u.drop (n + 1)) (v.drop (n + 1)) := by rw [List.append_assoc]; rfl
    rw [e2]
    exact this
theorem zCc (u v : List Int) (hl : u.length = v.length) (hb : u.length ≤ 7000000000) (hu : JD u) (hv : JD v) : Ev (fun k => qu.f k u v) (Jz u v) := by
  refine Ev.bind (Qh (show qm.f u = some u from by unfold qm.f; rw [if_pos (by omega)])) ?_
  have := zAS u v hl hb hu hv u.length 0 [] (by omega) rfl
  rwa [List.drop_zero, List.drop_zero, List.nil_append, List.nil_append] at this
def zAw (t : Tri) (u v : List Int) : Bool := if adm t u = true then (if adm t v = true then zFQ (Jz u v) else false) else false
theorem zDK {t : Tri} {v : List Int} (h : adm t v = true) : Qy t = 0 ∧ Ql t v = true := by
  unfold adm at h
  by_cases hn : Ja t v = true
  · have hc := zAu hn
    rw [Jy hc] at hn
    exact ⟨hc, hn⟩
  · rw [if_neg hn] at h; cases h
theorem zEU {t : Tri} {u v : List Int} (hu : adm t u = true) (hv : adm t v = true) : Qy t = 0 ∧ u.length = v.length ∧ u.length % 7 = 0 ∧ u.length ≤ 42 ∧ JD u ∧ JD v := by
  obtain ⟨hc, h1⟩ := zDK hu
  obtain ⟨_, h2⟩ := zDK hv
  obtain ⟨ht, h6⟩ := JU hc
  obtain ⟨a1, a2, _⟩ := JV h1
  obtain ⟨b1, b2, _⟩ := JV h2
  exact ⟨hc, by omega, by omega, by omega, a2, b2⟩
theorem zB8 (t : Tri) (u v : List Int) (hu : u.length ≤ 4398046511104) (hv : v.length ≤ 4398046511104) : Ev (fun k => Zb.f k t u v) (zAw t u v) := by
  refine Ev.bind (zAv t u hu) ?_
  unfold zAw
  by_cases h1 : adm t u = true
  · refine ql h1 (Ev.bind (zAv t v hv) ?_)
    rw [if_pos h1]
    by_cases h2 : adm t v = true
    · obtain ⟨hc, hl, h7, hb, su, sv⟩ := zEU h1 h2
      have hp := zAP hl
      refine ql h2 (Ev.bind (zCb u v hl (by omega) su sv) ?_)
      rw [if_pos h2]
      exact Ev.bind (zAN _ (by omega) (by omega) (fun x hx => (zAQ su sv x hx).1)) (Ev.now _)
    · rw [if_neg h2]; exact ZR h2 (Ev.now _)
  · rw [if_neg h1]; exact ZR h1 (Ev.now _)
theorem zAx {t : Tri} (hc : Qy t = 0) (u v : List Int) : Ev (fun k => qR.f k t u v) (zAw t u v) := by
  refine Ev.bind (zAO hc u) ?_
  unfold zAw
  rw [← zF8 hc]
  by_cases h1 : adm t u = true
  · refine ql h1 (Ev.bind (zAO hc v) ?_)
    rw [if_pos h1, ← zF8 hc]
    by_cases h2 : adm t v = true
    · obtain ⟨_, hl, h7, hb, su, sv⟩ := zEU h1 h2
      have hp := zAP hl
      refine ql h2 (Ev.bind (zCc u v hl (by omega) su sv) ?_)
      rw [if_pos h2]
      exact Ev.bind (zAM _ (by omega) (by omega)) (Ev.now _)
    · rw [if_neg h2]; exact ZR h2 (Ev.now _)
  · rw [if_neg h1]; exact ZR h1 (Ev.now _)
theorem zCy {t : Tri} (hc : ¬ Qy t = 0) (u v : List Int) : zAw t u v = false := by
  unfold zAw
  rw [zEx hc u, if_neg (by simp)]
theorem zB9 {t : Tri} (hs : Small t) (u v : List Int) : Ev (fun k => Za.f k t u v) (zAw t u v) := by
  refine Ev.bind (zC6 hs) ?_
  by_cases hc : Qy t = 0
  · exact ql hc (Ev.bind (zAx hc u v) (Qj rfl))
  · exact ZR hc (Qj (zCy hc u v).symm)
end Go.Proofs.Ythjpdljdodalaaa.P
namespace Go.Proofs.Ythjpdljdodalaaa.Pure
open Go.RowKit Go.Proofs.Ythjpdljdodalaaa.P Go.Proofs.Ythjpdljdodalaaa.Lib Go.Proofs.YthjpdljdodalaaaW.PrintWords
theorem JX (l : List (List qQ)) (x y : List Int) (h : Fits l) (hx : x.length ≤ 9223372036854775807) (hy : y.length ≤ 9223372036854775807) : ∃ k, qy.f k l x y = some true := by
  refine Ev.rounds ?_
  by_cases hx1 : (x.length : Int) > 1048576
  · exact ql hx1 (Ev.now true)
  refine ZR hx1 ?_
  by_cases hy1 : (y.length : Int) > 1048576
  · exact ql hy1 (Ev.now true)
  refine ZR hy1 ?_
  obtain ⟨r, hr, hs⟩ := Jt l h
  refine Ev.bind hr ?_
  by_cases hn : r < 0
  · exact ql hn (Ev.now true)
  · have hsm := hs hn
    have hto := Ju l hsm
    have htx := zAp x (by omega)
    have hty := zAp y (by omega)
    have hS := zEL hsm
    refine ZR hn ?_
    refine Ev.bind hto ?_
    refine Ev.bind htx ?_
    refine Ev.bind hty ?_
    refine Ev.bind (zB8 _ _ _ (by omega) (by omega)) ?_
    refine Ev.bind hto ?_
    refine Ev.bind htx ?_
    refine Ev.bind hty ?_
    refine Ev.bind (zB9 hS _ _) ?_
    refine ql rfl ?_
    refine Ev.bind hto ?_
    refine Ev.bind (Jv _ hS) ?_
    refine ql rfl ?_
    refine Ev.bind htx ?_
    refine Ev.bind (zAq _ (by omega)) ?_
    refine ql rfl ?_
    refine Ev.bind hty ?_
    refine Ev.bind (zAq _ (by omega)) ?_
    exact ql rfl (Ev.now true)
end Go.Proofs.Ythjpdljdodalaaa.Pure
namespace Go.Proofs.Ythjpdljdodalaaa.Lib
open Go.RowKit Go.Proofs.YthjpdljdodalaaaW.PrintWords Go.Joins Go.Deep Go.WideShapes Go.ChangeShapes
set_option linter.unusedVariables false
def zDm (P : Program) (t : TypeId) {α : Type} (d : Kd α) : Prop := ∀ (H : Type) (enc : TypeId × Value → H) (w : World) (base : Nat) (spare : Nat → Bool) (held : Bool) (fuel : Nat) (cs : List Value) (x : DataW H × List MemPlace),
  DataW.trod enc P w base spare held fuel t cs = some x → ∃ y, d.K w y cs
theorem zCd {P : Program} {t : TypeId} {k : IntKind} (ht : P.underlying t = some (.int k)) : zDm P t (Kd.int k) := by
  intro H enc w base spare held fuel cs x h
  obtain ⟨n, rfl, _, _⟩ := DataW.trod_int ht h
  exact ⟨n, rfl⟩
theorem zCe {α : Type} {R : Nat → α → Prop} : ∀ n, (∀ i, i < n → ∃ y, R i y) → ∃ ys : List α, ys.length = n ∧ ∀ j p, ys[j]? = some p → R j p
  | 0, _ => ⟨[], rfl, fun j p h => by simp at h⟩
  | n + 1, h => by
    obtain ⟨ys, hl, hr⟩ := zCe n (fun i hi => h i (by omega))
    obtain ⟨y, hy⟩ := h n (by omega)
    refine ⟨ys ++ [y], by simp [hl], fun j p hj => ?_⟩
    by_cases hlt : j < n
    · rw [List.getElem?_append_left (by omega)] at hj
      exact hr j p hj
    · have hjn : j < (ys ++ [y]).length := (List.getElem?_eq_some_iff.1 hj).1
      have : j = n := by simp [hl] at hjn; omega
      subst this
      rw [List.getElem?_append_right (by omega), hl, Nat.sub_self] at hj
      injection hj with hj
      rw [← hj]
      exact hy
theorem JA {P : Program} {t e : TypeId} {α : Type} {d : Kd α} (ht : P.underlying t = some (.slice e)) (hc : P.cellsOf e = d.sz) (h : zDm P e d) : zDm P t (Kd.slice e d) := by
  intro H enc w base spare held fuel cs x hx
  rcases open_slice ht hx with ⟨rfl, _⟩ | ⟨a, len, cap, m, n, D, Pl, rfl, hb, hl, hm, hmm, _, hi⟩
  · exact ⟨[], none, 0, rfl, yqy _, Kd.C_nil d w⟩
  · have each : ∀ i, i < len → ∃ y, ∃ cs', w.cells? base (a.add (i * d.sz)) d.sz = some cs' ∧ d.K w y cs' := by
      intro i hil
      have him : i < m := by rw [hmm]; split <;> omega
      obtain ⟨cs', h1, h2⟩ := hi i him
      obtain ⟨y, hy⟩ := h H enc w base spare held n cs' _ h2
      rw [hc] at h1
      exact ⟨y, cs', h1, hy⟩
    obtain ⟨ys, hlen, hys⟩ := zCe len each
    refine ⟨ys, some a, cap, by rw [hlen], by omega, rfl, ?_, fun _ => ⟨a, rfl, fun j p hj => ?_⟩⟩
    · unfold maxLen at hm; omega
    · obtain ⟨cs', h1, h2⟩ := hys j p hj
      obtain ⟨_, h3, h4⟩ := World.cells?_some h1
      refine ⟨cs', h3, h2, fun i u hu => ?_⟩
      have hil : i < d.sz := by rw [← h3]; exact (List.getElem?_eq_some_iff.1 hu).1
      rw [← hu, ← h4 i hil, Go.Deep.add_add]
theorem zC9 {P : Program} {t : TypeId} {f0 f1 : Field} {α : Type} (hs : P.underlying t = some (.struct #[f0, f1])) (hone : oneCellFields P #[f0, f1] = true) (hC : P.cellsOf t = 2)
    (h0 : P.underlying f0.type = some (.int .i64)) (h1 : P.underlying f1.type = some (.int .i64)) (d : Kd α) (mk : Int → Int → α) (hK : ∀ w a b, d.K w (mk a b) [.int .i64 a, .int .i64 b]) : zDm P t d := by
  intro H enc w base spare held fuel cs x h
  obtain ⟨y0, y1, n, hx, hl, g0, g1⟩ := trod_struct2 hs h
  obtain ⟨o0, k0⟩ := hone_of hone 0 f0 rfl
  obtain ⟨o1, k1⟩ := hone_of hone 1 f1 rfl
  rw [hC] at hl
  match cs, hl with
  | [c0, c1], _ =>
    rw [o0, k0] at g0
    rw [o1, k1] at g1
    obtain ⟨a, e0, _, _⟩ := DataW.trod_int h0 g0
    obtain ⟨b, e1, _, _⟩ := DataW.trod_int h1 g1
    simp at e0 e1
    subst e0 e1
    exact ⟨mk a b, hK w a b⟩
section
variable {H : Type} {enc : TypeId × Value → H} {P : Program} {w : World} {base : Nat} {spare : Nat → Bool} {held : Bool}
theorem array1 {α : Type} {cs : Array α} (h : cs.size = 1) : ∃ c0, cs = #[c0] := by
  obtain ⟨l⟩ := cs
  match l, h with
  | [c0], _ => exact ⟨c0, rfl⟩
theorem zDL {r : Reach} {b0 : Nat} {t e : TypeId} {α : Type} {d : Kd α} {v : Value} {D : DataW H} {p : List MemPlace} (hu : P.underlying t = some (.slice e)) (ho : zDm P t (Kd.slice e d)) (hv : Value.okWide P w r b0 t v) (h : DataW.Trod enc P w base spare held t v D p) :
    ∃ (A : Option Addr) (c : Nat) (l : List α), v = .slice A l.length c ∧ l.length ≤ c ∧ d.C w A l.length l := by
  obtain ⟨a0, len, cap, rfl⟩ := okWide_slice hu hv
  obtain ⟨fuel, hf⟩ := h
  obtain ⟨l, A, c, e1, hl, hC⟩ := ho H enc w base spare held fuel _ _ hf
  simp [Value.cells] at e1
  obtain ⟨rfl, rfl, rfl⟩ := e1
  exact ⟨_, _, l, rfl, hl, hC⟩
theorem zEV {r : Reach} {b0 : Nat} {t e : TypeId} {f0 : Field} {α : Type} {d : Kd α} {v : Value} {D : DataW H} {p : List MemPlace} (hs : P.underlying t = some (.struct #[f0])) (hone : oneCellFields P #[f0] = true) (hC : P.cellsOf t = 1)
    (ho : zDm P f0.type (Kd.slice e d)) (hv : Value.okWide P w r b0 t v) (h : DataW.Trod enc P w base spare held t v D p) :
    ∃ (A : Option Addr) (c : Nat) (l : List α), v = .agg #[.slice A l.length c] ∧ l.length ≤ c ∧ d.C w A l.length l := by
  obtain ⟨cs, rfl, hsz⟩ := okWide_struct hs hv
  obtain ⟨c0, rfl⟩ := array1 (hsz.trans hC)
  obtain ⟨fuel, hf⟩ := h
  obtain ⟨y0, n, hx, _, h0⟩ := trod_struct1 hs hf
  obtain ⟨o0, k0⟩ := hone_of hone 0 f0 rfl
  have h0' : DataW.trod enc P w base spare held n f0.type [c0] = some y0 := by simpa [Value.cells, o0, k0] using h0
  obtain ⟨l, A, c, e1, hl, hCC⟩ := ho H enc w base spare held n _ _ h0'
  simp at e1
  subst e1
  exact ⟨A, c, l, rfl, hl, hCC⟩
end
theorem zEW {e : Nat} {α : Type} {d : Kd α} {w : World} {A : Option Addr} {l : List (List α)} (h : (Kd.slice e d).C w A l.length l) : l.length ≤ 9223372036854775807 ∧ ∀ r ∈ l, r.length ≤ 9223372036854775807 := by
  refine ⟨h.2.1, fun r hr => ?_⟩
  obtain ⟨j, hj, rfl⟩ := List.mem_iff_getElem.1 hr
  obtain ⟨ad, _, hc⟩ := h.2.2 (by omega)
  obtain ⟨c, _, hK, _⟩ := hc j _ (List.getElem?_eq_getElem hj)
  obtain ⟨A', c', _, _, hC⟩ := hK
  exact hC.2.1
end Go.Proofs.Ythjpdljdodalaaa.Lib
namespace Go.Proofs.Ythjpdljdodalaaa.fnExactAreCompatible
open Go.ChangeShapes Go.WideShapes Go.ChangeAt Go.RowKit Go.Proofs.Ythjpdljdodalaaa.Lib Go.Proofs.YthjpdljdodalaaaW.PrintWords Go.Proofs.Ythjpdljdodalaaa.P
open Go.ChangeMaps (open_string shut_string)
set_option linter.unusedVariables false
theorem own : ownKnob Try.prog.godebug = none := by kernel_rfl
theorem laidOut : laidOutB Try.prog = true := by kernel_rfl
set_option maxRecDepth 100000 in
theorem lifted (os : Os) (started : os.Started) (H : Type) (enc : TypeId × Value → H) :
    ReturnsInHanded {} Try.checked os 6 .any (Rows.fnExactAreCompatibleSpec.pre6 enc Try.prog Try.f6 Rows.fnExactAreCompatibleRow.domain false) (Rows.fnExactAreCompatibleSpec.post enc Try.prog Try.f6 false true false false) := by
  refine returnsInHanded_of_change_sized (C := Try.checked) own started (by kernel_rfl) Try.func6
    (ChangeSpec.witness6 (enc := enc) (C := Try.checked) false ⟨#[], #[.agg #[.slice none 0 0], .slice none 0 0, .slice none 0 0], []⟩ 8 (by kernel_rfl) (by kernel_rfl) (by kernel_rfl) (by kernel_rfl)) ?_
  intro W base args ds gs before hval0 hW hcnd hsz0 _
  have hval : ∀ (j : Nat) t v, Try.f6.params[j]? = some t → args[j]? = some v → Value.okWide Try.prog W .any base t v := hval0
  have hW' := hW
  obtain ⟨p, q, hA0, hV, rfl, hfz, hnd⟩ := hW
  have hA : DataW.TrodAll enc Try.prog W 0 (fun _ => true) true Try.f6.params.toList args.toList ds p := hA0
  rw [Try.params6] at hA hval
  obtain ⟨v0, vs0, d0, ds0, p0, q0, hargs, rfl, rfl, h0, r0⟩ := trodAll_cons hA
  obtain ⟨v1, vs1, d1, ds1, p1, q1, rfl, rfl, rfl, h1, r1⟩ := trodAll_cons r0
  obtain ⟨v2, vs2, d2, ds2, p2, q2, rfl, rfl, rfl, h2, r2⟩ := trodAll_cons r1
  obtain ⟨rfl, rfl, rfl⟩ := trodAll_nil r2
  obtain rfl : args = #[v0, v1, v2] := by cases args; simp_all
  obtain ⟨rfl, rfl⟩ := trodVars_none hV
  have k0 := h0
  have lt0 : ∀ x ∈ p0, x.block < W.heap.size := by obtain ⟨m, hm⟩ := k0; exact DataW.trod_lt m _ _ _ hm
  obtain ⟨A0, c0, l0, rfl, hl0, hC0⟩ := zEV Try.underlying24 (by kernel_rfl) (by kernel_rfl) (JA Try.underlying22 (by kernel_rfl) (JA Try.underlying103 (by kernel_rfl) (zC9 Try.underlying136 (by kernel_rfl) (by kernel_rfl) Try.underlying2 Try.underlying2 Zv (fun a b => (⟨a, b⟩ : qQ)) (fun w a b => zCm w ⟨a, b⟩)))) (hval 0 24 v0 rfl rfl) h0
  have k1 := h1
  have lt1 : ∀ x ∈ p1, x.block < W.heap.size := by obtain ⟨m, hm⟩ := k1; exact DataW.trod_lt m _ _ _ hm
  obtain ⟨A1, c1, l1, rfl, hl1, hC1⟩ := zDL Try.underlying25 (JA Try.underlying25 (by kernel_rfl) (zCd Try.underlying2)) (hval 1 25 v1 rfl rfl) h1
  have k2 := h2
  have lt2 : ∀ x ∈ p2, x.block < W.heap.size := by obtain ⟨m, hm⟩ := k2; exact DataW.trod_lt m _ _ _ hm
  obtain ⟨A2, c2, l2, rfl, hl2, hC2⟩ := zDL Try.underlying25 (JA Try.underlying25 (by kernel_rfl) (zCd Try.underlying2)) (hval 2 25 v2 rfl rfl) h2
  obtain ⟨k, hk⟩ := Pure.JX l0 l1 l2 (zEW hC0) hC1.2.1 hC2.2.1
  refine (qy.calls k _ _ l0 _ _ l1 _ _ l2 W hC0 hl0 hC1 hl1 hC2 hl2 hk).mono fun e W' ⟨he, bel⟩ => ?_
  subst he
  exact ⟨_, rfl, _, _, _, [], _, [], hW', trodAll_mk1 (shut_bool Try.underlying4 _), (trodAll_cons_mk (Below.trod laidOut (by kernel_rfl) (of_decide_eq_true (by kernel_rfl)) k0 bel lt0) (trodAll_cons_mk (Below.trod laidOut (by kernel_rfl) (of_decide_eq_true (by kernel_rfl)) k1 bel lt1) (trodAll_cons_mk (Below.trod laidOut (by kernel_rfl) (of_decide_eq_true (by kernel_rfl)) k2 bel lt2) trodAll_mk0))), rfl, bel.frame _, fun h => by cases h⟩
theorem over : Rows.fnExactAreCompatibleRow.holds Try.pinned (OpenSpec.ofChange Rows.fnExactAreCompatibleSpec) :=
  OpenClaim.holds_of_wide 6 Try.f6 rfl rfl rfl rfl rfl rfl rfl ⟨rfl, rfl, rfl, rfl, rfl⟩ rfl rfl rfl rfl rfl (by kernel_rfl) Try.func6 (by kernel_rfl)
    (of_decide_eq_true (by kernel_rfl)) (by unfold Func.isWrapper; first | (rw [if_pos (by decide +kernel)]; kernel_rfl) | (rw [if_neg (by decide +kernel)]; exact ⟨rfl, rfl⟩))
    (fun os started H enc _ => lifted os started H enc)
theorem proved : Rows.FnExactAreCompatibleSaid := over
#print axioms proved
end Go.Proofs.Ythjpdljdodalaaa.fnExactAreCompatible
namespace Go.Proofs.Ythjpdljdodalaaa
theorem fnExactAreCompatible_holds : Rows.FnExactAreCompatibleSaid := fnExactAreCompatible.proved
end Go.Proofs.Ythjpdljdodalaaa
