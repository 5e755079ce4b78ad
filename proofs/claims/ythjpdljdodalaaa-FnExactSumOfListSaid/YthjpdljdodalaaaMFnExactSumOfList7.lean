/- The statement FnExactSumOfListSaid, proved: part 7 of 7 (texts of this session and of the kit's print, put together and cut to what is used by a program of it). -/
import Derived.Test.YthjpdljdodalaaaMFnExactSumOfList6
import Derived.Deep.Slices
import Derived.ChangeSame
import Derived.ChangeArms
import Derived.WideShapes
import Derived.Lib.SmallJoins
import Derived.ChangeShapes
import Derived.Test.YthjpdljdodalaaaRows
import Derived.WalkKit
import Derived.ProofKit
import Derived.OpenShut
import Derived.ShutString
import Derived.ChangeOld
import Derived.Below
import Derived.SizedLaws
import Derived.Carry
namespace Go.Proofs.Ythjpdljdodalaaa.P
open Go.RowKit Go.Proofs.YthjpdljdodalaaaW.PrintWords Go.Proofs.Ythjpdljdodalaaa.Lib
set_option linter.unusedVariables false
abbrev fc (t : Tri) (a f : Int) : zq := zG (zE t a) f
def zB2 (t : Tri) (a f : Int) : Bool :=
  if (fc t a f).f0 = -1 then (fc t a f).f1 == 0
  else if 0 ≤ (fc t a f).f0 ∧ (fc t a f).f0 < (t.length : Int) ∧ 0 ≤ (fc t a f).f1 ∧ (fc t a f).f1 ≤ 23 then
    ((fc t (fc t a f).f0 (rd (ZM (fc t a f).f1) f)).f0 == a && (fc t (fc t a f).f0 (rd (ZM (fc t a f).f1) f)).f1 == zES (fc t a f).f1) && !((fc t a f).f0 == a && rd (ZM (fc t a f).f1) f == f)
  else false
def JZ (t : Tri) (a : Int) : Int → Nat → Bool
  | _, 0 => true
  | f, d + 1 => zB2 t a f && JZ t a (f + 1) d
def zA8 (t : Tri) : Int → Nat → Bool
  | _, 0 => true
  | a, d + 1 => JZ t a 0 4 && zA8 t (a + 1) d
def QX (t : Tri) : Bool := decide (t.length ≤ 8) && (t.all (fun r => decide (r.length = 4)) && zA8 t 0 t.length)
section
variable {t : Tri}
theorem zGl (h4 : ∀ r ∈ t, r.length = 4) {a : Int} (h0 : 0 ≤ a) (h1 : a < t.length) : (zE t a).length = 4 := by
  obtain ⟨n, rfl⟩ := Int.eq_ofNat_of_zero_le h0
  rw [JF t n (by omega)]
  exact h4 _ (List.getElem_mem _)
theorem zBg (h4 : ∀ r ∈ t, r.length = 4) (hn : t.length ≤ 8) {a f : Int} (h0 : 0 ≤ a) (h1 : a < t.length) (hf0 : 0 ≤ f) (hf1 : f ≤ 3) : Ev (fun k => zS.f k t a f) (zB2 t a f) := by
  have hr := zGl h4 h0 h1
  refine Ev.congr (fun k => by unfold zS.f; rw [if_pos h0, if_pos h1, if_pos hf0, if_pos (by omega)]) ?_
  change Ev (fun k => if (fc t a f).f0 = -1 then some ((fc t a f).f1 == 0) else _) (zB2 t a f)
  unfold zB2
  by_cases hb : (fc t a f).f0 = -1
  · rw [if_pos hb]; exact qq hb (Ev.now _)
  · refine ZY hb ?_
    rw [if_neg hb]
    have hix : ql.f t (fc t a f).f0 = some (decide (0 ≤ (fc t a f).f0) && decide ((fc t a f).f0 ≤ (t.length : Int) - 1)) := by
      unfold ql.f qm.f
      rw [yfy, qt (by omega) (by omega), zAj]; rfl
    have hfalse : Ev (fun k => zS.j0 k a f true t (fc t a f).f0 (fc t a f).f1) false := qV (fun k => by rw [zS.j0, if_pos rfl]) (Ev.now false)
    refine Ev.bind (JL hix) ?_
    by_cases hi : 0 ≤ (fc t a f).f0 ∧ (fc t a f).f0 < (t.length : Int)
    · refine qq (by simp; omega) ?_
      refine Ev.bind (JL (zFI _)) ?_
      by_cases hp : 0 ≤ (fc t a f).f1 ∧ (fc t a f).f1 ≤ 23
      · rw [if_pos ⟨hi.1, hi.2, hp.1, hp.2⟩]
        have e : (!(decide (0 ≤ (fc t a f).f1) && decide ((fc t a f).f1 ≤ 23))) = false := by simp [hp]
        rw [e]
        refine qV (fun k => by rw [zS.j0, if_neg (by simp), zFK hp.1 hp.2 hf0 hf1, yfy]) ?_
        obtain ⟨hg0, hg1⟩ := zAR hp.1 hp.2 hf0 hf1
        have hr2 := zGl h4 hi.1 hi.2
        refine qq hi.1 (qq hi.2 (qq hg0 (qq (by rw [hr2]; omega) ?_)))
        refine Ev.bind (JL (zEY hp.1 hp.2)) ?_
        change Ev (fun k => if ((fc t (fc t a f).f0 (rd (ZM (fc t a f).f1) f)).f0 == a && (fc t (fc t a f).f0 (rd (ZM (fc t a f).f1) f)).f1 == zES (fc t a f).f1) = true then _ else _) _
        generalize ((fc t (fc t a f).f0 (rd (ZM (fc t a f).f1) f)).f0 == a && (fc t (fc t a f).f0 (rd (ZM (fc t a f).f1) f)).f1 == zES (fc t a f).f1) = b
        cases b with
        | false => refine ZY (by simp) ?_; rw [Bool.false_and]; exact Ev.now false
        | true =>
          refine qq rfl ?_
          rw [Bool.true_and]
          by_cases ha : (fc t a f).f0 = a
          · refine qq ha (Qq ?_)
            rw [ha]; simp [bne]
          · refine ZY ha (Qq ?_)
            simp [ha]
      · rw [if_neg (by omega)]
        have e : (!(decide (0 ≤ (fc t a f).f1) && decide ((fc t a f).f1 ≤ 23))) = true := by
          rw [Bool.not_eq_true', Bool.and_eq_false_iff, decide_eq_false_iff_not, decide_eq_false_iff_not]; omega
        rw [e]
        exact hfalse
    · rw [if_neg (by omega)]
      refine ZY ?_ hfalse
      rw [Bool.and_eq_true, decide_eq_true_eq, decide_eq_true_eq]; omega
theorem zBy (h4 : ∀ r ∈ t, r.length = 4) (hn : t.length ≤ 8) {a : Int} (h0 : 0 ≤ a) (h1 : a < t.length) {R : Bool} (hR : Ev (fun k => zU.l0 k (t.length : Int) (a + 1) t) R) :
    ∀ (d : Nat) (f : Int), 0 ≤ f → f + d = 4 → Ev (fun k => zU.l1 k a (t.length : Int) a f t) (JZ t a f d && R)
  | 0, f, hf, he => by
    refine qV (fun k => by rw [zU.l1, if_neg (by omega), qt (by omega) (by omega)]) ?_
    rw [JZ, Bool.true_and]; exact hR
  | d + 1, f, hf, he => by
    refine qV (fun k => by rw [zU.l1, if_pos (by omega)]) ?_
    refine Ev.bind (zBg h4 hn h0 h1 hf (by omega)) ?_
    rw [JZ]
    cases hg : zB2 t a f with
    | false => exact ZY (by simp) (by rw [Bool.false_and, Bool.false_and]; exact Ev.now false)
    | true =>
      refine qq rfl ?_
      rw [Bool.true_and]
      exact Ev.congr (fun k => by rw [qt (by omega) (by omega)]) (zBy h4 hn h0 h1 hR d (f + 1) (by omega) (by omega))
theorem zBz (h4 : ∀ r ∈ t, r.length = 4) (hn : t.length ≤ 8) : ∀ (d : Nat) (a : Int), 0 ≤ a → a + d = t.length → Ev (fun k => zU.l0 k (t.length : Int) a t) (zA8 t a d)
  | 0, a, ha, he => by
    refine qV (fun k => by rw [zU.l0, if_neg (by omega)]) ?_
    exact Ev.now true
  | d + 1, a, ha, he => by
    refine qV (fun k => by rw [zU.l0, if_pos (by omega)]) ?_
    rw [zA8]
    exact zBy h4 hn ha (by omega) (zBz h4 hn d (a + 1) (by omega) (by omega)) 4 0 (by omega) (by omega)
theorem zCa : t.all (fun r => decide (r.length = 4)) = true ↔ ∀ r ∈ t, r.length = 4 := by simp
theorem zFM (h : Small t) : zd.f t = some (!(t.all fun r => decide (r.length = 4))) := by
  unfold zd.f qB.f
  rw [contO (p := fun r => !(decide (r.length = 4))) t (fun r _ => by
    show qk.f r = _
    unfold qk.f
    congr 1
    by_cases h : r.length = 4
    · simp [h]
    · have : ¬ ((r.length : Int) = 4) := by omega
      simp [h, this]), List.not_all_eq_any_not]
theorem zCb (h : Small t) : Ev (fun k => zU.f k t) (QX t) := by
  have hfalse : Ev (fun k => zU.j0 k true t) false := qV (fun k => by rw [zU.j0, if_pos rfl]) (Ev.now false)
  unfold QX
  by_cases h8 : t.length ≤ 8
  · refine Ev.congr (fun k => by unfold zU.f; rw [if_neg (by omega), zFM h, yfy]) ?_
    rw [ygy h8, Bool.true_and]
    cases hall : t.all (fun r => decide (r.length = 4)) with
    | false => rw [Bool.false_and]; exact hfalse
    | true =>
      rw [Bool.true_and]
      refine qV (fun k => by rw [zU.j0, if_neg (by simp)]) ?_
      exact zBz (zCa.1 hall) h8 t.length 0 (by omega) (by omega)
  · refine Ev.congr (fun k => by unfold zU.f; rw [if_pos (by omega)]) ?_
    rw [yhy h8, Bool.false_and]; exact hfalse
theorem zC0 (h4 : ∀ r ∈ t, r.length = 4) (hn : t.length ≤ 8) {a : Int} (h0 : 0 ≤ a) (h1 : a < t.length) {R : Bool} (hR : Ev (fun k => zL.l1 k (a + 1) t) R) :
    ∀ (d : Nat) (f : Int), 0 ≤ f → f + d = 4 → Ev (fun k => zL.l2 k a f t) (JZ t a f d && R)
  | 0, f, hf, he => by
    refine qV (fun k => by rw [zL.l2, if_neg (by omega), qt (by omega) (by omega)]) ?_
    rw [JZ, Bool.true_and]; exact hR
  | d + 1, f, hf, he => by
    have hr := zGl h4 h0 h1
    have ih : Ev (fun k => zL.l2 k a (wrap64 (f + 1)) t) (JZ t a (f + 1) d && R) := Ev.congr (fun k => by rw [qt (by omega) (by omega)]) (zC0 h4 hn h0 h1 hR d (f + 1) (by omega) (by omega))
    refine qV (fun k => by rw [zL.l2, if_pos (by omega), if_pos h0, if_pos h1, if_pos hf, if_pos (by omega)]) ?_
    change Ev (fun k => if (fc t a f).f0 = -1 then zL.j3 k a f ((fc t a f).f1 == 0) t (fc t a f).f0 (fc t a f).f1 else zL.j3 k a f false t (fc t a f).f0 (fc t a f).f1) _
    rw [JZ]
    have hstop : ∀ b, Ev (fun k => zL.j4 k a f true t (fc t a f).f0 (fc t a f).f1) (false && b) := fun b => by
      rw [Bool.false_and]; exact qV (fun k => by rw [zL.j4, if_pos rfl]) (Ev.now false)
    have hgo : Ev (fun k => zL.j3 k a f true t (fc t a f).f0 (fc t a f).f1) (JZ t a (f + 1) d && R) := qV (fun k => by rw [zL.j3, if_pos rfl]) ih
    have hrest : (¬ ((fc t a f).f0 = -1 ∧ (fc t a f).f1 = 0)) → Ev (fun k => zL.j3 k a f false t (fc t a f).f0 (fc t a f).f1) (zB2 t a f && JZ t a (f + 1) d && R) := by
      intro hnb
      refine qV (fun k => by rw [zL.j3, zt.f, if_neg (by simp), yfy, zFw, yfy, qt (by omega) (by omega)]) ?_
      unfold zB2
      by_cases hi : 0 ≤ (fc t a f).f0 ∧ (fc t a f).f0 < (t.length : Int)
      · refine qq (by simp; omega) ?_
        refine Ev.bind (JL (zDb _)) ?_
        rw [if_neg (by omega)]
        by_cases hp : 0 ≤ (fc t a f).f1 ∧ (fc t a f).f1 ≤ 23
        · rw [if_pos ⟨hi.1, hi.2, hp.1, hp.2⟩]
          have e : (!(decide (0 ≤ (fc t a f).f1) && decide ((fc t a f).f1 ≤ 23))) = false := by simp [hp]
          rw [e]
          obtain ⟨hg0, hg1⟩ := zAR hp.1 hp.2 hf (by omega)
          have hr2 := zGl h4 hi.1 hi.2
          refine qV (fun k => by rw [zL.j4, if_neg (by simp)]) ?_
          refine Ev.bind (zB7 hp.1 hp.2 hf (by omega)) ?_
          refine Ev.bind (zEX hp.1 hp.2) ?_
          refine qq hi.1 (qq hi.2 (qq hg0 (qq (by rw [hr2]; omega) ?_)))
          change Ev (fun k => if (!((fc t (fc t a f).f0 (rd (ZM (fc t a f).f1) f)).f0 == a) || !((fc t (fc t a f).f0 (rd (ZM (fc t a f).f1) f)).f1 == zES (fc t a f).f1)) = true then _ else _) _
          generalize ((fc t (fc t a f).f0 (rd (ZM (fc t a f).f1) f)).f0 == a) = b1
          generalize ((fc t (fc t a f).f0 (rd (ZM (fc t a f).f1) f)).f1 == zES (fc t a f).f1) = b2
          cases b1 with
          | false => exact qq rfl (by rw [Bool.false_and, Bool.false_and, Bool.false_and, Bool.false_and]; exact Ev.now false)
          | true =>
            cases b2 with
            | false => exact qq rfl (by rw [Bool.true_and, Bool.false_and, Bool.false_and, Bool.false_and]; exact Ev.now false)
            | true =>
              refine ZY (by simp) ?_
              rw [Bool.true_and, Bool.true_and]
              by_cases ha : (fc t a f).f0 = a
              · refine qq ha ?_
                by_cases hg : rd (ZM (fc t a f).f1) f = f
                · refine qq hg ?_
                  rw [ha, hg]
                  simp
                  exact Ev.now false
                · refine ZY hg ?_
                  have : (rd (ZM (fc t a f).f1) f == f) = false := by simp [hg]
                  rw [this, Bool.and_false, Bool.not_false, Bool.true_and]
                  exact ih
              · refine ZY ha ?_
                have : ((fc t a f).f0 == a) = false := by simp [ha]
                rw [this, Bool.false_and, Bool.not_false, Bool.true_and]
                exact ih
        · rw [if_neg (by omega)]
          have e : (!(decide (0 ≤ (fc t a f).f1) && decide ((fc t a f).f1 ≤ 23))) = true := by
            rw [Bool.not_eq_true', Bool.and_eq_false_iff, decide_eq_false_iff_not, decide_eq_false_iff_not]; omega
          rw [e, Bool.false_and]
          exact hstop R
      · have hg : (if (fc t a f).f0 = -1 then ((fc t a f).f1 == 0) else if 0 ≤ (fc t a f).f0 ∧ (fc t a f).f0 < (t.length : Int) ∧ 0 ≤ (fc t a f).f1 ∧ (fc t a f).f1 ≤ 23 then
            ((fc t (fc t a f).f0 (rd (ZM (fc t a f).f1) f)).f0 == a && (fc t (fc t a f).f0 (rd (ZM (fc t a f).f1) f)).f1 == zES (fc t a f).f1) && !((fc t a f).f0 == a && rd (ZM (fc t a f).f1) f == f) else false) = false := by
          by_cases hb : (fc t a f).f0 = -1
          · rw [if_pos hb]; simp; intro h; exact hnb ⟨hb, h⟩
          · rw [if_neg hb, if_neg (by omega)]
        rw [hg, Bool.false_and]
        refine ZY ?_ (hstop R)
        rw [Bool.and_eq_true, decide_eq_true_eq, decide_eq_true_eq]; omega
    by_cases hb : (fc t a f).f0 = -1
    · refine qq hb ?_
      by_cases h0' : (fc t a f).f1 = 0
      · have e : zB2 t a f = true := by unfold zB2; rw [if_pos hb]; simp [h0']
        rw [e, Bool.true_and]
        have e2 : ((fc t a f).f1 == 0) = true := by simp [h0']
        rw [e2]; exact hgo
      · have e2 : ((fc t a f).f1 == 0) = false := by simp [h0']
        rw [e2]; exact hrest (fun h => h0' h.2)
    · exact ZY hb (hrest (fun h => hb h.1))
theorem zC1 (h4 : ∀ r ∈ t, r.length = 4) (hn : t.length ≤ 8) : ∀ (d : Nat) (a : Int), 0 ≤ a → a + d = t.length → Ev (fun k => zL.l1 k a t) (zA8 t a d)
  | 0, a, ha, he => by
    refine qV (fun k => by rw [zL.l1, zt.f, yfy, if_neg (by omega)]) ?_
    exact Ev.now true
  | d + 1, a, ha, he => by
    refine qV (fun k => by rw [zL.l1, zt.f, yfy, if_pos (by omega)]) ?_
    rw [zA8]
    exact zC0 h4 hn ha (by omega) (zC1 h4 hn d (a + 1) (by omega) (by omega)) 4 0 (by omega) (by omega)
theorem zEb (h8 : t.length ≤ 8) (d : Nat) : ∀ n : Nat, n + d = t.length → (t.all (fun r => decide (r.length = 4)) = (t.drop n).all (fun r => decide (r.length = 4))) → Ev (fun k => zL.l0 k (n : Int) t) (t.all (fun r => decide (r.length = 4)) && zA8 t 0 t.length) := by
  induction d with
  | zero =>
    intro n hn ha
    refine qV (fun k => by rw [zL.l0, if_neg (by omega)]) ?_
    have hall : t.all (fun r => decide (r.length = 4)) = true := by rw [ha, List.drop_eq_nil_of_le (by omega)]; rfl
    rw [hall, Bool.true_and]
    exact zC1 (zCa.1 hall) h8 t.length 0 (by omega) (by omega)
  | succ d ih =>
    intro n hn ha
    have hlt : n < t.length := by omega
    refine qV (fun k => by rw [zL.l0, if_pos (by omega), if_pos (by omega), JF t n hlt]) ?_
    rw [yoy hlt, List.all_cons] at ha
    by_cases h : t[n].length = 4
    · refine qq (by omega) ?_
      refine Ev.congr (fun k => by rw [qv (by omega)]) (ih (n + 1) (by omega) ?_)
      rw [ha, ygy h, Bool.true_and]
    · refine ZY (by omega) ?_
      rw [ha, yhy h, Bool.false_and, Bool.false_and]
      exact Ev.now false
theorem zCc (t : Tri) : Ev (fun k => zL.f k t) (QX t) := by
  refine Ev.congr (fun k => by unfold zL.f zt.f; rw [yfy]) ?_
  unfold QX
  by_cases h8 : t.length ≤ 8
  · refine ZY (by omega) ?_
    rw [ygy h8, Bool.true_and]
    exact zEb h8 t.length 0 (by omega) (by rw [List.drop_zero])
  · refine qq (by omega) ?_
    rw [yhy h8, Bool.false_and]
    exact Ev.now false
end
theorem Zm {t : Tri} (h : QX t = true) : t.length ≤ 8 ∧ (∀ r ∈ t, r.length = 4) ∧ zA8 t 0 t.length = true := by
  unfold QX at h
  rw [Bool.and_eq_true, Bool.and_eq_true, decide_eq_true_eq] at h
  exact ⟨h.1, zCa.1 h.2.1, h.2.2⟩
theorem zFN (t : Tri) (a : Int) (d : Nat) : ∀ f, JZ t a f d = true → ∀ g, f ≤ g → g < f + d → zB2 t a g = true := by
  induction d with
  | zero => intro f _ g h1 h2; omega
  | succ d ih =>
    intro f h g h1 h2
    rw [JZ, Bool.and_eq_true] at h
    by_cases e : g = f
    · rw [e]; exact h.1
    · exact ih (f + 1) h.2 g (by omega) (by omega)
theorem zFO (t : Tri) (d : Nat) : ∀ a, zA8 t a d = true → ∀ b, a ≤ b → b < a + d → ∀ g, 0 ≤ g → g ≤ 3 → zB2 t b g = true := by
  induction d with
  | zero => intro a _ b h1 h2; omega
  | succ d ih =>
    intro a h b h1 h2 g hg0 hg1
    rw [zA8, Bool.and_eq_true] at h
    by_cases e : b = a
    · rw [e]; exact zFN t a 4 0 h.1 g hg0 (by omega)
    · exact ih (a + 1) h.2 b (by omega) (by omega) g hg0 hg1
theorem zAU {t : Tri} (h : QX t = true) {a f : Int} (h0 : 0 ≤ a) (h1 : a < t.length) (hf0 : 0 ≤ f) (hf1 : f ≤ 3) :
    ((fc t a f).f0 = -1 ∧ (fc t a f).f1 = 0) ∨
    ((0 ≤ (fc t a f).f0 ∧ (fc t a f).f0 < (t.length : Int) ∧ 0 ≤ (fc t a f).f1 ∧ (fc t a f).f1 ≤ 23) ∧
      (fc t (fc t a f).f0 (rd (ZM (fc t a f).f1) f)).f0 = a ∧ (fc t (fc t a f).f0 (rd (ZM (fc t a f).f1) f)).f1 = zES (fc t a f).f1 ∧ ¬ ((fc t a f).f0 = a ∧ rd (ZM (fc t a f).f1) f = f)) := by
  have hg := zFO t t.length 0 (Zm h).2.2 a h0 (by omega) f hf0 hf1
  unfold zB2 at hg
  by_cases hb : (fc t a f).f0 = -1
  · rw [if_pos hb] at hg
    exact .inl ⟨hb, by simpa using hg⟩
  · rw [if_neg hb] at hg
    by_cases hi : 0 ≤ (fc t a f).f0 ∧ (fc t a f).f0 < (t.length : Int) ∧ 0 ≤ (fc t a f).f1 ∧ (fc t a f).f1 ≤ 23
    · rw [if_pos hi, Bool.and_eq_true, Bool.and_eq_true, Bool.not_eq_true'] at hg
      refine .inr ⟨hi, eq_of_beq hg.1.1, eq_of_beq hg.1.2, fun hc => ?_⟩
      have := hg.2
      rw [Bool.and_eq_false_iff] at this
      rcases this with h2 | h2
      · exact absurd hc.1 (by simpa using h2)
      · exact absurd hc.2 (by simpa using h2)
    · rw [if_neg hi] at hg; cases hg
def zFP (cols : Nat) (j f b : Int) (p : List Int) : List (List Int) := (zEO [f]).map fun c => zDN cols j f b p c
theorem zC2 (cols : Nat) (j f b : Int) (p : List Int) : ∀ (L : List Int) (A : List (List Int)), Qo cols j f b p L (A.flatten, (A.length : Int)) = ((A ++ L.map fun c => zDN cols j f b p c).flatten, ((A ++ L.map fun c => zDN cols j f b p c).length : Int))
 | [], A => by simp [Qo]
 | c :: cs, A => by
  have h := zC2 cols j f b p cs (A ++ [zDN cols j f b p c])
  have e1 : (A ++ [zDN cols j f b p c]).flatten = A.flatten ++ zDN cols j f b p c := by simp
  have e2 : ((A ++ [zDN cols j f b p c]).length : Int) = (A.length : Int) + 1 := by simp
  rw [e1, e2] at h
  rw [Qo, h]
  simp
def zFQ (cols : Nat) (A : List (List Int)) (j f : Nat) (x : zq) : List (List Int) :=
 if 4 * x.f0 + rd (ZM x.f1) (f : Int) < 4 * (j : Int) + (f : Int) then A else A ++ zFP cols j f x.f0 (ZM x.f1)
theorem zE4 {σ τ : Type} {Rel : σ → τ → Prop} {s1 : σ → Nat → Nat → zq → σ} {s2 : τ → Nat → Nat → zq → τ} (h : ∀ a b j f x, Rel a b → Rel (s1 a j f x) (s2 b j f x)) (j : Nat) : ∀ (r : List zq) (f : Nat) (a : σ) (b : τ), Rel a b → Rel (zEP s1 j r f a) (zEP s2 j r f b)
 | [], _, _, _, hr => hr
 | x :: xs, f, a, b, hr => by
  rw [zEP, zEP]
  refine zE4 h j xs (f + 1) _ _ ?_
  split
  next =>
   exact hr
  next =>
   exact h _ _ _ _ _ hr
theorem zE5 {σ τ : Type} {Rel : σ → τ → Prop} {s1 : σ → Nat → Nat → zq → σ} {s2 : τ → Nat → Nat → zq → τ} (h : ∀ a b j f x, Rel a b → Rel (s1 a j f x) (s2 b j f x)) : ∀ (l : List (List zq)) (j : Nat) (a : σ) (b : τ), Rel a b → Rel (zCX s1 l j a) (zCX s2 l j b)
 | [], _, _, _, hr => hr
 | r :: rs, j, a, b, hr => by
  rw [zCX, zCX]
  exact zE5 h rs (j + 1) _ _ (zE4 h j r 0 a b hr)
def Jo (t : Tri) : List (List Int) := zCX (zFQ (7 * t.length)) t 0 []
theorem zFx (t : Tri) : zBe t = ((Jo t).flatten, ((Jo t).length : Int)) := by
 refine zE5 (Rel := fun (a : List Int × Int) (b : List (List Int)) => a = (b.flatten, (b.length : Int))) (fun a b j f x hr => ?_) t 0 ([], 0) [] (by simp)
 rw [hr]
 unfold zAP zFQ
 split
 next =>
  rfl
 next =>
  exact zC2 _ _ _ _ _ _ _
def zB3 (t : Tri) (a f : Int) : Prop := (fc t a f).f0 > a ∨ ((fc t a f).f0 = a ∧ rd (ZM (fc t a f).f1) f > f)
instance (t : Tri) (a f : Int) : Decidable (zB3 t a f) := by unfold zB3; infer_instance
def Qr (t : Tri) (a : Int) : Int → Nat → List (List Int)
 | _, 0 => []
 | f, d + 1 => (if zB3 t a f then [[a, f]] else []) ++ Qr t a (f + 1) d
def Ql (t : Tri) : Int → Nat → List (List Int)
 | _, 0 => []
 | a, d + 1 => Qr t a 0 4 ++ Ql t (a + 1) d
def zCd (t : Tri) (p : List Int) : List (List Int) := zFP (7 * t.length) (rd p 0) (rd p 1) (fc t (rd p 0) (rd p 1)).f0 (ZM (fc t (rd p 0) (rd p 1)).f1)
theorem zGd {t : Tri} (h : QX t = true) {a f : Int} (h0 : 0 ≤ a) (h1 : a < t.length) (hf0 : 0 ≤ f) (hf1 : f ≤ 3) (hb : ¬ (fc t a f).f0 < 0) : zB3 t a f ↔ ¬ (4 * (fc t a f).f0 + rd (ZM (fc t a f).f1) f < 4 * a + f) := by
 rcases zAU h h0 h1 hf0 hf1 with ⟨e, _⟩ | ⟨⟨g0, g1, g2, g3⟩, _, _, hn⟩
 next =>
  omega
 next =>
  obtain ⟨k0, k1⟩ := zAR g2 g3 hf0 hf1
  unfold zB3
  generalize (fc t a f).f0 = b at *
  generalize rd (ZM (fc t a f).f1) f = g at *
  by_cases e : b = a
  rotate_left
  next =>
   constructor <;> intro hh <;> omega
  have : ¬ g = f := fun hc => hn ⟨e, hc⟩
  constructor <;> intro hh <;> omega
theorem zC3 {t : Tri} (h : QX t = true) (j : Nat) (hj : j < t.length) : ∀ (d f : Nat) (A : List (List Int)), f + d = 4 → zEP (zFQ (7 * t.length)) j (t[j].drop f) f A = A ++ (Qr t j f d).flatMap (zCd t)
 | 0, f, A, hf => by
  have h4 : t[j].length = 4 := (Zm h).2.1 _ (List.getElem_mem hj)
  rw [List.drop_eq_nil_of_le (by omega), zEP, Qr]; simp
 | d + 1, f, A, hf => by
  have h4 : t[j].length = 4 := (Zm h).2.1 _ (List.getElem_mem hj)
  have hlt : f < t[j].length := by omega
  have hfc : fc t (j : Int) (f : Int) = t[j][f] := by unfold fc; rw [JF t j hj, zAk _ f hlt]
  rw [yoy hlt, zEP, zC3 h j hj d (f + 1) _ (by omega), Qr]
  have e1 : ((f : Int) + 1) = ((f + 1 : Nat) : Int) := by omega
  rw [e1, List.flatMap_append, ← List.append_assoc]
  congr 1
  have hff := zGd (a := (j : Int)) (f := (f : Int)) h (by omega) (by omega) (by omega) (by omega)
  by_cases hb : t[j][f].f0 < 0
  next =>
   rw [if_pos hb, if_neg (fun hc => by unfold zB3 at hc; rw [hfc] at hc; omega)]; simp
  next =>
   rw [if_neg hb]
   have hff2 := hff (by rw [hfc]; exact hb)
   rw [hfc] at hff2
   unfold zFQ
   by_cases hc : 4 * t[j][f].f0 + rd (ZM t[j][f].f1) (f : Int) < 4 * (j : Int) + (f : Int)
   next =>
    rw [if_pos hc, if_neg (fun hq => (hff2.1 hq) hc)]; simp
   next =>
    rw [if_neg hc, if_pos (hff2.2 hc)]
    have e2 : zCd t [(j : Int), (f : Int)] = zFP (7 * t.length) (j : Int) (f : Int) t[j][f].f0 (ZM t[j][f].f1) := by
     show zFP (7 * t.length) (j : Int) (f : Int) (fc t (j : Int) (f : Int)).f0 (ZM (fc t (j : Int) (f : Int)).f1) = _
     rw [hfc]
    simp [e2]
theorem zC4 {t : Tri} (h : QX t = true) : ∀ (d j : Nat) (A : List (List Int)), j + d = t.length → zCX (zFQ (7 * t.length)) (t.drop j) j A = A ++ (Ql t j d).flatMap (zCd t)
 | 0, j, A, hj => by rw [List.drop_eq_nil_of_le (by omega), zCX, Ql]; simp
 | d + 1, j, A, hj => by
  have hlt : j < t.length := by omega
  have e1 : ((j : Int) + 1) = ((j + 1 : Nat) : Int) := by omega
  have h2 := zC3 h j hlt 4 0 A (by omega)
  rw [List.drop_zero] at h2
  rw [yoy hlt, zCX, h2, zC4 h d (j + 1) _ (by omega), Ql, List.flatMap_append, List.append_assoc, e1]
  rfl
theorem zAD {t : Tri} (h : QX t = true) : Jo t = (Ql t 0 t.length).flatMap (zCd t) := by
 have := zC4 h t.length 0 [] (by omega)
 rw [List.drop_zero, List.nil_append] at this
 exact this
theorem zFy {t : Tri} (h : QX t = true) : zGk t := by
 obtain ⟨h8, h4, _⟩ := Zm h
 refine ⟨h8, fun r hr => by rw [h4 r hr]; omega, fun r hr x hx hb => ?_⟩
 obtain ⟨j, hj, rfl⟩ := List.getElem_of_mem hr
 obtain ⟨f, hf, rfl⟩ := List.getElem_of_mem hx
 have h4' := h4 _ (List.getElem_mem hj)
 have hfc : fc t (j : Int) (f : Int) = t[j][f] := by unfold fc; rw [JF t j hj, zAk _ f hf]
 have := zAU (a := (j : Int)) (f := (f : Int)) h (by omega) (by omega) (by omega) (by omega)
 rw [hfc] at this
 rcases this with ⟨e, _⟩ | ⟨⟨g0, g1, g2, g3⟩, _⟩
 next =>
  omega
 next =>
  exact ⟨g1, g2, g3⟩
theorem zEc {t : Tri} (h : QX t = true) : zx.f t = some (((Jo t).length : Int), 7 * (t.length : Int), (Jo t).flatten) := by
 unfold zx.f
 rw [if_pos (zFy h), zFx]
theorem zBO {t : Tri} (h : QX t = true) : ∀ r ∈ Jo t, r.length = 7 * t.length := by
 intro r hr
 rw [zAD h] at hr
 obtain ⟨p, _, hp⟩ := List.mem_flatMap.1 hr
 obtain ⟨c, _, rfl⟩ := List.mem_map.1 hp
 exact zDX _ _ _ _ _ _
theorem zC5 (t : Tri) (a : Int) : ∀ (d : Nat) (f : Int), (Qr t a f d).length ≤ d
 | 0, _ => by simp [Qr]
 | d + 1, f => by
  have := zC5 t a d (f + 1)
  rw [Qr, List.length_append]
  split <;> simp <;> omega
theorem zAl (t : Tri) : ∀ (d : Nat) (a : Int), (Ql t a d).length ≤ 4 * d
 | 0, _ => by simp [Ql]
 | d + 1, a => by
  have := zAl t d (a + 1)
  have := zC5 t a 4 0
  rw [Ql, List.length_append]
  omega
def zFR (t : Tri) (p : List Int) : Prop := ∃ a f : Int, p = [a, f] ∧ 0 ≤ a ∧ a < t.length ∧ 0 ≤ f ∧ f ≤ 3 ∧ ¬ (fc t a f).f0 < 0
theorem zD5 (t : Tri) {a : Int} (h0 : 0 ≤ a) (h1 : a < t.length) : ∀ (d : Nat) (f : Int), 0 ≤ f → f + d = 4 → ∀ p ∈ Qr t a f d, zFR t p
 | 0, _, _, _, p, hp => by simp [Qr] at hp
 | d + 1, f, hf, he, p, hp => by
  rw [Qr, List.mem_append] at hp
  rcases hp with hp | hp
  next =>
   by_cases hc : zB3 t a f
   rotate_left
   next =>
    rw [if_neg hc] at hp; simp at hp
   rw [if_pos hc] at hp
   have : p = [a, f] := by simpa using hp
   exact ⟨a, f, this, h0, h1, hf, by omega, by unfold zB3 at hc; omega⟩
  next =>
   exact zD5 t h0 h1 d (f + 1) (by omega) (by omega) p hp
theorem zD6 (t : Tri) : ∀ (d : Nat) (a : Int), 0 ≤ a → a + d = t.length → ∀ p ∈ Ql t a d, zFR t p
 | 0, _, _, _, p, hp => by simp [Ql] at hp
 | d + 1, a, ha, he, p, hp => by
  rw [Ql, List.mem_append] at hp
  rcases hp with hp | hp
  next =>
   exact zD5 t ha (by omega) 4 0 (by omega) (by omega) p hp
  next =>
   exact zD6 t d (a + 1) (by omega) (by omega) p hp
section
variable {t : Tri}
theorem zAE (h : QX t = true) {a : Int} (h0 : 0 ≤ a) (h1 : a < t.length) {R : List (List Int)} {D : Nat} (hR : ∀ acc : List (List Int), acc.length + D ≤ 100 → Ev (fun k => zj.l0 k acc (a + 1) t) (acc ++ R)) :
 ∀ (d : Nat) (f : Int) (acc : List (List Int)), 0 ≤ f → f + d = 4 → acc.length + d + D ≤ 100 → Ev (fun k => zj.l1 k acc a f t) (acc ++ Qr t a f d ++ R)
 | 0, f, acc, hf, he, hl => by
  have h8 := (Zm h).1
  refine qV (fun k => by rw [zj.l1, if_neg (by omega), qt (by omega) (by omega)]) ?_
  rw [Qr, List.append_nil]; exact hR acc (by omega)
 | d + 1, f, acc, hf, he, hl => by
  obtain ⟨h8, h4, _⟩ := Zm h
  have hr := zGl h4 h0 h1
  refine qV (fun k => by rw [zj.l1, if_pos (by omega), if_pos h0, if_pos h1, if_pos hf, if_pos (by omega)]) ?_
  rw [Qr]
  have hyes : zB3 t a f → Ev (fun k => if acc.length < 5864062014805 then zj.l1 k (acc ++ [[a, f]]) a (wrap64 (f + 1)) t else none) (acc ++ ((if zB3 t a f then [[a, f]] else []) ++ Qr t a (f + 1) d) ++ R) := fun hc => by
   rw [if_pos hc]
   refine qq (by omega) (Ev.congr (fun k => by rw [qt (by omega) (by omega)]) ?_)
   have := zAE h h0 h1 hR d (f + 1) (acc ++ [[a, f]]) (by omega) (by omega) (by simp; omega)
   rwa [List.append_assoc acc] at this
  have hno : ¬ zB3 t a f → Ev (fun k => zj.l1 k acc a (wrap64 (f + 1)) t) (acc ++ ((if zB3 t a f then [[a, f]] else []) ++ Qr t a (f + 1) d) ++ R) := fun hc => by
   rw [if_neg hc, List.nil_append]
   exact Ev.congr (fun k => by rw [qt (by omega) (by omega)]) (zAE h h0 h1 hR d (f + 1) acc (by omega) (by omega) (by omega))
  change Ev (fun k => if (fc t a f).f0 > a then _ else if (fc t a f).f0 = a then (ZC.f k (fc t a f).f1 f).bind _ else _) _
  by_cases c1 : (fc t a f).f0 > a
  next =>
   exact qq c1 (hyes (.inl c1))
  next =>
   refine ZY c1 ?_
   by_cases c2 : (fc t a f).f0 = a
   rotate_left
   next =>
    exact ZY c2 (hno (fun hc => by rcases hc with hc | hc; exact c1 hc; exact c2 hc.1))
   have hp : 0 ≤ (fc t a f).f1 ∧ (fc t a f).f1 ≤ 23 := by
    rcases zAU h h0 h1 hf (by omega) with ⟨e, _⟩ | ⟨⟨_, _, g2, g3⟩, _⟩
    next =>
     omega
    next =>
     exact ⟨g2, g3⟩
   refine qq c2 (Ev.bind (zB7 hp.1 hp.2 hf (by omega)) ?_)
   by_cases c3 : rd (ZM (fc t a f).f1) f > f
   next =>
    exact qq c3 (hyes (.inr ⟨c2, c3⟩))
   next =>
    exact ZY c3 (hno (fun hc => by rcases hc with hc | hc; exact c1 hc; exact c3 hc.2))
theorem zBP (h : QX t = true) : ∀ (d : Nat) (a : Int) (acc : List (List Int)), 0 ≤ a → a + d = t.length → acc.length + 4 * d ≤ 100 → Ev (fun k => zj.l0 k acc a t) (acc ++ Ql t a d)
 | 0, a, acc, ha, he, hl => by
  refine qV (fun k => by rw [zj.l0, zt.f, yfy, if_neg (by omega)]) ?_
  rw [Ql, List.append_nil]; exact Ev.now _
 | d + 1, a, acc, ha, he, hl => by
  refine qV (fun k => by rw [zj.l0, zt.f, yfy, if_pos (by omega)]) ?_
  have := zAE h ha (by omega) (R := Ql t (a + 1) d) (D := 4 * d) (fun acc2 hl2 => zBP h d (a + 1) acc2 (by omega) (by omega) hl2) 4 0 acc (by omega) (by omega) (by omega)
  rwa [List.append_assoc] at this
theorem zCe (h : QX t = true) : Ev (fun k => zj.f k t) (Ql t 0 t.length) := by
 have h8 := (Zm h).1
 have := zBP h t.length 0 [] (by omega) (by omega) (by simp; omega)
 rwa [List.nil_append] at this
theorem zC6 {a b : Int} (ha : sm a) (hb : sm b) (hne : b ≠ a) : qE.f a b = some (qd b a) := by
 obtain ⟨ha0, ha1⟩ := ha
 obtain ⟨hb0, hb1⟩ := hb
 rcases (show a = 0 ∨ a = 1 ∨ a = 2 ∨ a = 3 by omega) with rfl | rfl | rfl | rfl <;> rcases (show b = 0 ∨ b = 1 ∨ b = 2 ∨ b = 3 by omega) with rfl | rfl | rfl | rfl <;> first | exact absurd rfl hne | decide +kernel
theorem qd_bd {a b : Int} (ha : sm a) (hb : sm b) (hne : a ≠ b) : 0 ≤ qd a b ∧ qd a b ≤ 2 := (zDW ha hb hne).2
theorem zC7 (h : QX t = true) {P : List (List Int)} {i : Int} {a f : Int} (h0 : 0 ≤ a) (h1 : a < t.length) (hf0 : 0 ≤ f) (hf1 : f ≤ 3) (hb : ¬ (fc t a f).f0 < 0) {R : List (List Int)} {D : Nat} (hi : 0 ≤ i) (hi2 : i ≤ 1000)
 (hR : ∀ acc : List (List Int), acc.length + D ≤ 1000 → Ev (fun k => ze.l0 k acc P (i + 1) t) (acc ++ R)) :
 ∀ (d : Nat) (c : Int) (acc : List (List Int)), 0 ≤ c → c + d = 4 → acc.length + d + D ≤ 1000 → Ev (fun k => ze.l1 k acc P i a f c t) (acc ++ ((Zg c d).filter fun x => ![f].contains x).map (fun x => zDN (7 * t.length) a f (fc t a f).f0 (ZM (fc t a f).f1) x) ++ R)
 | 0, c, acc, hc, he, hl => by
  refine qV (fun k => by rw [ze.l1, if_neg (by omega), qt (by omega) (by omega)]) ?_
  rw [Zg]; simp only [List.filter_nil, yky, List.append_nil]; exact hR acc (by omega)
 | d + 1, c, acc, hc, he, hl => by
  obtain ⟨h8, h4, _⟩ := Zm h
  have ih := fun (acc2 : List (List Int)) (hl2 : acc2.length + d + D ≤ 1000) => zC7 h h0 h1 hf0 hf1 hb hi hi2 hR d (c + 1) acc2 (by omega) (by omega) hl2
  by_cases hcf : c = f
  next =>
   refine qV (fun k => by rw [ze.l1, if_pos (by omega), if_pos hcf, qt (by omega) (by omega)]) ?_
   have e1 : (![f].contains c) = false := by simp [hcf]
   rw [Zg, List.filter_cons, e1, if_neg (by simp)]
   exact ih acc (by omega)
  next =>
   have e1 : (![f].contains c) = true := by simp [hcf]
   have hsc : sm c := ⟨hc, by omega⟩
   have hsf : sm f := ⟨hf0, hf1⟩
   obtain ⟨g0, g1, g2, g3⟩ : 0 ≤ (fc t a f).f0 ∧ (fc t a f).f0 < (t.length : Int) ∧ 0 ≤ (fc t a f).f1 ∧ (fc t a f).f1 ≤ 23 := by
    rcases zAU h h0 h1 hf0 hf1 with ⟨e, _⟩ | ⟨e, _⟩
    next =>
     omega
    next =>
     exact e
   have hd := zAR g2 g3 hc (show c ≤ 3 by omega)
   have hx := zAR g2 g3 hf0 hf1
   have hne := zCz g2 g3 hsc hsf hcf
   obtain ⟨q0, q1⟩ := qd_bd hsc hsf hcf
   obtain ⟨r0, r1⟩ := qd_bd hd hx hne
   have hmr : zDN (7 * t.length) a f (fc t a f).f0 (ZM (fc t a f).f1) c = zAh (zAh (zAO (zAO (List.replicate (7 * t.length) 0) (7 * a + c)) (7 * a + 4 + qd c f)) (7 * (fc t a f).f0 + rd (ZM (fc t a f).f1) c)) (7 * (fc t a f).f0 + 4 + qd (rd (ZM (fc t a f).f1) c) (rd (ZM (fc t a f).f1) f)) := rfl
   have hcorner : Ev (fun k => qe.f k t a f c) ((fc t a f).f0, rd (ZM (fc t a f).f1) f, rd (ZM (fc t a f).f1) c) := by
    have hr := zGl h4 h0 h1
    refine Ev.congr (fun k => by unfold qe.f; rw [if_pos h0, if_pos h1, if_pos hf0, if_pos (by omega)]) ?_
    exact Ev.bind (zB7 g2 g3 hf0 hf1) (Ev.bind (zB7 g2 g3 hc (by omega)) (Ev.now _))
   have hbt1 := zC6 hsf hsc hcf
   have hbt2 := zC6 (show sm (rd (ZM (fc t a f).f1) f) from hx) (show sm (rd (ZM (fc t a f).f1) c) from hd) hne
   have hlt : (7 * (t.length : Int)) = ((7 * t.length : Nat) : Int) := by omega
   rw [Zg, List.filter_cons, e1, if_pos rfl, yjy, hmr]
   generalize (fc t a f).f0 = b at *
   generalize rd (ZM (fc t a f).f1) c = dd at *
   generalize rd (ZM (fc t a f).f1) f = x at *
   generalize qd c f = q at *
   generalize qd dd x = q2 at *
   obtain ⟨d0, d1⟩ := hd
   have w1 : wrap64 (7 * a) = 7 * a := qt (by omega) (by omega)
   have w2 : wrap64 (7 * a + c) = 7 * a + c := qt (by omega) (by omega)
   have w3 : wrap64 (7 * a + 4) = 7 * a + 4 := qt (by omega) (by omega)
   have w4 : wrap64 (7 * a + 4 + q) = 7 * a + 4 + q := qt (by omega) (by omega)
   have w5 : wrap64 (7 * b) = 7 * b := qt (by omega) (by omega)
   have w6 : wrap64 (7 * b + dd) = 7 * b + dd := qt (by omega) (by omega)
   have w7 : wrap64 (7 * b + 4) = 7 * b + 4 := qt (by omega) (by omega)
   have w8 : wrap64 (7 * b + 4 + q2) = 7 * b + 4 + q2 := qt (by omega) (by omega)
   have w9 : wrap64 (7 * (t.length : Int)) = 7 * (t.length : Int) := qt (by omega) (by omega)
   have w10 : wrap64 (c + 1) = c + 1 := qt (by omega) (by omega)
   have hln : (List.replicate (7 * t.length) (0 : Int)).length = 7 * t.length := List.length_replicate
   refine qV (fun k => by rw [ze.l1, if_pos (by omega), if_neg hcf, zt.f, yfy, w9, if_pos (by omega), if_pos (by omega), yfy, hlt, yny]) ?_
   refine Ev.bind hcorner ?_
   dsimp only
   refine Ev.congr (fun k => by rw [w1, w2, if_pos (by omega), if_pos (by rw [hln]; omega), yfy, hbt1, yfy, w3, w4, if_pos (by omega), if_pos (by rw [hln]; omega), yfy, w5, w6, if_pos (by omega), if_pos (by rw [hln]; omega), yfy, hbt2, yfy, w7, w8, if_pos (by omega), if_pos (by rw [hln]; omega), if_pos (by omega), w10]) ?_
   have := ih (acc ++ [zAh (zAh (zAO (zAO (List.replicate (7 * t.length) 0) (7 * a + c)) (7 * a + 4 + q)) (7 * b + dd)) (7 * b + 4 + q2)]) (by simp; omega)
   rw [List.append_assoc acc] at this
   exact this
theorem zC8 (h : QX t = true) {P : List (List Int)} (hP : ∀ p ∈ P, zFR t p) (hPl : P.length ≤ 100) : ∀ (d i : Nat) (acc : List (List Int)), i + d = P.length → acc.length + 4 * d ≤ 1000 → Ev (fun k => ze.l0 k acc P (i : Int) t) (acc ++ (P.drop i).flatMap (zCd t))
 | 0, i, acc, he, hl => by
  refine qV (fun k => by rw [ze.l0, if_neg (by omega)]) ?_
  rw [List.drop_eq_nil_of_le (by omega)]; simp only [List.flatMap_nil, List.append_nil]; exact Ev.now _
 | d + 1, i, acc, he, hl => by
  have hlt : i < P.length := by omega
  obtain ⟨a, f, hp, h0, h1, hf0, hf1, hb⟩ := hP P[i] (List.getElem_mem hlt)
  have ex : zV P (i : Int) = [a, f] := by simp [zV, hlt, hp]
  refine qV (fun k => by rw [ze.l0, if_pos (by omega), if_pos (by omega), ex, if_pos (by simp), if_pos (by simp)]) ?_
  have := zC7 h (P := P) (i := (i : Int)) h0 h1 hf0 hf1 hb (R := (P.drop (i + 1)).flatMap (zCd t)) (D := 4 * d) (by omega) (by omega) (fun acc2 hl2 => zC8 h hP hPl d (i + 1) acc2 (by omega) hl2) 4 0 acc (by omega) (by omega) (by omega)
  rw [List.append_assoc] at this
  rw [yoy hlt, hp, List.flatMap_cons]
  exact this
theorem zD7 (h : QX t = true) : Ev (fun k => ze.f k t) (Jo t) := by
 have h8 := (Zm h).1
 have hl := zAl t t.length 0
 refine Ev.bind (zCe h) ?_
 have := zC8 h (zD6 t t.length 0 (by omega) (by omega)) (by omega) (Ql t 0 t.length).length 0 [] (by omega) (by simp; omega)
 rw [List.nil_append, List.drop_zero, ← zAD h] at this
 exact this
theorem zC9 (h : QX t = true) : (Jo t).length ≤ 1000 := by
 have h8 := (Zm h).1
 have hl := zAl t t.length 0
 rw [zAD h, List.length_flatMap]
 have : ∀ P : List (List Int), ((P.map fun p => (zCd t p).length).sum) ≤ 4 * P.length := by
  intro P
  induction P with
  | nil => simp
  | cons p ps ih =>
   simp only [yjy, List.sum_cons, List.length_cons]
   have h1 : (zCd t p).length ≤ 4 := by unfold zCd zFP; rw [List.length_map]; exact zDz _
   omega
 have := this (Ql t 0 t.length)
 omega
end
def JR (t : Tri) : Int := if QX t then (if (t.length : Int) > 6 then 3 else 0) else 1
def inR (x : Int) : Bool := decide (0 ≤ x) && decide (x ≤ 1000)
theorem Qv {t : Tri} (h : JR t = 0) : QX t = true ∧ t.length ≤ 6 := by
  unfold JR at h
  cases ht : QX t with
  | false => rw [ht] at h; simp at h
  | true =>
    rw [ht, if_pos rfl] at h
    refine ⟨rfl, ?_⟩
    by_cases hl : (t.length : Int) > 6
    · rw [if_pos hl] at h; simp at h
    · omega
theorem zAV (t : Tri) : Ev (fun k => Zd.f k t) (JR t) := by
  refine Ev.bind (zCc t) ?_
  unfold JR
  cases QX t with
  | false => exact ZY (by simp) (Ev.now _)
  | true =>
    refine qq rfl (Ev.bind (JL (by unfold zt.f; rfl)) ?_)
    rw [if_pos rfl]
    by_cases hl : (t.length : Int) > 6
    · exact qq hl (Qq (if_pos hl).symm)
    · exact ZY hl (Qq (if_neg hl).symm)
theorem zCf {t : Tri} (hs : Small t) : Ev (fun k => QF.f k t) (JR t) := by
  refine Ev.bind (zCb hs) ?_
  unfold JR
  cases QX t with
  | false => exact ZY (by simp) (Ev.now _)
  | true =>
    refine qq rfl ?_
    rw [if_pos rfl]
    by_cases hl : (t.length : Int) > 6
    · exact qq hl (Qq (if_pos hl).symm)
    · exact ZY hl (Qq (if_neg hl).symm)
theorem zFz (a b c : Int) : Qg.f a b c = some (decide (b ≤ a) && decide (a ≤ c)) := by
  unfold Qg.f
  by_cases h : b ≤ a <;> simp [h]
theorem zCg {α : Type} (l : List α) (z : α) (n : Nat) (h : n < l.length) :
    (l.take n ++ List.replicate (l.length - n) z).set n l[n] = l.take (n + 1) ++ List.replicate (l.length - (n + 1)) z := by
  have e : l.length - n = (l.length - (n + 1)) + 1 := by omega
  rw [e, List.replicate_succ, List.set_append_right _ _ (by simp; omega)]
  have : n - (l.take n).length = 0 := by simp; omega
  rw [this, yby, List.take_succ_eq_append_getElem h, List.append_assoc]
  rfl
theorem zDd (l : List Int) (h : l.length ≤ 4398046511104) : Ev (fun k => qb.f k l) l := by
  have hl : Ev (fun k => qb.l0 k l (List.replicate l.length 0) 0) l := by
    refine Qu (fun k (s : List Int × Int) => qb.l0 k l s.1 s.2) (fun s => ∃ n : Nat, n ≤ l.length ∧ s.2 = n ∧ s.1 = l.take n ++ List.replicate (l.length - n) 0) (fun s => l.length - s.2.toNat) (fun _ => l) ?_ (List.replicate l.length 0, 0) ⟨0, by omega, rfl, by simp⟩
    rintro ⟨a, i⟩ ⟨n, hn, rfl, rfl⟩
    dsimp only
    by_cases hlt : n < l.length
    · refine .inr ⟨(l.take (n + 1) ++ List.replicate (l.length - (n + 1)) 0, ((n + 1 : Nat) : Int)), ⟨n + 1, by omega, rfl, rfl⟩, by simp; omega, rfl, fun k => ?_⟩
      simp only [qb.l0]
      rw [if_pos (by omega), if_pos (by omega), if_pos (by simp; omega), qv (by omega), yny, zAC l n hlt, zCg l 0 n hlt]
    · obtain rfl : n = l.length := by omega
      refine .inl fun k => ?_
      simp only [qb.l0]
      rw [if_neg (by omega)]
      simp
  refine Ev.congr (fun k => ?_) hl
  unfold qb.f
  rw [if_pos (by omega), if_pos (by simp; omega), yny]
theorem zBQ (l : List Int) (h : l.length ≤ 4398046511104) : Ev (fun k => qD.f k l l) true := by
  have hl : Ev (fun k => qD.l0 k l l 0) true := by
    refine Qu (fun k (s : Int) => qD.l0 k l l s) (fun s => ∃ n : Nat, n ≤ l.length ∧ s = n) (fun s => l.length - s.toNat) (fun _ => true) ?_ 0 ⟨0, by omega, rfl⟩
    rintro i ⟨n, hn, rfl⟩
    by_cases hlt : n < l.length
    · refine .inr ⟨((n + 1 : Nat) : Int), ⟨n + 1, by omega, rfl⟩, by simp; omega, rfl, fun k => ?_⟩
      simp only [qD.l0]
      rw [if_pos (by omega), if_pos (by omega), if_pos (by omega), if_pos trivial, qv (by omega)]
    · refine .inl fun k => ?_
      simp only [qD.l0]
      rw [if_neg (by omega)]
  refine Ev.congr (fun k => ?_) hl
  unfold qD.f
  rw [if_pos rfl]
theorem zDe (l : List Int) (a : Int) (n : Nat) (h : n < l.length) : (Zg a n ++ l.drop n).set n (a + n) = Zg a (n + 1) ++ l.drop (n + 1) := by
  rw [List.set_append_right _ _ (by rw [QW]; omega), QW, Nat.sub_self, yoy h, yby, zDa, List.append_assoc]
  rfl
theorem zAW (l : List Int) (a : Int) (h : l.length ≤ 4398046511104) (h0 : 0 ≤ a) (h1 : a ≤ 4398046511104) : Ev (fun k => qQ.f k l a) (a + l.length, Zg a l.length) := by
  have hl : Ev (fun k => qQ.l0 k l a 0) (a + l.length, Zg a l.length) := by
    refine Qu (fun k (s : List Int × Int × Int) => qQ.l0 k s.1 s.2.1 s.2.2) (fun s => ∃ n : Nat, n ≤ l.length ∧ s.2.2 = n ∧ s.2.1 = a + n ∧ s.1 = Zg a n ++ l.drop n) (fun s => l.length - s.2.2.toNat) (fun _ => (a + l.length, Zg a l.length)) ?_ (l, a, 0) ⟨0, by omega, rfl, by simp, by simp [Zg]⟩
    rintro ⟨x, b, i⟩ ⟨n, hn, rfl, rfl, rfl⟩
    dsimp only
    have hlen : (Zg a n ++ l.drop n).length = l.length := by simp [QW]; omega
    by_cases hlt : n < l.length
    · refine .inr ⟨(Zg a (n + 1) ++ l.drop (n + 1), a + ((n + 1 : Nat) : Int), ((n + 1 : Nat) : Int)), ⟨n + 1, by omega, rfl, rfl, rfl⟩, by simp; omega, rfl, fun k => ?_⟩
      simp only [qQ.l0]
      rw [if_pos (by rw [hlen]; omega), if_pos (by omega), qv (by omega), yny, zDe l a n hlt, qt (by omega) (by omega)]
      congr 1; omega
    · obtain rfl : n = l.length := by omega
      refine .inl fun k => ?_
      simp only [qQ.l0]
      rw [if_neg (by rw [hlen]; omega)]
      simp
  exact hl
theorem zCh (a : Int) (m : Nat) (h : m ≤ 4398046511104) (h0 : 0 ≤ a) (h1 : a ≤ 4398046511104) : Ev (fun k => qU.f k (Zg a m) a) (a + m) := by
  have hl : Ev (fun k => qU.l0 k (Zg a m) a 0) (a + m) := by
    refine Qu (fun k (s : Int × Int) => qU.l0 k (Zg a m) s.1 s.2) (fun s => ∃ n : Nat, n ≤ m ∧ s.2 = n ∧ s.1 = a + n) (fun s => m - s.2.toNat) (fun _ => a + m) ?_ (a, 0) ⟨0, by omega, rfl, by simp⟩
    rintro ⟨b, i⟩ ⟨n, hn, rfl, rfl⟩
    dsimp only
    by_cases hlt : n < m
    · refine .inr ⟨(a + ((n + 1 : Nat) : Int), ((n + 1 : Nat) : Int)), ⟨n + 1, by omega, rfl, rfl⟩, by simp; omega, rfl, fun k => ?_⟩
      simp only [qU.l0]
      rw [if_pos (by rw [QW]; omega), if_pos (by omega), if_pos (by rw [rd_nat, zEW a m n hlt]), qv (by omega), qt (by omega) (by omega)]
      congr 1; omega
    · obtain rfl : n = m := by omega
      refine .inl fun k => ?_
      simp only [qU.l0]
      rw [if_neg (by rw [QW]; omega)]
  exact hl
def zA2 (R : List (List Int)) (v : List Int) : Bool := R.all fun r => decide (zEU r v 0 = 0)
def JS (t : Tri) (v : List Int) : Bool := if (v.length : Int) = 7 * (t.length : Int) then (if v.all inR = true then zA2 (Jo t) v else false) else false
def zAX (t : Tri) (v : List Int) : Bool := if JR t = 0 then JS t v else false
theorem zEd {t : Tri} {v : List Int} (hv : v.length ≤ 4398046511104) {R : Bool} (hR : Ev (fun k => (ze.f k t).bind fun t106 => zc.l1 k v t106 0) R) (d : Nat) : ∀ n : Nat, n + d = v.length → Ev (fun k => zc.l0 k v (n : Int) t) (if (v.drop n).all inR = true then R else false) := by
  induction d with
  | zero =>
    intro n hn
    refine qV (fun k => by rw [zc.l0, if_neg (by omega)]) ?_
    rw [List.drop_eq_nil_of_le (by omega), if_pos (by rfl)]; exact hR
  | succ d ih =>
    intro n hn
    have hlt : n < v.length := by omega
    refine qV (fun k => by rw [zc.l0, if_pos (by omega), if_pos (by omega), zAC v n hlt, zFz, yfy, qv (by omega)]) ?_
    rw [yoy hlt, List.all_cons]
    change Ev (fun k => if inR v[n] = true then _ else _) _
    cases h : inR v[n] with
    | false => exact ZY (by simp) (by rw [Bool.false_and, if_neg (by simp)]; exact Ev.now _)
    | true => exact qq rfl (by rw [Bool.true_and]; exact ih (n + 1) (by omega))
theorem zBR (r v : List Int) (hl : r.length ≤ v.length) (hr : r.length ≤ 1000000) : ∀ (d n : Nat) (s : Int), n + d = r.length → Ev (fun k => ZG.l0 k r v s (n : Int)) (zEU (r.drop n) (v.drop n) s)
  | 0, n, s, hn => by
    refine qV (fun k => by rw [ZG.l0, if_neg (by omega)]) ?_
    rw [List.drop_eq_nil_of_le (by omega)]
    cases v.drop n <;> exact Ev.now _
  | d + 1, n, s, hn => by
    have hlt : n < r.length := by omega
    have hlv : n < v.length := by omega
    refine qV (fun k => by rw [ZG.l0, if_pos (by omega), if_pos (by omega), if_pos (by omega), zAC r n hlt, zAC v n hlv, qv (by omega)]) ?_
    rw [yoy hlt, yoy hlv, zEU]
    exact zBR r v hl hr d (n + 1) _ (by omega)
theorem zDf (r v : List Int) (hl : r.length ≤ v.length) (hr : r.length ≤ 1000000) : Ev (fun k => ZG.f k r v) (zEU r v 0) := by
  have := zBR r v hl hr r.length 0 0 (by omega)
  rwa [List.drop_zero, List.drop_zero] at this
theorem zCA (R : List (List Int)) (v : List Int) (hR : ∀ r ∈ R, r.length ≤ v.length ∧ r.length ≤ 1000000) (hl : R.length ≤ 1000000) : ∀ (d n : Nat), n + d = R.length → Ev (fun k => zc.l1 k v R (n : Int)) (zA2 (R.drop n) v)
  | 0, n, hn => by
    refine qV (fun k => by rw [zc.l1, if_neg (by omega)]) ?_
    rw [List.drop_eq_nil_of_le (by omega)]; exact Ev.now _
  | d + 1, n, hn => by
    have hlt : n < R.length := by omega
    have ex : zV R (n : Int) = R[n] := by simp [zV, hlt]
    have h1 := hR R[n] (List.getElem_mem hlt)
    refine qV (fun k => by rw [zc.l1, if_pos (by omega), if_pos (by omega), ex, qv (by omega)]) ?_
    refine Ev.bind (zDf _ v h1.1 h1.2) ?_
    unfold zA2
    rw [yoy hlt, List.all_cons]
    by_cases hz : zEU R[n] v 0 = 0
    · rw [ygy hz, Bool.true_and]
      exact qq hz (zCA R v hR hl d (n + 1) (by omega))
    · rw [yhy hz, Bool.false_and]
      exact ZY hz (Ev.now _)
theorem zBh (t : Tri) (v : List Int) (hv : v.length ≤ 4398046511104) : Ev (fun k => zc.f k t v) (zAX t v) := by
  have hfalse : Ev (fun k => zc.j0 k v true t) false := qV (fun k => by rw [zc.j0, if_pos rfl]) (Ev.now false)
  refine Ev.bind (zAV t) ?_
  unfold zAX
  by_cases hc : JR t = 0
  · obtain ⟨ht, h6⟩ := Qv hc
    rw [if_pos hc]
    unfold JS
    refine qq hc (Ev.bind (JL (by unfold zt.f; rfl)) ?_)
    refine Ev.congr (fun k => by rw [qt (by omega) (by omega)]) (f := fun k => zc.j0 k v ((v.length : Int) != (7 * (t.length : Int))) t) ?_
    by_cases hl : (v.length : Int) = 7 * (t.length : Int)
    · rw [if_pos hl]
      have e : ((v.length : Int) != (7 * (t.length : Int))) = false := by simp [hl]
      rw [e]
      refine qV (fun k => by rw [zc.j0, if_neg (by simp)]) ?_
      have hrows : Ev (fun k => (ze.f k t).bind fun t106 => zc.l1 k v t106 0) (zA2 (Jo t) v) := by
        refine Ev.bind (zD7 ht) ?_
        have := zCA (Jo t) v (fun r hr => by have := zBO ht r hr; omega) (by have := zC9 ht; omega) (Jo t).length 0 (by omega)
        rwa [List.drop_zero] at this
      have := zEd hv hrows v.length 0 (by omega)
      rwa [List.drop_zero] at this
    · rw [if_neg hl]
      have e : ((v.length : Int) != (7 * (t.length : Int))) = true := by simp [hl]
      rw [e]
      exact hfalse
  · rw [if_neg hc]
    exact ZY hc hfalse
theorem zD8 (cols : Nat) (A r B : List Int) (k : Nat) (hA : A.length = k * cols) (hr : r.length = cols) : rowAt cols (A ++ (r ++ B)) k = r := by
  unfold rowAt
  have h3 : (k + 1) * cols = A.length + r.length := by rw [Nat.succ_mul]; omega
  rw [h3, ← hA, ← List.append_assoc, List.take_append_of_le_length (by simp), List.take_of_length_le (by simp), List.drop_append_of_le_length (yqy _), List.drop_length, List.nil_append]
theorem zCB (cols : Nat) (v : List Int) : ∀ (R : List (List Int)) (A : List Int) (k : Nat), A.length = k * cols → (∀ r ∈ R, r.length = cols) → Jz cols (A ++ R.flatten) v R.length k = zA2 R v
  | [], _, _, _, _ => rfl
  | r :: R, A, k, hA, hR => by
    have hr := hR r (List.mem_cons_self ..)
    rw [List.length_cons, Jz, List.flatten_cons, zD8 cols A r _ k hA hr]
    have ih := zCB cols v R (A ++ r) (k + 1) (by rw [List.length_append, hA, hr, Nat.succ_mul]) (fun x hx => hR x (List.mem_cons_of_mem _ hx))
    rw [List.append_assoc] at ih
    rw [ih]
    unfold zA2
    rw [List.all_cons]
    by_cases hz : zEU r v 0 = 0
    · rw [if_pos hz, ygy hz, Bool.true_and]
    · rw [if_neg hz, yhy hz, Bool.false_and]
theorem zBS (cols : Nat) : ∀ (R : List (List Int)), (∀ r ∈ R, r.length = cols) → R.flatten.length = R.length * cols
  | [], _ => by simp
  | r :: R, h => by
    rw [List.flatten_cons, List.length_append, zBS cols R (fun x hx => h x (List.mem_cons_of_mem _ hx)), h r (List.mem_cons_self ..), List.length_cons, Nat.succ_mul]; omega
theorem zBi {t : Tri} (h : QX t = true) (v : List Int) (hv : (v.length : Int) = 7 * (t.length : Int)) : Zl.f ((Jo t).length : Int) (7 * (t.length : Int)) (Jo t).flatten v = some (zA2 (Jo t) v) := by
  have h8 := (Zm h).1
  have hs := zC9 h
  have hf := zBS (7 * t.length) (Jo t) (zBO h)
  have e7 : (7 * (t.length : Int)).toNat = 7 * t.length := by omega
  unfold Zl.f
  rw [if_pos ?_, e7, yny]
  · have := zCB (7 * t.length) v (Jo t) [] 0 (by simp) (zBO h)
    rw [List.nil_append] at this
    rw [this]
  · refine ⟨by omega, by omega, by omega, by omega, ?_, by omega⟩
    rw [hf]; push_cast; rfl
theorem zFS (v : List Int) : za.f v = some (!(v.all inR)) := by
  unfold za.f zz.f
  rw [contO (p := fun y => !(inR y)) v (fun y _ => by
    show qO.f y = _
    unfold qO.f
    rw [zAj]; rfl), List.not_all_eq_any_not]
theorem zCi {t : Tri} (h : QX t = true) (v : List Int) : qa.f t v = some (JS t v) := by
  have h8 := (Zm h).1
  unfold qa.f JS
  rw [qt (by omega) (by omega)]
  by_cases hl : (v.length : Int) = 7 * (t.length : Int)
  · rw [if_pos hl, if_pos hl, zFS, yfy]
    cases ha : v.all inR with
    | false => rfl
    | true => rw [if_neg (by simp), zEc h, yfy, zBi h v hl, yfy, if_pos rfl]
  · rw [if_neg hl, if_neg hl]
end Go.Proofs.Ythjpdljdodalaaa.P
namespace Go.Proofs.Ythjpdljdodalaaa.P
open Go.RowKit Go.Proofs.YthjpdljdodalaaaW.PrintWords Go.Proofs.YthjpdljdodalaaaW.PrintLast Go.Proofs.YthjpdljdodalaaaW.PrintMore
attribute [local go_sem] QS QT Qz JA QD QE QU QV
set_option linter.unusedVariables false
set_option linter.unusedSimpArgs false
def Za.l0 : Nat → List Int → List Int → Int → Option (List Int)
  | 0, _, _, _ => none
  | k + 1, x0, x3, x4 => if x4 < (x0.length : Int) then (if 0 ≤ x4 then (if (rd x0 x4) = 0 then (Za.l0 k x0 x3 (wrap64 (x4 + 1))) else (if x3.length < 17592186044416 then (Za.l0 k x0 (x3 ++ [x4]) (wrap64 (x4 + 1))) else (none))) else (none)) else (some x3)
def Za.f (k : Nat) (l0 : List Int) : Option (List Int) := Za.l0 k l0 (([] : List Int)) 0
end Go.Proofs.Ythjpdljdodalaaa.P
namespace Go.Proofs.Ythjpdljdodalaaa.P
open Go.RowKit Go.Proofs.YthjpdljdodalaaaW.PrintWords Go.Proofs.Ythjpdljdodalaaa.Lib
set_option linter.unusedVariables false
def zE6 : Nat → List Int → List Int
  | _, [] => []
  | i, x :: xs => if x = 0 then zE6 (i + 1) xs else (i : Int) :: zE6 (i + 1) xs
theorem zD9 (l : List Int) (n : Nat) (h : n < l.length) : zE6 n (l.drop n) = if l[n] = 0 then zE6 (n + 1) (l.drop (n + 1)) else (n : Int) :: zE6 (n + 1) (l.drop (n + 1)) := by
  rw [yoy h]; rfl
theorem zEe (l : List Int) (h : l.length ≤ 4398046511104) : Ev (fun k => Za.f k l) (zE6 0 l) := by
  refine Qu (fun k (s : List Int × Int) => Za.l0 k l s.1 s.2) (fun s => ∃ n : Nat, n ≤ l.length ∧ s.2 = n ∧ s.1.length ≤ n) (fun s => l.length - s.2.toNat) (fun s => s.1 ++ zE6 s.2.toNat (l.drop s.2.toNat)) ?_ ([], 0) ⟨0, by omega, rfl, by simp⟩
  rintro ⟨a, i⟩ ⟨n, hn, rfl, ha⟩
  dsimp only at ha ⊢
  by_cases hlt : n < l.length
  · right
    rw [yny, zD9 l n hlt]
    by_cases hx : l[n] = 0
    · refine ⟨(a, ((n + 1 : Nat) : Int)), ⟨n + 1, by omega, rfl, by dsimp only; omega⟩, by dsimp only; omega, by dsimp only; rw [yny, if_pos hx], fun k => ?_⟩
      simp only [Za.l0]
      rw [if_pos (by omega), if_pos (by omega), zAC l n hlt, if_pos hx, qv (by omega)]
    · refine ⟨(a ++ [(n : Int)], ((n + 1 : Nat) : Int)), ⟨n + 1, by omega, rfl, by simp; omega⟩, by dsimp only; omega, by dsimp only; rw [yny, if_neg hx]; simp, fun k => ?_⟩
      simp only [Za.l0]
      rw [if_pos (by omega), if_pos (by omega), zAC l n hlt, if_neg hx, if_pos (by omega), qv (by omega)]
  · obtain rfl : n = l.length := by omega
    refine .inl fun k => ?_
    simp only [Za.l0]
    rw [if_neg (by omega)]
    simp [zE6]
theorem zAm (l : List Int) (h : l.length ≤ 4398046511104) : Ev (fun k => qN.f k l) (zE6 0 l) := by
  refine Qu (fun k (s : List Int × Int) => qN.l0 k s.1 l (l.length : Int) s.2) (fun s => ∃ n : Nat, n ≤ l.length ∧ s.2 = n ∧ s.1.length ≤ n) (fun s => l.length - s.2.toNat) (fun s => s.1 ++ zE6 s.2.toNat (l.drop s.2.toNat)) ?_ ([], 0) ⟨0, by omega, rfl, by simp⟩
  rintro ⟨a, i⟩ ⟨n, hn, rfl, ha⟩
  dsimp only at ha ⊢
  by_cases hlt : n < l.length
  · right
    rw [yny, zD9 l n hlt]
    by_cases hx : l[n] = 0
    · refine ⟨(a, ((n + 1 : Nat) : Int)), ⟨n + 1, by omega, rfl, by dsimp only; omega⟩, by dsimp only; omega, by dsimp only; rw [yny, if_pos hx], fun k => ?_⟩
      simp only [qN.l0]
      rw [if_pos (by omega), if_pos (by omega), if_pos (by omega), zAC l n hlt, if_pos hx, qv (by omega)]
    · refine ⟨(a ++ [(n : Int)], ((n + 1 : Nat) : Int)), ⟨n + 1, by omega, rfl, by simp; omega⟩, by dsimp only; omega, by dsimp only; rw [yny, if_neg hx]; simp, fun k => ?_⟩
      simp only [qN.l0]
      rw [if_pos (by omega), if_pos (by omega), if_pos (by omega), zAC l n hlt, if_neg hx, if_pos (by omega), qv (by omega)]
  · obtain rfl : n = l.length := by omega
    refine .inl fun k => ?_
    simp only [qN.l0]
    rw [if_neg (by omega)]
    simp [zE6]
def nzc : List Int → Nat
  | [] => 0
  | x :: xs => if x = 0 then nzc xs else nzc xs + 1
theorem zG0 (l : List Int) : ∀ i, (zE6 i l).length = nzc l := by
  induction l with
  | nil => intro i; rfl
  | cons x xs ih => intro i; unfold zE6 nzc; split <;> simp [ih]
def zGe (v : List Int) (i : Nat) : Bool := decide (nzc (JC 7 4 3 v i) ≤ 1)
def zGf (v : List Int) : Nat → Nat → Bool
  | 0, _ => true
  | d + 1, n => zGe v n && zGf v d (n + 1)
def zGm (v : List Int) : Bool := zGf v (v.length / 7) 0
def zGg (v : List Int) : Nat → Bool
  | 0 => true
  | n + 1 => zGg v n && zGe v n
theorem zE7 (v : List Int) : ∀ d n, zGf v d n = true ↔ ∀ i, n ≤ i → i < n + d → zGe v i = true
  | 0, n => by simp [zGf]; intro i h1 h2; omega
  | d + 1, n => by
    rw [zGf, Bool.and_eq_true, zE7 v d (n + 1)]
    constructor
    · rintro ⟨h0, h1⟩ i hi hd
      rcases Nat.eq_or_lt_of_le hi with rfl | h
      · exact h0
      · exact h1 i h (by omega)
    · intro h
      exact ⟨h n (yqy _) (by omega), fun i hi hd => h i (by omega) (by omega)⟩
theorem zE8 (v : List Int) : ∀ n, zGg v n = true ↔ ∀ i, i < n → zGe v i = true
  | 0 => by simp [zGg]
  | n + 1 => by
    rw [zGg, Bool.and_eq_true, zE8 v n]
    constructor
    · rintro ⟨h0, h1⟩ i hi
      rcases Nat.lt_succ_iff_lt_or_eq.1 hi with h | rfl
      · exact h0 i h
      · exact h1
    · intro h
      exact ⟨fun i hi => h i (by omega), h n (by omega)⟩
theorem zGh (v : List Int) (n : Nat) : zGg v n = zGf v n 0 := by
  rw [Bool.eq_iff_iff, zE8, zE7]
  constructor
  · intro h i _ hi; exact h i (by omega)
  · intro h i hi; exact h i (by omega) (by omega)
theorem zAy {v : List Int} {n : Nat} (h : n * 7 + 7 ≤ v.length) : JC 7 4 3 v n = [v[n * 7 + 4], v[n * 7 + 5], v[n * 7 + 6]] := by
  unfold JC
  rw [yoy (by omega), List.take_succ_cons, yoy (by omega), List.take_succ_cons, yoy (by omega), List.take_succ_cons, List.take_zero]
theorem zFT (v : List Int) : ∀ n, n * 7 ≤ v.length → Ev (fun k => zE0 (fun i => zGY (qN.f k) 7 4 3 v i) n) (zGg v n)
  | 0, _ => Ev.now true
  | n + 1, h => by
    refine Ev.bind (zFT v n (by omega)) ?_
    have h3 : (JC 7 4 3 v n).length = 3 := by rw [zAy (by omega)]; rfl
    have hs := zAm (JC 7 4 3 v n) (by omega)
    obtain ⟨K, hK⟩ := hs
    refine ⟨K, fun k hk => ?_⟩
    have h9 : qN.f k (JC 7 4 3 v n) = some (zE6 0 (JC 7 4 3 v n)) := hK k hk
    dsimp only
    unfold zGY
    rw [h9]
    simp [zGg, zGe, zG0]
theorem zDA (v : List Int) (h7 : v.length % 7 = 0) (hl : v.length ≤ 7000000000) : Ev (fun k => qx.f k v) (zGm v) := by
  refine Ev.congr (fun k => by unfold qx.f; rw [if_pos ⟨h7, hl⟩]) ?_
  unfold zGm
  rw [← zGh]
  exact zFT v _ (by omega)
def nz1 (x : Int) : Int := if x = 0 then 0 else 1
theorem zGi (x : Int) : 0 ≤ nz1 x ∧ nz1 x ≤ 1 := by unfold nz1; split <;> omega
theorem Jf (v : List Int) (n q : Nat) (hq4 : 4 ≤ q) (hq : q ≤ 6) (h : n * 7 + 7 ≤ v.length) (hb : v.length ≤ 7000000000) (hp : ∀ x ∈ v, 0 ≤ x) (c : Int) (hc0 : 0 ≤ c) (hc : c ≤ 10) {R : Bool} (hlt : n * 7 + q < v.length)
    (hR : Ev (fun k => qM.l1 k v ((n * 7 : Nat) : Int) (c + nz1 v[n * 7 + q]) ((q + 1 : Nat) : Int)) R) : Ev (fun k => qM.l1 k v ((n * 7 : Nat) : Int) c (q : Int)) R := by
  have e1 : wrap64 (((n * 7 : Nat) : Int) + (q : Int)) = ((n * 7 + q : Nat) : Int) := by rw [qt (by omega) (by omega)]; omega
  have e2 : wrap64 ((q : Int) + 1) = ((q + 1 : Nat) : Int) := qv (by omega)
  have hv := hp v[n * 7 + q] (List.getElem_mem hlt)
  refine qV (fun k => by rw [qM.l1, if_pos (by omega), e1, if_pos (by omega), if_pos (by omega), zAC v _ hlt, e2]) ?_
  by_cases hz : v[n * 7 + q] > 0
  · refine qq hz ?_
    have e3 : wrap64 (c + 1) = c + nz1 v[n * 7 + q] := by rw [qt (by omega) (by omega)]; unfold nz1; rw [if_neg (by omega)]
    rw [e3]; exact hR
  · refine ZY hz ?_
    have e3 : c = c + nz1 v[n * 7 + q] := by unfold nz1; rw [if_pos (by omega)]; omega
    rw [e3]; exact hR
theorem zDg (v : List Int) (n : Nat) (h : n * 7 + 7 ≤ v.length) (hb : v.length ≤ 7000000000) (hp : ∀ x ∈ v, 0 ≤ x) {R : Bool} (hR : Ev (fun k => qM.l0 k v (((n + 1) * 7 : Nat) : Int)) R) : Ev (fun k => qM.l1 k v ((n * 7 : Nat) : Int) 0 4) (zGe v n && R) := by
  have b4 := zGi (v[n * 7 + 4])
  have b5 := zGi (v[n * 7 + 5])
  have b6 := zGi (v[n * 7 + 6])
  refine Jf v n 4 (by omega) (by omega) h hb hp 0 (by omega) (by omega) (by omega) ?_
  refine Jf v n 5 (by omega) (by omega) h hb hp _ (by omega) (by omega) (by omega) ?_
  refine Jf v n 6 (by omega) (by omega) h hb hp _ (by omega) (by omega) (by omega) ?_
  have e1 : wrap64 (((n * 7 : Nat) : Int) + 7) = (((n + 1) * 7 : Nat) : Int) := by rw [qt (by omega) (by omega)]; omega
  refine qV (fun k => by rw [qM.l1, if_neg (by omega), e1]) ?_
  have hn : (0 + nz1 v[n * 7 + 4] + nz1 v[n * 7 + 5] + nz1 v[n * 7 + 6] : Int) = (nzc (JC 7 4 3 v n) : Int) := by
    rw [zAy h]
    unfold nzc nzc nzc nzc nz1
    repeat' split
    all_goals simp
  rw [hn]
  unfold zGe
  by_cases hz : nzc (JC 7 4 3 v n) ≤ 1
  · rw [ygy hz, Bool.true_and]
    exact ZY (by omega) hR
  · rw [yhy hz, Bool.false_and]
    exact qq (by omega) (Ev.now _)
theorem zBT (v : List Int) (hb : v.length ≤ 7000000000) (hp : ∀ x ∈ v, 0 ≤ x) (N : Nat) (hN : v.length = N * 7) : ∀ d n, n + d = N → Ev (fun k => qM.l0 k v ((n * 7 : Nat) : Int)) (zGf v d n)
  | 0, n, hn => by
    have e1 : wrap64 (((n * 7 : Nat) : Int) + 7) = ((n * 7 + 7 : Nat) : Int) := by rw [qt (by omega) (by omega)]; omega
    refine qV (fun k => by rw [qM.l0, e1, if_neg (by omega)]) ?_
    exact Ev.now _
  | d + 1, n, hn => by
    have e1 : wrap64 (((n * 7 : Nat) : Int) + 7) = ((n * 7 + 7 : Nat) : Int) := by rw [qt (by omega) (by omega)]; omega
    refine qV (fun k => by rw [qM.l0, e1, if_pos (by omega)]) ?_
    exact zDg v n (by omega) hb hp (zBT v hb hp N hN d (n + 1) (by omega))
theorem zDB (v : List Int) (h7 : v.length % 7 = 0) (hl : v.length ≤ 7000000000) (hp : ∀ x ∈ v, 0 ≤ x) : Ev (fun k => qM.f k v) (zGm v) := by
  have := zBT v hl hp (v.length / 7) (by omega) (v.length / 7) 0 (by omega)
  unfold zGm
  exact this
theorem zAn {t : Tri} {v : List Int} (h : JS t v = true) : (v.length : Int) = 7 * (t.length : Int) ∧ (∀ x ∈ v, 0 ≤ x ∧ x ≤ 1000) ∧ zA2 (Jo t) v = true := by
  unfold JS at h
  by_cases hl : (v.length : Int) = 7 * (t.length : Int)
  · rw [if_pos hl] at h
    by_cases ha : v.all inR = true
    · rw [if_pos ha] at h
      refine ⟨hl, fun x hx => ?_, h⟩
      have := List.all_eq_true.1 ha x hx
      unfold inR at this
      simp at this
      exact this
    · rw [if_neg ha] at h; cases h
  · rw [if_neg hl] at h; cases h
def adm0 (t : Tri) (v : List Int) : Bool := if JS t v = true then zGm v else false
def adm (t : Tri) (v : List Int) : Bool := if zAX t v = true then zGm v else false
theorem zAY {t : Tri} (h : JR t = 0) (v : List Int) : zAX t v = JS t v := by unfold zAX; rw [if_pos h]
theorem adm_eq {t : Tri} (h : JR t = 0) (v : List Int) : adm t v = adm0 t v := by unfold adm adm0; rw [zAY h]
theorem zBU {t : Tri} {v : List Int} (h : zAX t v = true) : JR t = 0 := by
  unfold zAX at h
  by_cases hc : JR t = 0
  · exact hc
  · rw [if_neg hc] at h; cases h
theorem zDC {t : Tri} (hc : JR t = 0) (v : List Int) : Ev (fun k => qI.f k t v) (adm0 t v) := by
  obtain ⟨ht, h6⟩ := Qv hc
  refine Ev.bind (JL (zCi ht v)) ?_
  unfold adm0
  by_cases hn : JS t v = true
  · obtain ⟨hl, hr, _⟩ := zAn hn
    refine qq hn (Ev.bind (zDA v (by omega) (by omega)) ?_)
    rw [if_pos hn]; exact Ev.now _
  · rw [if_neg hn]; exact ZY hn (Ev.now _)
theorem zDh (t : Tri) (v : List Int) (hv : v.length ≤ 4398046511104) : Ev (fun k => ZX.f k t v) (adm t v) := by
  refine Ev.bind (zBh t v hv) ?_
  unfold adm
  by_cases hn : zAX t v = true
  · have hc := zBU hn
    obtain ⟨ht, h6⟩ := Qv hc
    rw [zAY hc] at hn
    obtain ⟨hl, hr, _⟩ := zAn hn
    rw [zAY hc]
    refine qq hn (Ev.bind (zDB v (by omega) (by omega) (fun x hx => (hr x hx).1)) ?_)
    rw [if_pos hn]; exact Ev.now _
  · rw [if_neg hn]; exact ZY hn (Ev.now _)
def Qh (u v : List Int) : List Int := List.zipWith (· + ·) u v
def QZ (u : List Int) : Prop := ∀ x ∈ u, 0 ≤ x ∧ x ≤ 1000
theorem JM {u v : List Int} (h : u.length = v.length) : (Qh u v).length = u.length := by unfold Qh; rw [List.length_zipWith]; omega
theorem zAz : ∀ {u v : List Int}, QZ u → QZ v → ∀ x ∈ Qh u v, 0 ≤ x ∧ x ≤ 2000
  | [], _, _, _ => by simp [Qh]
  | _ :: _, [], _, _ => by simp [Qh]
  | a :: u, b :: v, hu, hv => by
    intro x hx
    rcases List.mem_cons.1 hx with rfl | hx
    · have h1 := hu a (List.mem_cons_self ..)
      have h2 := hv b (List.mem_cons_self ..)
      show 0 ≤ a + b ∧ a + b ≤ 2000
      omega
    · exact zAz (u := u) (v := v) (fun y hy => hu y (List.mem_cons_of_mem _ hy)) (fun y hy => hv y (List.mem_cons_of_mem _ hy)) x hx
theorem zB0 (u v : List Int) (hl : u.length = v.length) (hb : u.length ≤ 7000000000) (hu : QZ u) (hv : QZ v) : ∀ (d n : Nat) (acc : List Int), n + d = u.length → acc.length = n → Ev (fun k => qP.l0 k u v 1 acc (n : Int)) (acc ++ Qh (u.drop n) (v.drop n))
  | 0, n, acc, hn, ha => by
    refine qV (fun k => by rw [qP.l0, if_neg (by omega)]) ?_
    rw [List.drop_eq_nil_of_le (by omega)]
    exact Qq (by simp [Qh])
  | d + 1, n, acc, hn, ha => by
    have hlt : n < u.length := by omega
    have hlv : n < v.length := by omega
    have h1 := hu u[n] (List.getElem_mem hlt)
    have h2 := hv v[n] (List.getElem_mem hlv)
    have e : wrap64 (u[n] + wrap64 (1 * v[n])) = u[n] + v[n] := by rw [Int.one_mul, qt (x := v[n]) (by omega) (by omega), qt (by omega) (by omega)]
    refine qV (fun k => by rw [qP.l0, if_pos (by omega), if_pos (by omega), if_pos (by omega), if_pos (by omega), zAC u n hlt, zAC v n hlv, e, qv (by omega)]) ?_
    have := zB0 u v hl hb hu hv d (n + 1) (acc ++ [u[n] + v[n]]) (by omega) (by simp; omega)
    rw [yoy hlt, yoy hlv]
    rw [List.append_assoc] at this
    exact this
theorem zDD (u v : List Int) (hl : u.length = v.length) (hb : u.length ≤ 7000000000) (hu : QZ u) (hv : QZ v) : Ev (fun k => qP.f k u v 1) (Qh u v) := by
  have := zB0 u v hl hb hu hv u.length 0 [] (by omega) rfl
  rwa [List.drop_zero, List.drop_zero, List.nil_append] at this
theorem zG1 {t : Tri} {v : List Int} (h : adm t v = true) : JR t = 0 ∧ JS t v = true := by
  unfold adm at h
  by_cases hn : zAX t v = true
  · have hc := zBU hn
    rw [zAY hc] at hn
    exact ⟨hc, hn⟩
  · rw [if_neg hn] at h; cases h
def Jp (v : List Int) : Bool := v.all fun x => decide (x ≤ 1000)
def zGI (u : List Int) : Prop := ∀ x ∈ u, 0 ≤ x ∧ x ≤ 4611686018427387904
theorem zAZ (u v : List Int) (hl : u.length = v.length) (hb : u.length ≤ 7000000000) (hu : zGI u) (hv : QZ v) : ∀ (d n : Nat) (acc : List Int), n + d = u.length → acc.length = n → Ev (fun k => Zb.l0 k (acc ++ u.drop n) v (v.length : Int) (n : Int)) (acc ++ Qh (u.drop n) (v.drop n))
  | 0, n, acc, hn, ha => by
    refine qV (fun k => by rw [Zb.l0, if_neg (by omega)]) ?_
    rw [List.drop_eq_nil_of_le (by omega)]
    exact Qq (by simp [Qh])
  | d + 1, n, acc, hn, ha => by
    have hlt : n < u.length := by omega
    have hlv : n < v.length := by omega
    have h1 := hu u[n] (List.getElem_mem hlt)
    have h2 := hv v[n] (List.getElem_mem hlv)
    have e : wrap64 (u[n] + v[n]) = u[n] + v[n] := qt (by omega) (by omega)
    have hL : (acc ++ u.drop n).length = u.length := by rw [List.length_append, yly]; omega
    have hr : rd (acc ++ u.drop n) (n : Int) = u[n] := by
      rw [zAC _ n (by omega)]
      rw [List.getElem_append_right (by omega)]
      simp [ha]
    have hset : (acc ++ u.drop n).set n (u[n] + v[n]) = (acc ++ [u[n] + v[n]]) ++ u.drop (n + 1) := by
      rw [List.set_append_right _ _ (by omega), ha, Nat.sub_self, yoy hlt, yby, List.append_assoc]; rfl
    refine qV (fun k => by rw [Zb.l0, if_pos (by omega), if_pos (by omega), if_pos (by omega), if_pos (by omega), hr, zAC v n hlv, e, yny, hset, qv (by omega)]) ?_
    have := zAZ u v hl hb hu hv d (n + 1) (acc ++ [u[n] + v[n]]) (by omega) (by simp; omega)
    rw [yoy hlt, yoy hlv]
    have e2 : acc ++ Qh (u[n] :: u.drop (n + 1)) (v[n] :: v.drop (n + 1)) = acc ++ [u[n] + v[n]] ++ Qh (u.drop (n + 1)) (v.drop (n + 1)) := by rw [List.append_assoc]; rfl
    rw [e2]
    exact this
theorem zCj (u v : List Int) (hl : u.length = v.length) (hb : u.length ≤ 7000000000) (hu : zGI u) (hv : QZ v) : Ev (fun k => Zb.f k u v) (Qh u v) := by
  refine Ev.bind (JL (show qw.f u = some u from by unfold qw.f; rw [if_pos (by omega)])) ?_
  have := zAZ u v hl hb hu hv u.length 0 [] (by omega) rfl
  rwa [List.drop_zero, List.drop_zero, List.nil_append, List.nil_append] at this
def zFU : List Int → List (List Int) → List Int
  | s, [] => s
  | s, x :: xs => zFU (Qh s x) xs
theorem zFV {B : Int} : ∀ {u v : List Int}, (∀ x ∈ u, 0 ≤ x ∧ x ≤ B) → QZ v → ∀ x ∈ Qh u v, 0 ≤ x ∧ x ≤ B + 1000
  | [], v, _, _, x, hx => by simp [Qh] at hx
  | a :: u, [], _, _, x, hx => by simp [Qh] at hx
  | a :: u, b :: v, hu, hv, x, hx => by
    have h1 := hu a List.mem_cons_self
    have h2 := hv b List.mem_cons_self
    rcases List.mem_cons.1 (show x ∈ (a + b) :: Qh u v from hx) with rfl | hx
    · omega
    · exact zFV (fun y hy => hu y (List.mem_cons_of_mem _ hy)) (fun y hy => hv y (List.mem_cons_of_mem _ hy)) x hx
theorem zFW (n : Nat) (hn : n ≤ 1000) : ∀ (l : List (List Int)) (s : List Int) (B : Int), s.length = n → (∀ x ∈ s, 0 ≤ x ∧ x ≤ B) → B + 1000 * l.length ≤ 4611686018427387904 → (∀ x ∈ l, x.length = n ∧ QZ x) → Ev (fun k => zGc k s l) (zFU s l)
  | [], s, B, hl, hs, hb, hx => Ev.now _
  | x :: xs, s, B, hl, hs, hb, hx => by
    obtain ⟨x1, x2⟩ := hx x List.mem_cons_self
    rw [List.length_cons] at hb
    refine Ev.bind (zCj s x (hl.trans x1.symm) (by omega) (fun y hy => by have := hs y hy; omega) x2) ?_
    exact zFW n hn xs (Qh s x) (B + 1000) (by rw [JM (hl.trans x1.symm)]; exact hl) (zFV hs x2) (by omega) (fun y hy => hx y (List.mem_cons_of_mem _ hy))
theorem zCC : ∀ {u v : List Int}, u.length = v.length → QZ v → Jp (Qh u v) = true → Jp u = true
  | [], v, _, _, _ => rfl
  | a :: u, [], hl, _, _ => by simp at hl
  | a :: u, b :: v, hl, hv, hf => by
    have hf2 : Jp ((a + b) :: Qh u v) = true := hf
    have h2 := hv b List.mem_cons_self
    unfold Jp at hf2 ⊢
    rw [List.all_cons, Bool.and_eq_true, decide_eq_true_eq] at hf2 ⊢
    exact ⟨by omega, zCC (by simpa using hl) (fun y hy => hv y (List.mem_cons_of_mem _ hy)) hf2.2⟩
theorem zDE (n : Nat) : ∀ (l : List (List Int)) (s : List Int), s.length = n → (∀ x ∈ l, x.length = n ∧ QZ x) → Jp (zFU s l) = true → Jp s = true
  | [], s, _, _, h => h
  | x :: xs, s, hl, hx, h => by
    obtain ⟨x1, x2⟩ := hx x List.mem_cons_self
    have hl2 := hl.trans x1.symm
    exact zCC hl2 x2 (zDE n xs (Qh s x) (by rw [JM hl2]; exact hl) (fun y hy => hx y (List.mem_cons_of_mem _ hy)) h)
theorem zBV (n : Nat) : ∀ (l : List (List Int)) (s : List Int), s.length = n → (∀ x ∈ l, x.length = n ∧ QZ x) → (zFU s l).length = n
  | [], s, h, _ => h
  | x :: xs, s, hl, hx => by
    have hl2 := hl.trans (hx x List.mem_cons_self).1.symm
    exact zBV n xs (Qh s x) (by rw [JM hl2]; exact hl) (fun y hy => hx y (List.mem_cons_of_mem _ hy))
theorem zE9 (l : List (List Int)) (s : List Int) (i : Int) (hb : s.length ≤ 1000) {R : List Int × Int} : ∀ (d n : Nat), n + d = s.length → (Jp (s.drop n) = true → Ev (fun k => zb.l1 k l s (wrap64 (i + 1))) R) → (Jp (s.drop n) = false → R = ([], 3)) → Ev (fun k => zb.l2 k l s i (n : Int)) R
  | 0, n, hn, h1, h2 => by
    refine qV (fun k => by rw [zb.l2, if_neg (by omega)]) (h1 ?_)
    rw [List.drop_eq_nil_of_le (by omega)]; rfl
  | d + 1, n, hn, h1, h2 => by
    have hlt : n < s.length := by omega
    have e : Jp (s.drop n) = (decide (s[n] ≤ 1000) && Jp (s.drop (n + 1))) := by rw [yoy hlt]; rfl
    rw [e] at h1 h2
    by_cases hg : s[n] > 1000
    · have hd : decide (s[n] ≤ 1000) = false := yhy (by omega)
      rw [hd] at h2
      rw [h2 rfl]
      exact qV (f := fun _ => some (([] : List Int), (3 : Int))) (fun k => by rw [zb.l2, if_pos (by omega), if_pos (by omega), zAC s n hlt, if_pos hg]) (Ev.now _)
    · have hd : decide (s[n] ≤ 1000) = true := ygy (by omega)
      rw [hd, Bool.true_and] at h1 h2
      exact qV (fun k => by rw [zb.l2, if_pos (by omega), if_pos (by omega), zAC s n hlt, if_neg hg, qv (by omega)]) (zE9 l s i hb d (n + 1) (by omega) h1 h2)
def zG2 (s : List Int) : List Int × Int := if Jp s = true then (s, 0) else ([], 3)
theorem zEf {s : List Int} (h0 : ∀ x ∈ s, 0 ≤ x) (h : Jp s = true) : QZ s := fun x hx => ⟨h0 x hx, by
  unfold Jp at h
  exact of_decide_eq_true (List.all_eq_true.1 h x hx)⟩
theorem zEA (n : Nat) (hn : n ≤ 1000) (l : List (List Int)) (hl : l.length ≤ 1000000000) (hx : ∀ x ∈ l, x.length = n ∧ QZ x) : ∀ (d i : Nat) (s : List Int), i + d = l.length → s.length = n → QZ s → Ev (fun k => zb.l1 k l s (i : Int)) (zG2 (zFU s (l.drop i)))
  | 0, i, s, hi, hs, hv => by
    rw [List.drop_eq_nil_of_le (by omega)]
    have hf : Jp s = true := by
      unfold Jp
      exact List.all_eq_true.2 (fun x hx => ygy (hv x hx).2)
    refine qV (f := fun _ => some (s, (0 : Int))) (fun k => by rw [zb.l1, if_neg (by omega)]) (Qq ?_)
    show (s, (0 : Int)) = zG2 s
    unfold zG2
    rw [if_pos hf]
  | d + 1, i, s, hi, hs, hv => by
    have hlt : i < l.length := by omega
    have ex : zV l (i : Int) = l[i] := by simp [zV, hlt]
    obtain ⟨x1, x2⟩ := hx l[i] (List.getElem_mem hlt)
    have hl2 := hs.trans x1.symm
    have hw : wrap64 ((i : Int) + 1) = ((i + 1 : Nat) : Int) := qv (by omega)
    have hpl : (Qh s l[i]).length = n := by rw [JM hl2]; exact hs
    have hp0 : ∀ x ∈ Qh s l[i], 0 ≤ x := fun x hx => (zAz hv x2 x hx).1
    rw [yoy hlt, zFU]
    refine qV (f := fun k => (qP.f k s l[i] 1).bind fun t109 => zb.l2 k l t109 (i : Int) 0) (fun k => by rw [zb.l1, if_pos (by omega), if_pos (by omega), ex]) ?_
    refine Ev.bind (zDD s l[i] hl2 (by omega) hv x2) ?_
    refine zE9 l (Qh s l[i]) (i : Int) (by omega) (Qh s l[i]).length 0 (Nat.zero_add _) (fun hf => ?_) (fun hf => ?_)
    · rw [List.drop_zero] at hf
      rw [hw]
      exact zEA n hn l hl hx d (i + 1) _ (by omega) hpl (zEf hp0 hf)
    · rw [List.drop_zero] at hf
      unfold zG2
      rw [if_neg]
      intro hc
      rw [zDE n (l.drop (i + 1)) _ hpl (fun y hy => hx y (List.mem_of_mem_drop hy)) hc] at hf
      cases hf
def zDi (t : Tri) (l : List (List Int)) : List Int × Int := if JR t = 0 then (if l.all (adm t) = true then zG2 (zFU (List.replicate (7 * t.length) 0) l) else ([], 5)) else ([], JR t)
theorem zDj {t : Tri} {l : List (List Int)} (h : l.all (adm t) = true) : ∀ x ∈ l, x.length = 7 * t.length ∧ QZ x := fun x hx => by
  obtain ⟨_, h1⟩ := zG1 (List.all_eq_true.1 h x hx)
  obtain ⟨a1, a2, _⟩ := zAn h1
  exact ⟨by omega, a2⟩
theorem zDF (n : Nat) : QZ (List.replicate n 0) := fun x hx => by
  rw [List.eq_of_mem_replicate hx]; omega
theorem zEB {t : Tri} (hc : JR t = 0) (l : List (List Int)) (hl : l.length ≤ 1000000000) (hr : ∀ x ∈ l, x.length ≤ 4398046511104) : ∀ (d i : Nat), i + d = l.length → (l.drop i).all (adm t) = l.all (adm t) → Ev (fun k => zb.l0 k l (i : Int) t) (if l.all (adm t) = true then zG2 (zFU (List.replicate (7 * t.length) 0) l) else ([], 5))
  | 0, i, hi, ha => by
    have h6 := (Qv hc).2
    rw [List.drop_eq_nil_of_le (by omega)] at ha
    have ha2 : l.all (adm t) = true := ha.symm
    rw [if_pos ha2]
    have hw : wrap64 (7 * (t.length : Int)) = 7 * (t.length : Int) := qt (by omega) (by omega)
    have hn : (7 * (t.length : Int)).toNat = 7 * t.length := by omega
    refine qV (f := fun k => zb.l1 k l (List.replicate (7 * t.length) 0) ((0 : Nat) : Int)) (fun k => by rw [zb.l0, if_neg (by omega), hw, if_pos (by omega), if_pos (by omega), hn]; rfl) ?_
    have := zEA (7 * t.length) (by omega) l hl (zDj ha2) l.length 0 (List.replicate (7 * t.length) 0) (Nat.zero_add _) (by rw [List.length_replicate]) (zDF _)
    rwa [List.drop_zero] at this
  | d + 1, i, hi, ha => by
    have hlt : i < l.length := by omega
    have ex : zV l (i : Int) = l[i] := by simp [zV, hlt]
    rw [yoy hlt, List.all_cons] at ha
    refine qV (f := fun k => (ZX.f k t l[i]).bind fun t104 => if t104 = true then zb.l0 k l ((i + 1 : Nat) : Int) t else some (([] : List Int), 5)) (fun k => by rw [zb.l0, if_pos (by omega), if_pos (by omega), ex, qv (by omega)]) ?_
    refine Ev.bind (zDh t l[i] (hr _ (List.getElem_mem hlt))) ?_
    by_cases h1 : adm t l[i] = true
    · rw [h1, Bool.true_and] at ha
      exact qq h1 (zEB hc l hl hr d (i + 1) (by omega) ha)
    · rw [Bool.eq_false_iff.mpr h1, Bool.false_and] at ha
      refine ZY h1 (Qq ?_)
      rw [← ha]; rfl
theorem zBW (t : Tri) (l : List (List Int)) (hl : l.length ≤ 1000000000) (hr : ∀ x ∈ l, x.length ≤ 4398046511104) : Ev (fun k => zb.f k t l) (zDi t l) := by
  refine Ev.bind (zAV t) ?_
  unfold zDi
  by_cases hc : JR t = 0
  · rw [if_pos hc]
    exact qq hc (zEB hc l hl hr l.length 0 (Nat.zero_add _) (by rw [List.drop_zero]))
  · rw [if_neg hc]; exact ZY hc (Ev.now _)
theorem zFX {t : Tri} (hc : JR t = 0) : ∀ l : List (List Int), ∃ K, ∀ k, K ≤ k → zGa k t l = true ∧ l.any (zGb k t) = !(l.all (adm t))
  | [] => ⟨0, fun k _ => ⟨rfl, rfl⟩⟩
  | x :: xs => by
    obtain ⟨K1, h1⟩ := zFX hc xs
    obtain ⟨K2, h2⟩ := zDC hc x
    refine ⟨max K1 K2, fun k hk => ?_⟩
    have a := h1 k (by omega)
    have b : qI.f k t x = some (adm0 t x) := h2 k (by omega)
    constructor
    · show ((qI.f k t x).isSome && zGa k t xs) = true
      rw [b, a.1]; rfl
    · have e : zGb k t x = !(adm t x) := by unfold zGb; rw [b, adm_eq hc]; rfl
      rw [List.any_cons, List.all_cons, a.2, e]
      cases adm t x <;> simp
theorem zG3 (s : List Int) : zAi s = !(Jp s) := by
  unfold zAi Jp
  rw [List.not_all_eq_any_not]
  congr 1
  funext x
  by_cases h : x ≤ 1000
  · have : ¬ x > 1000 := by omega
    simp [h, this]
  · have : x > 1000 := by omega
    simp [h, this]
theorem zBX {t : Tri} (hs : Small t) (l : List (List Int)) (hl : l.length ≤ 1000000000) : Ev (fun k => Zi.f k t l) (zDi t l) := by
  refine Ev.bind (zCf hs) ?_
  unfold zDi
  by_cases hc : JR t = 0
  · rw [if_pos hc]
    refine qq hc ?_
    have h6 := (Qv hc).2
    obtain ⟨K, hK⟩ := zFX hc l
    by_cases ha : l.all (adm t) = true
    · rw [if_pos ha]
      have hE : Ev (fun k => (zGc k (List.replicate (7 * t.length) 0) l).bind fun s => (if zAi s = true then some (([] : List Int), (3 : Int)) else some (s, 0))) (zG2 (zFU (List.replicate (7 * t.length) 0) l)) := by
        refine Ev.bind (zFW (7 * t.length) (by omega) l (List.replicate (7 * t.length) 0) 1000 (by rw [List.length_replicate]) (zDF _) (by omega) (zDj ha)) ?_
        unfold zG2
        rw [zG3]
        cases hf : Jp (zFU (List.replicate (7 * t.length) 0) l) with
        | true => exact ZY (by simp) (Qq (if_pos rfl).symm)
        | false => exact qq rfl (Qq (if_neg (by simp)).symm)
      obtain ⟨K2, h2⟩ := hE
      refine ⟨max K K2, fun k hk => ?_⟩
      have a := hK k (by omega)
      show (if zGa k t l = true then _ else _) = _
      rw [if_pos a.1, if_neg (by rw [a.2, ha]; simp), if_pos (by omega)]
      exact h2 k (by omega)
    · rw [if_neg ha]
      refine ⟨K, fun k hk => ?_⟩
      have a := hK k hk
      show (if zGa k t l = true then _ else _) = _
      rw [if_pos a.1, if_pos (by rw [a.2, Bool.eq_false_iff.mpr ha]; rfl)]
  · rw [if_neg hc]; exact ZY hc (Ev.now _)
theorem zDk (t : Tri) (l : List (List Int)) : (zDi t l).1.length ≤ 42 := by
  unfold zDi
  by_cases hc : JR t = 0
  · have h6 := (Qv hc).2
    rw [if_pos hc]
    by_cases ha : l.all (adm t) = true
    · rw [if_pos ha]
      unfold zG2
      split
      · have := zBV (7 * t.length) l (List.replicate (7 * t.length) 0) (by rw [List.length_replicate]) (zDj ha)
        show (zFU _ l).length ≤ 42
        omega
      · simp
    · rw [if_neg ha]; simp
  · rw [if_neg hc]; simp
abbrev Rows := List (List Int)
def zEC : Rows → Nat
  | [] => 0
  | r :: rs => r.length + zEC rs
def mkI (a : Int) : Rows → Rows
  | [] => []
  | r :: rs => Zg a r.length :: mkI (a + r.length) rs
def zED (t : Rows) : Prop := t.length ≤ 1048576 ∧ ∀ r ∈ t, r.length ≤ 1048576
theorem zA4 (t : Rows) (n : Nat) (h : n < t.length) : zV t (n : Int) = t[n] := by simp [zV, h]
theorem zCD : ∀ (suf : Rows) (pre : Rows) (a : Int), (∀ r ∈ suf, r.length ≤ 1048576) → 0 ≤ a → a + zEC suf ≤ 4398046511104 → Ev (fun k => qo.go k suf.length (pre ++ suf) a pre.length) (a + zEC suf, pre ++ mkI a suf)
  | [], pre, a, _, h0, h1 => zAQ fun k => by simp [qo.go, zEC, mkI]
  | r :: rs, pre, a, hr, h0, h1 => by
    simp only [zEC] at h1
    have hm := zAW r a (by have := hr r (List.mem_cons_self ..); omega) h0 (by omega)
    have ih := zCD rs (pre ++ [Zg a r.length]) (a + r.length) (fun x hx => hr x (List.mem_cons_of_mem _ hx)) (by omega) (by omega)
    simp only [List.length_cons, qo.go]
    have e0 : List.getD (pre ++ r :: rs) pre.length [] = r := by simp
    rw [e0]
    refine Ev.bind hm ?_
    dsimp only
    have e1 : (pre ++ r :: rs).set pre.length (Zg a r.length) = pre ++ [Zg a r.length] ++ rs := by
      rw [List.set_append_right _ _ (yqy _), Nat.sub_self, yby]; simp
    rw [e1]
    have e2 : pre.length + 1 = (pre ++ [Zg a r.length]).length := by simp
    rw [e2]
    have e3 : (a + ((zEC (r :: rs) : Nat) : Int), pre ++ mkI a (r :: rs)) = (a + r.length + (zEC rs : Int), pre ++ [Zg a r.length] ++ mkI (a + r.length) rs) := by
      simp only [zEC, mkI, List.append_assoc, List.singleton_append]; congr 1; omega
    rw [e3]
    exact ih
theorem zDG (l : Rows) (h : zED l) : Ev (fun k => qX.f k l l) true := by
  have hl : Ev (fun k => qX.l0 k l l 0) true := by
    refine zBN (fun k (s : Int) => qX.l0 k l l s) (fun s => ∃ n : Nat, n ≤ l.length ∧ s = n) (fun s => l.length - s.toNat) (fun _ => true) ?_ 0 ⟨0, by omega, rfl⟩
    rintro i ⟨n, hn, rfl⟩
    by_cases hlt : n < l.length
    · obtain ⟨K, hK⟩ := zBQ l[n] (by have := h.2 _ (List.getElem_mem hlt); omega)
      refine .inr ⟨((n + 1 : Nat) : Int), K, ⟨n + 1, by omega, rfl⟩, by simp; omega, rfl, fun k hk => ?_⟩
      have e : qD.f k l[n] l[n] = some _ := hK k hk
      have h1 := h.1
      simp only [qX.l0]
      rw [if_pos (by omega), if_pos (by omega), if_pos (by omega), zA4 l n hlt, e, yfy, if_pos rfl, qv (by omega)]
    · refine .inl ⟨0, fun k _ => ?_⟩
      simp only [qX.l0]
      rw [if_neg (by omega)]
  refine Ev.congr (fun k => ?_) hl
  unfold qX.f
  rw [if_pos rfl]
theorem zDl (t : List (List qR)) (h : Fits t) (hl : t.length ≤ 1048576) : ∃ r, Ev (fun k => qT.l0 k t (1048576 - t.length) 0) r ∧ (0 ≤ r → ∀ x ∈ t, x.length ≤ 1048576) ∧ r ≤ 1048576 := by
  have key : ∀ d n : Nat, ∀ a : Int, n + d = t.length → 0 ≤ a → a ≤ 1048576 → ∃ r, Ev (fun k => qT.l0 k t a (n : Int)) r ∧ (0 ≤ r → ∀ x ∈ t.drop n, x.length ≤ 1048576) ∧ r ≤ 1048576 := by
    intro d
    induction d with
    | zero =>
      intro n a hn h0 h1
      refine ⟨a, qV (f := fun _ => some a) (fun k => ?_) (Ev.now a), fun _ x hx => ?_, h1⟩
      · simp only [qT.l0]; rw [if_neg (by omega)]
      · rw [List.drop_eq_nil_of_le (by omega)] at hx; cases hx
    | succ d ih =>
      intro n a hn h0 h1
      have hlt : n < t.length := by omega
      have hf := h.2 t[n] (List.getElem_mem hlt)
      by_cases hc : a - t[n].length < 0
      · refine ⟨-1, qV (f := fun _ => some (-1)) (fun k => ?_) (Ev.now (-1)), fun h => by omega, by omega⟩
        simp only [qT.l0]
        rw [if_pos (by omega), if_pos (by omega), JQ t n hlt, zBx _ a h0 h1 hf, yfy, if_pos hc]
        rfl
      · obtain ⟨r, hr, hr2, hr3⟩ := ih (n + 1) (a - t[n].length) (by omega) (by omega) (by omega)
        refine ⟨r, qV (fun k => ?_) hr, fun h x hx => ?_, hr3⟩
        · simp only [qT.l0]
          rw [if_pos (by omega), if_pos (by omega), JQ t n hlt, zBx _ a h0 h1 hf, yfy, if_neg hc, if_neg (by omega), qv (by omega)]
        · rw [yoy hlt] at hx
          rcases List.mem_cons.1 hx with rfl | hx
          · omega
          · exact hr2 h x hx
  obtain ⟨r, hr, hr2, hr3⟩ := key t.length 0 (1048576 - t.length) (by omega) (by omega) (by omega)
  exact ⟨r, hr, fun h => by have := hr2 h; rwa [List.drop_zero] at this, hr3⟩
theorem zAa (t : List (List qR)) (h : Fits t) : ∃ r, Ev (fun k => ZF.f k t 1048576) r ∧ (¬ r < 0 → zE3 t) ∧ r ≤ 1048576 := by
  by_cases hl : (1048576 - (t.length : Int)) < 0
  · refine ⟨-1, ?_, fun h => by omega, by omega⟩
    refine Ev.bind (a := -1) (zAQ (fun k => ?_)) (qq (by omega) (Ev.now _))
    unfold qT.f
    have := h.1
    rw [qt (by omega) (by omega), if_pos hl]
  · obtain ⟨r, hr, hr2, hr3⟩ := zDl t h (by omega)
    have h2 : Ev (fun k => qT.f k t 1048576) r := by
      refine Ev.congr (fun k => ?_) hr
      unfold qT.f
      rw [qt (by omega) (by omega), if_neg hl]
    by_cases hn : r < 0
    · exact ⟨-1, Ev.bind h2 (qq hn (Ev.now _)), fun h => by omega, by omega⟩
    · exact ⟨r, Ev.bind h2 (ZY hn (Ev.now _)), fun _ => ⟨by omega, hr2 (by omega)⟩, hr3⟩
def zGj (t : Rows) : Prop := t.length ≤ 9223372036854775807 ∧ ∀ r ∈ t, r.length ≤ 9223372036854775807
theorem zGJ (r : List Int) (a : Int) (h0 : 0 ≤ a) (h1 : a ≤ 1048576) (h : r.length ≤ 9223372036854775807) : Zx.f r a = some (if a - r.length < 0 then -1 else a - r.length) := by
  unfold Zx.f
  rw [qt (by omega) (by omega)]
  split <;> rfl
theorem zGK (t : Rows) (h : zGj t) (hl : t.length ≤ 1048576) : ∀ (d n : Nat) (a : Int), n + d = t.length → 0 ≤ a → a ≤ 1048576 → ∃ r, Ev (fun k => qS.l0 k t a (n : Int)) r ∧ (0 ≤ r → (∀ x ∈ t.drop n, x.length ≤ 1048576) ∧ zEC (t.drop n) ≤ a)
  | 0, n, a, hn, h0, h1 => by
    refine ⟨a, qV (f := fun _ => some a) (fun k => by rw [qS.l0, if_neg (by omega)]) (Ev.now a), fun _ => ?_⟩
    rw [List.drop_eq_nil_of_le (by omega)]
    exact ⟨fun x hx => (by cases hx), by simpa [zEC] using h0⟩
  | d + 1, n, a, hn, h0, h1 => by
    have hlt : n < t.length := by omega
    have hf := h.2 t[n] (List.getElem_mem hlt)
    by_cases hc : a - t[n].length < 0
    · refine ⟨-1, qV (f := fun _ => some (-1)) (fun k => ?_) (Ev.now (-1)), fun h => by omega⟩
      rw [qS.l0, if_pos (by omega), if_pos (by omega), zA4 t n hlt, zGJ _ a h0 h1 hf, yfy, if_pos hc]
      rfl
    · obtain ⟨r, hr, hr2⟩ := zGK t h hl d (n + 1) (a - t[n].length) (by omega) (by omega) (by omega)
      refine ⟨r, qV (fun k => by rw [qS.l0, if_pos (by omega), if_pos (by omega), zA4 t n hlt, zGJ _ a h0 h1 hf, yfy, if_neg hc, if_neg (by omega), qv (by omega)]) hr, fun hh => ?_⟩
      obtain ⟨q1, q2⟩ := hr2 hh
      rw [yoy hlt]
      refine ⟨fun x hx => ?_, by rw [zEC]; omega⟩
      rcases List.mem_cons.1 hx with rfl | hx
      · omega
      · exact q1 x hx
theorem zDH (t : Rows) (a : Int) (h : zGj t) (h0 : 0 ≤ a) (h1 : a ≤ 1048576) : ∃ r, Ev (fun k => qS.f k t a) r ∧ (¬ r < 0 → zED t ∧ zEC t ≤ 1048576) := by
  have hw : wrap64 (a - (t.length : Int)) = a - (t.length : Int) := by
    have := h.1
    exact qt (by omega) (by omega)
  by_cases hl : a - (t.length : Int) < 0
  · exact ⟨-1, zAQ (fun k => by unfold qS.f; rw [hw, if_pos hl]), fun h => by omega⟩
  · obtain ⟨r, hr, hr2⟩ := zGK t h (by omega) t.length 0 (a - t.length) (Nat.zero_add _) (by omega) (by omega)
    refine ⟨r, Ev.congr (fun k => by unfold qS.f; rw [hw, if_neg hl]; rfl) hr, fun hh => ?_⟩
    obtain ⟨q1, q2⟩ := hr2 (by omega)
    rw [List.drop_zero] at q1 q2
    exact ⟨⟨by omega, q1⟩, by omega⟩
theorem zDI (l : Rows) (h : zED l) : Ev (fun k => qG.f k l) l := by
  have hl : Ev (fun k => qG.l0 k l (List.replicate l.length []) 0) l := by
    refine zBN (fun k (s : Rows × Int) => qG.l0 k l s.1 s.2) (fun s => ∃ n : Nat, n ≤ l.length ∧ s.2 = n ∧ s.1 = (l.take n).map id ++ List.replicate (l.length - n) []) (fun s => l.length - s.2.toNat) (fun _ => l) ?_ (List.replicate l.length [], 0) ⟨0, by omega, rfl, by simp⟩
    rintro ⟨a, i⟩ ⟨n, hn, rfl, rfl⟩
    dsimp only
    by_cases hlt : n < l.length
    · obtain ⟨K, hK⟩ := zDd l[n] (by have := h.2 _ (List.getElem_mem hlt); omega)
      refine .inr ⟨((l.take (n + 1)).map id ++ List.replicate (l.length - (n + 1)) [], ((n + 1 : Nat) : Int)), K, ⟨n + 1, by omega, rfl, rfl⟩, by simp; omega, rfl, fun k hk => ?_⟩
      have e : qb.f k l[n] = some _ := hK k hk
      have h1 := h.1
      simp only [qG.l0]
      rw [if_pos (by omega), if_pos (by omega), zA4 l n hlt, e, yfy, if_pos (by simp; omega), qv (by omega), yny]
      have := zA1 id l [] n hlt
      rw [id] at this
      rw [this]
    · obtain rfl : n = l.length := by omega
      refine .inl ⟨0, fun k _ => ?_⟩
      simp only [qG.l0]
      rw [if_neg (by omega)]
      simp
  have h1 := h.1
  refine Ev.congr (fun k => ?_) hl
  unfold qG.f
  rw [if_pos (by omega), if_pos (by simp; omega), yny]
theorem zBY (t : Rows) (a : Int) (hs : zED t) (h0 : 0 ≤ a) (h1 : a + zEC t ≤ 4398046511104) : Ev (fun k => qo.f k t a) (a + zEC t, mkI a t) := by
  have := zCD t [] a hs.2 h0 h1
  rw [List.nil_append, List.nil_append] at this
  exact this
def mkR (a : Int) : Nat → List zq
  | 0 => []
  | n + 1 => ⟨a, a + 1⟩ :: mkR (a + 2) n
theorem zAo (a : Int) (n : Nat) : (mkR a n).length = n := by
  induction n generalizing a with
  | zero => rfl
  | succ n ih => simp [mkR, ih]
theorem zG4 (a : Int) (n : Nat) : mkR a (n + 1) = mkR a n ++ [⟨a + 2 * n, a + 2 * n + 1⟩] := by
  induction n generalizing a with
  | zero => simp [mkR]
  | succ n ih =>
    rw [mkR, ih (a + 2)]
    have e : a + 2 + 2 * (n : Int) = a + 2 * ((n + 1 : Nat) : Int) := by omega
    rw [e]; rfl
theorem mk_set (l : List zq) (a : Int) (n : Nat) (h : n < l.length) : (mkR a n ++ l.drop n).set n ⟨a + 2 * n, a + 2 * n + 1⟩ = mkR a (n + 1) ++ l.drop (n + 1) := by
  rw [List.set_append_right _ _ (by rw [zAo]; exact yqy _), zAo, Nat.sub_self, yoy h, yby, zG4, List.append_assoc]
  rfl
theorem zDm (l : List zq) (n : Nat) (v : zq) (h : n < l.length) : zG (l.set n v) (n : Int) = v := by
  rw [zAk _ n (by rw [List.length_set]; exact h), List.getElem_set_self]
theorem zDJ (l : List zq) (a : Int) (h : l.length ≤ 1099511627776) (h0 : 0 ≤ a) (h1 : a ≤ 4398046511104) : Ev (fun k => qc.f k l a) (a + 2 * l.length, mkR a l.length) := by
  have hl : Ev (fun k => qc.l0 k l a 0) (a + 2 * l.length, mkR a l.length) := by
    refine Qu (fun k (s : List zq × Int × Int) => qc.l0 k s.1 s.2.1 s.2.2) (fun s => ∃ n : Nat, n ≤ l.length ∧ s.2.2 = n ∧ s.2.1 = a + 2 * n ∧ s.1 = mkR a n ++ l.drop n) (fun s => l.length - s.2.2.toNat) (fun _ => (a + 2 * l.length, mkR a l.length)) ?_ (l, a, 0) ⟨0, by omega, rfl, by simp, by simp [mkR]⟩
    rintro ⟨x, b, i⟩ ⟨n, hn, rfl, rfl, rfl⟩
    dsimp only
    have hlen : (mkR a n ++ l.drop n).length = l.length := by simp [zAo]; omega
    by_cases hlt : n < l.length
    · refine .inr ⟨(mkR a (n + 1) ++ l.drop (n + 1), a + 2 * ((n + 1 : Nat) : Int), ((n + 1 : Nat) : Int)), ⟨n + 1, by omega, rfl, rfl, rfl⟩, by simp; omega, rfl, fun k => ?_⟩
      simp only [qc.l0]
      rw [if_pos (by rw [hlen]; omega), if_pos (by omega), yfy, yny, zDm _ n _ (by rw [hlen]; exact hlt), List.set_set, qt (x := a + 2 * (n : Int) + 1) (by omega) (by omega), mk_set l a n hlt, qv (by omega), qt (by omega) (by omega)]
      congr 1; omega
    · obtain rfl : n = l.length := by omega
      refine .inl fun k => ?_
      simp only [qc.l0]
      rw [if_neg (by rw [hlen]; omega)]
      simp
  exact hl
def zEi : Tri → Nat
  | [] => 0
  | r :: rs => 2 * r.length + zEi rs
def mkT (a : Int) : Tri → Tri
  | [] => []
  | r :: rs => mkR a r.length :: mkT (a + 2 * r.length) rs
theorem zFY (t : Tri) (h : ∀ r ∈ t, r.length ≤ 1048576) : zEi t ≤ 2097152 * t.length := by
  induction t with
  | nil => simp [zEi]
  | cons r rs ih =>
    have h1 := h r (List.mem_cons_self ..)
    have h2 := ih (fun x hx => h x (List.mem_cons_of_mem _ hx))
    simp only [zEi, List.length_cons]; omega
theorem zDK : ∀ (suf : Tri) (pre : Tri) (a : Int), (∀ r ∈ suf, r.length ≤ 1048576) → 0 ≤ a → a + zEi suf ≤ 4398046511104 → Ev (fun k => qy.go k suf.length (pre ++ suf) a pre.length) (a + zEi suf, pre ++ mkT a suf)
  | [], pre, a, _, h0, h1 => zAQ fun k => by simp [qy.go, zEi, mkT]
  | r :: rs, pre, a, hr, h0, h1 => by
    simp only [zEi] at h1
    have hm := zDJ r a (by have := hr r (List.mem_cons_self ..); omega) h0 (by omega)
    have ih := zDK rs (pre ++ [mkR a r.length]) (a + 2 * r.length) (fun x hx => hr x (List.mem_cons_of_mem _ hx)) (by omega) (by omega)
    simp only [List.length_cons, qy.go]
    have e0 : List.getD (pre ++ r :: rs) pre.length [] = r := by simp
    rw [e0]
    refine Ev.bind hm ?_
    dsimp only
    have e1 : (pre ++ r :: rs).set pre.length (mkR a r.length) = pre ++ [mkR a r.length] ++ rs := by
      rw [List.set_append_right _ _ (yqy _), Nat.sub_self, yby]; simp
    rw [e1]
    have e2 : pre.length + 1 = (pre ++ [mkR a r.length]).length := by simp
    rw [e2]
    have e3 : (a + ((zEi (r :: rs) : Nat) : Int), pre ++ mkT a (r :: rs)) = (a + 2 * r.length + (zEi rs : Int), pre ++ [mkR a r.length] ++ mkT (a + 2 * r.length) rs) := by
      simp only [zEi, mkT, List.append_assoc, List.singleton_append]; congr 1; omega
    rw [e3]
    exact ih
theorem zA6 (t : Tri) (a : Int) (hs : Small t) (h0 : 0 ≤ a) (h1 : a ≤ 1048576) : Ev (fun k => ZW.f k t a) (a + zEi t, mkT a t) := by
  have := zDK t [] a hs.2 h0 (by have := zFY t hs.2; have := hs.1; omega)
  rw [List.nil_append, List.nil_append] at this
  exact this
end Go.Proofs.Ythjpdljdodalaaa.P
namespace Go.Proofs.Ythjpdljdodalaaa.Pure
open Go.RowKit Go.Proofs.Ythjpdljdodalaaa.P Go.Proofs.Ythjpdljdodalaaa.Lib Go.Proofs.YthjpdljdodalaaaW.PrintWords
set_option linter.unusedVariables false
theorem zB4 (l : List (List qR)) (x : List (List Int)) (h : Fits l) (hx : zGj x) : ∃ k, Ze.f k l x = some true := by
  refine Ev.rounds ?_
  obtain ⟨r, hr, hs, hle⟩ := zAa l h
  refine Ev.bind hr ?_
  by_cases hn : r < 0
  · exact qq hn (Ev.now true)
  refine ZY hn ?_
  obtain ⟨r2, hr2, hs2⟩ := zDH x r hx (by omega) hle
  refine Ev.bind hr2 ?_
  by_cases hn2 : r2 < 0
  · exact qq hn2 (Ev.now true)
  refine ZY hn2 ?_
  have hsm := hs hn
  obtain ⟨hsx, hcx⟩ := hs2 hn2
  have hto := zAS l hsm
  have htx := zDI x hsx
  have hS := zFL hsm
  have hcnt := zFY (cvT l) hS.2
  have hc1 := hS.1
  have ho := zDk (cvT l) x
  have hx1 := hsx.1
  have hsp := zBW (cvT l) x (by omega) (fun y hy => by have := hsx.2 y hy; omega)
  have him := zBX hS x (by omega)
  generalize zDi (cvT l) x = o at *
  have heq := zBQ o.1 (by omega)
  have hh := zCh 1 o.1.length (by omega) (by omega) (by omega)
  have hex := zDG x hsx
  refine Ev.bind hto ?_
  refine Ev.bind htx ?_
  refine Ev.bind hsp ?_
  refine Ev.bind hto ?_
  refine Ev.bind htx ?_
  refine Ev.bind him ?_
  refine Ev.bind heq (qq rfl (qq rfl ?_))
  refine Ev.bind hto ?_
  refine Ev.bind (zAT _ hS) (qq rfl ?_)
  refine Ev.bind htx ?_
  refine Ev.bind hex (qq rfl ?_)
  refine Ev.bind (zA6 _ 1 hS (by omega) (by omega)) ?_
  refine Ev.bind (zBY x _ hsx (by dsimp only; omega) (by dsimp only; omega)) ?_
  refine ZY (by dsimp only; omega) ?_
  refine Ev.bind heq (qq rfl (qq rfl ?_))
  refine Ev.bind (zAW _ 1 (by omega) (by omega) (by omega)) ?_
  refine Ev.bind hh ?_
  refine ZY (by omega) (qq rfl ?_)
  refine Ev.bind hto ?_
  refine Ev.bind htx ?_
  refine Ev.bind him ?_
  refine Ev.bind heq (qq rfl (qq rfl ?_))
  refine Ev.bind hh ?_
  exact ZY (by omega) (qq rfl (Ev.now true))
end Go.Proofs.Ythjpdljdodalaaa.Pure
namespace Go.Proofs.Ythjpdljdodalaaa.Lib
open Go.RowKit Go.Proofs.YthjpdljdodalaaaW.PrintWords Go.Joins Go.Deep Go.WideShapes Go.ChangeShapes
set_option linter.unusedVariables false
def zEg (P : Program) (t : TypeId) {α : Type} (d : Kd α) : Prop := ∀ (H : Type) (enc : TypeId × Value → H) (w : World) (base : Nat) (spare : Nat → Bool) (held : Bool) (fuel : Nat) (cs : List Value) (x : DataW H × List MemPlace),
  DataW.trod enc P w base spare held fuel t cs = some x → ∃ y, d.K w y cs
theorem zFZ {P : Program} {t : TypeId} {k : IntKind} (ht : P.underlying t = some (.int k)) : zEg P t (Kd.int k) := by
  intro H enc w base spare held fuel cs x h
  obtain ⟨n, rfl, _, _⟩ := DataW.trod_int ht h
  exact ⟨n, rfl⟩
theorem zDL {α : Type} {R : Nat → α → Prop} : ∀ n, (∀ i, i < n → ∃ y, R i y) → ∃ ys : List α, ys.length = n ∧ ∀ j p, ys[j]? = some p → R j p
  | 0, _ => ⟨[], rfl, fun j p h => by simp at h⟩
  | n + 1, h => by
    obtain ⟨ys, hl, hr⟩ := zDL n (fun i hi => h i (by omega))
    obtain ⟨y, hy⟩ := h n (by omega)
    refine ⟨ys ++ [y], by simp [hl], fun j p hj => ?_⟩
    by_cases hlt : j < n
    · rw [List.getElem?_append_left (by omega)] at hj
      exact hr j p hj
    · have hjn : j < (ys ++ [y]).length := (List.getElem?_eq_some_iff.1 hj).1
      have : j = n := by simp [hl] at hjn; omega
      subst this
      rw [List.getElem?_append_right (by omega), hl, Nat.sub_self] at hj
      injection hj with hj
      rw [← hj]
      exact hy
theorem Jg {P : Program} {t e : TypeId} {α : Type} {d : Kd α} (ht : P.underlying t = some (.slice e)) (hc : P.cellsOf e = d.sz) (h : zEg P e d) : zEg P t (Kd.slice e d) := by
  intro H enc w base spare held fuel cs x hx
  rcases open_slice ht hx with ⟨rfl, _⟩ | ⟨a, len, cap, m, n, D, Pl, rfl, hb, hl, hm, hmm, _, hi⟩
  · exact ⟨[], none, 0, rfl, yqy _, Kd.C_nil d w⟩
  · have each : ∀ i, i < len → ∃ y, ∃ cs', w.cells? base (a.add (i * d.sz)) d.sz = some cs' ∧ d.K w y cs' := by
      intro i hil
      have him : i < m := by rw [hmm]; split <;> omega
      obtain ⟨cs', h1, h2⟩ := hi i him
      obtain ⟨y, hy⟩ := h H enc w base spare held n cs' _ h2
      rw [hc] at h1
      exact ⟨y, cs', h1, hy⟩
    obtain ⟨ys, hlen, hys⟩ := zDL len each
    refine ⟨ys, some a, cap, by rw [hlen], by omega, rfl, ?_, fun _ => ⟨a, rfl, fun j p hj => ?_⟩⟩
    · unfold maxLen at hm; omega
    · obtain ⟨cs', h1, h2⟩ := hys j p hj
      obtain ⟨_, h3, h4⟩ := World.cells?_some h1
      refine ⟨cs', h3, h2, fun i u hu => ?_⟩
      have hil : i < d.sz := by rw [← h3]; exact (List.getElem?_eq_some_iff.1 hu).1
      rw [← hu, ← h4 i hil, Go.Deep.add_add]
theorem zCk {P : Program} {t : TypeId} {f0 f1 : Field} {α : Type} (hs : P.underlying t = some (.struct #[f0, f1])) (hone : oneCellFields P #[f0, f1] = true) (hC : P.cellsOf t = 2)
    (h0 : P.underlying f0.type = some (.int .i64)) (h1 : P.underlying f1.type = some (.int .i64)) (d : Kd α) (mk : Int → Int → α) (hK : ∀ w a b, d.K w (mk a b) [.int .i64 a, .int .i64 b]) : zEg P t d := by
  intro H enc w base spare held fuel cs x h
  obtain ⟨y0, y1, n, hx, hl, g0, g1⟩ := trod_struct2 hs h
  obtain ⟨o0, k0⟩ := hone_of hone 0 f0 rfl
  obtain ⟨o1, k1⟩ := hone_of hone 1 f1 rfl
  rw [hC] at hl
  match cs, hl with
  | [c0, c1], _ =>
    rw [o0, k0] at g0
    rw [o1, k1] at g1
    obtain ⟨a, e0, _, _⟩ := DataW.trod_int h0 g0
    obtain ⟨b, e1, _, _⟩ := DataW.trod_int h1 g1
    simp at e0 e1
    subst e0 e1
    exact ⟨mk a b, hK w a b⟩
section
variable {H : Type} {enc : TypeId × Value → H} {P : Program} {w : World} {base : Nat} {spare : Nat → Bool} {held : Bool}
theorem array1 {α : Type} {cs : Array α} (h : cs.size = 1) : ∃ c0, cs = #[c0] := by
  obtain ⟨l⟩ := cs
  match l, h with
  | [c0], _ => exact ⟨c0, rfl⟩
theorem zG5 {r : Reach} {b0 : Nat} {t e : TypeId} {α : Type} {d : Kd α} {v : Value} {D : DataW H} {p : List MemPlace} (hu : P.underlying t = some (.slice e)) (ho : zEg P t (Kd.slice e d)) (hv : Value.okWide P w r b0 t v) (h : DataW.Trod enc P w base spare held t v D p) :
    ∃ (A : Option Addr) (c : Nat) (l : List α), v = .slice A l.length c ∧ l.length ≤ c ∧ d.C w A l.length l := by
  obtain ⟨a0, len, cap, rfl⟩ := okWide_slice hu hv
  obtain ⟨fuel, hf⟩ := h
  obtain ⟨l, A, c, e1, hl, hC⟩ := ho H enc w base spare held fuel _ _ hf
  simp [Value.cells] at e1
  obtain ⟨rfl, rfl, rfl⟩ := e1
  exact ⟨_, _, l, rfl, hl, hC⟩
theorem zFa {r : Reach} {b0 : Nat} {t e : TypeId} {f0 : Field} {α : Type} {d : Kd α} {v : Value} {D : DataW H} {p : List MemPlace} (hs : P.underlying t = some (.struct #[f0])) (hone : oneCellFields P #[f0] = true) (hC : P.cellsOf t = 1)
    (ho : zEg P f0.type (Kd.slice e d)) (hv : Value.okWide P w r b0 t v) (h : DataW.Trod enc P w base spare held t v D p) :
    ∃ (A : Option Addr) (c : Nat) (l : List α), v = .agg #[.slice A l.length c] ∧ l.length ≤ c ∧ d.C w A l.length l := by
  obtain ⟨cs, rfl, hsz⟩ := okWide_struct hs hv
  obtain ⟨c0, rfl⟩ := array1 (hsz.trans hC)
  obtain ⟨fuel, hf⟩ := h
  obtain ⟨y0, n, hx, _, h0⟩ := trod_struct1 hs hf
  obtain ⟨o0, k0⟩ := hone_of hone 0 f0 rfl
  have h0' : DataW.trod enc P w base spare held n f0.type [c0] = some y0 := by simpa [Value.cells, o0, k0] using h0
  obtain ⟨l, A, c, e1, hl, hCC⟩ := ho H enc w base spare held n _ _ h0'
  simp at e1
  subst e1
  exact ⟨A, c, l, rfl, hl, hCC⟩
end
theorem zDM {e : Nat} {α : Type} {d : Kd α} {w : World} {A : Option Addr} {l : List (List α)} (h : (Kd.slice e d).C w A l.length l) : l.length ≤ 9223372036854775807 ∧ ∀ r ∈ l, r.length ≤ 9223372036854775807 := by
  refine ⟨h.2.1, fun r hr => ?_⟩
  obtain ⟨j, hj, rfl⟩ := List.mem_iff_getElem.1 hr
  obtain ⟨ad, _, hc⟩ := h.2.2 (by omega)
  obtain ⟨c, _, hK, _⟩ := hc j _ (List.getElem?_eq_getElem hj)
  obtain ⟨A', c', _, _, hC⟩ := hK
  exact hC.2.1
end Go.Proofs.Ythjpdljdodalaaa.Lib
namespace Go.Proofs.Ythjpdljdodalaaa.fnExactSumOfList
open Go.ChangeShapes Go.WideShapes Go.ChangeAt Go.RowKit Go.Proofs.Ythjpdljdodalaaa.Lib Go.Proofs.YthjpdljdodalaaaW.PrintWords Go.Proofs.Ythjpdljdodalaaa.P
open Go.ChangeMaps (open_string shut_string)
set_option linter.unusedVariables false
theorem own : ownKnob Try.prog.godebug = none := by kernel_rfl
theorem laidOut : laidOutB Try.prog = true := by kernel_rfl
set_option maxRecDepth 100000 in
theorem lifted (os : Os) (started : os.Started) (H : Type) (enc : TypeId × Value → H) :
    ReturnsInHanded {} Try.checked os 12 .any (Rows.fnExactSumOfListSpec.pre6 enc Try.prog Try.f12 Rows.fnExactSumOfListRow.domain false) (Rows.fnExactSumOfListSpec.post enc Try.prog Try.f12 false true false false) := by
  refine returnsInHanded_of_change_sized (C := Try.checked) own started (by kernel_rfl) Try.func12
    (ChangeSpec.witness6 (enc := enc) (C := Try.checked) false ⟨#[], #[.agg #[.slice none 0 0], .slice none 0 0], []⟩ 8 (by kernel_rfl) (by kernel_rfl) (by kernel_rfl) (by kernel_rfl)) ?_
  intro W base args ds gs before hval0 hW hcnd hsz0 _
  have hval : ∀ (j : Nat) t v, Try.f12.params[j]? = some t → args[j]? = some v → Value.okWide Try.prog W .any base t v := hval0
  have hW' := hW
  obtain ⟨p, q, hA0, hV, rfl, hfz, hnd⟩ := hW
  have hA : DataW.TrodAll enc Try.prog W 0 (fun _ => true) true Try.f12.params.toList args.toList ds p := hA0
  rw [Try.params12] at hA hval
  obtain ⟨v0, vs0, d0, ds0, p0, q0, hargs, rfl, rfl, h0, r0⟩ := trodAll_cons hA
  obtain ⟨v1, vs1, d1, ds1, p1, q1, rfl, rfl, rfl, h1, r1⟩ := trodAll_cons r0
  obtain ⟨rfl, rfl, rfl⟩ := trodAll_nil r1
  obtain rfl : args = #[v0, v1] := by cases args; simp_all
  obtain ⟨rfl, rfl⟩ := trodVars_none hV
  have k0 := h0
  have lt0 : ∀ x ∈ p0, x.block < W.heap.size := by obtain ⟨m, hm⟩ := k0; exact DataW.trod_lt m _ _ _ hm
  obtain ⟨A0, c0, l0, rfl, hl0, hC0⟩ := zFa Try.underlying24 (by kernel_rfl) (by kernel_rfl) (Jg Try.underlying22 (by kernel_rfl) (Jg Try.underlying103 (by kernel_rfl) (zCk Try.underlying136 (by kernel_rfl) (by kernel_rfl) Try.underlying2 Try.underlying2 QH (fun a b => (⟨a, b⟩ : qR)) (fun w a b => zDU w ⟨a, b⟩)))) (hval 0 24 v0 rfl rfl) h0
  have k1 := h1
  have lt1 : ∀ x ∈ p1, x.block < W.heap.size := by obtain ⟨m, hm⟩ := k1; exact DataW.trod_lt m _ _ _ hm
  obtain ⟨A1, c1, l1, rfl, hl1, hC1⟩ := zG5 Try.underlying54 (Jg Try.underlying54 (by kernel_rfl) (Jg Try.underlying25 (by kernel_rfl) (zFZ Try.underlying2))) (hval 1 54 v1 rfl rfl) h1
  obtain ⟨k, hk⟩ := Pure.zB4 l0 l1 (zDM hC0) (zDM hC1)
  refine (Ze.calls k _ _ l0 _ _ l1 W hC0 hl0 hC1 hl1 hk).mono fun e W' ⟨he, bel⟩ => ?_
  subst he
  exact ⟨_, rfl, _, _, _, [], _, [], hW', trodAll_mk1 (shut_bool Try.underlying4 _), (trodAll_cons_mk (Below.trod laidOut (by kernel_rfl) (of_decide_eq_true (by kernel_rfl)) k0 bel lt0) (trodAll_cons_mk (Below.trod laidOut (by kernel_rfl) (of_decide_eq_true (by kernel_rfl)) k1 bel lt1) trodAll_mk0)), rfl, bel.frame _, fun h => by cases h⟩
theorem over : Rows.fnExactSumOfListRow.holds Try.pinned (OpenSpec.ofChange Rows.fnExactSumOfListSpec) :=
  OpenClaim.holds_of_wide 12 Try.f12 rfl rfl rfl rfl rfl rfl rfl ⟨rfl, rfl, rfl, rfl, rfl⟩ rfl rfl rfl rfl rfl (by kernel_rfl) Try.func12 (by kernel_rfl)
    (of_decide_eq_true (by kernel_rfl)) (by unfold Func.isWrapper; first | (rw [if_pos (by decide +kernel)]; kernel_rfl) | (rw [if_neg (by decide +kernel)]; exact ⟨rfl, rfl⟩))
    (fun os started H enc _ => lifted os started H enc)
theorem proved : Rows.FnExactSumOfListSaid := over
#print axioms proved
end Go.Proofs.Ythjpdljdodalaaa.fnExactSumOfList
namespace Go.Proofs.Ythjpdljdodalaaa
theorem fnExactSumOfList_holds : Rows.FnExactSumOfListSaid := fnExactSumOfList.proved
end Go.Proofs.Ythjpdljdodalaaa
