/- The statement FnExactReversesOrientationSaid, proved: part 7 of 8 (texts of this session and of the kit's print, put together and cut to what is used by a program of it). -/
import Derived.Test.YtembbpalgfikiaaMFnExactReversesOrientation6
import Derived.Deep.Slices
import Derived.ChangeSame
import Derived.ChangeArms
import Derived.WideShapes
import Derived.Lib.SmallJoins
import Derived.ChangeShapes
namespace Go.Proofs.Ytembbpalgfikiaa.P
open Go.RowKit Go.Proofs.YtembbpalgfikiaaW.PrintWords Go.Proofs.Ytembbpalgfikiaa.Lib
set_option linter.unusedVariables false
theorem rv_sgn {p : Int} (h0 : 0 ≤ p) (h1 : p ≤ 23) : sgnP p = 1 ∨ sgnP p = -1 := by
  obtain ⟨m, rfl⟩ := fin_of h0 h1
  have key : ∀ m : Fin 24, sgnP (m.val : Int) = 1 ∨ sgnP (m.val : Int) = -1 := by decide +kernel
  exact key m
theorem rv_sign_ev {p : Int} (h0 : 0 ≤ p) (h1 : p ≤ 23) : Ev (fun k => spec_SignPerm4.f k p) (sgnP p) := by
  obtain ⟨m, rfl⟩ := fin_of h0 h1
  have key : ∀ m : Fin 24, spec_SignPerm4.f 40 (m.val : Int) = some (sgnP (m.val : Int)) := by decide +kernel
  exact Ev.of (fun k => spec_SignPerm4.mono _ k) (key m)
/-- A step of a path, as it has to be. -/
def GoodS (t : Tri) (x : List Int) : Prop := x.length = 2 ∧ (0 ≤ rd x 0 ∧ rd x 0 < (t.length : Int)) ∧ (0 ≤ rd x 1 ∧ rd x 1 ≤ 3)
theorem badStep_iff {t : Tri} (h8 : t.length ≤ 8) (x : List Int) : badStep t x = false ↔ GoodS t x := by
  have e1 : impl_hasIndex_Simpl_Face.f t (rd x 0) = some (decide (0 ≤ rd x 0) && decide (rd x 0 ≤ (t.length : Int) - 1)) := by
    unfold impl_hasIndex_Simpl_Face.f impl_size_Simpl_Face.f
    rw [yfy, wrap_id (by omega) (by omega), inRange_eq]; rfl
  have e2 : impl_isVertex.f (rd x 1) = some (decide (0 ≤ rd x 1) && decide (rd x 1 ≤ 3)) := by unfold impl_isVertex.f; rw [inRange_eq]; rfl
  unfold badStep GoodS
  rw [e1, e2]
  by_cases h : x.length = 2
  · rw [if_pos h]
    simp [h]
    omega
  · rw [if_neg h]; simp [h]
/-- The first tetrahedron of the next step. -/
def nextT (p : List (List Int)) (i : Int) : Int := rd (rd_LInt p (Int.tmod (wrap64 (i + 1)) (p.length : Int))) 0
def stepF (t : Tri) (x : List Int) : SFace := fc t (rd x 0) (rd x 1)
def badP (t : Tri) (p : List (List Int)) (i : Nat) : Bool := decide ((stepF t (rd_LInt p (i : Int))).f0 < 0) || ((stepF t (rd_LInt p (i : Int))).f0 != nextT p (i : Int))
def okP (t : Tri) (p : List (List Int)) : Nat → Nat → Bool
  | 0, _ => true
  | d + 1, i => !(badP t p i) && okP t p d (i + 1)
def parP (t : Tri) : Bool → List (List Int) → Bool
  | o, [] => o
  | o, x :: xs => parP t (o != decide (sgnP (stepF t x).f1 > 0)) xs
def reverses (t : Tri) (p : List (List Int)) : Bool × Int :=
  if isTri t = true then (if (p.length : Int) > 16 then (false, 2) else if p.any (badStep t) = true then (false, 2) else if (okP t p p.length 0 && decide (0 < p.length)) = true then (parP t false p, 0) else (false, 5)) else (false, 1)
theorem rd_LInt_lt' (l : List (List Int)) (n : Nat) (h : n < l.length) : rd_LInt l (n : Int) = l[n] := by simp [rd_LInt, h]
section
variable {t : Tri} {p : List (List Int)}
theorem nx_bd (i : Nat) (h : i < p.length) (hl : p.length ≤ 16) : 0 ≤ Int.tmod (wrap64 ((i : Int) + 1)) (p.length : Int) ∧ Int.tmod (wrap64 ((i : Int) + 1)) (p.length : Int) < (p.length : Int) := by
  rw [wrap_succ (by omega)]
  exact ⟨Int.tmod_nonneg _ (by omega), Int.tmod_lt_of_pos _ (by omega)⟩
theorem nx_good (hp : ∀ x ∈ p, GoodS t x) {j : Int} (h0 : 0 ≤ j) (h1 : j < (p.length : Int)) : GoodS t (rd_LInt p j) := by
  obtain ⟨m, rfl⟩ := Int.eq_ofNat_of_zero_le h0
  rw [rd_LInt_lt' p m (by omega)]
  exact hp _ (List.getElem_mem _)
theorem perm_bd (h : isTri t = true) {x : List Int} (hx : GoodS t x) (hb : ¬ (stepF t x).f0 < 0) : 0 ≤ (stepF t x).f1 ∧ (stepF t x).f1 ≤ 23 := by
  rcases face_good h hx.2.1.1 hx.2.1.2 hx.2.2.1 hx.2.2.2 with ⟨e, _⟩ | ⟨e, _⟩
  · exact absurd (show (stepF t x).f0 < 0 by unfold stepF; omega) hb
  · exact ⟨e.2.2.1, e.2.2.2⟩
theorem isPath_ev (h : isTri t = true) (hp : ∀ x ∈ p, GoodS t x) (hl : p.length ≤ 16) : ∀ d i : Nat, i + d = p.length → Ev (fun k => impl_Triangulation_isPath.l0 k p p (p.length : Int) (i : Int) t) (okP t p d i && decide (0 < p.length)) := by
  intro d
  induction d with
  | zero =>
    intro i hi
    refine ev_step (fun k => by rw [impl_Triangulation_isPath.l0, if_neg (by omega)]) (ev_some ?_)
    rw [okP, Bool.true_and]
    exact decide_eq_decide.mpr (by omega)
  | succ d ih =>
    intro i hi
    have hlt : i < p.length := by omega
    obtain ⟨n0, n1⟩ := nx_bd i hlt hl
    have hg := nx_good hp (j := (i : Int)) (by omega) (by omega)
    have hg2 := nx_good hp n0 n1
    have hr := rowlen h hg.2.1.1 hg.2.1.2
    refine ev_step (fun k => by rw [impl_Triangulation_isPath.l0, if_pos (by omega), if_pos (by omega), if_pos (by omega), if_pos (by have := hg.1; omega), if_pos hg.2.1.1, if_pos hg.2.1.2, if_pos (by have := hg.1; omega), if_pos hg.2.2.1, if_pos (by have := hg.2.2.2; omega), impl_Face_isBoundary.f, yfy]) ?_
    have e0 : okP t p (d + 1) i = (!(badP t p i) && okP t p d (i + 1)) := rfl
    by_cases hb : (stepF t (rd_LInt p (i : Int))).f0 < 0
    · refine ev_pos (by show decide ((stepF t (rd_LInt p (i : Int))).f0 < 0) = true; exact ygy hb) (ev_some ?_)
      rw [e0]; unfold badP; rw [ygy hb]; rfl
    · refine ev_neg (by show ¬ decide ((stepF t (rd_LInt p (i : Int))).f0 < 0) = true; simpa using hb) (ev_neg (by omega) (ev_pos n0 (ev_pos n1 (ev_pos (by have := hg2.1; omega) ?_))))
      by_cases he : (stepF t (rd_LInt p (i : Int))).f0 = nextT p (i : Int)
      · refine ev_pos he ?_
        have e1 : badP t p i = false := by unfold badP; rw [yhy hb, he]; simp
        rw [e0, e1]
        exact Ev.congr (fun k => by rw [wrap_succ (by omega)]) (ih (i + 1) (by omega))
      · refine ev_neg he (ev_some ?_)
        have e1 : badP t p i = true := by unfold badP; rw [yhy hb]; simpa using he
        rw [e0, e1]; rfl
theorem revL_eq (h : isTri t = true) : ∀ (d i : Nat) (o : Bool), i + d = p.length → (∀ x ∈ p, GoodS t x) → okP t p d i = true → revL t o (p.drop i) = some (parP t o (p.drop i)) := by
  intro d
  induction d with
  | zero => intro i o hi hp _; rw [List.drop_eq_nil_of_le (by omega)]; rfl
  | succ d ih =>
    intro i o hi hp ho
    have hlt : i < p.length := by omega
    rw [okP, Bool.and_eq_true, Bool.not_eq_true'] at ho
    have hg := hp p[i] (List.getElem_mem hlt)
    have hr := rowlen h hg.2.1.1 hg.2.1.2
    have hb : ¬ (stepF t p[i]).f0 < 0 := fun hc => by
      have := ho.1
      unfold badP at this
      rw [rd_LInt_lt' p i hlt, ygy hc] at this
      cases this
    obtain ⟨b0, b1⟩ := perm_bd h hg hb
    rw [List.drop_eq_getElem_cons hlt, revL, if_pos ⟨hg.2.1.1, hg.2.1.2, hg.1, hg.2.2.1, by have := hg.2.2.2; omega⟩]
    have e : impl_signOf.f (rd_Face (rd_LFace t (rd p[i] 0)) (rd p[i] 1)).f1 = some (sgnP (stepF t p[i]).f1) := if_pos ⟨b0, b1⟩
    rw [e, yfy, parP]
    exact ih (i + 1) _ (by omega) hp ho.2
theorem spec_l1_rv (h : isTri t = true) (hp : ∀ x ∈ p, GoodS t x) (hl : p.length ≤ 16) : ∀ (d i : Nat) (o : Bool), i + d = p.length → Ev (fun k => spec_ReversesOrientation.l1 k p o (i : Int) t) (if (okP t p d i && decide (0 < p.length)) = true then (parP t o (p.drop i), 0) else (false, 5)) := by
  intro d
  induction d with
  | zero =>
    intro i o hi
    refine ev_step (fun k => by rw [spec_ReversesOrientation.l1, if_neg (by omega)]) ?_
    rw [okP, Bool.true_and, List.drop_eq_nil_of_le (by omega)]
    by_cases h0 : 0 < p.length
    · rw [ygy h0, if_pos rfl]; exact ev_neg (by omega) (Ev.now _)
    · refine ev_pos (by omega) (ev_some ?_)
      rw [yhy h0]; rfl
  | succ d ih =>
    intro i o hi
    have hlt : i < p.length := by omega
    obtain ⟨n0, n1⟩ := nx_bd i hlt hl
    have hg := nx_good hp (j := (i : Int)) (by omega) (by omega)
    have hg2 := nx_good hp n0 n1
    have hr := rowlen h hg.2.1.1 hg.2.1.2
    refine ev_step (fun k => by rw [spec_ReversesOrientation.l1, if_pos (by omega), if_pos (by omega), if_pos (by have := hg.1; omega), if_pos hg.2.1.1, if_pos hg.2.1.2, if_pos (by have := hg.1; omega), if_pos hg.2.2.1, if_pos (by have := hg.2.2.2; omega)]) ?_
    have e0 : okP t p (d + 1) i = (!(badP t p i) && okP t p d (i + 1)) := rfl
    have j2t : ∀ y z : Int, Ev (fun k => spec_ReversesOrientation.j2 k p o (i : Int) true t y z) (false, 5) := fun y z => ev_step (fun k => by rw [spec_ReversesOrientation.j2, if_pos rfl]) (Ev.now _)
    by_cases hb : (stepF t (rd_LInt p (i : Int))).f0 < 0
    · refine ev_pos hb ?_
      have e1 : badP t p i = true := by unfold badP; rw [ygy hb]; rfl
      rw [e0, e1]
      exact j2t _ _
    · refine ev_neg hb (ev_neg (by omega) (ev_pos n0 (ev_pos n1 (ev_pos (by have := hg2.1; omega) ?_))))
      by_cases he : (stepF t (rd_LInt p (i : Int))).f0 = nextT p (i : Int)
      · have e1 : badP t p i = false := by unfold badP; rw [yhy hb, he]; simp
        have e2 : ((stepF t (rd_LInt p (i : Int))).f0 != nextT p (i : Int)) = false := by rw [he]; simp
        obtain ⟨b0, b1⟩ := perm_bd h hg hb
        refine Ev.congr (fun k => by show spec_ReversesOrientation.j2 k p o (i : Int) ((stepF t (rd_LInt p (i : Int))).f0 != nextT p (i : Int)) t _ _ = _; rw [e2]) ?_
        refine ev_step (f := fun k => (spec_SignPerm4.f k (stepF t (rd_LInt p (i : Int))).f1).bind fun s => if s = 1 then spec_ReversesOrientation.l1 k p (!o) (wrap64 ((i : Int) + 1)) t else spec_ReversesOrientation.l1 k p o (wrap64 ((i : Int) + 1)) t) (fun k => by rw [spec_ReversesOrientation.j2, if_neg (by simp)]; rfl) (Ev.bind (rv_sign_ev b0 b1) ?_)
        rw [e0, e1, Bool.not_false, Bool.true_and, List.drop_eq_getElem_cons hlt, parP]
        have ex : rd_LInt p (i : Int) = p[i] := rd_LInt_lt' p i hlt
        have es : sgnP (stepF t p[i]).f1 = sgnP (stepF t (rd_LInt p (i : Int))).f1 := by rw [ex]
        rw [es]
        rcases rv_sgn b0 b1 with s1 | s1
        · refine ev_pos s1 ?_
          rw [s1]
          have e3 : (o != decide ((1 : Int) > 0)) = !o := by cases o <;> rfl
          rw [e3]
          exact Ev.congr (fun k => by rw [wrap_succ (by omega)]) (ih (i + 1) (!o) (by omega))
        · refine ev_neg (by rw [s1]; decide) ?_
          rw [s1]
          have e3 : (o != decide ((-1 : Int) > 0)) = o := by cases o <;> rfl
          rw [e3]
          exact Ev.congr (fun k => by rw [wrap_succ (by omega)]) (ih (i + 1) o (by omega))
      · have e1 : badP t p i = true := by unfold badP; rw [yhy hb]; simpa using he
        have e2 : ((stepF t (rd_LInt p (i : Int))).f0 != nextT p (i : Int)) = true := by simpa using he
        rw [e0, e1]
        exact Ev.congr (fun k => by show spec_ReversesOrientation.j2 k p o (i : Int) ((stepF t (rd_LInt p (i : Int))).f0 != nextT p (i : Int)) t _ _ = _; rw [e2]) (j2t _ _)
theorem spec_l0_rv (h : isTri t = true) (hl : p.length ≤ 16) (R : Bool × Int) (hR : (∀ x ∈ p, GoodS t x) → Ev (fun k => spec_ReversesOrientation.l1 k p false 0 t) R) : ∀ (d i : Nat), i + d = p.length → (∀ x ∈ p.take i, GoodS t x) → Ev (fun k => spec_ReversesOrientation.l0 k p (i : Int) t) (if (p.drop i).any (badStep t) = true then (false, 2) else R) := by
  obtain ⟨h8, h4, _⟩ := isTri_good h
  intro d
  induction d with
  | zero =>
    intro i hi hp
    rw [List.take_of_length_le (by omega)] at hp
    refine ev_step (fun k => by rw [spec_ReversesOrientation.l0, if_neg (by omega)]) ?_
    rw [List.drop_eq_nil_of_le (by omega)]
    exact hR hp
  | succ d ih =>
    intro i hi hp
    have hlt : i < p.length := by omega
    have ex : rd_LInt p (i : Int) = p[i] := rd_LInt_lt' p i hlt
    refine ev_step (fun k => by rw [spec_ReversesOrientation.l0, if_pos (by omega), if_pos (by omega)]) ?_
    rw [List.drop_eq_getElem_cons hlt, List.any_cons, ex]
    generalize hx : p[i] = x at *
    cases hb : badStep t x with
    | false =>
      have hg := (badStep_iff h8 x).1 hb
      refine ev_pos (by have := hg.1; omega) (ev_pos (by have := hg.1; omega) (Ev.bind (ev_const (by unfold spec_l07Tets.f; rfl)) (Ev.bind (ev_const (l07In_eq _ _ _)) (ev_pos ?_ (ev_pos (by have := hg.1; omega) (Ev.bind (ev_const (l07In_eq _ _ _)) (ev_pos ?_ ?_)))))))
      · have := hg.2.1; rw [wrap_id (by omega) (by omega)]; simp; omega
      · have := hg.2.2; simp; omega
      · rw [Bool.false_or]
        refine Ev.congr (fun k => by rw [wrap_succ (by omega)]) (ih (i + 1) (by omega) (fun y hy => ?_))
        rw [List.take_succ_eq_append_getElem hlt] at hy
        rcases List.mem_append.1 hy with hy | hy
        · exact hp y hy
        · rw [List.mem_singleton.1 hy, hx]; exact hg
    | true =>
      have hn : ¬ GoodS t x := fun hg => by rw [(badStep_iff h8 x).2 hg] at hb; cases hb
      rw [Bool.true_or, if_pos rfl]
      by_cases h2 : x.length = 2
      · refine ev_pos (by omega) (ev_pos (by omega) (Ev.bind (ev_const (by unfold spec_l07Tets.f; rfl)) (Ev.bind (ev_const (l07In_eq _ _ _)) ?_)))
        rw [wrap_id (by omega) (by omega)]
        by_cases ha : 0 ≤ rd x 0 ∧ rd x 0 < (t.length : Int)
        · refine ev_pos (by simp; omega) (ev_pos (by omega) (Ev.bind (ev_const (l07In_eq _ _ _)) ?_))
          have hf : ¬ (0 ≤ rd x 1 ∧ rd x 1 ≤ 3) := fun hf => hn ⟨h2, ha, hf⟩
          exact ev_neg (by rw [Bool.and_eq_true, decide_eq_true_eq, decide_eq_true_eq]; exact hf) (Ev.now _)
        · exact ev_neg (by rw [Bool.and_eq_true, decide_eq_true_eq, decide_eq_true_eq]; omega) (Ev.now _)
      · exact ev_neg (by omega) (Ev.now _)
end
theorem goodS_of {t : Tri} (h8 : t.length ≤ 8) {p : List (List Int)} (h : ¬ p.any (badStep t) = true) : ∀ x ∈ p, GoodS t x := by
  intro x hx
  refine (badStep_iff h8 x).1 ?_
  rw [Bool.eq_false_iff]
  intro hc
  exact h (List.any_eq_true.2 ⟨x, hx, hc⟩)
theorem spec_reverses_ev (t : Tri) (p : List (List Int)) (hp : p.length ≤ 1048576) : Ev (fun k => spec_ReversesOrientation.f k t p) (reverses t p) := by
  refine Ev.bind (spec_isTri_ev t) ?_
  unfold reverses
  cases h : isTri t with
  | false => exact ev_neg (by simp) (Ev.now _)
  | true =>
    obtain ⟨h8, h4, _⟩ := isTri_good h
    rw [if_pos rfl]
    refine ev_pos rfl ?_
    by_cases hl : (p.length : Int) > 16
    · rw [if_pos hl]; exact ev_pos hl (Ev.now _)
    · rw [if_neg hl]
      refine ev_neg hl ?_
      have := spec_l0_rv (t := t) (p := p) h (by omega) _ (fun hg => spec_l1_rv h hg (by omega) p.length 0 false (by omega)) p.length 0 (by omega) (by simp)
      rw [List.drop_zero] at this
      exact this
theorem impl_reverses_ev {t : Tri} (hs : Small t) (p : List (List Int)) : Ev (fun k => impl_ReversesOrientation.f k t p) (reverses t p) := by
  refine Ev.bind (impl_isTri_ev hs) ?_
  unfold reverses
  cases h : isTri t with
  | false => exact ev_neg (by simp) (Ev.now _)
  | true =>
    obtain ⟨h8, h4, _⟩ := isTri_good h
    rw [if_pos rfl]
    refine ev_pos rfl ?_
    by_cases hl : (p.length : Int) > 16
    · rw [if_pos hl]; exact ev_pos hl (Ev.now _)
    · rw [if_neg hl]
      refine ev_neg hl ?_
      by_cases hb : p.any (badStep t) = true
      · rw [if_pos hb]; exact ev_pos hb (Ev.now _)
      · rw [if_neg hb]
        have hg := goodS_of h8 hb
        refine ev_neg hb (Ev.bind (a := okP t p p.length 0 && decide (0 < p.length)) ?_ ?_)
        · exact isPath_ev h hg (by omega) p.length 0 (by omega)
        · cases hq : (okP t p p.length 0 && decide (0 < p.length)) with
          | false => exact ev_neg (by simp) (Ev.now _)
          | true =>
            rw [Bool.and_eq_true] at hq
            have e := revL_eq h p.length 0 false (by omega) hg hq.1
            rw [List.drop_zero] at e
            exact ev_pos rfl (Ev.bind (ev_const e) (Ev.now _))
theorem take_succ_rep {α : Type} (l : List α) (z : α) (n : Nat) (h : n < l.length) :
    (l.take n ++ List.replicate (l.length - n) z).set n l[n] = l.take (n + 1) ++ List.replicate (l.length - (n + 1)) z := by
  have e : l.length - n = (l.length - (n + 1)) + 1 := by omega
  rw [e, List.replicate_succ, List.set_append_right _ _ (by simp; omega)]
  have : n - (l.take n).length = 0 := by simp; omega
  rw [this, yby, List.take_succ_eq_append_getElem h, List.append_assoc]
  rfl
theorem toInt64S_ev (l : List Int) (h : l.length ≤ 4398046511104) : Ev (fun k => laws_toInt64S.f k l) l := by
  have hl : Ev (fun k => laws_toInt64S.l0 k l (List.replicate l.length 0) 0) l := by
    refine ev_loop0 (fun k (s : List Int × Int) => laws_toInt64S.l0 k l s.1 s.2) (fun s => ∃ n : Nat, n ≤ l.length ∧ s.2 = n ∧ s.1 = l.take n ++ List.replicate (l.length - n) 0) (fun s => l.length - s.2.toNat) (fun _ => l) ?_ (List.replicate l.length 0, 0) ⟨0, by omega, rfl, by simp⟩
    rintro ⟨a, i⟩ ⟨n, hn, rfl, rfl⟩
    dsimp only
    by_cases hlt : n < l.length
    · refine .inr ⟨(l.take (n + 1) ++ List.replicate (l.length - (n + 1)) 0, ((n + 1 : Nat) : Int)), ⟨n + 1, by omega, rfl, rfl⟩, by simp; omega, rfl, fun k => ?_⟩
      simp only [laws_toInt64S.l0]
      rw [if_pos (by omega), if_pos (by omega), if_pos (by simp; omega), wrap_succ (by omega), Int.toNat_natCast, rd_lt l n hlt, take_succ_rep l 0 n hlt]
    · obtain rfl : n = l.length := by omega
      refine .inl fun k => ?_
      simp only [laws_toInt64S.l0]
      rw [if_neg (by omega)]
      simp
  refine Ev.congr (fun k => ?_) hl
  unfold laws_toInt64S.f
  rw [if_pos (by omega), if_pos (by simp; omega), Int.toNat_natCast]
theorem eqInt64S_ev (l : List Int) (h : l.length ≤ 4398046511104) : Ev (fun k => laws_eqInt64S.f k l l) true := by
  have hl : Ev (fun k => laws_eqInt64S.l0 k l l 0) true := by
    refine ev_loop0 (fun k (s : Int) => laws_eqInt64S.l0 k l l s) (fun s => ∃ n : Nat, n ≤ l.length ∧ s = n) (fun s => l.length - s.toNat) (fun _ => true) ?_ 0 ⟨0, by omega, rfl⟩
    rintro i ⟨n, hn, rfl⟩
    by_cases hlt : n < l.length
    · refine .inr ⟨((n + 1 : Nat) : Int), ⟨n + 1, by omega, rfl⟩, by simp; omega, rfl, fun k => ?_⟩
      simp only [laws_eqInt64S.l0]
      rw [if_pos (by omega), if_pos (by omega), if_pos (by omega), if_pos trivial, wrap_succ (by omega)]
    · refine .inl fun k => ?_
      simp only [laws_eqInt64S.l0]
      rw [if_neg (by omega)]
  refine Ev.congr (fun k => ?_) hl
  unfold laws_eqInt64S.f
  rw [if_pos rfl]
abbrev Rows := List (List Int)
/-- The marks, and their number. -/
def cntI : Rows → Nat
  | [] => 0
  | r :: rs => r.length + cntI rs
def SmallI (t : Rows) : Prop := t.length ≤ 1048576 ∧ ∀ r ∈ t, r.length ≤ 1048576
theorem rd_LInt_lt (t : Rows) (n : Nat) (h : n < t.length) : rd_LInt t (n : Int) = t[n] := by simp [rd_LInt, h]
theorem eqInt64SS_ev (l : Rows) (h : SmallI l) : Ev (fun k => laws_eqInt64SS.f k l l) true := by
  have hl : Ev (fun k => laws_eqInt64SS.l0 k l l 0) true := by
    refine ev_loop (fun k (s : Int) => laws_eqInt64SS.l0 k l l s) (fun s => ∃ n : Nat, n ≤ l.length ∧ s = n) (fun s => l.length - s.toNat) (fun _ => true) ?_ 0 ⟨0, by omega, rfl⟩
    rintro i ⟨n, hn, rfl⟩
    by_cases hlt : n < l.length
    · obtain ⟨K, hK⟩ := eqInt64S_ev l[n] (by have := h.2 _ (List.getElem_mem hlt); omega)
      refine .inr ⟨((n + 1 : Nat) : Int), K, ⟨n + 1, by omega, rfl⟩, by simp; omega, rfl, fun k hk => ?_⟩
      have e : laws_eqInt64S.f k l[n] l[n] = some _ := hK k hk
      have h1 := h.1
      simp only [laws_eqInt64SS.l0]
      rw [if_pos (by omega), if_pos (by omega), if_pos (by omega), rd_LInt_lt l n hlt, e, yfy, if_pos rfl, wrap_succ (by omega)]
    · refine .inl ⟨0, fun k _ => ?_⟩
      simp only [laws_eqInt64SS.l0]
      rw [if_neg (by omega)]
  refine Ev.congr (fun k => ?_) hl
  unfold laws_eqInt64SS.f
  rw [if_pos rfl]
theorem szFaceSS_le (t : List (List SLawFace)) (h : Fits t) (hl : t.length ≤ 1048576) : ∃ r, Ev (fun k => laws_szFaceSS.l0 k t (1048576 - t.length) 0) r ∧ (0 ≤ r → ∀ x ∈ t, x.length ≤ 1048576) ∧ r ≤ 1048576 := by
  have key : ∀ d n : Nat, ∀ a : Int, n + d = t.length → 0 ≤ a → a ≤ 1048576 → ∃ r, Ev (fun k => laws_szFaceSS.l0 k t a (n : Int)) r ∧ (0 ≤ r → ∀ x ∈ t.drop n, x.length ≤ 1048576) ∧ r ≤ 1048576 := by
    intro d
    induction d with
    | zero =>
      intro n a hn h0 h1
      refine ⟨a, ev_step (f := fun _ => some a) (fun k => ?_) (Ev.now a), fun _ x hx => ?_, h1⟩
      · simp only [laws_szFaceSS.l0]; rw [if_neg (by omega)]
      · rw [List.drop_eq_nil_of_le (by omega)] at hx; cases hx
    | succ d ih =>
      intro n a hn h0 h1
      have hlt : n < t.length := by omega
      have hf := h.2 t[n] (List.getElem_mem hlt)
      by_cases hc : a - t[n].length < 0
      · refine ⟨-1, ev_step (f := fun _ => some (-1)) (fun k => ?_) (Ev.now (-1)), fun h => by omega, by omega⟩
        simp only [laws_szFaceSS.l0]
        rw [if_pos (by omega), if_pos (by omega), rd_LLawFace_lt t n hlt, szFaceS_eq _ a h0 h1 hf, yfy, if_pos hc]
        rfl
      · obtain ⟨r, hr, hr2, hr3⟩ := ih (n + 1) (a - t[n].length) (by omega) (by omega) (by omega)
        refine ⟨r, ev_step (fun k => ?_) hr, fun h x hx => ?_, hr3⟩
        · simp only [laws_szFaceSS.l0]
          rw [if_pos (by omega), if_pos (by omega), rd_LLawFace_lt t n hlt, szFaceS_eq _ a h0 h1 hf, yfy, if_neg hc, if_neg (by omega), wrap_succ (by omega)]
        · rw [List.drop_eq_getElem_cons hlt] at hx
          rcases List.mem_cons.1 hx with rfl | hx
          · omega
          · exact hr2 h x hx
  obtain ⟨r, hr, hr2, hr3⟩ := key t.length 0 (1048576 - t.length) (by omega) (by omega) (by omega)
  exact ⟨r, hr, fun h => by have := hr2 h; rwa [List.drop_zero] at this, hr3⟩
theorem szTriangulation_le (t : List (List SLawFace)) (h : Fits t) : ∃ r, Ev (fun k => laws_szTriangulation.f k t 1048576) r ∧ (¬ r < 0 → SmallL t) ∧ r ≤ 1048576 := by
  by_cases hl : (1048576 - (t.length : Int)) < 0
  · refine ⟨-1, ?_, fun h => by omega, by omega⟩
    refine Ev.bind (a := -1) (ev_const' (fun k => ?_)) (ev_pos (by omega) (Ev.now _))
    unfold laws_szFaceSS.f
    have := h.1
    rw [wrap_id (by omega) (by omega), if_pos hl]
  · obtain ⟨r, hr, hr2, hr3⟩ := szFaceSS_le t h (by omega)
    have h2 : Ev (fun k => laws_szFaceSS.f k t 1048576) r := by
      refine Ev.congr (fun k => ?_) hr
      unfold laws_szFaceSS.f
      rw [wrap_id (by omega) (by omega), if_neg hl]
    by_cases hn : r < 0
    · exact ⟨-1, Ev.bind h2 (ev_pos hn (Ev.now _)), fun h => by omega, by omega⟩
    · exact ⟨r, Ev.bind h2 (ev_neg hn (Ev.now _)), fun _ => ⟨by omega, hr2 (by omega)⟩, hr3⟩
def FitsI (t : Rows) : Prop := t.length ≤ 9223372036854775807 ∧ ∀ r ∈ t, r.length ≤ 9223372036854775807
theorem szI_eq (r : List Int) (a : Int) (h0 : 0 ≤ a) (h1 : a ≤ 1048576) (h : r.length ≤ 9223372036854775807) : laws_szInt64S.f r a = some (if a - r.length < 0 then -1 else a - r.length) := by
  unfold laws_szInt64S.f
  rw [wrap_id (by omega) (by omega)]
  split <;> rfl
theorem szI_l0 (t : Rows) (h : FitsI t) (hl : t.length ≤ 1048576) : ∀ (d n : Nat) (a : Int), n + d = t.length → 0 ≤ a → a ≤ 1048576 → ∃ r, Ev (fun k => laws_szInt64SS.l0 k t a (n : Int)) r ∧ (0 ≤ r → (∀ x ∈ t.drop n, x.length ≤ 1048576) ∧ cntI (t.drop n) ≤ a)
  | 0, n, a, hn, h0, h1 => by
    refine ⟨a, ev_step (f := fun _ => some a) (fun k => by rw [laws_szInt64SS.l0, if_neg (by omega)]) (Ev.now a), fun _ => ?_⟩
    rw [List.drop_eq_nil_of_le (by omega)]
    exact ⟨fun x hx => (by cases hx), by simpa [cntI] using h0⟩
  | d + 1, n, a, hn, h0, h1 => by
    have hlt : n < t.length := by omega
    have hf := h.2 t[n] (List.getElem_mem hlt)
    by_cases hc : a - t[n].length < 0
    · refine ⟨-1, ev_step (f := fun _ => some (-1)) (fun k => ?_) (Ev.now (-1)), fun h => by omega⟩
      rw [laws_szInt64SS.l0, if_pos (by omega), if_pos (by omega), rd_LInt_lt t n hlt, szI_eq _ a h0 h1 hf, yfy, if_pos hc]
      rfl
    · obtain ⟨r, hr, hr2⟩ := szI_l0 t h hl d (n + 1) (a - t[n].length) (by omega) (by omega) (by omega)
      refine ⟨r, ev_step (fun k => by rw [laws_szInt64SS.l0, if_pos (by omega), if_pos (by omega), rd_LInt_lt t n hlt, szI_eq _ a h0 h1 hf, yfy, if_neg hc, if_neg (by omega), wrap_succ (by omega)]) hr, fun hh => ?_⟩
      obtain ⟨q1, q2⟩ := hr2 hh
      rw [List.drop_eq_getElem_cons hlt]
      refine ⟨fun x hx => ?_, by rw [cntI]; omega⟩
      rcases List.mem_cons.1 hx with rfl | hx
      · omega
      · exact q1 x hx
theorem szInt64SS_ev (t : Rows) (a : Int) (h : FitsI t) (h0 : 0 ≤ a) (h1 : a ≤ 1048576) : ∃ r, Ev (fun k => laws_szInt64SS.f k t a) r ∧ (¬ r < 0 → SmallI t ∧ cntI t ≤ 1048576) := by
  have hw : wrap64 (a - (t.length : Int)) = a - (t.length : Int) := by
    have := h.1
    exact wrap_id (by omega) (by omega)
  by_cases hl : a - (t.length : Int) < 0
  · exact ⟨-1, ev_const' (fun k => by unfold laws_szInt64SS.f; rw [hw, if_pos hl]), fun h => by omega⟩
  · obtain ⟨r, hr, hr2⟩ := szI_l0 t h (by omega) t.length 0 (a - t.length) (Nat.zero_add _) (by omega) (by omega)
    refine ⟨r, Ev.congr (fun k => by unfold laws_szInt64SS.f; rw [hw, if_neg hl]; rfl) hr, fun hh => ?_⟩
    obtain ⟨q1, q2⟩ := hr2 (by omega)
    rw [List.drop_zero] at q1 q2
    exact ⟨⟨by omega, q1⟩, by omega⟩
theorem toInt64SS_ev (l : Rows) (h : SmallI l) : Ev (fun k => laws_toInt64SS.f k l) l := by
  have hl : Ev (fun k => laws_toInt64SS.l0 k l (List.replicate l.length []) 0) l := by
    refine ev_loop (fun k (s : Rows × Int) => laws_toInt64SS.l0 k l s.1 s.2) (fun s => ∃ n : Nat, n ≤ l.length ∧ s.2 = n ∧ s.1 = (l.take n).map id ++ List.replicate (l.length - n) []) (fun s => l.length - s.2.toNat) (fun _ => l) ?_ (List.replicate l.length [], 0) ⟨0, by omega, rfl, by simp⟩
    rintro ⟨a, i⟩ ⟨n, hn, rfl, rfl⟩
    dsimp only
    by_cases hlt : n < l.length
    · obtain ⟨K, hK⟩ := toInt64S_ev l[n] (by have := h.2 _ (List.getElem_mem hlt); omega)
      refine .inr ⟨((l.take (n + 1)).map id ++ List.replicate (l.length - (n + 1)) [], ((n + 1 : Nat) : Int)), K, ⟨n + 1, by omega, rfl, rfl⟩, by simp; omega, rfl, fun k hk => ?_⟩
      have e : laws_toInt64S.f k l[n] = some _ := hK k hk
      have h1 := h.1
      simp only [laws_toInt64SS.l0]
      rw [if_pos (by omega), if_pos (by omega), rd_LInt_lt l n hlt, e, yfy, if_pos (by simp; omega), wrap_succ (by omega), Int.toNat_natCast]
      have := map_take_set id l [] n hlt
      rw [id] at this
      rw [this]
    · obtain rfl : n = l.length := by omega
      refine .inl ⟨0, fun k _ => ?_⟩
      simp only [laws_toInt64SS.l0]
      rw [if_neg (by omega)]
      simp
  have h1 := h.1
  refine Ev.congr (fun k => ?_) hl
  unfold laws_toInt64SS.f
  rw [if_pos (by omega), if_pos (by simp; omega), Int.toNat_natCast]
end Go.Proofs.Ytembbpalgfikiaa.P
namespace Go.Proofs.Ytembbpalgfikiaa.Pure
open Go.RowKit Go.Proofs.Ytembbpalgfikiaa.P Go.Proofs.Ytembbpalgfikiaa.Lib Go.Proofs.YtembbpalgfikiaaW.PrintWords
set_option linter.unusedVariables false
theorem FnExactReversesOrientation (l : List (List SLawFace)) (x : List (List Int)) (h : Fits l) (hx : FitsI x) : ∃ k, laws_FnExactReversesOrientation.f k l x = some true := by
  refine Ev.rounds ?_
  obtain ⟨r, hr, hs, hle⟩ := szTriangulation_le l h
  refine Ev.bind hr ?_
  by_cases hn : r < 0
  · exact ev_pos hn (Ev.now true)
  refine ev_neg hn ?_
  obtain ⟨r2, hr2, hs2⟩ := szInt64SS_ev x r hx (by omega) hle
  refine Ev.bind hr2 ?_
  by_cases hn2 : r2 < 0
  · exact ev_pos hn2 (Ev.now true)
  refine ev_neg hn2 ?_
  have hsm := hs hn
  obtain ⟨hsx, hcx⟩ := hs2 hn2
  have hto := toTriangulation_ev l hsm
  have htx := toInt64SS_ev x hsx
  have hS := cvT_small hsm
  refine Ev.bind hto ?_
  refine Ev.bind htx ?_
  refine Ev.bind (spec_reverses_ev (cvT l) x hsx.1) ?_
  refine Ev.bind hto ?_
  refine Ev.bind htx ?_
  refine Ev.bind (impl_reverses_ev hS x) ?_
  refine ev_neg (by simp) ?_
  have e : ((reverses (cvT l) x).2 != (reverses (cvT l) x).2) = false := by simp
  rw [e]
  refine ev_step (fun k => by rw [laws_FnExactReversesOrientation.j0, if_neg (by simp)]) ?_
  refine Ev.bind hto ?_
  refine Ev.bind (eqTriangulation_ev _ hS) (ev_pos rfl ?_)
  refine Ev.bind htx ?_
  exact Ev.bind (eqInt64SS_ev x hsx) (ev_pos rfl (Ev.now true))
end Go.Proofs.Ytembbpalgfikiaa.Pure
namespace Go.Proofs.Ytembbpalgfikiaa.Lib
open Go.RowKit Go.Proofs.YtembbpalgfikiaaW.PrintWords Go.Joins Go.Deep Go.WideShapes Go.ChangeShapes
set_option linter.unusedVariables false
/-- Whatever reads as data at type t reads as a value of the kind d. -/
def Opens (P : Program) (t : TypeId) {α : Type} (d : Kd α) : Prop := ∀ (H : Type) (enc : TypeId × Value → H) (w : World) (base : Nat) (spare : Nat → Bool) (held : Bool) (fuel : Nat) (cs : List Value) (x : DataW H × List MemPlace),
  DataW.trod enc P w base spare held fuel t cs = some x → ∃ y, d.K w y cs
theorem opens_int {P : Program} {t : TypeId} {k : IntKind} (ht : P.underlying t = some (.int k)) : Opens P t (Kd.int k) := by
  intro H enc w base spare held fuel cs x h
  obtain ⟨n, rfl, _, _⟩ := DataW.trod_int ht h
  exact ⟨n, rfl⟩
theorem pick_list {α : Type} {R : Nat → α → Prop} : ∀ n, (∀ i, i < n → ∃ y, R i y) → ∃ ys : List α, ys.length = n ∧ ∀ j p, ys[j]? = some p → R j p
  | 0, _ => ⟨[], rfl, fun j p h => by simp at h⟩
  | n + 1, h => by
    obtain ⟨ys, hl, hr⟩ := pick_list n (fun i hi => h i (by omega))
    obtain ⟨y, hy⟩ := h n (by omega)
    refine ⟨ys ++ [y], by simp [hl], fun j p hj => ?_⟩
    by_cases hlt : j < n
    · rw [List.getElem?_append_left (by omega)] at hj
      exact hr j p hj
    · have hjn : j < (ys ++ [y]).length := (List.getElem?_eq_some_iff.1 hj).1
      have : j = n := by simp [hl] at hjn; omega
      subst this
      rw [List.getElem?_append_right (by omega), hl, Nat.sub_self] at hj
      injection hj with hj
      rw [← hj]
      exact hy
theorem opens_slice {P : Program} {t e : TypeId} {α : Type} {d : Kd α} (ht : P.underlying t = some (.slice e)) (hc : P.cellsOf e = d.sz) (h : Opens P e d) : Opens P t (Kd.slice e d) := by
  intro H enc w base spare held fuel cs x hx
  rcases open_slice ht hx with ⟨rfl, _⟩ | ⟨a, len, cap, m, n, D, Pl, rfl, hb, hl, hm, hmm, _, hi⟩
  · exact ⟨[], none, 0, rfl, yoy _, Kd.C_nil d w⟩
  · have each : ∀ i, i < len → ∃ y, ∃ cs', w.cells? base (a.add (i * d.sz)) d.sz = some cs' ∧ d.K w y cs' := by
      intro i hil
      have him : i < m := by rw [hmm]; split <;> omega
      obtain ⟨cs', h1, h2⟩ := hi i him
      obtain ⟨y, hy⟩ := h H enc w base spare held n cs' _ h2
      rw [hc] at h1
      exact ⟨y, cs', h1, hy⟩
    obtain ⟨ys, hlen, hys⟩ := pick_list len each
    refine ⟨ys, some a, cap, by rw [hlen], by omega, rfl, ?_, fun _ => ⟨a, rfl, fun j p hj => ?_⟩⟩
    · unfold maxLen at hm; omega
    · obtain ⟨cs', h1, h2⟩ := hys j p hj
      obtain ⟨_, h3, h4⟩ := World.cells?_some h1
      refine ⟨cs', h3, h2, fun i u hu => ?_⟩
      have hil : i < d.sz := by rw [← h3]; exact (List.getElem?_eq_some_iff.1 hu).1
      rw [← hu, ← h4 i hil, Go.Deep.add_add]
theorem opens_struct2 {P : Program} {t : TypeId} {f0 f1 : Field} {α : Type} (hs : P.underlying t = some (.struct #[f0, f1])) (hone : oneCellFields P #[f0, f1] = true) (hC : P.cellsOf t = 2)
    (h0 : P.underlying f0.type = some (.int .i64)) (h1 : P.underlying f1.type = some (.int .i64)) (d : Kd α) (mk : Int → Int → α) (hK : ∀ w a b, d.K w (mk a b) [.int .i64 a, .int .i64 b]) : Opens P t d := by
  intro H enc w base spare held fuel cs x h
  obtain ⟨y0, y1, n, hx, hl, g0, g1⟩ := trod_struct2 hs h
  obtain ⟨o0, k0⟩ := hone_of hone 0 f0 rfl
  obtain ⟨o1, k1⟩ := hone_of hone 1 f1 rfl
  rw [hC] at hl
  match cs, hl with
  | [c0, c1], _ =>
    rw [o0, k0] at g0
    rw [o1, k1] at g1
    obtain ⟨a, e0, _, _⟩ := DataW.trod_int h0 g0
    obtain ⟨b, e1, _, _⟩ := DataW.trod_int h1 g1
    simp at e0 e1
    subst e0 e1
    exact ⟨mk a b, hK w a b⟩
section
variable {H : Type} {enc : TypeId × Value → H} {P : Program} {w : World} {base : Nat} {spare : Nat → Bool} {held : Bool}
theorem array1 {α : Type} {cs : Array α} (h : cs.size = 1) : ∃ c0, cs = #[c0] := by
  obtain ⟨l⟩ := cs
  match l, h with
  | [c0], _ => exact ⟨c0, rfl⟩
/-- A slice that came in. -/
theorem open_row {r : Reach} {b0 : Nat} {t e : TypeId} {α : Type} {d : Kd α} {v : Value} {D : DataW H} {p : List MemPlace} (hu : P.underlying t = some (.slice e)) (ho : Opens P t (Kd.slice e d)) (hv : Value.okWide P w r b0 t v) (h : DataW.Trod enc P w base spare held t v D p) :
    ∃ (A : Option Addr) (c : Nat) (l : List α), v = .slice A l.length c ∧ l.length ≤ c ∧ d.C w A l.length l := by
  obtain ⟨a0, len, cap, rfl⟩ := okWide_slice hu hv
  obtain ⟨fuel, hf⟩ := h
  obtain ⟨l, A, c, e1, hl, hC⟩ := ho H enc w base spare held fuel _ _ hf
  simp [Value.cells] at e1
  obtain ⟨rfl, rfl, rfl⟩ := e1
  exact ⟨_, _, l, rfl, hl, hC⟩
/-- A struct that holds one slice, by value. -/
theorem open_agg1 {r : Reach} {b0 : Nat} {t e : TypeId} {f0 : Field} {α : Type} {d : Kd α} {v : Value} {D : DataW H} {p : List MemPlace} (hs : P.underlying t = some (.struct #[f0])) (hone : oneCellFields P #[f0] = true) (hC : P.cellsOf t = 1)
    (ho : Opens P f0.type (Kd.slice e d)) (hv : Value.okWide P w r b0 t v) (h : DataW.Trod enc P w base spare held t v D p) :
    ∃ (A : Option Addr) (c : Nat) (l : List α), v = .agg #[.slice A l.length c] ∧ l.length ≤ c ∧ d.C w A l.length l := by
  obtain ⟨cs, rfl, hsz⟩ := okWide_struct hs hv
  obtain ⟨c0, rfl⟩ := array1 (hsz.trans hC)
  obtain ⟨fuel, hf⟩ := h
  obtain ⟨y0, n, hx, _, h0⟩ := trod_struct1 hs hf
  obtain ⟨o0, k0⟩ := hone_of hone 0 f0 rfl
  have h0' : DataW.trod enc P w base spare held n f0.type [c0] = some y0 := by simpa [Value.cells, o0, k0] using h0
  obtain ⟨l, A, c, e1, hl, hCC⟩ := ho H enc w base spare held n _ _ h0'
  simp at e1
  subst e1
  exact ⟨A, c, l, rfl, hl, hCC⟩
end
theorem fits_of_C {e : Nat} {α : Type} {d : Kd α} {w : World} {A : Option Addr} {l : List (List α)} (h : (Kd.slice e d).C w A l.length l) : l.length ≤ 9223372036854775807 ∧ ∀ r ∈ l, r.length ≤ 9223372036854775807 := by
  refine ⟨h.2.1, fun r hr => ?_⟩
  obtain ⟨j, hj, rfl⟩ := List.mem_iff_getElem.1 hr
  obtain ⟨ad, _, hc⟩ := h.2.2 (by omega)
  obtain ⟨c, _, hK, _⟩ := hc j _ (List.getElem?_eq_getElem hj)
  obtain ⟨A', c', _, _, hC⟩ := hK
  exact hC.2.1
end Go.Proofs.Ytembbpalgfikiaa.Lib
