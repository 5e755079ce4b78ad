import Derived.Test.YteaabcjkpjhjkaaLib
import Derived.Test.YteaabcjkpjhjkaaPflawstoInt64S
import Derived.Test.YteaabcjkpjhjkaaPflawseqInt64S
import Derived.Test.YteaabcjkpjhjkaaPflawsmarkInt64S
import Derived.Test.YteaabcjkpjhjkaaPflawsheldInt64S
/- What the laws' own functions on lists of whole numbers come to: the copy, the comparison, the marks. -/
namespace Go.Proofs.Yteaabcjkpjhjkaa.P
open Go.RowKit Go.Proofs.YteaabcjkpjhjkaaW.PrintWords Go.Proofs.Yteaabcjkpjhjkaa.Lib
set_option linter.unusedVariables false
theorem take_succ_rep {α : Type} (l : List α) (z : α) (n : Nat) (h : n < l.length) :
    (l.take n ++ List.replicate (l.length - n) z).set n l[n] = l.take (n + 1) ++ List.replicate (l.length - (n + 1)) z := by
  have e : l.length - n = (l.length - (n + 1)) + 1 := by omega
  rw [e, List.replicate_succ, List.set_append_right _ _ (by simp; omega)]
  have : n - (l.take n).length = 0 := by simp; omega
  rw [this, List.set_cons_zero, List.take_succ_eq_append_getElem h, List.append_assoc]
  rfl
theorem toInt64S_ev (l : List Int) (h : l.length ≤ 4398046511104) : Ev (fun k => laws_toInt64S.f k l) l := by
  have hl : Ev (fun k => laws_toInt64S.l0 k l (List.replicate l.length 0) 0) l := by
    refine ev_loop0 (fun k (s : List Int × Int) => laws_toInt64S.l0 k l s.1 s.2) (fun s => ∃ n : Nat, n ≤ l.length ∧ s.2 = n ∧ s.1 = l.take n ++ List.replicate (l.length - n) 0) (fun s => l.length - s.2.toNat) (fun _ => l) ?_ (List.replicate l.length 0, 0) ⟨0, by omega, rfl, by simp⟩
    rintro ⟨a, i⟩ ⟨n, hn, rfl, rfl⟩
    dsimp only
    by_cases hlt : n < l.length
    · refine .inr ⟨(l.take (n + 1) ++ List.replicate (l.length - (n + 1)) 0, ((n + 1 : Nat) : Int)), ⟨n + 1, by omega, rfl, rfl⟩, by simp; omega, rfl, fun k => ?_⟩
      simp only [laws_toInt64S.l0]
      rw [if_pos (by omega), if_pos (by omega), if_pos (by simp; omega), wrap_succ (by omega), Int.toNat_natCast, rd_lt l n hlt, take_succ_rep l 0 n hlt]
    · obtain rfl : n = l.length := by omega
      refine .inl fun k => ?_
      simp only [laws_toInt64S.l0]
      rw [if_neg (by omega)]
      simp
  refine Ev.congr (fun k => ?_) hl
  unfold laws_toInt64S.f
  rw [if_pos (by omega), if_pos (by simp; omega), Int.toNat_natCast]
theorem eqInt64S_ev (l : List Int) (h : l.length ≤ 4398046511104) : Ev (fun k => laws_eqInt64S.f k l l) true := by
  have hl : Ev (fun k => laws_eqInt64S.l0 k l l 0) true := by
    refine ev_loop0 (fun k (s : Int) => laws_eqInt64S.l0 k l l s) (fun s => ∃ n : Nat, n ≤ l.length ∧ s = n) (fun s => l.length - s.toNat) (fun _ => true) ?_ 0 ⟨0, by omega, rfl⟩
    rintro i ⟨n, hn, rfl⟩
    by_cases hlt : n < l.length
    · refine .inr ⟨((n + 1 : Nat) : Int), ⟨n + 1, by omega, rfl⟩, by simp; omega, rfl, fun k => ?_⟩
      simp only [laws_eqInt64S.l0]
      rw [if_pos (by omega), if_pos (by omega), if_pos (by omega), if_pos trivial, wrap_succ (by omega)]
    · refine .inl fun k => ?_
      simp only [laws_eqInt64S.l0]
      rw [if_neg (by omega)]
  refine Ev.congr (fun k => ?_) hl
  unfold laws_eqInt64S.f
  rw [if_pos rfl]
theorem take_set_up (l : List Int) (a : Int) (n : Nat) (h : n < l.length) : (upFrom a n ++ l.drop n).set n (a + n) = upFrom a (n + 1) ++ l.drop (n + 1) := by
  rw [List.set_append_right _ _ (by rw [upFrom_length]; omega), upFrom_length, Nat.sub_self, List.drop_eq_getElem_cons h, List.set_cons_zero, upFrom_snoc, List.append_assoc]
  rfl
theorem markInt64S_ev (l : List Int) (a : Int) (h : l.length ≤ 4398046511104) (h0 : 0 ≤ a) (h1 : a ≤ 4398046511104) : Ev (fun k => laws_markInt64S.f k l a) (a + l.length, upFrom a l.length) := by
  have hl : Ev (fun k => laws_markInt64S.l0 k l a 0) (a + l.length, upFrom a l.length) := by
    refine ev_loop0 (fun k (s : List Int × Int × Int) => laws_markInt64S.l0 k s.1 s.2.1 s.2.2) (fun s => ∃ n : Nat, n ≤ l.length ∧ s.2.2 = n ∧ s.2.1 = a + n ∧ s.1 = upFrom a n ++ l.drop n) (fun s => l.length - s.2.2.toNat) (fun _ => (a + l.length, upFrom a l.length)) ?_ (l, a, 0) ⟨0, by omega, rfl, by simp, by simp [upFrom]⟩
    rintro ⟨x, b, i⟩ ⟨n, hn, rfl, rfl, rfl⟩
    dsimp only
    have hlen : (upFrom a n ++ l.drop n).length = l.length := by simp [upFrom_length]; omega
    by_cases hlt : n < l.length
    · refine .inr ⟨(upFrom a (n + 1) ++ l.drop (n + 1), a + ((n + 1 : Nat) : Int), ((n + 1 : Nat) : Int)), ⟨n + 1, by omega, rfl, rfl, rfl⟩, by simp; omega, rfl, fun k => ?_⟩
      simp only [laws_markInt64S.l0]
      rw [if_pos (by rw [hlen]; omega), if_pos (by omega), wrap_succ (by omega), Int.toNat_natCast, take_set_up l a n hlt, wrap_id (by omega) (by omega)]
      congr 1; omega
    · obtain rfl : n = l.length := by omega
      refine .inl fun k => ?_
      simp only [laws_markInt64S.l0]
      rw [if_neg (by rw [hlen]; omega)]
      simp
  exact hl
theorem heldInt64S_ev (a : Int) (m : Nat) (h : m ≤ 4398046511104) (h0 : 0 ≤ a) (h1 : a ≤ 4398046511104) : Ev (fun k => laws_heldInt64S.f k (upFrom a m) a) (a + m) := by
  have hl : Ev (fun k => laws_heldInt64S.l0 k (upFrom a m) a 0) (a + m) := by
    refine ev_loop0 (fun k (s : Int × Int) => laws_heldInt64S.l0 k (upFrom a m) s.1 s.2) (fun s => ∃ n : Nat, n ≤ m ∧ s.2 = n ∧ s.1 = a + n) (fun s => m - s.2.toNat) (fun _ => a + m) ?_ (a, 0) ⟨0, by omega, rfl, by simp⟩
    rintro ⟨b, i⟩ ⟨n, hn, rfl, rfl⟩
    dsimp only
    by_cases hlt : n < m
    · refine .inr ⟨(a + ((n + 1 : Nat) : Int), ((n + 1 : Nat) : Int)), ⟨n + 1, by omega, rfl, rfl⟩, by simp; omega, rfl, fun k => ?_⟩
      simp only [laws_heldInt64S.l0]
      rw [if_pos (by rw [upFrom_length]; omega), if_pos (by omega), if_pos (by rw [rd_nat, upFrom_get a m n hlt]), wrap_succ (by omega), wrap_id (by omega) (by omega)]
      congr 1; omega
    · obtain rfl : n = m := by omega
      refine .inl fun k => ?_
      simp only [laws_heldInt64S.l0]
      rw [if_neg (by rw [upFrom_length]; omega)]
  exact hl
end Go.Proofs.Yteaabcjkpjhjkaa.P
