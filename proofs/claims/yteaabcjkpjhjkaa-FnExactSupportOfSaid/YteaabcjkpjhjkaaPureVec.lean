import Derived.Test.YteaabcjkpjhjkaaPureInts
import Derived.Test.YteaabcjkpjhjkaaPfspecSupportOf
import Derived.Test.YteaabcjkpjhjkaaPfimplSupportOf
/- The positions of the elements that are not 0: what both functions come to. -/
namespace Go.Proofs.Yteaabcjkpjhjkaa.P
open Go.RowKit Go.Proofs.YteaabcjkpjhjkaaW.PrintWords Go.Proofs.Yteaabcjkpjhjkaa.Lib
set_option linter.unusedVariables false
/-- The positions, from i on, of the elements that are not 0. -/
def supp : Nat → List Int → List Int
  | _, [] => []
  | i, x :: xs => if x = 0 then supp (i + 1) xs else (i : Int) :: supp (i + 1) xs
theorem supp_length (i : Nat) (l : List Int) : (supp i l).length ≤ l.length := by
  induction l generalizing i with
  | nil => simp [supp]
  | cons x xs ih => unfold supp; have := ih (i + 1); split <;> simp <;> omega
theorem supp_drop (l : List Int) (n : Nat) (h : n < l.length) : supp n (l.drop n) = if l[n] = 0 then supp (n + 1) (l.drop (n + 1)) else (n : Int) :: supp (n + 1) (l.drop (n + 1)) := by
  rw [List.drop_eq_getElem_cons h]; rfl
theorem spec_SupportOf_ev (l : List Int) (h : l.length ≤ 4398046511104) : Ev (fun k => spec_SupportOf.f k l) (supp 0 l) := by
  refine ev_loop0 (fun k (s : List Int × Int) => spec_SupportOf.l0 k l s.1 s.2) (fun s => ∃ n : Nat, n ≤ l.length ∧ s.2 = n ∧ s.1.length ≤ n) (fun s => l.length - s.2.toNat) (fun s => s.1 ++ supp s.2.toNat (l.drop s.2.toNat)) ?_ ([], 0) ⟨0, by omega, rfl, by simp⟩
  rintro ⟨a, i⟩ ⟨n, hn, rfl, ha⟩
  dsimp only at ha ⊢
  by_cases hlt : n < l.length
  · right
    rw [Int.toNat_natCast, supp_drop l n hlt]
    by_cases hx : l[n] = 0
    · refine ⟨(a, ((n + 1 : Nat) : Int)), ⟨n + 1, by omega, rfl, by dsimp only; omega⟩, by dsimp only; omega, by dsimp only; rw [Int.toNat_natCast, if_pos hx], fun k => ?_⟩
      simp only [spec_SupportOf.l0]
      rw [if_pos (by omega), if_pos (by omega), rd_lt l n hlt, if_pos hx, wrap_succ (by omega)]
    · refine ⟨(a ++ [(n : Int)], ((n + 1 : Nat) : Int)), ⟨n + 1, by omega, rfl, by simp; omega⟩, by dsimp only; omega, by dsimp only; rw [Int.toNat_natCast, if_neg hx]; simp, fun k => ?_⟩
      simp only [spec_SupportOf.l0]
      rw [if_pos (by omega), if_pos (by omega), rd_lt l n hlt, if_neg hx, if_pos (by omega), wrap_succ (by omega)]
  · obtain rfl : n = l.length := by omega
    refine .inl fun k => ?_
    simp only [spec_SupportOf.l0]
    rw [if_neg (by omega)]
    simp [supp]
theorem impl_SupportOf_ev (l : List Int) (h : l.length ≤ 4398046511104) : Ev (fun k => impl_SupportOf.f k l) (supp 0 l) := by
  refine ev_loop0 (fun k (s : List Int × Int) => impl_SupportOf.l0 k s.1 l (l.length : Int) s.2) (fun s => ∃ n : Nat, n ≤ l.length ∧ s.2 = n ∧ s.1.length ≤ n) (fun s => l.length - s.2.toNat) (fun s => s.1 ++ supp s.2.toNat (l.drop s.2.toNat)) ?_ ([], 0) ⟨0, by omega, rfl, by simp⟩
  rintro ⟨a, i⟩ ⟨n, hn, rfl, ha⟩
  dsimp only at ha ⊢
  by_cases hlt : n < l.length
  · right
    rw [Int.toNat_natCast, supp_drop l n hlt]
    by_cases hx : l[n] = 0
    · refine ⟨(a, ((n + 1 : Nat) : Int)), ⟨n + 1, by omega, rfl, by dsimp only; omega⟩, by dsimp only; omega, by dsimp only; rw [Int.toNat_natCast, if_pos hx], fun k => ?_⟩
      simp only [impl_SupportOf.l0]
      rw [if_pos (by omega), if_pos (by omega), if_pos (by omega), rd_lt l n hlt, if_pos hx, wrap_succ (by omega)]
    · refine ⟨(a ++ [(n : Int)], ((n + 1 : Nat) : Int)), ⟨n + 1, by omega, rfl, by simp; omega⟩, by dsimp only; omega, by dsimp only; rw [Int.toNat_natCast, if_neg hx]; simp, fun k => ?_⟩
      simp only [impl_SupportOf.l0]
      rw [if_pos (by omega), if_pos (by omega), if_pos (by omega), rd_lt l n hlt, if_neg hx, if_pos (by omega), wrap_succ (by omega)]
  · obtain rfl : n = l.length := by omega
    refine .inl fun k => ?_
    simp only [impl_SupportOf.l0]
    rw [if_neg (by omega)]
    simp [supp]
end Go.Proofs.Yteaabcjkpjhjkaa.P
