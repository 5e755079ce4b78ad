/- CandidateCount: the product of the elements plus one, cut off at 20001; -1 where an element is out of range. -/
import Derived.Test.YteaabcjkpjhjkaaPureInts
import Derived.Test.YteaabcjkpjhjkaaPfimplCandidateCount
import Derived.Test.YteaabcjkpjhjkaaPfspecCandidateCount
import Derived.Test.YteaabcjkpjhjkaaPflawsFnExactCandidateCount
namespace Go.Proofs.Yteaabcjkpjhjkaa.P
open Go.RowKit Go.Proofs.YteaabcjkpjhjkaaW.PrintWords Go.Proofs.YteaabcjkpjhjkaaW.PrintMore Go.Proofs.Yteaabcjkpjhjkaa.Lib
set_option linter.unusedVariables false
theorem inRange_eq (a b c : Int) : impl_inRange.f a b c = some (decide (b ≤ a) && decide (a ≤ c)) := by
  unfold impl_inRange.f
  by_cases h : b ≤ a <;> simp [h]
theorem l01In_eq (a b c : Int) : spec_l01In.f a b c = some (decide (b ≤ a) && decide (a ≤ c)) := by
  unfold spec_l01In.f
  by_cases h : b ≤ a <;> simp [h]
/-- An element in range. -/
def inR (x : Int) : Bool := decide (0 ≤ x) && decide (x ≤ 1000)
theorem inR_iff (x : Int) : inR x = true ↔ 0 ≤ x ∧ x ≤ 1000 := by simp [inR]
def candStep (n x : Int) : Int := min (n * (x + 1)) 20001
def cand (l : List Int) : Int := if l.all inR then l.foldl candStep 1 else -1
theorem cand_top : ∀ l : List Int, (∀ x ∈ l, 0 ≤ x) → l.foldl candStep 20001 = 20001
  | [], _ => rfl
  | x :: xs, h => by
    have hx := h x (List.mem_cons_self ..)
    have e : candStep 20001 x = 20001 := by unfold candStep; omega
    rw [List.foldl_cons, e]
    exact cand_top xs fun y hy => h y (List.mem_cons_of_mem _ hy)
theorem mul_bd {n x : Int} (h1 : 1 ≤ n) (h2 : n ≤ 20001) (h3 : 0 ≤ x) (h4 : x ≤ 1000) : 1 ≤ n * (x + 1) ∧ n * (x + 1) ≤ 20021001 := by
  have e1 : 1 * 1 ≤ n * (x + 1) := Int.mul_le_mul h1 (by omega) (by omega) (by omega)
  have e2 : n * (x + 1) ≤ 20001 * 1001 := Int.mul_le_mul h2 (by omega) (by omega) (by omega)
  omega
theorem step_bd {n x : Int} (h1 : 1 ≤ n) (h2 : n ≤ 20001) (h3 : 0 ≤ x) (h4 : x ≤ 1000) : 1 ≤ candStep n x ∧ candStep n x ≤ 20001 := by
  have := mul_bd h1 h2 h3 h4
  unfold candStep; omega
theorem mn_min (a b : Int) : mn a b = min a b := by unfold mn; split <;> omega
theorem l20Candidates_ev (l : List Int) (h : l.length ≤ 4398046511104) (hr : ∀ x ∈ l, 0 ≤ x ∧ x ≤ 1000) : Ev (fun k => spec_l20Candidates.f k l) (l.foldl candStep 1) := by
  refine ev_loop0 (fun k (s : Int × Int) => spec_l20Candidates.l0 k l s.1 s.2) (fun s => ∃ n : Nat, n ≤ l.length ∧ s.2 = n ∧ 1 ≤ s.1 ∧ s.1 ≤ 20001) (fun s => l.length - s.2.toNat) (fun s => (l.drop s.2.toNat).foldl candStep s.1) ?_ (1, 0) ⟨0, by omega, rfl, by simp, by simp⟩
  rintro ⟨a, i⟩ ⟨n, hn, rfl, h1, h2⟩
  dsimp only at h1 h2 ⊢
  by_cases hlt : n < l.length
  · right
    have hx := hr l[n] (List.getElem_mem hlt)
    have hb := mul_bd h1 h2 hx.1 hx.2
    have hs := step_bd h1 h2 hx.1 hx.2
    refine ⟨(candStep a l[n], ((n + 1 : Nat) : Int)), ⟨n + 1, by omega, rfl, hs⟩, by dsimp only; omega, ?_, fun k => ?_⟩
    · dsimp only; rw [Int.toNat_natCast, Int.toNat_natCast, List.drop_eq_getElem_cons hlt]; rfl
    · simp only [spec_l20Candidates.l0]
      rw [if_pos (by omega), if_pos (by omega), rd_lt l n hlt, wrap_succ (by omega), wrap_id (x := l[n] + 1) (by omega) (by omega), wrap_id (by omega) (by omega), mn_min]
      rfl
  · obtain rfl : n = l.length := by omega
    refine .inl fun k => ?_
    simp only [spec_l20Candidates.l0]
    rw [if_neg (by omega)]
    simp
theorem all_drop {l : List Int} {n : Nat} (h : n < l.length) : (l.drop n).all inR = (inR l[n] && (l.drop (n + 1)).all inR) := by
  rw [List.drop_eq_getElem_cons h, List.all_cons]
theorem spec_CandidateCount_ev (l : List Int) (h : l.length ≤ 4398046511104) : Ev (fun k => spec_CandidateCount.f k l) (cand l) := by
  have key : Ev (fun k => spec_CandidateCount.l0 k l 0) (if (l.drop 0).all inR then cand l else -1) := by
    refine ev_loop (fun k (s : Int) => spec_CandidateCount.l0 k l s) (fun s => ∃ n : Nat, n ≤ l.length ∧ s = n ∧ (l.all inR = (l.drop n).all inR)) (fun s => l.length - s.toNat) (fun s => if (l.drop s.toNat).all inR then cand l else -1) ?_ 0 ⟨0, by omega, rfl, by simp⟩
    rintro i ⟨n, hn, rfl, ha⟩
    by_cases hlt : n < l.length
    · rw [Int.toNat_natCast, all_drop hlt] at *
      cases hp : inR l[n] with
      | true =>
        right
        rw [hp, Bool.true_and] at ha
        refine ⟨((n + 1 : Nat) : Int), 0, ⟨n + 1, by omega, rfl, ha⟩, by omega, by simp, fun k _ => ?_⟩
        simp only [spec_CandidateCount.l0]
        rw [if_pos (by omega), if_pos (by omega), rd_lt l n hlt, l01In_eq, Option.bind_some]
        change (if inR l[n] = true then _ else _) = _
        rw [if_pos hp, wrap_succ (by omega)]
      | false =>
        left
        refine ⟨0, fun k _ => ?_⟩
        simp only [spec_CandidateCount.l0]
        rw [if_pos (by omega), if_pos (by omega), rd_lt l n hlt, l01In_eq, Option.bind_some]
        change (if inR l[n] = true then _ else _) = _
        rw [hp]
        simp
    · obtain rfl : n = l.length := by omega
      left
      have hall : l.all inR = true := by rw [ha]; simp
      obtain ⟨K, hK⟩ := l20Candidates_ev l h (fun x hx => (inR_iff x).1 (List.all_eq_true.1 hall x hx))
      refine ⟨K, fun k hk => ?_⟩
      simp only [spec_CandidateCount.l0]
      have e : spec_l20Candidates.f k l = some _ := hK k hk
      rw [if_neg (by omega), e, Option.bind_some]
      simp [cand, hall]
  have e : (if (l.drop 0).all inR then cand l else -1) = cand l := by
    rw [List.drop_zero]; unfold cand; split <;> rfl
  rw [e] at key
  exact key
theorem contains_cand (l : List Int) : slices_ContainsFunc_Sint64_at_impl_CandidateCount_1.f l = some (!(l.all inR)) := by
  unfold slices_ContainsFunc_Sint64_at_impl_CandidateCount_1.f slices_IndexFunc_Sint64_at_impl_CandidateCount_1.f
  rw [contO (p := fun x => !inR x) l (fun x _ => by show impl_CandidateCount_1.f x = _; unfold impl_CandidateCount_1.f; rw [inRange_eq]; rfl)]
  rw [List.not_all_eq_any_not]
theorem impl_CandidateCount_ev (l : List Int) (h : l.length ≤ 4398046511104) : Ev (fun k => impl_CandidateCount.f k l) (cand l) := by
  refine Ev.congr (fun k => by unfold impl_CandidateCount.f; rw [contains_cand, Option.bind_some]) ?_
  cases hall : l.all inR with
  | false =>
    refine ev_pos rfl ?_
    exact ev_some (by unfold cand; rw [hall]; rfl)
  | true =>
    refine ev_neg (by simp) ?_
    have hr : ∀ x ∈ l, 0 ≤ x ∧ x ≤ 1000 := fun x hx => (inR_iff x).1 (List.all_eq_true.1 hall x hx)
    have e : cand l = l.foldl candStep 1 := by unfold cand; rw [hall]; rfl
    rw [e]
    refine ev_loop0 (fun k (s : Int × Int) => impl_CandidateCount.l0 k s.1 l (l.length : Int) s.2) (fun s => ∃ n : Nat, n ≤ l.length ∧ s.2 = n ∧ 1 ≤ s.1 ∧ s.1 ≤ 20000) (fun s => l.length - s.2.toNat) (fun s => (l.drop s.2.toNat).foldl candStep s.1) ?_ (1, 0) ⟨0, by omega, rfl, by simp, by simp⟩
    rintro ⟨a, i⟩ ⟨n, hn, rfl, h1, h2⟩
    dsimp only at h1 h2 ⊢
    by_cases hlt : n < l.length
    · have hx := hr l[n] (List.getElem_mem hlt)
      have hb := mul_bd h1 (by omega) hx.1 hx.2
      by_cases hc : a * (l[n] + 1) > 20000
      · left
        intro k
        simp only [impl_CandidateCount.l0]
        rw [if_pos (by omega), if_pos (by omega), if_pos (by omega), rd_lt l n hlt, wrap_id (x := l[n] + 1) (by omega) (by omega), wrap_id (by omega) (by omega), if_pos hc]
        congr 1
        rw [Int.toNat_natCast, List.drop_eq_getElem_cons hlt, List.foldl_cons]
        have : candStep a l[n] = 20001 := by unfold candStep; omega
        rw [this]
        exact (cand_top _ fun x hx => (hr x (List.mem_of_mem_drop hx)).1).symm
      · right
        have hs : candStep a l[n] = a * (l[n] + 1) := by unfold candStep; omega
        refine ⟨(candStep a l[n], ((n + 1 : Nat) : Int)), ⟨n + 1, by omega, rfl, by dsimp only; omega, by dsimp only; omega⟩, by dsimp only; omega, ?_, fun k => ?_⟩
        · dsimp only; rw [Int.toNat_natCast, Int.toNat_natCast, List.drop_eq_getElem_cons hlt]; rfl
        · simp only [impl_CandidateCount.l0]
          rw [if_pos (by omega), if_pos (by omega), if_pos (by omega), rd_lt l n hlt, wrap_id (x := l[n] + 1) (by omega) (by omega), wrap_id (by omega) (by omega), if_neg hc, wrap_succ (by omega), hs]
    · obtain rfl : n = l.length := by omega
      refine .inl fun k => ?_
      simp only [impl_CandidateCount.l0]
      rw [if_neg (by omega)]
      simp
end Go.Proofs.Yteaabcjkpjhjkaa.P
