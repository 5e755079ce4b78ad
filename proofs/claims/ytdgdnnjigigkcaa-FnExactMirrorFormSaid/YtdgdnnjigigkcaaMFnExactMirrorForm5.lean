/- The statement FnExactMirrorFormSaid, proved: part 5 of 6 (texts of this session and of the kit's print, put together and cut to what is used by a program of it). -/
import Derived.Test.YtdgdnnjigigkcaaMFnExactMirrorForm4
import Derived.Deep.Slices
import Derived.ChangeSame
import Derived.ChangeArms
import Derived.WideShapes
import Derived.Lib.SmallJoins
import Derived.ChangeShapes
namespace Go.Proofs.Ytdgdnnjigigkcaa.P
open Go.RowKit Go.Proofs.YtdgdnnjigigkcaaW.PrintWords Go.Proofs.YtdgdnnjigigkcaaW.PrintLast Go.Proofs.YtdgdnnjigigkcaaW.PrintMore
attribute [local go_sem] max2_int min2_int max_two min_two max_three min_three max_four min_four   -- for this text's walks alone
set_option linter.unusedVariables false
set_option linter.unusedSimpArgs false
/-! l07Relabel: the reference's triangulation with other numbers. -/
/-- So many rounds serve for all permutations. -/
def permsOk (k : Nat) : Bool := decide (∀ m : Fin 24, spec_l06Back.f k (m.val : Int) = some (invP (m.val : Int))) && (decide (∀ m n : Fin 24, spec_l06Then.f k (m.val : Int) (n.val : Int) = some (compP (m.val : Int) (n.val : Int))) && decide (∀ (m : Fin 24) (f : Fin 4), spec_l06At.f k (m.val : Int) (f.val : Int) = some (rd (permL (m.val : Int)) (f.val : Int))))
theorem fin_of' {p : Int} (h0 : 0 ≤ p) (h1 : p ≤ 23) : ∃ m : Fin 24, p = (m.val : Int) := ⟨⟨p.toNat, by omega⟩, by simp; omega⟩
theorem permsOk_h {k : Nat} (h : permsOk k = true) : (∀ m : Fin 24, spec_l06Back.f k (m.val : Int) = some (invP (m.val : Int))) ∧ (∀ m n : Fin 24, spec_l06Then.f k (m.val : Int) (n.val : Int) = some (compP (m.val : Int) (n.val : Int))) ∧ (∀ (m : Fin 24) (f : Fin 4), spec_l06At.f k (m.val : Int) (f.val : Int) = some (rd (permL (m.val : Int)) (f.val : Int))) := by
 unfold permsOk at h
 rw [Bool.and_eq_true, Bool.and_eq_true, decide_eq_true_eq, decide_eq_true_eq, decide_eq_true_eq] at h
 exact h
theorem permsOk_mono {k : Nat} (h : permsOk k = true) : permsOk (k + 1) = true := by
 obtain ⟨a, b, c⟩ := permsOk_h h
 unfold permsOk
 rw [Bool.and_eq_true, Bool.and_eq_true, decide_eq_true_eq, decide_eq_true_eq, decide_eq_true_eq]
 exact ⟨fun m => spec_l06Back.mono _ k _ (a m), fun m n => spec_l06Then.mono _ _ k _ (b m n), fun m f => spec_l06At.mono _ _ k _ (c m f)⟩
theorem permsOk_back {k : Nat} (h : permsOk k = true) {p : Int} (h0 : 0 ≤ p) (h1 : p ≤ 23) : spec_l06Back.f k p = some (invP p) := by
 obtain ⟨m, rfl⟩ := fin_of' h0 h1; exact (permsOk_h h).1 m
theorem permsOk_then {k : Nat} (h : permsOk k = true) {p q : Int} (h0 : 0 ≤ p) (h1 : p ≤ 23) (h2 : 0 ≤ q) (h3 : q ≤ 23) : spec_l06Then.f k p q = some (compP p q) := by
 obtain ⟨m, rfl⟩ := fin_of' h0 h1; obtain ⟨n, rfl⟩ := fin_of' h2 h3; exact (permsOk_h h).2.1 m n
theorem permsOk_at {k : Nat} (h : permsOk k = true) {p f : Int} (h0 : 0 ≤ p) (h1 : p ≤ 23) (h2 : 0 ≤ f) (h3 : f < 4) : spec_l06At.f k p f = some (rd (permL p) f) := by
 obtain ⟨m, rfl⟩ := fin_of' h0 h1
 obtain ⟨n, rfl⟩ : ∃ m : Fin 4, f = (m.val : Int) := ⟨⟨f.toNat, by omega⟩, by simp; omega⟩
 exact (permsOk_h h).2.2 m n
def spec_l07Relabel.f (k : Nat) (t : List (List SFace)) (ts ps : List Int) : Option (List (List SFace)) := (spec_l07Own.f k t).bind fun u => if okRel t ts ps = true then (if permsOk k = true then (if u.length = t.length then some (relN t ts ps t.length u) else none) else none) else none
set_option maxHeartbeats 8000000 in
set_option maxRecDepth 100000 in
theorem spec_l07Relabel.calls (k : Nat) (A0_0 : Option Addr) (c0_0 : Nat) (l0_0 : List (List SFace)) (A1 : Option Addr) (c1 : Nat) (l1 : List Int) (A2 : Option Addr) (c2 : Nat) (l2 : List Int) (r : List (List SFace)) (w : World) (hr0_0 : Kd.C (Kd.slice 74 kFace) w A0_0 l0_0.length l0_0) (hc0_0 : l0_0.length ≤ c0_0) (hr1 : Kd.C (Kd.int .i64) w A1 l1.length l1) (hc1 : l1.length ≤ c1) (hr2 : Kd.C (Kd.int .i64) w A2 l2.length l2) (hc2 : l2.length ≤ c2) (h : spec_l07Relabel.f k l0_0 l1 l2 = some r) :
 Calls Try.prog 85 #[.agg #[.slice A0_0 l0_0.length c0_0], .slice A1 l1.length c1, .slice A2 l2.length c2] w fun e w' => ∃ v0_ : Value, e = .returned (.agg #[v0_]) ∧ Kd.S (Kd.slice 74 kFace) 75 w' w.heap.size (fun _ => True) v0_ r ∧ Below w.heap.size w w' := by
 unfold spec_l07Relabel.f at h
 obtain ⟨u0, how, h⟩ := ydy.mp h
 by_cases hok : okRel l0_0 l1 l2 = true
 case neg => rw [if_neg hok] at h; cases h
 rw [if_pos hok] at h
 by_cases hpk : permsOk k = true
 case neg => rw [if_neg hpk] at h; cases h
 rw [if_pos hpk] at h
 by_cases hul : u0.length = l0_0.length
 case neg => rw [if_neg hul] at h; cases h
 rw [if_pos hul] at h
 have hr := yey h
 clear h
 obtain ⟨hbig, h4, hf, ht, hts, hp, hps⟩ := okRel_h hok
 clear hok
 have HR := Aside0.mk hr0_0
 have HC := Aside0.mk hc0_0
 have HT := Aside0.mk hr1
 have HP := Aside0.mk hr2
 have H4 := Aside0.mk h4
 have HF := Aside0.mk hf
 have HTS := Aside0.mk hts
 have HPS := Aside0.mk hps
 have HRR := Aside0.mk hr
 have L1 := Aside0.mk ht
 have L2 := Aside0.mk hp
 have HOW := Aside0.mk how
 have HPK := Aside0.mk hpk
 have HU := Aside0.mk hul
 clear hr0_0 hr1 hr2 h4 hf hts hps hr hc0_0 hc1 hc2 ht hp how hpk hul
 have B3 := Aside0.mk (blk_alloc (new_at4 (W := w) rfl (.cells #[.slice A0_0 l0_0.length c0_0] 28)) (.cells #[.slice none 0 0] 28))
 have B6 := Aside0.mk (new_at4 (W := w.alloc (.cells #[.slice A0_0 l0_0.length c0_0] 28)) (n := w.heap.size + 1) (by simp) (.cells #[.slice none 0 0] 28))
 have HB := Aside0.mk (below_alloc (below_alloc (Below.refl w.heap.size w) (.cells #[.slice A0_0 l0_0.length c0_0] 28)) (.cells #[.slice none 0 0] 28))
 go_enter Try.func85, Try.ntmps85
 go_wp2_with fail
 generalize World.alloc (World.alloc w _) _ = w0 at B3 B6 HB ⊢
 refine (spec_l07Own.calls k A0_0 c0_0 l0_0 u0 w0 (Kd.C_below HR.out HB.out) HC.out HOW.out).mono ?_
 rintro e w3 ⟨v1, rfl, ho, hb⟩
 have HO := Aside0.mk (Kd.S_lower ho (below_size HB.out))
 have B32 := Aside0.mk (blk_below B3.out hb)
 have B62 := Aside0.mk (blk_below B6.out hb)
 have HB2 := Aside0.mk (below_step HB.out hb)
 clear ho hb B3 B6 HB HOW
 have B3 := B32
 have B6 := B62
 have HB := HB2
 clear B32 B62 HB2
 obtain ⟨A7, c7, ev⟩ := Kd.S_slice HO.out
 rw [HU.out] at ev
 subst ev
 have B7 := Aside0.mk (new_at4 (W := w3) rfl (.cells #[.slice A7 l0_0.length c7] 28))
 have HO2 := Aside0.mk (Kd.S_alloc HO.out (.cells #[.slice A7 l0_0.length c7] 28))
 have B32 := Aside0.mk (blk_alloc B3.out (.cells #[.slice A7 l0_0.length c7] 28))
 have B62 := Aside0.mk (blk_alloc B6.out (.cells #[.slice A7 l0_0.length c7] 28))
 have HB2 := Aside0.mk (below_alloc HB.out (.cells #[.slice A7 l0_0.length c7] 28))
 have G7 := Aside0.mk (show w.heap.size + 1 < w3.heap.size from blk_lt B6.out)
 clear HO B3 B6 HB
 have HO := HO2
 have B3 := B32
 have B6 := B62
 have HB := HB2
 clear HO2 B32 B62 HB2
 go_wp2
 generalize hg7 : w3.heap.size = g7 at *
 have GG := G7.out
 go_loopg [8] l0_0.length (fun gg v8 w' => ∃ i : Nat, i ≤ l0_0.length ∧ l0_0.length - i ≤ gg ∧ v8 = .int .i64 i ∧ Aside0 (Kd.S (Kd.slice 74 kFace) 75 w' w.heap.size (fun _ => True) (.slice A7 l0_0.length c7) (relN l0_0 l1 l2 i u0)) ∧ Aside0 (w'.heap[w.heap.size]? = some (.cells #[.slice A0_0 l0_0.length c0_0] 28 (0, 0))) ∧ Aside0 (w'.heap[w.heap.size + 1]? = some (.cells #[.slice none 0 0] 28 (0, 0))) ∧ Aside0 (w'.heap[g7]? = some (.cells #[.slice A7 l0_0.length c7] 28 (0, 0))) ∧ Aside0 (Below w.heap.size w w'))
 case atStart => exact ⟨0, Nat.zero_le _, by omega, rfl, HO, B3, B6, B7, HB⟩
 case round =>
  clear HO B3 B6 B7 HB hg7
  obtain ⟨i, hi, hg, rfl, HO, B3, B6, B7, HB⟩ := hrel
  have hx3 : wr.cell? ⟨w.heap.size, 0, none⟩ = some (.slice A0_0 l0_0.length c0_0) := (blk_cell B3.out 0).trans rfl
  by_cases hlt : i < l0_0.length
  rotate_left
  next =>
   obtain rfl : i = l0_0.length := by omega
   have hcz7 : wr.cell? ⟨g7, 0, none⟩ = some (.slice A7 l0_0.length c7) := (blk_cell B7.out 0).trans rfl
   have hcz6 : wr.cell? ⟨w.heap.size + 1, 0, none⟩ = some (.slice none 0 0) := (blk_cell B6.out 0).trans rfl
   have hfz6 := blk_frozen B6.out 0
   go_wp2
   refine bodyPost_ret (results_cell_row rfl _ _ (w.heap.size + 1) 28 #[.slice A7 l0_0.length c7] (0, 0) _ rfl (blk_put (cs := #[.slice none 0 0]) B6.out 0 _ rfl) Try.underlying28 rfl (by kernel_rfl)) rfl ?_
   refine ⟨_, rfl, ?_, below_set HB.out (by omega)⟩
   rw [← HRR.out]
   exact Kd.S_set HO.out B6.out (by decide) 0 _
  have hltz : (i : Int) < (l0_0.length : Int) := by omega
  have hl1z : (i : Int) < (l1.length : Int) := by have := L1.out; omega
  have hl2z : (i : Int) < (l2.length : Int) := by have := L2.out; omega
  obtain ⟨ay, A3, c3, e4, hy, hl3, hi3⟩ := at_LFace HR.out (i : Int) (by omega) hltz
  subst e4
  rw [Int.toNat_natCast] at hy
  have ex : rd_LFace l0_0 (i : Int) = l0_0[i] := by simp [rd_LFace, hlt]
  have h4 := H4.out l0_0[i] (List.getElem_mem hlt)
  have HFR := Aside0.mk (HF.out l0_0[i] (List.getElem_mem hlt))
  have HPB := Aside0.mk (rd_memR HPS.out (i := (i : Int)) (by omega) hl2z)
  have HTB := Aside0.mk (rd_memR HTS.out (i := (i : Int)) (by omega) hl1z)
  rw [← ex] at h4 HFR
  obtain ⟨aps, eps, hps0⟩ := Kd.at_int HP.out (i : Int) (by omega) hl2z
  obtain ⟨ats, ets, hts0⟩ := Kd.at_int HT.out (i : Int) (by omega) hl1z
  subst eps
  subst ets
  rw [Int.toNat_natCast] at hps0 hts0
  have HY := Aside0.mk hi3
  rw [h4] at hy
  clear hl3 hi3 ex
  have HYC := Aside0.mk hy
  have HPS0 := Aside0.mk hps0
  have HTS0 := Aside0.mk hts0
  have H4R := Aside0.mk h4
  clear hps0 hts0 h4 hy
  have HRK := Aside0.mk (show relN l0_0 l1 l2 (i + 1) u0 = (relN l0_0 l1 l2 i u0).set (rd l1 (i : Int)).toNat (relK l0_0 l1 l2 (i : Int) 4) from rfl)
  generalize rd l1 (i : Int) = tsi at *
  generalize hpsi : rd l2 (i : Int) = ps at *
  have HPSI := Aside0.mk hpsi
  clear hpsi
  go_wp2_with fail
  refine (spec_l07Free.calls (List.replicate 4 (⟨-1, 0⟩ : SFace)) _ rfl).mono ?_
  rintro e w7 ⟨v10, rfl, ho10, hb⟩
  have HM := Aside0.mk (Kd.R_lower ho10 (below_size HB.out))
  have HO2 := Aside0.mk (Kd.S_mono (ok' := fun k => some k ≠ v10.ownBlock) (Kd.S_elder' HO.out (Kd.R_base ho10) hb) (fun k hk => hk.2))
  have B32 := Aside0.mk (blk_below B3.out hb)
  have B62 := Aside0.mk (blk_below B6.out hb)
  have B72 := Aside0.mk (blk_below B7.out hb)
  have HB2 := Aside0.mk (below_step HB.out hb)
  clear HO B3 B6 B7 HB
  have HO := HO2
  have B3 := B32
  have B6 := B62
  have B7 := B72
  have HB := HB2
  clear HO2 B32 B62 B72 HB2
  clear hb ho10 hx3
  obtain ⟨gm, cm, ev, hgm, hgl, cells, hcl⟩ := Kd.R_form HM.out (by decide)
  replace ev : v10 = .slice (some ⟨gm, 0, none⟩) 4 cm := ev
  subst ev
  have GM := Aside0.mk hgm
  clear hgm hgl hcl cells
  go_wp2
  go_loopg [10] 4 (fun gg v10 w' => ∃ f : Nat, f ≤ 4 ∧ 4 - f ≤ gg ∧ v10 = .int .i64 f ∧ Aside0 (Kd.R kFace 74 w' w.heap.size (fun _ => True) (.slice (some ⟨gm, 0, none⟩) 4 cm) (relK l0_0 l1 l2 (i : Int) f)) ∧ Aside0 (Kd.S (Kd.slice 74 kFace) 75 w' w.heap.size (fun k => some k ≠ (Value.slice (some ⟨gm, 0, none⟩) 4 cm).ownBlock) (.slice A7 l0_0.length c7) (relN l0_0 l1 l2 i u0)) ∧ Aside0 (w'.heap[w.heap.size]? = some (.cells #[.slice (some ay) l0_0.length c0_0] 28 (0, 0))) ∧ Aside0 (w'.heap[w.heap.size + 1]? = some (.cells #[.slice none 0 0] 28 (0, 0))) ∧ Aside0 (w'.heap[g7]? = some (.cells #[.slice A7 l0_0.length c7] 28 (0, 0))) ∧ Aside0 (Below w.heap.size w w'))
  case atStart => exact ⟨0, by omega, by omega, rfl, HM, HO, B3, B6, B7, HB⟩
  case round =>
   clear HM HO B3 B6 B7 HB
   obtain ⟨f, hf4, hgf, rfl, HM, HO, B3, B6, B7, HB⟩ := hrel
   by_cases hlf : f < 4
   rotate_left
   next =>
    obtain rfl : f = 4 := by omega
    obtain ⟨go, co, ev, hgo, hgl, cells, hcl⟩ := Kd.S_form HO.out (by rw [relN_length, HU.out]; omega)
    injection ev with e1 e2 e3
    subst e1
    subst e3
    clear e2 hgl hcl cells
    have GO := Aside0.mk hgo
    clear hgo
    have ht0 := (HB.out.cell (yny w _ HTS0.out)).trans HTS0.out
    have t0 := eq_true HTB.out.1
    have t1 := eq_true HTB.out.2
    have t2 := eq_true (show 0 ≤ (i : Int) by omega)
    have t3 := eq_true hl1z
    go_wp2
    refine start_ (n := 9) (S := fun w' => w'.cell? ⟨g7, 0, none⟩ = some (.slice (some ⟨go, 0, none⟩) l0_0.length c7) ∧ w'.cell? (ats.add i) = some (.int .i64 tsi)) (ds := [8]) #[false, false, false, false, false, false, false, false, false] (by kernel_rfl) rfl rfl ⟨(blk_cell B7.out 0).trans rfl, ht0⟩ (fun hHeld => ?_)
    have HO2 := Aside0.mk (Kd.S_drew HO.out)
    have HM2 := Aside0.mk (Kd.R_drew HM.out)
    have B32 := Aside0.mk (blk_drew B3.out)
    have B62 := Aside0.mk (blk_drew B6.out)
    have B72 := Aside0.mk (blk_drew B7.out)
    have HB2 := Aside0.mk (below_drew1 HB.out)
    clear HO HM B3 B6 B7 HB
    have HO := HO2
    have HM := HM2
    have B3 := B32
    have B6 := B62
    have B7 := B72
    have HB := HB2
    clear HO2 HM2 B32 B62 B72 HB2
    generalize wr.drew = w16 at HO HM B3 B6 B7 HB hHeld ⊢
    refine pure_ (i := 0) (N := some 67) (v := ?_) (a' := ?_) #[true, false, false, false, false, false, false, false, false] rfl rfl (by kernel_rfl) (fun _ _ _ h => h) (Or.inl ⟨by rfl, ?_⟩) ?_ ?_
    rotate_left
    next =>
     intro w'
     go_simp
     with_reducible rfl
    rotate_left
    next =>
     simp only [Act.put, yay, yby, ycy, i64_w, i32_w]
     rfl
    refine take_ (i := 1) (N := some 68) (v := ?_) (a' := ?_) #[true, true, false, false, false, false, false, false, false] rfl rfl (by kernel_rfl) (fun _ _ _ h => h) (Or.inl ⟨by rfl, ?_⟩) hHeld ?_ ?_
    rotate_left
    next =>
     rintro w' ⟨s0, s1⟩
     go_simp
     with_reducible rfl
    rotate_left
    next =>
     simp only [Act.put, yay, yby, ycy, i64_w, i32_w]
     rfl
    refine pure_ (i := 2) (N := some 69) (v := ?_) (a' := ?_) #[true, true, true, false, false, false, false, false, false] rfl rfl (by kernel_rfl) (fun _ _ _ h => h) (Or.inl ⟨by rfl, ?_⟩) ?_ ?_
    rotate_left
    next =>
     intro w'
     go_simp
     with_reducible rfl
    rotate_left
    next =>
     simp only [Act.put, yay, yby, ycy, i64_w, i32_w]
     rfl
    refine pure_ (i := 3) (N := some 70) (v := ?_) (a' := ?_) #[true, true, true, true, false, false, false, false, false] rfl rfl (by kernel_rfl) (fun _ _ _ h => h) (Or.inl ⟨by rfl, ?_⟩) ?_ ?_
    rotate_left
    next =>
     intro w'
     go_simp
     with_reducible rfl
    rotate_left
    next =>
     simp only [Act.put, yay, yby, ycy, i64_w, i32_w]
     rfl
    refine pure_ (i := 4) (N := some 71) (v := ?_) (a' := ?_) #[true, true, true, true, true, false, false, false, false] rfl rfl (by kernel_rfl) (fun _ _ _ h => h) (Or.inl ⟨by rfl, ?_⟩) ?_ ?_
    rotate_left
    next =>
     intro w'
     go_simp
     with_reducible rfl
    rotate_left
    next =>
     simp only [Act.put, yay, yby, ycy, i64_w, i32_w]
     rfl
    refine take_ (i := 5) (N := some 72) (v := ?_) (a' := ?_) #[true, true, true, true, true, true, false, false, false] rfl rfl (by kernel_rfl) (fun _ _ _ h => h) (Or.inl ⟨by rfl, ?_⟩) hHeld ?_ ?_
    rotate_left
    next =>
     rintro w' ⟨s0, s1⟩
     go_simp
     with_reducible rfl
    rotate_left
    next =>
     simp only [Act.put, yay, yby, ycy, i64_w, i32_w]
     rfl
    refine pure_ (i := 6) (N := some 73) (v := ?_) (a' := ?_) #[true, true, true, true, true, true, true, false, false] rfl rfl (by kernel_rfl) (fun _ _ _ h => h) (Or.inl ⟨by rfl, ?_⟩) ?_ ?_
    rotate_left
    next =>
     intro w'
     go_simp
     with_reducible rfl
    rotate_left
    next =>
     simp only [Act.put, yay, yby, ycy, i64_w, i32_w]
     rfl
    refine pure_ (i := 7) (N := some 74) (v := ?_) (a' := ?_) #[true, true, true, true, true, true, true, true, false] rfl rfl (by kernel_rfl) (fun _ _ _ h => h) (Or.inl ⟨by rfl, ?_⟩) ?_ ?_
    rotate_left
    next =>
     intro w'
     go_simp
     with_reducible rfl
    rotate_left
    next =>
     simp only [Act.put, yay, yby, ycy, i64_w, i32_w]
     rfl
    obtain ⟨⟨old, hx0⟩, hz0, hSS, hgr⟩ := row_put HO.out HM.out tsi HTB.out.1 HTB.out.2
    refine last_ (i := 8) (N := none) #[true, true, true, true, true, true, true, true, true] rfl rfl (by kernel_rfl) (by decide) (fun K hK => ?_)
    refine skip_ (w1 := ?_) (by rfl) rfl ?_ ?_
    rotate_left
    next =>
     go_simp
     rfl
    refine hK.out _ _ ?_
    clear hK K
    refine done_ (by kernel_rfl) ?_
    have HO2 := Aside0.mk hSS
    have B32 := Aside0.mk (blk_grown B3.out hgr (Kd.S_ne HO.out B3.out (by decide)))
    have B62 := Aside0.mk (blk_grown B6.out hgr (Kd.S_ne HO.out B6.out (by decide)))
    have B72 := Aside0.mk (blk_grown B7.out hgr (Kd.S_ne HO.out B7.out (by decide)))
    have HB2 := Aside0.mk (below_set (j := tsi.toNat) (v := .slice (some ⟨gm, 0, none⟩) 4 cm) HB.out GO.out)
    clear hSS hgr hx0 hz0 HM
    clear HO B3 B6 B7 HB
    have HO := HO2
    have B3 := B32
    have B6 := B62
    have B7 := B72
    have HB := HB2
    clear HO2 B32 B62 B72 HB2
    generalize w16.setCell ⟨go, tsi.toNat, none⟩ (.slice (some ⟨gm, 0, none⟩) 4 cm) = w17 at HO B3 B6 B7 HB ⊢
    go_wp2
    go_roundg (l0_0.length - (i + 1))
    case measure => omega
    case rel => exact ⟨i + 1, by omega, yoy _, by go_num, ⟨by rw [HRK.out]; exact HO.out⟩, B3, B6, B7, HB⟩
   have hlfz : (f : Int) < 4 := by omega
   have hlr : (f : Int) < ((rd_LFace l0_0 (i : Int)).length : Int) := by have := H4R.out; omega
   obtain ⟨ad2, e2, hy2, hy3⟩ := at_Face HY.out (f : Int) (by omega) hlr
   subst e2
   have hx3 : wr.cell? ⟨w.heap.size, 0, none⟩ = some (.slice (some ay) l0_0.length c0_0) := (blk_cell B3.out 0).trans rfl
   have hy := (HB.out.cell (yny w _ HYC.out)).trans HYC.out
   replace hy2 := (HB.out.cell (yny w _ hy2)).trans hy2
   replace hy3 := (HB.out.cell (yny w _ hy3)).trans hy3
   rw [Int.toNat_natCast] at hy2 hy3
   have HK := Aside0.mk (show relK l0_0 l1 l2 (i : Int) (f + 1) = if (rd_Face (rd_LFace l0_0 (i : Int)) (f : Int)).f0 < 0 then relK l0_0 l1 l2 (i : Int) f else (relK l0_0 l1 l2 (i : Int) f).set (rd (permL ps) (f : Int)).toNat ⟨rd l1 (rd_Face (rd_LFace l0_0 (i : Int)) (f : Int)).f0, compP (compP (invP ps) (rd_Face (rd_LFace l0_0 (i : Int)) (f : Int)).f1) (rd l2 (rd_Face (rd_LFace l0_0 (i : Int)) (f : Int)).f0)⟩ from by rw [← HPSI.out]; rfl)
   have hlt2 : f < (rd_LFace l0_0 (i : Int)).length := by omega
   have exf : rd_Face (rd_LFace l0_0 (i : Int)) (f : Int) = (rd_LFace l0_0 (i : Int))[f] := by simp [rd_Face, hlt2]
   have HFB := Aside0.mk (HFR.out (rd_Face (rd_LFace l0_0 (i : Int)) (f : Int)) (by rw [exf]; exact List.getElem_mem hlt2))
   clear exf hlt2
   generalize rd_Face (rd_LFace l0_0 (i : Int)) (f : Int) = y at hy2 hy3 HK HFB
   obtain ⟨f0, f1⟩ := y
   clear hlr
   have BF := Aside0.mk (new_at4 (W := wr) rfl (.cells #[.int .i64 f0, .int .i64 f1] 74))
   have G8 := Aside0.mk (show w.heap.size ≤ wr.heap.size from below_size HB.out)
   have HO2 := Aside0.mk (Kd.S_alloc HO.out (.cells #[.int .i64 f0, .int .i64 f1] 74))
   have HM2 := Aside0.mk (Kd.R_alloc HM.out (.cells #[.int .i64 f0, .int .i64 f1] 74))
   have B32 := Aside0.mk (blk_alloc B3.out (.cells #[.int .i64 f0, .int .i64 f1] 74))
   have B62 := Aside0.mk (blk_alloc B6.out (.cells #[.int .i64 f0, .int .i64 f1] 74))
   have B72 := Aside0.mk (blk_alloc B7.out (.cells #[.int .i64 f0, .int .i64 f1] 74))
   have HB2 := Aside0.mk (below_alloc HB.out (.cells #[.int .i64 f0, .int .i64 f1] 74))
   clear HO HM B3 B6 B7 HB
   have HO := HO2
   have HM := HM2
   have B3 := B32
   have B6 := B62
   have B7 := B72
   have HB := HB2
   clear HO2 HM2 B32 B62 B72 HB2
   by_cases hb : f0 < 0
   next =>
    have HK2 := Aside0.mk (HK.out.trans (if_pos hb))
    have d0 : decide (0 ≤ f0) = false := yhy (by omega)
    clear HK HFB
    go_wp2
    go_roundg (4 - (f + 1))
    case measure => omega
    case rel => exact ⟨f + 1, by omega, by omega, by go_num, ⟨by rw [HK2.out]; exact HM.out⟩, HO, B3, B6, B7, HB⟩
   next =>
    have HK2 := Aside0.mk (HK.out.trans (if_neg hb))
    have d0 : decide (0 ≤ f0) = true := ygy (by omega)
    have HFB9 := Aside0.mk (show 0 ≤ f0 ∧ f0 < (l0_0.length : Int) ∧ 0 ≤ f1 ∧ f1 ≤ 23 from HFB.out (by first | exact hb | (show (0 : Int) ≤ f0; omega)))
    clear HK HFB
    have HFB := HFB9
    clear HFB9
    go_wp2
    have g0 := HFB.out.1
    have g1 : f0 < (l1.length : Int) := by have := HFB.out.2.1; have := L1.out; omega
    have g2 : f0 < (l2.length : Int) := by have := HFB.out.2.1; have := L2.out; omega
    obtain ⟨apx, epx, hp1⟩ := Kd.at_int HP.out f0 g0 g2
    obtain rfl : aps = apx := by injection epx
    obtain ⟨atx, etx, ht1⟩ := Kd.at_int HT.out f0 g0 g1
    obtain rfl : ats = atx := by injection etx
    have HPB2 := Aside0.mk (invP_bd' HPB.out.1 HPB.out.2)
    have HPB3 := Aside0.mk (compP_bd HPB2.out.1 HPB2.out.2 HFB.out.2.2.1 HFB.out.2.2.2)
    have HPT := Aside0.mk (rd_memR HPS.out g0 g2)
    clear epx etx hy hy2 hy3 hx3 hb d0
    generalize hw9 : wr.alloc (.cells #[.int .i64 f0, .int .i64 f1] 74) = w9 at HO HM B3 B6 B7 BF HB ⊢
    generalize wr.heap.size = gf at BF ⊢
    clear hw9
    generalize rd l1 f0 = tt at *
    generalize rd l2 f0 = pt at *
    replace hp1 := (HB.out.cell (yny w _ hp1)).trans hp1
    replace ht1 := (HB.out.cell (yny w _ ht1)).trans ht1
    have hp0 := (HB.out.cell (yny w _ HPS0.out)).trans HPS0.out
    have p0 := eq_true g0
    have p1 := eq_true g1
    have p2 := eq_true g2
    refine start_ (n := 15) (S := fun w' => w'.cell? (aps.add i) = some (.int .i64 ps) ∧ w'.cell? ⟨gf, 0, none⟩ = some (.int .i64 f0) ∧ w'.cell? ⟨gf, 1, none⟩ = some (.int .i64 f1) ∧ w'.cell? (aps.add f0.toNat) = some (.int .i64 pt)) (ds := []) #[false, false, false, false, false, false, false, false, false, false, false, false, false, false, false] (by kernel_rfl) rfl rfl ⟨hp0, (blk_cell BF.out 0).trans rfl, (blk_cell BF.out 1).trans rfl, hp1⟩ (fun hHeld => ?_)
    have HO2 := Aside0.mk (Kd.S_drew HO.out)
    have HM2 := Aside0.mk (Kd.R_drew HM.out)
    have B32 := Aside0.mk (blk_drew B3.out)
    have B62 := Aside0.mk (blk_drew B6.out)
    have B72 := Aside0.mk (blk_drew B7.out)
    have BF2 := Aside0.mk (blk_drew BF.out)
    have HB2 := Aside0.mk (below_drew1 HB.out)
    clear HO HM B3 B6 B7 BF HB
    have HO := HO2
    have HM := HM2
    have B3 := B32
    have B6 := B62
    have B7 := B72
    have BF := BF2
    have HB := HB2
    clear HO2 HM2 B32 B62 B72 BF2 HB2
    replace hp0 : w9.drew.cell? (aps.add i) = some (.int .i64 ps) := hp0
    replace hp1 : w9.drew.cell? (aps.add f0.toNat) = some (.int .i64 pt) := hp1
    replace ht1 : w9.drew.cell? (ats.add f0.toNat) = some (.int .i64 tt) := ht1
    generalize w9.drew = w10 at HO HM B3 B6 B7 BF HB hp0 hp1 ht1 hHeld ⊢
    refine pure_ (i := 0) (N := some 38) (v := ?_) (a' := ?_) #[true, false, false, false, false, false, false, false, false, false, false, false, false, false, false] rfl rfl (by kernel_rfl) (fun _ _ _ h => h) (Or.inl ⟨by rfl, ?_⟩) ?_ ?_
    rotate_left
    next =>
     intro w'
     go_simp
     with_reducible rfl
    rotate_left
    next =>
     simp only [Act.put, yay, yby, ycy, i64_w, i32_w]
     rfl
    refine pure_ (i := 1) (N := some 39) (v := ?_) (a' := ?_) #[true, true, false, false, false, false, false, false, false, false, false, false, false, false, false] rfl rfl (by kernel_rfl) (fun _ _ _ h => h) (Or.inl ⟨by rfl, ?_⟩) ?_ ?_
    rotate_left
    next =>
     intro w'
     go_simp
     with_reducible rfl
    rotate_left
    next =>
     simp only [Act.put, yay, yby, ycy, i64_w, i32_w]
     rfl
    refine pure_ (i := 2) (N := some 40) (v := ?_) (a' := ?_) #[true, true, true, false, false, false, false, false, false, false, false, false, false, false, false] rfl rfl (by kernel_rfl) (fun _ _ _ h => h) (Or.inl ⟨by rfl, ?_⟩) ?_ ?_
    rotate_left
    next =>
     intro w'
     go_simp
     with_reducible rfl
    rotate_left
    next =>
     simp only [Act.put, yay, yby, ycy, i64_w, i32_w]
     rfl
    refine take_ (i := 3) (N := some 41) (v := ?_) (a' := ?_) #[true, true, true, true, false, false, false, false, false, false, false, false, false, false, false] rfl rfl (by kernel_rfl) (fun _ _ _ h => h) (Or.inl ⟨by rfl, ?_⟩) hHeld ?_ ?_
    rotate_left
    next =>
     rintro w' ⟨s0, s1, s2, s3⟩
     go_simp
     with_reducible rfl
    rotate_left
    next =>
     simp only [Act.put, yay, yby, ycy, i64_w, i32_w]
     rfl
    refine pure_ (i := 5) (N := some 43) (v := ?_) (a' := ?_) #[true, true, true, true, false, true, false, false, false, false, false, false, false, false, false] rfl rfl (by kernel_rfl) (fun _ _ _ h => h) (Or.inl ⟨by rfl, ?_⟩) ?_ ?_
    rotate_left
    next =>
     intro w'
     go_simp
     with_reducible rfl
    rotate_left
    next =>
     simp only [Act.put, yay, yby, ycy, i64_w, i32_w]
     rfl
    refine take_ (i := 6) (N := some 44) (v := ?_) (a' := ?_) #[true, true, true, true, false, true, true, false, false, false, false, false, false, false, false] rfl rfl (by kernel_rfl) (fun _ _ _ h => h) (Or.inl ⟨by rfl, ?_⟩) hHeld ?_ ?_
    rotate_left
    next =>
     rintro w' ⟨s0, s1, s2, s3⟩
     go_simp
     with_reducible rfl
    rotate_left
    next =>
     simp only [Act.put, yay, yby, ycy, i64_w, i32_w]
     rfl
    refine pure_ (i := 8) (N := some 46) (v := ?_) (a' := ?_) #[true, true, true, true, false, true, true, false, true, false, false, false, false, false, false] rfl rfl (by kernel_rfl) (fun _ _ _ h => h) (Or.inl ⟨by rfl, ?_⟩) ?_ ?_
    rotate_left
    next =>
     intro w'
     go_simp
     with_reducible rfl
    rotate_left
    next =>
     simp only [Act.put, yay, yby, ycy, i64_w, i32_w]
     rfl
    refine pure_ (i := 9) (N := some 47) (v := ?_) (a' := ?_) #[true, true, true, true, false, true, true, false, true, true, false, false, false, false, false] rfl rfl (by kernel_rfl) (fun _ _ _ h => h) (Or.inl ⟨by rfl, ?_⟩) ?_ ?_
    rotate_left
    next =>
     intro w'
     go_simp
     with_reducible rfl
    rotate_left
    next =>
     simp only [Act.put, yay, yby, ycy, i64_w, i32_w]
     rfl
    refine take_ (i := 10) (N := some 48) (v := ?_) (a' := ?_) #[true, true, true, true, false, true, true, false, true, true, true, false, false, false, false] rfl rfl (by kernel_rfl) (fun _ _ _ h => h) (Or.inl ⟨by rfl, ?_⟩) hHeld ?_ ?_
    rotate_left
    next =>
     rintro w' ⟨s0, s1, s2, s3⟩
     go_simp
     with_reducible rfl
    rotate_left
    next =>
     simp only [Act.put, yay, yby, ycy, i64_w, i32_w]
     rfl
    refine pure_ (i := 11) (N := some 49) (v := ?_) (a' := ?_) #[true, true, true, true, false, true, true, false, true, true, true, true, false, false, false] rfl rfl (by kernel_rfl) (fun _ _ _ h => h) (Or.inl ⟨by rfl, ?_⟩) ?_ ?_
    rotate_left
    next =>
     intro w'
     go_simp
     with_reducible rfl
    rotate_left
    next =>
     simp only [Act.put, yay, yby, ycy, i64_w, i32_w]
     rfl
    refine take_ (i := 12) (N := some 50) (v := ?_) (a' := ?_) #[true, true, true, true, false, true, true, false, true, true, true, true, true, false, false] rfl rfl (by kernel_rfl) (fun _ _ _ h => h) (Or.inl ⟨by rfl, ?_⟩) hHeld ?_ ?_
    rotate_left
    next =>
     rintro w' ⟨s0, s1, s2, s3⟩
     go_simp
     with_reducible rfl
    rotate_left
    next =>
     simp only [Act.put, yay, yby, ycy, i64_w, i32_w]
     rfl
    refine one_ (i := 4) (N := some 42) #[true, true, true, true, true, true, true, false, true, true, true, true, true, false, false] rfl rfl (by kernel_rfl) (by decide) (fun K hK => ?_)
    refine goes_ Try.func113 (by kernel_rfl) rfl #[.int .i64 ps] (by rfl) rfl rfl (by (try simp only [yiy, yjy, yky]); first | done | rfl) ?_
    refine (spec_l06Back.calls k ps (invP ps) _ (permsOk_back HPK.out HPB.out.1 HPB.out.2)).mono ?_
    rintro e w11 ⟨rfl, hb⟩
    refine ⟨_, rfl, ?_⟩
    replace hp0 := (hb.cell (yny _ _ hp0)).trans hp0
    replace hp1 := (hb.cell (yny _ _ hp1)).trans hp1
    replace ht1 := (hb.cell (yny _ _ ht1)).trans ht1
    have HO2 := Aside0.mk (Kd.S_below HO.out hb)
    have HM2 := Aside0.mk (Kd.R_below HM.out hb)
    have B32 := Aside0.mk (blk_below B3.out hb)
    have B62 := Aside0.mk (blk_below B6.out hb)
    have B72 := Aside0.mk (blk_below B7.out hb)
    have BF2 := Aside0.mk (blk_below BF.out hb)
    have HB2 := Aside0.mk (below_step HB.out hb)
    clear HO HM B3 B6 B7 BF HB
    have HO := HO2
    have HM := HM2
    have B3 := B32
    have B6 := B62
    have B7 := B72
    have BF := BF2
    have HB := HB2
    clear HO2 HM2 B32 B62 B72 BF2 HB2
    clear hb
    refine hK.out _ _ ⟨hp0, (blk_cell BF.out 0).trans rfl, (blk_cell BF.out 1).trans rfl, hp1⟩ (fun hHeld => ?_)
    clear hK K
    refine norm_ (a' := ?_) ?_ ?_
    rotate_left
    next =>
     show Act.put _ (some 42) _ = _
     simp only [Act.put, yay, yby, ycy, i64_w, i32_w]
     rfl
    refine one_ (i := 7) (N := some 45) #[true, true, true, true, true, true, true, true, true, true, true, true, true, false, false] rfl rfl (by kernel_rfl) (by decide) (fun K hK => ?_)
    refine goes_ Try.func132 (by kernel_rfl) rfl #[.int .i64 (invP ps), .int .i64 f1] (by rfl) rfl rfl (by (try simp only [yiy, yjy, yky]); first | done | rfl) ?_
    refine (spec_l06Then.calls k (invP ps) f1 (compP (invP ps) f1) _ (permsOk_then HPK.out HPB2.out.1 HPB2.out.2 HFB.out.2.2.1 HFB.out.2.2.2)).mono ?_
    rintro e w12 ⟨rfl, hb⟩
    refine ⟨_, rfl, ?_⟩
    replace hp0 := (hb.cell (yny _ _ hp0)).trans hp0
    replace hp1 := (hb.cell (yny _ _ hp1)).trans hp1
    replace ht1 := (hb.cell (yny _ _ ht1)).trans ht1
    have HO2 := Aside0.mk (Kd.S_below HO.out hb)
    have HM2 := Aside0.mk (Kd.R_below HM.out hb)
    have B32 := Aside0.mk (blk_below B3.out hb)
    have B62 := Aside0.mk (blk_below B6.out hb)
    have B72 := Aside0.mk (blk_below B7.out hb)
    have BF2 := Aside0.mk (blk_below BF.out hb)
    have HB2 := Aside0.mk (below_step HB.out hb)
    clear HO HM B3 B6 B7 BF HB
    have HO := HO2
    have HM := HM2
    have B3 := B32
    have B6 := B62
    have B7 := B72
    have BF := BF2
    have HB := HB2
    clear HO2 HM2 B32 B62 B72 BF2 HB2
    clear hb
    refine hK.out _ _ ⟨hp0, (blk_cell BF.out 0).trans rfl, (blk_cell BF.out 1).trans rfl, hp1⟩ (fun hHeld => ?_)
    clear hK K
    refine norm_ (a' := ?_) ?_ ?_
    rotate_left
    next =>
     show Act.put _ (some 45) _ = _
     simp only [Act.put, yay, yby, ycy, i64_w, i32_w]
     rfl
    refine one_ (i := 13) (N := some 51) #[true, true, true, true, true, true, true, true, true, true, true, true, true, true, false] rfl rfl (by kernel_rfl) (by decide) (fun K hK => ?_)
    refine goes_ Try.func132 (by kernel_rfl) rfl #[.int .i64 (compP (invP ps) f1), .int .i64 pt] (by rfl) rfl rfl (by (try simp only [yiy, yjy, yky]); first | done | rfl) ?_
    refine (spec_l06Then.calls k (compP (invP ps) f1) pt (compP (compP (invP ps) f1) pt) _ (permsOk_then HPK.out HPB3.out.1 HPB3.out.2 HPT.out.1 HPT.out.2)).mono ?_
    rintro e w13 ⟨rfl, hb⟩
    refine ⟨_, rfl, ?_⟩
    replace hp0 := (hb.cell (yny _ _ hp0)).trans hp0
    replace hp1 := (hb.cell (yny _ _ hp1)).trans hp1
    replace ht1 := (hb.cell (yny _ _ ht1)).trans ht1
    have HO2 := Aside0.mk (Kd.S_below HO.out hb)
    have HM2 := Aside0.mk (Kd.R_below HM.out hb)
    have B32 := Aside0.mk (blk_below B3.out hb)
    have B62 := Aside0.mk (blk_below B6.out hb)
    have B72 := Aside0.mk (blk_below B7.out hb)
    have BF2 := Aside0.mk (blk_below BF.out hb)
    have HB2 := Aside0.mk (below_step HB.out hb)
    clear HO HM B3 B6 B7 BF HB
    have HO := HO2
    have HM := HM2
    have B3 := B32
    have B6 := B62
    have B7 := B72
    have BF := BF2
    have HB := HB2
    clear HO2 HM2 B32 B62 B72 BF2 HB2
    clear hb
    refine hK.out _ _ ⟨hp0, (blk_cell BF.out 0).trans rfl, (blk_cell BF.out 1).trans rfl, hp1⟩ (fun hHeld => ?_)
    clear hK K
    refine norm_ (a' := ?_) ?_ ?_
    rotate_left
    next =>
     show Act.put _ (some 51) _ = _
     simp only [Act.put, yay, yby, ycy, i64_w, i32_w]
     rfl
    refine pure_ (i := 14) (N := some 12) (v := ?_) (a' := ?_) #[true, true, true, true, true, true, true, true, true, true, true, true, true, true, true] rfl rfl (by kernel_rfl) (fun _ _ _ h => h) (Or.inl ⟨by rfl, ?_⟩) ?_ ?_
    rotate_left
    next =>
     intro w'
     go_simp
     with_reducible rfl
    rotate_left
    next =>
     simp only [Act.put, yay, yby, ycy, i64_w, i32_w]
     rfl
    refine done_ (by kernel_rfl) ?_
    generalize hpp : compP (compP (invP ps) f1) pt = pp at *
    clear hpp hHeld hp1 HPB3 HPT
    go_wp2
    have HAT := Aside0.mk (permsOk_at HPK.out (f := (f : Int)) HPB.out.1 HPB.out.2 (by omega) hlfz)
    have HIM := Aside0.mk (show 0 ≤ rd (permL ps) (f : Int) ∧ rd (permL ps) (f : Int) ≤ 3 from by obtain ⟨a, b, c, d⟩ := permAt_sm ps HPB.out.1 HPB.out.2; exact rd_four_sm a b c d (f : Int) (by omega) (by omega))
    generalize rd (permL ps) (f : Int) = im at HAT HIM HK2
    have q0 := eq_true HIM.out.1
    have q1 := eq_true (show im < 4 by have := HIM.out.2; omega)
    refine start_ (n := 16) (S := fun w' => w'.cell? (aps.add i) = some (.int .i64 ps) ∧ w'.cell? ⟨gf, 0, none⟩ = some (.int .i64 f0) ∧ w'.cell? (ats.add f0.toNat) = some (.int .i64 tt)) (ds := [15]) #[false, false, false, false, false, false, false, false, false, false, false, false, false, false, false, false] (by kernel_rfl) rfl rfl ⟨hp0, (blk_cell BF.out 0).trans rfl, ht1⟩ (fun hHeld => ?_)
    have HO2 := Aside0.mk (Kd.S_drew HO.out)
    have HM2 := Aside0.mk (Kd.R_drew HM.out)
    have B32 := Aside0.mk (blk_drew B3.out)
    have B62 := Aside0.mk (blk_drew B6.out)
    have B72 := Aside0.mk (blk_drew B7.out)
    have BF2 := Aside0.mk (blk_drew BF.out)
    have HB2 := Aside0.mk (below_drew1 HB.out)
    clear HO HM B3 B6 B7 BF HB
    have HO := HO2
    have HM := HM2
    have B3 := B32
    have B6 := B62
    have B7 := B72
    have BF := BF2
    have HB := HB2
    clear HO2 HM2 B32 B62 B72 BF2 HB2
    replace hp0 : w13.drew.cell? (aps.add i) = some (.int .i64 ps) := hp0
    replace ht1 : w13.drew.cell? (ats.add f0.toNat) = some (.int .i64 tt) := ht1
    generalize w13.drew = w19 at HO HM B3 B6 B7 BF HB hp0 ht1 hHeld ⊢
    refine pure_ (i := 0) (N := some 52) (v := ?_) (a' := ?_) #[true, false, false, false, false, false, false, false, false, false, false, false, false, false, false, false] rfl rfl (by kernel_rfl) (fun _ _ _ h => h) (Or.inl ⟨by rfl, ?_⟩) ?_ ?_
    rotate_left
    next =>
     intro w'
     go_simp
     with_reducible rfl
    rotate_left
    next =>
     simp only [Act.put, yay, yby, ycy, i64_w, i32_w]
     rfl
    refine pure_ (i := 1) (N := some 53) (v := ?_) (a' := ?_) #[true, true, false, false, false, false, false, false, false, false, false, false, false, false, false, false] rfl rfl (by kernel_rfl) (fun _ _ _ h => h) (Or.inl ⟨by rfl, ?_⟩) ?_ ?_
    rotate_left
    next =>
     intro w'
     go_simp
     with_reducible rfl
    rotate_left
    next =>
     simp only [Act.put, yay, yby, ycy, i64_w, i32_w]
     rfl
    refine pure_ (i := 2) (N := some 54) (v := ?_) (a' := ?_) #[true, true, true, false, false, false, false, false, false, false, false, false, false, false, false, false] rfl rfl (by kernel_rfl) (fun _ _ _ h => h) (Or.inl ⟨by rfl, ?_⟩) ?_ ?_
    rotate_left
    next =>
     intro w'
     go_simp
     with_reducible rfl
    rotate_left
    next =>
     simp only [Act.put, yay, yby, ycy, i64_w, i32_w]
     rfl
    refine pure_ (i := 3) (N := some 55) (v := ?_) (a' := ?_) #[true, true, true, true, false, false, false, false, false, false, false, false, false, false, false, false] rfl rfl (by kernel_rfl) (fun _ _ _ h => h) (Or.inl ⟨by rfl, ?_⟩) ?_ ?_
    rotate_left
    next =>
     intro w'
     go_simp
     with_reducible rfl
    rotate_left
    next =>
     simp only [Act.put, yay, yby, ycy, i64_w, i32_w]
     rfl
    refine take_ (i := 4) (N := some 56) (v := ?_) (a' := ?_) #[true, true, true, true, true, false, false, false, false, false, false, false, false, false, false, false] rfl rfl (by kernel_rfl) (fun _ _ _ h => h) (Or.inl ⟨by rfl, ?_⟩) hHeld ?_ ?_
    rotate_left
    next =>
     rintro w' ⟨s0, s1, s2⟩
     go_simp
     with_reducible rfl
    rotate_left
    next =>
     simp only [Act.put, yay, yby, ycy, i64_w, i32_w]
     rfl
    refine pure_ (i := 5) (N := some 57) (v := ?_) (a' := ?_) #[true, true, true, true, true, true, false, false, false, false, false, false, false, false, false, false] rfl rfl (by kernel_rfl) (fun _ _ _ h => h) (Or.inl ⟨by rfl, ?_⟩) ?_ ?_
    rotate_left
    next =>
     intro w'
     go_simp
     with_reducible rfl
    rotate_left
    next =>
     simp only [Act.put, yay, yby, ycy, i64_w, i32_w]
     rfl
    refine pure_ (i := 7) (N := some 59) (v := ?_) (a' := ?_) #[true, true, true, true, true, true, false, true, false, false, false, false, false, false, false, false] rfl rfl (by kernel_rfl) (fun _ _ _ h => h) (Or.inl ⟨by rfl, ?_⟩) ?_ ?_
    rotate_left
    next =>
     intro w'
     go_simp
     with_reducible rfl
    rotate_left
    next =>
     simp only [Act.put, yay, yby, ycy, i64_w, i32_w]
     rfl
    refine pure_ (i := 8) (N := some 60) (v := ?_) (a' := ?_) #[true, true, true, true, true, true, false, true, true, false, false, false, false, false, false, false] rfl rfl (by kernel_rfl) (fun _ _ _ h => h) (Or.inl ⟨by rfl, ?_⟩) ?_ ?_
    rotate_left
    next =>
     intro w'
     go_simp
     with_reducible rfl
    rotate_left
    next =>
     simp only [Act.put, yay, yby, ycy, i64_w, i32_w]
     rfl
    refine take_ (i := 9) (N := some 61) (v := ?_) (a' := ?_) #[true, true, true, true, true, true, false, true, true, true, false, false, false, false, false, false] rfl rfl (by kernel_rfl) (fun _ _ _ h => h) (Or.inl ⟨by rfl, ?_⟩) hHeld ?_ ?_
    rotate_left
    next =>
     rintro w' ⟨s0, s1, s2⟩
     go_simp
     with_reducible rfl
    rotate_left
    next =>
     simp only [Act.put, yay, yby, ycy, i64_w, i32_w]
     rfl
    refine pure_ (i := 10) (N := some 62) (v := ?_) (a' := ?_) #[true, true, true, true, true, true, false, true, true, true, true, false, false, false, false, false] rfl rfl (by kernel_rfl) (fun _ _ _ h => h) (Or.inl ⟨by rfl, ?_⟩) ?_ ?_
    rotate_left
    next =>
     intro w'
     go_simp
     with_reducible rfl
    rotate_left
    next =>
     simp only [Act.put, yay, yby, ycy, i64_w, i32_w]
     rfl
    refine take_ (i := 11) (N := some 63) (v := ?_) (a' := ?_) #[true, true, true, true, true, true, false, true, true, true, true, true, false, false, false, false] rfl rfl (by kernel_rfl) (fun _ _ _ h => h) (Or.inl ⟨by rfl, ?_⟩) hHeld ?_ ?_
    rotate_left
    next =>
     rintro w' ⟨s0, s1, s2⟩
     go_simp
     with_reducible rfl
    rotate_left
    next =>
     simp only [Act.put, yay, yby, ycy, i64_w, i32_w]
     rfl
    refine pure_ (i := 12) (N := some 64) (v := ?_) (a' := ?_) #[true, true, true, true, true, true, false, true, true, true, true, true, true, false, false, false] rfl rfl (by kernel_rfl) (fun _ _ _ h => h) (Or.inl ⟨by rfl, ?_⟩) ?_ ?_
    rotate_left
    next =>
     intro w'
     go_simp
     with_reducible rfl
    rotate_left
    next =>
     simp only [Act.put, yay, yby, ycy, i64_w, i32_w]
     rfl
    refine pure_ (i := 13) (N := some 65) (v := ?_) (a' := ?_) #[true, true, true, true, true, true, false, true, true, true, true, true, true, true, false, false] rfl rfl (by kernel_rfl) (fun _ _ _ h => h) (Or.inl ⟨by rfl, ?_⟩) ?_ ?_
    rotate_left
    next =>
     intro w'
     go_simp
     with_reducible rfl
    rotate_left
    next =>
     simp only [Act.put, yay, yby, ycy, i64_w, i32_w]
     rfl
    refine one_ (i := 6) (N := some 58) #[true, true, true, true, true, true, true, true, true, true, true, true, true, true, false, false] rfl rfl (by kernel_rfl) (by decide) (fun K hK => ?_)
    refine goes_ Try.func68 (by kernel_rfl) rfl #[.int .i64 ps, .int .i64 (f : Int)] (by rfl) rfl rfl (by (try simp only [yiy, yjy, yky]); first | done | rfl) ?_
    refine (spec_l06At.calls k ps (f : Int) im _ HAT.out).mono ?_
    rintro e w14 ⟨rfl, hb⟩
    refine ⟨_, rfl, ?_⟩
    replace hp0 := (hb.cell (yny _ _ hp0)).trans hp0
    replace ht1 := (hb.cell (yny _ _ ht1)).trans ht1
    have HO2 := Aside0.mk (Kd.S_below HO.out hb)
    have HM2 := Aside0.mk (Kd.R_below HM.out hb)
    have B32 := Aside0.mk (blk_below B3.out hb)
    have B62 := Aside0.mk (blk_below B6.out hb)
    have B72 := Aside0.mk (blk_below B7.out hb)
    have BF2 := Aside0.mk (blk_below BF.out hb)
    have HB2 := Aside0.mk (below_step HB.out hb)
    clear HO HM B3 B6 B7 BF HB
    have HO := HO2
    have HM := HM2
    have B3 := B32
    have B6 := B62
    have B7 := B72
    have BF := BF2
    have HB := HB2
    clear HO2 HM2 B32 B62 B72 BF2 HB2
    clear hb
    refine hK.out _ _ ⟨hp0, (blk_cell BF.out 0).trans rfl, ht1⟩ (fun hHeld => ?_)
    clear hK K
    refine norm_ (a' := ?_) ?_ ?_
    rotate_left
    next =>
     show Act.put _ (some 58) _ = _
     simp only [Act.put, yay, yby, ycy, i64_w, i32_w]
     rfl
    refine pure_ (i := 14) (N := some 66) (v := ?_) (a' := ?_) #[true, true, true, true, true, true, true, true, true, true, true, true, true, true, true, false] rfl rfl (by kernel_rfl) (fun _ _ _ h => h) (Or.inl ⟨by rfl, ?_⟩) ?_ ?_
    rotate_left
    next =>
     intro w'
     go_simp
     with_reducible rfl
    rotate_left
    next =>
     simp only [Act.put, yay, yby, ycy, i64_w, i32_w]
     rfl
    obtain ⟨⟨u1_, hx0⟩, ⟨u2_, hx1⟩, hz0, hz1, hMS, hgr⟩ := face_put HM.out im HIM.out.1 (by have := HIM.out.2; omega) ⟨tt, pp⟩
    refine last_ (i := 15) (N := none) #[true, true, true, true, true, true, true, true, true, true, true, true, true, true, true, true] rfl rfl (by kernel_rfl) (by decide) (fun K hK => ?_)
    refine skip_ (w1 := ?_) (by rfl) rfl ?_ ?_
    rotate_left
    next =>
     go_simp
     rfl
    refine hK.out _ _ ?_
    clear hK K
    refine done_ (by kernel_rfl) ?_
    have HM2 := Aside0.mk hMS
    have HO2 := Aside0.mk (Kd.S_grown HO.out hgr (fun k hk => hk))
    have B32 := Aside0.mk (blk_grown B3.out hgr (Kd.R_ne HM.out B3.out (by decide)))
    have B62 := Aside0.mk (blk_grown B6.out hgr (Kd.R_ne HM.out B6.out (by decide)))
    have B72 := Aside0.mk (blk_grown B7.out hgr (Kd.R_ne HM.out B7.out (by decide)))
    have HB2 := Aside0.mk (below_set (j := im.toNat * 2 + 1) (v := .int .i64 pp) (below_set (j := im.toNat * 2) (v := .int .i64 tt) HB.out GM.out) GM.out)
    clear hMS hgr hx0 hx1 hz0 hz1
    clear HM HO B3 B6 B7 HB
    have HM := HM2
    have HO := HO2
    have B3 := B32
    have B6 := B62
    have B7 := B72
    have HB := HB2
    clear HM2 HO2 B32 B62 B72 HB2
    generalize (w14.setCell ⟨gm, im.toNat * 2, none⟩ (.int .i64 tt)).setCell ⟨gm, im.toNat * 2 + 1, none⟩ (.int .i64 pp) = w15 at HO HM B3 B6 B7 HB ⊢
    go_wp2
    go_roundg (4 - (f + 1))
    case measure => omega
    case rel => exact ⟨f + 1, by omega, by omega, by go_num, ⟨by rw [HK2.out]; exact HM.out⟩, HO, B3, B6, B7, HB⟩
/-! ### spec_l08Fresh: function 97 -/
def spec_l08Fresh.l0 : Nat → Int → List Int → Int → Option (List Int)
  | 0, _, _, _ => none
  | k + 1, x0, x3, x4 => if x4 < x0 then (if x3.length < 17592186044416 then (spec_l08Fresh.l0 k x0 (x3 ++ [x4]) (wrap64 (x4 + 1))) else (none)) else (some x3)
def spec_l08Fresh.f (k : Nat) (a0 : Int) : Option (List Int) := spec_l08Fresh.l0 k a0 (([] : List Int)) 0
set_option maxHeartbeats 8000000 in
set_option maxRecDepth 100000 in
theorem spec_l08Fresh.calls (k : Nat) (a0 : Int) (r : List Int) (w : World) (h : spec_l08Fresh.f k a0 = some r) :
    Calls Try.prog 97 #[.int .i64 a0] w fun e w' => ∃ v0_ : Value, e = .returned (v0_) ∧ Kd.R (Kd.int .i64) 2 w' w.heap.size (fun _ => True) v0_ r ∧ Below w.heap.size w w' := by
  have HB := Aside0.mk (Below.refl w.heap.size w)
  have H : (spec_l08Fresh.l0 k a0 (([] : List Int)) 0) = some r := h
  clear h
  obtain ⟨y101, hy101⟩ : ∃ y_ : List Int, y_ = (([] : List Int)) := ⟨_, rfl⟩
  replace H : (spec_l08Fresh.l0 k a0 y101 0) = some r := by first | (rw [hy101]; with_reducible exact H) | (have H2_ := (yfy _ _).symm.trans H; rw [hy101]; with_reducible exact H2_) | (have H2_ := (yfy _ _).symm.trans H; with_reducible exact H2_) | with_reducible exact H | (rw [hy101]; exact H) | exact H
  have Ny101 := Aside0.mk hy101
  clear hy101
  have H' := Aside0.mk H
  clear H
  go_enter Try.func97, Try.ntmps97
  go_wp2_with (first | ((with_reducible refine gate_dst (N := 5) rfl ?_); refine Kd.R_lit (Kd.int .i64) _ 2 ?hg (N := 5) ?hd (xs := ([] : List Int)) (inner := []) (ok := fun _ => True) (okp := fun _ => True) ?hr ?hp (fun _ hk => hk) trivial (Below.refl _ _) (yoy _) (by simp) ?_; (case hd => rfl); (case hg => rfl); (case hr => first | (go_simp; done) | (go_simp; rfl)); (case hp => exact (Reps.none _ _)); intro v102 w2 ho3 hb hg_ hnew_; clear hg_ hnew_; (first | rw [← Ny101.out] at ho3 | (simp only [Int.reduceToNat] at ho3; rw [← Ny101.out] at ho3)); have n0_ := Aside0.mk (Kd.R_lower ho3 (below_size (by repeat (first | (with_reducible first | exact HB.out | apply below_alloc | apply pw_below_drewN | apply below_drew1) | exact HB.out)))); have n1_ := Aside0.mk (below_step (by repeat (first | (with_reducible first | exact HB.out | apply below_alloc | apply pw_below_drewN | apply below_drew1) | exact HB.out)) hb); clear HB; have HO103 := n0_; have HB := n1_; clear n0_ n1_; clear hb ho3))
  go_loopg [3, 4] k (fun kq v3 v4 w' => ∃ (x3_1 : List Int) (x4_1 : Int), v4 = .int .i64 x4_1 ∧ Aside0 (spec_l08Fresh.l0 kq a0 x3_1 x4_1 = some r) ∧ Aside0 (kq ≤ k) ∧ Aside0 (Kd.R (Kd.int .i64) 2 w' w.heap.size (fun _ => True) v3 x3_1) ∧ Aside0 (Below w.heap.size w w'))
  case atStart => exact ⟨(y101), (0), (by first | rfl | (simp; done) | (simp [*]; done)), H', ⟨yoy _⟩, ⟨by (with_reducible repeat (first | apply Kd.R_alloc | apply Kd.R_drewN | apply Kd.R_drew)); exact HO103.out⟩, ⟨by repeat (first | (with_reducible first | exact HB.out | apply below_alloc | apply pw_below_drewN | apply below_drew1) | exact HB.out)⟩⟩
  case round =>
    clear H'
    try clear p2
    obtain ⟨x3_1, x4_1, rfl, HA, HK1, HO_3, HB⟩ := hrel
    cases gk with
    | zero => exact absurd HA.out (by simp [spec_l08Fresh.l0])
    | succ k1 =>
      have H := HA.out
      clear HA
      simp only [spec_l08Fresh.l0] at H
      by_cases c4 : x4_1 < a0
      · rw [if_pos c4] at H
        have c4b0 : decide (x4_1 < a0) = true := ygy c4
        clear c4
        by_cases c5 : x3_1.length < 17592186044416
        · rw [if_pos c5] at H
          have LMc5 := Aside0.mk c5
          clear c5
          obtain ⟨y104, hy104⟩ : ∃ y_ : List Int, y_ = (x3_1 ++ [x4_1]) := ⟨_, rfl⟩
          replace H : (spec_l08Fresh.l0 k1 a0 y104 (wrap64 (x4_1 + 1))) = some r := by first | (rw [hy104]; with_reducible exact H) | (have H2_ := (yfy _ _).symm.trans H; rw [hy104]; with_reducible exact H2_) | (have H2_ := (yfy _ _).symm.trans H; with_reducible exact H2_) | with_reducible exact H | (rw [hy104]; exact H) | exact H
          have Ny104 := Aside0.mk hy104
          clear hy104
          have H' := Aside0.mk H
          clear H
          go_wp2_with (first | ((with_reducible refine gate_builtin (b := .append) (xs := #[.tmp 11, .tmp 13]) rfl ?_); at_builtin; refine Kd.R_append (Kd.int .i64) (w0 := w) w.heap.size rfl (.tmp 11) (.tmp 13) 41 2 (.int .i64 0) 8 rfl Try.underlying41 info2 rfl (by decide) (by omega) u3 x3_1 x4_1 [.int .i64 x4_1] (fun _ => True) (fun _ => False) rfl rfl ?aP (fun _ hk => hk.elim) ?aF ?aO ?aB ?aS ?aL ?_; (case aP => exact rfl); (case aB => exact (by repeat (first | (with_reducible first | exact HB.out | apply below_alloc | apply pw_below_drewN | apply below_drew1) | exact HB.out))); (case aF => exact (fun _ _ => trivial)); (case aO => exact (by (with_reducible repeat (first | apply Kd.R_alloc | apply Kd.R_drewN | apply Kd.R_drew)); exact HO_3.out)); (case aS => exact (below_size (by repeat (first | (with_reducible first | exact HB.out | apply below_alloc | apply pw_below_drewN | apply below_drew1) | exact HB.out)))); (case aL => have := LMc5.out; omega); intro v105 w6 ho hb hg hat; rw [← Ny104.out] at ho; have n0_ := Aside0.mk (hb); have n1_ := Aside0.mk (ho); clear HB; clear HO_3; have HB := n0_; have HO106 := n1_; clear n0_ n1_; clear ho hb hg hat))
          go_roundg k1
          case measure => have := HK1.out; omega
          case rel => exact ⟨(y104), (wrap64 (x4_1 + 1)), (by first | rfl | (simp; done) | (simp [*]; done)), H', ⟨by have := HK1.out; omega⟩, ⟨by (with_reducible repeat (first | apply Kd.R_alloc | apply Kd.R_drewN | apply Kd.R_drew)); exact HO106.out⟩, ⟨by repeat (first | (with_reducible first | exact HB.out | apply below_alloc | apply pw_below_drewN | apply below_drew1) | exact HB.out)⟩⟩
        · rw [if_neg c5] at H
          exact absurd H (by simp)
      · rw [if_neg c4] at H
        have c4b0 : decide (x4_1 < a0) = false := yhy c4
        clear c4
        obtain rfl := yey H
        go_wp2
        go_ret
        exact ⟨_, by first | rfl | (simp [errW_none, errW_some] <;> rfl) | (simp [*, errW_none, errW_some] <;> rfl), by (with_reducible repeat (first | apply Kd.R_alloc | apply Kd.R_drewN | apply Kd.R_drew)); exact HO_3.out, by repeat (first | (with_reducible first | exact HB.out | apply below_alloc | apply pw_below_drewN | apply below_drew1) | exact HB.out)⟩
/-! ### spec_l10Exchange: function 88 -/
def spec_l10Exchange.l0 : Nat → List Int → List Int → Int → List (List (SFace)) → Option ((List (List (SFace))))
 | 0, _, _, _, _ => none
 | k + 1, x1, x5, x6, x102000 => if x6 < (x1.length : Int) then (if 0 ≤ x6 then (if x5.length < 17592186044416 then (spec_l10Exchange.l0 k x1 (x5 ++ [wrap64 (Int.tdiv (wrap64 (1 - (rd x1 x6))) 2)]) (wrap64 (x6 + 1)) x102000) else (none)) else (none)) else ((spec_l07Tets.f x102000).bind fun t110 => ((spec_l08Fresh.f k t110).bind fun t111 => ((spec_l07Relabel.f k x102000 t111 x5).bind fun t114 => (some t114))))
def spec_l10Exchange.f (k : Nat) (l0_0 : List (List (SFace))) (l1 : List Int) : Option ((List (List (SFace)))) := spec_l10Exchange.l0 k l1 (([] : List Int)) 0 l0_0
set_option maxHeartbeats 8000000 in
set_option maxRecDepth 100000 in
theorem spec_l10Exchange.calls (k : Nat) (A0_0 : Option Addr) (c0_0 : Nat) (l0_0 : List (List (SFace))) (A1 : Option Addr) (c1 : Nat) (l1 : List Int) (r : List (List (SFace))) (w : World) (hr0_0 : Kd.C (Kd.slice 74 kFace) w A0_0 l0_0.length l0_0) (hc0_0 : l0_0.length ≤ c0_0) (hr1 : Kd.C (Kd.int .i64) w A1 l1.length l1) (hc1 : l1.length ≤ c1) (h : spec_l10Exchange.f k l0_0 l1 = some r) :
 Calls Try.prog 88 #[.agg #[.slice A0_0 l0_0.length c0_0], .slice A1 l1.length c1] w fun e w' => ∃ v0_ : Value, e = .returned (.agg #[v0_]) ∧ Kd.S (Kd.slice 74 kFace) 75 w' w.heap.size (fun _ => True) v0_ r ∧ Below w.heap.size w w' := by
 have hu28 := Try.underlying28
 have HR0_0 := Aside0.mk hr0_0
 have HC0_0 := Aside0.mk hc0_0
 clear hr0_0 hc0_0
 have HR1 := Aside0.mk hr1
 have HC1 := Aside0.mk hc1
 clear hr1 hc1
 have HB := Aside0.mk (Below.refl w.heap.size w)
 have H : (spec_l10Exchange.l0 k l1 (([] : List Int)) 0 l0_0) = some r := h
 clear h
 obtain ⟨y103, hy103⟩ : ∃ y_ : List Int, y_ = (([] : List Int)) := ⟨_, rfl⟩
 replace H : (spec_l10Exchange.l0 k l1 y103 0 l0_0) = some r := by first | (rw [hy103]; with_reducible exact H) | (have H2_ := (yfy _ _).symm.trans H; rw [hy103]; with_reducible exact H2_) | (have H2_ := (yfy _ _).symm.trans H; with_reducible exact H2_) | with_reducible exact H | (rw [hy103]; exact H) | exact H
 have Ny103 := Aside0.mk hy103
 clear hy103
 have H' := Aside0.mk H
 clear H
 go_enter Try.func88, Try.ntmps88
 go_wp2_with (first | ((with_reducible refine gate_dst (N := 2) rfl ?_); refine box_event ?hg (N := 2) ?hd (cs := #[.slice A0_0 l0_0.length c0_0]) (t := 28) ?hr ?_; (case hd => rfl); (case hg => rfl); (case hr => first | (go_simp; done) | (go_simp; rfl)); intro gb101 hg w3 hbox hb; have n0_ := Aside0.mk (below_step (by repeat (first | (with_reducible first | exact HB.out | apply below_alloc | apply pw_below_drewN | apply below_drew1) | exact HB.out)) hb); have n1_ := Aside0.mk (hbox); have n2_ := Aside0.mk ((by rw [hg]; exact (below_size (by repeat (first | (with_reducible first | exact HB.out | apply below_alloc | apply pw_below_drewN | apply below_drew1) | exact HB.out))) : w.heap.size ≤ gb101)); have n3_ := Aside0.mk ((by rw [hg]; exact (below_size (by repeat (first | (with_reducible first | exact HB.out | apply below_alloc | apply pw_below_drewN | apply below_drew1) | exact HB.out))) : w.heap.size ≤ gb101)); clear HB; have HB := n0_; have BK101 := n1_; have GW101 := n2_; have GE101 := n3_; clear n0_ n1_ n2_ n3_; clear hb hbox hg) | ((with_reducible refine gate_dst (N := 4) rfl ?_); refine box_event ?hg (N := 4) ?hd (cs := #[.slice none 0 0]) (t := 28) ?hr ?_; (case hd => rfl); (case hg => rfl); (case hr => first | (go_simp; done) | (go_simp; rfl)); intro gb102 hg w4 hbox hb; have n0_ := Aside0.mk (blk_below (g := gb101) (o := .cells #[.slice A0_0 l0_0.length c0_0] 28 (0, 0)) (by (with_reducible repeat (first | refine blk_drewN ?_ _ | refine blk_drew ?_ | refine blk_alloc ?_ _)); exact BK101.out) hb); have n1_ := Aside0.mk (below_step (by repeat (first | (with_reducible first | exact HB.out | apply below_alloc | apply pw_below_drewN | apply below_drew1 | refine below_set ?_ GE101.out) | exact HB.out)) hb); have n2_ := Aside0.mk (hbox); have n3_ := Aside0.mk ((by rw [hg]; exact (below_size (by repeat (first | (with_reducible first | exact HB.out | apply below_alloc | apply pw_below_drewN | apply below_drew1 | refine below_set ?_ GE101.out) | exact HB.out))) : w.heap.size ≤ gb102)); have n4_ := Aside0.mk ((by rw [hg]; exact (below_size (by repeat (first | (with_reducible first | exact HB.out | apply below_alloc | apply pw_below_drewN | apply below_drew1 | refine below_set ?_ GE101.out) | exact HB.out))) : w.heap.size ≤ gb102)); have n5_ := Aside0.mk ((by rw [hg]; exact Nat.ne_of_lt (blk_lt (g := gb101) (o := .cells #[.slice A0_0 l0_0.length c0_0] 28 (0, 0)) (by (with_reducible repeat (first | refine blk_drewN ?_ _ | refine blk_drew ?_ | refine blk_alloc ?_ _)); exact BK101.out)) : gb101 ≠ gb102)); have n6_ := Aside0.mk ((by rw [hg]; exact Nat.ne_of_gt (blk_lt (g := gb101) (o := .cells #[.slice A0_0 l0_0.length c0_0] 28 (0, 0)) (by (with_reducible repeat (first | refine blk_drewN ?_ _ | refine blk_drew ?_ | refine blk_alloc ?_ _)); exact BK101.out)) : gb102 ≠ gb101)); clear BK101; clear HB; have BK101 := n0_; have HB := n1_; have BK102 := n2_; have GW102 := n3_; have GE102 := n4_; have NB101_102 := n5_; have NB102_101 := n6_; clear n0_ n1_ n2_ n3_ n4_ n5_ n6_; clear hb hbox hg) | ((with_reducible refine gate_dst (N := 7) rfl ?_); refine Kd.R_lit (Kd.int .i64) _ 2 ?hg (N := 7) ?hd (xs := ([] : List Int)) (inner := []) (ok := fun _ => True) (okp := fun _ => True) ?hr ?hp (fun _ hk => hk) trivial (Below.refl _ _) (yoy _) (by simp) ?_; (case hd => rfl); (case hg => rfl); (case hr => first | (go_simp; done) | (go_simp; rfl)); (case hp => exact (Reps.none _ _)); intro v104 w5 ho6 hb hg_ hnew_; clear hg_ hnew_; (first | rw [← Ny103.out] at ho6 | (simp only [Int.reduceToNat] at ho6; rw [← Ny103.out] at ho6)); have n0_ := Aside0.mk (Kd.R_lower ho6 (below_size (by repeat (first | (with_reducible first | exact HB.out | apply below_alloc | apply pw_below_drewN | apply below_drew1 | refine below_set ?_ GE101.out | refine below_set ?_ GE102.out) | exact HB.out)))); have n1_ := Aside0.mk (blk_below (g := gb101) (o := .cells #[.slice A0_0 l0_0.length c0_0] 28 (0, 0)) (by (with_reducible repeat (first | refine blk_drewN ?_ _ | refine blk_drew ?_ | refine blk_alloc ?_ _)); exact BK101.out) hb); have n2_ := Aside0.mk (blk_below (g := gb102) (o := .cells #[.slice none 0 0] 28 (0, 0)) (by (with_reducible repeat (first | refine blk_drewN ?_ _ | refine blk_drew ?_ | refine blk_alloc ?_ _)); exact BK102.out) hb); have n3_ := Aside0.mk (below_step (by repeat (first | (with_reducible first | exact HB.out | apply below_alloc | apply pw_below_drewN | apply below_drew1 | refine below_set ?_ GE101.out | refine below_set ?_ GE102.out) | exact HB.out)) hb); clear BK101; clear BK102; clear HB; have HO105 := n0_; have BK101 := n1_; have BK102 := n2_; have HB := n3_; clear n0_ n1_ n2_ n3_; clear hb ho6))
 go_loopg [5, 6] k (fun kq v5 v6 w' => ∃ (x5_1 : List Int) (x6_1 : Int), v6 = .int .i64 x6_1 ∧ Aside0 (spec_l10Exchange.l0 kq l1 x5_1 x6_1 l0_0 = some r) ∧ Aside0 (kq ≤ k) ∧ Aside0 (Kd.R (Kd.int .i64) 2 w' w.heap.size (fun _ => True) v5 x5_1) ∧ Aside0 (w'.heap[gb101]? = some (.cells #[(.slice A0_0 l0_0.length c0_0)] 28 (0, 0))) ∧ Aside0 (w'.heap[gb102]? = some (.cells #[(.slice none 0 0)] 28 (0, 0))) ∧ Aside0 (Below w.heap.size w w'))
 case atStart => exact ⟨(y103), (0), (by first | rfl | (simp; done) | (simp [*]; done)), H', ⟨yoy _⟩, ⟨by (with_reducible repeat (first | apply Kd.R_alloc | apply Kd.R_drewN | apply Kd.R_drew)); exact HO105.out⟩, ⟨by (with_reducible repeat (first | refine blk_drewN ?_ _ | refine blk_drew ?_ | refine blk_alloc ?_ _)); exact BK101.out⟩, ⟨by (with_reducible repeat (first | refine blk_drewN ?_ _ | refine blk_drew ?_ | refine blk_alloc ?_ _)); exact BK102.out⟩, ⟨by repeat (first | (with_reducible first | exact HB.out | apply below_alloc | apply pw_below_drewN | apply below_drew1 | refine below_set ?_ GE101.out | refine below_set ?_ GE102.out) | exact HB.out)⟩⟩
 case round =>
  clear H'
  try clear c1
  try clear p2
  obtain ⟨x5_1, x6_1, rfl, HA, HK1, HO_5, BK101, BK102, HB⟩ := hrel
  cases gk with
  | zero => exact absurd HA.out (by simp [spec_l10Exchange.l0])
  | succ k1 =>
   have H := HA.out
   clear HA
   simp only [spec_l10Exchange.l0] at H
   by_cases c7 : x6_1 < (l1.length : Int)
   next =>
    rw [if_pos c7] at H
    have c7b0 : decide (x6_1 < (l1.length : Int)) = true := ygy c7
    clear c7
    by_cases c8 : 0 ≤ x6_1
    rotate_left
    next =>
     rw [if_neg c8] at H
     exact absurd H (by simp)
    rw [if_pos c8] at H
    have c8b0 : decide (0 ≤ x6_1) = true := ygy c8
    clear c8
    by_cases c9 : x5_1.length < 17592186044416
    rotate_left
    next =>
     rw [if_neg c9] at H
     exact absurd H (by simp)
    rw [if_pos c9] at H
    have LMc9 := Aside0.mk c9
    clear c9
    obtain ⟨y107, hy107⟩ : ∃ y_ : List Int, y_ = (x5_1 ++ [wrap64 (Int.tdiv (wrap64 (1 - (rd l1 x6_1))) 2)]) := ⟨_, rfl⟩
    replace H : (spec_l10Exchange.l0 k1 l1 y107 (wrap64 (x6_1 + 1)) l0_0) = some r := by first | (rw [hy107]; with_reducible exact H) | (have H2_ := (yfy _ _).symm.trans H; rw [hy107]; with_reducible exact H2_) | (have H2_ := (yfy _ _).symm.trans H; with_reducible exact H2_) | with_reducible exact H | (rw [hy107]; exact H) | exact H
    have Ny107 := Aside0.mk hy107
    clear hy107
    have H' := Aside0.mk H
    clear H
    have p106 : 0 ≤ (x6_1 : Int) := of_decide_eq_true (by first | (with_reducible assumption) | assumption)
    have q106 : x6_1 < (l1.length : Int) := of_decide_eq_true (by first | (with_reducible assumption) | assumption)
    obtain ⟨ad106, e106, hx106_0⟩ := Kd.at_int HR1.out x6_1 p106 q106
    cases e106
    replace hx106_0 := (HB.out.cell (yny w _ hx106_0)).trans hx106_0
    replace p106 := eq_true p106
    replace q106 := eq_true q106
    go_wp2_with (first | ((with_reducible refine gate_builtin (b := .append) (xs := #[.tmp 14, .tmp 21]) rfl ?_); at_builtin; refine Kd.R_append (Kd.int .i64) (w0 := w) w.heap.size rfl (.tmp 14) (.tmp 21) 41 2 (.int .i64 0) 8 rfl Try.underlying41 info2 rfl (by decide) (by omega) u5 x5_1 (wrap64 (Int.tdiv (wrap64 (1 - (rd l1 x6_1))) 2)) [.int .i64 (wrap64 (Int.tdiv (wrap64 (1 - (rd l1 x6_1))) 2))] (fun _ => True) (fun _ => False) rfl rfl ?aP (fun _ hk => hk.elim) ?aF ?aO ?aB ?aS ?aL ?_; (case aP => exact rfl); (case aB => exact (by repeat (first | (with_reducible first | exact HB.out | apply below_alloc | apply pw_below_drewN | apply below_drew1 | refine below_set ?_ GE101.out | refine below_set ?_ GE102.out) | exact HB.out))); (case aF => exact (fun _ _ => trivial)); (case aO => exact (by (with_reducible repeat (first | apply Kd.R_alloc | apply Kd.R_drewN | apply Kd.R_drew)); exact HO_5.out)); (case aS => exact (below_size (by repeat (first | (with_reducible first | exact HB.out | apply below_alloc | apply pw_below_drewN | apply below_drew1 | refine below_set ?_ GE101.out | refine below_set ?_ GE102.out) | exact HB.out)))); (case aL => have := LMc9.out; omega); intro v108 w10 ho hb hg hat; rw [← Ny107.out] at ho; have n0_ := Aside0.mk (blk_grown (g := gb101) (o := .cells #[.slice A0_0 l0_0.length c0_0] 28 (0, 0)) (by (with_reducible repeat (first | refine blk_drewN ?_ _ | refine blk_drew ?_ | refine blk_alloc ?_ _)); exact BK101.out) hg (Kd.R_ne HO_5.out BK101.out (by decide))); have n1_ := Aside0.mk (blk_grown (g := gb102) (o := .cells #[.slice none 0 0] 28 (0, 0)) (by (with_reducible repeat (first | refine blk_drewN ?_ _ | refine blk_drew ?_ | refine blk_alloc ?_ _)); exact BK102.out) hg (Kd.R_ne HO_5.out BK102.out (by decide))); have n2_ := Aside0.mk (hb); have n3_ := Aside0.mk (ho); clear BK101; clear BK102; clear HB; clear HO_5; have BK101 := n0_; have BK102 := n1_; have HB := n2_; have HO109 := n3_; clear n0_ n1_ n2_ n3_; clear ho hb hg hat))
    go_roundg k1
    case measure => have := HK1.out; omega
    case rel => exact ⟨(y107), (wrap64 (x6_1 + 1)), (by first | rfl | (simp; done) | (simp [*]; done)), H', ⟨by have := HK1.out; omega⟩, ⟨by (with_reducible repeat (first | apply Kd.R_alloc | apply Kd.R_drewN | apply Kd.R_drew)); exact HO109.out⟩, ⟨by (with_reducible repeat (first | refine blk_drewN ?_ _ | refine blk_drew ?_ | refine blk_alloc ?_ _)); exact BK101.out⟩, ⟨by (with_reducible repeat (first | refine blk_drewN ?_ _ | refine blk_drew ?_ | refine blk_alloc ?_ _)); exact BK102.out⟩, ⟨by repeat (first | (with_reducible first | exact HB.out | apply below_alloc | apply pw_below_drewN | apply below_drew1 | refine below_set ?_ GE101.out | refine below_set ?_ GE102.out) | exact HB.out)⟩⟩
   next =>
    rw [if_neg c7] at H
    have c7b0 : decide (x6_1 < (l1.length : Int)) = false := yhy c7
    clear c7
    replace H := ydy.mp H
    obtain ⟨t110, A110, H⟩ := H
    replace H : ((spec_l08Fresh.f k1 t110).bind fun t111 => ((spec_l07Relabel.f k1 l0_0 t111 x5_1).bind fun t114 => (some t114))) = some r := H
    have A11 := Aside0.mk A110
    clear A110
    replace H := ydy.mp H
    obtain ⟨t111, A120, H⟩ := H
    replace H : ((spec_l07Relabel.f k1 l0_0 t111 x5_1).bind fun t114 => (some t114)) = some r := H
    have A12 := Aside0.mk A120
    clear A120
    replace H := ydy.mp H
    obtain ⟨t114, A130, H⟩ := H
    replace H : (some t114) = some r := H
    have A13 := Aside0.mk A130
    clear A130
    obtain rfl := yey H
    try go_wp2
    have n0_ := Aside0.mk (Kd.R_drew HO_5.out)
    have n1_ := Aside0.mk (blk_drew BK101.out)
    have n2_ := Aside0.mk (blk_drew BK102.out)
    have n3_ := Aside0.mk (below_drew1 HB.out)
    clear HO_5
    clear BK101
    clear BK102
    clear HB
    have HO_5 := n0_
    have BK101 := n1_
    have BK102 := n2_
    have HB := n3_
    clear n0_ n1_ n2_ n3_
    refine start_ (n := 7) (S := fun w' => w'.cell? ⟨gb101, 0, none⟩ = some (.slice A0_0 l0_0.length c0_0)) (ds := []) #[false, false, false, false, false, false, false] (by kernel_rfl) rfl rfl ((blk_cell BK101.out 0).trans rfl) (fun hHeld => ?_)
    generalize wr.drew = w14 at HO_5 BK101 BK102 HB hHeld ⊢
    refine pure_ (i := 4) (N := some 27) (v := ?_) (a' := ?_) #[false, false, false, false, true, false, false] rfl rfl (by kernel_rfl) (fun _ _ _ h => h) (Or.inl ⟨by rfl, ?_⟩) ?_ ?_
    rotate_left
    next =>
     intro w'
     go_simp
     with_reducible rfl
    rotate_left
    next =>
     simp only [Act.put, yay, yby, ycy, i64_w, i32_w]
     rfl
    refine take_ (i := 0) (N := some 23) (v := ?_) (a' := ?_) #[true, false, false, false, true, false, false] rfl rfl (by kernel_rfl) (fun _ _ _ h => h) (Or.inl ⟨by rfl, ?_⟩) hHeld ?_ ?_
    rotate_left
    next =>
     intro w' s0
     go_simp
     with_reducible rfl
    rotate_left
    next =>
     simp only [Act.put, yay, yby, ycy, i64_w, i32_w]
     rfl
    refine take_ (i := 1) (N := some 24) (v := ?_) (a' := ?_) #[true, true, false, false, true, false, false] rfl rfl (by kernel_rfl) (fun _ _ _ h => h) (Or.inl ⟨by rfl, ?_⟩) hHeld ?_ ?_
    rotate_left
    next =>
     intro w' s0
     go_simp
     with_reducible rfl
    rotate_left
    next =>
     simp only [Act.put, yay, yby, ycy, i64_w, i32_w]
     rfl
    refine one_ (i := 2) (N := some 25) #[true, true, true, false, true, false, false] rfl rfl (by kernel_rfl) (by decide) (fun K hK => ?_)
    refine goes_ Try.func65 (by kernel_rfl) rfl #[.agg #[.slice A0_0 l0_0.length c0_0]] (by rfl) rfl rfl (by (try simp only [yiy, yjy, yky]); first | done | rfl | (simp only [yly, ymy]; rfl)) ?_
    with_reducible refine (spec_l07Tets.calls _ _ l0_0 t110 _ ?side1 ?side2 A11.out).mono ?_
    (case side1 => repeat (first | exact (Kd.C_below HR0_0.out HB.out) | (with_reducible refine Kd.C_alloc ?_ _) | (with_reducible refine Kd.C_drewN ?_ _) | (with_reducible refine Kd.C_drew ?_)))
    (case side2 => exact HC0_0.out)
    rintro e w15 ⟨rfl, hb⟩
    refine ⟨_, rfl, ?_⟩
    have n0_ := Aside0.mk (Kd.R_below (by (with_reducible repeat (first | apply Kd.R_alloc | apply Kd.R_drewN | apply Kd.R_drew)); exact HO_5.out) hb)
    have n1_ := Aside0.mk (blk_below (g := gb101) (o := .cells #[.slice A0_0 l0_0.length c0_0] 28 (0, 0)) (by (with_reducible repeat (first | refine blk_drewN ?_ _ | refine blk_drew ?_ | refine blk_alloc ?_ _)); exact BK101.out) hb)
    have n2_ := Aside0.mk (blk_below (g := gb102) (o := .cells #[.slice none 0 0] 28 (0, 0)) (by (with_reducible repeat (first | refine blk_drewN ?_ _ | refine blk_drew ?_ | refine blk_alloc ?_ _)); exact BK102.out) hb)
    have n3_ := Aside0.mk (below_step (by repeat (first | (with_reducible first | exact HB.out | apply below_alloc | apply pw_below_drewN | apply below_drew1 | refine below_set ?_ GE101.out | refine below_set ?_ GE102.out) | exact HB.out)) hb)
    clear HO_5
    clear BK101
    clear BK102
    clear HB
    have HO_5 := n0_
    have BK101 := n1_
    have BK102 := n2_
    have HB := n3_
    clear n0_ n1_ n2_ n3_
    (try clear hb)
    (try clear hb2)
    (try clear hk)
    (try clear hi)
    refine hK.out _ _ ((blk_cell BK101.out 0).trans rfl) (fun hHeld => ?_)
    clear hK K
    refine norm_ (a' := ?_) ?_ ?_
    rotate_left
    next =>
     show Act.put _ (some 25) _ = _
     simp only [Act.put, yay, yby, ycy, i64_w, i32_w]
     rfl
    refine one_ (i := 3) (N := some 26) #[true, true, true, true, true, false, false] rfl rfl (by kernel_rfl) (by decide) (fun K hK => ?_)
    refine goes_ Try.func97 (by kernel_rfl) rfl #[.int .i64 t110] (by rfl) rfl rfl (by (try simp only [yiy, yjy, yky]); first | done | rfl | (simp only [yly, ymy]; rfl)) ?_
    with_reducible refine (spec_l08Fresh.calls k1 t110 t111 _ A12.out).mono ?_
    rintro e w16 ⟨v112, rfl, ho0, hb⟩
    refine ⟨_, rfl, ?_⟩
    have n0_ := Aside0.mk (Kd.R_elder' (by (with_reducible repeat (first | apply Kd.R_alloc | apply Kd.R_drewN | apply Kd.R_drew)); exact HO_5.out) (Kd.R_base ho0) hb)
    have n1_ := Aside0.mk (Kd.R_lower (Kd.R_new' ho0 (Kd.R_lt (by (with_reducible repeat (first | apply Kd.R_alloc | apply Kd.R_drewN | apply Kd.R_drew)); exact HO_5.out))) (below_size (by repeat (first | (with_reducible first | exact HB.out | apply below_alloc | apply pw_below_drewN | apply below_drew1 | refine below_set ?_ GE101.out | refine below_set ?_ GE102.out) | exact HB.out))))
    have n2_ := Aside0.mk (blk_below (g := gb101) (o := .cells #[.slice A0_0 l0_0.length c0_0] 28 (0, 0)) (by (with_reducible repeat (first | refine blk_drewN ?_ _ | refine blk_drew ?_ | refine blk_alloc ?_ _)); exact BK101.out) hb)
    have n3_ := Aside0.mk (blk_below (g := gb102) (o := .cells #[.slice none 0 0] 28 (0, 0)) (by (with_reducible repeat (first | refine blk_drewN ?_ _ | refine blk_drew ?_ | refine blk_alloc ?_ _)); exact BK102.out) hb)
    have n4_ := Aside0.mk (below_step (by repeat (first | (with_reducible first | exact HB.out | apply below_alloc | apply pw_below_drewN | apply below_drew1 | refine below_set ?_ GE101.out | refine below_set ?_ GE102.out) | exact HB.out)) hb)
    clear HO_5
    clear BK101
    clear BK102
    clear HB
    have HO_5 := n0_
    have HO113 := n1_
    have BK101 := n2_
    have BK102 := n3_
    have HB := n4_
    clear n0_ n1_ n2_ n3_ n4_
    (try clear hb)
    (try clear hb2)
    (try clear hk)
    (try clear hi)
    (try clear ho0)
    obtain ⟨Ao17, co17, eo17⟩ := Kd.R_slice HO113.out
    (first | subst eo17 | (injection eo17 with f1_ f2_ f3_; have f4_ := f1_.symm; have f5_ := f3_.symm; clear f1_ f2_ f3_; subst f4_; subst f5_))
    obtain ⟨Ao18, co18, eo18⟩ := Kd.R_slice HO_5.out
    (first | subst eo18 | (injection eo18 with f1_ f2_ f3_; have f4_ := f1_.symm; have f5_ := f3_.symm; clear f1_ f2_ f3_; subst f4_; subst f5_))
    refine hK.out _ _ ((blk_cell BK101.out 0).trans rfl) (fun hHeld => ?_)
    clear hK K
    refine norm_ (a' := ?_) ?_ ?_
    rotate_left
    next =>
     show Act.put _ (some 26) _ = _
     simp only [Act.put, yay, yby, ycy, i64_w, i32_w]
     rfl
    refine one_ (i := 5) (N := some 28) #[true, true, true, true, true, true, false] rfl rfl (by kernel_rfl) (by decide) (fun K hK => ?_)
    refine goes_ Try.func85 (by kernel_rfl) rfl #[.agg #[.slice A0_0 l0_0.length c0_0], .slice Ao17 t111.length co17, .slice Ao18 x5_1.length co18] (by rfl) rfl rfl (by (try simp only [yiy, yjy, yky]); first | done | rfl | (simp only [yly, ymy]; rfl)) ?_
    with_reducible refine (spec_l07Relabel.calls k1 _ _ l0_0 _ _ t111 _ _ x5_1 t114 _ ?side1 ?side2 ?side3 ?side4 ?side5 ?side6 A13.out).mono ?_
    (case side1 => repeat (first | exact (Kd.C_below HR0_0.out HB.out) | (with_reducible refine Kd.C_alloc ?_ _) | (with_reducible refine Kd.C_drewN ?_ _) | (with_reducible refine Kd.C_drew ?_)))
    (case side2 => exact HC0_0.out)
    (case side3 => repeat (first | exact (Kd.R_reads' HO113.out).2.2 | (with_reducible refine Kd.C_alloc ?_ _) | (with_reducible refine Kd.C_drewN ?_ _) | (with_reducible refine Kd.C_drew ?_)))
    (case side4 => exact (Kd.R_reads' HO113.out).2.1)
    (case side5 => repeat (first | exact (Kd.R_reads' HO_5.out).2.2 | (with_reducible refine Kd.C_alloc ?_ _) | (with_reducible refine Kd.C_drewN ?_ _) | (with_reducible refine Kd.C_drew ?_)))
    (case side6 => exact (Kd.R_reads' HO_5.out).2.1)
    rintro e w19 ⟨v115, rfl, ho0, hb⟩
    refine ⟨_, rfl, ?_⟩
    have n0_ := Aside0.mk (Kd.R_below (by (with_reducible repeat (first | apply Kd.R_alloc | apply Kd.R_drewN | apply Kd.R_drew)); exact HO_5.out) hb)
    have n1_ := Aside0.mk (Kd.R_below (by (with_reducible repeat (first | apply Kd.R_alloc | apply Kd.R_drewN | apply Kd.R_drew)); exact HO113.out) hb)
    have n2_ := Aside0.mk (Kd.S_lower ho0 (below_size (by repeat (first | (with_reducible first | exact HB.out | apply below_alloc | apply pw_below_drewN | apply below_drew1 | refine below_set ?_ GE101.out | refine below_set ?_ GE102.out) | exact HB.out))))
    have n3_ := Aside0.mk (blk_below (g := gb101) (o := .cells #[.slice A0_0 l0_0.length c0_0] 28 (0, 0)) (by (with_reducible repeat (first | refine blk_drewN ?_ _ | refine blk_drew ?_ | refine blk_alloc ?_ _)); exact BK101.out) hb)
    have n4_ := Aside0.mk (blk_below (g := gb102) (o := .cells #[.slice none 0 0] 28 (0, 0)) (by (with_reducible repeat (first | refine blk_drewN ?_ _ | refine blk_drew ?_ | refine blk_alloc ?_ _)); exact BK102.out) hb)
    have n5_ := Aside0.mk (below_step (by repeat (first | (with_reducible first | exact HB.out | apply below_alloc | apply pw_below_drewN | apply below_drew1 | refine below_set ?_ GE101.out | refine below_set ?_ GE102.out) | exact HB.out)) hb)
    clear HO_5
    clear HO113
    clear BK101
    clear BK102
    clear HB
    have HO_5 := n0_
    have HO113 := n1_
    have HO116 := n2_
    have BK101 := n3_
    have BK102 := n4_
    have HB := n5_
    clear n0_ n1_ n2_ n3_ n4_ n5_
    (try clear hb)
    (try clear hb2)
    (try clear hk)
    (try clear hi)
    (try clear ho0)
    obtain ⟨Ao20, co20, eo20⟩ := Kd.S_slice HO116.out
    (first | subst eo20 | (injection eo20 with f1_ f2_ f3_; have f4_ := f1_.symm; have f5_ := f3_.symm; clear f1_ f2_ f3_; subst f4_; subst f5_))
    refine hK.out _ _ ((blk_cell BK101.out 0).trans rfl) (fun hHeld => ?_)
    clear hK K
    refine norm_ (a' := ?_) ?_ ?_
    rotate_left
    next =>
     show Act.put _ (some 28) _ = _
     simp only [Act.put, yay, yby, ycy, i64_w, i32_w]
     rfl
    refine one_ (i := 6) (N := none) #[true, true, true, true, true, true, true] rfl rfl (by kernel_rfl) (by decide) (fun K hK => ?_)
    have hs21 : w19.cell? ⟨gb102, 0, none⟩ = some (.slice none 0 0) := (blk_cell BK102.out 0).trans rfl
    have hfs21 := blk_frozen BK102.out 0
    have hns21_0 := NB101_102.out
    have hms21_0 := NB102_101.out
    refine skip_ (w1 := ?_) (by rfl) rfl ?_ ?_
    rotate_left
    next =>
     go_simp
     rfl
    refine hK.out _ _ (((cell_far (p := ⟨gb102, _, none⟩) NB101_102.out _).trans (hHeld))) (fun hHeld => ?_)
    clear hK K
    refine done_ (by kernel_rfl) ?_
    try go_wp2
    refine bodyPost_ret (results_cell_row rfl _ _ gb102 28 #[.slice Ao20 t114.length co20] (0, 0) _ rfl (by (with_reducible repeat (first | refine blk_drewN ?_ _ | refine blk_drew ?_ | refine blk_alloc ?_ _)); refine blk_put (cs := #[.slice none 0 0]) ?_ 0 _ rfl; (with_reducible repeat (first | refine blk_drewN ?_ _ | refine blk_drew ?_ | refine blk_alloc ?_ _)); exact BK102.out) Try.underlying28 rfl (by kernel_rfl)) rfl ?_
    exact ⟨_, by first | rfl | (simp [errW_none, errW_some] <;> rfl) | (simp [*, errW_none, errW_some] <;> rfl), by (with_reducible repeat (first | apply Kd.S_alloc | apply Kd.S_drewN | apply Kd.S_drew)); exact Kd.S_mono (Kd.S_far (p := ⟨gb102, 0, none⟩) (Kd.S_types HO116.out BK102.out (by decide)) (fun _ hk => hk.2) (.slice Ao20 t114.length co20)) (fun _ hk => trivial), by repeat (first | (with_reducible first | exact HB.out | apply below_alloc | apply pw_below_drewN | apply below_drew1 | refine below_set ?_ GE101.out | refine below_set ?_ GE102.out) | exact HB.out)⟩
/-! ### spec_MirrorForm: function 35 -/
def spec_MirrorForm.l0 : Nat → List Int → Int → List (List (SFace)) → Option ((List (List (SFace))) × Int)
 | 0, _, _, _ => none
 | k + 1, x4, x5, x102000 => if x5 < (x102000.length : Int) then (if x4.length < 17592186044416 then (spec_MirrorForm.l0 k (x4 ++ [(-1)]) (wrap64 (x5 + 1)) x102000) else (none)) else ((spec_l10Exchange.f k x102000 x4).bind fun t110 => (some (t110, 0)))
def spec_MirrorForm.f (k : Nat) (l0_0 : List (List (SFace))) : Option ((List (List (SFace))) × Int) := (spec_IsTriangulation.f k l0_0).bind fun t103 => (if t103 = true then (spec_MirrorForm.l0 k (([] : List Int)) 0 l0_0) else (some (([] : List (List (SFace))), 1)))
set_option maxHeartbeats 8000000 in
set_option maxRecDepth 100000 in
theorem spec_MirrorForm.calls (k : Nat) (A0_0 : Option Addr) (c0_0 : Nat) (l0_0 : List (List (SFace))) (r1 : List (List (SFace))) (r2 : Int) (w : World) (hr0_0 : Kd.C (Kd.slice 74 kFace) w A0_0 l0_0.length l0_0) (hc0_0 : l0_0.length ≤ c0_0) (h : spec_MirrorForm.f k l0_0 = some (r1, r2)) :
 Calls Try.prog 35 #[.agg #[.slice A0_0 l0_0.length c0_0]] w fun e w' => ∃ v0_ : Value, e = .returned (.tuple #[.agg #[v0_], .int .i64 r2]) ∧ Kd.S (Kd.slice 74 kFace) 75 w' w.heap.size (fun _ => True) v0_ r1 ∧ Below w.heap.size w w' := by
 have hu28 := Try.underlying28
 have HR0_0 := Aside0.mk hr0_0
 have HC0_0 := Aside0.mk hc0_0
 clear hr0_0 hc0_0
 have HB := Aside0.mk (Below.refl w.heap.size w)
 have H : ((spec_IsTriangulation.f k l0_0).bind fun t103 => (if t103 = true then (spec_MirrorForm.l0 k (([] : List Int)) 0 l0_0) else (some (([] : List (List (SFace))), 1)))) = some (r1, r2) := h
 clear h
 replace H := ydy.mp H
 obtain ⟨t103, A20, H⟩ := H
 replace H : (if t103 = true then (spec_MirrorForm.l0 k (([] : List Int)) 0 l0_0) else (some (([] : List (List (SFace))), 1))) = some (r1, r2) := H
 have A2 := Aside0.mk A20
 clear A20
 by_cases c3 : t103 = true
 rotate_left
 next =>
  replace c3 := Bool.eq_false_iff.mpr c3
  subst c3
  have H1 : (some (([] : List (List (SFace))), 1)) = some (r1, r2) := by rw [if_neg (show ¬ (false = true) by decide)] at H; exact H
  clear H
  have H := H1
  clear H1
  simp only [Option.some.injEq, Prod.mk.injEq] at H
  obtain ⟨rfl, rfl⟩ := H
  go_enter Try.func35, Try.ntmps35
  go_wp2_with (first | ((with_reducible refine gate_dst (N := 1) rfl ?_); refine box_event ?hg (N := 1) ?hd (cs := #[.slice A0_0 l0_0.length c0_0]) (t := 28) ?hr ?_; (case hd => rfl); (case hg => rfl); (case hr => first | (go_simp; done) | (go_simp; rfl)); intro gb101 hg w23 hbox hb; have n0_ := Aside0.mk (below_step (by repeat (first | (with_reducible first | exact HB.out | apply below_alloc | apply pw_below_drewN | apply below_drew1) | exact HB.out)) hb); have n1_ := Aside0.mk (hbox); have n2_ := Aside0.mk ((by rw [hg]; exact (below_size (by repeat (first | (with_reducible first | exact HB.out | apply below_alloc | apply pw_below_drewN | apply below_drew1) | exact HB.out))) : w.heap.size ≤ gb101)); have n3_ := Aside0.mk ((by rw [hg]; exact (below_size (by repeat (first | (with_reducible first | exact HB.out | apply below_alloc | apply pw_below_drewN | apply below_drew1) | exact HB.out))) : w.heap.size ≤ gb101)); clear HB; have HB := n0_; have BK101 := n1_; have GW101 := n2_; have GE101 := n3_; clear n0_ n1_ n2_ n3_; clear hb hbox hg) | ((with_reducible refine gate_dst (N := 2) rfl ?_); refine box_event ?hg (N := 2) ?hd (cs := #[.slice none 0 0]) (t := 28) ?hr ?_; (case hd => rfl); (case hg => rfl); (case hr => first | (go_simp; done) | (go_simp; rfl)); intro gb102 hg w24 hbox hb; have n0_ := Aside0.mk (blk_below (g := gb101) (o := .cells #[.slice A0_0 l0_0.length c0_0] 28 (0, 0)) (by (with_reducible repeat (first | refine blk_drewN ?_ _ | refine blk_drew ?_ | refine blk_alloc ?_ _)); exact BK101.out) hb); have n1_ := Aside0.mk (below_step (by repeat (first | (with_reducible first | exact HB.out | apply below_alloc | apply pw_below_drewN | apply below_drew1 | refine below_set ?_ GE101.out) | exact HB.out)) hb); have n2_ := Aside0.mk (hbox); have n3_ := Aside0.mk ((by rw [hg]; exact (below_size (by repeat (first | (with_reducible first | exact HB.out | apply below_alloc | apply pw_below_drewN | apply below_drew1 | refine below_set ?_ GE101.out) | exact HB.out))) : w.heap.size ≤ gb102)); have n4_ := Aside0.mk ((by rw [hg]; exact (below_size (by repeat (first | (with_reducible first | exact HB.out | apply below_alloc | apply pw_below_drewN | apply below_drew1 | refine below_set ?_ GE101.out) | exact HB.out))) : w.heap.size ≤ gb102)); have n5_ := Aside0.mk ((by rw [hg]; exact Nat.ne_of_lt (blk_lt (g := gb101) (o := .cells #[.slice A0_0 l0_0.length c0_0] 28 (0, 0)) (by (with_reducible repeat (first | refine blk_drewN ?_ _ | refine blk_drew ?_ | refine blk_alloc ?_ _)); exact BK101.out)) : gb101 ≠ gb102)); have n6_ := Aside0.mk ((by rw [hg]; exact Nat.ne_of_gt (blk_lt (g := gb101) (o := .cells #[.slice A0_0 l0_0.length c0_0] 28 (0, 0)) (by (with_reducible repeat (first | refine blk_drewN ?_ _ | refine blk_drew ?_ | refine blk_alloc ?_ _)); exact BK101.out)) : gb102 ≠ gb101)); clear BK101; clear HB; have BK101 := n0_; have HB := n1_; have BK102 := n2_; have GW102 := n3_; have GE102 := n4_; have NB101_102 := n5_; have NB102_101 := n6_; clear n0_ n1_ n2_ n3_ n4_ n5_ n6_; clear hb hbox hg; have hnb25 := NB101_102.out; have hnc25 := NB102_101.out; have hcz26_0 : w24.cell? ⟨gb101, 0, none⟩ = some (.slice A0_0 l0_0.length c0_0) := (blk_cell BK101.out 0).trans rfl; have hfz26_0 := blk_frozen BK101.out 0) | ((with_reducible refine gate_callee (f := 52) rfl ?_); refine goesL_ (some 7) rfl rfl Try.func52 (by kernel_rfl) rfl #[.agg #[.slice A0_0 l0_0.length c0_0]] rfl (by (try simp only [yiy, yjy, yky]); first | done | rfl | (simp only [yly, ymy]; rfl)) ?_; (with_reducible refine (spec_IsTriangulation.calls k _ _ l0_0 false _ ?side1 ?side2 A2.out).mono ?_); (case side1 => repeat (first | exact (Kd.C_below HR0_0.out HB.out) | (with_reducible refine Kd.C_alloc ?_ _) | (with_reducible refine Kd.C_drewN ?_ _) | (with_reducible refine Kd.C_drew ?_))); (case side2 => exact HC0_0.out); rintro e w27 ⟨rfl, hb⟩; refine ⟨_, rfl, ?_⟩; have n0_ := Aside0.mk (blk_below (g := gb101) (o := .cells #[.slice A0_0 l0_0.length c0_0] 28 (0, 0)) (by (with_reducible repeat (first | refine blk_drewN ?_ _ | refine blk_drew ?_ | refine blk_alloc ?_ _)); exact BK101.out) hb); have n1_ := Aside0.mk (blk_below (g := gb102) (o := .cells #[.slice none 0 0] 28 (0, 0)) (by (with_reducible repeat (first | refine blk_drewN ?_ _ | refine blk_drew ?_ | refine blk_alloc ?_ _)); exact BK102.out) hb); have n2_ := Aside0.mk (below_step (by repeat (first | (with_reducible first | exact HB.out | apply below_alloc | apply pw_below_drewN | apply below_drew1 | refine below_set ?_ GE101.out | refine below_set ?_ GE102.out) | exact HB.out)) hb); clear BK101; clear BK102; clear HB; have BK101 := n0_; have BK102 := n1_; have HB := n2_; clear n0_ n1_ n2_; (try clear hb); (try clear hb2); (try clear hk); (try clear hi); have hcz28_0 : w27.cell? ⟨gb102, 0, none⟩ = some (.slice none 0 0) := (blk_cell BK102.out 0).trans rfl; have hfz28_0 := blk_frozen BK102.out 0))
  refine bodyPost_ret (results_ct rfl _ _ gb102 28 #[.slice none 0 0] (0, 0) _ rfl (by (with_reducible repeat (first | refine blk_drewN ?_ _ | refine blk_drew ?_ | refine blk_alloc ?_ _)); refine blk_put (cs := #[.slice none 0 0]) ?_ 0 _ rfl; (with_reducible repeat (first | refine blk_drewN ?_ _ | refine blk_drew ?_ | refine blk_alloc ?_ _)); exact BK102.out) Try.underlying28 rfl (by kernel_rfl)) rfl ?_
  exact ⟨_, by first | rfl | (simp [errW_none, errW_some] <;> rfl) | (simp [*, errW_none, errW_some] <;> rfl), by first | exact Kd.S_nil _ _ _ _ _ | exact Kd.N_nil _ _ _ _ _ | exact Kd.V_nil _ _ _ _ _ | exact Kd.Q_nil _ _ _ _ _ | exact Kd.R_nil _ _ _ _ _, by repeat (first | (with_reducible first | exact HB.out | apply below_alloc | apply pw_below_drewN | apply below_drew1 | refine below_set ?_ GE101.out | refine below_set ?_ GE102.out) | exact HB.out)⟩
 subst c3
 have H1 : (spec_MirrorForm.l0 k (([] : List Int)) 0 l0_0) = some (r1, r2) := by rw [if_pos rfl] at H; exact H
 clear H
 have H := H1
 clear H1
 obtain ⟨y104, hy104⟩ : ∃ y_ : List Int, y_ = (([] : List Int)) := ⟨_, rfl⟩
 replace H : (spec_MirrorForm.l0 k y104 0 l0_0) = some (r1, r2) := by first | (rw [hy104]; with_reducible exact H) | (have H2_ := (yfy _ _).symm.trans H; rw [hy104]; with_reducible exact H2_) | (have H2_ := (yfy _ _).symm.trans H; with_reducible exact H2_) | with_reducible exact H | (rw [hy104]; exact H) | exact H
 have Ny104 := Aside0.mk hy104
 clear hy104
 have H' := Aside0.mk H
 clear H
 go_enter Try.func35, Try.ntmps35
 go_wp2_with (first | ((with_reducible refine gate_dst (N := 1) rfl ?_); refine box_event ?hg (N := 1) ?hd (cs := #[.slice A0_0 l0_0.length c0_0]) (t := 28) ?hr ?_; (case hd => rfl); (case hg => rfl); (case hr => first | (go_simp; done) | (go_simp; rfl)); intro gb101 hg w4 hbox hb; have n0_ := Aside0.mk (below_step (by repeat (first | (with_reducible first | exact HB.out | apply below_alloc | apply pw_below_drewN | apply below_drew1) | exact HB.out)) hb); have n1_ := Aside0.mk (hbox); have n2_ := Aside0.mk ((by rw [hg]; exact (below_size (by repeat (first | (with_reducible first | exact HB.out | apply below_alloc | apply pw_below_drewN | apply below_drew1) | exact HB.out))) : w.heap.size ≤ gb101)); have n3_ := Aside0.mk ((by rw [hg]; exact (below_size (by repeat (first | (with_reducible first | exact HB.out | apply below_alloc | apply pw_below_drewN | apply below_drew1) | exact HB.out))) : w.heap.size ≤ gb101)); clear HB; have HB := n0_; have BK101 := n1_; have GW101 := n2_; have GE101 := n3_; clear n0_ n1_ n2_ n3_; clear hb hbox hg) | ((with_reducible refine gate_dst (N := 2) rfl ?_); refine box_event ?hg (N := 2) ?hd (cs := #[.slice none 0 0]) (t := 28) ?hr ?_; (case hd => rfl); (case hg => rfl); (case hr => first | (go_simp; done) | (go_simp; rfl)); intro gb102 hg w5 hbox hb; have n0_ := Aside0.mk (blk_below (g := gb101) (o := .cells #[.slice A0_0 l0_0.length c0_0] 28 (0, 0)) (by (with_reducible repeat (first | refine blk_drewN ?_ _ | refine blk_drew ?_ | refine blk_alloc ?_ _)); exact BK101.out) hb); have n1_ := Aside0.mk (below_step (by repeat (first | (with_reducible first | exact HB.out | apply below_alloc | apply pw_below_drewN | apply below_drew1 | refine below_set ?_ GE101.out) | exact HB.out)) hb); have n2_ := Aside0.mk (hbox); have n3_ := Aside0.mk ((by rw [hg]; exact (below_size (by repeat (first | (with_reducible first | exact HB.out | apply below_alloc | apply pw_below_drewN | apply below_drew1 | refine below_set ?_ GE101.out) | exact HB.out))) : w.heap.size ≤ gb102)); have n4_ := Aside0.mk ((by rw [hg]; exact (below_size (by repeat (first | (with_reducible first | exact HB.out | apply below_alloc | apply pw_below_drewN | apply below_drew1 | refine below_set ?_ GE101.out) | exact HB.out))) : w.heap.size ≤ gb102)); have n5_ := Aside0.mk ((by rw [hg]; exact Nat.ne_of_lt (blk_lt (g := gb101) (o := .cells #[.slice A0_0 l0_0.length c0_0] 28 (0, 0)) (by (with_reducible repeat (first | refine blk_drewN ?_ _ | refine blk_drew ?_ | refine blk_alloc ?_ _)); exact BK101.out)) : gb101 ≠ gb102)); have n6_ := Aside0.mk ((by rw [hg]; exact Nat.ne_of_gt (blk_lt (g := gb101) (o := .cells #[.slice A0_0 l0_0.length c0_0] 28 (0, 0)) (by (with_reducible repeat (first | refine blk_drewN ?_ _ | refine blk_drew ?_ | refine blk_alloc ?_ _)); exact BK101.out)) : gb102 ≠ gb101)); clear BK101; clear HB; have BK101 := n0_; have HB := n1_; have BK102 := n2_; have GW102 := n3_; have GE102 := n4_; have NB101_102 := n5_; have NB102_101 := n6_; clear n0_ n1_ n2_ n3_ n4_ n5_ n6_; clear hb hbox hg; have hnb6 := NB101_102.out; have hnc6 := NB102_101.out; have hcz7_0 : w5.cell? ⟨gb101, 0, none⟩ = some (.slice A0_0 l0_0.length c0_0) := (blk_cell BK101.out 0).trans rfl; have hfz7_0 := blk_frozen BK101.out 0) | ((with_reducible refine gate_callee (f := 52) rfl ?_); refine goesL_ (some 7) rfl rfl Try.func52 (by kernel_rfl) rfl #[.agg #[.slice A0_0 l0_0.length c0_0]] rfl (by (try simp only [yiy, yjy, yky]); first | done | rfl | (simp only [yly, ymy]; rfl)) ?_; (with_reducible refine (spec_IsTriangulation.calls k _ _ l0_0 true _ ?side1 ?side2 A2.out).mono ?_); (case side1 => repeat (first | exact (Kd.C_below HR0_0.out HB.out) | (with_reducible refine Kd.C_alloc ?_ _) | (with_reducible refine Kd.C_drewN ?_ _) | (with_reducible refine Kd.C_drew ?_))); (case side2 => exact HC0_0.out); rintro e w8 ⟨rfl, hb⟩; refine ⟨_, rfl, ?_⟩; have n0_ := Aside0.mk (blk_below (g := gb101) (o := .cells #[.slice A0_0 l0_0.length c0_0] 28 (0, 0)) (by (with_reducible repeat (first | refine blk_drewN ?_ _ | refine blk_drew ?_ | refine blk_alloc ?_ _)); exact BK101.out) hb); have n1_ := Aside0.mk (blk_below (g := gb102) (o := .cells #[.slice none 0 0] 28 (0, 0)) (by (with_reducible repeat (first | refine blk_drewN ?_ _ | refine blk_drew ?_ | refine blk_alloc ?_ _)); exact BK102.out) hb); have n2_ := Aside0.mk (below_step (by repeat (first | (with_reducible first | exact HB.out | apply below_alloc | apply pw_below_drewN | apply below_drew1 | refine below_set ?_ GE101.out | refine below_set ?_ GE102.out) | exact HB.out)) hb); clear BK101; clear BK102; clear HB; have BK101 := n0_; have BK102 := n1_; have HB := n2_; clear n0_ n1_ n2_; (try clear hb); (try clear hb2); (try clear hk); (try clear hi)) | ((with_reducible refine gate_dst (N := 10) rfl ?_); refine Kd.R_lit (Kd.int .i64) _ 2 ?hg (N := 10) ?hd (xs := ([] : List Int)) (inner := []) (ok := fun _ => True) (okp := fun _ => True) ?hr ?hp (fun _ hk => hk) trivial (Below.refl _ _) (yoy _) (by simp) ?_; (case hd => rfl); (case hg => rfl); (case hr => first | (go_simp; done) | (go_simp; rfl)); (case hp => exact (Reps.none _ _)); intro v105 w9 ho10 hb hg_ hnew_; clear hg_ hnew_; (first | rw [← Ny104.out] at ho10 | (simp only [Int.reduceToNat] at ho10; rw [← Ny104.out] at ho10)); have n0_ := Aside0.mk (Kd.R_lower ho10 (below_size (by repeat (first | (with_reducible first | exact HB.out | apply below_alloc | apply pw_below_drewN | apply below_drew1 | refine below_set ?_ GE101.out | refine below_set ?_ GE102.out) | exact HB.out)))); have n1_ := Aside0.mk (blk_below (g := gb101) (o := .cells #[.slice A0_0 l0_0.length c0_0] 28 (0, 0)) (by (with_reducible repeat (first | refine blk_drewN ?_ _ | refine blk_drew ?_ | refine blk_alloc ?_ _)); exact BK101.out) hb); have n2_ := Aside0.mk (blk_below (g := gb102) (o := .cells #[.slice none 0 0] 28 (0, 0)) (by (with_reducible repeat (first | refine blk_drewN ?_ _ | refine blk_drew ?_ | refine blk_alloc ?_ _)); exact BK102.out) hb); have n3_ := Aside0.mk (below_step (by repeat (first | (with_reducible first | exact HB.out | apply below_alloc | apply pw_below_drewN | apply below_drew1 | refine below_set ?_ GE101.out | refine below_set ?_ GE102.out) | exact HB.out)) hb); clear BK101; clear BK102; clear HB; have HO106 := n0_; have BK101 := n1_; have BK102 := n2_; have HB := n3_; clear n0_ n1_ n2_ n3_; clear hb ho10))
 go_loopg [4, 5] k (fun kq v4 v5 w' => ∃ (x4_1 : List Int) (x5_1 : Int), v5 = .int .i64 x5_1 ∧ Aside0 (spec_MirrorForm.l0 kq x4_1 x5_1 l0_0 = some (r1, r2)) ∧ Aside0 (kq ≤ k) ∧ Aside0 (Kd.R (Kd.int .i64) 2 w' w.heap.size (fun _ => True) v4 x4_1) ∧ Aside0 (w'.heap[gb101]? = some (.cells #[(.slice A0_0 l0_0.length c0_0)] 28 (0, 0))) ∧ Aside0 (w'.heap[gb102]? = some (.cells #[(.slice none 0 0)] 28 (0, 0))) ∧ Aside0 (Below w.heap.size w w'))
 case atStart => exact ⟨(y104), (0), (by first | rfl | (simp; done) | (simp [*]; done)), H', ⟨yoy _⟩, ⟨by (with_reducible repeat (first | apply Kd.R_alloc | apply Kd.R_drewN | apply Kd.R_drew)); exact HO106.out⟩, ⟨by (with_reducible repeat (first | refine blk_drewN ?_ _ | refine blk_drew ?_ | refine blk_alloc ?_ _)); exact BK101.out⟩, ⟨by (with_reducible repeat (first | refine blk_drewN ?_ _ | refine blk_drew ?_ | refine blk_alloc ?_ _)); exact BK102.out⟩, ⟨by repeat (first | (with_reducible first | exact HB.out | apply below_alloc | apply pw_below_drewN | apply below_drew1 | refine below_set ?_ GE101.out | refine below_set ?_ GE102.out) | exact HB.out)⟩⟩
 case round =>
  clear H'
  try clear p2
  try clear c3
  try clear c5
  try clear c6
  try clear hcz7_0
  try clear hfz7_0
  obtain ⟨x4_1, x5_1, rfl, HA, HK1, HO_4, BK101, BK102, HB⟩ := hrel
  cases gk with
  | zero => exact absurd HA.out (by simp [spec_MirrorForm.l0])
  | succ k1 =>
   have H := HA.out
   clear HA
   simp only [spec_MirrorForm.l0] at H
   by_cases c11 : x5_1 < (l0_0.length : Int)
   rotate_left
   next =>
    rw [if_neg c11] at H
    have c11b0 : decide (x5_1 < (l0_0.length : Int)) = false := yhy c11
    clear c11
    replace H := ydy.mp H
    obtain ⟨t110, A160, H⟩ := H
    replace H : (some (t110, 0)) = some (r1, r2) := H
    have A16 := Aside0.mk A160
    clear A160
    simp only [Option.some.injEq, Prod.mk.injEq] at H
    obtain ⟨rfl, rfl⟩ := H
    have hnb17 := NB101_102.out
    have hnc17 := NB102_101.out
    have hcz18_0 : wr.cell? ⟨gb101, 0, none⟩ = some (.slice A0_0 l0_0.length c0_0) := (blk_cell BK101.out 0).trans rfl
    have hfz18_0 := blk_frozen BK101.out 0
    obtain ⟨Ao19, co19, eo19⟩ := Kd.R_slice HO_4.out
    subst eo19
    go_wp2_with (first | ((with_reducible refine gate_callee (f := 88) rfl ?_); refine goesL_ (some 23) rfl rfl Try.func88 (by kernel_rfl) rfl #[.agg #[.slice A0_0 l0_0.length c0_0], .slice Ao19 x4_1.length co19] rfl (by (try simp only [yiy, yjy, yky]); first | done | rfl | (simp only [yly, ymy]; rfl)) ?_; (with_reducible refine (spec_l10Exchange.calls k1 _ _ l0_0 _ _ x4_1 t110 _ ?side1 ?side2 ?side3 ?side4 A16.out).mono ?_); (case side1 => repeat (first | exact (Kd.C_below HR0_0.out HB.out) | (with_reducible refine Kd.C_alloc ?_ _) | (with_reducible refine Kd.C_drewN ?_ _) | (with_reducible refine Kd.C_drew ?_))); (case side2 => exact HC0_0.out); (case side3 => repeat (first | exact (Kd.R_reads' HO_4.out).2.2 | (with_reducible refine Kd.C_alloc ?_ _) | (with_reducible refine Kd.C_drewN ?_ _) | (with_reducible refine Kd.C_drew ?_))); (case side4 => exact (Kd.R_reads' HO_4.out).2.1); rintro e w20 ⟨v111, rfl, ho0, hb⟩; refine ⟨_, rfl, ?_⟩; have n0_ := Aside0.mk (Kd.R_below (by (with_reducible repeat (first | apply Kd.R_alloc | apply Kd.R_drewN | apply Kd.R_drew)); exact HO_4.out) hb); have n1_ := Aside0.mk (Kd.S_lower ho0 (below_size (by repeat (first | (with_reducible first | exact HB.out | apply below_alloc | apply pw_below_drewN | apply below_drew1 | refine below_set ?_ GE101.out | refine below_set ?_ GE102.out) | exact HB.out)))); have n2_ := Aside0.mk (blk_below (g := gb101) (o := .cells #[.slice A0_0 l0_0.length c0_0] 28 (0, 0)) (by (with_reducible repeat (first | refine blk_drewN ?_ _ | refine blk_drew ?_ | refine blk_alloc ?_ _)); exact BK101.out) hb); have n3_ := Aside0.mk (blk_below (g := gb102) (o := .cells #[.slice none 0 0] 28 (0, 0)) (by (with_reducible repeat (first | refine blk_drewN ?_ _ | refine blk_drew ?_ | refine blk_alloc ?_ _)); exact BK102.out) hb); have n4_ := Aside0.mk (below_step (by repeat (first | (with_reducible first | exact HB.out | apply below_alloc | apply pw_below_drewN | apply below_drew1 | refine below_set ?_ GE101.out | refine below_set ?_ GE102.out) | exact HB.out)) hb); clear HO_4; clear BK101; clear BK102; clear HB; have HO_4 := n0_; have HO112 := n1_; have BK101 := n2_; have BK102 := n3_; have HB := n4_; clear n0_ n1_ n2_ n3_ n4_; (try clear hb); (try clear hb2); (try clear hk); (try clear hi); (try clear ho0); obtain ⟨Ao21, co21, eo21⟩ := Kd.S_slice HO112.out; subst eo21; have hcz22_0 : w20.cell? ⟨gb102, 0, none⟩ = some (.slice none 0 0) := (blk_cell BK102.out 0).trans rfl; have hfz22_0 := blk_frozen BK102.out 0))
    refine bodyPost_ret (results_ct rfl _ _ gb102 28 #[.slice Ao21 t110.length co21] (0, 0) _ rfl (by (with_reducible repeat (first | refine blk_drewN ?_ _ | refine blk_drew ?_ | refine blk_alloc ?_ _)); refine blk_put (cs := #[.slice none 0 0]) ?_ 0 _ rfl; (with_reducible repeat (first | refine blk_drewN ?_ _ | refine blk_drew ?_ | refine blk_alloc ?_ _)); exact BK102.out) Try.underlying28 rfl (by kernel_rfl)) rfl ?_
    exact ⟨_, by first | rfl | (simp [errW_none, errW_some] <;> rfl) | (simp [*, errW_none, errW_some] <;> rfl), by (with_reducible repeat (first | apply Kd.S_alloc | apply Kd.S_drewN | apply Kd.S_drew)); exact Kd.S_mono (Kd.S_far (p := ⟨gb102, 0, none⟩) (Kd.S_types HO112.out BK102.out (by decide)) (fun _ hk => hk.2) (.slice Ao21 t110.length co21)) (fun _ hk => trivial), by repeat (first | (with_reducible first | exact HB.out | apply below_alloc | apply pw_below_drewN | apply below_drew1 | refine below_set ?_ GE101.out | refine below_set ?_ GE102.out) | exact HB.out)⟩
   rw [if_pos c11] at H
   have c11b0 : decide (x5_1 < (l0_0.length : Int)) = true := ygy c11
   clear c11
   by_cases c12 : x4_1.length < 17592186044416
   rotate_left
   next =>
    rw [if_neg c12] at H
    exact absurd H (by simp)
   rw [if_pos c12] at H
   have LMc12 := Aside0.mk c12
   clear c12
   obtain ⟨y107, hy107⟩ : ∃ y_ : List Int, y_ = (x4_1 ++ [(-1)]) := ⟨_, rfl⟩
   replace H : (spec_MirrorForm.l0 k1 y107 (wrap64 (x5_1 + 1)) l0_0) = some (r1, r2) := by first | (rw [hy107]; with_reducible exact H) | (have H2_ := (yfy _ _).symm.trans H; rw [hy107]; with_reducible exact H2_) | (have H2_ := (yfy _ _).symm.trans H; with_reducible exact H2_) | with_reducible exact H | (rw [hy107]; exact H) | exact H
   have Ny107 := Aside0.mk hy107
   clear hy107
   have H' := Aside0.mk H
   clear H
   have hnb13 := NB101_102.out
   have hnc13 := NB102_101.out
   have hcz14_0 : wr.cell? ⟨gb101, 0, none⟩ = some (.slice A0_0 l0_0.length c0_0) := (blk_cell BK101.out 0).trans rfl
   have hfz14_0 := blk_frozen BK101.out 0
   go_wp2_with (first | ((with_reducible refine gate_builtin (b := .append) (xs := #[.tmp 18, .tmp 19]) rfl ?_); at_builtin; refine Kd.R_append (Kd.int .i64) (w0 := w) w.heap.size rfl (.tmp 18) (.tmp 19) 41 2 (.int .i64 0) 8 rfl Try.underlying41 info2 rfl (by decide) (by omega) u4 x4_1 (-1) [.int .i64 (-1)] (fun _ => True) (fun _ => False) rfl rfl ?aP (fun _ hk => hk.elim) ?aF ?aO ?aB ?aS ?aL ?_; (case aP => exact rfl); (case aB => exact (by repeat (first | (with_reducible first | exact HB.out | apply below_alloc | apply pw_below_drewN | apply below_drew1 | refine below_set ?_ GE101.out | refine below_set ?_ GE102.out) | exact HB.out))); (case aF => exact (fun _ _ => trivial)); (case aO => exact (by (with_reducible repeat (first | apply Kd.R_alloc | apply Kd.R_drewN | apply Kd.R_drew)); exact HO_4.out)); (case aS => exact (below_size (by repeat (first | (with_reducible first | exact HB.out | apply below_alloc | apply pw_below_drewN | apply below_drew1 | refine below_set ?_ GE101.out | refine below_set ?_ GE102.out) | exact HB.out)))); (case aL => have := LMc12.out; omega); intro v108 w15 ho hb hg hat; rw [← Ny107.out] at ho; have n0_ := Aside0.mk (blk_grown (g := gb101) (o := .cells #[.slice A0_0 l0_0.length c0_0] 28 (0, 0)) (by (with_reducible repeat (first | refine blk_drewN ?_ _ | refine blk_drew ?_ | refine blk_alloc ?_ _)); exact BK101.out) hg (Kd.R_ne HO_4.out BK101.out (by decide))); have n1_ := Aside0.mk (blk_grown (g := gb102) (o := .cells #[.slice none 0 0] 28 (0, 0)) (by (with_reducible repeat (first | refine blk_drewN ?_ _ | refine blk_drew ?_ | refine blk_alloc ?_ _)); exact BK102.out) hg (Kd.R_ne HO_4.out BK102.out (by decide))); have n2_ := Aside0.mk (hb); have n3_ := Aside0.mk (ho); clear BK101; clear BK102; clear HB; clear HO_4; have BK101 := n0_; have BK102 := n1_; have HB := n2_; have HO109 := n3_; clear n0_ n1_ n2_ n3_; clear ho hb hg hat))
   go_roundg k1
   case measure => have := HK1.out; omega
   case rel => exact ⟨(y107), (wrap64 (x5_1 + 1)), (by first | rfl | (simp; done) | (simp [*]; done)), H', ⟨by have := HK1.out; omega⟩, ⟨by (with_reducible repeat (first | apply Kd.R_alloc | apply Kd.R_drewN | apply Kd.R_drew)); exact HO109.out⟩, ⟨by (with_reducible repeat (first | refine blk_drewN ?_ _ | refine blk_drew ?_ | refine blk_alloc ?_ _)); exact BK101.out⟩, ⟨by (with_reducible repeat (first | refine blk_drewN ?_ _ | refine blk_drew ?_ | refine blk_alloc ?_ _)); exact BK102.out⟩, ⟨by repeat (first | (with_reducible first | exact HB.out | apply below_alloc | apply pw_below_drewN | apply below_drew1 | refine below_set ?_ GE101.out | refine below_set ?_ GE102.out) | exact HB.out)⟩⟩
end Go.Proofs.Ytdgdnnjigigkcaa.P
namespace Go.Proofs.Ytdgdnnjigigkcaa.Lib
open Go.RowKit Go.Proofs.YtdgdnnjigigkcaaW.PrintWords
set_option linter.unusedVariables false
section
variable {α : Type} {d : Kd α} {e b lo hi lo2 hi2 T : Nat} {w w' W : World} {v : Value} {xs ys : List α}
/-- A row of rows of the walk's own (all of it made from b on), its blocks from lo on and before hi. -/
def ObS (d : Kd α) (e b : Nat) (w : World) (lo hi : Nat) (v : Value) (xs : List α) : Prop := hi ≤ w.heap.size ∧ Kd.S d e w b (fun k => lo ≤ k ∧ k < hi) v xs
theorem size_set (w : World) (g i : Nat) (u : Value) : w.heap.size ≤ (w.setCell ⟨g, i, none⟩ u).heap.size := ((Below.refl 0 w).setCell (Nat.zero_le _) u).size
theorem ObS.made (ho : Kd.S d e w' W.heap.size (fun _ => True) v xs) (hb : Below W.heap.size W w') (hT : T ≤ W.heap.size) (hB : b ≤ W.heap.size) : ∃ lo hi, (T ≤ lo ∧ lo ≤ hi) ∧ hi ≤ w'.heap.size ∧ ObS d e b w' lo hi v xs :=
  ⟨W.heap.size, w'.heap.size, ⟨hT, hb.size⟩, yoy _, yoy _, Kd.S_lower (Kd.S_mono (Kd.S_bound ho) (fun k hk => ⟨hk.2.1, hk.2.2.1⟩)) hB⟩
theorem ObS.below (h : ObS d e b w lo hi v xs) (hb : Below w.heap.size w w') : ObS d e b w' lo hi v xs := ⟨Nat.le_trans h.1 hb.size, Kd.S_below h.2 hb⟩
theorem ObS.drew (h : ObS d e b w lo hi v xs) : ObS d e b w.drew lo hi v xs := ⟨h.1, Kd.S_drew h.2⟩
theorem ObS.far {g i : Nat} (h : ObS d e b w lo hi v xs) (hg : g < lo ∨ hi ≤ g) (u : Value) : ObS d e b (w.setCell ⟨g, i, none⟩ u) lo hi v xs :=
  ⟨Nat.le_trans h.1 (size_set _ _ _ _), Kd.S_far h.2 (fun k hk => by show k ≠ g; have := hk.1; have := hk.2; omega) u⟩
theorem ObS.kept (h : ObS d e b w lo hi v xs) (hk : Kept w w' (fun k => lo2 ≤ k ∧ k < hi2)) (hd : hi ≤ lo2 ∨ hi2 ≤ lo) : ObS d e b w' lo hi v xs :=
  ⟨Nat.le_trans h.1 hk.1, Kd.S_kept h.2 hk (fun k h1 h2 => by have := h1.1; have := h1.2; have := h2.1; have := h2.2; omega)⟩
theorem ObS.slice (h : ObS d e b w lo hi v xs) : ∃ A c, v = .slice A xs.length c := Kd.S_slice h.2
theorem ObS.reads {A : Option Addr} {n c : Nat} (h : ObS d e b w lo hi (.slice A n c) xs) : n = xs.length ∧ n ≤ c ∧ d.C w A xs.length xs := Kd.S_reads' h.2
theorem ObS.room {A : Option Addr} {n c : Nat} (h : ObS d e b w lo hi (.slice A n c) xs) : xs.length ≤ c := by have := h.reads; omega
theorem ObS.marked (h : ObS d e b w lo hi v xs) (hy : Kd.S d e w' b (fun k => lo ≤ k ∧ k < hi) v ys) (hs : w.heap.size ≤ w'.heap.size) : ObS d e b w' lo hi v ys := ⟨Nat.le_trans h.1 hs, hy⟩
theorem ObS.row (h : ObS d e b w lo hi v xs) : Kd.S d e w b (fun k => lo ≤ k ∧ k < hi) v xs := h.2
theorem top_below (h : T ≤ w.heap.size) (hb : Below w.heap.size w w') : T ≤ w'.heap.size := Nat.le_trans h hb.size
theorem top_drew (h : T ≤ w.heap.size) : T ≤ w.drew.heap.size := h
theorem top_far {g i : Nat} {u : Value} (h : T ≤ w.heap.size) : T ≤ (w.setCell ⟨g, i, none⟩ u).heap.size := Nat.le_trans h (size_set _ _ _ _)
end
end Go.Proofs.Ytdgdnnjigigkcaa.Lib
namespace Go.Proofs.Ytdgdnnjigigkcaa.P
open Go.RowKit Go.Proofs.YtdgdnnjigigkcaaW.PrintWords Go.Proofs.YtdgdnnjigigkcaaW.PrintLast Go.Proofs.YtdgdnnjigigkcaaW.PrintMore
attribute [local go_sem] max2_int min2_int max_two min_two max_three min_three max_four min_four   -- for this text's walks alone
set_option linter.unusedVariables false
set_option linter.unusedSimpArgs false
open Go.Proofs.Ytdgdnnjigigkcaa.Lib
/-! ### laws_FnExactMirrorForm: function 9 -/
def laws_FnExactMirrorForm.f (k : Nat) (l0 : List (List (SLawFace))) : Option Bool := (laws_szTriangulation.f k l0 1048576).bind fun t2 => if t2 < 0 then some true else (laws_toTriangulation.f k l0).bind fun t5 => (spec_MirrorForm.f k t5).bind fun bt3 => (laws_toTriangulation.f k l0).bind fun t12 => (impl_MirrorForm.f k t12).bind fun bt5 => (laws_eqTriangulation.f k bt5.1 bt3.1).bind fun t19 => if t19 = true then if bt5.2 = bt3.2 then (laws_toTriangulation.f k l0).bind fun t22 => (laws_eqTriangulation.f k t12 t22).bind fun t25 => if t25 = true then (laws_markTriangulation.f k t12 1).bind fun bt12 => if bt12.1 < 0 then some false else (laws_eqTriangulation.f k bt5.1 bt3.1).bind fun t31 => if t31 = true then if bt5.2 = bt3.2 then (laws_markTriangulation.f k bt5.1 1).bind fun bt17 => (laws_heldTriangulation.f k bt17.2 1).bind fun t37 => if t37 < 0 then some false else if t37 = bt17.1 then (laws_toTriangulation.f k l0).bind fun t41 => (impl_MirrorForm.f k t41).bind fun bt22 => (laws_eqTriangulation.f k bt22.1 bt3.1).bind fun t48 => if t48 = true then if bt22.2 = bt3.2 then (laws_heldTriangulation.f k bt17.2 1).bind fun t51 => if t51 < 0 then some false else if t51 = bt17.1 then some true else some false else some false else some false else some false else some false else some false else some false else some false else some false
set_option maxHeartbeats 8000000 in
set_option maxRecDepth 100000 in
theorem laws_FnExactMirrorForm.calls (k : Nat) (A0 : Option Addr) (c0 : Nat) (l0 : List (List (SLawFace))) (w : World) (hr0 : Kd.C (Kd.slice 133 kLawFace) w A0 l0.length l0) (hc0 : l0.length ≤ c0) (h : laws_FnExactMirrorForm.f k l0 = some true) :
 Calls Try.prog 9 #[.agg #[.slice A0 l0.length c0]] w fun e w' => e = .returned (.bool true) ∧ Below w.heap.size w w' := by
 have hu24 := Try.underlying24
 have hu28 := Try.underlying28
 have HR0 := Aside0.mk hr0
 have HC0 := Aside0.mk hc0
 clear hr0 hc0
 have HB := Aside0.mk (Below.refl w.heap.size w)
 have HT := Aside0.mk (yoy w.heap.size)
 have H := h
 clear h
 unfold laws_FnExactMirrorForm.f at H
 obtain ⟨t2, H10, H⟩ := ydy.mp H
 have H1 := Aside0.mk H10
 clear H10
 by_cases cC3 : t2 < 0
 next =>
  have dC3 : decide (t2 < 0) = true := ygy cC3
  clear cC3 H
  go_enter Try.func9, Try.ntmps9
  try go_wp2_with (first | ((with_reducible refine gate_dst (N := 1) rfl ?_); refine box_event ?hg (N := 1) ?hd (cs := #[.slice A0 l0.length c0]) (t := 24) ?hr ?_; (case hd => rfl); (case hg => rfl); (case hr => first | (go_simp; done) | (go_simp; rfl)); intro g1 hg w1 hbox hb; have HNg1 := Aside0.mk (by rw [hg]; exact HT.out : w.heap.size ≤ g1); have HXg1 := Aside0.mk (show g1 + 1 ≤ w1.heap.size from blk_lt hbox); have nHB := Aside0.mk (below_step HB.out hb); have nHT := Aside0.mk (top_below HT.out hb); clear HB HT  ; have HB := nHB; have HT := nHT; clear nHB nHT  ; clear HT; have HT := HXg1; clear HXg1; have BKg1 := Aside0.mk hbox; clear hg hbox hb; have hczg1 : w1.cell? ⟨g1, 0, none⟩ = some (.slice A0 l0.length c0) := (blk_cell BKg1.out 0).trans rfl; have hfzg1 := blk_frozen BKg1.out 0) | ((with_reducible refine gate_callee (f := 15) rfl ?_); refine goesL_ (some 16) rfl rfl Try.func15 (by kernel_rfl) rfl #[.agg #[.slice A0 l0.length c0], .int .i64 1048576] rfl (by (try simp only [yiy, yjy, yky]); first | done | rfl | (simp only [yly, ymy]; rfl)) ?_; (with_reducible refine (laws_szTriangulation.calls k _ _ l0 1048576 t2 _ ?side1 ?side2 H1.out).mono ?_); (case side1 => exact Kd.C_below HR0.out HB.out); (case side2 => exact HC0.out); rintro e w2 ⟨rfl, hb⟩; refine ⟨_, rfl, ?_⟩; (try clear hczg1 hfzg1); have nBg1 := Aside0.mk (blk_below (g := g1) (o := .cells #[.slice A0 l0.length c0] 24 (0, 0)) BKg1.out hb); have nHB := Aside0.mk (below_step HB.out hb); have nHT := Aside0.mk (top_below HT.out hb); clear HB HT  BKg1; have BKg1 := nBg1; have HB := nHB; have HT := nHT; clear nHB nHT  nBg1; (try clear hb); (try clear hnd); have hczg1 : w2.cell? ⟨g1, 0, none⟩ = some (.slice A0 l0.length c0) := (blk_cell BKg1.out 0).trans rfl; have hfzg1 := blk_frozen BKg1.out 0))
  go_ret
  exact ⟨by first | rfl | (simp <;> rfl), HB.out⟩
 rw [if_neg cC3] at H
 have dC3 : decide (t2 < 0) = false := yhy cC3
 clear cC3
 obtain ⟨t5, H40, H⟩ := ydy.mp H
 have H4 := Aside0.mk H40
 clear H40
 obtain ⟨⟨t8, t10⟩, H70, H⟩ := ydy.mp H
 have H7 := Aside0.mk H70
 clear H70
 obtain ⟨t12, H110, H⟩ := ydy.mp H
 have H11 := Aside0.mk H110
 clear H110
 obtain ⟨⟨t15, t17⟩, H140, H⟩ := ydy.mp H
 have H14 := Aside0.mk H140
 clear H140
 obtain ⟨t19, H180, H⟩ := ydy.mp H
 obtain rfl : t19 = true := by cases t19 with | true => rfl | false => exact absurd H (by simp)
 replace H := H
 have H18 := Aside0.mk H180
 clear H180
 rw [if_pos rfl] at H
 have cC20 : t17 = t10 := by by_cases c_ : t17 = t10; exact c_; rw [if_neg c_] at H; cases H
 rw [if_pos cC20] at H
 have dC20 : (t17 != t10) = false := by rw [cC20]; exact bne_self_eq_false _
 clear cC20
 obtain ⟨t22, H210, H⟩ := ydy.mp H
 have H21 := Aside0.mk H210
 clear H210
 obtain ⟨t25, H240, H⟩ := ydy.mp H
 obtain rfl : t25 = true := by cases t25 with | true => rfl | false => exact absurd H (by simp)
 replace H := H
 have H24 := Aside0.mk H240
 clear H240
 rw [if_pos rfl] at H
 obtain ⟨⟨m27, y28⟩, H260, H⟩ := ydy.mp H
 have H26 := Aside0.mk H260
 clear H260
 dsimp only at H
 have cC29 : ¬ (m27 < 0) := fun c_ => by rw [if_pos c_] at H; cases H
 rw [if_neg cC29] at H
 have dC29 : decide (m27 < 0) = false := yhy cC29
 clear cC29
 obtain ⟨t31, H300, H⟩ := ydy.mp H
 obtain rfl : t31 = true := by cases t31 with | true => rfl | false => exact absurd H (by simp)
 replace H := H
 have H30 := Aside0.mk H300
 clear H300
 rw [if_pos rfl] at H
 have cC32 : t17 = t10 := by by_cases c_ : t17 = t10; exact c_; rw [if_neg c_] at H; cases H
 rw [if_pos cC32] at H
 have dC32 : (t17 != t10) = false := by rw [cC32]; exact bne_self_eq_false _
 clear cC32
 obtain ⟨⟨m34, y35⟩, H330, H⟩ := ydy.mp H
 have H33 := Aside0.mk H330
 clear H330
 dsimp only at H
 obtain ⟨t37, H360, H⟩ := ydy.mp H
 have H36 := Aside0.mk H360
 clear H360
 have cC38 : ¬ (t37 < 0) := fun c_ => by rw [if_pos c_] at H; cases H
 rw [if_neg cC38] at H
 have dC38 : decide (t37 < 0) = false := yhy cC38
 clear cC38
 have cC39 : t37 = m34 := by by_cases c_ : t37 = m34; exact c_; rw [if_neg c_] at H; cases H
 rw [if_pos cC39] at H
 have dC39 : (t37 != m34) = false := by rw [cC39]; exact bne_self_eq_false _
 clear cC39
 obtain ⟨t41, H400, H⟩ := ydy.mp H
 have H40 := Aside0.mk H400
 clear H400
 obtain ⟨⟨t44, t46⟩, H430, H⟩ := ydy.mp H
 have H43 := Aside0.mk H430
 clear H430
 obtain ⟨t48, H470, H⟩ := ydy.mp H
 obtain rfl : t48 = true := by cases t48 with | true => rfl | false => exact absurd H (by simp)
 replace H := H
 have H47 := Aside0.mk H470
 clear H470
 rw [if_pos rfl] at H
 have cC49 : t46 = t10 := by by_cases c_ : t46 = t10; exact c_; rw [if_neg c_] at H; cases H
 rw [if_pos cC49] at H
 have dC49 : (t46 != t10) = false := by rw [cC49]; exact bne_self_eq_false _
 clear cC49
 obtain ⟨t51, H500, H⟩ := ydy.mp H
 have H50 := Aside0.mk H500
 clear H500
 have cC52 : ¬ (t51 < 0) := fun c_ => by rw [if_pos c_] at H; cases H
 rw [if_neg cC52] at H
 have dC52 : decide (t51 < 0) = false := yhy cC52
 clear cC52
 have cC53 : t51 = m34 := by by_cases c_ : t51 = m34; exact c_; rw [if_neg c_] at H; cases H
 rw [if_pos cC53] at H
 have dC53 : (t51 != m34) = false := by rw [cC53]; exact bne_self_eq_false _
 clear cC53
 clear H
 go_enter Try.func9, Try.ntmps9
 try go_wp2_with (first | ((with_reducible refine gate_dst (N := 1) rfl ?_); refine box_event ?hg (N := 1) ?hd (cs := #[.slice A0 l0.length c0]) (t := 24) ?hr ?_; (case hd => rfl); (case hg => rfl); (case hr => first | (go_simp; done) | (go_simp; rfl)); intro g1 hg w1 hbox hb; have HNg1 := Aside0.mk (by rw [hg]; exact HT.out : w.heap.size ≤ g1); have HXg1 := Aside0.mk (show g1 + 1 ≤ w1.heap.size from blk_lt hbox); have nHB := Aside0.mk (below_step HB.out hb); have nHT := Aside0.mk (top_below HT.out hb); clear HB HT  ; have HB := nHB; have HT := nHT; clear nHB nHT  ; clear HT; have HT := HXg1; clear HXg1; have BKg1 := Aside0.mk hbox; clear hg hbox hb; have hczg1 : w1.cell? ⟨g1, 0, none⟩ = some (.slice A0 l0.length c0) := (blk_cell BKg1.out 0).trans rfl; have hfzg1 := blk_frozen BKg1.out 0) | ((with_reducible refine gate_callee (f := 15) rfl ?_); refine goesL_ (some 16) rfl rfl Try.func15 (by kernel_rfl) rfl #[.agg #[.slice A0 l0.length c0], .int .i64 1048576] rfl (by (try simp only [yiy, yjy, yky]); first | done | rfl | (simp only [yly, ymy]; rfl)) ?_; (with_reducible refine (laws_szTriangulation.calls k _ _ l0 1048576 t2 _ ?side1 ?side2 H1.out).mono ?_); (case side1 => exact Kd.C_below HR0.out HB.out); (case side2 => exact HC0.out); rintro e w2 ⟨rfl, hb⟩; refine ⟨_, rfl, ?_⟩; (try clear hczg1 hfzg1); have nBg1 := Aside0.mk (blk_below (g := g1) (o := .cells #[.slice A0 l0.length c0] 24 (0, 0)) BKg1.out hb); have nHB := Aside0.mk (below_step HB.out hb); have nHT := Aside0.mk (top_below HT.out hb); clear HB HT  BKg1; have BKg1 := nBg1; have HB := nHB; have HT := nHT; clear nHB nHT  nBg1; (try clear hb); (try clear hnd); have hczg1 : w2.cell? ⟨g1, 0, none⟩ = some (.slice A0 l0.length c0) := (blk_cell BKg1.out 0).trans rfl; have hfzg1 := blk_frozen BKg1.out 0) | ((with_reducible refine gate_callee (f := 17) rfl ?_); refine goesL_ (some 21) rfl rfl Try.func17 (by kernel_rfl) rfl #[.agg #[.slice A0 l0.length c0]] rfl (by (try simp only [yiy, yjy, yky]); first | done | rfl | (simp only [yly, ymy]; rfl)) ?_; (with_reducible refine (laws_toTriangulation.calls k _ _ l0 t5 _ ?side1 ?side2 H4.out).mono ?_); (case side1 => exact Kd.C_below HR0.out HB.out); (case side2 => exact HC0.out); rintro e w3 ⟨vo6, rfl, ho0, hb⟩; refine ⟨_, rfl, ?_⟩; (try clear hczg1 hfzg1); obtain ⟨loo6, hio6, hno6⟩ := ObS.made ho0 hb HT.out (below_size HB.out); have nBg1 := Aside0.mk (blk_below (g := g1) (o := .cells #[.slice A0 l0.length c0] 24 (0, 0)) BKg1.out hb); have nHB := Aside0.mk (below_step HB.out hb); have nHT := Aside0.mk (top_below HT.out hb); clear HB HT  BKg1; have BKg1 := nBg1; have HB := nHB; have HT := nHT; clear nHB nHT  nBg1; have HNo6 := Aside0.mk hno6.1; clear HT; have HT := Aside0.mk hno6.2.1; have HOo6 := Aside0.mk hno6.2.2; clear hno6 ho0; obtain ⟨Ao6, co6, eeo6⟩ := HOo6.out.slice; subst eeo6; (try clear hb); (try clear hnd); have hczg1 : w3.cell? ⟨g1, 0, none⟩ = some (.slice A0 l0.length c0) := (blk_cell BKg1.out 0).trans rfl; have hfzg1 := blk_frozen BKg1.out 0) | ((with_reducible refine gate_callee (f := 35) rfl ?_); refine goesL_ (some 22) rfl rfl Try.func35 (by kernel_rfl) rfl #[.agg #[.slice Ao6 t5.length co6]] rfl (by (try simp only [yiy, yjy, yky]); first | done | rfl | (simp only [yly, ymy]; rfl)) ?_; (with_reducible refine (spec_MirrorForm.calls k _ _ t5 t8 t10 _ ?side1 ?side2 H7.out).mono ?_); (case side1 => exact (ObS.reads HOo6.out).2.2); (case side2 => exact ObS.room HOo6.out); rintro e w4 ⟨vo9, rfl, ho0, hb⟩; refine ⟨_, rfl, ?_⟩; (try clear hczg1 hfzg1); obtain ⟨loo9, hio9, hno9⟩ := ObS.made ho0 hb HT.out (below_size HB.out); have nOo6 := Aside0.mk (ObS.below HOo6.out hb); have nBg1 := Aside0.mk (blk_below (g := g1) (o := .cells #[.slice A0 l0.length c0] 24 (0, 0)) BKg1.out hb); have nHB := Aside0.mk (below_step HB.out hb); have nHT := Aside0.mk (top_below HT.out hb); clear HB HT HOo6 BKg1; have HOo6 := nOo6; have BKg1 := nBg1; have HB := nHB; have HT := nHT; clear nHB nHT nOo6 nBg1; have HNo9 := Aside0.mk hno9.1; clear HT; have HT := Aside0.mk hno9.2.1; have HOo9 := Aside0.mk hno9.2.2; clear hno9 ho0; obtain ⟨Ao9, co9, eeo9⟩ := HOo9.out.slice; subst eeo9; (try clear hb); (try clear hnd); have hczg1 : w4.cell? ⟨g1, 0, none⟩ = some (.slice A0 l0.length c0) := (blk_cell BKg1.out 0).trans rfl; have hfzg1 := blk_frozen BKg1.out 0) | ((with_reducible refine gate_dst (N := 4) rfl ?_); refine box_event ?hg (N := 4) ?hd (cs := #[.slice none 0 0]) (t := 28) ?hr ?_; (case hd => rfl); (case hg => rfl); (case hr => first | (go_simp; done) | (go_simp; rfl)); intro g4 hg w5 hbox hb; (try clear hczg1 hfzg1); have HNg4 := Aside0.mk (by rw [hg]; exact HT.out : hio9 ≤ g4); have HXg4 := Aside0.mk (show g4 + 1 ≤ w5.heap.size from blk_lt hbox); have nOo6 := Aside0.mk (ObS.below HOo6.out hb); have nOo9 := Aside0.mk (ObS.below HOo9.out hb); have nBg1 := Aside0.mk (blk_below (g := g1) (o := .cells #[.slice A0 l0.length c0] 24 (0, 0)) BKg1.out hb); have nHB := Aside0.mk (below_step HB.out hb); have nHT := Aside0.mk (top_below HT.out hb); clear HB HT HOo6 HOo9 BKg1; have HOo6 := nOo6; have HOo9 := nOo9; have BKg1 := nBg1; have HB := nHB; have HT := nHT; clear nHB nHT nOo6 nOo9 nBg1; clear HT; have HT := HXg4; clear HXg4; have BKg4 := Aside0.mk hbox; clear hg hbox hb; have hnbg4_g1 : g4 ≠ g1 := (by have := HNg1.out; have := HNo6.out; have := HNo9.out; have := HNg4.out; omega); have hnbg1_g4 : g1 ≠ g4 := (by have := HNg1.out; have := HNo6.out; have := HNo9.out; have := HNg4.out; omega); have hczg1 : w5.cell? ⟨g1, 0, none⟩ = some (.slice A0 l0.length c0) := (blk_cell BKg1.out 0).trans rfl; have hfzg1 := blk_frozen BKg1.out 0; have hczg4 : w5.cell? ⟨g4, 0, none⟩ = some (.slice none 0 0) := (blk_cell BKg4.out 0).trans rfl; have hfzg4 := blk_frozen BKg4.out 0) | ((with_reducible refine gate_callee (f := 17) rfl ?_); refine goesL_ (some 26) rfl rfl Try.func17 (by kernel_rfl) rfl #[.agg #[.slice A0 l0.length c0]] rfl (by (try simp only [yiy, yjy, yky]); first | done | rfl | (simp only [yly, ymy]; rfl)) ?_; (with_reducible refine (laws_toTriangulation.calls k _ _ l0 t12 _ ?side1 ?side2 H11.out).mono ?_); (case side1 => exact Kd.C_below HR0.out (below_set HB.out (show w.heap.size ≤ g4 from (by have := HNg1.out; have := HNo6.out; have := HNo9.out; have := HNg4.out; omega)))); (case side2 => exact HC0.out); rintro e w6 ⟨vo13, rfl, ho0, hb⟩; refine ⟨_, rfl, ?_⟩; (try clear hczg1 hfzg1 hczg4 hfzg4); obtain ⟨loo13, hio13, hno13⟩ := ObS.made ho0 hb (top_far HT.out) (below_size (below_set HB.out (show w.heap.size ≤ g4 from (by have := HNg1.out; have := HNo6.out; have := HNo9.out; have := HNg4.out; omega)))); have nOo6 := Aside0.mk (ObS.below (ObS.far (g := g4) (i := 0) HOo6.out (by have := HNg1.out; have := HNo6.out; have := HNo9.out; have := HNg4.out; omega) _) hb); have nOo9 := Aside0.mk (ObS.below (ObS.far (g := g4) (i := 0) HOo9.out (by have := HNg1.out; have := HNo6.out; have := HNo9.out; have := HNg4.out; omega) _) hb); have nBg1 := Aside0.mk (blk_below (g := g1) (o := .cells #[.slice A0 l0.length c0] 24 (0, 0)) (blk_far (p := ⟨g4, 0, none⟩) BKg1.out (show g1 ≠ g4 from (by have := HNg1.out; have := HNo6.out; have := HNo9.out; have := HNg4.out; omega)) _) hb); have nBg4 := Aside0.mk (blk_below (g := g4) (o := .cells #[.slice Ao9 t8.length co9] 28 (0, 0)) (blk_put (cs := #[.slice none 0 0]) BKg4.out 0 _ rfl) hb); have nHB := Aside0.mk (below_step (below_set HB.out (show w.heap.size ≤ g4 from (by have := HNg1.out; have := HNo6.out; have := HNo9.out; have := HNg4.out; omega))) hb); have nHT := Aside0.mk (top_below (top_far HT.out) hb); clear HB HT HOo6 HOo9 BKg1 BKg4; have HOo6 := nOo6; have HOo9 := nOo9; have BKg1 := nBg1; have BKg4 := nBg4; have HB := nHB; have HT := nHT; clear nHB nHT nOo6 nOo9 nBg1 nBg4; have HNo13 := Aside0.mk hno13.1; clear HT; have HT := Aside0.mk hno13.2.1; have HOo13 := Aside0.mk hno13.2.2; clear hno13 ho0; obtain ⟨Ao13, co13, eeo13⟩ := HOo13.out.slice; subst eeo13; (try clear hb); (try clear hnd); have hczg1 : w6.cell? ⟨g1, 0, none⟩ = some (.slice A0 l0.length c0) := (blk_cell BKg1.out 0).trans rfl; have hfzg1 := blk_frozen BKg1.out 0; have hczg4 : w6.cell? ⟨g4, 0, none⟩ = some (.slice Ao9 t8.length co9) := (blk_cell BKg4.out 0).trans rfl; have hfzg4 := blk_frozen BKg4.out 0) | ((with_reducible refine gate_dst (N := 6) rfl ?_); refine box_event ?hg (N := 6) ?hd (cs := #[.slice none 0 0]) (t := 28) ?hr ?_; (case hd => rfl); (case hg => rfl); (case hr => first | (go_simp; done) | (go_simp; rfl)); intro g6 hg w7 hbox hb; (try clear hczg1 hfzg1 hczg4 hfzg4); have HNg6 := Aside0.mk (by rw [hg]; exact HT.out : hio13 ≤ g6); have HXg6 := Aside0.mk (show g6 + 1 ≤ w7.heap.size from blk_lt hbox); have nOo6 := Aside0.mk (ObS.below HOo6.out hb); have nOo9 := Aside0.mk (ObS.below HOo9.out hb); have nOo13 := Aside0.mk (ObS.below HOo13.out hb); have nBg1 := Aside0.mk (blk_below (g := g1) (o := .cells #[.slice A0 l0.length c0] 24 (0, 0)) BKg1.out hb); have nBg4 := Aside0.mk (blk_below (g := g4) (o := .cells #[.slice Ao9 t8.length co9] 28 (0, 0)) BKg4.out hb); have nHB := Aside0.mk (below_step HB.out hb); have nHT := Aside0.mk (top_below HT.out hb); clear HB HT HOo6 HOo9 HOo13 BKg1 BKg4; have HOo6 := nOo6; have HOo9 := nOo9; have HOo13 := nOo13; have BKg1 := nBg1; have BKg4 := nBg4; have HB := nHB; have HT := nHT; clear nHB nHT nOo6 nOo9 nOo13 nBg1 nBg4; clear HT; have HT := HXg6; clear HXg6; have BKg6 := Aside0.mk hbox; clear hg hbox hb; have hnbg6_g1 : g6 ≠ g1 := (by have := HNg1.out; have := HNo6.out; have := HNo9.out; have := HNg4.out; have := HNo13.out; have := HNg6.out; omega); have hnbg1_g6 : g1 ≠ g6 := (by have := HNg1.out; have := HNo6.out; have := HNo9.out; have := HNg4.out; have := HNo13.out; have := HNg6.out; omega); have hnbg6_g4 : g6 ≠ g4 := (by have := HNg1.out; have := HNo6.out; have := HNo9.out; have := HNg4.out; have := HNo13.out; have := HNg6.out; omega); have hnbg4_g6 : g4 ≠ g6 := (by have := HNg1.out; have := HNo6.out; have := HNo9.out; have := HNg4.out; have := HNo13.out; have := HNg6.out; omega); have hczg1 : w7.cell? ⟨g1, 0, none⟩ = some (.slice A0 l0.length c0) := (blk_cell BKg1.out 0).trans rfl; have hfzg1 := blk_frozen BKg1.out 0; have hczg4 : w7.cell? ⟨g4, 0, none⟩ = some (.slice Ao9 t8.length co9) := (blk_cell BKg4.out 0).trans rfl; have hfzg4 := blk_frozen BKg4.out 0; have hczg6 : w7.cell? ⟨g6, 0, none⟩ = some (.slice none 0 0) := (blk_cell BKg6.out 0).trans rfl; have hfzg6 := blk_frozen BKg6.out 0) | ((with_reducible refine gate_callee (f := 36) rfl ?_); refine goesL_ (some 29) rfl rfl Try.func36 (by kernel_rfl) rfl #[.agg #[.slice Ao13 t12.length co13]] rfl (by (try simp only [yiy, yjy, yky]); first | done | rfl | (simp only [yly, ymy]; rfl)) ?_; (with_reducible refine (impl_MirrorForm.calls k _ _ t12 t15 t17 _ ?side1 ?side2 H14.out).mono ?_); (case side1 => exact (ObS.reads (ObS.far (g := g6) (i := 0) HOo13.out (by have := HNg1.out; have := HNo6.out; have := HNo9.out; have := HNg4.out; have := HNo13.out; have := HNg6.out; omega) _)).2.2); (case side2 => exact ObS.room HOo13.out); rintro e w8 ⟨vo16, rfl, ho0, hb⟩; refine ⟨_, rfl, ?_⟩; (try clear hczg1 hfzg1 hczg4 hfzg4 hczg6 hfzg6); obtain ⟨loo16, hio16, hno16⟩ := ObS.made ho0 hb (top_far HT.out) (below_size (below_set HB.out (show w.heap.size ≤ g6 from (by have := HNg1.out; have := HNo6.out; have := HNo9.out; have := HNg4.out; have := HNo13.out; have := HNg6.out; omega)))); have nOo6 := Aside0.mk (ObS.below (ObS.far (g := g6) (i := 0) HOo6.out (by have := HNg1.out; have := HNo6.out; have := HNo9.out; have := HNg4.out; have := HNo13.out; have := HNg6.out; omega) _) hb); have nOo9 := Aside0.mk (ObS.below (ObS.far (g := g6) (i := 0) HOo9.out (by have := HNg1.out; have := HNo6.out; have := HNo9.out; have := HNg4.out; have := HNo13.out; have := HNg6.out; omega) _) hb); have nOo13 := Aside0.mk (ObS.below (ObS.far (g := g6) (i := 0) HOo13.out (by have := HNg1.out; have := HNo6.out; have := HNo9.out; have := HNg4.out; have := HNo13.out; have := HNg6.out; omega) _) hb); have nBg1 := Aside0.mk (blk_below (g := g1) (o := .cells #[.slice A0 l0.length c0] 24 (0, 0)) (blk_far (p := ⟨g6, 0, none⟩) BKg1.out (show g1 ≠ g6 from (by have := HNg1.out; have := HNo6.out; have := HNo9.out; have := HNg4.out; have := HNo13.out; have := HNg6.out; omega)) _) hb); have nBg4 := Aside0.mk (blk_below (g := g4) (o := .cells #[.slice Ao9 t8.length co9] 28 (0, 0)) (blk_far (p := ⟨g6, 0, none⟩) BKg4.out (show g4 ≠ g6 from (by have := HNg1.out; have := HNo6.out; have := HNo9.out; have := HNg4.out; have := HNo13.out; have := HNg6.out; omega)) _) hb); have nBg6 := Aside0.mk (blk_below (g := g6) (o := .cells #[.slice Ao13 t12.length co13] 28 (0, 0)) (blk_put (cs := #[.slice none 0 0]) BKg6.out 0 _ rfl) hb); have nHB := Aside0.mk (below_step (below_set HB.out (show w.heap.size ≤ g6 from (by have := HNg1.out; have := HNo6.out; have := HNo9.out; have := HNg4.out; have := HNo13.out; have := HNg6.out; omega))) hb); have nHT := Aside0.mk (top_below (top_far HT.out) hb); clear HB HT HOo6 HOo9 HOo13 BKg1 BKg4 BKg6; have HOo6 := nOo6; have HOo9 := nOo9; have HOo13 := nOo13; have BKg1 := nBg1; have BKg4 := nBg4; have BKg6 := nBg6; have HB := nHB; have HT := nHT; clear nHB nHT nOo6 nOo9 nOo13 nBg1 nBg4 nBg6; have HNo16 := Aside0.mk hno16.1; clear HT; have HT := Aside0.mk hno16.2.1; have HOo16 := Aside0.mk hno16.2.2; clear hno16 ho0; obtain ⟨Ao16, co16, eeo16⟩ := HOo16.out.slice; subst eeo16; (try clear hb); (try clear hnd); have hczg1 : w8.cell? ⟨g1, 0, none⟩ = some (.slice A0 l0.length c0) := (blk_cell BKg1.out 0).trans rfl; have hfzg1 := blk_frozen BKg1.out 0; have hczg4 : w8.cell? ⟨g4, 0, none⟩ = some (.slice Ao9 t8.length co9) := (blk_cell BKg4.out 0).trans rfl; have hfzg4 := blk_frozen BKg4.out 0; have hczg6 : w8.cell? ⟨g6, 0, none⟩ = some (.slice Ao13 t12.length co13) := (blk_cell BKg6.out 0).trans rfl; have hfzg6 := blk_frozen BKg6.out 0) | ((with_reducible refine gate_dst (N := 7) rfl ?_); refine box_event ?hg (N := 7) ?hd (cs := #[.slice none 0 0]) (t := 28) ?hr ?_; (case hd => rfl); (case hg => rfl); (case hr => first | (go_simp; done) | (go_simp; rfl)); intro g7 hg w9 hbox hb; (try clear hczg1 hfzg1 hczg4 hfzg4 hczg6 hfzg6); have HNg7 := Aside0.mk (by rw [hg]; exact HT.out : hio16 ≤ g7); have HXg7 := Aside0.mk (show g7 + 1 ≤ w9.heap.size from blk_lt hbox); have nOo6 := Aside0.mk (ObS.below HOo6.out hb); have nOo9 := Aside0.mk (ObS.below HOo9.out hb); have nOo13 := Aside0.mk (ObS.below HOo13.out hb); have nOo16 := Aside0.mk (ObS.below HOo16.out hb); have nBg1 := Aside0.mk (blk_below (g := g1) (o := .cells #[.slice A0 l0.length c0] 24 (0, 0)) BKg1.out hb); have nBg4 := Aside0.mk (blk_below (g := g4) (o := .cells #[.slice Ao9 t8.length co9] 28 (0, 0)) BKg4.out hb); have nBg6 := Aside0.mk (blk_below (g := g6) (o := .cells #[.slice Ao13 t12.length co13] 28 (0, 0)) BKg6.out hb); have nHB := Aside0.mk (below_step HB.out hb); have nHT := Aside0.mk (top_below HT.out hb); clear HB HT HOo6 HOo9 HOo13 HOo16 BKg1 BKg4 BKg6; have HOo6 := nOo6; have HOo9 := nOo9; have HOo13 := nOo13; have HOo16 := nOo16; have BKg1 := nBg1; have BKg4 := nBg4; have BKg6 := nBg6; have HB := nHB; have HT := nHT; clear nHB nHT nOo6 nOo9 nOo13 nOo16 nBg1 nBg4 nBg6; clear HT; have HT := HXg7; clear HXg7; have BKg7 := Aside0.mk hbox; clear hg hbox hb; have hnbg7_g1 : g7 ≠ g1 := (by have := HNg1.out; have := HNo6.out; have := HNo9.out; have := HNg4.out; have := HNo13.out; have := HNg6.out; have := HNo16.out; have := HNg7.out; omega); have hnbg1_g7 : g1 ≠ g7 := (by have := HNg1.out; have := HNo6.out; have := HNo9.out; have := HNg4.out; have := HNo13.out; have := HNg6.out; have := HNo16.out; have := HNg7.out; omega); have hnbg7_g4 : g7 ≠ g4 := (by have := HNg1.out; have := HNo6.out; have := HNo9.out; have := HNg4.out; have := HNo13.out; have := HNg6.out; have := HNo16.out; have := HNg7.out; omega); have hnbg4_g7 : g4 ≠ g7 := (by have := HNg1.out; have := HNo6.out; have := HNo9.out; have := HNg4.out; have := HNo13.out; have := HNg6.out; have := HNo16.out; have := HNg7.out; omega); have hnbg7_g6 : g7 ≠ g6 := (by have := HNg1.out; have := HNo6.out; have := HNo9.out; have := HNg4.out; have := HNo13.out; have := HNg6.out; have := HNo16.out; have := HNg7.out; omega); have hnbg6_g7 : g6 ≠ g7 := (by have := HNg1.out; have := HNo6.out; have := HNo9.out; have := HNg4.out; have := HNo13.out; have := HNg6.out; have := HNo16.out; have := HNg7.out; omega); have hczg1 : w9.cell? ⟨g1, 0, none⟩ = some (.slice A0 l0.length c0) := (blk_cell BKg1.out 0).trans rfl; have hfzg1 := blk_frozen BKg1.out 0; have hczg4 : w9.cell? ⟨g4, 0, none⟩ = some (.slice Ao9 t8.length co9) := (blk_cell BKg4.out 0).trans rfl; have hfzg4 := blk_frozen BKg4.out 0; have hczg6 : w9.cell? ⟨g6, 0, none⟩ = some (.slice Ao13 t12.length co13) := (blk_cell BKg6.out 0).trans rfl; have hfzg6 := blk_frozen BKg6.out 0; have hczg7 : w9.cell? ⟨g7, 0, none⟩ = some (.slice none 0 0) := (blk_cell BKg7.out 0).trans rfl; have hfzg7 := blk_frozen BKg7.out 0) | ((with_reducible refine gate_callee (f := 19) rfl ?_); refine goesL_ (some 34) rfl rfl Try.func19 (by kernel_rfl) rfl #[.agg #[.slice Ao16 t15.length co16], .agg #[.slice Ao9 t8.length co9]] rfl (by (try simp only [yiy, yjy, yky]); first | done | rfl | (simp only [yly, ymy]; rfl)) ?_; (with_reducible refine (laws_eqTriangulation.calls k _ _ t15 _ _ t8 true _ ?side1 ?side2 ?side3 ?side4 H18.out).mono ?_); (case side1 => exact (ObS.reads (ObS.far (g := g7) (i := 0) HOo16.out (by have := HNg1.out; have := HNo6.out; have := HNo9.out; have := HNg4.out; have := HNo13.out; have := HNg6.out; have := HNo16.out; have := HNg7.out; omega) _)).2.2); (case side2 => exact ObS.room HOo16.out); (case side3 => exact (ObS.reads (ObS.far (g := g7) (i := 0) HOo9.out (by have := HNg1.out; have := HNo6.out; have := HNo9.out; have := HNg4.out; have := HNo13.out; have := HNg6.out; have := HNo16.out; have := HNg7.out; omega) _)).2.2); (case side4 => exact ObS.room HOo9.out); rintro e w10 ⟨rfl, hb⟩; refine ⟨_, rfl, ?_⟩; (try clear hczg1 hfzg1 hczg4 hfzg4 hczg6 hfzg6 hczg7 hfzg7); have nOo6 := Aside0.mk (ObS.below (ObS.far (g := g7) (i := 0) HOo6.out (by have := HNg1.out; have := HNo6.out; have := HNo9.out; have := HNg4.out; have := HNo13.out; have := HNg6.out; have := HNo16.out; have := HNg7.out; omega) _) hb); have nOo9 := Aside0.mk (ObS.below (ObS.far (g := g7) (i := 0) HOo9.out (by have := HNg1.out; have := HNo6.out; have := HNo9.out; have := HNg4.out; have := HNo13.out; have := HNg6.out; have := HNo16.out; have := HNg7.out; omega) _) hb); have nOo13 := Aside0.mk (ObS.below (ObS.far (g := g7) (i := 0) HOo13.out (by have := HNg1.out; have := HNo6.out; have := HNo9.out; have := HNg4.out; have := HNo13.out; have := HNg6.out; have := HNo16.out; have := HNg7.out; omega) _) hb); have nOo16 := Aside0.mk (ObS.below (ObS.far (g := g7) (i := 0) HOo16.out (by have := HNg1.out; have := HNo6.out; have := HNo9.out; have := HNg4.out; have := HNo13.out; have := HNg6.out; have := HNo16.out; have := HNg7.out; omega) _) hb); have nBg1 := Aside0.mk (blk_below (g := g1) (o := .cells #[.slice A0 l0.length c0] 24 (0, 0)) (blk_far (p := ⟨g7, 0, none⟩) BKg1.out (show g1 ≠ g7 from (by have := HNg1.out; have := HNo6.out; have := HNo9.out; have := HNg4.out; have := HNo13.out; have := HNg6.out; have := HNo16.out; have := HNg7.out; omega)) _) hb); have nBg4 := Aside0.mk (blk_below (g := g4) (o := .cells #[.slice Ao9 t8.length co9] 28 (0, 0)) (blk_far (p := ⟨g7, 0, none⟩) BKg4.out (show g4 ≠ g7 from (by have := HNg1.out; have := HNo6.out; have := HNo9.out; have := HNg4.out; have := HNo13.out; have := HNg6.out; have := HNo16.out; have := HNg7.out; omega)) _) hb); have nBg6 := Aside0.mk (blk_below (g := g6) (o := .cells #[.slice Ao13 t12.length co13] 28 (0, 0)) (blk_far (p := ⟨g7, 0, none⟩) BKg6.out (show g6 ≠ g7 from (by have := HNg1.out; have := HNo6.out; have := HNo9.out; have := HNg4.out; have := HNo13.out; have := HNg6.out; have := HNo16.out; have := HNg7.out; omega)) _) hb); have nBg7 := Aside0.mk (blk_below (g := g7) (o := .cells #[.slice Ao16 t15.length co16] 28 (0, 0)) (blk_put (cs := #[.slice none 0 0]) BKg7.out 0 _ rfl) hb); have nHB := Aside0.mk (below_step (below_set HB.out (show w.heap.size ≤ g7 from (by have := HNg1.out; have := HNo6.out; have := HNo9.out; have := HNg4.out; have := HNo13.out; have := HNg6.out; have := HNo16.out; have := HNg7.out; omega))) hb); have nHT := Aside0.mk (top_below (top_far HT.out) hb); clear HB HT HOo6 HOo9 HOo13 HOo16 BKg1 BKg4 BKg6 BKg7; have HOo6 := nOo6; have HOo9 := nOo9; have HOo13 := nOo13; have HOo16 := nOo16; have BKg1 := nBg1; have BKg4 := nBg4; have BKg6 := nBg6; have BKg7 := nBg7; have HB := nHB; have HT := nHT; clear nHB nHT nOo6 nOo9 nOo13 nOo16 nBg1 nBg4 nBg6 nBg7; (try clear hb); (try clear hnd); have hczg1 : w10.cell? ⟨g1, 0, none⟩ = some (.slice A0 l0.length c0) := (blk_cell BKg1.out 0).trans rfl; have hfzg1 := blk_frozen BKg1.out 0; have hczg4 : w10.cell? ⟨g4, 0, none⟩ = some (.slice Ao9 t8.length co9) := (blk_cell BKg4.out 0).trans rfl; have hfzg4 := blk_frozen BKg4.out 0; have hczg6 : w10.cell? ⟨g6, 0, none⟩ = some (.slice Ao13 t12.length co13) := (blk_cell BKg6.out 0).trans rfl; have hfzg6 := blk_frozen BKg6.out 0; have hczg7 : w10.cell? ⟨g7, 0, none⟩ = some (.slice Ao16 t15.length co16) := (blk_cell BKg7.out 0).trans rfl; have hfzg7 := blk_frozen BKg7.out 0))
 (try clear hczg1 hfzg1 hczg4 hfzg4 hczg6 hfzg6 hczg7 hfzg7)
 have nOo6 := Aside0.mk (ObS.drew HOo6.out)
 have nOo9 := Aside0.mk (ObS.drew HOo9.out)
 have nOo13 := Aside0.mk (ObS.drew HOo13.out)
 have nOo16 := Aside0.mk (ObS.drew HOo16.out)
 have nBg1 := Aside0.mk (blk_drew BKg1.out)
 have nBg4 := Aside0.mk (blk_drew BKg4.out)
 have nBg6 := Aside0.mk (blk_drew BKg6.out)
 have nBg7 := Aside0.mk (blk_drew BKg7.out)
 have nHB := Aside0.mk (below_drew1 HB.out)
 have nHT := Aside0.mk (top_drew HT.out)
 clear HB HT HOo6 HOo9 HOo13 HOo16 BKg1 BKg4 BKg6 BKg7
 have HOo6 := nOo6
 have HOo9 := nOo9
 have HOo13 := nOo13
 have HOo16 := nOo16
 have BKg1 := nBg1
 have BKg4 := nBg4
 have BKg6 := nBg6
 have BKg7 := nBg7
 have HB := nHB
 have HT := nHT
 clear nHB nHT nOo6 nOo9 nOo13 nOo16 nBg1 nBg4 nBg6 nBg7
 refine start_ (n := 5) (S := fun w' => w'.cell? ⟨g6, 0, none⟩ = some (.slice Ao13 t12.length co13) ∧ w'.cell? ⟨g1, 0, none⟩ = some (.slice A0 l0.length c0)) (ds := []) #[false, false, false, false, false] (by kernel_rfl) rfl rfl ⟨(blk_cell BKg6.out 0).trans rfl, (blk_cell BKg1.out 0).trans rfl⟩ (fun hHeld => ?_)
 generalize hdr_ : World.drew _ = w11 at HOo6 HOo9 HOo13 HOo16 BKg1 BKg4 BKg6 BKg7 HB HT hHeld ⊢
 (try clear hdr_)
 refine take_ (i := 0) (N := some 41) (v := ?_) (a' := ?_) #[true, false, false, false, false] rfl rfl (by kernel_rfl) (fun _ _ _ h => h) (Or.inl ⟨by rfl, ?_⟩) hHeld ?_ ?_
 rotate_left
 next =>
  rintro w' ⟨s0, s1⟩
  go_simp
  with_reducible rfl
 rotate_left
 next =>
  simp only [Act.put, yay, yby, ycy, i64_w, i32_w]
  rfl
 refine take_ (i := 1) (N := some 42) (v := ?_) (a' := ?_) #[true, true, false, false, false] rfl rfl (by kernel_rfl) (fun _ _ _ h => h) (Or.inl ⟨by rfl, ?_⟩) hHeld ?_ ?_
 rotate_left
 next =>
  rintro w' ⟨s0, s1⟩
  go_simp
  with_reducible rfl
 rotate_left
 next =>
  simp only [Act.put, yay, yby, ycy, i64_w, i32_w]
  rfl
 refine one_ (i := 2) (N := some 43) #[true, true, true, false, false] rfl rfl (by kernel_rfl) (by decide) (fun K hK => ?_)
 refine goes_ Try.func17 (by kernel_rfl) rfl #[.agg #[.slice A0 l0.length c0]] (by rfl) rfl rfl (by (try simp only [yiy, yjy, yky]); first | done | rfl | (simp only [yly, ymy]; rfl)) ?_
 with_reducible refine (laws_toTriangulation.calls k _ _ l0 t22 _ ?side1 ?side2 H21.out).mono ?_
 (case side1 => exact Kd.C_below HR0.out HB.out)
 (case side2 => exact HC0.out)
 rintro e w12 ⟨vo23, rfl, ho0, hb⟩
 refine ⟨_, rfl, ?_⟩
 (try clear hczg1 hfzg1 hczg4 hfzg4 hczg6 hfzg6 hczg7 hfzg7)
 obtain ⟨loo23, hio23, hno23⟩ := ObS.made ho0 hb HT.out (below_size HB.out)
 have nOo6 := Aside0.mk (ObS.below HOo6.out hb)
 have nOo9 := Aside0.mk (ObS.below HOo9.out hb)
 have nOo13 := Aside0.mk (ObS.below HOo13.out hb)
 have nOo16 := Aside0.mk (ObS.below HOo16.out hb)
 have nBg1 := Aside0.mk (blk_below (g := g1) (o := .cells #[.slice A0 l0.length c0] 24 (0, 0)) BKg1.out hb)
 have nBg4 := Aside0.mk (blk_below (g := g4) (o := .cells #[.slice Ao9 t8.length co9] 28 (0, 0)) BKg4.out hb)
 have nBg6 := Aside0.mk (blk_below (g := g6) (o := .cells #[.slice Ao13 t12.length co13] 28 (0, 0)) BKg6.out hb)
 have nBg7 := Aside0.mk (blk_below (g := g7) (o := .cells #[.slice Ao16 t15.length co16] 28 (0, 0)) BKg7.out hb)
 have nHB := Aside0.mk (below_step HB.out hb)
 have nHT := Aside0.mk (top_below HT.out hb)
 clear HB HT HOo6 HOo9 HOo13 HOo16 BKg1 BKg4 BKg6 BKg7
 have HOo6 := nOo6
 have HOo9 := nOo9
 have HOo13 := nOo13
 have HOo16 := nOo16
 have BKg1 := nBg1
 have BKg4 := nBg4
 have BKg6 := nBg6
 have BKg7 := nBg7
 have HB := nHB
 have HT := nHT
 clear nHB nHT nOo6 nOo9 nOo13 nOo16 nBg1 nBg4 nBg6 nBg7
 have HNo23 := Aside0.mk hno23.1
 clear HT
 have HT := Aside0.mk hno23.2.1
 have HOo23 := Aside0.mk hno23.2.2
 clear hno23 ho0
 obtain ⟨Ao23, co23, eeo23⟩ := HOo23.out.slice
 subst eeo23
 (try clear hb)
 (try clear hnd)
 refine hK.out _ _ ⟨(blk_cell BKg6.out 0).trans rfl, (blk_cell BKg1.out 0).trans rfl⟩ (fun hHeld => ?_)
 clear hK K
 refine norm_ (a' := ?_) ?_ ?_
 rotate_left
 next =>
  show Act.put _ (some 43) _ = _
  simp only [Act.put, yay, yby, ycy, i64_w, i32_w]
  rfl
 refine one_ (i := 3) (N := some 44) #[true, true, true, true, false] rfl rfl (by kernel_rfl) (by decide) (fun K hK => ?_)
 refine goes_ Try.func19 (by kernel_rfl) rfl #[.agg #[.slice Ao13 t12.length co13], .agg #[.slice Ao23 t22.length co23]] (by rfl) rfl rfl (by (try simp only [yiy, yjy, yky]); first | done | rfl | (simp only [yly, ymy]; rfl)) ?_
 with_reducible refine (laws_eqTriangulation.calls k _ _ t12 _ _ t22 true _ ?side1 ?side2 ?side3 ?side4 H24.out).mono ?_
 (case side1 => exact (ObS.reads HOo13.out).2.2)
 (case side2 => exact ObS.room HOo13.out)
 (case side3 => exact (ObS.reads HOo23.out).2.2)
 (case side4 => exact ObS.room HOo23.out)
 rintro e w13 ⟨rfl, hb⟩
 refine ⟨_, rfl, ?_⟩
 (try clear hczg1 hfzg1 hczg4 hfzg4 hczg6 hfzg6 hczg7 hfzg7)
 have nOo6 := Aside0.mk (ObS.below HOo6.out hb)
 have nOo9 := Aside0.mk (ObS.below HOo9.out hb)
 have nOo13 := Aside0.mk (ObS.below HOo13.out hb)
 have nOo16 := Aside0.mk (ObS.below HOo16.out hb)
 have nOo23 := Aside0.mk (ObS.below HOo23.out hb)
 have nBg1 := Aside0.mk (blk_below (g := g1) (o := .cells #[.slice A0 l0.length c0] 24 (0, 0)) BKg1.out hb)
 have nBg4 := Aside0.mk (blk_below (g := g4) (o := .cells #[.slice Ao9 t8.length co9] 28 (0, 0)) BKg4.out hb)
 have nBg6 := Aside0.mk (blk_below (g := g6) (o := .cells #[.slice Ao13 t12.length co13] 28 (0, 0)) BKg6.out hb)
 have nBg7 := Aside0.mk (blk_below (g := g7) (o := .cells #[.slice Ao16 t15.length co16] 28 (0, 0)) BKg7.out hb)
 have nHB := Aside0.mk (below_step HB.out hb)
 have nHT := Aside0.mk (top_below HT.out hb)
 clear HB HT HOo6 HOo9 HOo13 HOo16 HOo23 BKg1 BKg4 BKg6 BKg7
 have HOo6 := nOo6
 have HOo9 := nOo9
 have HOo13 := nOo13
 have HOo16 := nOo16
 have HOo23 := nOo23
 have BKg1 := nBg1
 have BKg4 := nBg4
 have BKg6 := nBg6
 have BKg7 := nBg7
 have HB := nHB
 have HT := nHT
 clear nHB nHT nOo6 nOo9 nOo13 nOo16 nOo23 nBg1 nBg4 nBg6 nBg7
 (try clear hb)
 (try clear hnd)
 refine hK.out _ _ ⟨(blk_cell BKg6.out 0).trans rfl, (blk_cell BKg1.out 0).trans rfl⟩ (fun hHeld => ?_)
 clear hK K
 refine norm_ (a' := ?_) ?_ ?_
 rotate_left
 next =>
  show Act.put _ (some 44) _ = _
  simp only [Act.put, yay, yby, ycy, i64_w, i32_w]
  rfl
 refine pure_ (i := 4) (N := some 45) (v := ?_) (a' := ?_) #[true, true, true, true, true] rfl rfl (by kernel_rfl) (fun _ _ _ h => h) (Or.inl ⟨by rfl, ?_⟩) ?_ ?_
 rotate_left
 next =>
  intro w'
  go_simp
  with_reducible rfl
 rotate_left
 next =>
  simp only [Act.put, yay, yby, ycy, i64_w, i32_w]
  rfl
 refine done_ (by kernel_rfl) ?_
 have hczg1 : w13.cell? ⟨g1, 0, none⟩ = some (.slice A0 l0.length c0) := (blk_cell BKg1.out 0).trans rfl
 have hfzg1 := blk_frozen BKg1.out 0
 have hczg4 : w13.cell? ⟨g4, 0, none⟩ = some (.slice Ao9 t8.length co9) := (blk_cell BKg4.out 0).trans rfl
 have hfzg4 := blk_frozen BKg4.out 0
 have hczg6 : w13.cell? ⟨g6, 0, none⟩ = some (.slice Ao13 t12.length co13) := (blk_cell BKg6.out 0).trans rfl
 have hfzg6 := blk_frozen BKg6.out 0
 have hczg7 : w13.cell? ⟨g7, 0, none⟩ = some (.slice Ao16 t15.length co16) := (blk_cell BKg7.out 0).trans rfl
 have hfzg7 := blk_frozen BKg7.out 0
 try go_wp2_with (first | ((with_reducible refine gate_callee (f := 20) rfl ?_); refine goesL_ (some 48) rfl rfl Try.func20 (by kernel_rfl) rfl #[.agg #[.slice Ao13 t12.length co13], .int .i64 1] rfl (by (try simp only [yiy, yjy, yky]); first | done | rfl | (simp only [yly, ymy]; rfl)) ?_; (with_reducible refine (laws_markTriangulation.calls k (fun k_ => loo13 ≤ k_ ∧ k_ < hio13) (.slice Ao13 t12.length co13) t12 1 m27 y28 w _ HB.out (ObS.row HOo13.out) H26.out).mono ?_); rintro e w14 ⟨rfl, hy, hb, hk0⟩; refine ⟨_, rfl, ?_⟩; have hk := hk0; have nM := Aside0.mk (ObS.marked HOo13.out hy hk.1); (try clear hczg1 hfzg1 hczg4 hfzg4 hczg6 hfzg6 hczg7 hfzg7); have nOo6 := Aside0.mk (ObS.kept HOo6.out hk (by have := HNg1.out; have := HNo6.out; have := HNo9.out; have := HNg4.out; have := HNo13.out; have := HNg6.out; have := HNo16.out; have := HNg7.out; have := HNo23.out; omega)); have nOo9 := Aside0.mk (ObS.kept HOo9.out hk (by have := HNg1.out; have := HNo6.out; have := HNo9.out; have := HNg4.out; have := HNo13.out; have := HNg6.out; have := HNo16.out; have := HNg7.out; have := HNo23.out; omega)); have nOo16 := Aside0.mk (ObS.kept HOo16.out hk (by have := HNg1.out; have := HNo6.out; have := HNo9.out; have := HNg4.out; have := HNo13.out; have := HNg6.out; have := HNo16.out; have := HNg7.out; have := HNo23.out; omega)); have nOo23 := Aside0.mk (ObS.kept HOo23.out hk (by have := HNg1.out; have := HNo6.out; have := HNo9.out; have := HNg4.out; have := HNo13.out; have := HNg6.out; have := HNo16.out; have := HNg7.out; have := HNo23.out; omega)); have nBg1 := Aside0.mk (blk_kept (g := g1) (o := .cells #[.slice A0 l0.length c0] 24 (0, 0)) BKg1.out hk (fun h_ => by have h1_ := h_.1; have h2_ := h_.2; have := HNg1.out; have := HNo6.out; have := HNo9.out; have := HNg4.out; have := HNo13.out; have := HNg6.out; have := HNo16.out; have := HNg7.out; have := HNo23.out; omega)); have nBg4 := Aside0.mk (blk_kept (g := g4) (o := .cells #[.slice Ao9 t8.length co9] 28 (0, 0)) BKg4.out hk (fun h_ => by have h1_ := h_.1; have h2_ := h_.2; have := HNg1.out; have := HNo6.out; have := HNo9.out; have := HNg4.out; have := HNo13.out; have := HNg6.out; have := HNo16.out; have := HNg7.out; have := HNo23.out; omega)); have nBg6 := Aside0.mk (blk_kept (g := g6) (o := .cells #[.slice Ao13 t12.length co13] 28 (0, 0)) BKg6.out hk (fun h_ => by have h1_ := h_.1; have h2_ := h_.2; have := HNg1.out; have := HNo6.out; have := HNo9.out; have := HNg4.out; have := HNo13.out; have := HNg6.out; have := HNo16.out; have := HNg7.out; have := HNo23.out; omega)); have nBg7 := Aside0.mk (blk_kept (g := g7) (o := .cells #[.slice Ao16 t15.length co16] 28 (0, 0)) BKg7.out hk (fun h_ => by have h1_ := h_.1; have h2_ := h_.2; have := HNg1.out; have := HNo6.out; have := HNo9.out; have := HNg4.out; have := HNo13.out; have := HNg6.out; have := HNo16.out; have := HNg7.out; have := HNo23.out; omega)); have nHT := Aside0.mk (Nat.le_trans HT.out hk.1); clear HB HT HOo6 HOo9 HOo13 HOo16 HOo23 BKg1 BKg4 BKg6 BKg7; have HOo6 := nOo6; have HOo9 := nOo9; have HOo13 := nM; have HOo16 := nOo16; have HOo23 := nOo23; have BKg1 := nBg1; have BKg4 := nBg4; have BKg6 := nBg6; have BKg7 := nBg7; have HB := Aside0.mk hb; have HT := nHT; (try clear hy); clear hb hk0 hk nM nHT nOo6 nOo9 nOo16 nOo23 nBg1 nBg4 nBg6 nBg7; have hczg1 : w14.cell? ⟨g1, 0, none⟩ = some (.slice A0 l0.length c0) := (blk_cell BKg1.out 0).trans rfl; have hfzg1 := blk_frozen BKg1.out 0; have hczg4 : w14.cell? ⟨g4, 0, none⟩ = some (.slice Ao9 t8.length co9) := (blk_cell BKg4.out 0).trans rfl; have hfzg4 := blk_frozen BKg4.out 0; have hczg6 : w14.cell? ⟨g6, 0, none⟩ = some (.slice Ao13 t12.length co13) := (blk_cell BKg6.out 0).trans rfl; have hfzg6 := blk_frozen BKg6.out 0; have hczg7 : w14.cell? ⟨g7, 0, none⟩ = some (.slice Ao16 t15.length co16) := (blk_cell BKg7.out 0).trans rfl; have hfzg7 := blk_frozen BKg7.out 0))
 try go_wp2_with (first | (go_at_call 19; (with_reducible refine (laws_eqTriangulation.calls k _ _ t15 _ _ t8 true _ ?side1 ?side2 ?side3 ?side4 H30.out).mono ?_); (case side1 => exact (ObS.reads HOo16.out).2.2); (case side2 => exact ObS.room HOo16.out); (case side3 => exact (ObS.reads HOo9.out).2.2); (case side4 => exact ObS.room HOo9.out); rintro e w15 ⟨rfl, hb⟩; (try clear hczg1 hfzg1 hczg4 hfzg4 hczg6 hfzg6 hczg7 hfzg7); have nOo6 := Aside0.mk (ObS.below HOo6.out hb); have nOo9 := Aside0.mk (ObS.below HOo9.out hb); have nOo13 := Aside0.mk (ObS.below HOo13.out hb); have nOo16 := Aside0.mk (ObS.below HOo16.out hb); have nOo23 := Aside0.mk (ObS.below HOo23.out hb); have nBg1 := Aside0.mk (blk_below (g := g1) (o := .cells #[.slice A0 l0.length c0] 24 (0, 0)) BKg1.out hb); have nBg4 := Aside0.mk (blk_below (g := g4) (o := .cells #[.slice Ao9 t8.length co9] 28 (0, 0)) BKg4.out hb); have nBg6 := Aside0.mk (blk_below (g := g6) (o := .cells #[.slice Ao13 t12.length co13] 28 (0, 0)) BKg6.out hb); have nBg7 := Aside0.mk (blk_below (g := g7) (o := .cells #[.slice Ao16 t15.length co16] 28 (0, 0)) BKg7.out hb); have nHB := Aside0.mk (below_step HB.out hb); have nHT := Aside0.mk (top_below HT.out hb); clear HB HT HOo6 HOo9 HOo13 HOo16 HOo23 BKg1 BKg4 BKg6 BKg7; have HOo6 := nOo6; have HOo9 := nOo9; have HOo13 := nOo13; have HOo16 := nOo16; have HOo23 := nOo23; have BKg1 := nBg1; have BKg4 := nBg4; have BKg6 := nBg6; have BKg7 := nBg7; have HB := nHB; have HT := nHT; clear nHB nHT nOo6 nOo9 nOo13 nOo16 nOo23 nBg1 nBg4 nBg6 nBg7; (try clear hb); (try clear hnd); have hczg1 : w15.cell? ⟨g1, 0, none⟩ = some (.slice A0 l0.length c0) := (blk_cell BKg1.out 0).trans rfl; have hfzg1 := blk_frozen BKg1.out 0; have hczg4 : w15.cell? ⟨g4, 0, none⟩ = some (.slice Ao9 t8.length co9) := (blk_cell BKg4.out 0).trans rfl; have hfzg4 := blk_frozen BKg4.out 0; have hczg6 : w15.cell? ⟨g6, 0, none⟩ = some (.slice Ao13 t12.length co13) := (blk_cell BKg6.out 0).trans rfl; have hfzg6 := blk_frozen BKg6.out 0; have hczg7 : w15.cell? ⟨g7, 0, none⟩ = some (.slice Ao16 t15.length co16) := (blk_cell BKg7.out 0).trans rfl; have hfzg7 := blk_frozen BKg7.out 0) | ((with_reducible refine gate_callee (f := 20) rfl ?_); refine goesL_ (some 64) rfl rfl Try.func20 (by kernel_rfl) rfl #[.agg #[.slice Ao16 t15.length co16], .int .i64 1] rfl (by (try simp only [yiy, yjy, yky]); first | done | rfl | (simp only [yly, ymy]; rfl)) ?_; (with_reducible refine (laws_markTriangulation.calls k (fun k_ => loo16 ≤ k_ ∧ k_ < hio16) (.slice Ao16 t15.length co16) t15 1 m34 y35 w _ HB.out (ObS.row HOo16.out) H33.out).mono ?_); rintro e w16 ⟨rfl, hy, hb, hk0⟩; refine ⟨_, rfl, ?_⟩; have hk := hk0; have nM := Aside0.mk (ObS.marked HOo16.out hy hk.1); (try clear hczg1 hfzg1 hczg4 hfzg4 hczg6 hfzg6 hczg7 hfzg7); have nOo6 := Aside0.mk (ObS.kept HOo6.out hk (by have := HNg1.out; have := HNo6.out; have := HNo9.out; have := HNg4.out; have := HNo13.out; have := HNg6.out; have := HNo16.out; have := HNg7.out; have := HNo23.out; omega)); have nOo9 := Aside0.mk (ObS.kept HOo9.out hk (by have := HNg1.out; have := HNo6.out; have := HNo9.out; have := HNg4.out; have := HNo13.out; have := HNg6.out; have := HNo16.out; have := HNg7.out; have := HNo23.out; omega)); have nOo13 := Aside0.mk (ObS.kept HOo13.out hk (by have := HNg1.out; have := HNo6.out; have := HNo9.out; have := HNg4.out; have := HNo13.out; have := HNg6.out; have := HNo16.out; have := HNg7.out; have := HNo23.out; omega)); have nOo23 := Aside0.mk (ObS.kept HOo23.out hk (by have := HNg1.out; have := HNo6.out; have := HNo9.out; have := HNg4.out; have := HNo13.out; have := HNg6.out; have := HNo16.out; have := HNg7.out; have := HNo23.out; omega)); have nBg1 := Aside0.mk (blk_kept (g := g1) (o := .cells #[.slice A0 l0.length c0] 24 (0, 0)) BKg1.out hk (fun h_ => by have h1_ := h_.1; have h2_ := h_.2; have := HNg1.out; have := HNo6.out; have := HNo9.out; have := HNg4.out; have := HNo13.out; have := HNg6.out; have := HNo16.out; have := HNg7.out; have := HNo23.out; omega)); have nBg4 := Aside0.mk (blk_kept (g := g4) (o := .cells #[.slice Ao9 t8.length co9] 28 (0, 0)) BKg4.out hk (fun h_ => by have h1_ := h_.1; have h2_ := h_.2; have := HNg1.out; have := HNo6.out; have := HNo9.out; have := HNg4.out; have := HNo13.out; have := HNg6.out; have := HNo16.out; have := HNg7.out; have := HNo23.out; omega)); have nBg6 := Aside0.mk (blk_kept (g := g6) (o := .cells #[.slice Ao13 t12.length co13] 28 (0, 0)) BKg6.out hk (fun h_ => by have h1_ := h_.1; have h2_ := h_.2; have := HNg1.out; have := HNo6.out; have := HNo9.out; have := HNg4.out; have := HNo13.out; have := HNg6.out; have := HNo16.out; have := HNg7.out; have := HNo23.out; omega)); have nBg7 := Aside0.mk (blk_kept (g := g7) (o := .cells #[.slice Ao16 t15.length co16] 28 (0, 0)) BKg7.out hk (fun h_ => by have h1_ := h_.1; have h2_ := h_.2; have := HNg1.out; have := HNo6.out; have := HNo9.out; have := HNg4.out; have := HNo13.out; have := HNg6.out; have := HNo16.out; have := HNg7.out; have := HNo23.out; omega)); have nHT := Aside0.mk (Nat.le_trans HT.out hk.1); clear HB HT HOo6 HOo9 HOo13 HOo16 HOo23 BKg1 BKg4 BKg6 BKg7; have HOo6 := nOo6; have HOo9 := nOo9; have HOo13 := nOo13; have HOo16 := nM; have HOo23 := nOo23; have BKg1 := nBg1; have BKg4 := nBg4; have BKg6 := nBg6; have BKg7 := nBg7; have HB := Aside0.mk hb; have HT := nHT; (try clear hy); clear hb hk0 hk nM nHT nOo6 nOo9 nOo13 nOo23 nBg1 nBg4 nBg6 nBg7; have hczg1 : w16.cell? ⟨g1, 0, none⟩ = some (.slice A0 l0.length c0) := (blk_cell BKg1.out 0).trans rfl; have hfzg1 := blk_frozen BKg1.out 0; have hczg4 : w16.cell? ⟨g4, 0, none⟩ = some (.slice Ao9 t8.length co9) := (blk_cell BKg4.out 0).trans rfl; have hfzg4 := blk_frozen BKg4.out 0; have hczg6 : w16.cell? ⟨g6, 0, none⟩ = some (.slice Ao13 t12.length co13) := (blk_cell BKg6.out 0).trans rfl; have hfzg6 := blk_frozen BKg6.out 0; have hczg7 : w16.cell? ⟨g7, 0, none⟩ = some (.slice Ao16 t15.length co16) := (blk_cell BKg7.out 0).trans rfl; have hfzg7 := blk_frozen BKg7.out 0) | ((with_reducible refine gate_callee (f := 21) rfl ?_); refine goesL_ (some 67) rfl rfl Try.func21 (by kernel_rfl) rfl #[.agg #[.slice Ao16 y35.length co16], .int .i64 1] rfl (by (try simp only [yiy, yjy, yky]); first | done | (rw [show y35.length = t15.length from (ObS.reads HOo16.out).1.symm] <;> rfl) | rfl | (simp only [yly, ymy]; rfl)) ?_; (with_reducible refine (laws_heldTriangulation.calls k _ _ y35 1 t37 _ ?side1 ?side2 H36.out).mono ?_); (case side1 => exact (ObS.reads HOo16.out).2.2); (case side2 => exact ObS.room HOo16.out); rintro e w17 ⟨rfl, hb⟩; refine ⟨_, rfl, ?_⟩; (try clear hczg1 hfzg1 hczg4 hfzg4 hczg6 hfzg6 hczg7 hfzg7); have nOo6 := Aside0.mk (ObS.below HOo6.out hb); have nOo9 := Aside0.mk (ObS.below HOo9.out hb); have nOo13 := Aside0.mk (ObS.below HOo13.out hb); have nOo16 := Aside0.mk (ObS.below HOo16.out hb); have nOo23 := Aside0.mk (ObS.below HOo23.out hb); have nBg1 := Aside0.mk (blk_below (g := g1) (o := .cells #[.slice A0 l0.length c0] 24 (0, 0)) BKg1.out hb); have nBg4 := Aside0.mk (blk_below (g := g4) (o := .cells #[.slice Ao9 t8.length co9] 28 (0, 0)) BKg4.out hb); have nBg6 := Aside0.mk (blk_below (g := g6) (o := .cells #[.slice Ao13 t12.length co13] 28 (0, 0)) BKg6.out hb); have nBg7 := Aside0.mk (blk_below (g := g7) (o := .cells #[.slice Ao16 t15.length co16] 28 (0, 0)) BKg7.out hb); have nHB := Aside0.mk (below_step HB.out hb); have nHT := Aside0.mk (top_below HT.out hb); clear HB HT HOo6 HOo9 HOo13 HOo16 HOo23 BKg1 BKg4 BKg6 BKg7; have HOo6 := nOo6; have HOo9 := nOo9; have HOo13 := nOo13; have HOo16 := nOo16; have HOo23 := nOo23; have BKg1 := nBg1; have BKg4 := nBg4; have BKg6 := nBg6; have BKg7 := nBg7; have HB := nHB; have HT := nHT; clear nHB nHT nOo6 nOo9 nOo13 nOo16 nOo23 nBg1 nBg4 nBg6 nBg7; (try clear hb); (try clear hnd); have hczg1 : w17.cell? ⟨g1, 0, none⟩ = some (.slice A0 l0.length c0) := (blk_cell BKg1.out 0).trans rfl; have hfzg1 := blk_frozen BKg1.out 0; have hczg4 : w17.cell? ⟨g4, 0, none⟩ = some (.slice Ao9 t8.length co9) := (blk_cell BKg4.out 0).trans rfl; have hfzg4 := blk_frozen BKg4.out 0; have hczg6 : w17.cell? ⟨g6, 0, none⟩ = some (.slice Ao13 t12.length co13) := (blk_cell BKg6.out 0).trans rfl; have hfzg6 := blk_frozen BKg6.out 0; have hczg7 : w17.cell? ⟨g7, 0, none⟩ = some (.slice Ao16 t15.length co16) := (blk_cell BKg7.out 0).trans rfl; have hfzg7 := blk_frozen BKg7.out 0) | ((with_reducible refine gate_callee (f := 17) rfl ?_); refine goesL_ (some 75) rfl rfl Try.func17 (by kernel_rfl) rfl #[.agg #[.slice A0 l0.length c0]] rfl (by (try simp only [yiy, yjy, yky]); first | done | rfl | (simp only [yly, ymy]; rfl)) ?_; (with_reducible refine (laws_toTriangulation.calls k _ _ l0 t41 _ ?side1 ?side2 H40.out).mono ?_); (case side1 => exact Kd.C_below HR0.out HB.out); (case side2 => exact HC0.out); rintro e w18 ⟨vo42, rfl, ho0, hb⟩; refine ⟨_, rfl, ?_⟩; (try clear hczg1 hfzg1 hczg4 hfzg4 hczg6 hfzg6 hczg7 hfzg7); obtain ⟨loo42, hio42, hno42⟩ := ObS.made ho0 hb HT.out (below_size HB.out); have nOo6 := Aside0.mk (ObS.below HOo6.out hb); have nOo9 := Aside0.mk (ObS.below HOo9.out hb); have nOo13 := Aside0.mk (ObS.below HOo13.out hb); have nOo16 := Aside0.mk (ObS.below HOo16.out hb); have nOo23 := Aside0.mk (ObS.below HOo23.out hb); have nBg1 := Aside0.mk (blk_below (g := g1) (o := .cells #[.slice A0 l0.length c0] 24 (0, 0)) BKg1.out hb); have nBg4 := Aside0.mk (blk_below (g := g4) (o := .cells #[.slice Ao9 t8.length co9] 28 (0, 0)) BKg4.out hb); have nBg6 := Aside0.mk (blk_below (g := g6) (o := .cells #[.slice Ao13 t12.length co13] 28 (0, 0)) BKg6.out hb); have nBg7 := Aside0.mk (blk_below (g := g7) (o := .cells #[.slice Ao16 t15.length co16] 28 (0, 0)) BKg7.out hb); have nHB := Aside0.mk (below_step HB.out hb); have nHT := Aside0.mk (top_below HT.out hb); clear HB HT HOo6 HOo9 HOo13 HOo16 HOo23 BKg1 BKg4 BKg6 BKg7; have HOo6 := nOo6; have HOo9 := nOo9; have HOo13 := nOo13; have HOo16 := nOo16; have HOo23 := nOo23; have BKg1 := nBg1; have BKg4 := nBg4; have BKg6 := nBg6; have BKg7 := nBg7; have HB := nHB; have HT := nHT; clear nHB nHT nOo6 nOo9 nOo13 nOo16 nOo23 nBg1 nBg4 nBg6 nBg7; have HNo42 := Aside0.mk hno42.1; clear HT; have HT := Aside0.mk hno42.2.1; have HOo42 := Aside0.mk hno42.2.2; clear hno42 ho0; obtain ⟨Ao42, co42, eeo42⟩ := HOo42.out.slice; subst eeo42; (try clear hb); (try clear hnd); have hczg1 : w18.cell? ⟨g1, 0, none⟩ = some (.slice A0 l0.length c0) := (blk_cell BKg1.out 0).trans rfl; have hfzg1 := blk_frozen BKg1.out 0; have hczg4 : w18.cell? ⟨g4, 0, none⟩ = some (.slice Ao9 t8.length co9) := (blk_cell BKg4.out 0).trans rfl; have hfzg4 := blk_frozen BKg4.out 0; have hczg6 : w18.cell? ⟨g6, 0, none⟩ = some (.slice Ao13 t12.length co13) := (blk_cell BKg6.out 0).trans rfl; have hfzg6 := blk_frozen BKg6.out 0; have hczg7 : w18.cell? ⟨g7, 0, none⟩ = some (.slice Ao16 t15.length co16) := (blk_cell BKg7.out 0).trans rfl; have hfzg7 := blk_frozen BKg7.out 0) | ((with_reducible refine gate_callee (f := 36) rfl ?_); refine goesL_ (some 76) rfl rfl Try.func36 (by kernel_rfl) rfl #[.agg #[.slice Ao42 t41.length co42]] rfl (by (try simp only [yiy, yjy, yky]); first | done | rfl | (simp only [yly, ymy]; rfl)) ?_; (with_reducible refine (impl_MirrorForm.calls k _ _ t41 t44 t46 _ ?side1 ?side2 H43.out).mono ?_); (case side1 => exact (ObS.reads HOo42.out).2.2); (case side2 => exact ObS.room HOo42.out); rintro e w19 ⟨vo45, rfl, ho0, hb⟩; refine ⟨_, rfl, ?_⟩; (try clear hczg1 hfzg1 hczg4 hfzg4 hczg6 hfzg6 hczg7 hfzg7); obtain ⟨loo45, hio45, hno45⟩ := ObS.made ho0 hb HT.out (below_size HB.out); have nOo6 := Aside0.mk (ObS.below HOo6.out hb); have nOo9 := Aside0.mk (ObS.below HOo9.out hb); have nOo13 := Aside0.mk (ObS.below HOo13.out hb); have nOo16 := Aside0.mk (ObS.below HOo16.out hb); have nOo23 := Aside0.mk (ObS.below HOo23.out hb); have nOo42 := Aside0.mk (ObS.below HOo42.out hb); have nBg1 := Aside0.mk (blk_below (g := g1) (o := .cells #[.slice A0 l0.length c0] 24 (0, 0)) BKg1.out hb); have nBg4 := Aside0.mk (blk_below (g := g4) (o := .cells #[.slice Ao9 t8.length co9] 28 (0, 0)) BKg4.out hb); have nBg6 := Aside0.mk (blk_below (g := g6) (o := .cells #[.slice Ao13 t12.length co13] 28 (0, 0)) BKg6.out hb); have nBg7 := Aside0.mk (blk_below (g := g7) (o := .cells #[.slice Ao16 t15.length co16] 28 (0, 0)) BKg7.out hb); have nHB := Aside0.mk (below_step HB.out hb); have nHT := Aside0.mk (top_below HT.out hb); clear HB HT HOo6 HOo9 HOo13 HOo16 HOo23 HOo42 BKg1 BKg4 BKg6 BKg7; have HOo6 := nOo6; have HOo9 := nOo9; have HOo13 := nOo13; have HOo16 := nOo16; have HOo23 := nOo23; have HOo42 := nOo42; have BKg1 := nBg1; have BKg4 := nBg4; have BKg6 := nBg6; have BKg7 := nBg7; have HB := nHB; have HT := nHT; clear nHB nHT nOo6 nOo9 nOo13 nOo16 nOo23 nOo42 nBg1 nBg4 nBg6 nBg7; have HNo45 := Aside0.mk hno45.1; clear HT; have HT := Aside0.mk hno45.2.1; have HOo45 := Aside0.mk hno45.2.2; clear hno45 ho0; obtain ⟨Ao45, co45, eeo45⟩ := HOo45.out.slice; subst eeo45; (try clear hb); (try clear hnd); have hczg1 : w19.cell? ⟨g1, 0, none⟩ = some (.slice A0 l0.length c0) := (blk_cell BKg1.out 0).trans rfl; have hfzg1 := blk_frozen BKg1.out 0; have hczg4 : w19.cell? ⟨g4, 0, none⟩ = some (.slice Ao9 t8.length co9) := (blk_cell BKg4.out 0).trans rfl; have hfzg4 := blk_frozen BKg4.out 0; have hczg6 : w19.cell? ⟨g6, 0, none⟩ = some (.slice Ao13 t12.length co13) := (blk_cell BKg6.out 0).trans rfl; have hfzg6 := blk_frozen BKg6.out 0; have hczg7 : w19.cell? ⟨g7, 0, none⟩ = some (.slice Ao16 t15.length co16) := (blk_cell BKg7.out 0).trans rfl; have hfzg7 := blk_frozen BKg7.out 0) | ((with_reducible refine gate_dst (N := 12) rfl ?_); refine box_event ?hg (N := 12) ?hd (cs := #[.slice none 0 0]) (t := 28) ?hr ?_; (case hd => rfl); (case hg => rfl); (case hr => first | (go_simp; done) | (go_simp; rfl)); intro g12 hg w20 hbox hb; (try clear hczg1 hfzg1 hczg4 hfzg4 hczg6 hfzg6 hczg7 hfzg7); have HNg12 := Aside0.mk (by rw [hg]; exact HT.out : hio45 ≤ g12); have HXg12 := Aside0.mk (show g12 + 1 ≤ w20.heap.size from blk_lt hbox); have nOo6 := Aside0.mk (ObS.below HOo6.out hb); have nOo9 := Aside0.mk (ObS.below HOo9.out hb); have nOo13 := Aside0.mk (ObS.below HOo13.out hb); have nOo16 := Aside0.mk (ObS.below HOo16.out hb); have nOo23 := Aside0.mk (ObS.below HOo23.out hb); have nOo42 := Aside0.mk (ObS.below HOo42.out hb); have nOo45 := Aside0.mk (ObS.below HOo45.out hb); have nBg1 := Aside0.mk (blk_below (g := g1) (o := .cells #[.slice A0 l0.length c0] 24 (0, 0)) BKg1.out hb); have nBg4 := Aside0.mk (blk_below (g := g4) (o := .cells #[.slice Ao9 t8.length co9] 28 (0, 0)) BKg4.out hb); have nBg6 := Aside0.mk (blk_below (g := g6) (o := .cells #[.slice Ao13 t12.length co13] 28 (0, 0)) BKg6.out hb); have nBg7 := Aside0.mk (blk_below (g := g7) (o := .cells #[.slice Ao16 t15.length co16] 28 (0, 0)) BKg7.out hb); have nHB := Aside0.mk (below_step HB.out hb); have nHT := Aside0.mk (top_below HT.out hb); clear HB HT HOo6 HOo9 HOo13 HOo16 HOo23 HOo42 HOo45 BKg1 BKg4 BKg6 BKg7; have HOo6 := nOo6; have HOo9 := nOo9; have HOo13 := nOo13; have HOo16 := nOo16; have HOo23 := nOo23; have HOo42 := nOo42; have HOo45 := nOo45; have BKg1 := nBg1; have BKg4 := nBg4; have BKg6 := nBg6; have BKg7 := nBg7; have HB := nHB; have HT := nHT; clear nHB nHT nOo6 nOo9 nOo13 nOo16 nOo23 nOo42 nOo45 nBg1 nBg4 nBg6 nBg7; clear HT; have HT := HXg12; clear HXg12; have BKg12 := Aside0.mk hbox; clear hg hbox hb; have hnbg12_g1 : g12 ≠ g1 := (by have := HNg1.out; have := HNo6.out; have := HNo9.out; have := HNg4.out; have := HNo13.out; have := HNg6.out; have := HNo16.out; have := HNg7.out; have := HNo23.out; have := HNo42.out; have := HNo45.out; have := HNg12.out; omega); have hnbg1_g12 : g1 ≠ g12 := (by have := HNg1.out; have := HNo6.out; have := HNo9.out; have := HNg4.out; have := HNo13.out; have := HNg6.out; have := HNo16.out; have := HNg7.out; have := HNo23.out; have := HNo42.out; have := HNo45.out; have := HNg12.out; omega); have hnbg12_g4 : g12 ≠ g4 := (by have := HNg1.out; have := HNo6.out; have := HNo9.out; have := HNg4.out; have := HNo13.out; have := HNg6.out; have := HNo16.out; have := HNg7.out; have := HNo23.out; have := HNo42.out; have := HNo45.out; have := HNg12.out; omega); have hnbg4_g12 : g4 ≠ g12 := (by have := HNg1.out; have := HNo6.out; have := HNo9.out; have := HNg4.out; have := HNo13.out; have := HNg6.out; have := HNo16.out; have := HNg7.out; have := HNo23.out; have := HNo42.out; have := HNo45.out; have := HNg12.out; omega); have hnbg12_g6 : g12 ≠ g6 := (by have := HNg1.out; have := HNo6.out; have := HNo9.out; have := HNg4.out; have := HNo13.out; have := HNg6.out; have := HNo16.out; have := HNg7.out; have := HNo23.out; have := HNo42.out; have := HNo45.out; have := HNg12.out; omega); have hnbg6_g12 : g6 ≠ g12 := (by have := HNg1.out; have := HNo6.out; have := HNo9.out; have := HNg4.out; have := HNo13.out; have := HNg6.out; have := HNo16.out; have := HNg7.out; have := HNo23.out; have := HNo42.out; have := HNo45.out; have := HNg12.out; omega); have hnbg12_g7 : g12 ≠ g7 := (by have := HNg1.out; have := HNo6.out; have := HNo9.out; have := HNg4.out; have := HNo13.out; have := HNg6.out; have := HNo16.out; have := HNg7.out; have := HNo23.out; have := HNo42.out; have := HNo45.out; have := HNg12.out; omega); have hnbg7_g12 : g7 ≠ g12 := (by have := HNg1.out; have := HNo6.out; have := HNo9.out; have := HNg4.out; have := HNo13.out; have := HNg6.out; have := HNo16.out; have := HNg7.out; have := HNo23.out; have := HNo42.out; have := HNo45.out; have := HNg12.out; omega); have hczg1 : w20.cell? ⟨g1, 0, none⟩ = some (.slice A0 l0.length c0) := (blk_cell BKg1.out 0).trans rfl; have hfzg1 := blk_frozen BKg1.out 0; have hczg4 : w20.cell? ⟨g4, 0, none⟩ = some (.slice Ao9 t8.length co9) := (blk_cell BKg4.out 0).trans rfl; have hfzg4 := blk_frozen BKg4.out 0; have hczg6 : w20.cell? ⟨g6, 0, none⟩ = some (.slice Ao13 t12.length co13) := (blk_cell BKg6.out 0).trans rfl; have hfzg6 := blk_frozen BKg6.out 0; have hczg7 : w20.cell? ⟨g7, 0, none⟩ = some (.slice Ao16 t15.length co16) := (blk_cell BKg7.out 0).trans rfl; have hfzg7 := blk_frozen BKg7.out 0; have hczg12 : w20.cell? ⟨g12, 0, none⟩ = some (.slice none 0 0) := (blk_cell BKg12.out 0).trans rfl; have hfzg12 := blk_frozen BKg12.out 0) | ((with_reducible refine gate_callee (f := 19) rfl ?_); refine goesL_ (some 81) rfl rfl Try.func19 (by kernel_rfl) rfl #[.agg #[.slice Ao45 t44.length co45], .agg #[.slice Ao9 t8.length co9]] rfl (by (try simp only [yiy, yjy, yky]); first | done | rfl | (simp only [yly, ymy]; rfl)) ?_; (with_reducible refine (laws_eqTriangulation.calls k _ _ t44 _ _ t8 true _ ?side1 ?side2 ?side3 ?side4 H47.out).mono ?_); (case side1 => exact (ObS.reads (ObS.far (g := g12) (i := 0) HOo45.out (by have := HNg1.out; have := HNo6.out; have := HNo9.out; have := HNg4.out; have := HNo13.out; have := HNg6.out; have := HNo16.out; have := HNg7.out; have := HNo23.out; have := HNo42.out; have := HNo45.out; have := HNg12.out; omega) _)).2.2); (case side2 => exact ObS.room HOo45.out); (case side3 => exact (ObS.reads (ObS.far (g := g12) (i := 0) HOo9.out (by have := HNg1.out; have := HNo6.out; have := HNo9.out; have := HNg4.out; have := HNo13.out; have := HNg6.out; have := HNo16.out; have := HNg7.out; have := HNo23.out; have := HNo42.out; have := HNo45.out; have := HNg12.out; omega) _)).2.2); (case side4 => exact ObS.room HOo9.out); rintro e w21 ⟨rfl, hb⟩; refine ⟨_, rfl, ?_⟩; (try clear hczg1 hfzg1 hczg4 hfzg4 hczg6 hfzg6 hczg7 hfzg7 hczg12 hfzg12); have nOo6 := Aside0.mk (ObS.below (ObS.far (g := g12) (i := 0) HOo6.out (by have := HNg1.out; have := HNo6.out; have := HNo9.out; have := HNg4.out; have := HNo13.out; have := HNg6.out; have := HNo16.out; have := HNg7.out; have := HNo23.out; have := HNo42.out; have := HNo45.out; have := HNg12.out; omega) _) hb); have nOo9 := Aside0.mk (ObS.below (ObS.far (g := g12) (i := 0) HOo9.out (by have := HNg1.out; have := HNo6.out; have := HNo9.out; have := HNg4.out; have := HNo13.out; have := HNg6.out; have := HNo16.out; have := HNg7.out; have := HNo23.out; have := HNo42.out; have := HNo45.out; have := HNg12.out; omega) _) hb); have nOo13 := Aside0.mk (ObS.below (ObS.far (g := g12) (i := 0) HOo13.out (by have := HNg1.out; have := HNo6.out; have := HNo9.out; have := HNg4.out; have := HNo13.out; have := HNg6.out; have := HNo16.out; have := HNg7.out; have := HNo23.out; have := HNo42.out; have := HNo45.out; have := HNg12.out; omega) _) hb); have nOo16 := Aside0.mk (ObS.below (ObS.far (g := g12) (i := 0) HOo16.out (by have := HNg1.out; have := HNo6.out; have := HNo9.out; have := HNg4.out; have := HNo13.out; have := HNg6.out; have := HNo16.out; have := HNg7.out; have := HNo23.out; have := HNo42.out; have := HNo45.out; have := HNg12.out; omega) _) hb); have nOo23 := Aside0.mk (ObS.below (ObS.far (g := g12) (i := 0) HOo23.out (by have := HNg1.out; have := HNo6.out; have := HNo9.out; have := HNg4.out; have := HNo13.out; have := HNg6.out; have := HNo16.out; have := HNg7.out; have := HNo23.out; have := HNo42.out; have := HNo45.out; have := HNg12.out; omega) _) hb); have nOo42 := Aside0.mk (ObS.below (ObS.far (g := g12) (i := 0) HOo42.out (by have := HNg1.out; have := HNo6.out; have := HNo9.out; have := HNg4.out; have := HNo13.out; have := HNg6.out; have := HNo16.out; have := HNg7.out; have := HNo23.out; have := HNo42.out; have := HNo45.out; have := HNg12.out; omega) _) hb); have nOo45 := Aside0.mk (ObS.below (ObS.far (g := g12) (i := 0) HOo45.out (by have := HNg1.out; have := HNo6.out; have := HNo9.out; have := HNg4.out; have := HNo13.out; have := HNg6.out; have := HNo16.out; have := HNg7.out; have := HNo23.out; have := HNo42.out; have := HNo45.out; have := HNg12.out; omega) _) hb); have nBg1 := Aside0.mk (blk_below (g := g1) (o := .cells #[.slice A0 l0.length c0] 24 (0, 0)) (blk_far (p := ⟨g12, 0, none⟩) BKg1.out (show g1 ≠ g12 from (by have := HNg1.out; have := HNo6.out; have := HNo9.out; have := HNg4.out; have := HNo13.out; have := HNg6.out; have := HNo16.out; have := HNg7.out; have := HNo23.out; have := HNo42.out; have := HNo45.out; have := HNg12.out; omega)) _) hb); have nBg4 := Aside0.mk (blk_below (g := g4) (o := .cells #[.slice Ao9 t8.length co9] 28 (0, 0)) (blk_far (p := ⟨g12, 0, none⟩) BKg4.out (show g4 ≠ g12 from (by have := HNg1.out; have := HNo6.out; have := HNo9.out; have := HNg4.out; have := HNo13.out; have := HNg6.out; have := HNo16.out; have := HNg7.out; have := HNo23.out; have := HNo42.out; have := HNo45.out; have := HNg12.out; omega)) _) hb); have nBg6 := Aside0.mk (blk_below (g := g6) (o := .cells #[.slice Ao13 t12.length co13] 28 (0, 0)) (blk_far (p := ⟨g12, 0, none⟩) BKg6.out (show g6 ≠ g12 from (by have := HNg1.out; have := HNo6.out; have := HNo9.out; have := HNg4.out; have := HNo13.out; have := HNg6.out; have := HNo16.out; have := HNg7.out; have := HNo23.out; have := HNo42.out; have := HNo45.out; have := HNg12.out; omega)) _) hb); have nBg7 := Aside0.mk (blk_below (g := g7) (o := .cells #[.slice Ao16 t15.length co16] 28 (0, 0)) (blk_far (p := ⟨g12, 0, none⟩) BKg7.out (show g7 ≠ g12 from (by have := HNg1.out; have := HNo6.out; have := HNo9.out; have := HNg4.out; have := HNo13.out; have := HNg6.out; have := HNo16.out; have := HNg7.out; have := HNo23.out; have := HNo42.out; have := HNo45.out; have := HNg12.out; omega)) _) hb); have nBg12 := Aside0.mk (blk_below (g := g12) (o := .cells #[.slice Ao45 t44.length co45] 28 (0, 0)) (blk_put (cs := #[.slice none 0 0]) BKg12.out 0 _ rfl) hb); have nHB := Aside0.mk (below_step (below_set HB.out (show w.heap.size ≤ g12 from (by have := HNg1.out; have := HNo6.out; have := HNo9.out; have := HNg4.out; have := HNo13.out; have := HNg6.out; have := HNo16.out; have := HNg7.out; have := HNo23.out; have := HNo42.out; have := HNo45.out; have := HNg12.out; omega))) hb); have nHT := Aside0.mk (top_below (top_far HT.out) hb); clear HB HT HOo6 HOo9 HOo13 HOo16 HOo23 HOo42 HOo45 BKg1 BKg4 BKg6 BKg7 BKg12; have HOo6 := nOo6; have HOo9 := nOo9; have HOo13 := nOo13; have HOo16 := nOo16; have HOo23 := nOo23; have HOo42 := nOo42; have HOo45 := nOo45; have BKg1 := nBg1; have BKg4 := nBg4; have BKg6 := nBg6; have BKg7 := nBg7; have BKg12 := nBg12; have HB := nHB; have HT := nHT; clear nHB nHT nOo6 nOo9 nOo13 nOo16 nOo23 nOo42 nOo45 nBg1 nBg4 nBg6 nBg7 nBg12; (try clear hb); (try clear hnd); have hczg1 : w21.cell? ⟨g1, 0, none⟩ = some (.slice A0 l0.length c0) := (blk_cell BKg1.out 0).trans rfl; have hfzg1 := blk_frozen BKg1.out 0; have hczg4 : w21.cell? ⟨g4, 0, none⟩ = some (.slice Ao9 t8.length co9) := (blk_cell BKg4.out 0).trans rfl; have hfzg4 := blk_frozen BKg4.out 0; have hczg6 : w21.cell? ⟨g6, 0, none⟩ = some (.slice Ao13 t12.length co13) := (blk_cell BKg6.out 0).trans rfl; have hfzg6 := blk_frozen BKg6.out 0; have hczg7 : w21.cell? ⟨g7, 0, none⟩ = some (.slice Ao16 t15.length co16) := (blk_cell BKg7.out 0).trans rfl; have hfzg7 := blk_frozen BKg7.out 0; have hczg12 : w21.cell? ⟨g12, 0, none⟩ = some (.slice Ao45 t44.length co45) := (blk_cell BKg12.out 0).trans rfl; have hfzg12 := blk_frozen BKg12.out 0) | ((with_reducible refine gate_callee (f := 21) rfl ?_); refine goesL_ (some 90) rfl rfl Try.func21 (by kernel_rfl) rfl #[.agg #[.slice Ao16 y35.length co16], .int .i64 1] rfl (by (try simp only [yiy, yjy, yky]); first | done | (rw [show y35.length = t15.length from (ObS.reads HOo16.out).1.symm] <;> rfl) | rfl | (simp only [yly, ymy]; rfl)) ?_; (with_reducible refine (laws_heldTriangulation.calls k _ _ y35 1 t51 _ ?side1 ?side2 H50.out).mono ?_); (case side1 => exact (ObS.reads HOo16.out).2.2); (case side2 => exact ObS.room HOo16.out); rintro e w22 ⟨rfl, hb⟩; refine ⟨_, rfl, ?_⟩; (try clear hczg1 hfzg1 hczg4 hfzg4 hczg6 hfzg6 hczg7 hfzg7 hczg12 hfzg12); have nOo6 := Aside0.mk (ObS.below HOo6.out hb); have nOo9 := Aside0.mk (ObS.below HOo9.out hb); have nOo13 := Aside0.mk (ObS.below HOo13.out hb); have nOo16 := Aside0.mk (ObS.below HOo16.out hb); have nOo23 := Aside0.mk (ObS.below HOo23.out hb); have nOo42 := Aside0.mk (ObS.below HOo42.out hb); have nOo45 := Aside0.mk (ObS.below HOo45.out hb); have nBg1 := Aside0.mk (blk_below (g := g1) (o := .cells #[.slice A0 l0.length c0] 24 (0, 0)) BKg1.out hb); have nBg4 := Aside0.mk (blk_below (g := g4) (o := .cells #[.slice Ao9 t8.length co9] 28 (0, 0)) BKg4.out hb); have nBg6 := Aside0.mk (blk_below (g := g6) (o := .cells #[.slice Ao13 t12.length co13] 28 (0, 0)) BKg6.out hb); have nBg7 := Aside0.mk (blk_below (g := g7) (o := .cells #[.slice Ao16 t15.length co16] 28 (0, 0)) BKg7.out hb); have nBg12 := Aside0.mk (blk_below (g := g12) (o := .cells #[.slice Ao45 t44.length co45] 28 (0, 0)) BKg12.out hb); have nHB := Aside0.mk (below_step HB.out hb); have nHT := Aside0.mk (top_below HT.out hb); clear HB HT HOo6 HOo9 HOo13 HOo16 HOo23 HOo42 HOo45 BKg1 BKg4 BKg6 BKg7 BKg12; have HOo6 := nOo6; have HOo9 := nOo9; have HOo13 := nOo13; have HOo16 := nOo16; have HOo23 := nOo23; have HOo42 := nOo42; have HOo45 := nOo45; have BKg1 := nBg1; have BKg4 := nBg4; have BKg6 := nBg6; have BKg7 := nBg7; have BKg12 := nBg12; have HB := nHB; have HT := nHT; clear nHB nHT nOo6 nOo9 nOo13 nOo16 nOo23 nOo42 nOo45 nBg1 nBg4 nBg6 nBg7 nBg12; (try clear hb); (try clear hnd); have hczg1 : w22.cell? ⟨g1, 0, none⟩ = some (.slice A0 l0.length c0) := (blk_cell BKg1.out 0).trans rfl; have hfzg1 := blk_frozen BKg1.out 0; have hczg4 : w22.cell? ⟨g4, 0, none⟩ = some (.slice Ao9 t8.length co9) := (blk_cell BKg4.out 0).trans rfl; have hfzg4 := blk_frozen BKg4.out 0; have hczg6 : w22.cell? ⟨g6, 0, none⟩ = some (.slice Ao13 t12.length co13) := (blk_cell BKg6.out 0).trans rfl; have hfzg6 := blk_frozen BKg6.out 0; have hczg7 : w22.cell? ⟨g7, 0, none⟩ = some (.slice Ao16 t15.length co16) := (blk_cell BKg7.out 0).trans rfl; have hfzg7 := blk_frozen BKg7.out 0; have hczg12 : w22.cell? ⟨g12, 0, none⟩ = some (.slice Ao45 t44.length co45) := (blk_cell BKg12.out 0).trans rfl; have hfzg12 := blk_frozen BKg12.out 0))
 go_ret
 exact ⟨by first | rfl | (simp <;> rfl), HB.out⟩
end Go.Proofs.Ytdgdnnjigigkcaa.P
namespace Go.Proofs.Ytdgdnnjigigkcaa.Lib
set_option linter.unusedVariables false
open Go.RowKit Go.Proofs.YtdgdnnjigigkcaaW.PrintWords
/-- A loop comes to g of its first state: at each state it ends with g, or goes on at a smaller state of the same g. -/
theorem ev_loop {σ ρ : Type} (L : Nat → σ → Option ρ) (I : σ → Prop) (m : σ → Nat) (g : σ → ρ)
    (h : ∀ s, I s → (∃ K, ∀ k, K ≤ k → L (k + 1) s = some (g s)) ∨ (∃ s' K, I s' ∧ m s' < m s ∧ g s' = g s ∧ ∀ k, K ≤ k → L (k + 1) s = L k s')) :
    ∀ s, I s → Ev (fun k => L k s) (g s) := by
  have key : ∀ (n : Nat) (s : σ), m s < n → I s → Ev (fun k => L k s) (g s) := by
    intro n
    induction n with
    | zero => intro s hs; omega
    | succ n ih =>
      intro s hs hi
      rcases h s hi with ⟨K, hK⟩ | ⟨s', K, hi', hm, hg, hK⟩
      · refine ⟨K + 1, fun k hk => ?_⟩
        obtain ⟨j, rfl⟩ : ∃ j, k = j + 1 := ⟨k - 1, by omega⟩
        exact hK j (by omega)
      · obtain ⟨K', hK'⟩ := ih s' (by omega) hi'
        refine ⟨max K K' + 1, fun k hk => ?_⟩
        obtain ⟨j, rfl⟩ : ∃ j, k = j + 1 := ⟨k - 1, by omega⟩
        show L (j + 1) s = some (g s)
        rw [hK j (by omega), ← hg]
        exact hK' j (by omega)
  intro s hi
  exact key (m s + 1) s (by omega) hi
/-- The same, where a round asks for no number of rounds. -/
theorem ev_loop0 {σ ρ : Type} (L : Nat → σ → Option ρ) (I : σ → Prop) (m : σ → Nat) (g : σ → ρ)
    (h : ∀ s, I s → (∀ k, L (k + 1) s = some (g s)) ∨ (∃ s', I s' ∧ m s' < m s ∧ g s' = g s ∧ ∀ k, L (k + 1) s = L k s')) :
    ∀ s, I s → Ev (fun k => L k s) (g s) :=
  ev_loop L I m g fun s hi => by
    rcases h s hi with h1 | ⟨s', h1, h2, h3, h4⟩
    · exact .inl ⟨0, fun k _ => h1 k⟩
    · exact .inr ⟨s', 0, h1, h2, h3, fun k _ => h4 k⟩
theorem wrap_id {x : Int} (h0 : -9223372036854775808 ≤ x) (h1 : x ≤ 9223372036854775807) : wrap64 x = x := by
  unfold wrap64; omega
theorem wrap_succ {n : Nat} (h : n ≤ 4611686018427387904) : wrap64 ((n : Int) + 1) = ((n + 1 : Nat) : Int) := by
  rw [wrap_id (by omega) (by omega)]; rfl
theorem rd_lt (xs : List Int) (n : Nat) (h : n < xs.length) : rd xs (n : Int) = xs[n] := by simp [rd, h]
theorem ev_neg {α : Type} {c : Prop} [Decidable c] {f g : Nat → Option α} {r : α} (h : ¬ c) (k : Ev g r) : Ev (fun n => if c then f n else g n) r := Ev.congr (fun _ => if_neg h) k
theorem ev_pos {α : Type} {c : Prop} [Decidable c] {f g : Nat → Option α} {r : α} (h : c) (k : Ev f r) : Ev (fun n => if c then f n else g n) r := Ev.congr (fun _ => if_pos h) k
theorem ev_some {α : Type} {r r' : α} (h : r = r') : Ev (fun _ => some r) r' := h ▸ Ev.now r
theorem ev_const {α : Type} {o : Option α} {r : α} (h : o = some r) : Ev (fun _ => o) r := ⟨0, fun _ _ => h⟩
theorem ev_const' {α : Type} {g : Nat → Option α} {r : α} (h : ∀ k, g k = some r) : Ev g r := ⟨0, fun k _ => h k⟩
/-- A function whose first step takes one round. -/
theorem ev_step {α : Type} {g f : Nat → Option α} {r : α} (h : ∀ k, g (k + 1) = f k) (k : Ev f r) : Ev g r := Ev.step h k
theorem idxO_any {α : Type} {f : α → Option Bool} {p : α → Bool} : ∀ (i : Nat) (l : List α), (∀ x ∈ l, f x = some (p x)) → ∃ r, idxO f i l = some r ∧ decide (0 ≤ r) = l.any p
  | i, [], _ => ⟨-1, rfl, rfl⟩
  | i, x :: xs, h => by
    rw [idxO_cons, h x (List.mem_cons_self ..), yfy]
    cases hp : p x with
    | true => exact ⟨i, by rw [if_pos rfl], by simp [hp]⟩
    | false =>
      obtain ⟨r, h1, h2⟩ := idxO_any (i + 1) xs (fun y hy => h y (List.mem_cons_of_mem _ hy))
      exact ⟨r, by rw [if_neg (by simp)]; exact h1, by rw [h2]; simp [hp]⟩
theorem contO {α : Type} {f : α → Option Bool} {p : α → Bool} (l : List α) (h : ∀ x ∈ l, f x = some (p x)) : (idxO f 0 l).bind (fun i => some (decide (0 ≤ i))) = some (l.any p) := by
  obtain ⟨r, h1, h2⟩ := idxO_any 0 l h
  rw [h1, yfy, h2]
/-- n numbers from a on. -/
def upFrom (a : Int) : Nat → List Int
  | 0 => []
  | n + 1 => a :: upFrom (a + 1) n
theorem upFrom_length (a : Int) (n : Nat) : (upFrom a n).length = n := by
  induction n generalizing a with
  | zero => rfl
  | succ n ih => simp [upFrom, ih]
theorem upFrom_snoc (a : Int) (n : Nat) : upFrom a (n + 1) = upFrom a n ++ [a + n] := by
  induction n generalizing a with
  | zero => simp [upFrom]
  | succ n ih => rw [upFrom, ih (a + 1)]; simp [upFrom]; omega
end Go.Proofs.Ytdgdnnjigigkcaa.Lib
namespace Go.Proofs.Ytdgdnnjigigkcaa.P
open Go.RowKit Go.Proofs.YtdgdnnjigigkcaaW.PrintWords Go.Proofs.Ytdgdnnjigigkcaa.Lib
set_option linter.unusedVariables false
theorem inRange_eq (a b c : Int) : impl_inRange.f a b c = some (decide (b ≤ a) && decide (a ≤ c)) := by
  unfold impl_inRange.f
  by_cases h : b ≤ a <;> simp [h]
theorem l07In_eq (a b c : Int) : spec_l07In.f a b c = some (decide (b ≤ a) && decide (a ≤ c)) := by
  unfold spec_l07In.f
  by_cases h : b ≤ a <;> simp [h]
theorem l06Valid_eq (a : Int) : spec_l06Valid.f a = some (decide (0 ≤ a) && decide (a ≤ 23)) := by
  unfold spec_l06Valid.f
  by_cases h : 0 ≤ a
  · rw [if_pos h]; simp [h]; omega
  · rw [if_neg h]; simp [h]
theorem isPerm_eq (a : Int) : impl_isPerm.f a = some (decide (0 ≤ a) && decide (a ≤ 23)) := by
  unfold impl_isPerm.f; rw [inRange_eq]; rfl
/-- A number that is the index of a permutation. -/
theorem fin_of {p : Int} (h0 : 0 ≤ p) (h1 : p ≤ 23) : ∃ m : Fin 24, p = (m.val : Int) := ⟨⟨p.toNat, by omega⟩, by simp; omega⟩
theorem l06Images_ev {p : Int} (h0 : 0 ≤ p) (h1 : p ≤ 23) : Ev (fun k => spec_l06Images.f k p) (permL p) := by
  obtain ⟨m, rfl⟩ := fin_of h0 h1
  have key : ∀ m : Fin 24, spec_l06Images.f 5 (m.val : Int) = some (permL (m.val : Int)) := by decide +kernel
  exact Ev.of (fun k => spec_l06Images.mono _ k) (key m)
theorem permL_len (p : Int) : (permL p).length = 4 := rfl
theorem permL_sm {p f : Int} (h0 : 0 ≤ p) (h1 : p ≤ 23) (hf0 : 0 ≤ f) (hf1 : f ≤ 3) : 0 ≤ rd (permL p) f ∧ rd (permL p) f ≤ 3 := by
  obtain ⟨a, b, c, d⟩ := permAt_sm p h0 h1
  exact rd_four_sm a b c d f hf0 hf1
theorem l06At_ev {p f : Int} (h0 : 0 ≤ p) (h1 : p ≤ 23) (hf0 : 0 ≤ f) (hf1 : f ≤ 3) : Ev (fun k => spec_l06At.f k p f) (rd (permL p) f) := by
  refine Ev.bind (l06Images_ev h0 h1) ?_
  exact ev_pos hf0 (ev_pos (by rw [permL_len]; omega) (Ev.now _))
theorem l06Back_ev {p : Int} (h0 : 0 ≤ p) (h1 : p ≤ 23) : Ev (fun k => spec_l06Back.f k p) (invP p) := by
  obtain ⟨m, rfl⟩ := fin_of h0 h1
  have key : ∀ m : Fin 24, spec_l06Back.f 40 (m.val : Int) = some (invP (m.val : Int)) := by decide +kernel
  exact Ev.of (fun k => spec_l06Back.mono _ k) (key m)
theorem target_eq {q p f : Int} (h0 : 0 ≤ p) (h1 : p ≤ 23) (hf0 : 0 ≤ f) (hf1 : f ≤ 3) : impl_Face_target.f q p f = some (rd (permL p) f) := if_pos ⟨h0, h1, hf0, hf1⟩
theorem partner_eq {q p a : Int} (h0 : 0 ≤ p) (h1 : p ≤ 23) : impl_Face_partner.f q p a = some (a, invP p) := by
  unfold impl_Face_partner.f impl_invert.f
  rw [if_pos ⟨h0, h1⟩]; rfl
abbrev Tri := List (List SFace)
/-- No list of t is longer than a million. -/
def Small (t : Tri) : Prop := t.length ≤ 1048576 ∧ ∀ r ∈ t, r.length ≤ 1048576
def SmallL (t : List (List SLawFace)) : Prop := t.length ≤ 1048576 ∧ ∀ r ∈ t, r.length ≤ 1048576
def Fits (t : List (List SLawFace)) : Prop := t.length ≤ 9223372036854775807 ∧ ∀ r ∈ t, r.length ≤ 9223372036854775807
theorem rd_LLawFace_lt (t : List (List SLawFace)) (n : Nat) (h : n < t.length) : rd_LLawFace t (n : Int) = t[n] := by simp [rd_LLawFace, h]
theorem rd_LFace_lt (t : Tri) (n : Nat) (h : n < t.length) : rd_LFace t (n : Int) = t[n] := by simp [rd_LFace, h]
theorem rd_LawFace_lt (t : List SLawFace) (n : Nat) (h : n < t.length) : rd_LawFace t (n : Int) = t[n] := by simp [rd_LawFace, h]
theorem rd_Face_lt (t : List SFace) (n : Nat) (h : n < t.length) : rd_Face t (n : Int) = t[n] := by simp [rd_Face, h]
theorem szFaceS_eq (r : List SLawFace) (a : Int) (h0 : 0 ≤ a) (h1 : a ≤ 1048576) (h : r.length ≤ 9223372036854775807) : laws_szFaceS.f r a = some (if a - r.length < 0 then -1 else a - r.length) := by
  unfold laws_szFaceS.f
  rw [wrap_id (by omega) (by omega)]
  split <;> rfl
theorem szFaceSS_ev (t : List (List SLawFace)) (h : Fits t) (hl : t.length ≤ 1048576) : ∃ r, Ev (fun k => laws_szFaceSS.l0 k t (1048576 - t.length) 0) r ∧ (0 ≤ r → ∀ x ∈ t, x.length ≤ 1048576) := by
  have key : ∀ d n : Nat, ∀ a : Int, n + d = t.length → 0 ≤ a → a ≤ 1048576 → ∃ r, Ev (fun k => laws_szFaceSS.l0 k t a (n : Int)) r ∧ (0 ≤ r → ∀ x ∈ t.drop n, x.length ≤ 1048576) := by
    intro d
    induction d with
    | zero =>
      intro n a hn h0 h1
      refine ⟨a, ev_step (f := fun _ => some a) (fun k => ?_) (Ev.now a), fun _ x hx => ?_⟩
      · simp only [laws_szFaceSS.l0]; rw [if_neg (by omega)]
      · rw [List.drop_eq_nil_of_le (by omega)] at hx; cases hx
    | succ d ih =>
      intro n a hn h0 h1
      have hlt : n < t.length := by omega
      have hf := h.2 t[n] (List.getElem_mem hlt)
      by_cases hc : a - t[n].length < 0
      · refine ⟨-1, ev_step (f := fun _ => some (-1)) (fun k => ?_) (Ev.now (-1)), fun h => by omega⟩
        simp only [laws_szFaceSS.l0]
        rw [if_pos (by omega), if_pos (by omega), rd_LLawFace_lt t n hlt, szFaceS_eq _ a h0 h1 hf, yfy, if_pos hc]
        rfl
      · obtain ⟨r, hr, hr2⟩ := ih (n + 1) (a - t[n].length) (by omega) (by omega) (by omega)
        refine ⟨r, ev_step (fun k => ?_) hr, fun h x hx => ?_⟩
        · simp only [laws_szFaceSS.l0]
          rw [if_pos (by omega), if_pos (by omega), rd_LLawFace_lt t n hlt, szFaceS_eq _ a h0 h1 hf, yfy, if_neg hc, if_neg (by omega), wrap_succ (by omega)]
        · rw [List.drop_eq_getElem_cons hlt] at hx
          rcases List.mem_cons.1 hx with rfl | hx
          · omega
          · exact hr2 h x hx
  obtain ⟨r, hr, hr2⟩ := key t.length 0 (1048576 - t.length) (by omega) (by omega) (by omega)
  exact ⟨r, hr, fun h => by have := hr2 h; rwa [List.drop_zero] at this⟩
theorem szTriangulation_ev (t : List (List SLawFace)) (h : Fits t) : ∃ r, Ev (fun k => laws_szTriangulation.f k t 1048576) r ∧ (¬ r < 0 → SmallL t) := by
  by_cases hl : (1048576 - (t.length : Int)) < 0
  · refine ⟨-1, ?_, fun h => by omega⟩
    refine Ev.bind (a := -1) (ev_const' (fun k => ?_)) (ev_pos (by omega) (Ev.now _))
    unfold laws_szFaceSS.f
    have := h.1
    rw [wrap_id (by omega) (by omega), if_pos hl]
  · obtain ⟨r, hr, hr2⟩ := szFaceSS_ev t h (by omega)
    have h2 : Ev (fun k => laws_szFaceSS.f k t 1048576) r := by
      refine Ev.congr (fun k => ?_) hr
      unfold laws_szFaceSS.f
      rw [wrap_id (by omega) (by omega), if_neg hl]
    by_cases hn : r < 0
    · exact ⟨-1, Ev.bind h2 (ev_pos hn (Ev.now _)), fun h => by omega⟩
    · exact ⟨r, Ev.bind h2 (ev_neg hn (Ev.now _)), fun _ => ⟨by omega, hr2 (by omega)⟩⟩
/-- The copies of the law's values. -/
def cvF (x : SLawFace) : SFace := ⟨x.f0, x.f1⟩
def cvR (r : List SLawFace) : List SFace := r.map cvF
def cvT (t : List (List SLawFace)) : Tri := t.map cvR
theorem cvT_small {t : List (List SLawFace)} (h : SmallL t) : Small (cvT t) := by
  refine ⟨by simp [cvT]; exact h.1, fun r hr => ?_⟩
  obtain ⟨s, hs, rfl⟩ := List.mem_map.1 hr
  simp [cvR]; exact h.2 s hs
theorem map_take_set {α β : Type} (f : α → β) (l : List α) (z : β) (n : Nat) (h : n < l.length) :
    ((l.take n).map f ++ List.replicate (l.length - n) z).set n (f l[n]) = (l.take (n + 1)).map f ++ List.replicate (l.length - (n + 1)) z := by
  have e : l.length - n = (l.length - (n + 1)) + 1 := by omega
  rw [e, List.replicate_succ, List.set_append_right _ _ (by simp; omega)]
  have : n - ((l.take n).map f).length = 0 := by simp; omega
  rw [this, yby, List.take_succ_eq_append_getElem h, List.map_append, List.append_assoc]
  rfl
theorem toFaceS_ev (l : List SLawFace) (h : l.length ≤ 1048576) : Ev (fun k => laws_toFaceS.f k l) (cvR l) := by
  have hl : Ev (fun k => laws_toFaceS.l0 k l (List.replicate l.length zFace) 0) (cvR l) := by
    refine ev_loop0 (fun k (s : List SFace × Int) => laws_toFaceS.l0 k l s.1 s.2) (fun s => ∃ n : Nat, n ≤ l.length ∧ s.2 = n ∧ s.1 = (l.take n).map cvF ++ List.replicate (l.length - n) zFace) (fun s => l.length - s.2.toNat) (fun _ => cvR l) ?_ (List.replicate l.length zFace, 0) ⟨0, by omega, rfl, by simp⟩
    rintro ⟨a, i⟩ ⟨n, hn, rfl, rfl⟩
    dsimp only
    by_cases hlt : n < l.length
    · refine .inr ⟨((l.take (n + 1)).map cvF ++ List.replicate (l.length - (n + 1)) zFace, ((n + 1 : Nat) : Int)), ⟨n + 1, by omega, rfl, rfl⟩, by simp; omega, rfl, fun k => ?_⟩
      simp only [laws_toFaceS.l0, laws_toFace.f, yfy]
      rw [if_pos (by omega), if_pos (by omega), if_pos (by simp; omega), wrap_succ (by omega), Int.toNat_natCast, rd_LawFace_lt l n hlt]
      have := map_take_set cvF l zFace n hlt
      rw [← this]
      rfl
    · obtain rfl : n = l.length := by omega
      refine .inl fun k => ?_
      simp only [laws_toFaceS.l0]
      rw [if_neg (by omega)]
      simp [cvR]
  refine Ev.congr (fun k => ?_) hl
  unfold laws_toFaceS.f
  rw [if_pos (by omega), if_pos (by simp; omega), Int.toNat_natCast]
theorem toFaceSS_ev (l : List (List SLawFace)) (h : SmallL l) : Ev (fun k => laws_toFaceSS.f k l) (cvT l) := by
  have hl : Ev (fun k => laws_toFaceSS.l0 k l (List.replicate l.length []) 0) (cvT l) := by
    refine ev_loop (fun k (s : Tri × Int) => laws_toFaceSS.l0 k l s.1 s.2) (fun s => ∃ n : Nat, n ≤ l.length ∧ s.2 = n ∧ s.1 = (l.take n).map cvR ++ List.replicate (l.length - n) []) (fun s => l.length - s.2.toNat) (fun _ => cvT l) ?_ (List.replicate l.length [], 0) ⟨0, by omega, rfl, by simp⟩
    rintro ⟨a, i⟩ ⟨n, hn, rfl, rfl⟩
    dsimp only
    by_cases hlt : n < l.length
    · obtain ⟨K, hK⟩ := toFaceS_ev l[n] (h.2 _ (List.getElem_mem hlt))
      refine .inr ⟨((l.take (n + 1)).map cvR ++ List.replicate (l.length - (n + 1)) [], ((n + 1 : Nat) : Int)), K, ⟨n + 1, by omega, rfl, rfl⟩, by simp; omega, rfl, fun k hk => ?_⟩
      have e : laws_toFaceS.f k l[n] = some _ := hK k hk
      have h1 := h.1
      simp only [laws_toFaceSS.l0]
      rw [if_pos (by omega), if_pos (by omega), rd_LLawFace_lt l n hlt, e, yfy, if_pos (by simp; omega), wrap_succ (by omega), Int.toNat_natCast, map_take_set cvR l [] n hlt]
    · obtain rfl : n = l.length := by omega
      refine .inl ⟨0, fun k _ => ?_⟩
      simp only [laws_toFaceSS.l0]
      rw [if_neg (by omega)]
      simp [cvT]
  have h1 := h.1
  refine Ev.congr (fun k => ?_) hl
  unfold laws_toFaceSS.f
  rw [if_pos (by omega), if_pos (by simp; omega), Int.toNat_natCast]
theorem toTriangulation_ev (l : List (List SLawFace)) (h : SmallL l) : Ev (fun k => laws_toTriangulation.f k l) (cvT l) := Ev.bind (toFaceSS_ev l h) (Ev.now _)
theorem eqFaceS_ev (l : List SFace) (h : l.length ≤ 1048576) : Ev (fun k => laws_eqFaceS.f k l l) true := by
  have hl : Ev (fun k => laws_eqFaceS.l0 k l l 0) true := by
    refine ev_loop0 (fun k (s : Int) => laws_eqFaceS.l0 k l l s) (fun s => ∃ n : Nat, n ≤ l.length ∧ s = n) (fun s => l.length - s.toNat) (fun _ => true) ?_ 0 ⟨0, by omega, rfl⟩
    rintro i ⟨n, hn, rfl⟩
    by_cases hlt : n < l.length
    · refine .inr ⟨((n + 1 : Nat) : Int), ⟨n + 1, by omega, rfl⟩, by simp; omega, rfl, fun k => ?_⟩
      simp only [laws_eqFaceS.l0, laws_eqFace.f]
      rw [if_pos (by omega), if_pos (by omega), if_pos (by omega), if_pos trivial, if_pos trivial, yfy, if_pos rfl, wrap_succ (by omega)]
    · refine .inl fun k => ?_
      simp only [laws_eqFaceS.l0]
      rw [if_neg (by omega)]
  refine Ev.congr (fun k => ?_) hl
  unfold laws_eqFaceS.f
  rw [if_pos rfl]
theorem eqTriangulation_ev (l : Tri) (h : Small l) : Ev (fun k => laws_eqTriangulation.f k l l) true := by
  have hl : Ev (fun k => laws_eqFaceSS.l0 k l l 0) true := by
    refine ev_loop (fun k (s : Int) => laws_eqFaceSS.l0 k l l s) (fun s => ∃ n : Nat, n ≤ l.length ∧ s = n) (fun s => l.length - s.toNat) (fun _ => true) ?_ 0 ⟨0, by omega, rfl⟩
    rintro i ⟨n, hn, rfl⟩
    by_cases hlt : n < l.length
    · obtain ⟨K, hK⟩ := eqFaceS_ev l[n] (h.2 _ (List.getElem_mem hlt))
      refine .inr ⟨((n + 1 : Nat) : Int), K, ⟨n + 1, by omega, rfl⟩, by simp; omega, rfl, fun k hk => ?_⟩
      have e : laws_eqFaceS.f k l[n] l[n] = some _ := hK k hk
      have h1 := h.1
      simp only [laws_eqFaceSS.l0]
      rw [if_pos (by omega), if_pos (by omega), if_pos (by omega), rd_LFace_lt l n hlt, e, yfy, if_pos rfl, wrap_succ (by omega)]
    · refine .inl ⟨0, fun k _ => ?_⟩
      simp only [laws_eqFaceSS.l0]
      rw [if_neg (by omega)]
  have h2 : Ev (fun k => laws_eqFaceSS.f k l l) true := by
    refine Ev.congr (fun k => ?_) hl
    unfold laws_eqFaceSS.f
    rw [if_pos rfl]
  exact Ev.bind h2 (ev_pos rfl (Ev.now _))
/-- The face f of the tetrahedron a. -/
abbrev fc (t : Tri) (a f : Int) : SFace := rd_Face (rd_LFace t a) f
/-- Is a face as in a valid triangulation? -/
def goodF (t : Tri) (a f : Int) : Bool :=
  if (fc t a f).f0 = -1 then (fc t a f).f1 == 0
  else if 0 ≤ (fc t a f).f0 ∧ (fc t a f).f0 < (t.length : Int) ∧ 0 ≤ (fc t a f).f1 ∧ (fc t a f).f1 ≤ 23 then
    ((fc t (fc t a f).f0 (rd (permL (fc t a f).f1) f)).f0 == a && (fc t (fc t a f).f0 (rd (permL (fc t a f).f1) f)).f1 == invP (fc t a f).f1) && !((fc t a f).f0 == a && rd (permL (fc t a f).f1) f == f)
  else false
/-- d faces of a from f on are good. -/
def goodFs (t : Tri) (a : Int) : Int → Nat → Bool
  | _, 0 => true
  | f, d + 1 => goodF t a f && goodFs t a (f + 1) d
/-- d tetrahedra from a on are good. -/
def goodTs (t : Tri) : Int → Nat → Bool
  | _, 0 => true
  | a, d + 1 => goodFs t a 0 4 && goodTs t (a + 1) d
/-- A valid triangulation. -/
def isTri (t : Tri) : Bool := decide (t.length ≤ 8) && (t.all (fun r => decide (r.length = 4)) && goodTs t 0 t.length)
section
variable {t : Tri}
theorem row4 (h4 : ∀ r ∈ t, r.length = 4) {a : Int} (h0 : 0 ≤ a) (h1 : a < t.length) : (rd_LFace t a).length = 4 := by
  obtain ⟨n, rfl⟩ := Int.eq_ofNat_of_zero_le h0
  rw [rd_LFace_lt t n (by omega)]
  exact h4 _ (List.getElem_mem _)
theorem impl_isGood_ev (h4 : ∀ r ∈ t, r.length = 4) (hn : t.length ≤ 8) {a f : Int} (h0 : 0 ≤ a) (h1 : a < t.length) (hf0 : 0 ≤ f) (hf1 : f ≤ 3) : Ev (fun k => impl_Triangulation_isGood.f k t a f) (goodF t a f) := by
  have hr := row4 h4 h0 h1
  refine Ev.congr (fun k => by unfold impl_Triangulation_isGood.f; rw [if_pos h0, if_pos h1, if_pos hf0, if_pos (by omega)]) ?_
  change Ev (fun k => if (fc t a f).f0 = -1 then some ((fc t a f).f1 == 0) else _) (goodF t a f)
  unfold goodF
  by_cases hb : (fc t a f).f0 = -1
  · rw [if_pos hb]; exact ev_pos hb (Ev.now _)
  · refine ev_neg hb ?_
    rw [if_neg hb]
    have hix : impl_hasIndex_Simpl_Face.f t (fc t a f).f0 = some (decide (0 ≤ (fc t a f).f0) && decide ((fc t a f).f0 ≤ (t.length : Int) - 1)) := by
      unfold impl_hasIndex_Simpl_Face.f impl_size_Simpl_Face.f
      rw [yfy, wrap_id (by omega) (by omega), inRange_eq]; rfl
    have hfalse : Ev (fun k => impl_Triangulation_isGood.j0 k a f true t (fc t a f).f0 (fc t a f).f1) false := ev_step (fun k => by rw [impl_Triangulation_isGood.j0, if_pos rfl]) (Ev.now false)
    refine Ev.bind (ev_const hix) ?_
    by_cases hi : 0 ≤ (fc t a f).f0 ∧ (fc t a f).f0 < (t.length : Int)
    · refine ev_pos (by simp; omega) ?_
      refine Ev.bind (ev_const (isPerm_eq _)) ?_
      by_cases hp : 0 ≤ (fc t a f).f1 ∧ (fc t a f).f1 ≤ 23
      · rw [if_pos ⟨hi.1, hi.2, hp.1, hp.2⟩]
        have e : (!(decide (0 ≤ (fc t a f).f1) && decide ((fc t a f).f1 ≤ 23))) = false := by simp [hp]
        rw [e]
        refine ev_step (fun k => by rw [impl_Triangulation_isGood.j0, if_neg (by simp), target_eq hp.1 hp.2 hf0 hf1, yfy]) ?_
        obtain ⟨hg0, hg1⟩ := permL_sm hp.1 hp.2 hf0 hf1
        have hr2 := row4 h4 hi.1 hi.2
        refine ev_pos hi.1 (ev_pos hi.2 (ev_pos hg0 (ev_pos (by rw [hr2]; omega) ?_)))
        refine Ev.bind (ev_const (partner_eq hp.1 hp.2)) ?_
        change Ev (fun k => if ((fc t (fc t a f).f0 (rd (permL (fc t a f).f1) f)).f0 == a && (fc t (fc t a f).f0 (rd (permL (fc t a f).f1) f)).f1 == invP (fc t a f).f1) = true then _ else _) _
        generalize ((fc t (fc t a f).f0 (rd (permL (fc t a f).f1) f)).f0 == a && (fc t (fc t a f).f0 (rd (permL (fc t a f).f1) f)).f1 == invP (fc t a f).f1) = b
        cases b with
        | false => refine ev_neg (by simp) ?_; rw [Bool.false_and]; exact Ev.now false
        | true =>
          refine ev_pos rfl ?_
          rw [Bool.true_and]
          by_cases ha : (fc t a f).f0 = a
          · refine ev_pos ha (ev_some ?_)
            rw [ha]; simp [bne]
          · refine ev_neg ha (ev_some ?_)
            simp [ha]
      · rw [if_neg (by omega)]
        have e : (!(decide (0 ≤ (fc t a f).f1) && decide ((fc t a f).f1 ≤ 23))) = true := by
          rw [Bool.not_eq_true', Bool.and_eq_false_iff, decide_eq_false_iff_not, decide_eq_false_iff_not]; omega
        rw [e]
        exact hfalse
    · rw [if_neg (by omega)]
      refine ev_neg ?_ hfalse
      rw [Bool.and_eq_true, decide_eq_true_eq, decide_eq_true_eq]; omega
theorem impl_l1_ev (h4 : ∀ r ∈ t, r.length = 4) (hn : t.length ≤ 8) {a : Int} (h0 : 0 ≤ a) (h1 : a < t.length) {R : Bool} (hR : Ev (fun k => impl_isTriangulation.l0 k (t.length : Int) (a + 1) t) R) :
    ∀ (d : Nat) (f : Int), 0 ≤ f → f + d = 4 → Ev (fun k => impl_isTriangulation.l1 k a (t.length : Int) a f t) (goodFs t a f d && R)
  | 0, f, hf, he => by
    refine ev_step (fun k => by rw [impl_isTriangulation.l1, if_neg (by omega), wrap_id (by omega) (by omega)]) ?_
    rw [goodFs, Bool.true_and]; exact hR
  | d + 1, f, hf, he => by
    refine ev_step (fun k => by rw [impl_isTriangulation.l1, if_pos (by omega)]) ?_
    refine Ev.bind (impl_isGood_ev h4 hn h0 h1 hf (by omega)) ?_
    rw [goodFs]
    cases hg : goodF t a f with
    | false => exact ev_neg (by simp) (by rw [Bool.false_and, Bool.false_and]; exact Ev.now false)
    | true =>
      refine ev_pos rfl ?_
      rw [Bool.true_and]
      exact Ev.congr (fun k => by rw [wrap_id (by omega) (by omega)]) (impl_l1_ev h4 hn h0 h1 hR d (f + 1) (by omega) (by omega))
theorem impl_l0_ev (h4 : ∀ r ∈ t, r.length = 4) (hn : t.length ≤ 8) : ∀ (d : Nat) (a : Int), 0 ≤ a → a + d = t.length → Ev (fun k => impl_isTriangulation.l0 k (t.length : Int) a t) (goodTs t a d)
  | 0, a, ha, he => by
    refine ev_step (fun k => by rw [impl_isTriangulation.l0, if_neg (by omega)]) ?_
    exact Ev.now true
  | d + 1, a, ha, he => by
    refine ev_step (fun k => by rw [impl_isTriangulation.l0, if_pos (by omega)]) ?_
    rw [goodTs]
    exact impl_l1_ev h4 hn ha (by omega) (impl_l0_ev h4 hn d (a + 1) (by omega) (by omega)) 4 0 (by omega) (by omega)
theorem all4_iff : t.all (fun r => decide (r.length = 4)) = true ↔ ∀ r ∈ t, r.length = 4 := by simp
theorem contains4 (h : Small t) : slices_ContainsFunc_SSimpl_Face_at_impl_isTriangulation_1.f t = some (!(t.all fun r => decide (r.length = 4))) := by
  unfold slices_ContainsFunc_SSimpl_Face_at_impl_isTriangulation_1.f slices_IndexFunc_SSimpl_Face_at_impl_isTriangulation_1.f
  rw [contO (p := fun r => !(decide (r.length = 4))) t (fun r _ => by
    show impl_isTriangulation_1.f r = _
    unfold impl_isTriangulation_1.f
    congr 1
    by_cases h : r.length = 4
    · simp [h]
    · have : ¬ ((r.length : Int) = 4) := by omega
      simp [h, this]), List.not_all_eq_any_not]
theorem impl_isTri_ev (h : Small t) : Ev (fun k => impl_isTriangulation.f k t) (isTri t) := by
  have hfalse : Ev (fun k => impl_isTriangulation.j0 k true t) false := ev_step (fun k => by rw [impl_isTriangulation.j0, if_pos rfl]) (Ev.now false)
  unfold isTri
  by_cases h8 : t.length ≤ 8
  · refine Ev.congr (fun k => by unfold impl_isTriangulation.f; rw [if_neg (by omega), contains4 h, yfy]) ?_
    rw [ygy h8, Bool.true_and]
    cases hall : t.all (fun r => decide (r.length = 4)) with
    | false => rw [Bool.false_and]; exact hfalse
    | true =>
      rw [Bool.true_and]
      refine ev_step (fun k => by rw [impl_isTriangulation.j0, if_neg (by simp)]) ?_
      exact impl_l0_ev (all4_iff.1 hall) h8 t.length 0 (by omega) (by omega)
  · refine Ev.congr (fun k => by unfold impl_isTriangulation.f; rw [if_pos (by omega)]) ?_
    rw [yhy h8, Bool.false_and]; exact hfalse
theorem spec_l2_ev (h4 : ∀ r ∈ t, r.length = 4) (hn : t.length ≤ 8) {a : Int} (h0 : 0 ≤ a) (h1 : a < t.length) {R : Bool} (hR : Ev (fun k => spec_IsTriangulation.l1 k (a + 1) t) R) :
    ∀ (d : Nat) (f : Int), 0 ≤ f → f + d = 4 → Ev (fun k => spec_IsTriangulation.l2 k a f t) (goodFs t a f d && R)
  | 0, f, hf, he => by
    refine ev_step (fun k => by rw [spec_IsTriangulation.l2, if_neg (by omega), wrap_id (by omega) (by omega)]) ?_
    rw [goodFs, Bool.true_and]; exact hR
  | d + 1, f, hf, he => by
    have hr := row4 h4 h0 h1
    have ih : Ev (fun k => spec_IsTriangulation.l2 k a (wrap64 (f + 1)) t) (goodFs t a (f + 1) d && R) := Ev.congr (fun k => by rw [wrap_id (by omega) (by omega)]) (spec_l2_ev h4 hn h0 h1 hR d (f + 1) (by omega) (by omega))
    refine ev_step (fun k => by rw [spec_IsTriangulation.l2, if_pos (by omega), if_pos h0, if_pos h1, if_pos hf, if_pos (by omega)]) ?_
    change Ev (fun k => if (fc t a f).f0 = -1 then spec_IsTriangulation.j3 k a f ((fc t a f).f1 == 0) t (fc t a f).f0 (fc t a f).f1 else spec_IsTriangulation.j3 k a f false t (fc t a f).f0 (fc t a f).f1) _
    rw [goodFs]
    have hstop : ∀ b, Ev (fun k => spec_IsTriangulation.j4 k a f true t (fc t a f).f0 (fc t a f).f1) (false && b) := fun b => by
      rw [Bool.false_and]; exact ev_step (fun k => by rw [spec_IsTriangulation.j4, if_pos rfl]) (Ev.now false)
    have hgo : Ev (fun k => spec_IsTriangulation.j3 k a f true t (fc t a f).f0 (fc t a f).f1) (goodFs t a (f + 1) d && R) := ev_step (fun k => by rw [spec_IsTriangulation.j3, if_pos rfl]) ih
    have hrest : (¬ ((fc t a f).f0 = -1 ∧ (fc t a f).f1 = 0)) → Ev (fun k => spec_IsTriangulation.j3 k a f false t (fc t a f).f0 (fc t a f).f1) (goodF t a f && goodFs t a (f + 1) d && R) := by
      intro hnb
      refine ev_step (fun k => by rw [spec_IsTriangulation.j3, spec_l07Tets.f, if_neg (by simp), yfy, l07In_eq, yfy, wrap_id (by omega) (by omega)]) ?_
      unfold goodF
      by_cases hi : 0 ≤ (fc t a f).f0 ∧ (fc t a f).f0 < (t.length : Int)
      · refine ev_pos (by simp; omega) ?_
        refine Ev.bind (ev_const (l06Valid_eq _)) ?_
        rw [if_neg (by omega)]
        by_cases hp : 0 ≤ (fc t a f).f1 ∧ (fc t a f).f1 ≤ 23
        · rw [if_pos ⟨hi.1, hi.2, hp.1, hp.2⟩]
          have e : (!(decide (0 ≤ (fc t a f).f1) && decide ((fc t a f).f1 ≤ 23))) = false := by simp [hp]
          rw [e]
          obtain ⟨hg0, hg1⟩ := permL_sm hp.1 hp.2 hf (by omega)
          have hr2 := row4 h4 hi.1 hi.2
          refine ev_step (fun k => by rw [spec_IsTriangulation.j4, if_neg (by simp)]) ?_
          refine Ev.bind (l06At_ev hp.1 hp.2 hf (by omega)) ?_
          refine Ev.bind (l06Back_ev hp.1 hp.2) ?_
          refine ev_pos hi.1 (ev_pos hi.2 (ev_pos hg0 (ev_pos (by rw [hr2]; omega) ?_)))
          change Ev (fun k => if (!((fc t (fc t a f).f0 (rd (permL (fc t a f).f1) f)).f0 == a) || !((fc t (fc t a f).f0 (rd (permL (fc t a f).f1) f)).f1 == invP (fc t a f).f1)) = true then _ else _) _
          generalize ((fc t (fc t a f).f0 (rd (permL (fc t a f).f1) f)).f0 == a) = b1
          generalize ((fc t (fc t a f).f0 (rd (permL (fc t a f).f1) f)).f1 == invP (fc t a f).f1) = b2
          cases b1 with
          | false => exact ev_pos rfl (by rw [Bool.false_and, Bool.false_and, Bool.false_and, Bool.false_and]; exact Ev.now false)
          | true =>
            cases b2 with
            | false => exact ev_pos rfl (by rw [Bool.true_and, Bool.false_and, Bool.false_and, Bool.false_and]; exact Ev.now false)
            | true =>
              refine ev_neg (by simp) ?_
              rw [Bool.true_and, Bool.true_and]
              by_cases ha : (fc t a f).f0 = a
              · refine ev_pos ha ?_
                by_cases hg : rd (permL (fc t a f).f1) f = f
                · refine ev_pos hg ?_
                  rw [ha, hg]
                  simp
                  exact Ev.now false
                · refine ev_neg hg ?_
                  have : (rd (permL (fc t a f).f1) f == f) = false := by simp [hg]
                  rw [this, Bool.and_false, Bool.not_false, Bool.true_and]
                  exact ih
              · refine ev_neg ha ?_
                have : ((fc t a f).f0 == a) = false := by simp [ha]
                rw [this, Bool.false_and, Bool.not_false, Bool.true_and]
                exact ih
        · rw [if_neg (by omega)]
          have e : (!(decide (0 ≤ (fc t a f).f1) && decide ((fc t a f).f1 ≤ 23))) = true := by
            rw [Bool.not_eq_true', Bool.and_eq_false_iff, decide_eq_false_iff_not, decide_eq_false_iff_not]; omega
          rw [e, Bool.false_and]
          exact hstop R
      · have hg : (if (fc t a f).f0 = -1 then ((fc t a f).f1 == 0) else if 0 ≤ (fc t a f).f0 ∧ (fc t a f).f0 < (t.length : Int) ∧ 0 ≤ (fc t a f).f1 ∧ (fc t a f).f1 ≤ 23 then
            ((fc t (fc t a f).f0 (rd (permL (fc t a f).f1) f)).f0 == a && (fc t (fc t a f).f0 (rd (permL (fc t a f).f1) f)).f1 == invP (fc t a f).f1) && !((fc t a f).f0 == a && rd (permL (fc t a f).f1) f == f) else false) = false := by
          by_cases hb : (fc t a f).f0 = -1
          · rw [if_pos hb]; simp; intro h; exact hnb ⟨hb, h⟩
          · rw [if_neg hb, if_neg (by omega)]
        rw [hg, Bool.false_and]
        refine ev_neg ?_ (hstop R)
        rw [Bool.and_eq_true, decide_eq_true_eq, decide_eq_true_eq]; omega
    by_cases hb : (fc t a f).f0 = -1
    · refine ev_pos hb ?_
      by_cases h0' : (fc t a f).f1 = 0
      · have e : goodF t a f = true := by unfold goodF; rw [if_pos hb]; simp [h0']
        rw [e, Bool.true_and]
        have e2 : ((fc t a f).f1 == 0) = true := by simp [h0']
        rw [e2]; exact hgo
      · have e2 : ((fc t a f).f1 == 0) = false := by simp [h0']
        rw [e2]; exact hrest (fun h => h0' h.2)
    · exact ev_neg hb (hrest (fun h => hb h.1))
theorem spec_l1_ev (h4 : ∀ r ∈ t, r.length = 4) (hn : t.length ≤ 8) : ∀ (d : Nat) (a : Int), 0 ≤ a → a + d = t.length → Ev (fun k => spec_IsTriangulation.l1 k a t) (goodTs t a d)
  | 0, a, ha, he => by
    refine ev_step (fun k => by rw [spec_IsTriangulation.l1, spec_l07Tets.f, yfy, if_neg (by omega)]) ?_
    exact Ev.now true
  | d + 1, a, ha, he => by
    refine ev_step (fun k => by rw [spec_IsTriangulation.l1, spec_l07Tets.f, yfy, if_pos (by omega)]) ?_
    rw [goodTs]
    exact spec_l2_ev h4 hn ha (by omega) (spec_l1_ev h4 hn d (a + 1) (by omega) (by omega)) 4 0 (by omega) (by omega)
theorem spec_l0_ev (h8 : t.length ≤ 8) (d : Nat) : ∀ n : Nat, n + d = t.length → (t.all (fun r => decide (r.length = 4)) = (t.drop n).all (fun r => decide (r.length = 4))) → Ev (fun k => spec_IsTriangulation.l0 k (n : Int) t) (t.all (fun r => decide (r.length = 4)) && goodTs t 0 t.length) := by
  induction d with
  | zero =>
    intro n hn ha
    refine ev_step (fun k => by rw [spec_IsTriangulation.l0, if_neg (by omega)]) ?_
    have hall : t.all (fun r => decide (r.length = 4)) = true := by rw [ha, List.drop_eq_nil_of_le (by omega)]; rfl
    rw [hall, Bool.true_and]
    exact spec_l1_ev (all4_iff.1 hall) h8 t.length 0 (by omega) (by omega)
  | succ d ih =>
    intro n hn ha
    have hlt : n < t.length := by omega
    refine ev_step (fun k => by rw [spec_IsTriangulation.l0, if_pos (by omega), if_pos (by omega), rd_LFace_lt t n hlt]) ?_
    rw [List.drop_eq_getElem_cons hlt, List.all_cons] at ha
    by_cases h : t[n].length = 4
    · refine ev_pos (by omega) ?_
      refine Ev.congr (fun k => by rw [wrap_succ (by omega)]) (ih (n + 1) (by omega) ?_)
      rw [ha, ygy h, Bool.true_and]
    · refine ev_neg (by omega) ?_
      rw [ha, yhy h, Bool.false_and, Bool.false_and]
      exact Ev.now false
theorem spec_isTri_ev (t : Tri) : Ev (fun k => spec_IsTriangulation.f k t) (isTri t) := by
  refine Ev.congr (fun k => by unfold spec_IsTriangulation.f spec_l07Tets.f; rw [yfy]) ?_
  unfold isTri
  by_cases h8 : t.length ≤ 8
  · refine ev_neg (by omega) ?_
    rw [ygy h8, Bool.true_and]
    exact spec_l0_ev h8 t.length 0 (by omega) (by rw [List.drop_zero])
  · refine ev_pos (by omega) ?_
    rw [yhy h8, Bool.false_and]
    exact Ev.now false
end
theorem isTri_good {t : Tri} (h : isTri t = true) : t.length ≤ 8 ∧ (∀ r ∈ t, r.length = 4) ∧ goodTs t 0 t.length = true := by
  unfold isTri at h
  rw [Bool.and_eq_true, Bool.and_eq_true, decide_eq_true_eq] at h
  exact ⟨h.1, all4_iff.1 h.2.1, h.2.2⟩
theorem goodFs_at (t : Tri) (a : Int) (d : Nat) : ∀ f, goodFs t a f d = true → ∀ g, f ≤ g → g < f + d → goodF t a g = true := by
  induction d with
  | zero => intro f _ g h1 h2; omega
  | succ d ih =>
    intro f h g h1 h2
    rw [goodFs, Bool.and_eq_true] at h
    by_cases e : g = f
    · rw [e]; exact h.1
    · exact ih (f + 1) h.2 g (by omega) (by omega)
theorem goodTs_at (t : Tri) (d : Nat) : ∀ a, goodTs t a d = true → ∀ b, a ≤ b → b < a + d → ∀ g, 0 ≤ g → g ≤ 3 → goodF t b g = true := by
  induction d with
  | zero => intro a _ b h1 h2; omega
  | succ d ih =>
    intro a h b h1 h2 g hg0 hg1
    rw [goodTs, Bool.and_eq_true] at h
    by_cases e : b = a
    · rw [e]; exact goodFs_at t a 4 0 h.1 g hg0 (by omega)
    · exact ih (a + 1) h.2 b (by omega) (by omega) g hg0 hg1
/-- A face of a valid triangulation: the boundary, or glued to a face that is glued back. -/
theorem face_good {t : Tri} (h : isTri t = true) {a f : Int} (h0 : 0 ≤ a) (h1 : a < t.length) (hf0 : 0 ≤ f) (hf1 : f ≤ 3) :
    ((fc t a f).f0 = -1 ∧ (fc t a f).f1 = 0) ∨
    ((0 ≤ (fc t a f).f0 ∧ (fc t a f).f0 < (t.length : Int) ∧ 0 ≤ (fc t a f).f1 ∧ (fc t a f).f1 ≤ 23) ∧
      (fc t (fc t a f).f0 (rd (permL (fc t a f).f1) f)).f0 = a ∧ (fc t (fc t a f).f0 (rd (permL (fc t a f).f1) f)).f1 = invP (fc t a f).f1 ∧ ¬ ((fc t a f).f0 = a ∧ rd (permL (fc t a f).f1) f = f)) := by
  have hg := goodTs_at t t.length 0 (isTri_good h).2.2 a h0 (by omega) f hf0 hf1
  unfold goodF at hg
  by_cases hb : (fc t a f).f0 = -1
  · rw [if_pos hb] at hg
    exact .inl ⟨hb, by simpa using hg⟩
  · rw [if_neg hb] at hg
    by_cases hi : 0 ≤ (fc t a f).f0 ∧ (fc t a f).f0 < (t.length : Int) ∧ 0 ≤ (fc t a f).f1 ∧ (fc t a f).f1 ≤ 23
    · rw [if_pos hi, Bool.and_eq_true, Bool.and_eq_true, Bool.not_eq_true'] at hg
      refine .inr ⟨hi, eq_of_beq hg.1.1, eq_of_beq hg.1.2, fun hc => ?_⟩
      have := hg.2
      rw [Bool.and_eq_false_iff] at this
      rcases this with h2 | h2
      · exact absurd hc.1 (by simpa using h2)
      · exact absurd hc.2 (by simpa using h2)
    · rw [if_neg hi] at hg; cases hg
theorem isTri_small {t : Tri} (h : isTri t = true) : Small t := ⟨by have := (isTri_good h).1; omega, fun r hr => by have := (isTri_good h).2.1 r hr; omega⟩
/-- Each of 0 to n - 1 once: what both sides look up, element by element. -/
def permGo (n : Nat) : List Int → List Bool → Bool
  | [], _ => true
  | x :: xs, seen => if (0 ≤ x ∧ x < (n : Int)) ∧ seen.getD x.toNat false = false then permGo n xs (seen.set x.toNat true) else false
def isPermL (n : Nat) (l : List Int) : Bool := permGo n l (List.replicate n false) && decide (l.length = n)
theorem permGo_fin (n : Nat) : ∀ (l : List Int) (seen : List Bool), seen.length = n → permGo n l seen = true →
    ∃ fin : List Bool, fin.length = n ∧ fin.count true = seen.count true + l.length ∧ ∀ i : Nat, fin[i]? = some true → seen[i]? = some true ∨ (i : Int) ∈ l
  | [], seen, hl, _ => ⟨seen, hl, by simp, fun i h => .inl h⟩
  | x :: xs, seen, hl, h => by
    rw [permGo] at h
    by_cases hc : (0 ≤ x ∧ x < (n : Int)) ∧ seen.getD x.toNat false = false
    · rw [if_pos hc] at h
      obtain ⟨⟨h0, h1⟩, h2⟩ := hc
      have hlt : x.toNat < seen.length := by omega
      obtain ⟨fin, f1, f2, f3⟩ := permGo_fin n xs (seen.set x.toNat true) (by simp [hl]) h
      have hx : seen[x.toNat] = false := by simpa [hlt] using h2
      refine ⟨fin, f1, ?_, fun i hi => ?_⟩
      · rw [f2, List.count_set hlt, hx]; simp; omega
      · rcases f3 i hi with h4 | h4
        · rw [List.getElem?_set] at h4
          by_cases e : x.toNat = i
          · exact .inr (by rw [← e, Int.toNat_of_nonneg h0]; exact List.mem_cons_self)
          · rw [if_neg e] at h4; exact .inl h4
        · exact .inr (List.mem_cons_of_mem _ h4)
    · rw [if_neg hc] at h; cases h
theorem permGo_range (n : Nat) : ∀ (l : List Int) (seen : List Bool), permGo n l seen = true → ∀ x ∈ l, 0 ≤ x ∧ x < (n : Int)
  | [], _, _ => fun x hx => by cases hx
  | y :: ys, seen, h => by
    rw [permGo] at h
    by_cases hc : (0 ≤ y ∧ y < (n : Int)) ∧ seen.getD y.toNat false = false
    · rw [if_pos hc] at h
      intro x hx
      rcases List.mem_cons.1 hx with rfl | hx
      · exact hc.1
      · exact permGo_range n ys _ h x hx
    · rw [if_neg hc] at h; cases h
theorem isPermL_len {n : Nat} {l : List Int} (h : isPermL n l = true) : l.length = n := by
  unfold isPermL at h; rw [Bool.and_eq_true, decide_eq_true_eq] at h; exact h.2
theorem isPermL_range {n : Nat} {l : List Int} (h : isPermL n l = true) : ∀ x ∈ l, 0 ≤ x ∧ x < (n : Int) := by
  unfold isPermL at h; rw [Bool.and_eq_true] at h; exact permGo_range n l _ h.1
theorem isPermL_all {n : Nat} {l : List Int} (h : isPermL n l = true) : ∀ i : Nat, i < n → (i : Int) ∈ l := by
  have hlen := isPermL_len h
  unfold isPermL at h; rw [Bool.and_eq_true] at h
  obtain ⟨fin, f1, f2, f3⟩ := permGo_fin n l _ (by simp) h.1
  have e : fin.count true = fin.length := by rw [f2, f1, hlen, List.count_replicate]; simp
  rw [List.count_eq_length] at e
  intro i hi
  have h2 : i < fin.length := by omega
  rcases f3 i (by rw [List.getElem?_eq_getElem h2, ← e fin[i] (List.getElem_mem h2)]) with h3 | h3
  · rw [List.getElem?_replicate, if_pos hi] at h3; cases h3
  · exact h3
theorem relN_get (t : Tri) (ts ps : List Int) (i : Nat) : ∀ (m : Nat) (u v : Tri), u.length = v.length → ((∃ a : Nat, a < m ∧ rd ts (a : Int) = (i : Int)) ∨ u[i]? = v[i]?) → (relN t ts ps m u)[i]? = (relN t ts ps m v)[i]?
  | 0, u, v, hl, h => by
    rcases h with ⟨a, ha, _⟩ | h
    · omega
    · exact h
  | m + 1, u, v, hl, h => by
    rw [relN, relN, List.getElem?_set, List.getElem?_set, relN_length, relN_length, hl]
    by_cases e : (rd ts (m : Int)).toNat = i
    · rw [if_pos e, if_pos e]
    · rw [if_neg e, if_neg e]
      refine relN_get t ts ps i m u v hl ?_
      rcases h with ⟨a, ha, h⟩ | h
      · rcases Nat.lt_or_ge a m with h2 | h2
        · exact .inl ⟨a, h2, h⟩
        · obtain rfl : a = m := by omega
          exact absurd (by rw [h]; rfl) e
      · exact .inr h
/-- What the list began with is all written over. -/
theorem relN_any (t : Tri) (ts ps : List Int) {n : Nat} (hp : isPermL n ts = true) {u v : Tri} (hu : u.length = n) (hv : v.length = n) : relN t ts ps n u = relN t ts ps n v := by
  apply List.ext_getElem?
  intro i
  by_cases hi : i < n
  · obtain ⟨a, ha, he⟩ := List.getElem_of_mem (isPermL_all hp i hi)
    refine relN_get t ts ps i n u v (by omega) (.inl ⟨a, by have := isPermL_len hp; omega, ?_⟩)
    rw [rd_lt _ _ ha]; exact he
  · rw [List.getElem?_eq_none (by rw [relN_length]; omega), List.getElem?_eq_none (by rw [relN_length]; omega)]
theorem spec_own_ev {t : Tri} (hs : Small t) : Ev (fun k => spec_l07Own.f k t) t := by
  refine ev_loop0 (fun k (s : Int × Tri) => spec_l07Own.l0 k s.1 t s.2) (fun s => ∃ n : Nat, n ≤ t.length ∧ s.1 = n ∧ s.2 = t.take n) (fun s => t.length - s.1.toNat) (fun _ => t) ?_ (0, []) ⟨0, by omega, rfl, by simp⟩
  rintro ⟨i, acc⟩ ⟨n, hn, rfl, rfl⟩
  dsimp only
  have hl := hs.1
  by_cases hlt : n < t.length
  · have hr := hs.2 t[n] (List.getElem_mem hlt)
    refine .inr ⟨(((n + 1 : Nat) : Int), t.take (n + 1)), ⟨n + 1, by omega, rfl, rfl⟩, by simp; omega, rfl, fun k => ?_⟩
    simp only [spec_l07Own.l0]
    rw [if_pos (by omega), yfy, if_pos (by omega), rd_LFace_lt t n hlt, if_pos (by simp; omega), if_pos (by simp; omega), wrap_succ (by omega), List.nil_append, List.take_succ_eq_append_getElem hlt]
  · obtain rfl : n = t.length := by omega
    refine .inl fun k => ?_
    simp only [spec_l07Own.l0]
    rw [if_neg (by omega), List.take_length]
/-- Numbers by which a triangulation of n tetrahedra can be relabelled. -/
def okPs (n : Nat) (ps : List Int) : Bool := decide (ps.length = n) && ps.all (fun p => decide (0 ≤ p) && decide (p ≤ 23))
def okLab (n : Nat) (ts ps : List Int) : Bool := isPermL n ts && okPs n ps
theorem okLab_h {n : Nat} {ts ps : List Int} (h : okLab n ts ps = true) : ts.length = n ∧ (∀ x ∈ ts, 0 ≤ x ∧ x < (n : Int)) ∧ ps.length = n ∧ ∀ x ∈ ps, 0 ≤ x ∧ x ≤ 23 := by
  unfold okLab okPs at h
  simp only [Bool.and_eq_true, decide_eq_true_eq, List.all_eq_true] at h
  exact ⟨isPermL_len h.1, isPermL_range h.1, h.2.1, h.2.2⟩
def relT (t : Tri) (ts ps : List Int) : Tri := relN t ts ps t.length (List.replicate t.length [])
theorem relN_rows (t : Tri) (ts ps : List Int) (u : Tri) (hu : ∀ r ∈ u, r.length ≤ 4) : ∀ n, ∀ r ∈ relN t ts ps n u, r.length ≤ 4
  | 0 => hu
  | n + 1 => fun r hr => by
    rw [relN] at hr
    rcases List.mem_or_eq_of_mem_set hr with h | h
    · exact relN_rows t ts ps u hu n r h
    · rw [h, relK_length]; omega
theorem relT_small {t : Tri} (h : t.length ≤ 8) (ts ps : List Int) : Small (relT t ts ps) :=
  ⟨by unfold relT; rw [relN_length, List.length_replicate]; omega, fun r hr => by have := relN_rows t ts ps _ (fun r hr => by rw [(List.mem_replicate.1 hr).2]; simp) _ r hr; omega⟩
theorem okRel_of {t : Tri} (h : isTri t = true) {ts ps : List Int} (hl : okLab t.length ts ps = true) : okRel t ts ps = true := by
  obtain ⟨h8, h4, _⟩ := isTri_good h
  obtain ⟨a, b, c, d⟩ := okLab_h hl
  unfold okRel
  simp only [Bool.and_eq_true, decide_eq_true_eq, List.all_eq_true]
  refine ⟨⟨⟨⟨⟨by omega, fun r hr => ⟨h4 r hr, fun x hx => ?_⟩⟩, a⟩, b⟩, c⟩, d⟩
  unfold okF
  by_cases hb : x.f0 < 0
  · rw [ygy hb]; rfl
  · rw [yhy hb, Bool.false_or, Bool.and_eq_true, Bool.and_eq_true, decide_eq_true_eq, decide_eq_true_eq, decide_eq_true_eq]
    obtain ⟨i, hi, rfl⟩ := List.getElem_of_mem hr
    obtain ⟨j, hj, rfl⟩ := List.getElem_of_mem hx
    have hj4 := h4 _ (List.getElem_mem hi)
    have e : fc t (i : Int) (j : Int) = t[i][j] := by show rd_Face (rd_LFace t (i : Int)) (j : Int) = _; rw [rd_LFace_lt t i hi, rd_Face_lt _ j hj]
    rcases face_good h (a := (i : Int)) (f := (j : Int)) (by omega) (by omega) (by omega) (by omega) with ⟨e1, _⟩ | ⟨e1, _⟩
    · rw [e] at e1; exact absurd (by omega) hb
    · rw [e] at e1; exact ⟨⟨e1.2.1, e1.2.2.1⟩, e1.2.2.2⟩
theorem impl_relabeled_eq {t : Tri} (h : isTri t = true) {ts ps : List Int} (hl : okLab t.length ts ps = true) : impl_Triangulation_relabeled.f t ts ps = some (relT t ts ps) := by
  unfold impl_Triangulation_relabeled.f; rw [if_pos (okRel_of h hl)]; rfl
theorem permsOk_from : ∀ d : Nat, permsOk (40 + d) = true
  | 0 => by decide +kernel
  | d + 1 => permsOk_mono (permsOk_from d)
theorem permsOk_ev {α : Type} {g h : Nat → Option α} {r : α} (k : Ev g r) : Ev (fun n => if permsOk n = true then g n else h n) r := by
  obtain ⟨K, hK⟩ := k
  refine ⟨K + 40, fun n hn => ?_⟩
  have := permsOk_from (n - 40)
  rw [show 40 + (n - 40) = n by omega] at this
  show (if permsOk n = true then g n else h n) = some r
  rw [if_pos this]
  exact hK n (by omega)
theorem spec_rel_ev {t : Tri} {ts ps : List Int} (h : isTri t = true) (hl : okLab t.length ts ps = true) : Ev (fun k => spec_l07Relabel.f k t ts ps) (relT t ts ps) := by
  refine Ev.bind (spec_own_ev (isTri_small h)) (ev_pos (okRel_of h hl) (permsOk_ev (ev_pos rfl (ev_some ?_))))
  have hp : isPermL t.length ts = true := by unfold okLab at hl; rw [Bool.and_eq_true] at hl; exact hl.1
  exact (relN_any t ts ps hp (u := List.replicate t.length []) (v := t) (by simp) rfl).symm
end Go.Proofs.Ytdgdnnjigigkcaa.P
namespace Go.Proofs.Ytdgdnnjigigkcaa.P
open Go.RowKit Go.Proofs.YtdgdnnjigigkcaaW.PrintWords Go.Proofs.YtdgdnnjigigkcaaW.PrintLast Go.Proofs.YtdgdnnjigigkcaaW.PrintMore
attribute [local go_sem] max2_int min2_int max_two min_two max_three min_three max_four min_four   -- for this text's walks alone
set_option linter.unusedVariables false
set_option linter.unusedSimpArgs false
/-! OrientedForm. -/
def negS (sg : List Int) (j : Nat) : Bool := decide (rd sg (j : Int) < 0)
end Go.Proofs.Ytdgdnnjigigkcaa.P
namespace Go.Proofs.Ytdgdnnjigigkcaa.P
open Go.RowKit Go.Proofs.YtdgdnnjigigkcaaW.PrintWords Go.Proofs.Ytdgdnnjigigkcaa.Lib
set_option linter.unusedVariables false
theorem cnt_ev (n : Nat) (hn : n ≤ 1000) : ∀ (d i : Nat), i + d = n → Ev (fun k => impl_counting.l0 k (upFrom 0 i) (n : Int) (i : Int)) (upFrom 0 n)
  | 0, i, hd => by
    obtain rfl : i = n := by omega
    exact ev_step (f := fun _ => some (upFrom 0 i)) (fun k => by rw [impl_counting.l0, if_neg (by omega)]) (Ev.now _)
  | d + 1, i, hd => by
    refine ev_step (fun k => ?_) (cnt_ev n hn d (i + 1) (by omega))
    rw [impl_counting.l0, if_pos (by omega), if_pos (by rw [upFrom_length]; omega), wrap_succ (by omega), upFrom_snoc, Int.zero_add]
theorem frs_ev (n : Nat) (hn : n ≤ 1000) : ∀ (d i : Nat), i + d = n → Ev (fun k => spec_l08Fresh.l0 k (n : Int) (upFrom 0 i) (i : Int)) (upFrom 0 n)
  | 0, i, hd => by
    obtain rfl : i = n := by omega
    exact ev_step (f := fun _ => some (upFrom 0 i)) (fun k => by rw [spec_l08Fresh.l0, if_neg (by omega)]) (Ev.now _)
  | d + 1, i, hd => by
    refine ev_step (fun k => ?_) (frs_ev n hn d (i + 1) (by omega))
    rw [spec_l08Fresh.l0, if_pos (by omega), if_pos (by rw [upFrom_length]; omega), wrap_succ (by omega), upFrom_snoc, Int.zero_add]
theorem isPermL_up {n : Nat} (hn : n ≤ 8) : isPermL n (upFrom 0 n) = true := by
  have key : ∀ m : Fin 9, isPermL m.val (upFrom 0 m.val) = true := by decide +kernel
  exact key ⟨n, by omega⟩
theorem okPs_ex (p : Nat → Bool) (n : Nat) : okPs n (exP p n n) = true := by
  unfold okPs
  rw [Bool.and_eq_true, decide_eq_true_eq, List.all_eq_true]
  refine ⟨exP_length p n n, fun x hx => ?_⟩
  unfold exP at hx
  obtain ⟨i, _, rfl⟩ := List.mem_map.1 hx
  split <;> decide
theorem okLab_ex (p : Nat → Bool) {n : Nat} (hn : n ≤ 8) : okLab n (upFrom 0 n) (exP p n n) = true := by
  unfold okLab; rw [isPermL_up hn, okPs_ex]; rfl
theorem exP_congr {p q : Nat → Bool} {n : Nat} (h : ∀ i, i < n → p i = q i) : exP p n n = exP q n n := by
  unfold exP
  apply List.map_congr_left
  intro i hi
  rw [h i (List.mem_range.1 hi)]
/-- Some tetrahedra with the vertices 2 and 3 exchanged. -/
def exT (t : Tri) (p : Nat → Bool) : Tri := relT t (upFrom 0 t.length) (exP p t.length t.length)
theorem exP_get (p : Nat → Bool) (n i : Nat) (h : i < (exP p n n).length) : (exP p n n)[i] = if p i = true then 1 else 0 := by
  have hi : i < n := by rw [exP_length] at h; exact h
  simp [exP, hi]
theorem spec_exch_l0 {t : Tri} (h : isTri t = true) (sg : List Int) (hl : sg.length = t.length) (hs : ∀ i : Nat, i < t.length → rd sg (i : Int) = 0 ∨ rd sg (i : Int) = 1 ∨ rd sg (i : Int) = -1) : ∀ d i : Nat, i + d = t.length →
    Ev (fun k => spec_l10Exchange.l0 k sg ((exP (negS sg) t.length t.length).take i) (i : Int) t) (exT t (negS sg)) := by
  obtain ⟨h8, h4, _⟩ := isTri_good h
  intro d
  induction d with
  | zero =>
    intro i hi
    refine ev_step (f := fun k => (spec_l07Tets.f t).bind fun x => (spec_l08Fresh.f k x).bind fun u => (spec_l07Relabel.f k t u (exP (negS sg) t.length t.length)).bind fun y => some y) (fun k => by rw [spec_l10Exchange.l0, if_neg (by omega), List.take_of_length_le (by rw [exP_length]; omega)]) ?_
    refine Ev.bind (a := (t.length : Int)) (ev_const (by unfold spec_l07Tets.f; rfl)) (Ev.bind (frs_ev t.length (by omega) t.length 0 (by omega)) (Ev.bind (spec_rel_ev h (okLab_ex _ h8)) (Ev.now _)))
  | succ d ih =>
    intro i hi
    refine ev_step (fun k => ?_) (ih (i + 1) (by omega))
    have hlt : i < (exP (negS sg) t.length t.length).length := by rw [exP_length]; omega
    rw [spec_l10Exchange.l0, if_pos (by omega), if_pos (by omega), if_pos (by rw [ymy]; omega), wrap_succ (by omega), List.take_succ_eq_append_getElem hlt, exP_get]
    have e : wrap64 (Int.tdiv (wrap64 (1 - rd sg (i : Int))) 2) = if negS sg i = true then 1 else 0 := by
      unfold negS
      rcases hs i (by omega) with e | e | e <;> rw [e] <;> decide +kernel
    rw [e]
theorem spec_exch_ev {t : Tri} (h : isTri t = true) (sg : List Int) (hl : sg.length = t.length) (hs : ∀ i : Nat, i < t.length → rd sg (i : Int) = 0 ∨ rd sg (i : Int) = 1 ∨ rd sg (i : Int) = -1) : Ev (fun k => spec_l10Exchange.f k t sg) (exT t (negS sg)) := by
  have := spec_exch_l0 h sg hl hs t.length 0 (by omega)
  rw [List.take_zero] at this
  exact this
theorem impl_exch_ev {t : Tri} (h : isTri t = true) (p : Nat → Bool) : Ev (fun k => if t.length ≤ 1000000 then (impl_counting.f k (t.length : Int)).bind fun cs => (impl_Triangulation_relabeled.f t cs (exP p t.length t.length)).bind fun r => some (r, (0 : Int)) else none) (exT t p, 0) := by
  have h8 := (isTri_good h).1
  refine ev_pos (by omega) (Ev.bind (cnt_ev t.length (by omega) t.length 0 (by omega)) (Ev.bind (ev_const (impl_relabeled_eq h (okLab_ex p h8))) (Ev.now _)))
def mirror (t : Tri) : Tri × Int := if isTri t = true then (exT t (fun _ => true), 0) else ([], 1)
theorem exT_small {t : Tri} (h : isTri t = true) (p : Nat → Bool) : Small (exT t p) := relT_small (isTri_good h).1 _ _
theorem mirror_small (t : Tri) : Small (mirror t).1 := by
  unfold mirror
  by_cases h : isTri t = true
  · rw [if_pos h]; exact exT_small h _
  · rw [if_neg h]; exact ⟨by simp, fun r hr => by cases hr⟩
theorem impl_mirror_ev {t : Tri} (hs : Small t) : Ev (fun k => impl_MirrorForm.f k t) (mirror t) := by
  refine Ev.bind (impl_isTri_ev hs) ?_
  unfold mirror
  cases h : isTri t with
  | false => exact ev_neg (by simp) (Ev.now _)
  | true => exact ev_pos rfl (impl_exch_ev h _)
theorem rd_rep (n i : Nat) (h : i < n) : rd (List.replicate n (-1)) (i : Int) = -1 := by rw [rd_lt _ _ (by simpa using h)]; simp
theorem spec_mirror_l0 {t : Tri} (h : isTri t = true) : ∀ d i : Nat, i + d = t.length → Ev (fun k => spec_MirrorForm.l0 k (List.replicate i (-1)) (i : Int) t) (exT t (fun _ => true), 0) := by
  obtain ⟨h8, h4, _⟩ := isTri_good h
  intro d
  induction d with
  | zero =>
    intro i hi
    obtain rfl : i = t.length := by omega
    have e : exT t (negS (List.replicate t.length (-1))) = exT t (fun _ => true) := by
      unfold exT
      rw [exP_congr (p := negS (List.replicate t.length (-1))) (q := fun _ => true) (fun i hi => by unfold negS; rw [rd_rep _ _ hi]; rfl)]
    rw [← e]
    refine ev_step (fun k => by rw [spec_MirrorForm.l0, if_neg (by omega)]) (Ev.bind (spec_exch_ev h (List.replicate t.length (-1)) (by simp) (fun i hi => .inr (.inr (rd_rep _ _ hi)))) (Ev.now _))
  | succ d ih =>
    intro i hi
    refine ev_step (fun k => ?_) (ih (i + 1) (by omega))
    rw [spec_MirrorForm.l0, if_pos (by omega), if_pos (by simp; omega), wrap_succ (by omega), List.replicate_succ']
theorem spec_mirror_ev (t : Tri) : Ev (fun k => spec_MirrorForm.f k t) (mirror t) := by
  refine Ev.bind (spec_isTri_ev t) ?_
  unfold mirror
  cases h : isTri t with
  | false => exact ev_neg (by simp) (Ev.now _)
  | true => exact ev_pos rfl (spec_mirror_l0 h t.length 0 (by omega))
/-- n marked faces from a on. -/
def mkR (a : Int) : Nat → List SFace
  | 0 => []
  | n + 1 => ⟨a, a + 1⟩ :: mkR (a + 2) n
theorem mkR_length (a : Int) (n : Nat) : (mkR a n).length = n := by
  induction n generalizing a with
  | zero => rfl
  | succ n ih => simp [mkR, ih]
theorem mkR_get (a : Int) (n i : Nat) (z : SFace) (h : i < n) : (mkR a n).getD i z = ⟨a + 2 * i, a + 2 * i + 1⟩ := by
  induction n generalizing a i with
  | zero => omega
  | succ n ih =>
    cases i with
    | zero => simp [mkR]
    | succ i => simp only [mkR, List.getD_cons_succ]; rw [ih (a + 2) i (by omega)]; congr 1 <;> omega
theorem mkR_snoc (a : Int) (n : Nat) : mkR a (n + 1) = mkR a n ++ [⟨a + 2 * n, a + 2 * n + 1⟩] := by
  induction n generalizing a with
  | zero => simp [mkR]
  | succ n ih =>
    rw [mkR, ih (a + 2)]
    have e : a + 2 + 2 * (n : Int) = a + 2 * ((n + 1 : Nat) : Int) := by omega
    rw [e]; rfl
theorem mk_set (l : List SFace) (a : Int) (n : Nat) (h : n < l.length) : (mkR a n ++ l.drop n).set n ⟨a + 2 * n, a + 2 * n + 1⟩ = mkR a (n + 1) ++ l.drop (n + 1) := by
  rw [List.set_append_right _ _ (by rw [mkR_length]; exact yoy _), mkR_length, Nat.sub_self, List.drop_eq_getElem_cons h, yby, mkR_snoc, List.append_assoc]
  rfl
theorem rd_Face_set (l : List SFace) (n : Nat) (v : SFace) (h : n < l.length) : rd_Face (l.set n v) (n : Int) = v := by
  rw [rd_Face_lt _ n (by rw [List.length_set]; exact h), List.getElem_set_self]
theorem markFaceS_ev (l : List SFace) (a : Int) (h : l.length ≤ 1099511627776) (h0 : 0 ≤ a) (h1 : a ≤ 4398046511104) : Ev (fun k => laws_markFaceS.f k l a) (a + 2 * l.length, mkR a l.length) := by
  have hl : Ev (fun k => laws_markFaceS.l0 k l a 0) (a + 2 * l.length, mkR a l.length) := by
    refine ev_loop0 (fun k (s : List SFace × Int × Int) => laws_markFaceS.l0 k s.1 s.2.1 s.2.2) (fun s => ∃ n : Nat, n ≤ l.length ∧ s.2.2 = n ∧ s.2.1 = a + 2 * n ∧ s.1 = mkR a n ++ l.drop n) (fun s => l.length - s.2.2.toNat) (fun _ => (a + 2 * l.length, mkR a l.length)) ?_ (l, a, 0) ⟨0, by omega, rfl, by simp, by simp [mkR]⟩
    rintro ⟨x, b, i⟩ ⟨n, hn, rfl, rfl, rfl⟩
    dsimp only
    have hlen : (mkR a n ++ l.drop n).length = l.length := by simp [mkR_length]; omega
    by_cases hlt : n < l.length
    · refine .inr ⟨(mkR a (n + 1) ++ l.drop (n + 1), a + 2 * ((n + 1 : Nat) : Int), ((n + 1 : Nat) : Int)), ⟨n + 1, by omega, rfl, rfl, rfl⟩, by simp; omega, rfl, fun k => ?_⟩
      simp only [laws_markFaceS.l0]
      rw [if_pos (by rw [hlen]; omega), if_pos (by omega), yfy, Int.toNat_natCast, rd_Face_set _ n _ (by rw [hlen]; exact hlt), List.set_set, wrap_id (x := a + 2 * (n : Int) + 1) (by omega) (by omega), mk_set l a n hlt, wrap_succ (by omega), wrap_id (by omega) (by omega)]
      congr 1; omega
    · obtain rfl : n = l.length := by omega
      refine .inl fun k => ?_
      simp only [laws_markFaceS.l0]
      rw [if_neg (by rw [hlen]; omega)]
      simp
  exact hl
/-- The marks of a triangulation, and their number. -/
def cntF : Tri → Nat
  | [] => 0
  | r :: rs => 2 * r.length + cntF rs
def mkT (a : Int) : Tri → Tri
  | [] => []
  | r :: rs => mkR a r.length :: mkT (a + 2 * r.length) rs
theorem cntF_le (t : Tri) (h : ∀ r ∈ t, r.length ≤ 1048576) : cntF t ≤ 2097152 * t.length := by
  induction t with
  | nil => simp [cntF]
  | cons r rs ih =>
    have h1 := h r (List.mem_cons_self ..)
    have h2 := ih (fun x hx => h x (List.mem_cons_of_mem _ hx))
    simp only [cntF, List.length_cons]; omega
theorem markGo_ev : ∀ (suf : Tri) (pre : Tri) (a : Int), (∀ r ∈ suf, r.length ≤ 1048576) → 0 ≤ a → a + cntF suf ≤ 4398046511104 → Ev (fun k => laws_markFaceSS.go k suf.length (pre ++ suf) a pre.length) (a + cntF suf, pre ++ mkT a suf)
  | [], pre, a, _, h0, h1 => ev_const' fun k => by simp [laws_markFaceSS.go, cntF, mkT]
  | r :: rs, pre, a, hr, h0, h1 => by
    simp only [cntF] at h1
    have hm := markFaceS_ev r a (by have := hr r (List.mem_cons_self ..); omega) h0 (by omega)
    have ih := markGo_ev rs (pre ++ [mkR a r.length]) (a + 2 * r.length) (fun x hx => hr x (List.mem_cons_of_mem _ hx)) (by omega) (by omega)
    simp only [List.length_cons, laws_markFaceSS.go]
    have e0 : List.getD (pre ++ r :: rs) pre.length [] = r := by simp
    rw [e0]
    refine Ev.bind hm ?_
    dsimp only
    have e1 : (pre ++ r :: rs).set pre.length (mkR a r.length) = pre ++ [mkR a r.length] ++ rs := by
      rw [List.set_append_right _ _ (yoy _), Nat.sub_self, yby]; simp
    rw [e1]
    have e2 : pre.length + 1 = (pre ++ [mkR a r.length]).length := by simp
    rw [e2]
    have e3 : (a + ((cntF (r :: rs) : Nat) : Int), pre ++ mkT a (r :: rs)) = (a + 2 * r.length + (cntF rs : Int), pre ++ [mkR a r.length] ++ mkT (a + 2 * r.length) rs) := by
      simp only [cntF, mkT, List.append_assoc, List.singleton_append]; congr 1; omega
    rw [e3]
    exact ih
theorem markTriangulation_ev (t : Tri) (a : Int) (hs : Small t) (h0 : 0 ≤ a) (h1 : a ≤ 1048576) : Ev (fun k => laws_markTriangulation.f k t a) (a + cntF t, mkT a t) := by
  have := markGo_ev t [] a hs.2 h0 (by have := cntF_le t hs.2; have := hs.1; omega)
  rw [List.nil_append, List.nil_append] at this
  exact this
theorem heldFaceS_ev (a : Int) (m : Nat) (h : m ≤ 1099511627776) (h0 : 0 ≤ a) (h1 : a ≤ 4398046511104) : Ev (fun k => laws_heldFaceS.f k (mkR a m) a) (a + 2 * m) := by
  have hl : Ev (fun k => laws_heldFaceS.l0 k (mkR a m) a 0) (a + 2 * m) := by
    refine ev_loop0 (fun k (s : Int × Int) => laws_heldFaceS.l0 k (mkR a m) s.1 s.2) (fun s => ∃ n : Nat, n ≤ m ∧ s.2 = n ∧ s.1 = a + 2 * n) (fun s => m - s.2.toNat) (fun _ => a + 2 * m) ?_ (a, 0) ⟨0, by omega, rfl, by simp⟩
    rintro ⟨b, i⟩ ⟨n, hn, rfl, rfl⟩
    dsimp only
    by_cases hlt : n < m
    · refine .inr ⟨(a + 2 * ((n + 1 : Nat) : Int), ((n + 1 : Nat) : Int)), ⟨n + 1, by omega, rfl, rfl⟩, by simp; omega, rfl, fun k => ?_⟩
      have e : rd_Face (mkR a m) (n : Int) = ⟨a + 2 * n, a + 2 * n + 1⟩ := by unfold rd_Face; rw [Int.toNat_natCast, mkR_get a m n _ hlt]
      simp only [laws_heldFaceS.l0]
      rw [if_pos (by rw [mkR_length]; omega), if_pos (by omega), e, if_pos rfl, wrap_id (x := a + 2 * (n : Int) + 1) (by omega) (by omega), if_pos rfl, wrap_succ (by omega), wrap_id (by omega) (by omega)]
      congr 1; omega
    · obtain rfl : n = m := by omega
      refine .inl fun k => ?_
      simp only [laws_heldFaceS.l0]
      rw [if_neg (by rw [mkR_length]; omega)]
  exact hl
theorem heldSS_ev : ∀ (suf : Tri) (pre : Tri) (a : Int), (∀ r ∈ suf, r.length ≤ 1048576) → pre.length + suf.length ≤ 1048576 → 0 ≤ a → a + cntF suf ≤ 4398046511104 → Ev (fun k => laws_heldFaceSS.l0 k (pre ++ mkT a suf) a (pre.length : Int)) (a + cntF suf)
  | [], pre, a, _, hn, h0, h1 => by
    refine ev_step (f := fun _ => some a) (fun k => ?_) (ev_some (by simp [cntF]))
    rw [laws_heldFaceSS.l0, if_neg (by simp [mkT])]
  | r :: rs, pre, a, hr, hn, h0, h1 => by
    simp only [cntF, List.length_cons] at h1 hn
    have hm := heldFaceS_ev a r.length (by have := hr r (List.mem_cons_self ..); omega) h0 (by omega)
    have ih := heldSS_ev rs (pre ++ [mkR a r.length]) (a + 2 * r.length) (fun x hx => hr x (List.mem_cons_of_mem _ hx)) (by simp; omega) (by omega) (by omega)
    have e1 : pre ++ mkT a (r :: rs) = pre ++ [mkR a r.length] ++ mkT (a + 2 * r.length) rs := by simp [mkT]
    have e4 : rd_LFace (pre ++ mkT a (r :: rs)) (pre.length : Int) = mkR a r.length := by
      rw [rd_LFace_lt _ _ (by simp [mkT])]; simp [mkT]
    refine ev_step (fun k => by rw [laws_heldFaceSS.l0, if_pos (by simp [mkT]; omega), if_pos (by omega), e4]) (Ev.bind hm ?_)
    refine ev_neg (by omega) ?_
    have e2 : wrap64 ((pre.length : Int) + 1) = ((pre ++ [mkR a r.length]).length : Int) := by rw [wrap_succ (by omega)]; simp
    have e3 : (a + ((cntF (r :: rs) : Nat) : Int)) = a + 2 * r.length + (cntF rs : Int) := by simp only [cntF]; omega
    rw [e1, e3]
    exact Ev.congr (fun k => by rw [e2]) ih
theorem heldTriangulation_ev (t : Tri) (a : Int) (hs : Small t) (h0 : 0 ≤ a) (h1 : a ≤ 1048576) : Ev (fun k => laws_heldTriangulation.f k (mkT a t) a) (a + cntF t) := by
  have := heldSS_ev t [] a hs.2 (by have := hs.1; simp; omega) h0 (by have := cntF_le t hs.2; have := hs.1; omega)
  rw [List.nil_append] at this
  refine Ev.bind (g := fun k => laws_heldFaceSS.f k (mkT a t) a) this ?_
  exact ev_neg (by omega) (Ev.now _)
end Go.Proofs.Ytdgdnnjigigkcaa.P
namespace Go.Proofs.Ytdgdnnjigigkcaa.Pure
open Go.RowKit Go.Proofs.Ytdgdnnjigigkcaa.P Go.Proofs.Ytdgdnnjigigkcaa.Lib Go.Proofs.YtdgdnnjigigkcaaW.PrintWords
set_option linter.unusedVariables false
theorem FnExactMirrorForm (l0 : List (List SLawFace)) (h0 : Fits l0) : ∃ k, laws_FnExactMirrorForm.f k l0 = some true := by
  refine Ev.rounds ?_
  obtain ⟨r0, hr0, hs0⟩ := szTriangulation_ev l0 h0
  refine Ev.bind hr0 ?_
  by_cases hn0 : r0 < 0
  · exact ev_pos hn0 (Ev.now true)
  have hsm0 := hs0 hn0
  refine ev_neg hn0 ?_
  have hto0 := toTriangulation_ev l0 hsm0
  have hS0 := cvT_small hsm0
  have hi := impl_mirror_ev hS0
  have hL := mirror_small (cvT l0)
  have heq := eqTriangulation_ev _ hL
  have hh := heldTriangulation_ev _ 1 hL (by omega) (by omega)
  refine Ev.bind hto0 ?_
  refine Ev.bind (spec_mirror_ev (cvT l0)) ?_
  refine Ev.bind hto0 ?_
  refine Ev.bind hi ?_
  refine Ev.bind heq (ev_pos rfl (ev_pos rfl ?_))
  refine Ev.bind hto0 ?_
  refine Ev.bind (eqTriangulation_ev _ hS0) (ev_pos rfl ?_)
  refine Ev.bind (markTriangulation_ev _ 1 hS0 (by omega) (by omega)) ?_
  refine ev_neg (by dsimp only; omega) ?_
  refine Ev.bind heq (ev_pos rfl (ev_pos rfl ?_))
  refine Ev.bind (markTriangulation_ev _ 1 hL (by omega) (by omega)) ?_
  refine Ev.bind hh ?_
  refine ev_neg (by omega) (ev_pos rfl ?_)
  refine Ev.bind hto0 ?_
  refine Ev.bind hi ?_
  refine Ev.bind heq (ev_pos rfl (ev_pos rfl ?_))
  refine Ev.bind hh ?_
  exact ev_neg (by omega) (ev_pos rfl (Ev.now true))
end Go.Proofs.Ytdgdnnjigigkcaa.Pure
namespace Go.Proofs.Ytdgdnnjigigkcaa.Lib
open Go.RowKit Go.Proofs.YtdgdnnjigigkcaaW.PrintWords Go.Joins Go.Deep Go.WideShapes Go.ChangeShapes
set_option linter.unusedVariables false
/-- Whatever reads as data at type t reads as a value of the kind d. -/
def Opens (P : Program) (t : TypeId) {α : Type} (d : Kd α) : Prop := ∀ (H : Type) (enc : TypeId × Value → H) (w : World) (base : Nat) (spare : Nat → Bool) (held : Bool) (fuel : Nat) (cs : List Value) (x : DataW H × List MemPlace),
  DataW.trod enc P w base spare held fuel t cs = some x → ∃ y, d.K w y cs
theorem pick_list {α : Type} {R : Nat → α → Prop} : ∀ n, (∀ i, i < n → ∃ y, R i y) → ∃ ys : List α, ys.length = n ∧ ∀ j p, ys[j]? = some p → R j p
  | 0, _ => ⟨[], rfl, fun j p h => by simp at h⟩
  | n + 1, h => by
    obtain ⟨ys, hl, hr⟩ := pick_list n (fun i hi => h i (by omega))
    obtain ⟨y, hy⟩ := h n (by omega)
    refine ⟨ys ++ [y], by simp [hl], fun j p hj => ?_⟩
    by_cases hlt : j < n
    · rw [List.getElem?_append_left (by omega)] at hj
      exact hr j p hj
    · have hjn : j < (ys ++ [y]).length := (List.getElem?_eq_some_iff.1 hj).1
      have : j = n := by simp [hl] at hjn; omega
      subst this
      rw [List.getElem?_append_right (by omega), hl, Nat.sub_self] at hj
      injection hj with hj
      rw [← hj]
      exact hy
theorem opens_slice {P : Program} {t e : TypeId} {α : Type} {d : Kd α} (ht : P.underlying t = some (.slice e)) (hc : P.cellsOf e = d.sz) (h : Opens P e d) : Opens P t (Kd.slice e d) := by
  intro H enc w base spare held fuel cs x hx
  rcases open_slice ht hx with ⟨rfl, _⟩ | ⟨a, len, cap, m, n, D, Pl, rfl, hb, hl, hm, hmm, _, hi⟩
  · exact ⟨[], none, 0, rfl, yoy _, Kd.C_nil d w⟩
  · have each : ∀ i, i < len → ∃ y, ∃ cs', w.cells? base (a.add (i * d.sz)) d.sz = some cs' ∧ d.K w y cs' := by
      intro i hil
      have him : i < m := by rw [hmm]; split <;> omega
      obtain ⟨cs', h1, h2⟩ := hi i him
      obtain ⟨y, hy⟩ := h H enc w base spare held n cs' _ h2
      rw [hc] at h1
      exact ⟨y, cs', h1, hy⟩
    obtain ⟨ys, hlen, hys⟩ := pick_list len each
    refine ⟨ys, some a, cap, by rw [hlen], by omega, rfl, ?_, fun _ => ⟨a, rfl, fun j p hj => ?_⟩⟩
    · unfold maxLen at hm; omega
    · obtain ⟨cs', h1, h2⟩ := hys j p hj
      obtain ⟨_, h3, h4⟩ := World.cells?_some h1
      refine ⟨cs', h3, h2, fun i u hu => ?_⟩
      have hil : i < d.sz := by rw [← h3]; exact (List.getElem?_eq_some_iff.1 hu).1
      rw [← hu, ← h4 i hil, Go.Deep.add_add]
theorem opens_struct2 {P : Program} {t : TypeId} {f0 f1 : Field} {α : Type} (hs : P.underlying t = some (.struct #[f0, f1])) (hone : oneCellFields P #[f0, f1] = true) (hC : P.cellsOf t = 2)
    (h0 : P.underlying f0.type = some (.int .i64)) (h1 : P.underlying f1.type = some (.int .i64)) (d : Kd α) (mk : Int → Int → α) (hK : ∀ w a b, d.K w (mk a b) [.int .i64 a, .int .i64 b]) : Opens P t d := by
  intro H enc w base spare held fuel cs x h
  obtain ⟨y0, y1, n, hx, hl, g0, g1⟩ := trod_struct2 hs h
  obtain ⟨o0, k0⟩ := hone_of hone 0 f0 rfl
  obtain ⟨o1, k1⟩ := hone_of hone 1 f1 rfl
  rw [hC] at hl
  match cs, hl with
  | [c0, c1], _ =>
    rw [o0, k0] at g0
    rw [o1, k1] at g1
    obtain ⟨a, e0, _, _⟩ := DataW.trod_int h0 g0
    obtain ⟨b, e1, _, _⟩ := DataW.trod_int h1 g1
    simp at e0 e1
    subst e0 e1
    exact ⟨mk a b, hK w a b⟩
section
variable {H : Type} {enc : TypeId × Value → H} {P : Program} {w : World} {base : Nat} {spare : Nat → Bool} {held : Bool}
theorem array1 {α : Type} {cs : Array α} (h : cs.size = 1) : ∃ c0, cs = #[c0] := by
  obtain ⟨l⟩ := cs
  match l, h with
  | [c0], _ => exact ⟨c0, rfl⟩
/-- A struct that holds one slice, by value. -/
theorem open_agg1 {r : Reach} {b0 : Nat} {t e : TypeId} {f0 : Field} {α : Type} {d : Kd α} {v : Value} {D : DataW H} {p : List MemPlace} (hs : P.underlying t = some (.struct #[f0])) (hone : oneCellFields P #[f0] = true) (hC : P.cellsOf t = 1)
    (ho : Opens P f0.type (Kd.slice e d)) (hv : Value.okWide P w r b0 t v) (h : DataW.Trod enc P w base spare held t v D p) :
    ∃ (A : Option Addr) (c : Nat) (l : List α), v = .agg #[.slice A l.length c] ∧ l.length ≤ c ∧ d.C w A l.length l := by
  obtain ⟨cs, rfl, hsz⟩ := okWide_struct hs hv
  obtain ⟨c0, rfl⟩ := array1 (hsz.trans hC)
  obtain ⟨fuel, hf⟩ := h
  obtain ⟨y0, n, hx, _, h0⟩ := trod_struct1 hs hf
  obtain ⟨o0, k0⟩ := hone_of hone 0 f0 rfl
  have h0' : DataW.trod enc P w base spare held n f0.type [c0] = some y0 := by simpa [Value.cells, o0, k0] using h0
  obtain ⟨l, A, c, e1, hl, hCC⟩ := ho H enc w base spare held n _ _ h0'
  simp at e1
  subst e1
  exact ⟨A, c, l, rfl, hl, hCC⟩
end
theorem fits_of_C {e : Nat} {α : Type} {d : Kd α} {w : World} {A : Option Addr} {l : List (List α)} (h : (Kd.slice e d).C w A l.length l) : l.length ≤ 9223372036854775807 ∧ ∀ r ∈ l, r.length ≤ 9223372036854775807 := by
  refine ⟨h.2.1, fun r hr => ?_⟩
  obtain ⟨j, hj, rfl⟩ := List.mem_iff_getElem.1 hr
  obtain ⟨ad, _, hc⟩ := h.2.2 (by omega)
  obtain ⟨c, _, hK, _⟩ := hc j _ (List.getElem?_eq_getElem hj)
  obtain ⟨A', c', _, _, hC⟩ := hK
  exact hC.2.1
end Go.Proofs.Ytdgdnnjigigkcaa.Lib
