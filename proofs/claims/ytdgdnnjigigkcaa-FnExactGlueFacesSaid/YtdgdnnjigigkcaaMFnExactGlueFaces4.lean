/- The statement FnExactGlueFacesSaid, proved: part 4 of 6 (texts of this session and of the kit's print, put together and cut to what is used by a program of it). -/
import Derived.Test.YtdgdnnjigigkcaaMFnExactGlueFaces3
namespace Go.Proofs.Ytdgdnnjigigkcaa.P
open Go.RowKit Go.Proofs.YtdgdnnjigigkcaaW.PrintWords Go.Proofs.YtdgdnnjigigkcaaW.PrintLast Go.Proofs.YtdgdnnjigigkcaaW.PrintMore
attribute [local go_sem] max2_int min2_int max_two min_two max_three min_three max_four min_four   -- for this text's walks alone
set_option linter.unusedVariables false
set_option linter.unusedSimpArgs false
/-! ### laws_toFaceS: function 114 -/
def laws_toFaceS.l0 : Nat → List (SLawFace) → List (SFace) → Int → Option ((List (SFace)))
  | 0, _, _, _ => none
  | k + 1, x0, x3, x4 => if x4 < (x0.length : Int) then (if 0 ≤ x4 then ((laws_toFace.f ((rd_LawFace x0 x4).f0) ((rd_LawFace x0 x4).f1)).bind fun bt105 => (if x4 < (x3.length : Int) then (laws_toFaceS.l0 k x0 (x3.set (x4 : Int).toNat (⟨bt105.1, bt105.2⟩ : SFace)) (wrap64 (x4 + 1))) else (none))) else (none)) else (some x3)
def laws_toFaceS.f (k : Nat) (l0 : List (SLawFace)) : Option ((List (SFace))) := if 0 ≤ (l0.length : Int) then (if ((l0.length : Int) : Int).toNat ≤ 17592186044416 then (laws_toFaceS.l0 k l0 (List.replicate ((l0.length : Int) : Int).toNat zFace) 0) else (none)) else (none)
set_option maxHeartbeats 8000000 in
set_option maxRecDepth 100000 in
theorem laws_toFaceS.calls (k : Nat) (A0 : Option Addr) (c0 : Nat) (l0 : List (SLawFace)) (r : List (SFace)) (w : World) (hr0 : Kd.C kLawFace w A0 l0.length l0) (hc0 : l0.length ≤ c0) (h : laws_toFaceS.f k l0 = some r) :
    Calls Try.prog 114 #[.slice A0 l0.length c0] w fun e w' => ∃ v0_ : Value, e = .returned (v0_) ∧ Kd.R kFace 74 w' w.heap.size (fun _ => True) v0_ r ∧ Below w.heap.size w w' := by
  have hu133 := Try.underlying133
  have hu74 := Try.underlying74
  have HR0 := Aside0.mk hr0
  have HC0 := Aside0.mk hc0
  clear hr0 hc0
  have HB := Aside0.mk (Below.refl w.heap.size w)
  have H : (if 0 ≤ (l0.length : Int) then (if ((l0.length : Int) : Int).toNat ≤ 17592186044416 then (laws_toFaceS.l0 k l0 (List.replicate ((l0.length : Int) : Int).toNat zFace) 0) else (none)) else (none)) = some r := h
  clear h
  by_cases c2 : 0 ≤ (l0.length : Int)
  · rw [if_pos c2] at H
    have c2b0 := eq_true c2
    have c2b1 : decide (0 ≤ (l0.length : Int)) = true := ygy c2
    clear c2
    by_cases c3 : ((l0.length : Int) : Int).toNat ≤ 17592186044416
    · rw [if_pos c3] at H
      have c3b0 := eq_true c3
      have c3b1 : decide (((l0.length : Int) : Int).toNat ≤ 17592186044416) = true := ygy c3
      clear c3
      obtain ⟨y101, hy101⟩ : ∃ y_ : List (SFace), y_ = (List.replicate ((l0.length : Int) : Int).toNat zFace) := ⟨_, rfl⟩
      replace H : (laws_toFaceS.l0 k l0 y101 0) = some r := by first | (rw [hy101]; with_reducible exact H) | (have H2_ := (yfy _ _).symm.trans H; rw [hy101]; with_reducible exact H2_) | (have H2_ := (yfy _ _).symm.trans H; with_reducible exact H2_) | with_reducible exact H | (rw [hy101]; exact H) | exact H
      have Ny101 := Aside0.mk hy101
      clear hy101
      have H' := Aside0.mk H
      clear H
      go_enter Try.func114, Try.ntmps114
      go_wp2_with (first | ((with_reducible refine gate_dst (N := 7) rfl ?_); refine Kd.R_make kFace _ 74 rfl (N := 7) rfl 75 _ _ rfl (l0.length : Int) rfl rfl Try.underlying75 (.agg #[(.int .i64 0), (.int .i64 0)]) 16 info74 rfl (by decide) (by omega) zFace (ok := fun _ => True) (okp := fun _ => True) (kFace_mkM _ _ _ zFace ) (fun _ hk => hk) trivial (of_decide_eq_true (by first | (with_reducible assumption) | assumption)) (Nat.le_trans (Nat.mul_le_mul_right _ (of_decide_eq_true (by first | (with_reducible assumption) | assumption) : (l0.length : Int).toNat ≤ 17592186044416)) (by omega)) (Below.refl _ _) (yoy _) ?_; intro v102 w4 ho5 hb hg_ hnew_; clear hg_ hnew_; (first | rw [← Ny101.out] at ho5 | (simp only [Int.reduceToNat] at ho5; rw [← Ny101.out] at ho5)); have n0_ := Aside0.mk (Kd.R_lower ho5 (below_size (by repeat (first | (with_reducible first | exact HB.out | apply below_alloc | apply pw_below_drewN | apply below_drew1) | exact HB.out)))); have n1_ := Aside0.mk (below_step (by repeat (first | (with_reducible first | exact HB.out | apply below_alloc | apply pw_below_drewN | apply below_drew1) | exact HB.out)) hb); clear HB; have HO103 := n0_; have HB := n1_; clear n0_ n1_; clear hb ho5))
      go_loopg [4] k (fun kq v4 w' => ∃ (x3_1 : List (SFace)) (x4_1 : Int), v4 = .int .i64 x4_1 ∧ Aside0 (laws_toFaceS.l0 kq l0 x3_1 x4_1 = some r) ∧ Aside0 (kq ≤ k) ∧ Aside0 (Kd.R kFace 74 w' w.heap.size (fun _ => True) v102 x3_1) ∧ Aside0 (Below w.heap.size w w'))
      case atStart => exact ⟨(y101), (0), (by first | rfl | (simp; done) | (simp [*]; done)), H', ⟨yoy _⟩, ⟨by (with_reducible repeat (first | apply Kd.R_alloc | apply Kd.R_drewN | apply Kd.R_drew)); exact HO103.out⟩, ⟨by repeat (first | (with_reducible first | exact HB.out | apply below_alloc | apply pw_below_drewN | apply below_drew1) | exact HB.out)⟩⟩
      case round =>
        clear H'
        try clear c1
        try clear c2
        try clear c2b0
        try clear c2b1
        try clear p2
        try clear c3
        try clear c3b0
        try clear c3b1
        obtain ⟨x3_1, x4_1, rfl, HA, HK1, HO_3, HB⟩ := hrel
        cases gk with
        | zero => exact absurd HA.out (by simp [laws_toFaceS.l0])
        | succ k1 =>
          have H := HA.out
          clear HA
          simp only [laws_toFaceS.l0] at H
          by_cases c6 : x4_1 < (l0.length : Int)
          · rw [if_pos c6] at H
            have c6b0 : decide (x4_1 < (l0.length : Int)) = true := ygy c6
            clear c6
            by_cases c7 : 0 ≤ x4_1
            · rw [if_pos c7] at H
              have c7b0 : decide (0 ≤ x4_1) = true := ygy c7
              clear c7
              replace H := ydy.mp H
              obtain ⟨⟨t105, t106⟩, A80, H⟩ := H
              replace H : (if x4_1 < (x3_1.length : Int) then (laws_toFaceS.l0 k1 l0 (x3_1.set (x4_1 : Int).toNat (⟨t105, t106⟩ : SFace)) (wrap64 (x4_1 + 1))) else (none)) = some r := H
              have A8 := Aside0.mk A80
              clear A80
              by_cases c9 : x4_1 < (x3_1.length : Int)
              · rw [if_pos c9] at H
                have c9b0 : decide (x4_1 < (x3_1.length : Int)) = true := ygy c9
                clear c9
                obtain ⟨y107, hy107⟩ : ∃ y_ : List (SFace), y_ = (x3_1.set (x4_1 : Int).toNat (⟨t105, t106⟩ : SFace)) := ⟨_, rfl⟩
                replace H : (laws_toFaceS.l0 k1 l0 y107 (wrap64 (x4_1 + 1))) = some r := by first | (rw [hy107]; with_reducible exact H) | (have H2_ := (yfy _ _).symm.trans H; rw [hy107]; with_reducible exact H2_) | (have H2_ := (yfy _ _).symm.trans H; with_reducible exact H2_) | with_reducible exact H | (rw [hy107]; exact H) | exact H
                have Ny107 := Aside0.mk hy107
                clear hy107
                have H' := Aside0.mk H
                clear H
                have p104 : 0 ≤ (x4_1 : Int) := of_decide_eq_true (by first | (with_reducible assumption) | assumption)
                have q104 : x4_1 < (l0.length : Int) := of_decide_eq_true (by first | (with_reducible assumption) | assumption)
                obtain ⟨ad104, e104, hx104_0, hx104_1⟩ := at_LawFace HR0.out x4_1 p104 q104
                cases e104
                replace hx104_0 := (HB.out.cell (yny w _ hx104_0)).trans hx104_0
                replace hx104_1 := (HB.out.cell (yny w _ hx104_1)).trans hx104_1
                replace p104 := eq_true p104
                replace q104 := eq_true q104
                go_wp2_with (first | ((with_reducible refine gate_callee (f := 166) rfl ?_); refine goesL_ (some 20) rfl rfl Try.func166 (by kernel_rfl) rfl #[.agg #[.int .i64 ((rd_LawFace l0 x4_1).f0), .int .i64 ((rd_LawFace l0 x4_1).f1)]] rfl (by (try simp only [yiy, yjy, yky]); first | done | rfl | (simp only [yly, ymy]; rfl)) ?_; (with_reducible refine (laws_toFace.calls ((rd_LawFace l0 x4_1).f0) ((rd_LawFace l0 x4_1).f1) t105 t106 _ A8.out).mono ?_); rintro e w11 ⟨rfl, hb⟩; refine ⟨_, rfl, ?_⟩; have n0_ := Aside0.mk (Kd.R_below (by (with_reducible repeat (first | apply Kd.R_alloc | apply Kd.R_drewN | apply Kd.R_drew)); exact HO_3.out) hb); have n1_ := Aside0.mk (below_step (by repeat (first | (with_reducible first | exact HB.out | apply below_alloc | apply pw_below_drewN | apply below_drew1) | exact HB.out)) hb); clear HO_3; clear HB; have HO_3 := n0_; have HB := n1_; clear n0_ n1_; (try clear hb); (try clear hb2); (try clear hk); (try clear hi); have p10 : 0 ≤ (x4_1 : Int) := of_decide_eq_true (by first | (with_reducible assumption) | assumption); have q10 : (x4_1 : Int) < ((x3_1.length : Int) : Int) := of_decide_eq_true (by first | (with_reducible assumption) | assumption); obtain ⟨go10, co10, eo10, gb10, gl10, cl10, HG10⟩ := Kd.R_form HO_3.out (by omega); (first | cases eo10 | (injection eo10 with ea_ en_ ec_; (first | subst ea_ | (injection ea_ with ea_; subst ea_)); subst ec_; clear en_)); have GB10 := Aside0.mk gb10; have GG10 := Aside0.mk HG10; clear gb10 gl10 HG10; obtain ⟨ce10, hcl10, hM10, hcc10, hfr10⟩ := Kd.R_elem HO_3.out zFace (x4_1 : Int) p10 q10; obtain rfl := kFace_openM hM10; have hx10_0 : w11.cell? ⟨go10, (x4_1 : Int).toNat * 2, none⟩ = some (.int .i64 ((rd_Face x3_1 x4_1).f0)) := hcc10 0 _ rfl; have hx10_1 : w11.cell? ⟨go10, (x4_1 : Int).toNat * 2 + 1, none⟩ = some (.int .i64 ((rd_Face x3_1 x4_1).f1)) := hcc10 1 _ rfl; have hf10_0 : w11.frozen? ⟨go10, (x4_1 : Int).toNat * 2, none⟩ = false := hfr10 0; have hf10_1 : w11.frozen? ⟨go10, (x4_1 : Int).toNat * 2 + 1, none⟩ = false := hfr10 1; clear hcl10 hcc10 hfr10; (try clear hM10); replace p10 := eq_true p10; replace q10 := eq_true q10; have HX12 := Aside0.mk (show Kd.R kFace 74 w11 w.heap.size (fun _ => True) (.slice (some ⟨go10, 0, none⟩) x3_1.length co10) x3_1 from (by (with_reducible repeat (first | apply Kd.R_alloc | apply Kd.R_drewN | apply Kd.R_drew)); exact HO_3.out)); obtain ⟨ce12, hcl12, hM12, hcc12, hfr12⟩ := Kd.R_elem HX12.out zFace (x4_1 : Int) (of_decide_eq_true (by first | (with_reducible assumption) | assumption)) (by have h_ : (x4_1 : Int) < ((x3_1.length : Int) : Int) := of_decide_eq_true (by first | (with_reducible assumption) | assumption); first | exact h_ | (have e_ := (Kd.R_reads' HO_3.out).1; omega) | simpa using h_); obtain rfl := kFace_openM hM12; have HP12 := Kd.R_seg HX12.out (x4_1 : Int) (of_decide_eq_true (by first | (with_reducible assumption) | assumption)) (by have h_ : (x4_1 : Int) < ((x3_1.length : Int) : Int) := of_decide_eq_true (by first | (with_reducible assumption) | assumption); first | exact h_ | (have e_ := (Kd.R_reads' HO_3.out).1; omega) | simpa using h_) (seg := [.int .i64 t105, .int .i64 t106]) (j := 0) hcl12 hcc12 (show 2 ≤ 2 from by decide) (x' := (⟨t105, t106⟩ : SFace)) (kFace_mkM _ _ _ (⟨t105, t106⟩ : SFace) ) (fun _ hk => hk); have hx12_0 := hcc12 0 _ rfl; (try simp only [show (kFace).sz = 2 from rfl, Nat.mul_one, Nat.add_zero] at hx12_0); have hf12_0 := hfr12 0; (try simp only [show (kFace).sz = 2 from rfl, Nat.mul_one, Nat.add_zero] at hf12_0); have hx12_1 := hcc12 1 _ rfl; (try simp only [show (kFace).sz = 2 from rfl, Nat.mul_one, Nat.add_zero] at hx12_1); have hf12_1 := hfr12 1; (try simp only [show (kFace).sz = 2 from rfl, Nat.mul_one, Nat.add_zero] at hf12_1); clear hcl12 hcc12 hfr12 hM12) | ((with_reducible refine gate_store (t := 74) (p := 21) rfl ?_); refine store_event (t := 74) (p := 21) (v := ?vo_w13) (w1 := ((w11.setCell ⟨go10, (x4_1 : Int).toNat * 2, none⟩ (.int .i64 t105)).setCell ⟨go10, (x4_1 : Int).toNat * 2 + 1, none⟩ (.int .i64 t106))) ?hg ?ho ?hn ?hr ?_; (case ho => rfl); (case hg => rfl); (case hn => rfl); (case hr => first | (go_simp; done) | (go_simp; rfl)); intro w13 hw; have hg : w11.grownBy w13 (some go10) := (by rw [hw]; exact HP12.2); have hp_ : Kd.R kFace 74 w13 w.heap.size (fun _ => True) (.slice (some ⟨go10, 0, none⟩) x3_1.length co10) y107 := (by rw [hw, Ny107.out]; exact HP12.1); clear HP12; have n0_ := Aside0.mk (hp_); have n1_ := Aside0.mk ((by rw [hw]; exact below_set (below_set (HB.out) GB10.out) GB10.out : Below w.heap.size w w13)); clear HO_3; clear HB; have HO_3 := n0_; have HB := n1_; clear n0_ n1_; clear hg hw hp_))
                go_roundg k1
                case measure => have := HK1.out; omega
                case rel => exact ⟨(y107), (wrap64 (x4_1 + 1)), (by first | rfl | (simp; done) | (simp [*]; done)), H', ⟨by have := HK1.out; omega⟩, ⟨by (with_reducible repeat (first | apply Kd.R_alloc | apply Kd.R_drewN | apply Kd.R_drew)); exact HO_3.out⟩, ⟨by repeat (first | (with_reducible first | exact HB.out | apply below_alloc | apply pw_below_drewN | apply below_drew1) | exact HB.out)⟩⟩
              · rw [if_neg c9] at H
                exact absurd H (by simp)
            · rw [if_neg c7] at H
              exact absurd H (by simp)
          · rw [if_neg c6] at H
            have c6b0 : decide (x4_1 < (l0.length : Int)) = false := yhy c6
            clear c6
            obtain rfl := yey H
            go_wp2
            go_ret
            exact ⟨_, by first | rfl | (simp [errW_none, errW_some] <;> rfl) | (simp [*, errW_none, errW_some] <;> rfl), by (with_reducible repeat (first | apply Kd.R_alloc | apply Kd.R_drewN | apply Kd.R_drew)); exact HO_3.out, by repeat (first | (with_reducible first | exact HB.out | apply below_alloc | apply pw_below_drewN | apply below_drew1) | exact HB.out)⟩
    · rw [if_neg c3] at H
      exact absurd H (by simp)
  · rw [if_neg c2] at H
    exact absurd H (by simp)
/-! ### laws_toFaceSS: function 56 -/
def laws_toFaceSS.l0 : Nat → List (List (SLawFace)) → List (List (SFace)) → Int → Option ((List (List (SFace))))
  | 0, _, _, _ => none
  | k + 1, x0, x3, x4 => if x4 < (x0.length : Int) then (if 0 ≤ x4 then ((laws_toFaceS.f k (rd_LLawFace x0 x4)).bind fun t105 => (if x4 < (x3.length : Int) then (laws_toFaceSS.l0 k x0 (x3.set (x4 : Int).toNat t105) (wrap64 (x4 + 1))) else (none))) else (none)) else (some x3)
def laws_toFaceSS.f (k : Nat) (l0 : List (List (SLawFace))) : Option ((List (List (SFace)))) := if 0 ≤ (l0.length : Int) then (if ((l0.length : Int) : Int).toNat ≤ 11728124029610 then (laws_toFaceSS.l0 k l0 (List.replicate ((l0.length : Int) : Int).toNat []) 0) else (none)) else (none)
set_option maxHeartbeats 8000000 in
set_option maxRecDepth 100000 in
theorem laws_toFaceSS.calls (k : Nat) (A0 : Option Addr) (c0 : Nat) (l0 : List (List (SLawFace))) (r : List (List (SFace))) (w : World) (hr0 : Kd.C (Kd.slice 133 kLawFace) w A0 l0.length l0) (hc0 : l0.length ≤ c0) (h : laws_toFaceSS.f k l0 = some r) :
    Calls Try.prog 56 #[.slice A0 l0.length c0] w fun e w' => ∃ v0_ : Value, e = .returned (v0_) ∧ Kd.S (Kd.slice 74 kFace) 75 w' w.heap.size (fun _ => True) v0_ r ∧ Below w.heap.size w w' := by
  have HR0 := Aside0.mk hr0
  have HC0 := Aside0.mk hc0
  clear hr0 hc0
  have HB := Aside0.mk (Below.refl w.heap.size w)
  have H : (if 0 ≤ (l0.length : Int) then (if ((l0.length : Int) : Int).toNat ≤ 11728124029610 then (laws_toFaceSS.l0 k l0 (List.replicate ((l0.length : Int) : Int).toNat []) 0) else (none)) else (none)) = some r := h
  clear h
  by_cases c2 : 0 ≤ (l0.length : Int)
  · rw [if_pos c2] at H
    have c2b0 := eq_true c2
    have c2b1 : decide (0 ≤ (l0.length : Int)) = true := ygy c2
    clear c2
    by_cases c3 : ((l0.length : Int) : Int).toNat ≤ 11728124029610
    · rw [if_pos c3] at H
      have c3b0 := eq_true c3
      have c3b1 : decide (((l0.length : Int) : Int).toNat ≤ 11728124029610) = true := ygy c3
      clear c3
      obtain ⟨y101, hy101⟩ : ∃ y_ : List (List (SFace)), y_ = (List.replicate ((l0.length : Int) : Int).toNat []) := ⟨_, rfl⟩
      replace H : (laws_toFaceSS.l0 k l0 y101 0) = some r := by first | (rw [hy101]; with_reducible exact H) | (have H2_ := (yfy _ _).symm.trans H; rw [hy101]; with_reducible exact H2_) | (have H2_ := (yfy _ _).symm.trans H; with_reducible exact H2_) | with_reducible exact H | (rw [hy101]; exact H) | exact H
      have Ny101 := Aside0.mk hy101
      clear hy101
      have H' := Aside0.mk H
      clear H
      go_enter Try.func56, Try.ntmps56
      go_wp2_with (first | ((with_reducible refine gate_dst (N := 7) rfl ?_); refine Kd.S_make (Kd.slice 74 kFace) _ 75 rfl (N := 7) rfl 26 _ _ rfl (l0.length : Int) rfl rfl Try.underlying26 (.slice none 0 0) 24 info75 rfl (by decide) (by omega) [] (ok := fun _ => True) (okp := fun _ => True) ⟨_, rfl, Kd.R_nil _ _ _ _ _⟩ (fun _ hk => hk) trivial (of_decide_eq_true (by first | (with_reducible assumption) | assumption)) (Nat.le_trans (Nat.mul_le_mul_right _ (of_decide_eq_true (by first | (with_reducible assumption) | assumption) : (l0.length : Int).toNat ≤ 11728124029610)) (by omega)) (Below.refl _ _) (yoy _) ?_; intro v102 w4 ho5 hb hg_ hnew_; clear hg_ hnew_; (first | rw [← Ny101.out] at ho5 | (simp only [Int.reduceToNat] at ho5; rw [← Ny101.out] at ho5)); have n0_ := Aside0.mk (Kd.S_lower ho5 (below_size (by repeat (first | (with_reducible first | exact HB.out | apply below_alloc | apply pw_below_drewN | apply below_drew1) | exact HB.out)))); have n1_ := Aside0.mk (below_step (by repeat (first | (with_reducible first | exact HB.out | apply below_alloc | apply pw_below_drewN | apply below_drew1) | exact HB.out)) hb); clear HB; have HO103 := n0_; have HB := n1_; clear n0_ n1_; clear hb ho5))
      go_loopg [4] k (fun kq v4 w' => ∃ (x3_1 : List (List (SFace))) (x4_1 : Int), v4 = .int .i64 x4_1 ∧ Aside0 (laws_toFaceSS.l0 kq l0 x3_1 x4_1 = some r) ∧ Aside0 (kq ≤ k) ∧ Aside0 (Kd.S (Kd.slice 74 kFace) 75 w' w.heap.size (fun _ => True) v102 x3_1) ∧ Aside0 (Below w.heap.size w w'))
      case atStart => exact ⟨(y101), (0), (by first | rfl | (simp; done) | (simp [*]; done)), H', ⟨yoy _⟩, ⟨by (with_reducible repeat (first | apply Kd.S_alloc | apply Kd.S_drewN | apply Kd.S_drew)); exact HO103.out⟩, ⟨by repeat (first | (with_reducible first | exact HB.out | apply below_alloc | apply pw_below_drewN | apply below_drew1) | exact HB.out)⟩⟩
      case round =>
        clear H'
        try clear c2
        try clear c2b0
        try clear c2b1
        try clear p2
        try clear c3
        try clear c3b0
        try clear c3b1
        try clear c5
        obtain ⟨x3_1, x4_1, rfl, HA, HK1, HO_3, HB⟩ := hrel
        cases gk with
        | zero => exact absurd HA.out (by simp [laws_toFaceSS.l0])
        | succ k1 =>
          have H := HA.out
          clear HA
          simp only [laws_toFaceSS.l0] at H
          by_cases c6 : x4_1 < (l0.length : Int)
          · rw [if_pos c6] at H
            have c6b0 : decide (x4_1 < (l0.length : Int)) = true := ygy c6
            clear c6
            by_cases c7 : 0 ≤ x4_1
            · rw [if_pos c7] at H
              have c7b0 : decide (0 ≤ x4_1) = true := ygy c7
              clear c7
              replace H := ydy.mp H
              obtain ⟨t105, A80, H⟩ := H
              replace H : (if x4_1 < (x3_1.length : Int) then (laws_toFaceSS.l0 k1 l0 (x3_1.set (x4_1 : Int).toNat t105) (wrap64 (x4_1 + 1))) else (none)) = some r := H
              have A8 := Aside0.mk A80
              clear A80
              by_cases c9 : x4_1 < (x3_1.length : Int)
              · rw [if_pos c9] at H
                have c9b0 : decide (x4_1 < (x3_1.length : Int)) = true := ygy c9
                clear c9
                obtain ⟨y108, hy108⟩ : ∃ y_ : List (List (SFace)), y_ = (x3_1.set (x4_1 : Int).toNat t105) := ⟨_, rfl⟩
                replace H : (laws_toFaceSS.l0 k1 l0 y108 (wrap64 (x4_1 + 1))) = some r := by first | (rw [hy108]; with_reducible exact H) | (have H2_ := (yfy _ _).symm.trans H; rw [hy108]; with_reducible exact H2_) | (have H2_ := (yfy _ _).symm.trans H; with_reducible exact H2_) | with_reducible exact H | (rw [hy108]; exact H) | exact H
                have Ny108 := Aside0.mk hy108
                clear hy108
                have H' := Aside0.mk H
                clear H
                have p104 : 0 ≤ (x4_1 : Int) := of_decide_eq_true (by first | (with_reducible assumption) | assumption)
                have q104 : x4_1 < (l0.length : Int) := of_decide_eq_true (by first | (with_reducible assumption) | assumption)
                obtain ⟨ad104, A104_0, c104_0, e104, hx104_0, hl104_0, hi104_0⟩ := at_LLawFace HR0.out x4_1 p104 q104
                cases e104
                replace hx104_0 := (HB.out.cell (yny w _ hx104_0)).trans hx104_0
                have HR104_0 := Aside0.mk hi104_0
                have HC104_0 := Aside0.mk hl104_0
                clear hi104_0 hl104_0
                replace p104 := eq_true p104
                replace q104 := eq_true q104
                go_wp2_with (first | ((with_reducible refine gate_callee (f := 114) rfl ?_); refine goesL_ (some 20) rfl rfl Try.func114 (by kernel_rfl) rfl #[.slice A104_0 (rd_LLawFace l0 x4_1).length c104_0] rfl (by (try simp only [yiy, yjy, yky]); first | done | rfl | (simp only [yly, ymy]; rfl)) ?_; (with_reducible refine (laws_toFaceS.calls k1 _ _ (rd_LLawFace l0 x4_1) t105 _ ?side1 ?side2 A8.out).mono ?_); (case side1 => repeat (first | exact (Kd.C_below HR104_0.out HB.out) | (with_reducible refine Kd.C_alloc ?_ _) | (with_reducible refine Kd.C_drewN ?_ _) | (with_reducible refine Kd.C_drew ?_))); (case side2 => exact HC104_0.out); rintro e w11 ⟨v106, rfl, ho0, hb⟩; refine ⟨_, rfl, ?_⟩; have n0_ := Aside0.mk (Kd.S_elder' (by (with_reducible repeat (first | apply Kd.S_alloc | apply Kd.S_drewN | apply Kd.S_drew)); exact HO_3.out) (Kd.R_base ho0) hb); have n1_ := Aside0.mk (Kd.R_lower ho0 (below_size (by repeat (first | (with_reducible first | exact HB.out | apply below_alloc | apply pw_below_drewN | apply below_drew1) | exact HB.out)))); have n2_ := Aside0.mk (below_step (by repeat (first | (with_reducible first | exact HB.out | apply below_alloc | apply pw_below_drewN | apply below_drew1) | exact HB.out)) hb); clear HO_3; clear HB; have HO_3 := n0_; have HO107 := n1_; have HB := n2_; clear n0_ n1_ n2_; (try clear hb); (try clear hb2); (try clear hk); (try clear hi); (try clear ho0); have p10 : 0 ≤ (x4_1 : Int) := of_decide_eq_true (by first | (with_reducible assumption) | assumption); have q10 : (x4_1 : Int) < ((x3_1.length : Int) : Int) := of_decide_eq_true (by first | (with_reducible assumption) | assumption); obtain ⟨go10, co10, eo10, gb10, gl10, cl10, HG10⟩ := Kd.S_form HO_3.out (by omega); (first | cases eo10 | (injection eo10 with ea_ en_ ec_; (first | subst ea_ | (injection ea_ with ea_; subst ea_)); subst ec_; clear en_)); have GB10 := Aside0.mk gb10; have GG10 := Aside0.mk HG10; clear gb10 gl10 HG10; obtain ⟨_, ce10, hcl10, hM10, hcc10, hfr10, _, _⟩ := Kd.S_elem HO_3.out [] (x4_1 : Int) p10 q10; obtain ⟨ve10_0, rfl, ge10_0⟩ := hM10; have hx10_0 := hcc10 0 _ rfl; have hf10_0 := hfr10 0; (try simp only [show ((Kd.slice 74 kFace)).sz = 1 from rfl, Nat.mul_one, Nat.add_zero] at hx10_0); (try simp only [show ((Kd.slice 74 kFace)).sz = 1 from rfl, Nat.mul_one, Nat.add_zero] at hf10_0); clear hcl10 hcc10 hfr10; (try clear hM10); replace p10 := eq_true p10; replace q10 := eq_true q10; have n_ := Aside0.mk (Kd.S_mono (ok' := (fun k_ => some k_ ≠ (v106 : Value).ownBlock)) HO_3.out (fun k_ hk => hk.2)); clear HO_3; have HO_3 := n_; clear n_; have HX12 := Aside0.mk (show Kd.S (Kd.slice 74 kFace) 75 w11 w.heap.size (fun k_ => ((fun _ => True)) k_ ∧ ¬ ((fun k_ => some k_ = (v106 : Value).ownBlock)) k_) (.slice (some ⟨go10, 0, none⟩) x3_1.length co10) x3_1 from (by (with_reducible repeat (first | apply Kd.S_alloc | apply Kd.S_drewN | apply Kd.S_drew)); exact Kd.S_mono HO_3.out (fun k_ hk => ⟨trivial, fun e_ => hk e_⟩))); obtain ⟨oki12, ce12, hcl12, hM12, hcc12, hfr12, hoki12, hH12⟩ := Kd.S_elem HX12.out [] (x4_1 : Int) (of_decide_eq_true (by first | (with_reducible assumption) | assumption)) (by have h_ : (x4_1 : Int) < ((x3_1.length : Int) : Int) := of_decide_eq_true (by first | (with_reducible assumption) | assumption); first | exact h_ | (have e_ := (Kd.S_reads' HO_3.out).1; omega) | simpa using h_); obtain ⟨ve12_0, rfl, ge12_0⟩ := hM12; have HP12 := Kd.S_seg hH12 (of_decide_eq_true (by first | (with_reducible assumption) | assumption)) (by have h_ : (x4_1 : Int) < ((x3_1.length : Int) : Int) := of_decide_eq_true (by first | (with_reducible assumption) | assumption); first | exact h_ | (have e_ := (Kd.S_reads' HO_3.out).1; omega) | simpa using h_) (seg := [v106]) (j := 0) (show 1 ≤ 1 from by decide) (x' := t105) (Kd.M_row (Kd.R_mono (Kd.R_tight rfl (Kd.R_mono (ok' := fun k_ => ((fun _ => True)) k_ ∧ k_ ≠ go10) (Kd.R_apart' (HO107.out) (Kd.S_typed HO_3.out) (by decide)) (fun k_ hk => ⟨trivial, fun e_ => (hk.2) (by rw [e_]; rfl)⟩))) (fun _ h_ => Or.inr (h_)))) (fun _ hk => hk) (fun k_ hk_ => ((Kd.R_mono (ok' := fun k_ => ((fun _ => True)) k_ ∧ k_ ≠ go10) (Kd.R_apart' (HO107.out) (Kd.S_typed HO_3.out) (by decide)) (fun k_ hk => ⟨trivial, fun e_ => (hk.2) (by rw [e_]; rfl)⟩))).1 k_ hk_.symm); have hx12_0 := hcc12 0 _ rfl; (try simp only [show ((Kd.slice 74 kFace)).sz = 1 from rfl, Nat.mul_one, Nat.add_zero] at hx12_0); have hf12_0 := hfr12 0; (try simp only [show ((Kd.slice 74 kFace)).sz = 1 from rfl, Nat.mul_one, Nat.add_zero] at hf12_0); clear hcl12 hcc12 hfr12 hoki12 hH12; (try clear hM12); (try simp only [show ((Kd.slice 74 kFace)).sz = 1 from rfl, Nat.mul_one, Nat.add_zero] at HP12)) | ((with_reducible refine gate_store (t := 75) (p := 21) rfl ?_); refine store_event (t := 75) (p := 21) (v := ?vo_w13) (w1 := (w11.setCell ⟨go10, (x4_1 : Int).toNat, none⟩ (v106))) ?hg ?ho ?hn ?hr ?_; (case ho => rfl); (case hg => rfl); (case hn => rfl); (case hr => first | (go_simp; done) | (go_simp; rfl) | (obtain ⟨ea_, ec_, ev_⟩ := Kd.R_slice HO107.out; rw [ev_]; first | (go_simp; done) | (go_simp; rfl)) | (obtain ⟨ea_, ec_, ev_⟩ := Kd.R_slice (Kd.S_R HO107.out); rw [ev_]; first | (go_simp; done) | (go_simp; rfl))); intro w13 hw; have hg : w11.grownBy w13 (some go10) := (by rw [hw]; exact HP12.2); have hp_ : Kd.S (Kd.slice 74 kFace) 75 w13 w.heap.size (fun _ => True) (.slice (some ⟨go10, 0, none⟩) x3_1.length co10) y108 := (by rw [hw, Ny108.out]; exact HP12.1); clear HP12; have n0_ := Aside0.mk (hp_); have n1_ := Aside0.mk ((by rw [hw]; exact below_set (HB.out) GB10.out : Below w.heap.size w w13)); clear HO_3; clear HB; clear HO107; have HO_3 := n0_; have HB := n1_; clear n0_ n1_; clear hg hw hp_))
                go_roundg k1
                case measure => have := HK1.out; omega
                case rel => exact ⟨(y108), (wrap64 (x4_1 + 1)), (by first | rfl | (simp; done) | (simp [*]; done)), H', ⟨by have := HK1.out; omega⟩, ⟨by (with_reducible repeat (first | apply Kd.S_alloc | apply Kd.S_drewN | apply Kd.S_drew)); exact HO_3.out⟩, ⟨by repeat (first | (with_reducible first | exact HB.out | apply below_alloc | apply pw_below_drewN | apply below_drew1) | exact HB.out)⟩⟩
              · rw [if_neg c9] at H
                exact absurd H (by simp)
            · rw [if_neg c7] at H
              exact absurd H (by simp)
          · rw [if_neg c6] at H
            have c6b0 : decide (x4_1 < (l0.length : Int)) = false := yhy c6
            clear c6
            obtain rfl := yey H
            go_wp2
            go_ret
            exact ⟨_, by first | rfl | (simp [errW_none, errW_some] <;> rfl) | (simp [*, errW_none, errW_some] <;> rfl), by (with_reducible repeat (first | apply Kd.S_alloc | apply Kd.S_drewN | apply Kd.S_drew)); exact HO_3.out, by repeat (first | (with_reducible first | exact HB.out | apply below_alloc | apply pw_below_drewN | apply below_drew1) | exact HB.out)⟩
    · rw [if_neg c3] at H
      exact absurd H (by simp)
  · rw [if_neg c2] at H
    exact absurd H (by simp)
/-! ### laws_toTriangulation: function 17 -/
def laws_toTriangulation.f (k : Nat) (l0_0 : List (List (SLawFace))) : Option ((List (List (SFace)))) := (laws_toFaceSS.f k l0_0).bind fun t104 => (some t104)
set_option maxHeartbeats 8000000 in
set_option maxRecDepth 100000 in
theorem laws_toTriangulation.calls (k : Nat) (A0_0 : Option Addr) (c0_0 : Nat) (l0_0 : List (List (SLawFace))) (r : List (List (SFace))) (w : World) (hr0_0 : Kd.C (Kd.slice 133 kLawFace) w A0_0 l0_0.length l0_0) (hc0_0 : l0_0.length ≤ c0_0) (h : laws_toTriangulation.f k l0_0 = some r) :
    Calls Try.prog 17 #[.agg #[.slice A0_0 l0_0.length c0_0]] w fun e w' => ∃ v0_ : Value, e = .returned (.agg #[v0_]) ∧ Kd.S (Kd.slice 74 kFace) 75 w' w.heap.size (fun _ => True) v0_ r ∧ Below w.heap.size w w' := by
  have hu24 := Try.underlying24
  have hu28 := Try.underlying28
  have HR0_0 := Aside0.mk hr0_0
  have HC0_0 := Aside0.mk hc0_0
  clear hr0_0 hc0_0
  have HB := Aside0.mk (Below.refl w.heap.size w)
  have H : ((laws_toFaceSS.f k l0_0).bind fun t104 => (some t104)) = some r := h
  clear h
  replace H := ydy.mp H
  obtain ⟨t104, A20, H⟩ := H
  replace H : (some t104) = some r := H
  have A2 := Aside0.mk A20
  clear A20
  obtain rfl := yey H
  go_enter Try.func17, Try.ntmps17
  go_wp2_with (first | ((with_reducible refine gate_dst (N := 1) rfl ?_); refine box_event ?hg (N := 1) ?hd (cs := #[.slice A0_0 l0_0.length c0_0]) (t := 24) ?hr ?_; (case hd => rfl); (case hg => rfl); (case hr => first | (go_simp; done) | (go_simp; rfl)); intro gb101 hg w3 hbox hb; have n0_ := Aside0.mk (below_step (by repeat (first | (with_reducible first | exact HB.out | apply below_alloc | apply pw_below_drewN | apply below_drew1) | exact HB.out)) hb); have n1_ := Aside0.mk (hbox); have n2_ := Aside0.mk ((by rw [hg]; exact (below_size (by repeat (first | (with_reducible first | exact HB.out | apply below_alloc | apply pw_below_drewN | apply below_drew1) | exact HB.out))) : w.heap.size ≤ gb101)); have n3_ := Aside0.mk ((by rw [hg]; exact (below_size (by repeat (first | (with_reducible first | exact HB.out | apply below_alloc | apply pw_below_drewN | apply below_drew1) | exact HB.out))) : w.heap.size ≤ gb101)); clear HB; have HB := n0_; have BK101 := n1_; have GW101 := n2_; have GE101 := n3_; clear n0_ n1_ n2_ n3_; clear hb hbox hg) | ((with_reducible refine gate_dst (N := 2) rfl ?_); refine box_event ?hg (N := 2) ?hd (cs := #[.slice none 0 0]) (t := 28) ?hr ?_; (case hd => rfl); (case hg => rfl); (case hr => first | (go_simp; done) | (go_simp; rfl)); intro gb102 hg w4 hbox hb; have n0_ := Aside0.mk (blk_below (g := gb101) (o := .cells #[.slice A0_0 l0_0.length c0_0] 24 (0, 0)) (by (with_reducible repeat (first | refine blk_drewN ?_ _ | refine blk_drew ?_ | refine blk_alloc ?_ _)); exact BK101.out) hb); have n1_ := Aside0.mk (below_step (by repeat (first | (with_reducible first | exact HB.out | apply below_alloc | apply pw_below_drewN | apply below_drew1 | refine below_set ?_ GE101.out) | exact HB.out)) hb); have n2_ := Aside0.mk (hbox); have n3_ := Aside0.mk ((by rw [hg]; exact (below_size (by repeat (first | (with_reducible first | exact HB.out | apply below_alloc | apply pw_below_drewN | apply below_drew1 | refine below_set ?_ GE101.out) | exact HB.out))) : w.heap.size ≤ gb102)); have n4_ := Aside0.mk ((by rw [hg]; exact (below_size (by repeat (first | (with_reducible first | exact HB.out | apply below_alloc | apply pw_below_drewN | apply below_drew1 | refine below_set ?_ GE101.out) | exact HB.out))) : w.heap.size ≤ gb102)); have n5_ := Aside0.mk ((by rw [hg]; exact Nat.ne_of_lt (blk_lt (g := gb101) (o := .cells #[.slice A0_0 l0_0.length c0_0] 24 (0, 0)) (by (with_reducible repeat (first | refine blk_drewN ?_ _ | refine blk_drew ?_ | refine blk_alloc ?_ _)); exact BK101.out)) : gb101 ≠ gb102)); have n6_ := Aside0.mk ((by rw [hg]; exact Nat.ne_of_gt (blk_lt (g := gb101) (o := .cells #[.slice A0_0 l0_0.length c0_0] 24 (0, 0)) (by (with_reducible repeat (first | refine blk_drewN ?_ _ | refine blk_drew ?_ | refine blk_alloc ?_ _)); exact BK101.out)) : gb102 ≠ gb101)); clear BK101; clear HB; have BK101 := n0_; have HB := n1_; have BK102 := n2_; have GW102 := n3_; have GE102 := n4_; have NB101_102 := n5_; have NB102_101 := n6_; clear n0_ n1_ n2_ n3_ n4_ n5_ n6_; clear hb hbox hg) | ((with_reducible refine gate_dst (N := 3) rfl ?_); refine box_event ?hg (N := 3) ?hd (cs := #[.slice none 0 0]) (t := 28) ?hr ?_; (case hd => rfl); (case hg => rfl); (case hr => first | (go_simp; done) | (go_simp; rfl)); intro gb103 hg w5 hbox hb; have n0_ := Aside0.mk (blk_below (g := gb101) (o := .cells #[.slice A0_0 l0_0.length c0_0] 24 (0, 0)) (by (with_reducible repeat (first | refine blk_drewN ?_ _ | refine blk_drew ?_ | refine blk_alloc ?_ _)); exact BK101.out) hb); have n1_ := Aside0.mk (blk_below (g := gb102) (o := .cells #[.slice none 0 0] 28 (0, 0)) (by (with_reducible repeat (first | refine blk_drewN ?_ _ | refine blk_drew ?_ | refine blk_alloc ?_ _)); exact BK102.out) hb); have n2_ := Aside0.mk (below_step (by repeat (first | (with_reducible first | exact HB.out | apply below_alloc | apply pw_below_drewN | apply below_drew1 | refine below_set ?_ GE101.out | refine below_set ?_ GE102.out) | exact HB.out)) hb); have n3_ := Aside0.mk (hbox); have n4_ := Aside0.mk ((by rw [hg]; exact (below_size (by repeat (first | (with_reducible first | exact HB.out | apply below_alloc | apply pw_below_drewN | apply below_drew1 | refine below_set ?_ GE101.out | refine below_set ?_ GE102.out) | exact HB.out))) : w.heap.size ≤ gb103)); have n5_ := Aside0.mk ((by rw [hg]; exact (below_size (by repeat (first | (with_reducible first | exact HB.out | apply below_alloc | apply pw_below_drewN | apply below_drew1 | refine below_set ?_ GE101.out | refine below_set ?_ GE102.out) | exact HB.out))) : w.heap.size ≤ gb103)); have n6_ := Aside0.mk ((by rw [hg]; exact Nat.ne_of_lt (blk_lt (g := gb101) (o := .cells #[.slice A0_0 l0_0.length c0_0] 24 (0, 0)) (by (with_reducible repeat (first | refine blk_drewN ?_ _ | refine blk_drew ?_ | refine blk_alloc ?_ _)); exact BK101.out)) : gb101 ≠ gb103)); have n7_ := Aside0.mk ((by rw [hg]; exact Nat.ne_of_gt (blk_lt (g := gb101) (o := .cells #[.slice A0_0 l0_0.length c0_0] 24 (0, 0)) (by (with_reducible repeat (first | refine blk_drewN ?_ _ | refine blk_drew ?_ | refine blk_alloc ?_ _)); exact BK101.out)) : gb103 ≠ gb101)); have n8_ := Aside0.mk ((by rw [hg]; exact Nat.ne_of_lt (blk_lt (g := gb102) (o := .cells #[.slice none 0 0] 28 (0, 0)) (by (with_reducible repeat (first | refine blk_drewN ?_ _ | refine blk_drew ?_ | refine blk_alloc ?_ _)); exact BK102.out)) : gb102 ≠ gb103)); have n9_ := Aside0.mk ((by rw [hg]; exact Nat.ne_of_gt (blk_lt (g := gb102) (o := .cells #[.slice none 0 0] 28 (0, 0)) (by (with_reducible repeat (first | refine blk_drewN ?_ _ | refine blk_drew ?_ | refine blk_alloc ?_ _)); exact BK102.out)) : gb103 ≠ gb102)); clear BK101; clear BK102; clear HB; have BK101 := n0_; have BK102 := n1_; have HB := n2_; have BK103 := n3_; have GW103 := n4_; have GE103 := n5_; have NB101_103 := n6_; have NB103_101 := n7_; have NB102_103 := n8_; have NB103_102 := n9_; clear n0_ n1_ n2_ n3_ n4_ n5_ n6_ n7_ n8_ n9_; clear hb hbox hg; have hnb6 := NB101_102.out; have hnc6 := NB102_101.out; have hnb7 := NB101_103.out; have hnc7 := NB103_101.out; have hcz8_0 : w5.cell? ⟨gb101, 0, none⟩ = some (.slice A0_0 l0_0.length c0_0) := (blk_cell BK101.out 0).trans rfl; have hfz8_0 := blk_frozen BK101.out 0) | ((with_reducible refine gate_callee (f := 56) rfl ?_); refine goesL_ (some 6) rfl rfl Try.func56 (by kernel_rfl) rfl #[.slice A0_0 l0_0.length c0_0] rfl (by (try simp only [yiy, yjy, yky]); first | done | rfl | (simp only [yly, ymy]; rfl)) ?_; (with_reducible refine (laws_toFaceSS.calls k _ _ l0_0 t104 _ ?side1 ?side2 A2.out).mono ?_); (case side1 => repeat (first | exact (Kd.C_below HR0_0.out HB.out) | (with_reducible refine Kd.C_alloc ?_ _) | (with_reducible refine Kd.C_drewN ?_ _) | (with_reducible refine Kd.C_drew ?_))); (case side2 => exact HC0_0.out); rintro e w9 ⟨v105, rfl, ho0, hb⟩; refine ⟨_, rfl, ?_⟩; have n0_ := Aside0.mk (Kd.S_lower ho0 (below_size (by repeat (first | (with_reducible first | exact HB.out | apply below_alloc | apply pw_below_drewN | apply below_drew1 | refine below_set ?_ GE101.out | refine below_set ?_ GE102.out | refine below_set ?_ GE103.out) | exact HB.out)))); have n1_ := Aside0.mk (blk_below (g := gb101) (o := .cells #[.slice A0_0 l0_0.length c0_0] 24 (0, 0)) (by (with_reducible repeat (first | refine blk_drewN ?_ _ | refine blk_drew ?_ | refine blk_alloc ?_ _)); exact BK101.out) hb); have n2_ := Aside0.mk (blk_below (g := gb102) (o := .cells #[.slice none 0 0] 28 (0, 0)) (by (with_reducible repeat (first | refine blk_drewN ?_ _ | refine blk_drew ?_ | refine blk_alloc ?_ _)); exact BK102.out) hb); have n3_ := Aside0.mk (blk_below (g := gb103) (o := .cells #[.slice none 0 0] 28 (0, 0)) (by (with_reducible repeat (first | refine blk_drewN ?_ _ | refine blk_drew ?_ | refine blk_alloc ?_ _)); exact BK103.out) hb); have n4_ := Aside0.mk (below_step (by repeat (first | (with_reducible first | exact HB.out | apply below_alloc | apply pw_below_drewN | apply below_drew1 | refine below_set ?_ GE101.out | refine below_set ?_ GE102.out | refine below_set ?_ GE103.out) | exact HB.out)) hb); clear BK101; clear BK102; clear BK103; clear HB; have HO106 := n0_; have BK101 := n1_; have BK102 := n2_; have BK103 := n3_; have HB := n4_; clear n0_ n1_ n2_ n3_ n4_; (try clear hb); (try clear hb2); (try clear hk); (try clear hi); (try clear ho0); obtain ⟨Ao10, co10, eo10⟩ := Kd.S_slice HO106.out; subst eo10; have hnb11 := NB103_102.out; have hnc11 := NB102_103.out; have hcz12_0 : w9.cell? ⟨gb103, 0, none⟩ = some (.slice none 0 0) := (blk_cell BK103.out 0).trans rfl; have hfz12_0 := blk_frozen BK103.out 0; have hcz13_0 : w9.cell? ⟨gb102, 0, none⟩ = some (.slice none 0 0) := (blk_cell BK102.out 0).trans rfl; have hfz13_0 := blk_frozen BK102.out 0))
  refine bodyPost_ret (results_cell_row rfl _ _ gb102 28 #[.slice Ao10 t104.length co10] (0, 0) _ rfl (by (with_reducible repeat (first | refine blk_drewN ?_ _ | refine blk_drew ?_ | refine blk_alloc ?_ _)); refine blk_put (cs := #[.slice none 0 0]) ?_ 0 _ rfl; (with_reducible repeat (first | refine blk_drewN ?_ _ | refine blk_drew ?_ | refine blk_alloc ?_ _)); refine blk_far ?_ NB102_103.out _; (with_reducible repeat (first | refine blk_drewN ?_ _ | refine blk_drew ?_ | refine blk_alloc ?_ _)); exact BK102.out) Try.underlying28 rfl (by kernel_rfl)) rfl ?_
  exact ⟨_, by first | rfl | (simp [errW_none, errW_some] <;> rfl) | (simp [*, errW_none, errW_some] <;> rfl), by (with_reducible repeat (first | apply Kd.S_alloc | apply Kd.S_drewN | apply Kd.S_drew)); exact Kd.S_mono (Kd.S_far (p := ⟨gb102, 0, none⟩) (Kd.S_far (p := ⟨gb103, 0, none⟩) (Kd.S_types (Kd.S_types HO106.out BK103.out (by decide)) BK102.out (by decide)) (fun _ hk => hk.1.2) (.slice Ao10 t104.length co10)) (fun _ hk => hk.2) (.slice Ao10 t104.length co10)) (fun _ hk => trivial), by repeat (first | (with_reducible first | exact HB.out | apply below_alloc | apply pw_below_drewN | apply below_drew1 | refine below_set ?_ GE101.out | refine below_set ?_ GE102.out | refine below_set ?_ GE103.out) | exact HB.out)⟩
/-! ### spec_l06Valid: function 67 -/
def spec_l06Valid.f (a0 : Int) : Option (Bool) := if a0 ≥ 0 then (some (decide (a0 < 24))) else (some false)
set_option maxHeartbeats 8000000 in
set_option maxRecDepth 100000 in
theorem spec_l06Valid.calls (a0 : Int) (r : Bool) (w : World) (h : spec_l06Valid.f a0 = some r) :
    Calls Try.prog 67 #[.int .i64 a0] w fun e w' => e = .returned (.bool r) ∧ Drawn0 w w' := by
  have H : (if a0 ≥ 0 then (some (decide (a0 < 24))) else (some false)) = some r := h
  clear h
  by_cases c2 : a0 ≥ 0
  · rw [if_pos c2] at H
    have c2b0 : decide (0 ≤ a0) = true := ygy c2
    clear c2
    obtain rfl := yey H
    go_enter Try.func67, Try.ntmps67
    go_wp2
    go_ret
    exact ⟨by first | rfl | (simp; done) | (simp [*]; done), by repeat (first | exact Drawn0.refl _ | apply Drawn0.step)⟩
  · rw [if_neg c2] at H
    have c2b0 : decide (0 ≤ a0) = false := yhy c2
    clear c2
    obtain rfl := yey H
    go_enter Try.func67, Try.ntmps67
    go_wp2
    go_ret
    exact ⟨by first | rfl | (simp; done) | (simp [*]; done), by repeat (first | exact Drawn0.refl _ | apply Drawn0.step)⟩
/-! ### spec_l07In: function 66 -/
def spec_l07In.f (a0 : Int) (a1 : Int) (a2 : Int) : Option (Bool) := if a0 ≥ a1 then (some (decide (a0 ≤ a2))) else (some false)
set_option maxHeartbeats 8000000 in
set_option maxRecDepth 100000 in
theorem spec_l07In.calls (a0 : Int) (a1 : Int) (a2 : Int) (r : Bool) (w : World) (h : spec_l07In.f a0 a1 a2 = some r) :
    Calls Try.prog 66 #[.int .i64 a0, .int .i64 a1, .int .i64 a2] w fun e w' => e = .returned (.bool r) ∧ Drawn0 w w' := by
  have H : (if a0 ≥ a1 then (some (decide (a0 ≤ a2))) else (some false)) = some r := h
  clear h
  by_cases c4 : a0 ≥ a1
  · rw [if_pos c4] at H
    have c4b0 : decide (a1 ≤ a0) = true := ygy c4
    clear c4
    obtain rfl := yey H
    go_enter Try.func66, Try.ntmps66
    go_wp2
    go_ret
    exact ⟨by first | rfl | (simp; done) | (simp [*]; done), by repeat (first | exact Drawn0.refl _ | apply Drawn0.step)⟩
  · rw [if_neg c4] at H
    have c4b0 : decide (a1 ≤ a0) = false := yhy c4
    clear c4
    obtain rfl := yey H
    go_enter Try.func66, Try.ntmps66
    go_wp2
    go_ret
    exact ⟨by first | rfl | (simp; done) | (simp [*]; done), by repeat (first | exact Drawn0.refl _ | apply Drawn0.step)⟩
/-! ### spec_l07Tets: function 65 -/
def spec_l07Tets.f (l0_0 : List (List (SFace))) : Option (Int) := some (l0_0.length : Int)
set_option maxHeartbeats 8000000 in
set_option maxRecDepth 100000 in
theorem spec_l07Tets.calls (A0_0 : Option Addr) (c0_0 : Nat) (l0_0 : List (List (SFace))) (r : Int) (w : World) (hr0_0 : Kd.C (Kd.slice 74 kFace) w A0_0 l0_0.length l0_0) (hc0_0 : l0_0.length ≤ c0_0) (h : spec_l07Tets.f l0_0 = some r) :
    Calls Try.prog 65 #[.agg #[.slice A0_0 l0_0.length c0_0]] w fun e w' => e = .returned (.int .i64 r) ∧ Below w.heap.size w w' := by
  have hu28 := Try.underlying28
  have HR0_0 := Aside0.mk hr0_0
  have HC0_0 := Aside0.mk hc0_0
  clear hr0_0 hc0_0
  have HB := Aside0.mk (Below.refl w.heap.size w)
  have H : (some (l0_0.length : Int)) = some r := h
  clear h
  obtain rfl := yey H
  go_enter Try.func65, Try.ntmps65
  go_wp2_with (first | ((with_reducible refine gate_dst (N := 1) rfl ?_); refine box_event ?hg (N := 1) ?hd (cs := #[.slice A0_0 l0_0.length c0_0]) (t := 28) ?hr ?_; (case hd => rfl); (case hg => rfl); (case hr => first | (go_simp; done) | (go_simp; rfl)); intro gb101 hg w2 hbox hb; have n0_ := Aside0.mk (below_step (by repeat (first | (with_reducible first | exact HB.out | apply below_alloc | apply pw_below_drewN | apply below_drew1) | exact HB.out)) hb); have n1_ := Aside0.mk (hbox); have n2_ := Aside0.mk ((by rw [hg]; exact (below_size (by repeat (first | (with_reducible first | exact HB.out | apply below_alloc | apply pw_below_drewN | apply below_drew1) | exact HB.out))) : w.heap.size ≤ gb101)); have n3_ := Aside0.mk ((by rw [hg]; exact (below_size (by repeat (first | (with_reducible first | exact HB.out | apply below_alloc | apply pw_below_drewN | apply below_drew1) | exact HB.out))) : w.heap.size ≤ gb101)); clear HB; have HB := n0_; have BK101 := n1_; have GW101 := n2_; have GE101 := n3_; clear n0_ n1_ n2_ n3_; clear hb hbox hg; have hcz3_0 : w2.cell? ⟨gb101, 0, none⟩ = some (.slice A0_0 l0_0.length c0_0) := (blk_cell BK101.out 0).trans rfl; have hfz3_0 := blk_frozen BK101.out 0))
  go_ret
  exact ⟨by first | rfl | (simp [errW_none, errW_some] <;> rfl) | (simp [*, errW_none, errW_some] <;> rfl), by repeat (first | (with_reducible first | exact HB.out | apply below_alloc | apply pw_below_drewN | apply below_drew1 | refine below_set ?_ GE101.out) | exact HB.out)⟩
section
attribute [local go_sem high] eqA74
/-! ### spec_IsTriangulation: function 52 -/
mutual
def spec_IsTriangulation.l0 : Nat → Int → List (List (SFace)) → Option (Bool)
 | 0, _, _ => none
 | k + 1, x3, x102000 => if x3 < (x102000.length : Int) then (if 0 ≤ x3 then (if ((rd_LFace x102000 x3).length : Int) = 4 then (spec_IsTriangulation.l0 k (wrap64 (x3 + 1)) x102000) else (some false)) else (none)) else (spec_IsTriangulation.l1 k 0 x102000)
def spec_IsTriangulation.l1 : Nat → Int → List (List (SFace)) → Option (Bool)
 | 0, _, _ => none
 | k + 1, x4, x102000 => (spec_l07Tets.f x102000).bind fun t104 => (if x4 < t104 then (spec_IsTriangulation.l2 k x4 0 x102000) else (some true))
def spec_IsTriangulation.l2 : Nat → Int → Int → List (List (SFace)) → Option (Bool)
 | 0, _, _, _ => none
 | k + 1, x4, x5, x102000 => if x5 < 4 then (if 0 ≤ x4 then (if x4 < (x102000.length : Int) then (if 0 ≤ x5 then (if x5 < ((rd_LFace x102000 x4).length : Int) then (if ((rd_Face (rd_LFace x102000 x4) x5).f0) = (-1) then (spec_IsTriangulation.j3 k x4 x5 (((rd_Face (rd_LFace x102000 x4) x5).f1) == 0) x102000 ((rd_Face (rd_LFace x102000 x4) x5).f0) ((rd_Face (rd_LFace x102000 x4) x5).f1)) else (spec_IsTriangulation.j3 k x4 x5 false x102000 ((rd_Face (rd_LFace x102000 x4) x5).f0) ((rd_Face (rd_LFace x102000 x4) x5).f1))) else (none)) else (none)) else (none)) else (none)) else (spec_IsTriangulation.l1 k (wrap64 (x4 + 1)) x102000)
def spec_IsTriangulation.j3 : Nat → Int → Int → Bool → List (List (SFace)) → Int → Int → Option (Bool)
 | 0, _, _, _, _, _, _ => none
 | k + 1, x4, x5, x51, x102000, x108000, x108001 => if x51 = true then (spec_IsTriangulation.l2 k x4 (wrap64 (x5 + 1)) x102000) else ((spec_l07Tets.f x102000).bind fun t108 => ((spec_l07In.f x108000 0 (wrap64 (t108 - 1))).bind fun t109 => (if t109 = true then ((spec_l06Valid.f x108001).bind fun t110 => (spec_IsTriangulation.j4 k x4 x5 (!t110) x102000 x108000 x108001)) else (spec_IsTriangulation.j4 k x4 x5 true x102000 x108000 x108001))))
def spec_IsTriangulation.j4 : Nat → Int → Int → Bool → List (List (SFace)) → Int → Int → Option (Bool)
 | 0, _, _, _, _, _, _ => none
 | k + 1, x4, x5, x64, x102000, x108000, x108001 => if x64 = true then (some false) else ((spec_l06At.f k x108001 x5).bind fun t111 => ((spec_l06Back.f k x108001).bind fun t112 => (if 0 ≤ x108000 then (if x108000 < (x102000.length : Int) then (if 0 ≤ t111 then (if t111 < ((rd_LFace x102000 x108000).length : Int) then (if (!(((rd_Face (rd_LFace x102000 x108000) t111).f0) == x4) || (!(((rd_Face (rd_LFace x102000 x108000) t111).f1) == t112))) = true then (some false) else (if x108000 = x4 then (if t111 = x5 then (some false) else (spec_IsTriangulation.l2 k x4 (wrap64 (x5 + 1)) x102000)) else (spec_IsTriangulation.l2 k x4 (wrap64 (x5 + 1)) x102000))) else (none)) else (none)) else (none)) else (none))))
end
def spec_IsTriangulation.f (k : Nat) (l0_0 : List (List (SFace))) : Option (Bool) := (spec_l07Tets.f l0_0).bind fun t102 => (if t102 > 8 then (some false) else (spec_IsTriangulation.l0 k 0 l0_0))
def spec_IsTriangulation.T16 : Bool × List (List Nat × List Nat) := (true, [([], []), ([0], [0]), ([], []), ([2], [2]), ([3], [3]), ([1, 4, 3], [1, 4]), ([5], [5]), ([6, 5], [6]), ([7], [7]), ([8, 7], [7, 8]), ([9, 7, 7], [7, 9]), ([10, 7], [7, 10]), ([7, 11], [7, 11])])
def spec_IsTriangulation.B16 : List Nat := [0, 1, 0, 4, 12, 31, 63, 127, 255, 511, 1023, 2047, 4095]
theorem spec_IsTriangulation.tab16 : rtab .any (opsOf Try.f52 16) = spec_IsTriangulation.T16 := by kernel_rfl
theorem spec_IsTriangulation.bits16 : waitsOk spec_IsTriangulation.T16.2 spec_IsTriangulation.B16 = true := by kernel_rfl
set_option maxHeartbeats 8000000 in
set_option maxRecDepth 100000 in
theorem spec_IsTriangulation.calls (k : Nat) (A0_0 : Option Addr) (c0_0 : Nat) (l0_0 : List (List (SFace))) (r : Bool) (w : World) (hr0_0 : Kd.C (Kd.slice 74 kFace) w A0_0 l0_0.length l0_0) (hc0_0 : l0_0.length ≤ c0_0) (h : spec_IsTriangulation.f k l0_0 = some r) :
 Calls Try.prog 52 #[.agg #[.slice A0_0 l0_0.length c0_0]] w fun e w' => e = .returned (.bool r) ∧ Below w.heap.size w w' := by
 have hu28 := Try.underlying28
 have hu74 := Try.underlying74
 have HR0_0 := Aside0.mk hr0_0
 have HC0_0 := Aside0.mk hc0_0
 clear hr0_0 hc0_0
 have HB := Aside0.mk (Below.refl w.heap.size w)
 have H : ((spec_l07Tets.f l0_0).bind fun t102 => (if t102 > 8 then (some false) else (spec_IsTriangulation.l0 k 0 l0_0))) = some r := h
 clear h
 replace H := ydy.mp H
 obtain ⟨t102, A20, H⟩ := H
 replace H : (if t102 > 8 then (some false) else (spec_IsTriangulation.l0 k 0 l0_0)) = some r := H
 have A2 := Aside0.mk A20
 clear A20
 by_cases c3 : t102 > 8
 next =>
  rw [if_pos c3] at H
  have c3b0 : decide (8 < t102) = true := ygy c3
  clear c3
  obtain rfl := yey H
  go_enter Try.func52, Try.ntmps52
  go_wp2_with (first | ((with_reducible refine gate_dst (N := 1) rfl ?_); refine box_event ?hg (N := 1) ?hd (cs := #[.slice A0_0 l0_0.length c0_0]) (t := 28) ?hr ?_; (case hd => rfl); (case hg => rfl); (case hr => first | (go_simp; done) | (go_simp; rfl)); intro gb101 hg w4 hbox hb; have n0_ := Aside0.mk (below_step (by repeat (first | (with_reducible first | exact HB.out | apply below_alloc | apply pw_below_drewN | apply below_drew1) | exact HB.out)) hb); have n1_ := Aside0.mk (hbox); have n2_ := Aside0.mk ((by rw [hg]; exact (below_size (by repeat (first | (with_reducible first | exact HB.out | apply below_alloc | apply pw_below_drewN | apply below_drew1) | exact HB.out))) : w.heap.size ≤ gb101)); have n3_ := Aside0.mk ((by rw [hg]; exact (below_size (by repeat (first | (with_reducible first | exact HB.out | apply below_alloc | apply pw_below_drewN | apply below_drew1) | exact HB.out))) : w.heap.size ≤ gb101)); clear HB; have HB := n0_; have BK101 := n1_; have GW101 := n2_; have GE101 := n3_; clear n0_ n1_ n2_ n3_; clear hb hbox hg; have hcz5_0 : w4.cell? ⟨gb101, 0, none⟩ = some (.slice A0_0 l0_0.length c0_0) := (blk_cell BK101.out 0).trans rfl; have hfz5_0 := blk_frozen BK101.out 0) | ((with_reducible refine gate_callee (f := 65) rfl ?_); refine goesL_ (some 10) rfl rfl Try.func65 (by kernel_rfl) rfl #[.agg #[.slice A0_0 l0_0.length c0_0]] rfl (by (try simp only [yiy, yjy, yky]); first | done | rfl | (simp only [yly, ymy]; rfl)) ?_; (with_reducible refine (spec_l07Tets.calls _ _ l0_0 t102 _ ?side1 ?side2 A2.out).mono ?_); (case side1 => repeat (first | exact (Kd.C_below HR0_0.out HB.out) | (with_reducible refine Kd.C_alloc ?_ _) | (with_reducible refine Kd.C_drewN ?_ _) | (with_reducible refine Kd.C_drew ?_))); (case side2 => exact HC0_0.out); rintro e w6 ⟨rfl, hb⟩; refine ⟨_, rfl, ?_⟩; have n0_ := Aside0.mk (blk_below (g := gb101) (o := .cells #[.slice A0_0 l0_0.length c0_0] 28 (0, 0)) (by (with_reducible repeat (first | refine blk_drewN ?_ _ | refine blk_drew ?_ | refine blk_alloc ?_ _)); exact BK101.out) hb); have n1_ := Aside0.mk (below_step (by repeat (first | (with_reducible first | exact HB.out | apply below_alloc | apply pw_below_drewN | apply below_drew1 | refine below_set ?_ GE101.out) | exact HB.out)) hb); clear BK101; clear HB; have BK101 := n0_; have HB := n1_; clear n0_ n1_; (try clear hb); (try clear hb2); (try clear hk); (try clear hi)))
  go_ret
  exact ⟨by first | rfl | (simp [errW_none, errW_some] <;> rfl) | (simp [*, errW_none, errW_some] <;> rfl), by repeat (first | (with_reducible first | exact HB.out | apply below_alloc | apply pw_below_drewN | apply below_drew1 | refine below_set ?_ GE101.out) | exact HB.out)⟩
 next =>
  rw [if_neg c3] at H
  have c3b0 : decide (8 < t102) = false := yhy c3
  clear c3
  have H' := Aside0.mk H
  clear H
  go_enter Try.func52, Try.ntmps52
  go_wp2_with (first | ((with_reducible refine gate_dst (N := 1) rfl ?_); refine box_event ?hg (N := 1) ?hd (cs := #[.slice A0_0 l0_0.length c0_0]) (t := 28) ?hr ?_; (case hd => rfl); (case hg => rfl); (case hr => first | (go_simp; done) | (go_simp; rfl)); intro gb101 hg w7 hbox hb; have n0_ := Aside0.mk (below_step (by repeat (first | (with_reducible first | exact HB.out | apply below_alloc | apply pw_below_drewN | apply below_drew1) | exact HB.out)) hb); have n1_ := Aside0.mk (hbox); have n2_ := Aside0.mk ((by rw [hg]; exact (below_size (by repeat (first | (with_reducible first | exact HB.out | apply below_alloc | apply pw_below_drewN | apply below_drew1) | exact HB.out))) : w.heap.size ≤ gb101)); have n3_ := Aside0.mk ((by rw [hg]; exact (below_size (by repeat (first | (with_reducible first | exact HB.out | apply below_alloc | apply pw_below_drewN | apply below_drew1) | exact HB.out))) : w.heap.size ≤ gb101)); clear HB; have HB := n0_; have BK101 := n1_; have GW101 := n2_; have GE101 := n3_; clear n0_ n1_ n2_ n3_; clear hb hbox hg; have hcz8_0 : w7.cell? ⟨gb101, 0, none⟩ = some (.slice A0_0 l0_0.length c0_0) := (blk_cell BK101.out 0).trans rfl; have hfz8_0 := blk_frozen BK101.out 0) | ((with_reducible refine gate_callee (f := 65) rfl ?_); refine goesL_ (some 10) rfl rfl Try.func65 (by kernel_rfl) rfl #[.agg #[.slice A0_0 l0_0.length c0_0]] rfl (by (try simp only [yiy, yjy, yky]); first | done | rfl | (simp only [yly, ymy]; rfl)) ?_; (with_reducible refine (spec_l07Tets.calls _ _ l0_0 t102 _ ?side1 ?side2 A2.out).mono ?_); (case side1 => repeat (first | exact (Kd.C_below HR0_0.out HB.out) | (with_reducible refine Kd.C_alloc ?_ _) | (with_reducible refine Kd.C_drewN ?_ _) | (with_reducible refine Kd.C_drew ?_))); (case side2 => exact HC0_0.out); rintro e w9 ⟨rfl, hb⟩; refine ⟨_, rfl, ?_⟩; have n0_ := Aside0.mk (blk_below (g := gb101) (o := .cells #[.slice A0_0 l0_0.length c0_0] 28 (0, 0)) (by (with_reducible repeat (first | refine blk_drewN ?_ _ | refine blk_drew ?_ | refine blk_alloc ?_ _)); exact BK101.out) hb); have n1_ := Aside0.mk (below_step (by repeat (first | (with_reducible first | exact HB.out | apply below_alloc | apply pw_below_drewN | apply below_drew1 | refine below_set ?_ GE101.out) | exact HB.out)) hb); clear BK101; clear HB; have BK101 := n0_; have HB := n1_; clear n0_ n1_; (try clear hb); (try clear hb2); (try clear hk); (try clear hi)))
  go_loopg [3] k (fun kq v3 w' => ∃ (x3_1 : Int), v3 = .int .i64 x3_1 ∧ Aside0 (spec_IsTriangulation.l0 kq x3_1 l0_0 = some r) ∧ Aside0 (kq ≤ k) ∧ Aside0 (w'.heap[gb101]? = some (.cells #[(.slice A0_0 l0_0.length c0_0)] 28 (0, 0))) ∧ Aside0 (Below w.heap.size w w'))
  case atStart => exact ⟨(0), (by first | rfl | (simp; done) | (simp [*]; done)), H', ⟨yoy _⟩, ⟨by (with_reducible repeat (first | refine blk_drewN ?_ _ | refine blk_drew ?_ | refine blk_alloc ?_ _)); exact BK101.out⟩, ⟨by repeat (first | (with_reducible first | exact HB.out | apply below_alloc | apply pw_below_drewN | apply below_drew1 | refine below_set ?_ GE101.out) | exact HB.out)⟩⟩
  case round =>
   clear H'
   try clear p2
   try clear c3
   try clear c3b0
   try clear c5
   try clear c6
   try clear hcz5_0
   try clear hcz8_0
   try clear hfz5_0
   try clear hfz8_0
   obtain ⟨x3_1, rfl, HA, HK1, BK101, HB⟩ := hrel
   cases gk with
   | zero => exact absurd HA.out (by simp [spec_IsTriangulation.l0])
   | succ k1 =>
    have H := HA.out
    clear HA
    simp only [spec_IsTriangulation.l0] at H
    by_cases c10 : x3_1 < (l0_0.length : Int)
    next =>
     rw [if_pos c10] at H
     have c10b0 : decide (x3_1 < (l0_0.length : Int)) = true := ygy c10
     clear c10
     by_cases c11 : 0 ≤ x3_1
     rotate_left
     next =>
      rw [if_neg c11] at H
      exact absurd H (by simp)
     rw [if_pos c11] at H
     have c11b0 : decide (0 ≤ x3_1) = true := ygy c11
     clear c11
     by_cases c12 : ((rd_LFace l0_0 x3_1).length : Int) = 4
     rotate_left
     next =>
      rw [if_neg c12] at H
      have c12b0 : (((rd_LFace l0_0 x3_1).length : Int) == 4) = false := beq_eq_false_iff_ne.mpr c12
      have c12b1 : (((rd_LFace l0_0 x3_1).length : Int) != 4) = true := bne_iff_ne.mpr c12
      obtain rfl := yey H
      have hcz14_0 : wr.cell? ⟨gb101, 0, none⟩ = some (.slice A0_0 l0_0.length c0_0) := (blk_cell BK101.out 0).trans rfl
      have hfz14_0 := blk_frozen BK101.out 0
      have p103 : 0 ≤ (x3_1 : Int) := of_decide_eq_true (by first | (with_reducible assumption) | assumption)
      have q103 : x3_1 < (l0_0.length : Int) := of_decide_eq_true (by first | (with_reducible assumption) | assumption)
      obtain ⟨ad103, A103_0, c103_0, e103, hx103_0, hl103_0, hi103_0⟩ := at_LFace HR0_0.out x3_1 p103 q103
      cases e103
      replace hx103_0 := (HB.out.cell (yny w _ hx103_0)).trans hx103_0
      have HR103_0 := Aside0.mk hi103_0
      have HC103_0 := Aside0.mk hl103_0
      clear hi103_0 hl103_0
      replace p103 := eq_true p103
      replace q103 := eq_true q103
      go_wp2
      go_ret
      exact ⟨by first | rfl | (simp [errW_none, errW_some] <;> rfl) | (simp [*, errW_none, errW_some] <;> rfl), by repeat (first | (with_reducible first | exact HB.out | apply below_alloc | apply pw_below_drewN | apply below_drew1 | refine below_set ?_ GE101.out) | exact HB.out)⟩
     rw [if_pos c12] at H
     have c12b0 : (((rd_LFace l0_0 x3_1).length : Int) == 4) = true := beq_iff_eq.mpr c12
     have c12b1 : (((rd_LFace l0_0 x3_1).length : Int) != 4) = false := bne_eq_false_iff_eq.mpr c12
     clear c12
     have H' := Aside0.mk H
     clear H
     have hcz13_0 : wr.cell? ⟨gb101, 0, none⟩ = some (.slice A0_0 l0_0.length c0_0) := (blk_cell BK101.out 0).trans rfl
     have hfz13_0 := blk_frozen BK101.out 0
     have p103 : 0 ≤ (x3_1 : Int) := of_decide_eq_true (by first | (with_reducible assumption) | assumption)
     have q103 : x3_1 < (l0_0.length : Int) := of_decide_eq_true (by first | (with_reducible assumption) | assumption)
     obtain ⟨ad103, A103_0, c103_0, e103, hx103_0, hl103_0, hi103_0⟩ := at_LFace HR0_0.out x3_1 p103 q103
     cases e103
     replace hx103_0 := (HB.out.cell (yny w _ hx103_0)).trans hx103_0
     have HR103_0 := Aside0.mk hi103_0
     have HC103_0 := Aside0.mk hl103_0
     clear hi103_0 hl103_0
     replace p103 := eq_true p103
     replace q103 := eq_true q103
     go_wp2
     go_roundg k1
     case measure => have := HK1.out; omega
     case rel => exact ⟨(wrap64 (x3_1 + 1)), (by first | rfl | (simp; done) | (simp [*]; done)), H', ⟨by have := HK1.out; omega⟩, ⟨by (with_reducible repeat (first | refine blk_drewN ?_ _ | refine blk_drew ?_ | refine blk_alloc ?_ _)); exact BK101.out⟩, ⟨by repeat (first | (with_reducible first | exact HB.out | apply below_alloc | apply pw_below_drewN | apply below_drew1 | refine below_set ?_ GE101.out) | exact HB.out)⟩⟩
    next =>
     rw [if_neg c10] at H
     have c10b0 : decide (x3_1 < (l0_0.length : Int)) = false := yhy c10
     clear c10
     have H' := Aside0.mk H
     clear H
     have hcz15_0 : wr.cell? ⟨gb101, 0, none⟩ = some (.slice A0_0 l0_0.length c0_0) := (blk_cell BK101.out 0).trans rfl
     have hfz15_0 := blk_frozen BK101.out 0
     go_wp2
     go_loopg [4] k1 (fun kq v4 w' => ∃ (x4_2 : Int), v4 = .int .i64 x4_2 ∧ Aside0 (spec_IsTriangulation.l1 kq x4_2 l0_0 = some r) ∧ Aside0 (kq ≤ k1) ∧ Aside0 (w'.heap[gb101]? = some (.cells #[(.slice A0_0 l0_0.length c0_0)] 28 (0, 0))) ∧ Aside0 (Below w.heap.size w w'))
     case atStart => exact ⟨(0), (by first | rfl | (simp; done) | (simp [*]; done)), H', ⟨yoy _⟩, ⟨by (with_reducible repeat (first | refine blk_drewN ?_ _ | refine blk_drew ?_ | refine blk_alloc ?_ _)); exact BK101.out⟩, ⟨by repeat (first | (with_reducible first | exact HB.out | apply below_alloc | apply pw_below_drewN | apply below_drew1 | refine below_set ?_ GE101.out) | exact HB.out)⟩⟩
     case round =>
      clear H'
      try clear c1
      try clear p1
      try clear q1
      try clear hx1
      try clear p2
      try clear c3
      try clear c3b0
      try clear c5
      try clear c6
      try clear p6
      try clear c10
      try clear c10b0
      try clear p10
      try clear q10
      try clear hx10
      try clear c11
      try clear c11b0
      try clear c12
      try clear c12b0
      try clear c12b1
      try clear hcz13_0
      try clear hcz14_0
      try clear hcz15_0
      try clear hcz5_0
      try clear hcz8_0
      try clear hfz13_0
      try clear hfz14_0
      try clear hfz15_0
      try clear hfz5_0
      try clear hfz8_0
      try clear hx103_0
      try clear p103
      try clear p2
      try clear q103
      obtain ⟨x4_2, rfl, HA, HK2, BK101, HB⟩ := hrel
      cases gk with
      | zero => exact absurd HA.out (by simp [spec_IsTriangulation.l1])
      | succ k2 =>
       have H := HA.out
       clear HA
       simp only [spec_IsTriangulation.l1] at H
       replace H := ydy.mp H
       obtain ⟨t104, A160, H⟩ := H
       replace H : (if x4_2 < t104 then (spec_IsTriangulation.l2 k2 x4_2 0 l0_0) else (some true)) = some r := H
       have A16 := Aside0.mk A160
       clear A160
       by_cases c17 : x4_2 < t104
       rotate_left
       next =>
        rw [if_neg c17] at H
        have c17b0 : decide (x4_2 < t104) = false := yhy c17
        clear c17
        obtain rfl := yey H
        have hcz99_0 : wr.cell? ⟨gb101, 0, none⟩ = some (.slice A0_0 l0_0.length c0_0) := (blk_cell BK101.out 0).trans rfl
        have hfz99_0 := blk_frozen BK101.out 0
        go_wp2_with (first | ((with_reducible refine gate_callee (f := 65) rfl ?_); refine goesL_ (some 28) rfl rfl Try.func65 (by kernel_rfl) rfl #[.agg #[.slice A0_0 l0_0.length c0_0]] rfl (by (try simp only [yiy, yjy, yky]); first | done | rfl | (simp only [yly, ymy]; rfl)) ?_; (with_reducible refine (spec_l07Tets.calls _ _ l0_0 t104 _ ?side1 ?side2 A16.out).mono ?_); (case side1 => repeat (first | exact (Kd.C_below HR0_0.out HB.out) | (with_reducible refine Kd.C_alloc ?_ _) | (with_reducible refine Kd.C_drewN ?_ _) | (with_reducible refine Kd.C_drew ?_))); (case side2 => exact HC0_0.out); rintro e w100 ⟨rfl, hb⟩; refine ⟨_, rfl, ?_⟩; have n0_ := Aside0.mk (blk_below (g := gb101) (o := .cells #[.slice A0_0 l0_0.length c0_0] 28 (0, 0)) (by (with_reducible repeat (first | refine blk_drewN ?_ _ | refine blk_drew ?_ | refine blk_alloc ?_ _)); exact BK101.out) hb); have n1_ := Aside0.mk (below_step (by repeat (first | (with_reducible first | exact HB.out | apply below_alloc | apply pw_below_drewN | apply below_drew1 | refine below_set ?_ GE101.out) | exact HB.out)) hb); clear BK101; clear HB; have BK101 := n0_; have HB := n1_; clear n0_ n1_; (try clear hb); (try clear hb2); (try clear hk); (try clear hi)))
        go_ret
        exact ⟨by first | rfl | (simp [errW_none, errW_some] <;> rfl) | (simp [*, errW_none, errW_some] <;> rfl), by repeat (first | (with_reducible first | exact HB.out | apply below_alloc | apply pw_below_drewN | apply below_drew1 | refine below_set ?_ GE101.out) | exact HB.out)⟩
       rw [if_pos c17] at H
       have c17b0 : decide (x4_2 < t104) = true := ygy c17
       clear c17
       have H' := Aside0.mk H
       clear H
       have hcz18_0 : wr.cell? ⟨gb101, 0, none⟩ = some (.slice A0_0 l0_0.length c0_0) := (blk_cell BK101.out 0).trans rfl
       have hfz18_0 := blk_frozen BK101.out 0
       go_wp2_with (first | ((with_reducible refine gate_callee (f := 65) rfl ?_); refine goesL_ (some 28) rfl rfl Try.func65 (by kernel_rfl) rfl #[.agg #[.slice A0_0 l0_0.length c0_0]] rfl (by (try simp only [yiy, yjy, yky]); first | done | rfl | (simp only [yly, ymy]; rfl)) ?_; (with_reducible refine (spec_l07Tets.calls _ _ l0_0 t104 _ ?side1 ?side2 A16.out).mono ?_); (case side1 => repeat (first | exact (Kd.C_below HR0_0.out HB.out) | (with_reducible refine Kd.C_alloc ?_ _) | (with_reducible refine Kd.C_drewN ?_ _) | (with_reducible refine Kd.C_drew ?_))); (case side2 => exact HC0_0.out); rintro e w19 ⟨rfl, hb⟩; refine ⟨_, rfl, ?_⟩; have n0_ := Aside0.mk (blk_below (g := gb101) (o := .cells #[.slice A0_0 l0_0.length c0_0] 28 (0, 0)) (by (with_reducible repeat (first | refine blk_drewN ?_ _ | refine blk_drew ?_ | refine blk_alloc ?_ _)); exact BK101.out) hb); have n1_ := Aside0.mk (below_step (by repeat (first | (with_reducible first | exact HB.out | apply below_alloc | apply pw_below_drewN | apply below_drew1 | refine below_set ?_ GE101.out) | exact HB.out)) hb); clear BK101; clear HB; have BK101 := n0_; have HB := n1_; clear n0_ n1_; (try clear hb); (try clear hb2); (try clear hk); (try clear hi)))
       go_loopg [5] k2 (fun kq v5 w' => ∃ (x5_3 : Int), v5 = .int .i64 x5_3 ∧ Aside0 (spec_IsTriangulation.l2 kq x4_2 x5_3 l0_0 = some r) ∧ Aside0 (kq ≤ k2) ∧ Aside0 (w'.heap[gb101]? = some (.cells #[(.slice A0_0 l0_0.length c0_0)] 28 (0, 0))) ∧ Aside0 (Below w.heap.size w w'))
       case atStart => exact ⟨(0), (by first | rfl | (simp; done) | (simp [*]; done)), H', ⟨yoy _⟩, ⟨by (with_reducible repeat (first | refine blk_drewN ?_ _ | refine blk_drew ?_ | refine blk_alloc ?_ _)); exact BK101.out⟩, ⟨by repeat (first | (with_reducible first | exact HB.out | apply below_alloc | apply pw_below_drewN | apply below_drew1 | refine below_set ?_ GE101.out) | exact HB.out)⟩⟩
       case round =>
        clear H'
        try clear c1
        try clear p1
        try clear q1
        try clear hx1
        try clear p2
        try clear c3
        try clear c3b0
        try clear c5
        try clear c6
        try clear p6
        try clear c10
        try clear c10b0
        try clear p10
        try clear q10
        try clear hx10
        try clear c11
        try clear c11b0
        try clear c12
        try clear c12b0
        try clear c12b1
        try clear c17
        try clear c17b0
        try clear hcz13_0
        try clear hcz14_0
        try clear hcz15_0
        try clear hcz18_0
        try clear hcz5_0
        try clear hcz8_0
        try clear hfz13_0
        try clear hfz14_0
        try clear hfz15_0
        try clear hfz18_0
        try clear hfz5_0
        try clear hfz8_0
        try clear hx103_0
        try clear p1
        try clear p10
        try clear p103
        try clear p2
        try clear p6
        try clear q1
        try clear q10
        try clear q103
        obtain ⟨x5_3, rfl, HA, HK3, BK101, HB⟩ := hrel
        cases gk with
        | zero => exact absurd HA.out (by simp [spec_IsTriangulation.l2])
        | succ k3 =>
         have H := HA.out
         clear HA
         simp only [spec_IsTriangulation.l2] at H
         by_cases c20 : x5_3 < 4
         rotate_left
         next =>
          rw [if_neg c20] at H
          have c20b0 : decide (x5_3 < 4) = false := yhy c20
          clear c20
          have H' := Aside0.mk H
          clear H
          go_wp2
          go_roundg k3
          case measure => have := HK1.out; have := HK2.out; have := HK3.out; omega
          case rel => exact ⟨(wrap64 (x4_2 + 1)), (by first | rfl | (simp; done) | (simp [*]; done)), H', ⟨by have := HK1.out; have := HK2.out; have := HK3.out; omega⟩, ⟨by (with_reducible repeat (first | refine blk_drewN ?_ _ | refine blk_drew ?_ | refine blk_alloc ?_ _)); exact BK101.out⟩, ⟨by repeat (first | (with_reducible first | exact HB.out | apply below_alloc | apply pw_below_drewN | apply below_drew1 | refine below_set ?_ GE101.out) | exact HB.out)⟩⟩
         rw [if_pos c20] at H
         have c20b0 : decide (x5_3 < 4) = true := ygy c20
         clear c20
         by_cases c21 : 0 ≤ x4_2
         rotate_left
         next =>
          rw [if_neg c21] at H
          exact absurd H (by simp)
         rw [if_pos c21] at H
         have c21b0 : decide (0 ≤ x4_2) = true := ygy c21
         clear c21
         by_cases c22 : x4_2 < (l0_0.length : Int)
         rotate_left
         next =>
          rw [if_neg c22] at H
          exact absurd H (by simp)
         rw [if_pos c22] at H
         have c22b0 : decide (x4_2 < (l0_0.length : Int)) = true := ygy c22
         clear c22
         by_cases c23 : 0 ≤ x5_3
         rotate_left
         next =>
          rw [if_neg c23] at H
          exact absurd H (by simp)
         rw [if_pos c23] at H
         have c23b0 : decide (0 ≤ x5_3) = true := ygy c23
         clear c23
         by_cases c24 : x5_3 < ((rd_LFace l0_0 x4_2).length : Int)
         rotate_left
         next =>
          rw [if_neg c24] at H
          exact absurd H (by simp)
         rw [if_pos c24] at H
         have c24b0 : decide (x5_3 < ((rd_LFace l0_0 x4_2).length : Int)) = true := ygy c24
         clear c24
         have HC25 := Aside0.mk H
         clear H
         have hcz26_0 : wr.cell? ⟨gb101, 0, none⟩ = some (.slice A0_0 l0_0.length c0_0) := (blk_cell BK101.out 0).trans rfl
         have hfz26_0 := blk_frozen BK101.out 0
         have p105 : 0 ≤ (x4_2 : Int) := of_decide_eq_true (by first | (with_reducible assumption) | assumption)
         have q105 : x4_2 < (l0_0.length : Int) := of_decide_eq_true (by first | (with_reducible assumption) | assumption)
         obtain ⟨ad105, A105_0, c105_0, e105, hx105_0, hl105_0, hi105_0⟩ := at_LFace HR0_0.out x4_2 p105 q105
         cases e105
         replace hx105_0 := (HB.out.cell (yny w _ hx105_0)).trans hx105_0
         have HR105_0 := Aside0.mk hi105_0
         have HC105_0 := Aside0.mk hl105_0
         clear hi105_0 hl105_0
         replace p105 := eq_true p105
         replace q105 := eq_true q105
         have p106 : 0 ≤ (x5_3 : Int) := of_decide_eq_true (by first | (with_reducible assumption) | assumption)
         have q106 : x5_3 < ((rd_LFace l0_0 x4_2).length : Int) := of_decide_eq_true (by first | (with_reducible assumption) | assumption)
         obtain ⟨ad106, e106, hx106_0, hx106_1⟩ := at_Face HR105_0.out x5_3 p106 q106
         cases e106
         replace hx106_0 := (HB.out.cell (yny w _ hx106_0)).trans hx106_0
         replace hx106_1 := (HB.out.cell (yny w _ hx106_1)).trans hx106_1
         replace p106 := eq_true p106
         replace q106 := eq_true q106
         go_upto_region 15 with (first | ((with_reducible refine gate_dst (N := 6) rfl ?_); refine box_event ?hg (N := 6) ?hd (cs := #[.int .i64 0, .int .i64 0]) (t := 74) ?hr ?_; (case hd => rfl); (case hg => rfl); (case hr => first | (go_simp; done) | (go_simp; rfl)); intro gb107 hg w27 hbox hb; have n0_ := Aside0.mk (blk_below (g := gb101) (o := .cells #[.slice (some ad105) l0_0.length c0_0] 28 (0, 0)) (by (with_reducible repeat (first | refine blk_drewN ?_ _ | refine blk_drew ?_ | refine blk_alloc ?_ _)); exact BK101.out) hb); have n1_ := Aside0.mk (below_step (by repeat (first | (with_reducible first | exact HB.out | apply below_alloc | apply pw_below_drewN | apply below_drew1 | refine below_set ?_ GE101.out) | exact HB.out)) hb); have n2_ := Aside0.mk (hbox); have n3_ := Aside0.mk ((by rw [hg]; exact (below_size (by repeat (first | (with_reducible first | exact HB.out | apply below_alloc | apply pw_below_drewN | apply below_drew1 | refine below_set ?_ GE101.out) | exact HB.out))) : w.heap.size ≤ gb107)); have n4_ := Aside0.mk ((by rw [hg]; exact (below_size (by repeat (first | (with_reducible first | exact HB.out | apply below_alloc | apply pw_below_drewN | apply below_drew1 | refine below_set ?_ GE101.out) | exact HB.out))) : w.heap.size ≤ gb107)); have n5_ := Aside0.mk ((by rw [hg]; exact Nat.ne_of_lt (blk_lt (g := gb101) (o := .cells #[.slice (some ad105) l0_0.length c0_0] 28 (0, 0)) (by (with_reducible repeat (first | refine blk_drewN ?_ _ | refine blk_drew ?_ | refine blk_alloc ?_ _)); exact BK101.out)) : gb101 ≠ gb107)); have n6_ := Aside0.mk ((by rw [hg]; exact Nat.ne_of_gt (blk_lt (g := gb101) (o := .cells #[.slice (some ad105) l0_0.length c0_0] 28 (0, 0)) (by (with_reducible repeat (first | refine blk_drewN ?_ _ | refine blk_drew ?_ | refine blk_alloc ?_ _)); exact BK101.out)) : gb107 ≠ gb101)); clear BK101; clear HB; have BK101 := n0_; have HB := n1_; have BK107 := n2_; have GW107 := n3_; have GE107 := n4_; have NB101_107 := n5_; have NB107_101 := n6_; clear n0_ n1_ n2_ n3_ n4_ n5_ n6_; clear hb hbox hg; have hnb28 := NB107_101.out; have hnc28 := NB101_107.out; have hcz29_0 : w27.cell? ⟨gb107, 0, none⟩ = some (.int .i64 0) := (blk_cell BK107.out 0).trans rfl; have hcz29_1 : w27.cell? ⟨gb107, 1, none⟩ = some (.int .i64 0) := (blk_cell BK107.out 1).trans rfl; have hfz29_0 := blk_frozen BK107.out 0; have hfz29_1 := blk_frozen BK107.out 1))
         (try simp only [Act.put, yay, yby, ycy])
         go_cut [51] (fun v51 wc => ∃ (kq : Nat) (x51_24 : Bool), v51 = .bool x51_24 ∧ Aside0 (spec_IsTriangulation.j3 kq x4_2 x5_3 x51_24 l0_0 ((rd_Face (rd_LFace l0_0 x4_2) x5_3).f0) ((rd_Face (rd_LFace l0_0 x4_2) x5_3).f1) = some r) ∧ Aside0 (kq ≤ k3) ∧ Aside0 (wc.heap[gb101]? = some (.cells #[(.slice (some ad105) l0_0.length c0_0)] 28 (0, 0))) ∧ Aside0 (wc.heap[gb107]? = some (.cells #[.int .i64 ((rd_Face (rd_LFace l0_0 x4_2) x5_3).f0), .int .i64 ((rd_Face (rd_LFace l0_0 x4_2) x5_3).f1)] 74 (0, 0))) ∧ Aside0 (Below w.heap.size w wc))
         case first =>
          have H := HC25.out
          clear HC25
          by_cases c30 : ((rd_Face (rd_LFace l0_0 x4_2) x5_3).f0) = (-1)
          rotate_left
          next =>
           rw [if_neg c30] at H
           have c30b0 : (((rd_Face (rd_LFace l0_0 x4_2) x5_3).f0) == (-1)) = false := beq_eq_false_iff_ne.mpr c30
           have c30b1 : (((rd_Face (rd_LFace l0_0 x4_2) x5_3).f0) != (-1)) = true := bne_iff_ne.mpr c30
           (first | rw [c30b0] | (simp only [i64_w, i32_w]; rw [c30b0]) | skip)
           have H' := Aside0.mk H
           clear H
           have hnb33 := NB107_101.out
           have hnc33 := NB101_107.out
           have hcz34_0 : w27.cell? ⟨gb107, 0, none⟩ = some (.int .i64 0) := (blk_cell BK107.out 0).trans rfl
           have hcz34_1 : w27.cell? ⟨gb107, 1, none⟩ = some (.int .i64 0) := (blk_cell BK107.out 1).trans rfl
           have hfz34_0 := blk_frozen BK107.out 0
           have hfz34_1 := blk_frozen BK107.out 1
           go_wp2
           go_meet
           case rel => exact ⟨_, (false), (by first | rfl | (simp; done) | (simp [*]; done)), H', ⟨by have := HK1.out; have := HK2.out; have := HK3.out; first | omega | exact yoy _⟩, ⟨by (with_reducible repeat (first | refine blk_drewN ?_ _ | refine blk_drew ?_ | refine blk_alloc ?_ _)); refine blk_far ?_ NB101_107.out _; (with_reducible repeat (first | refine blk_drewN ?_ _ | refine blk_drew ?_ | refine blk_alloc ?_ _)); refine blk_far ?_ NB101_107.out _; (with_reducible repeat (first | refine blk_drewN ?_ _ | refine blk_drew ?_ | refine blk_alloc ?_ _)); exact BK101.out⟩, ⟨by (with_reducible repeat (first | refine blk_drewN ?_ _ | refine blk_drew ?_ | refine blk_alloc ?_ _)); refine blk_put (cs := #[.int .i64 ((rd_Face (rd_LFace l0_0 x4_2) x5_3).f0), .int .i64 0]) ?_ 1 _ rfl; (with_reducible repeat (first | refine blk_drewN ?_ _ | refine blk_drew ?_ | refine blk_alloc ?_ _)); refine blk_put (cs := #[.int .i64 0, .int .i64 0]) ?_ 0 _ rfl; (with_reducible repeat (first | refine blk_drewN ?_ _ | refine blk_drew ?_ | refine blk_alloc ?_ _)); exact BK107.out⟩, ⟨by repeat (first | (with_reducible first | exact HB.out | apply below_alloc | apply pw_below_drewN | apply below_drew1 | refine below_set ?_ GE101.out | refine below_set ?_ GE107.out) | exact HB.out)⟩⟩
          rw [if_pos c30] at H
          have c30b0 : (((rd_Face (rd_LFace l0_0 x4_2) x5_3).f0) == (-1)) = true := beq_iff_eq.mpr c30
          have c30b1 : (((rd_Face (rd_LFace l0_0 x4_2) x5_3).f0) != (-1)) = false := bne_eq_false_iff_eq.mpr c30
          clear c30
          (first | rw [c30b0] | (simp only [i64_w, i32_w]; rw [c30b0]) | skip)
          have H' := Aside0.mk H
          clear H
          have hnb31 := NB107_101.out
          have hnc31 := NB101_107.out
          have hcz32_0 : w27.cell? ⟨gb107, 0, none⟩ = some (.int .i64 0) := (blk_cell BK107.out 0).trans rfl
          have hcz32_1 : w27.cell? ⟨gb107, 1, none⟩ = some (.int .i64 0) := (blk_cell BK107.out 1).trans rfl
          have hfz32_0 := blk_frozen BK107.out 0
          have hfz32_1 := blk_frozen BK107.out 1
          go_wp2
          go_meet
          case rel => exact ⟨_, ((((rd_Face (rd_LFace l0_0 x4_2) x5_3).f1) == 0)), (by first | rfl | (simp; done) | (simp [*]; done)), H', ⟨by have := HK1.out; have := HK2.out; have := HK3.out; first | omega | exact yoy _⟩, ⟨by (with_reducible repeat (first | refine blk_drewN ?_ _ | refine blk_drew ?_ | refine blk_alloc ?_ _)); refine blk_far ?_ NB101_107.out _; (with_reducible repeat (first | refine blk_drewN ?_ _ | refine blk_drew ?_ | refine blk_alloc ?_ _)); refine blk_far ?_ NB101_107.out _; (with_reducible repeat (first | refine blk_drewN ?_ _ | refine blk_drew ?_ | refine blk_alloc ?_ _)); exact BK101.out⟩, ⟨by (with_reducible repeat (first | refine blk_drewN ?_ _ | refine blk_drew ?_ | refine blk_alloc ?_ _)); refine blk_put (cs := #[.int .i64 ((rd_Face (rd_LFace l0_0 x4_2) x5_3).f0), .int .i64 0]) ?_ 1 _ rfl; (with_reducible repeat (first | refine blk_drewN ?_ _ | refine blk_drew ?_ | refine blk_alloc ?_ _)); refine blk_put (cs := #[.int .i64 0, .int .i64 0]) ?_ 0 _ rfl; (with_reducible repeat (first | refine blk_drewN ?_ _ | refine blk_drew ?_ | refine blk_alloc ?_ _)); exact BK107.out⟩, ⟨by repeat (first | (with_reducible first | exact HB.out | apply below_alloc | apply pw_below_drewN | apply below_drew1 | refine below_set ?_ GE101.out | refine below_set ?_ GE107.out) | exact HB.out)⟩⟩
         case rest =>
          clear HC25
          try clear c1
          try clear p1
          try clear q1
          try clear hx1
          try clear c2
          try clear p2
          try clear c3
          try clear c3b0
          try clear c5
          try clear c6
          try clear p6
          try clear c10
          try clear c10b0
          try clear p10
          try clear q10
          try clear hx10
          try clear c11
          try clear c11b0
          try clear c12
          try clear c12b0
          try clear c12b1
          try clear c17
          try clear c17b0
          try clear c20
          try clear c20b0
          try clear c21
          try clear c21b0
          try clear c22
          try clear c22b0
          try clear c23
          try clear c23b0
          try clear c24
          try clear c24b0
          try clear c28
          try clear c30
          try clear c30b0
          try clear c30b1
          try clear c31
          try clear c33
          try clear hcz13_0
          try clear hcz14_0
          try clear hcz15_0
          try clear hcz18_0
          try clear hcz26_0
          try clear hcz29_0
          try clear hcz29_1
          try clear hcz32_0
          try clear hcz32_1
          try clear hcz34_0
          try clear hcz34_1
          try clear hcz5_0
          try clear hcz8_0
          try clear hfz13_0
          try clear hfz14_0
          try clear hfz15_0
          try clear hfz18_0
          try clear hfz26_0
          try clear hfz29_0
          try clear hfz29_1
          try clear hfz32_0
          try clear hfz32_1
          try clear hfz34_0
          try clear hfz34_1
          try clear hfz5_0
          try clear hfz8_0
          try clear hx103_0
          try clear hx105_0
          try clear hx106_0
          try clear hx106_1
          try clear p1
          try clear p10
          try clear p103
          try clear p105
          try clear p106
          try clear p2
          try clear p6
          try clear q1
          try clear q10
          try clear q103
          try clear q105
          try clear q106
          obtain ⟨kq, x51_24, rfl, HA, HJ24, BK101, BK107, HB⟩ := hcut
          cases kq with
          | zero => exact absurd HA.out (by simp [spec_IsTriangulation.j3])
          | succ kj24 =>
           have H := HA.out
           clear HA
           simp only [spec_IsTriangulation.j3] at H
           by_cases c35 : x51_24 = true
           next =>
            subst c35
            have H1 : (spec_IsTriangulation.l2 kj24 x4_2 (wrap64 (x5_3 + 1)) l0_0) = some r := by rw [if_pos rfl] at H; exact H
            clear H
            have H := H1
            clear H1
            have H' := Aside0.mk H
            clear H
            go_wp2
            go_roundg kj24
            case measure => have := HK1.out; have := HK2.out; have := HK3.out; have := HJ24.out; omega
            case rel => exact ⟨(wrap64 (x5_3 + 1)), (by first | rfl | (simp; done) | (simp [*]; done)), H', ⟨by have := HK1.out; have := HK2.out; have := HK3.out; have := HJ24.out; omega⟩, ⟨by (with_reducible repeat (first | refine blk_drewN ?_ _ | refine blk_drew ?_ | refine blk_alloc ?_ _)); exact BK101.out⟩, ⟨by repeat (first | (with_reducible first | exact HB.out | apply below_alloc | apply pw_below_drewN | apply below_drew1 | refine below_set ?_ GE101.out | refine below_set ?_ GE107.out) | exact HB.out)⟩⟩
           next =>
            replace c35 := Bool.eq_false_iff.mpr c35
            subst c35
            have H1 : ((spec_l07Tets.f l0_0).bind fun t108 => ((spec_l07In.f ((rd_Face (rd_LFace l0_0 x4_2) x5_3).f0) 0 (wrap64 (t108 - 1))).bind fun t109 => (if t109 = true then ((spec_l06Valid.f ((rd_Face (rd_LFace l0_0 x4_2) x5_3).f1)).bind fun t110 => (spec_IsTriangulation.j4 kj24 x4_2 x5_3 (!t110) l0_0 ((rd_Face (rd_LFace l0_0 x4_2) x5_3).f0) ((rd_Face (rd_LFace l0_0 x4_2) x5_3).f1))) else (spec_IsTriangulation.j4 kj24 x4_2 x5_3 true l0_0 ((rd_Face (rd_LFace l0_0 x4_2) x5_3).f0) ((rd_Face (rd_LFace l0_0 x4_2) x5_3).f1))))) = some r := by rw [if_neg (show ¬ (false = true) by decide)] at H; exact H
            clear H
            have H := H1
            clear H1
            have HC36 := Aside0.mk H
            clear H
            go_upto_region 16 with (fail)
            go_cut [64] (fun v64 wc => ∃ (kq : Nat) (x64_35 : Bool), v64 = .bool x64_35 ∧ Aside0 (spec_IsTriangulation.j4 kq x4_2 x5_3 x64_35 l0_0 ((rd_Face (rd_LFace l0_0 x4_2) x5_3).f0) ((rd_Face (rd_LFace l0_0 x4_2) x5_3).f1) = some r) ∧ Aside0 (kq ≤ kj24) ∧ Aside0 (wc.heap[gb101]? = some (.cells #[(.slice (some ad105) l0_0.length c0_0)] 28 (0, 0))) ∧ Aside0 (wc.heap[gb107]? = some (.cells #[.int .i64 ((rd_Face (rd_LFace l0_0 x4_2) x5_3).f0), .int .i64 ((rd_Face (rd_LFace l0_0 x4_2) x5_3).f1)] 74 (0, 0))) ∧ Aside0 (Below w.heap.size w wc))
            case first =>
             have H := HC36.out
             clear HC36
             replace H := ydy.mp H
             obtain ⟨t108, A370, H⟩ := H
             replace H : ((spec_l07In.f ((rd_Face (rd_LFace l0_0 x4_2) x5_3).f0) 0 (wrap64 (t108 - 1))).bind fun t109 => (if t109 = true then ((spec_l06Valid.f ((rd_Face (rd_LFace l0_0 x4_2) x5_3).f1)).bind fun t110 => (spec_IsTriangulation.j4 kj24 x4_2 x5_3 (!t110) l0_0 ((rd_Face (rd_LFace l0_0 x4_2) x5_3).f0) ((rd_Face (rd_LFace l0_0 x4_2) x5_3).f1))) else (spec_IsTriangulation.j4 kj24 x4_2 x5_3 true l0_0 ((rd_Face (rd_LFace l0_0 x4_2) x5_3).f0) ((rd_Face (rd_LFace l0_0 x4_2) x5_3).f1)))) = some r := H
             have A37 := Aside0.mk A370
             clear A370
             replace H := ydy.mp H
             obtain ⟨t109, A380, H⟩ := H
             replace H : (if t109 = true then ((spec_l06Valid.f ((rd_Face (rd_LFace l0_0 x4_2) x5_3).f1)).bind fun t110 => (spec_IsTriangulation.j4 kj24 x4_2 x5_3 (!t110) l0_0 ((rd_Face (rd_LFace l0_0 x4_2) x5_3).f0) ((rd_Face (rd_LFace l0_0 x4_2) x5_3).f1))) else (spec_IsTriangulation.j4 kj24 x4_2 x5_3 true l0_0 ((rd_Face (rd_LFace l0_0 x4_2) x5_3).f0) ((rd_Face (rd_LFace l0_0 x4_2) x5_3).f1))) = some r := H
             have A38 := Aside0.mk A380
             clear A380
             by_cases c39 : t109 = true
             rotate_left
             next =>
              replace c39 := Bool.eq_false_iff.mpr c39
              subst c39
              have H1 : (spec_IsTriangulation.j4 kj24 x4_2 x5_3 true l0_0 ((rd_Face (rd_LFace l0_0 x4_2) x5_3).f0) ((rd_Face (rd_LFace l0_0 x4_2) x5_3).f1)) = some r := by rw [if_neg (show ¬ (false = true) by decide)] at H; exact H
              clear H
              have H := H1
              clear H1
              have H' := Aside0.mk H
              clear H
              try go_wp2
              have n0_ := Aside0.mk (blk_drew BK101.out)
              have n1_ := Aside0.mk (blk_drew BK107.out)
              have n2_ := Aside0.mk (below_drew1 HB.out)
              clear BK101
              clear BK107
              clear HB
              have BK101 := n0_
              have BK107 := n1_
              have HB := n2_
              clear n0_ n1_ n2_
              refine start_ (n := 13) (S := fun w' => w'.cell? ⟨gb107, 0, none⟩ = some (.int .i64 ((rd_Face (rd_LFace l0_0 x4_2) x5_3).f0)) ∧ w'.cell? ⟨gb107, 1, none⟩ = some (.int .i64 ((rd_Face (rd_LFace l0_0 x4_2) x5_3).f1)) ∧ w'.cell? ⟨gb101, 0, none⟩ = some (.slice (some ad105) l0_0.length c0_0)) (ds := []) #[false, false, false, false, false, false, false, false, false, false, false, false, false] (by kernel_rfl) rfl rfl ⟨(blk_cell BK107.out 0).trans rfl, (blk_cell BK107.out 1).trans rfl, (blk_cell BK101.out 0).trans rfl⟩ (fun hHeld => ?_); refine with_tabW spec_IsTriangulation.tab16 spec_IsTriangulation.bits16 (fun HT_ HW_ => ?_)
              generalize wc.drew = w43 at BK101 BK107 HB hHeld ⊢
              refine pure_ (i := 0) (N := some 52) (v := ?_) (a' := ?_) #[true, false, false, false, false, false, false, false, false, false, false, false, false] rfl rfl (any_of HT_.out (by kernel_rfl)) (fun _ _ _ h => h) (Or.inl ⟨by rfl, ?_⟩) ?_ ?_
              rotate_left
              next =>
               intro w'
               go_simp
               with_reducible rfl
              rotate_left
              next =>
               simp only [Act.put, yay, yby, ycy, i64_w, i32_w]
               rfl
              refine take_ (i := 1) (N := some 53) (v := ?_) (a' := ?_) #[true, true, false, false, false, false, false, false, false, false, false, false, false] rfl rfl (take_ofW HT_.out HW_.out (by kernel_rfl)) (fun _ _ _ h => h) (Or.inl ⟨by rfl, ?_⟩) hHeld ?_ ?_
              rotate_left
              next =>
               rintro w' ⟨s0, s1, s2⟩
               go_simp
               with_reducible rfl
              rotate_left
              next =>
               simp only [Act.put, yay, yby, ycy, i64_w, i32_w]
               rfl
              refine take_ (i := 2) (N := some 54) (v := ?_) (a' := ?_) #[true, true, true, false, false, false, false, false, false, false, false, false, false] rfl rfl (take_ofW HT_.out HW_.out (by kernel_rfl)) (fun _ _ _ h => h) (Or.inl ⟨by rfl, ?_⟩) hHeld ?_ ?_
              rotate_left
              next =>
               rintro w' ⟨s0, s1, s2⟩
               go_simp
               with_reducible rfl
              rotate_left
              next =>
               simp only [Act.put, yay, yby, ycy, i64_w, i32_w]
               rfl
              refine one_ (i := 3) (N := some 55) #[true, true, true, true, false, false, false, false, false, false, false, false, false] rfl rfl (one_of HT_.out (by kernel_rfl)) (by decide) (fun K hK => ?_)
              refine goes_ Try.func65 (by kernel_rfl) rfl #[.agg #[.slice (some ad105) l0_0.length c0_0]] (by rfl) rfl rfl (by (try simp only [yiy, yjy, yky]); first | done | rfl | (simp only [yly, ymy]; rfl)) ?_
              with_reducible refine (spec_l07Tets.calls _ _ l0_0 t108 _ ?side1 ?side2 A37.out).mono ?_
              (case side1 => repeat (first | exact (Kd.C_below HR0_0.out HB.out) | (with_reducible refine Kd.C_alloc ?_ _) | (with_reducible refine Kd.C_drewN ?_ _) | (with_reducible refine Kd.C_drew ?_)))
              (case side2 => exact HC0_0.out)
              rintro e w44 ⟨rfl, hb⟩
              refine ⟨_, rfl, ?_⟩
              have n0_ := Aside0.mk (blk_below (g := gb101) (o := .cells #[.slice (some ad105) l0_0.length c0_0] 28 (0, 0)) (by (with_reducible repeat (first | refine blk_drewN ?_ _ | refine blk_drew ?_ | refine blk_alloc ?_ _)); exact BK101.out) hb)
              have n1_ := Aside0.mk (blk_below (g := gb107) (o := .cells #[.int .i64 ((rd_Face (rd_LFace l0_0 x4_2) x5_3).f0), .int .i64 ((rd_Face (rd_LFace l0_0 x4_2) x5_3).f1)] 74 (0, 0)) (by (with_reducible repeat (first | refine blk_drewN ?_ _ | refine blk_drew ?_ | refine blk_alloc ?_ _)); exact BK107.out) hb)
              have n2_ := Aside0.mk (below_step (by repeat (first | (with_reducible first | exact HB.out | apply below_alloc | apply pw_below_drewN | apply below_drew1 | refine below_set ?_ GE101.out | refine below_set ?_ GE107.out) | exact HB.out)) hb)
              clear BK101
              clear BK107
              clear HB
              have BK101 := n0_
              have BK107 := n1_
              have HB := n2_
              clear n0_ n1_ n2_
              (try clear hb)
              (try clear hb2)
              (try clear hk)
              (try clear hi)
              refine hK.out _ _ ⟨(blk_cell BK107.out 0).trans rfl, (blk_cell BK107.out 1).trans rfl, (blk_cell BK101.out 0).trans rfl⟩ (fun hHeld => ?_)
              clear hK K
              refine norm_ (a' := ?_) ?_ ?_
              rotate_left
              next =>
               show Act.put _ (some 55) _ = _
               simp only [Act.put, yay, yby, ycy, i64_w, i32_w]
               rfl
              refine pure_ (i := 4) (N := some 56) (v := ?_) (a' := ?_) #[true, true, true, true, true, false, false, false, false, false, false, false, false] rfl rfl (any_of HT_.out (by kernel_rfl)) (fun _ _ _ h => h) (Or.inl ⟨by rfl, ?_⟩) ?_ ?_
              rotate_left
              next =>
               intro w'
               go_simp
               with_reducible rfl
              rotate_left
              next =>
               simp only [Act.put, yay, yby, ycy, i64_w, i32_w]
               rfl
              refine one_ (i := 5) (N := some 57) #[true, true, true, true, true, true, false, false, false, false, false, false, false] rfl rfl (one_of HT_.out (by kernel_rfl)) (by decide) (fun K hK => ?_)
              refine goes_ Try.func66 (by kernel_rfl) rfl #[.int .i64 ((rd_Face (rd_LFace l0_0 x4_2) x5_3).f0), .int .i64 0, .int .i64 (wrap64 (t108 - 1))] (by rfl) rfl rfl (by (try simp only [yiy, yjy, yky]); first | done | rfl | (simp only [yly, ymy]; rfl)) ?_
              with_reducible refine (spec_l07In.calls ((rd_Face (rd_LFace l0_0 x4_2) x5_3).f0) 0 (wrap64 (t108 - 1)) false _ A38.out).mono ?_
              rintro e w' ⟨rfl, ⟨nd, rfl⟩⟩
              refine ⟨_, rfl, ?_⟩
              refine hK.out _ _ ⟨(blk_cell BK107.out 0).trans rfl, (blk_cell BK107.out 1).trans rfl, (blk_cell BK101.out 0).trans rfl⟩ (fun hHeld => ?_)
              clear hK K
              refine norm_ (a' := ?_) ?_ ?_
              rotate_left
              next =>
               show Act.put _ (some 57) _ = _
               simp only [Act.put, yay, yby, ycy, i64_w, i32_w]
               rfl
              refine pure_ (i := 6) (N := some 58) (v := ?_) (a' := ?_) #[true, true, true, true, true, true, true, false, false, false, false, false, false] rfl rfl (any_of HT_.out (by kernel_rfl)) (fun _ _ _ h => h) (Or.inl ⟨by rfl, ?_⟩) ?_ ?_
              rotate_left
              next =>
               intro w'
               go_simp
               with_reducible rfl
              rotate_left
              next =>
               simp only [Act.put, yay, yby, ycy, i64_w, i32_w]
               rfl
              refine pure_ (i := 7) (N := some 59) (v := ?_) (a' := ?_) #[true, true, true, true, true, true, true, true, false, false, false, false, false] rfl rfl (any_of HT_.out (by kernel_rfl)) (fun _ _ _ h => h) (Or.inl ⟨by rfl, ?_⟩) ?_ ?_
              rotate_left
              next =>
               intro w'
               go_simp
               with_reducible rfl
              rotate_left
              next =>
               simp only [Act.put, yay, yby, ycy, i64_w, i32_w]
               rfl
              refine pure_ (i := 8) (N := some 60) (v := undef) (a' := ?_) #[true, true, true, true, true, true, true, true, true, false, false, false, false] rfl rfl (any_of HT_.out (by kernel_rfl)) (fun _ _ _ h => h) (Or.inr ⟨by rfl, rfl⟩) ?_ ?_
              rotate_left
              next =>
               simp only [Act.put, yay, yby, ycy, i64_w, i32_w]
               rfl
              refine pure_ (i := 9) (N := some 61) (v := undef) (a' := ?_) #[true, true, true, true, true, true, true, true, true, true, false, false, false] rfl rfl (any_of HT_.out (by kernel_rfl)) (fun _ _ _ h => h) (Or.inr ⟨by rfl, rfl⟩) ?_ ?_
              rotate_left
              next =>
               simp only [Act.put, yay, yby, ycy, i64_w, i32_w]
               rfl
              refine pure_ (i := 10) (N := some 62) (v := undef) (a' := ?_) #[true, true, true, true, true, true, true, true, true, true, true, false, false] rfl rfl (any_of HT_.out (by kernel_rfl)) (fun _ _ _ h => h) (Or.inr ⟨by rfl, rfl⟩) ?_ ?_
              rotate_left
              next =>
               simp only [Act.put, yay, yby, ycy, i64_w, i32_w]
               rfl
              refine pure_ (i := 11) (N := some 63) (v := undef) (a' := ?_) #[true, true, true, true, true, true, true, true, true, true, true, true, false] rfl rfl (any_of HT_.out (by kernel_rfl)) (fun _ _ _ h => h) (Or.inr ⟨by rfl, rfl⟩) ?_ ?_
              rotate_left
              next =>
               simp only [Act.put, yay, yby, ycy, i64_w, i32_w]
               rfl
              refine pure_ (i := 12) (N := some 64) (v := ?_) (a' := ?_) #[true, true, true, true, true, true, true, true, true, true, true, true, true] rfl rfl (any_of HT_.out (by kernel_rfl)) (fun _ _ _ h => h) (Or.inl ⟨by rfl, ?_⟩) ?_ ?_
              rotate_left
              next =>
               intro w'
               go_simp
               with_reducible rfl
              rotate_left
              next =>
               simp only [Act.put, yay, yby, ycy, i64_w, i32_w]
               rfl
              refine done_ (done_of HT_.out (by kernel_rfl)) ?_
              try go_wp2
              go_meet
              case rel => exact ⟨_, (true), (by first | rfl | (simp; done) | (simp [*]; done)), H', ⟨by have := HK1.out; have := HK2.out; have := HK3.out; have := HJ24.out; first | omega | exact yoy _⟩, ⟨by (with_reducible repeat (first | refine blk_drewN ?_ _ | refine blk_drew ?_ | refine blk_alloc ?_ _)); exact BK101.out⟩, ⟨by (with_reducible repeat (first | refine blk_drewN ?_ _ | refine blk_drew ?_ | refine blk_alloc ?_ _)); exact BK107.out⟩, ⟨by repeat (first | (with_reducible first | exact HB.out | apply below_alloc | apply pw_below_drewN | apply below_drew1 | refine below_set ?_ GE101.out | refine below_set ?_ GE107.out) | exact HB.out)⟩⟩
             subst c39
             have H1 : ((spec_l06Valid.f ((rd_Face (rd_LFace l0_0 x4_2) x5_3).f1)).bind fun t110 => (spec_IsTriangulation.j4 kj24 x4_2 x5_3 (!t110) l0_0 ((rd_Face (rd_LFace l0_0 x4_2) x5_3).f0) ((rd_Face (rd_LFace l0_0 x4_2) x5_3).f1))) = some r := by rw [if_pos rfl] at H; exact H
             clear H
             have H := H1
             clear H1
             replace H := ydy.mp H
             obtain ⟨t110, A400, H⟩ := H
             replace H : (spec_IsTriangulation.j4 kj24 x4_2 x5_3 (!t110) l0_0 ((rd_Face (rd_LFace l0_0 x4_2) x5_3).f0) ((rd_Face (rd_LFace l0_0 x4_2) x5_3).f1)) = some r := H
             have A40 := Aside0.mk A400
             clear A400
             have H' := Aside0.mk H
             clear H
             try go_wp2
             have n0_ := Aside0.mk (blk_drew BK101.out)
             have n1_ := Aside0.mk (blk_drew BK107.out)
             have n2_ := Aside0.mk (below_drew1 HB.out)
             clear BK101
             clear BK107
             clear HB
             have BK101 := n0_
             have BK107 := n1_
             have HB := n2_
             clear n0_ n1_ n2_
             refine start_ (n := 13) (S := fun w' => w'.cell? ⟨gb107, 0, none⟩ = some (.int .i64 ((rd_Face (rd_LFace l0_0 x4_2) x5_3).f0)) ∧ w'.cell? ⟨gb107, 1, none⟩ = some (.int .i64 ((rd_Face (rd_LFace l0_0 x4_2) x5_3).f1)) ∧ w'.cell? ⟨gb101, 0, none⟩ = some (.slice (some ad105) l0_0.length c0_0)) (ds := []) #[false, false, false, false, false, false, false, false, false, false, false, false, false] (by kernel_rfl) rfl rfl ⟨(blk_cell BK107.out 0).trans rfl, (blk_cell BK107.out 1).trans rfl, (blk_cell BK101.out 0).trans rfl⟩ (fun hHeld => ?_); refine with_tabW spec_IsTriangulation.tab16 spec_IsTriangulation.bits16 (fun HT_ HW_ => ?_)
             generalize wc.drew = w41 at BK101 BK107 HB hHeld ⊢
             refine pure_ (i := 0) (N := some 52) (v := ?_) (a' := ?_) #[true, false, false, false, false, false, false, false, false, false, false, false, false] rfl rfl (any_of HT_.out (by kernel_rfl)) (fun _ _ _ h => h) (Or.inl ⟨by rfl, ?_⟩) ?_ ?_
             rotate_left
             next =>
              intro w'
              go_simp
              with_reducible rfl
             rotate_left
             next =>
              simp only [Act.put, yay, yby, ycy, i64_w, i32_w]
              rfl
             refine take_ (i := 1) (N := some 53) (v := ?_) (a' := ?_) #[true, true, false, false, false, false, false, false, false, false, false, false, false] rfl rfl (take_ofW HT_.out HW_.out (by kernel_rfl)) (fun _ _ _ h => h) (Or.inl ⟨by rfl, ?_⟩) hHeld ?_ ?_
             rotate_left
             next =>
              rintro w' ⟨s0, s1, s2⟩
              go_simp
              with_reducible rfl
             rotate_left
             next =>
              simp only [Act.put, yay, yby, ycy, i64_w, i32_w]
              rfl
             refine take_ (i := 2) (N := some 54) (v := ?_) (a' := ?_) #[true, true, true, false, false, false, false, false, false, false, false, false, false] rfl rfl (take_ofW HT_.out HW_.out (by kernel_rfl)) (fun _ _ _ h => h) (Or.inl ⟨by rfl, ?_⟩) hHeld ?_ ?_
             rotate_left
             next =>
              rintro w' ⟨s0, s1, s2⟩
              go_simp
              with_reducible rfl
             rotate_left
             next =>
              simp only [Act.put, yay, yby, ycy, i64_w, i32_w]
              rfl
             refine one_ (i := 3) (N := some 55) #[true, true, true, true, false, false, false, false, false, false, false, false, false] rfl rfl (one_of HT_.out (by kernel_rfl)) (by decide) (fun K hK => ?_)
             refine goes_ Try.func65 (by kernel_rfl) rfl #[.agg #[.slice (some ad105) l0_0.length c0_0]] (by rfl) rfl rfl (by (try simp only [yiy, yjy, yky]); first | done | rfl | (simp only [yly, ymy]; rfl)) ?_
             with_reducible refine (spec_l07Tets.calls _ _ l0_0 t108 _ ?side1 ?side2 A37.out).mono ?_
             (case side1 => repeat (first | exact (Kd.C_below HR0_0.out HB.out) | (with_reducible refine Kd.C_alloc ?_ _) | (with_reducible refine Kd.C_drewN ?_ _) | (with_reducible refine Kd.C_drew ?_)))
             (case side2 => exact HC0_0.out)
             rintro e w42 ⟨rfl, hb⟩
             refine ⟨_, rfl, ?_⟩
             have n0_ := Aside0.mk (blk_below (g := gb101) (o := .cells #[.slice (some ad105) l0_0.length c0_0] 28 (0, 0)) (by (with_reducible repeat (first | refine blk_drewN ?_ _ | refine blk_drew ?_ | refine blk_alloc ?_ _)); exact BK101.out) hb)
             have n1_ := Aside0.mk (blk_below (g := gb107) (o := .cells #[.int .i64 ((rd_Face (rd_LFace l0_0 x4_2) x5_3).f0), .int .i64 ((rd_Face (rd_LFace l0_0 x4_2) x5_3).f1)] 74 (0, 0)) (by (with_reducible repeat (first | refine blk_drewN ?_ _ | refine blk_drew ?_ | refine blk_alloc ?_ _)); exact BK107.out) hb)
             have n2_ := Aside0.mk (below_step (by repeat (first | (with_reducible first | exact HB.out | apply below_alloc | apply pw_below_drewN | apply below_drew1 | refine below_set ?_ GE101.out | refine below_set ?_ GE107.out) | exact HB.out)) hb)
             clear BK101
             clear BK107
             clear HB
             have BK101 := n0_
             have BK107 := n1_
             have HB := n2_
             clear n0_ n1_ n2_
             (try clear hb)
             (try clear hb2)
             (try clear hk)
             (try clear hi)
             refine hK.out _ _ ⟨(blk_cell BK107.out 0).trans rfl, (blk_cell BK107.out 1).trans rfl, (blk_cell BK101.out 0).trans rfl⟩ (fun hHeld => ?_)
             clear hK K
             refine norm_ (a' := ?_) ?_ ?_
             rotate_left
             next =>
              show Act.put _ (some 55) _ = _
              simp only [Act.put, yay, yby, ycy, i64_w, i32_w]
              rfl
             refine pure_ (i := 4) (N := some 56) (v := ?_) (a' := ?_) #[true, true, true, true, true, false, false, false, false, false, false, false, false] rfl rfl (any_of HT_.out (by kernel_rfl)) (fun _ _ _ h => h) (Or.inl ⟨by rfl, ?_⟩) ?_ ?_
             rotate_left
             next =>
              intro w'
              go_simp
              with_reducible rfl
             rotate_left
             next =>
              simp only [Act.put, yay, yby, ycy, i64_w, i32_w]
              rfl
             refine one_ (i := 5) (N := some 57) #[true, true, true, true, true, true, false, false, false, false, false, false, false] rfl rfl (one_of HT_.out (by kernel_rfl)) (by decide) (fun K hK => ?_)
             refine goes_ Try.func66 (by kernel_rfl) rfl #[.int .i64 ((rd_Face (rd_LFace l0_0 x4_2) x5_3).f0), .int .i64 0, .int .i64 (wrap64 (t108 - 1))] (by rfl) rfl rfl (by (try simp only [yiy, yjy, yky]); first | done | rfl | (simp only [yly, ymy]; rfl)) ?_
             with_reducible refine (spec_l07In.calls ((rd_Face (rd_LFace l0_0 x4_2) x5_3).f0) 0 (wrap64 (t108 - 1)) true _ A38.out).mono ?_
             rintro e w' ⟨rfl, ⟨nd, rfl⟩⟩
             refine ⟨_, rfl, ?_⟩
             refine hK.out _ _ ⟨(blk_cell BK107.out 0).trans rfl, (blk_cell BK107.out 1).trans rfl, (blk_cell BK101.out 0).trans rfl⟩ (fun hHeld => ?_)
             clear hK K
             refine norm_ (a' := ?_) ?_ ?_
             rotate_left
             next =>
              show Act.put _ (some 57) _ = _
              simp only [Act.put, yay, yby, ycy, i64_w, i32_w]
              rfl
             refine pure_ (i := 6) (N := some 58) (v := ?_) (a' := ?_) #[true, true, true, true, true, true, true, false, false, false, false, false, false] rfl rfl (any_of HT_.out (by kernel_rfl)) (fun _ _ _ h => h) (Or.inl ⟨by rfl, ?_⟩) ?_ ?_
             rotate_left
             next =>
              intro w'
              go_simp
              with_reducible rfl
             rotate_left
             next =>
              simp only [Act.put, yay, yby, ycy, i64_w, i32_w]
              rfl
             refine pure_ (i := 7) (N := some 59) (v := ?_) (a' := ?_) #[true, true, true, true, true, true, true, true, false, false, false, false, false] rfl rfl (any_of HT_.out (by kernel_rfl)) (fun _ _ _ h => h) (Or.inl ⟨by rfl, ?_⟩) ?_ ?_
             rotate_left
             next =>
              intro w'
              go_simp
              with_reducible rfl
             rotate_left
             next =>
              simp only [Act.put, yay, yby, ycy, i64_w, i32_w]
              rfl
             refine pure_ (i := 8) (N := some 60) (v := ?_) (a' := ?_) #[true, true, true, true, true, true, true, true, true, false, false, false, false] rfl rfl (any_of HT_.out (by kernel_rfl)) (fun _ _ _ h => h) (Or.inl ⟨by rfl, ?_⟩) ?_ ?_
             rotate_left
             next =>
              intro w'
              go_simp
              with_reducible rfl
             rotate_left
             next =>
              simp only [Act.put, yay, yby, ycy, i64_w, i32_w]
              rfl
             refine take_ (i := 9) (N := some 61) (v := ?_) (a' := ?_) #[true, true, true, true, true, true, true, true, true, true, false, false, false] rfl rfl (take_ofW HT_.out HW_.out (by kernel_rfl)) (fun _ _ _ h => h) (Or.inl ⟨by rfl, ?_⟩) hHeld ?_ ?_
             rotate_left
             next =>
              rintro w' ⟨s0, s1, s2⟩
              go_simp
              with_reducible rfl
             rotate_left
             next =>
              simp only [Act.put, yay, yby, ycy, i64_w, i32_w]
              rfl
             refine one_ (i := 10) (N := some 62) #[true, true, true, true, true, true, true, true, true, true, true, false, false] rfl rfl (one_of HT_.out (by kernel_rfl)) (by decide) (fun K hK => ?_)
             refine goes_ Try.func67 (by kernel_rfl) rfl #[.int .i64 ((rd_Face (rd_LFace l0_0 x4_2) x5_3).f1)] (by rfl) rfl rfl (by (try simp only [yiy, yjy, yky]); first | done | rfl | (simp only [yly, ymy]; rfl)) ?_
             with_reducible refine (spec_l06Valid.calls ((rd_Face (rd_LFace l0_0 x4_2) x5_3).f1) t110 _ A40.out).mono ?_
             rintro e w' ⟨rfl, ⟨nd, rfl⟩⟩
             refine ⟨_, rfl, ?_⟩
             refine hK.out _ _ ⟨(blk_cell BK107.out 0).trans rfl, (blk_cell BK107.out 1).trans rfl, (blk_cell BK101.out 0).trans rfl⟩ (fun hHeld => ?_)
             clear hK K
             refine norm_ (a' := ?_) ?_ ?_
             rotate_left
             next =>
              show Act.put _ (some 62) _ = _
              simp only [Act.put, yay, yby, ycy, i64_w, i32_w]
              rfl
             refine pure_ (i := 11) (N := some 63) (v := ?_) (a' := ?_) #[true, true, true, true, true, true, true, true, true, true, true, true, false] rfl rfl (any_of HT_.out (by kernel_rfl)) (fun _ _ _ h => h) (Or.inl ⟨by rfl, ?_⟩) ?_ ?_
             rotate_left
             next =>
              intro w'
              go_simp
              with_reducible rfl
             rotate_left
             next =>
              simp only [Act.put, yay, yby, ycy, i64_w, i32_w]
              rfl
             refine pure_ (i := 12) (N := some 64) (v := ?_) (a' := ?_) #[true, true, true, true, true, true, true, true, true, true, true, true, true] rfl rfl (any_of HT_.out (by kernel_rfl)) (fun _ _ _ h => h) (Or.inl ⟨by rfl, ?_⟩) ?_ ?_
             rotate_left
             next =>
              intro w'
              go_simp
              with_reducible rfl
             rotate_left
             next =>
              simp only [Act.put, yay, yby, ycy, i64_w, i32_w]
              rfl
             refine done_ (done_of HT_.out (by kernel_rfl)) ?_
             try go_wp2
             go_meet
             case rel => exact ⟨_, (!t110), (by first | rfl | (simp; done) | (simp [*]; done)), H', ⟨by have := HK1.out; have := HK2.out; have := HK3.out; have := HJ24.out; first | omega | exact yoy _⟩, ⟨by (with_reducible repeat (first | refine blk_drewN ?_ _ | refine blk_drew ?_ | refine blk_alloc ?_ _)); exact BK101.out⟩, ⟨by (with_reducible repeat (first | refine blk_drewN ?_ _ | refine blk_drew ?_ | refine blk_alloc ?_ _)); exact BK107.out⟩, ⟨by repeat (first | (with_reducible first | exact HB.out | apply below_alloc | apply pw_below_drewN | apply below_drew1 | refine below_set ?_ GE101.out | refine below_set ?_ GE107.out) | exact HB.out)⟩⟩
            case rest =>
             clear HC36
             try clear c1
             try clear p1
             try clear q1
             try clear hx1
             try clear c2
             try clear p2
             try clear c3
             try clear c3b0
             try clear c5
             try clear c6
             try clear p6
             try clear c10
             try clear c10b0
             try clear p10
             try clear q10
             try clear hx10
             try clear c11
             try clear c11b0
             try clear c12
             try clear c12b0
             try clear c12b1
             try clear c17
             try clear c17b0
             try clear c20
             try clear c20b0
             try clear c21
             try clear c21b0
             try clear c22
             try clear c22b0
             try clear c23
             try clear c23b0
             try clear c24
             try clear c24b0
             try clear c28
             try clear c30
             try clear c30b0
             try clear c30b1
             try clear c31
             try clear c33
             try clear c35
             try clear c39
             try clear hcz13_0
             try clear hcz14_0
             try clear hcz15_0
             try clear hcz18_0
             try clear hcz26_0
             try clear hcz29_0
             try clear hcz29_1
             try clear hcz32_0
             try clear hcz32_1
             try clear hcz34_0
             try clear hcz34_1
             try clear hcz5_0
             try clear hcz8_0
             try clear hfz13_0
             try clear hfz14_0
             try clear hfz15_0
             try clear hfz18_0
             try clear hfz26_0
             try clear hfz29_0
             try clear hfz29_1
             try clear hfz32_0
             try clear hfz32_1
             try clear hfz34_0
             try clear hfz34_1
             try clear hfz5_0
             try clear hfz8_0
             try clear hx103_0
             try clear hx105_0
             try clear hx106_0
             try clear hx106_1
             try clear p1
             try clear p10
             try clear p103
             try clear p105
             try clear p106
             try clear p2
             try clear p6
             try clear q1
             try clear q10
             try clear q103
             try clear q105
             try clear q106
             obtain ⟨kq, x64_35, rfl, HA, HJ35, BK101, BK107, HB⟩ := hcut
             cases kq with
             | zero => exact absurd HA.out (by simp [spec_IsTriangulation.j4])
             | succ kj35 =>
              have H := HA.out
              clear HA
              simp only [spec_IsTriangulation.j4] at H
              by_cases c45 : x64_35 = true
              next =>
               subst c45
               have H1 : (some false) = some r := by rw [if_pos rfl] at H; exact H
               clear H
               have H := H1
               clear H1
               obtain rfl := yey H
               go_wp2
               go_ret
               exact ⟨by first | rfl | (simp [errW_none, errW_some] <;> rfl) | (simp [*, errW_none, errW_some] <;> rfl), by repeat (first | (with_reducible first | exact HB.out | apply below_alloc | apply pw_below_drewN | apply below_drew1 | refine below_set ?_ GE101.out | refine below_set ?_ GE107.out) | exact HB.out)⟩
              next =>
               replace c45 := Bool.eq_false_iff.mpr c45
               subst c45
               have H1 : ((spec_l06At.f kj35 ((rd_Face (rd_LFace l0_0 x4_2) x5_3).f1) x5_3).bind fun t111 => ((spec_l06Back.f kj35 ((rd_Face (rd_LFace l0_0 x4_2) x5_3).f1)).bind fun t112 => (if 0 ≤ ((rd_Face (rd_LFace l0_0 x4_2) x5_3).f0) then (if ((rd_Face (rd_LFace l0_0 x4_2) x5_3).f0) < (l0_0.length : Int) then (if 0 ≤ t111 then (if t111 < ((rd_LFace l0_0 ((rd_Face (rd_LFace l0_0 x4_2) x5_3).f0)).length : Int) then (if (!(((rd_Face (rd_LFace l0_0 ((rd_Face (rd_LFace l0_0 x4_2) x5_3).f0)) t111).f0) == x4_2) || (!(((rd_Face (rd_LFace l0_0 ((rd_Face (rd_LFace l0_0 x4_2) x5_3).f0)) t111).f1) == t112))) = true then (some false) else (if ((rd_Face (rd_LFace l0_0 x4_2) x5_3).f0) = x4_2 then (if t111 = x5_3 then (some false) else (spec_IsTriangulation.l2 kj35 x4_2 (wrap64 (x5_3 + 1)) l0_0)) else (spec_IsTriangulation.l2 kj35 x4_2 (wrap64 (x5_3 + 1)) l0_0))) else (none)) else (none)) else (none)) else (none)))) = some r := by rw [if_neg (show ¬ (false = true) by decide)] at H; exact H
               clear H
               have H := H1
               clear H1
               replace H := ydy.mp H
               obtain ⟨t111, A460, H⟩ := H
               replace H : ((spec_l06Back.f kj35 ((rd_Face (rd_LFace l0_0 x4_2) x5_3).f1)).bind fun t112 => (if 0 ≤ ((rd_Face (rd_LFace l0_0 x4_2) x5_3).f0) then (if ((rd_Face (rd_LFace l0_0 x4_2) x5_3).f0) < (l0_0.length : Int) then (if 0 ≤ t111 then (if t111 < ((rd_LFace l0_0 ((rd_Face (rd_LFace l0_0 x4_2) x5_3).f0)).length : Int) then (if (!(((rd_Face (rd_LFace l0_0 ((rd_Face (rd_LFace l0_0 x4_2) x5_3).f0)) t111).f0) == x4_2) || (!(((rd_Face (rd_LFace l0_0 ((rd_Face (rd_LFace l0_0 x4_2) x5_3).f0)) t111).f1) == t112))) = true then (some false) else (if ((rd_Face (rd_LFace l0_0 x4_2) x5_3).f0) = x4_2 then (if t111 = x5_3 then (some false) else (spec_IsTriangulation.l2 kj35 x4_2 (wrap64 (x5_3 + 1)) l0_0)) else (spec_IsTriangulation.l2 kj35 x4_2 (wrap64 (x5_3 + 1)) l0_0))) else (none)) else (none)) else (none)) else (none))) = some r := H
               have A46 := Aside0.mk A460
               clear A460
               replace H := ydy.mp H
               obtain ⟨t112, A470, H⟩ := H
               replace H : (if 0 ≤ ((rd_Face (rd_LFace l0_0 x4_2) x5_3).f0) then (if ((rd_Face (rd_LFace l0_0 x4_2) x5_3).f0) < (l0_0.length : Int) then (if 0 ≤ t111 then (if t111 < ((rd_LFace l0_0 ((rd_Face (rd_LFace l0_0 x4_2) x5_3).f0)).length : Int) then (if (!(((rd_Face (rd_LFace l0_0 ((rd_Face (rd_LFace l0_0 x4_2) x5_3).f0)) t111).f0) == x4_2) || (!(((rd_Face (rd_LFace l0_0 ((rd_Face (rd_LFace l0_0 x4_2) x5_3).f0)) t111).f1) == t112))) = true then (some false) else (if ((rd_Face (rd_LFace l0_0 x4_2) x5_3).f0) = x4_2 then (if t111 = x5_3 then (some false) else (spec_IsTriangulation.l2 kj35 x4_2 (wrap64 (x5_3 + 1)) l0_0)) else (spec_IsTriangulation.l2 kj35 x4_2 (wrap64 (x5_3 + 1)) l0_0))) else (none)) else (none)) else (none)) else (none)) = some r := H
               have A47 := Aside0.mk A470
               clear A470
               by_cases c48 : 0 ≤ ((rd_Face (rd_LFace l0_0 x4_2) x5_3).f0)
               rotate_left
               next =>
                rw [if_neg c48] at H
                exact absurd H (by simp)
               rw [if_pos c48] at H
               have c48b0 : decide (0 ≤ ((rd_Face (rd_LFace l0_0 x4_2) x5_3).f0)) = true := ygy c48
               clear c48
               by_cases c49 : ((rd_Face (rd_LFace l0_0 x4_2) x5_3).f0) < (l0_0.length : Int)
               rotate_left
               next =>
                rw [if_neg c49] at H
                exact absurd H (by simp)
               rw [if_pos c49] at H
               have c49b0 : decide (((rd_Face (rd_LFace l0_0 x4_2) x5_3).f0) < (l0_0.length : Int)) = true := ygy c49
               clear c49
               by_cases c50 : 0 ≤ t111
               rotate_left
               next =>
                rw [if_neg c50] at H
                exact absurd H (by simp)
               rw [if_pos c50] at H
               have c50b0 : decide (0 ≤ t111) = true := ygy c50
               clear c50
               by_cases c51 : t111 < ((rd_LFace l0_0 ((rd_Face (rd_LFace l0_0 x4_2) x5_3).f0)).length : Int)
               rotate_left
               next =>
                rw [if_neg c51] at H
                exact absurd H (by simp)
               rw [if_pos c51] at H
               have c51b0 : decide (t111 < ((rd_LFace l0_0 ((rd_Face (rd_LFace l0_0 x4_2) x5_3).f0)).length : Int)) = true := ygy c51
               clear c51
               by_cases c52 : (!(((rd_Face (rd_LFace l0_0 ((rd_Face (rd_LFace l0_0 x4_2) x5_3).f0)) t111).f0) == x4_2) || (!(((rd_Face (rd_LFace l0_0 ((rd_Face (rd_LFace l0_0 x4_2) x5_3).f0)) t111).f1) == t112))) = true
               next =>
                rw [if_pos c52] at H
                have c52b0 : (!(((rd_Face (rd_LFace l0_0 ((rd_Face (rd_LFace l0_0 x4_2) x5_3).f0)) t111).f0) == x4_2) || (!(((rd_Face (rd_LFace l0_0 ((rd_Face (rd_LFace l0_0 x4_2) x5_3).f0)) t111).f1) == t112))) = true := c52
                clear c52
                obtain rfl := yey H
                have hnb53 := NB107_101.out
                have hnc53 := NB101_107.out
                have hcz54_0 : wc.cell? ⟨gb107, 0, none⟩ = some (.int .i64 ((rd_Face (rd_LFace l0_0 x4_2) x5_3).f0)) := (blk_cell BK107.out 0).trans rfl
                have hcz54_1 : wc.cell? ⟨gb107, 1, none⟩ = some (.int .i64 ((rd_Face (rd_LFace l0_0 x4_2) x5_3).f1)) := (blk_cell BK107.out 1).trans rfl
                have hfz54_0 := blk_frozen BK107.out 0
                have hfz54_1 := blk_frozen BK107.out 1
                try go_wp2_with (first | ((with_reducible refine gate_callee (f := 68) rfl ?_); refine goesL_ (some 68) rfl rfl Try.func68 (by kernel_rfl) rfl #[.int .i64 ((rd_Face (rd_LFace l0_0 x4_2) x5_3).f1), .int .i64 x5_3] rfl (by (try simp only [yiy, yjy, yky]); first | done | rfl | (simp only [yly, ymy]; rfl)) ?_; (with_reducible refine (spec_l06At.calls kj35 ((rd_Face (rd_LFace l0_0 x4_2) x5_3).f1) x5_3 t111 _ A46.out).mono ?_); rintro e w55 ⟨rfl, hb⟩; refine ⟨_, rfl, ?_⟩; have n0_ := Aside0.mk (blk_below (g := gb101) (o := .cells #[.slice (some ad105) l0_0.length c0_0] 28 (0, 0)) (by (with_reducible repeat (first | refine blk_drewN ?_ _ | refine blk_drew ?_ | refine blk_alloc ?_ _)); exact BK101.out) hb); have n1_ := Aside0.mk (blk_below (g := gb107) (o := .cells #[.int .i64 ((rd_Face (rd_LFace l0_0 x4_2) x5_3).f0), .int .i64 ((rd_Face (rd_LFace l0_0 x4_2) x5_3).f1)] 74 (0, 0)) (by (with_reducible repeat (first | refine blk_drewN ?_ _ | refine blk_drew ?_ | refine blk_alloc ?_ _)); exact BK107.out) hb); have n2_ := Aside0.mk (below_step (by repeat (first | (with_reducible first | exact HB.out | apply below_alloc | apply pw_below_drewN | apply below_drew1 | refine below_set ?_ GE101.out | refine below_set ?_ GE107.out) | exact HB.out)) hb); clear BK101; clear BK107; clear HB; have BK101 := n0_; have BK107 := n1_; have HB := n2_; clear n0_ n1_ n2_; (try clear hb); (try clear hb2); (try clear hk); (try clear hi); have hcz56_0 : w55.cell? ⟨gb107, 0, none⟩ = some (.int .i64 ((rd_Face (rd_LFace l0_0 x4_2) x5_3).f0)) := (blk_cell BK107.out 0).trans rfl; have hcz56_1 : w55.cell? ⟨gb107, 1, none⟩ = some (.int .i64 ((rd_Face (rd_LFace l0_0 x4_2) x5_3).f1)) := (blk_cell BK107.out 1).trans rfl; have hfz56_0 := blk_frozen BK107.out 0; have hfz56_1 := blk_frozen BK107.out 1) | ((with_reducible refine gate_callee (f := 113) rfl ?_); refine goesL_ (some 72) rfl rfl Try.func113 (by kernel_rfl) rfl #[.int .i64 ((rd_Face (rd_LFace l0_0 x4_2) x5_3).f1)] rfl (by (try simp only [yiy, yjy, yky]); first | done | rfl | (simp only [yly, ymy]; rfl)) ?_; (with_reducible refine (spec_l06Back.calls kj35 ((rd_Face (rd_LFace l0_0 x4_2) x5_3).f1) t112 _ A47.out).mono ?_); rintro e w57 ⟨rfl, hb⟩; refine ⟨_, rfl, ?_⟩; have n0_ := Aside0.mk (blk_below (g := gb101) (o := .cells #[.slice (some ad105) l0_0.length c0_0] 28 (0, 0)) (by (with_reducible repeat (first | refine blk_drewN ?_ _ | refine blk_drew ?_ | refine blk_alloc ?_ _)); exact BK101.out) hb); have n1_ := Aside0.mk (blk_below (g := gb107) (o := .cells #[.int .i64 ((rd_Face (rd_LFace l0_0 x4_2) x5_3).f0), .int .i64 ((rd_Face (rd_LFace l0_0 x4_2) x5_3).f1)] 74 (0, 0)) (by (with_reducible repeat (first | refine blk_drewN ?_ _ | refine blk_drew ?_ | refine blk_alloc ?_ _)); exact BK107.out) hb); have n2_ := Aside0.mk (below_step (by repeat (first | (with_reducible first | exact HB.out | apply below_alloc | apply pw_below_drewN | apply below_drew1 | refine below_set ?_ GE101.out | refine below_set ?_ GE107.out) | exact HB.out)) hb); clear BK101; clear BK107; clear HB; have BK101 := n0_; have BK107 := n1_; have HB := n2_; clear n0_ n1_ n2_; (try clear hb); (try clear hb2); (try clear hk); (try clear hi)) | ((with_reducible refine gate_dst (N := 8) rfl ?_); refine box_event ?hg (N := 8) ?hd (cs := #[.int .i64 0, .int .i64 0]) (t := 74) ?hr ?_; (case hd => rfl); (case hg => rfl); (case hr => first | (go_simp; done) | (go_simp; rfl)); intro gb113 hg w58 hbox hb; have n0_ := Aside0.mk (blk_below (g := gb101) (o := .cells #[.slice (some ad105) l0_0.length c0_0] 28 (0, 0)) (by (with_reducible repeat (first | refine blk_drewN ?_ _ | refine blk_drew ?_ | refine blk_alloc ?_ _)); exact BK101.out) hb); have n1_ := Aside0.mk (blk_below (g := gb107) (o := .cells #[.int .i64 ((rd_Face (rd_LFace l0_0 x4_2) x5_3).f0), .int .i64 ((rd_Face (rd_LFace l0_0 x4_2) x5_3).f1)] 74 (0, 0)) (by (with_reducible repeat (first | refine blk_drewN ?_ _ | refine blk_drew ?_ | refine blk_alloc ?_ _)); exact BK107.out) hb); have n2_ := Aside0.mk (below_step (by repeat (first | (with_reducible first | exact HB.out | apply below_alloc | apply pw_below_drewN | apply below_drew1 | refine below_set ?_ GE101.out | refine below_set ?_ GE107.out) | exact HB.out)) hb); have n3_ := Aside0.mk (hbox); have n4_ := Aside0.mk ((by rw [hg]; exact (below_size (by repeat (first | (with_reducible first | exact HB.out | apply below_alloc | apply pw_below_drewN | apply below_drew1 | refine below_set ?_ GE101.out | refine below_set ?_ GE107.out) | exact HB.out))) : w.heap.size ≤ gb113)); have n5_ := Aside0.mk ((by rw [hg]; exact (below_size (by repeat (first | (with_reducible first | exact HB.out | apply below_alloc | apply pw_below_drewN | apply below_drew1 | refine below_set ?_ GE101.out | refine below_set ?_ GE107.out) | exact HB.out))) : w.heap.size ≤ gb113)); have n6_ := Aside0.mk ((by rw [hg]; exact Nat.ne_of_lt (blk_lt (g := gb101) (o := .cells #[.slice (some ad105) l0_0.length c0_0] 28 (0, 0)) (by (with_reducible repeat (first | refine blk_drewN ?_ _ | refine blk_drew ?_ | refine blk_alloc ?_ _)); exact BK101.out)) : gb101 ≠ gb113)); have n7_ := Aside0.mk ((by rw [hg]; exact Nat.ne_of_gt (blk_lt (g := gb101) (o := .cells #[.slice (some ad105) l0_0.length c0_0] 28 (0, 0)) (by (with_reducible repeat (first | refine blk_drewN ?_ _ | refine blk_drew ?_ | refine blk_alloc ?_ _)); exact BK101.out)) : gb113 ≠ gb101)); have n8_ := Aside0.mk ((by rw [hg]; exact Nat.ne_of_lt (blk_lt (g := gb107) (o := .cells #[.int .i64 ((rd_Face (rd_LFace l0_0 x4_2) x5_3).f0), .int .i64 ((rd_Face (rd_LFace l0_0 x4_2) x5_3).f1)] 74 (0, 0)) (by (with_reducible repeat (first | refine blk_drewN ?_ _ | refine blk_drew ?_ | refine blk_alloc ?_ _)); exact BK107.out)) : gb107 ≠ gb113)); have n9_ := Aside0.mk ((by rw [hg]; exact Nat.ne_of_gt (blk_lt (g := gb107) (o := .cells #[.int .i64 ((rd_Face (rd_LFace l0_0 x4_2) x5_3).f0), .int .i64 ((rd_Face (rd_LFace l0_0 x4_2) x5_3).f1)] 74 (0, 0)) (by (with_reducible repeat (first | refine blk_drewN ?_ _ | refine blk_drew ?_ | refine blk_alloc ?_ _)); exact BK107.out)) : gb113 ≠ gb107)); clear BK101; clear BK107; clear HB; have BK101 := n0_; have BK107 := n1_; have HB := n2_; have BK113 := n3_; have GW113 := n4_; have GE113 := n5_; have NB101_113 := n6_; have NB113_101 := n7_; have NB107_113 := n8_; have NB113_107 := n9_; clear n0_ n1_ n2_ n3_ n4_ n5_ n6_ n7_ n8_ n9_; clear hb hbox hg; have hnb59 := NB113_101.out; have hnc59 := NB101_113.out; have hnb60 := NB113_107.out; have hnc60 := NB107_113.out; have hcz61_0 : w58.cell? ⟨gb113, 0, none⟩ = some (.int .i64 0) := (blk_cell BK113.out 0).trans rfl; have hcz61_1 : w58.cell? ⟨gb113, 1, none⟩ = some (.int .i64 0) := (blk_cell BK113.out 1).trans rfl; have hfz61_0 := blk_frozen BK113.out 0; have hfz61_1 := blk_frozen BK113.out 1))
                have n0_ : Aside0 (((w58.setCell ⟨gb113, 0, none⟩ (.int .i64 x4_2)).setCell ⟨gb113, 1, none⟩ (.int .i64 t112)).heap[gb101]? = some (.cells #[.slice (some ad105) l0_0.length c0_0] 28 (0, 0))) := ⟨by (with_reducible repeat (first | refine blk_drewN ?_ _ | refine blk_drew ?_ | refine blk_alloc ?_ _)); refine blk_far ?_ NB101_113.out _; (with_reducible repeat (first | refine blk_drewN ?_ _ | refine blk_drew ?_ | refine blk_alloc ?_ _)); refine blk_far ?_ NB101_113.out _; (with_reducible repeat (first | refine blk_drewN ?_ _ | refine blk_drew ?_ | refine blk_alloc ?_ _)); exact BK101.out⟩
                have n1_ : Aside0 (((w58.setCell ⟨gb113, 0, none⟩ (.int .i64 x4_2)).setCell ⟨gb113, 1, none⟩ (.int .i64 t112)).heap[gb107]? = some (.cells #[.int .i64 ((rd_Face (rd_LFace l0_0 x4_2) x5_3).f0), .int .i64 ((rd_Face (rd_LFace l0_0 x4_2) x5_3).f1)] 74 (0, 0))) := ⟨by (with_reducible repeat (first | refine blk_drewN ?_ _ | refine blk_drew ?_ | refine blk_alloc ?_ _)); refine blk_far ?_ NB107_113.out _; (with_reducible repeat (first | refine blk_drewN ?_ _ | refine blk_drew ?_ | refine blk_alloc ?_ _)); refine blk_far ?_ NB107_113.out _; (with_reducible repeat (first | refine blk_drewN ?_ _ | refine blk_drew ?_ | refine blk_alloc ?_ _)); exact BK107.out⟩
                have n2_ : Aside0 (((w58.setCell ⟨gb113, 0, none⟩ (.int .i64 x4_2)).setCell ⟨gb113, 1, none⟩ (.int .i64 t112)).heap[gb113]? = some (.cells #[.int .i64 x4_2, .int .i64 t112] 74 (0, 0))) := ⟨by (with_reducible repeat (first | refine blk_drewN ?_ _ | refine blk_drew ?_ | refine blk_alloc ?_ _)); refine blk_put (cs := #[.int .i64 x4_2, .int .i64 0]) ?_ 1 _ rfl; (with_reducible repeat (first | refine blk_drewN ?_ _ | refine blk_drew ?_ | refine blk_alloc ?_ _)); refine blk_put (cs := #[.int .i64 0, .int .i64 0]) ?_ 0 _ rfl; (with_reducible repeat (first | refine blk_drewN ?_ _ | refine blk_drew ?_ | refine blk_alloc ?_ _)); exact BK113.out⟩
                have n3_ : Aside0 (Below w.heap.size w ((w58.setCell ⟨gb113, 0, none⟩ (.int .i64 x4_2)).setCell ⟨gb113, 1, none⟩ (.int .i64 t112))) := ⟨by repeat (first | (with_reducible first | exact HB.out | apply below_alloc | apply pw_below_drewN | apply below_drew1 | refine below_set ?_ GE101.out | refine below_set ?_ GE107.out | refine below_set ?_ GE113.out) | exact HB.out)⟩
                (try clear BK101)
                (try clear BK107)
                (try clear BK113)
                (try clear HB)
                generalize ((w58.setCell ⟨gb113, 0, none⟩ (.int .i64 x4_2)).setCell ⟨gb113, 1, none⟩ (.int .i64 t112)) = w62 at n0_ n1_ n2_ n3_ ⊢
                have BK101 := n0_
                have BK107 := n1_
                have BK113 := n2_
                have HB := n3_
                clear n0_ n1_ n2_ n3_
                have p114 : 0 ≤ (((rd_Face (rd_LFace l0_0 x4_2) x5_3).f0) : Int) := of_decide_eq_true (by first | (with_reducible assumption) | assumption)
                have q114 : ((rd_Face (rd_LFace l0_0 x4_2) x5_3).f0) < (l0_0.length : Int) := of_decide_eq_true (by first | (with_reducible assumption) | assumption)
                obtain ⟨ad114, A114_0, c114_0, e114, hx114_0, hl114_0, hi114_0⟩ := at_LFace HR0_0.out ((rd_Face (rd_LFace l0_0 x4_2) x5_3).f0) p114 q114
                have hw114_0 := hx114_0
                obtain rfl : ad105 = ad114 := (by injection e114)
                replace hx114_0 := (HB.out.cell (yny w _ hx114_0)).trans hx114_0
                have HR114_0 := Aside0.mk hi114_0
                have HC114_0 := Aside0.mk hl114_0
                clear hi114_0 hl114_0
                replace p114 := eq_true p114
                replace q114 := eq_true q114
                have p115 : 0 ≤ (t111 : Int) := of_decide_eq_true (by first | (with_reducible assumption) | assumption)
                have q115 : t111 < ((rd_LFace l0_0 ((rd_Face (rd_LFace l0_0 x4_2) x5_3).f0)).length : Int) := of_decide_eq_true (by first | (with_reducible assumption) | assumption)
                obtain ⟨ad115, e115, hx115_0, hx115_1⟩ := at_Face HR114_0.out t111 p115 q115
                have hw115_1 := hx115_1
                have hw115_0 := hx115_0
                cases e115
                replace hx115_0 := (HB.out.cell (yny w _ hx115_0)).trans hx115_0
                replace hx115_1 := (HB.out.cell (yny w _ hx115_1)).trans hx115_1
                replace p115 := eq_true p115
                replace q115 := eq_true q115
                have sq0_ : w62.cell? ⟨gb101, 0, none⟩ = some (.slice (some ad105) l0_0.length c0_0) := (blk_cell BK101.out 0).trans rfl
                have sq1_ : w62.cell? ⟨gb107, 0, none⟩ = some (.int .i64 ((rd_Face (rd_LFace l0_0 x4_2) x5_3).f0)) := (blk_cell BK107.out 0).trans rfl
                have sq2_ : w62.cell? ⟨gb107, 1, none⟩ = some (.int .i64 ((rd_Face (rd_LFace l0_0 x4_2) x5_3).f1)) := (blk_cell BK107.out 1).trans rfl
                have sq3_ : w62.cell? ⟨gb113, 0, none⟩ = some (.int .i64 x4_2) := (blk_cell BK113.out 0).trans rfl
                have sq4_ : w62.cell? ⟨gb113, 1, none⟩ = some (.int .i64 t112) := (blk_cell BK113.out 1).trans rfl
                have sq5_ : w62.cell? (ad105.add (((rd_Face (rd_LFace l0_0 x4_2) x5_3).f0)).toNat) = some (.slice (some ad115) (rd_LFace l0_0 ((rd_Face (rd_LFace l0_0 x4_2) x5_3).f0)).length c114_0) := ((HB.out.cell (yny w _ hw114_0)).trans hw114_0)
                have sq6_ : w62.cell? (ad115.add ((t111).toNat * 2)) = some (.int .i64 ((rd_Face (rd_LFace l0_0 ((rd_Face (rd_LFace l0_0 x4_2) x5_3).f0)) t111).f0)) := ((HB.out.cell (yny w _ hw115_0)).trans hw115_0)
                have sq7_ : w62.cell? ⟨(ad115.add ((t111).toNat * 2)).block, (ad115.add ((t111).toNat * 2)).off + 1, none⟩ = some (.int .i64 ((rd_Face (rd_LFace l0_0 ((rd_Face (rd_LFace l0_0 x4_2) x5_3).f0)) t111).f1)) := ((HB.out.cell (yny w _ hw115_1)).trans hw115_1)
                go_quiet (fail)
                generalize hq_ : World.drewN w62 _ = w63
                have n0_ := Aside0.mk (blk_at hq_ BK101.out)
                have n1_ := Aside0.mk (blk_at hq_ BK107.out)
                have n2_ := Aside0.mk (blk_at hq_ BK113.out)
                have n3_ := Aside0.mk (below_at hq_ HB.out)
                clear BK101 BK107 BK113 HB hq_ sq0_ sq1_ sq2_ sq3_ sq4_ sq5_ sq6_ sq7_
                have BK101 := n0_
                have BK107 := n1_
                have BK113 := n2_
                have HB := n3_
                clear n0_ n1_ n2_ n3_
                try go_wp2
                go_ret
                exact ⟨by first | rfl | (simp [errW_none, errW_some] <;> rfl) | (simp [*, errW_none, errW_some] <;> rfl), by repeat (first | (with_reducible first | exact HB.out | apply below_alloc | apply pw_below_drewN | apply below_drew1 | refine below_set ?_ GE101.out | refine below_set ?_ GE107.out | refine below_set ?_ GE113.out) | exact HB.out)⟩
               next =>
                rw [if_neg c52] at H
                have c52b0 : (!(((rd_Face (rd_LFace l0_0 ((rd_Face (rd_LFace l0_0 x4_2) x5_3).f0)) t111).f0) == x4_2) || (!(((rd_Face (rd_LFace l0_0 ((rd_Face (rd_LFace l0_0 x4_2) x5_3).f0)) t111).f1) == t112))) = false := by simpa using c52
                clear c52
                by_cases c64 : ((rd_Face (rd_LFace l0_0 x4_2) x5_3).f0) = x4_2
                rotate_left
                next =>
                 rw [if_neg c64] at H
                 have c64b0 : (((rd_Face (rd_LFace l0_0 x4_2) x5_3).f0) == x4_2) = false := beq_eq_false_iff_ne.mpr c64
                 have c64b1 : (((rd_Face (rd_LFace l0_0 x4_2) x5_3).f0) != x4_2) = true := bne_iff_ne.mpr c64
                 have H' := Aside0.mk H
                 clear H
                 have hnb88 := NB107_101.out
                 have hnc88 := NB101_107.out
                 have hcz89_0 : wc.cell? ⟨gb107, 0, none⟩ = some (.int .i64 ((rd_Face (rd_LFace l0_0 x4_2) x5_3).f0)) := (blk_cell BK107.out 0).trans rfl
                 have hcz89_1 : wc.cell? ⟨gb107, 1, none⟩ = some (.int .i64 ((rd_Face (rd_LFace l0_0 x4_2) x5_3).f1)) := (blk_cell BK107.out 1).trans rfl
                 have hfz89_0 := blk_frozen BK107.out 0
                 have hfz89_1 := blk_frozen BK107.out 1
                 try go_wp2_with (first | ((with_reducible refine gate_callee (f := 68) rfl ?_); refine goesL_ (some 68) rfl rfl Try.func68 (by kernel_rfl) rfl #[.int .i64 ((rd_Face (rd_LFace l0_0 x4_2) x5_3).f1), .int .i64 x5_3] rfl (by (try simp only [yiy, yjy, yky]); first | done | rfl | (simp only [yly, ymy]; rfl)) ?_; (with_reducible refine (spec_l06At.calls kj35 ((rd_Face (rd_LFace l0_0 x4_2) x5_3).f1) x5_3 t111 _ A46.out).mono ?_); rintro e w90 ⟨rfl, hb⟩; refine ⟨_, rfl, ?_⟩; have n0_ := Aside0.mk (blk_below (g := gb101) (o := .cells #[.slice (some ad105) l0_0.length c0_0] 28 (0, 0)) (by (with_reducible repeat (first | refine blk_drewN ?_ _ | refine blk_drew ?_ | refine blk_alloc ?_ _)); exact BK101.out) hb); have n1_ := Aside0.mk (blk_below (g := gb107) (o := .cells #[.int .i64 ((rd_Face (rd_LFace l0_0 x4_2) x5_3).f0), .int .i64 ((rd_Face (rd_LFace l0_0 x4_2) x5_3).f1)] 74 (0, 0)) (by (with_reducible repeat (first | refine blk_drewN ?_ _ | refine blk_drew ?_ | refine blk_alloc ?_ _)); exact BK107.out) hb); have n2_ := Aside0.mk (below_step (by repeat (first | (with_reducible first | exact HB.out | apply below_alloc | apply pw_below_drewN | apply below_drew1 | refine below_set ?_ GE101.out | refine below_set ?_ GE107.out) | exact HB.out)) hb); clear BK101; clear BK107; clear HB; have BK101 := n0_; have BK107 := n1_; have HB := n2_; clear n0_ n1_ n2_; (try clear hb); (try clear hb2); (try clear hk); (try clear hi); have hcz91_0 : w90.cell? ⟨gb107, 0, none⟩ = some (.int .i64 ((rd_Face (rd_LFace l0_0 x4_2) x5_3).f0)) := (blk_cell BK107.out 0).trans rfl; have hcz91_1 : w90.cell? ⟨gb107, 1, none⟩ = some (.int .i64 ((rd_Face (rd_LFace l0_0 x4_2) x5_3).f1)) := (blk_cell BK107.out 1).trans rfl; have hfz91_0 := blk_frozen BK107.out 0; have hfz91_1 := blk_frozen BK107.out 1) | ((with_reducible refine gate_callee (f := 113) rfl ?_); refine goesL_ (some 72) rfl rfl Try.func113 (by kernel_rfl) rfl #[.int .i64 ((rd_Face (rd_LFace l0_0 x4_2) x5_3).f1)] rfl (by (try simp only [yiy, yjy, yky]); first | done | rfl | (simp only [yly, ymy]; rfl)) ?_; (with_reducible refine (spec_l06Back.calls kj35 ((rd_Face (rd_LFace l0_0 x4_2) x5_3).f1) t112 _ A47.out).mono ?_); rintro e w92 ⟨rfl, hb⟩; refine ⟨_, rfl, ?_⟩; have n0_ := Aside0.mk (blk_below (g := gb101) (o := .cells #[.slice (some ad105) l0_0.length c0_0] 28 (0, 0)) (by (with_reducible repeat (first | refine blk_drewN ?_ _ | refine blk_drew ?_ | refine blk_alloc ?_ _)); exact BK101.out) hb); have n1_ := Aside0.mk (blk_below (g := gb107) (o := .cells #[.int .i64 ((rd_Face (rd_LFace l0_0 x4_2) x5_3).f0), .int .i64 ((rd_Face (rd_LFace l0_0 x4_2) x5_3).f1)] 74 (0, 0)) (by (with_reducible repeat (first | refine blk_drewN ?_ _ | refine blk_drew ?_ | refine blk_alloc ?_ _)); exact BK107.out) hb); have n2_ := Aside0.mk (below_step (by repeat (first | (with_reducible first | exact HB.out | apply below_alloc | apply pw_below_drewN | apply below_drew1 | refine below_set ?_ GE101.out | refine below_set ?_ GE107.out) | exact HB.out)) hb); clear BK101; clear BK107; clear HB; have BK101 := n0_; have BK107 := n1_; have HB := n2_; clear n0_ n1_ n2_; (try clear hb); (try clear hb2); (try clear hk); (try clear hi)) | ((with_reducible refine gate_dst (N := 8) rfl ?_); refine box_event ?hg (N := 8) ?hd (cs := #[.int .i64 0, .int .i64 0]) (t := 74) ?hr ?_; (case hd => rfl); (case hg => rfl); (case hr => first | (go_simp; done) | (go_simp; rfl)); intro gb113 hg w93 hbox hb; have n0_ := Aside0.mk (blk_below (g := gb101) (o := .cells #[.slice (some ad105) l0_0.length c0_0] 28 (0, 0)) (by (with_reducible repeat (first | refine blk_drewN ?_ _ | refine blk_drew ?_ | refine blk_alloc ?_ _)); exact BK101.out) hb); have n1_ := Aside0.mk (blk_below (g := gb107) (o := .cells #[.int .i64 ((rd_Face (rd_LFace l0_0 x4_2) x5_3).f0), .int .i64 ((rd_Face (rd_LFace l0_0 x4_2) x5_3).f1)] 74 (0, 0)) (by (with_reducible repeat (first | refine blk_drewN ?_ _ | refine blk_drew ?_ | refine blk_alloc ?_ _)); exact BK107.out) hb); have n2_ := Aside0.mk (below_step (by repeat (first | (with_reducible first | exact HB.out | apply below_alloc | apply pw_below_drewN | apply below_drew1 | refine below_set ?_ GE101.out | refine below_set ?_ GE107.out) | exact HB.out)) hb); have n3_ := Aside0.mk (hbox); have n4_ := Aside0.mk ((by rw [hg]; exact (below_size (by repeat (first | (with_reducible first | exact HB.out | apply below_alloc | apply pw_below_drewN | apply below_drew1 | refine below_set ?_ GE101.out | refine below_set ?_ GE107.out) | exact HB.out))) : w.heap.size ≤ gb113)); have n5_ := Aside0.mk ((by rw [hg]; exact (below_size (by repeat (first | (with_reducible first | exact HB.out | apply below_alloc | apply pw_below_drewN | apply below_drew1 | refine below_set ?_ GE101.out | refine below_set ?_ GE107.out) | exact HB.out))) : w.heap.size ≤ gb113)); have n6_ := Aside0.mk ((by rw [hg]; exact Nat.ne_of_lt (blk_lt (g := gb101) (o := .cells #[.slice (some ad105) l0_0.length c0_0] 28 (0, 0)) (by (with_reducible repeat (first | refine blk_drewN ?_ _ | refine blk_drew ?_ | refine blk_alloc ?_ _)); exact BK101.out)) : gb101 ≠ gb113)); have n7_ := Aside0.mk ((by rw [hg]; exact Nat.ne_of_gt (blk_lt (g := gb101) (o := .cells #[.slice (some ad105) l0_0.length c0_0] 28 (0, 0)) (by (with_reducible repeat (first | refine blk_drewN ?_ _ | refine blk_drew ?_ | refine blk_alloc ?_ _)); exact BK101.out)) : gb113 ≠ gb101)); have n8_ := Aside0.mk ((by rw [hg]; exact Nat.ne_of_lt (blk_lt (g := gb107) (o := .cells #[.int .i64 ((rd_Face (rd_LFace l0_0 x4_2) x5_3).f0), .int .i64 ((rd_Face (rd_LFace l0_0 x4_2) x5_3).f1)] 74 (0, 0)) (by (with_reducible repeat (first | refine blk_drewN ?_ _ | refine blk_drew ?_ | refine blk_alloc ?_ _)); exact BK107.out)) : gb107 ≠ gb113)); have n9_ := Aside0.mk ((by rw [hg]; exact Nat.ne_of_gt (blk_lt (g := gb107) (o := .cells #[.int .i64 ((rd_Face (rd_LFace l0_0 x4_2) x5_3).f0), .int .i64 ((rd_Face (rd_LFace l0_0 x4_2) x5_3).f1)] 74 (0, 0)) (by (with_reducible repeat (first | refine blk_drewN ?_ _ | refine blk_drew ?_ | refine blk_alloc ?_ _)); exact BK107.out)) : gb113 ≠ gb107)); clear BK101; clear BK107; clear HB; have BK101 := n0_; have BK107 := n1_; have HB := n2_; have BK113 := n3_; have GW113 := n4_; have GE113 := n5_; have NB101_113 := n6_; have NB113_101 := n7_; have NB107_113 := n8_; have NB113_107 := n9_; clear n0_ n1_ n2_ n3_ n4_ n5_ n6_ n7_ n8_ n9_; clear hb hbox hg; have hnb94 := NB113_101.out; have hnc94 := NB101_113.out; have hnb95 := NB113_107.out; have hnc95 := NB107_113.out; have hcz96_0 : w93.cell? ⟨gb113, 0, none⟩ = some (.int .i64 0) := (blk_cell BK113.out 0).trans rfl; have hcz96_1 : w93.cell? ⟨gb113, 1, none⟩ = some (.int .i64 0) := (blk_cell BK113.out 1).trans rfl; have hfz96_0 := blk_frozen BK113.out 0; have hfz96_1 := blk_frozen BK113.out 1))
                 have n0_ : Aside0 (((w93.setCell ⟨gb113, 0, none⟩ (.int .i64 x4_2)).setCell ⟨gb113, 1, none⟩ (.int .i64 t112)).heap[gb101]? = some (.cells #[.slice (some ad105) l0_0.length c0_0] 28 (0, 0))) := ⟨by (with_reducible repeat (first | refine blk_drewN ?_ _ | refine blk_drew ?_ | refine blk_alloc ?_ _)); refine blk_far ?_ NB101_113.out _; (with_reducible repeat (first | refine blk_drewN ?_ _ | refine blk_drew ?_ | refine blk_alloc ?_ _)); refine blk_far ?_ NB101_113.out _; (with_reducible repeat (first | refine blk_drewN ?_ _ | refine blk_drew ?_ | refine blk_alloc ?_ _)); exact BK101.out⟩
                 have n1_ : Aside0 (((w93.setCell ⟨gb113, 0, none⟩ (.int .i64 x4_2)).setCell ⟨gb113, 1, none⟩ (.int .i64 t112)).heap[gb107]? = some (.cells #[.int .i64 ((rd_Face (rd_LFace l0_0 x4_2) x5_3).f0), .int .i64 ((rd_Face (rd_LFace l0_0 x4_2) x5_3).f1)] 74 (0, 0))) := ⟨by (with_reducible repeat (first | refine blk_drewN ?_ _ | refine blk_drew ?_ | refine blk_alloc ?_ _)); refine blk_far ?_ NB107_113.out _; (with_reducible repeat (first | refine blk_drewN ?_ _ | refine blk_drew ?_ | refine blk_alloc ?_ _)); refine blk_far ?_ NB107_113.out _; (with_reducible repeat (first | refine blk_drewN ?_ _ | refine blk_drew ?_ | refine blk_alloc ?_ _)); exact BK107.out⟩
                 have n2_ : Aside0 (((w93.setCell ⟨gb113, 0, none⟩ (.int .i64 x4_2)).setCell ⟨gb113, 1, none⟩ (.int .i64 t112)).heap[gb113]? = some (.cells #[.int .i64 x4_2, .int .i64 t112] 74 (0, 0))) := ⟨by (with_reducible repeat (first | refine blk_drewN ?_ _ | refine blk_drew ?_ | refine blk_alloc ?_ _)); refine blk_put (cs := #[.int .i64 x4_2, .int .i64 0]) ?_ 1 _ rfl; (with_reducible repeat (first | refine blk_drewN ?_ _ | refine blk_drew ?_ | refine blk_alloc ?_ _)); refine blk_put (cs := #[.int .i64 0, .int .i64 0]) ?_ 0 _ rfl; (with_reducible repeat (first | refine blk_drewN ?_ _ | refine blk_drew ?_ | refine blk_alloc ?_ _)); exact BK113.out⟩
                 have n3_ : Aside0 (Below w.heap.size w ((w93.setCell ⟨gb113, 0, none⟩ (.int .i64 x4_2)).setCell ⟨gb113, 1, none⟩ (.int .i64 t112))) := ⟨by repeat (first | (with_reducible first | exact HB.out | apply below_alloc | apply pw_below_drewN | apply below_drew1 | refine below_set ?_ GE101.out | refine below_set ?_ GE107.out | refine below_set ?_ GE113.out) | exact HB.out)⟩
                 (try clear BK101)
                 (try clear BK107)
                 (try clear BK113)
                 (try clear HB)
                 generalize ((w93.setCell ⟨gb113, 0, none⟩ (.int .i64 x4_2)).setCell ⟨gb113, 1, none⟩ (.int .i64 t112)) = w97 at n0_ n1_ n2_ n3_ ⊢
                 have BK101 := n0_
                 have BK107 := n1_
                 have BK113 := n2_
                 have HB := n3_
                 clear n0_ n1_ n2_ n3_
                 have p114 : 0 ≤ (((rd_Face (rd_LFace l0_0 x4_2) x5_3).f0) : Int) := of_decide_eq_true (by first | (with_reducible assumption) | assumption)
                 have q114 : ((rd_Face (rd_LFace l0_0 x4_2) x5_3).f0) < (l0_0.length : Int) := of_decide_eq_true (by first | (with_reducible assumption) | assumption)
                 obtain ⟨ad114, A114_0, c114_0, e114, hx114_0, hl114_0, hi114_0⟩ := at_LFace HR0_0.out ((rd_Face (rd_LFace l0_0 x4_2) x5_3).f0) p114 q114
                 have hw114_0 := hx114_0
                 obtain rfl : ad105 = ad114 := (by injection e114)
                 replace hx114_0 := (HB.out.cell (yny w _ hx114_0)).trans hx114_0
                 have HR114_0 := Aside0.mk hi114_0
                 have HC114_0 := Aside0.mk hl114_0
                 clear hi114_0 hl114_0
                 replace p114 := eq_true p114
                 replace q114 := eq_true q114
                 have p115 : 0 ≤ (t111 : Int) := of_decide_eq_true (by first | (with_reducible assumption) | assumption)
                 have q115 : t111 < ((rd_LFace l0_0 ((rd_Face (rd_LFace l0_0 x4_2) x5_3).f0)).length : Int) := of_decide_eq_true (by first | (with_reducible assumption) | assumption)
                 obtain ⟨ad115, e115, hx115_0, hx115_1⟩ := at_Face HR114_0.out t111 p115 q115
                 have hw115_1 := hx115_1
                 have hw115_0 := hx115_0
                 cases e115
                 replace hx115_0 := (HB.out.cell (yny w _ hx115_0)).trans hx115_0
                 replace hx115_1 := (HB.out.cell (yny w _ hx115_1)).trans hx115_1
                 replace p115 := eq_true p115
                 replace q115 := eq_true q115
                 have sq0_ : w97.cell? ⟨gb101, 0, none⟩ = some (.slice (some ad105) l0_0.length c0_0) := (blk_cell BK101.out 0).trans rfl
                 have sq1_ : w97.cell? ⟨gb107, 0, none⟩ = some (.int .i64 ((rd_Face (rd_LFace l0_0 x4_2) x5_3).f0)) := (blk_cell BK107.out 0).trans rfl
                 have sq2_ : w97.cell? ⟨gb107, 1, none⟩ = some (.int .i64 ((rd_Face (rd_LFace l0_0 x4_2) x5_3).f1)) := (blk_cell BK107.out 1).trans rfl
                 have sq3_ : w97.cell? ⟨gb113, 0, none⟩ = some (.int .i64 x4_2) := (blk_cell BK113.out 0).trans rfl
                 have sq4_ : w97.cell? ⟨gb113, 1, none⟩ = some (.int .i64 t112) := (blk_cell BK113.out 1).trans rfl
                 have sq5_ : w97.cell? (ad105.add (((rd_Face (rd_LFace l0_0 x4_2) x5_3).f0)).toNat) = some (.slice (some ad115) (rd_LFace l0_0 ((rd_Face (rd_LFace l0_0 x4_2) x5_3).f0)).length c114_0) := ((HB.out.cell (yny w _ hw114_0)).trans hw114_0)
                 have sq6_ : w97.cell? (ad115.add ((t111).toNat * 2)) = some (.int .i64 ((rd_Face (rd_LFace l0_0 ((rd_Face (rd_LFace l0_0 x4_2) x5_3).f0)) t111).f0)) := ((HB.out.cell (yny w _ hw115_0)).trans hw115_0)
                 have sq7_ : w97.cell? ⟨(ad115.add ((t111).toNat * 2)).block, (ad115.add ((t111).toNat * 2)).off + 1, none⟩ = some (.int .i64 ((rd_Face (rd_LFace l0_0 ((rd_Face (rd_LFace l0_0 x4_2) x5_3).f0)) t111).f1)) := ((HB.out.cell (yny w _ hw115_1)).trans hw115_1)
                 go_quiet (fail)
                 generalize hq_ : World.drewN w97 _ = w98
                 have n0_ := Aside0.mk (blk_at hq_ BK101.out)
                 have n1_ := Aside0.mk (blk_at hq_ BK107.out)
                 have n2_ := Aside0.mk (blk_at hq_ BK113.out)
                 have n3_ := Aside0.mk (below_at hq_ HB.out)
                 clear BK101 BK107 BK113 HB hq_ sq0_ sq1_ sq2_ sq3_ sq4_ sq5_ sq6_ sq7_
                 have BK101 := n0_
                 have BK107 := n1_
                 have BK113 := n2_
                 have HB := n3_
                 clear n0_ n1_ n2_ n3_
                 try go_wp2
                 go_roundg kj35
                 case measure => have := HK1.out; have := HK2.out; have := HK3.out; have := HJ24.out; have := HJ35.out; omega
                 case rel => exact ⟨(wrap64 (x5_3 + 1)), (by first | rfl | (simp; done) | (simp [*]; done)), H', ⟨by have := HK1.out; have := HK2.out; have := HK3.out; have := HJ24.out; have := HJ35.out; omega⟩, ⟨by (with_reducible repeat (first | refine blk_drewN ?_ _ | refine blk_drew ?_ | refine blk_alloc ?_ _)); exact BK101.out⟩, ⟨by repeat (first | (with_reducible first | exact HB.out | apply below_alloc | apply pw_below_drewN | apply below_drew1 | refine below_set ?_ GE101.out | refine below_set ?_ GE107.out | refine below_set ?_ GE113.out) | exact HB.out)⟩⟩
                rw [if_pos c64] at H
                have c64b0 : (((rd_Face (rd_LFace l0_0 x4_2) x5_3).f0) == x4_2) = true := beq_iff_eq.mpr c64
                have c64b1 : (((rd_Face (rd_LFace l0_0 x4_2) x5_3).f0) != x4_2) = false := bne_eq_false_iff_eq.mpr c64
                clear c64
                by_cases c65 : t111 = x5_3
                next =>
                 rw [if_pos c65] at H
                 have c65b0 : (t111 == x5_3) = true := beq_iff_eq.mpr c65
                 have c65b1 : (t111 != x5_3) = false := bne_eq_false_iff_eq.mpr c65
                 clear c65
                 obtain rfl := yey H
                 have hnb66 := NB107_101.out
                 have hnc66 := NB101_107.out
                 have hcz67_0 : wc.cell? ⟨gb107, 0, none⟩ = some (.int .i64 ((rd_Face (rd_LFace l0_0 x4_2) x5_3).f0)) := (blk_cell BK107.out 0).trans rfl
                 have hcz67_1 : wc.cell? ⟨gb107, 1, none⟩ = some (.int .i64 ((rd_Face (rd_LFace l0_0 x4_2) x5_3).f1)) := (blk_cell BK107.out 1).trans rfl
                 have hfz67_0 := blk_frozen BK107.out 0
                 have hfz67_1 := blk_frozen BK107.out 1
                 try go_wp2_with (first | ((with_reducible refine gate_callee (f := 68) rfl ?_); refine goesL_ (some 68) rfl rfl Try.func68 (by kernel_rfl) rfl #[.int .i64 ((rd_Face (rd_LFace l0_0 x4_2) x5_3).f1), .int .i64 x5_3] rfl (by (try simp only [yiy, yjy, yky]); first | done | rfl | (simp only [yly, ymy]; rfl)) ?_; (with_reducible refine (spec_l06At.calls kj35 ((rd_Face (rd_LFace l0_0 x4_2) x5_3).f1) x5_3 t111 _ A46.out).mono ?_); rintro e w68 ⟨rfl, hb⟩; refine ⟨_, rfl, ?_⟩; have n0_ := Aside0.mk (blk_below (g := gb101) (o := .cells #[.slice (some ad105) l0_0.length c0_0] 28 (0, 0)) (by (with_reducible repeat (first | refine blk_drewN ?_ _ | refine blk_drew ?_ | refine blk_alloc ?_ _)); exact BK101.out) hb); have n1_ := Aside0.mk (blk_below (g := gb107) (o := .cells #[.int .i64 ((rd_Face (rd_LFace l0_0 x4_2) x5_3).f0), .int .i64 ((rd_Face (rd_LFace l0_0 x4_2) x5_3).f1)] 74 (0, 0)) (by (with_reducible repeat (first | refine blk_drewN ?_ _ | refine blk_drew ?_ | refine blk_alloc ?_ _)); exact BK107.out) hb); have n2_ := Aside0.mk (below_step (by repeat (first | (with_reducible first | exact HB.out | apply below_alloc | apply pw_below_drewN | apply below_drew1 | refine below_set ?_ GE101.out | refine below_set ?_ GE107.out) | exact HB.out)) hb); clear BK101; clear BK107; clear HB; have BK101 := n0_; have BK107 := n1_; have HB := n2_; clear n0_ n1_ n2_; (try clear hb); (try clear hb2); (try clear hk); (try clear hi); have hcz69_0 : w68.cell? ⟨gb107, 0, none⟩ = some (.int .i64 ((rd_Face (rd_LFace l0_0 x4_2) x5_3).f0)) := (blk_cell BK107.out 0).trans rfl; have hcz69_1 : w68.cell? ⟨gb107, 1, none⟩ = some (.int .i64 ((rd_Face (rd_LFace l0_0 x4_2) x5_3).f1)) := (blk_cell BK107.out 1).trans rfl; have hfz69_0 := blk_frozen BK107.out 0; have hfz69_1 := blk_frozen BK107.out 1) | ((with_reducible refine gate_callee (f := 113) rfl ?_); refine goesL_ (some 72) rfl rfl Try.func113 (by kernel_rfl) rfl #[.int .i64 ((rd_Face (rd_LFace l0_0 x4_2) x5_3).f1)] rfl (by (try simp only [yiy, yjy, yky]); first | done | rfl | (simp only [yly, ymy]; rfl)) ?_; (with_reducible refine (spec_l06Back.calls kj35 ((rd_Face (rd_LFace l0_0 x4_2) x5_3).f1) t112 _ A47.out).mono ?_); rintro e w70 ⟨rfl, hb⟩; refine ⟨_, rfl, ?_⟩; have n0_ := Aside0.mk (blk_below (g := gb101) (o := .cells #[.slice (some ad105) l0_0.length c0_0] 28 (0, 0)) (by (with_reducible repeat (first | refine blk_drewN ?_ _ | refine blk_drew ?_ | refine blk_alloc ?_ _)); exact BK101.out) hb); have n1_ := Aside0.mk (blk_below (g := gb107) (o := .cells #[.int .i64 ((rd_Face (rd_LFace l0_0 x4_2) x5_3).f0), .int .i64 ((rd_Face (rd_LFace l0_0 x4_2) x5_3).f1)] 74 (0, 0)) (by (with_reducible repeat (first | refine blk_drewN ?_ _ | refine blk_drew ?_ | refine blk_alloc ?_ _)); exact BK107.out) hb); have n2_ := Aside0.mk (below_step (by repeat (first | (with_reducible first | exact HB.out | apply below_alloc | apply pw_below_drewN | apply below_drew1 | refine below_set ?_ GE101.out | refine below_set ?_ GE107.out) | exact HB.out)) hb); clear BK101; clear BK107; clear HB; have BK101 := n0_; have BK107 := n1_; have HB := n2_; clear n0_ n1_ n2_; (try clear hb); (try clear hb2); (try clear hk); (try clear hi)) | ((with_reducible refine gate_dst (N := 8) rfl ?_); refine box_event ?hg (N := 8) ?hd (cs := #[.int .i64 0, .int .i64 0]) (t := 74) ?hr ?_; (case hd => rfl); (case hg => rfl); (case hr => first | (go_simp; done) | (go_simp; rfl)); intro gb113 hg w71 hbox hb; have n0_ := Aside0.mk (blk_below (g := gb101) (o := .cells #[.slice (some ad105) l0_0.length c0_0] 28 (0, 0)) (by (with_reducible repeat (first | refine blk_drewN ?_ _ | refine blk_drew ?_ | refine blk_alloc ?_ _)); exact BK101.out) hb); have n1_ := Aside0.mk (blk_below (g := gb107) (o := .cells #[.int .i64 ((rd_Face (rd_LFace l0_0 x4_2) x5_3).f0), .int .i64 ((rd_Face (rd_LFace l0_0 x4_2) x5_3).f1)] 74 (0, 0)) (by (with_reducible repeat (first | refine blk_drewN ?_ _ | refine blk_drew ?_ | refine blk_alloc ?_ _)); exact BK107.out) hb); have n2_ := Aside0.mk (below_step (by repeat (first | (with_reducible first | exact HB.out | apply below_alloc | apply pw_below_drewN | apply below_drew1 | refine below_set ?_ GE101.out | refine below_set ?_ GE107.out) | exact HB.out)) hb); have n3_ := Aside0.mk (hbox); have n4_ := Aside0.mk ((by rw [hg]; exact (below_size (by repeat (first | (with_reducible first | exact HB.out | apply below_alloc | apply pw_below_drewN | apply below_drew1 | refine below_set ?_ GE101.out | refine below_set ?_ GE107.out) | exact HB.out))) : w.heap.size ≤ gb113)); have n5_ := Aside0.mk ((by rw [hg]; exact (below_size (by repeat (first | (with_reducible first | exact HB.out | apply below_alloc | apply pw_below_drewN | apply below_drew1 | refine below_set ?_ GE101.out | refine below_set ?_ GE107.out) | exact HB.out))) : w.heap.size ≤ gb113)); have n6_ := Aside0.mk ((by rw [hg]; exact Nat.ne_of_lt (blk_lt (g := gb101) (o := .cells #[.slice (some ad105) l0_0.length c0_0] 28 (0, 0)) (by (with_reducible repeat (first | refine blk_drewN ?_ _ | refine blk_drew ?_ | refine blk_alloc ?_ _)); exact BK101.out)) : gb101 ≠ gb113)); have n7_ := Aside0.mk ((by rw [hg]; exact Nat.ne_of_gt (blk_lt (g := gb101) (o := .cells #[.slice (some ad105) l0_0.length c0_0] 28 (0, 0)) (by (with_reducible repeat (first | refine blk_drewN ?_ _ | refine blk_drew ?_ | refine blk_alloc ?_ _)); exact BK101.out)) : gb113 ≠ gb101)); have n8_ := Aside0.mk ((by rw [hg]; exact Nat.ne_of_lt (blk_lt (g := gb107) (o := .cells #[.int .i64 ((rd_Face (rd_LFace l0_0 x4_2) x5_3).f0), .int .i64 ((rd_Face (rd_LFace l0_0 x4_2) x5_3).f1)] 74 (0, 0)) (by (with_reducible repeat (first | refine blk_drewN ?_ _ | refine blk_drew ?_ | refine blk_alloc ?_ _)); exact BK107.out)) : gb107 ≠ gb113)); have n9_ := Aside0.mk ((by rw [hg]; exact Nat.ne_of_gt (blk_lt (g := gb107) (o := .cells #[.int .i64 ((rd_Face (rd_LFace l0_0 x4_2) x5_3).f0), .int .i64 ((rd_Face (rd_LFace l0_0 x4_2) x5_3).f1)] 74 (0, 0)) (by (with_reducible repeat (first | refine blk_drewN ?_ _ | refine blk_drew ?_ | refine blk_alloc ?_ _)); exact BK107.out)) : gb113 ≠ gb107)); clear BK101; clear BK107; clear HB; have BK101 := n0_; have BK107 := n1_; have HB := n2_; have BK113 := n3_; have GW113 := n4_; have GE113 := n5_; have NB101_113 := n6_; have NB113_101 := n7_; have NB107_113 := n8_; have NB113_107 := n9_; clear n0_ n1_ n2_ n3_ n4_ n5_ n6_ n7_ n8_ n9_; clear hb hbox hg; have hnb72 := NB113_101.out; have hnc72 := NB101_113.out; have hnb73 := NB113_107.out; have hnc73 := NB107_113.out; have hcz74_0 : w71.cell? ⟨gb113, 0, none⟩ = some (.int .i64 0) := (blk_cell BK113.out 0).trans rfl; have hcz74_1 : w71.cell? ⟨gb113, 1, none⟩ = some (.int .i64 0) := (blk_cell BK113.out 1).trans rfl; have hfz74_0 := blk_frozen BK113.out 0; have hfz74_1 := blk_frozen BK113.out 1))
                 have n0_ : Aside0 (((w71.setCell ⟨gb113, 0, none⟩ (.int .i64 x4_2)).setCell ⟨gb113, 1, none⟩ (.int .i64 t112)).heap[gb101]? = some (.cells #[.slice (some ad105) l0_0.length c0_0] 28 (0, 0))) := ⟨by (with_reducible repeat (first | refine blk_drewN ?_ _ | refine blk_drew ?_ | refine blk_alloc ?_ _)); refine blk_far ?_ NB101_113.out _; (with_reducible repeat (first | refine blk_drewN ?_ _ | refine blk_drew ?_ | refine blk_alloc ?_ _)); refine blk_far ?_ NB101_113.out _; (with_reducible repeat (first | refine blk_drewN ?_ _ | refine blk_drew ?_ | refine blk_alloc ?_ _)); exact BK101.out⟩
                 have n1_ : Aside0 (((w71.setCell ⟨gb113, 0, none⟩ (.int .i64 x4_2)).setCell ⟨gb113, 1, none⟩ (.int .i64 t112)).heap[gb107]? = some (.cells #[.int .i64 ((rd_Face (rd_LFace l0_0 x4_2) x5_3).f0), .int .i64 ((rd_Face (rd_LFace l0_0 x4_2) x5_3).f1)] 74 (0, 0))) := ⟨by (with_reducible repeat (first | refine blk_drewN ?_ _ | refine blk_drew ?_ | refine blk_alloc ?_ _)); refine blk_far ?_ NB107_113.out _; (with_reducible repeat (first | refine blk_drewN ?_ _ | refine blk_drew ?_ | refine blk_alloc ?_ _)); refine blk_far ?_ NB107_113.out _; (with_reducible repeat (first | refine blk_drewN ?_ _ | refine blk_drew ?_ | refine blk_alloc ?_ _)); exact BK107.out⟩
                 have n2_ : Aside0 (((w71.setCell ⟨gb113, 0, none⟩ (.int .i64 x4_2)).setCell ⟨gb113, 1, none⟩ (.int .i64 t112)).heap[gb113]? = some (.cells #[.int .i64 x4_2, .int .i64 t112] 74 (0, 0))) := ⟨by (with_reducible repeat (first | refine blk_drewN ?_ _ | refine blk_drew ?_ | refine blk_alloc ?_ _)); refine blk_put (cs := #[.int .i64 x4_2, .int .i64 0]) ?_ 1 _ rfl; (with_reducible repeat (first | refine blk_drewN ?_ _ | refine blk_drew ?_ | refine blk_alloc ?_ _)); refine blk_put (cs := #[.int .i64 0, .int .i64 0]) ?_ 0 _ rfl; (with_reducible repeat (first | refine blk_drewN ?_ _ | refine blk_drew ?_ | refine blk_alloc ?_ _)); exact BK113.out⟩
                 have n3_ : Aside0 (Below w.heap.size w ((w71.setCell ⟨gb113, 0, none⟩ (.int .i64 x4_2)).setCell ⟨gb113, 1, none⟩ (.int .i64 t112))) := ⟨by repeat (first | (with_reducible first | exact HB.out | apply below_alloc | apply pw_below_drewN | apply below_drew1 | refine below_set ?_ GE101.out | refine below_set ?_ GE107.out | refine below_set ?_ GE113.out) | exact HB.out)⟩
                 (try clear BK101)
                 (try clear BK107)
                 (try clear BK113)
                 (try clear HB)
                 generalize ((w71.setCell ⟨gb113, 0, none⟩ (.int .i64 x4_2)).setCell ⟨gb113, 1, none⟩ (.int .i64 t112)) = w75 at n0_ n1_ n2_ n3_ ⊢
                 have BK101 := n0_
                 have BK107 := n1_
                 have BK113 := n2_
                 have HB := n3_
                 clear n0_ n1_ n2_ n3_
                 have p114 : 0 ≤ (((rd_Face (rd_LFace l0_0 x4_2) x5_3).f0) : Int) := of_decide_eq_true (by first | (with_reducible assumption) | assumption)
                 have q114 : ((rd_Face (rd_LFace l0_0 x4_2) x5_3).f0) < (l0_0.length : Int) := of_decide_eq_true (by first | (with_reducible assumption) | assumption)
                 obtain ⟨ad114, A114_0, c114_0, e114, hx114_0, hl114_0, hi114_0⟩ := at_LFace HR0_0.out ((rd_Face (rd_LFace l0_0 x4_2) x5_3).f0) p114 q114
                 have hw114_0 := hx114_0
                 obtain rfl : ad105 = ad114 := (by injection e114)
                 replace hx114_0 := (HB.out.cell (yny w _ hx114_0)).trans hx114_0
                 have HR114_0 := Aside0.mk hi114_0
                 have HC114_0 := Aside0.mk hl114_0
                 clear hi114_0 hl114_0
                 replace p114 := eq_true p114
                 replace q114 := eq_true q114
                 have p115 : 0 ≤ (t111 : Int) := of_decide_eq_true (by first | (with_reducible assumption) | assumption)
                 have q115 : t111 < ((rd_LFace l0_0 ((rd_Face (rd_LFace l0_0 x4_2) x5_3).f0)).length : Int) := of_decide_eq_true (by first | (with_reducible assumption) | assumption)
                 obtain ⟨ad115, e115, hx115_0, hx115_1⟩ := at_Face HR114_0.out t111 p115 q115
                 have hw115_1 := hx115_1
                 have hw115_0 := hx115_0
                 cases e115
                 replace hx115_0 := (HB.out.cell (yny w _ hx115_0)).trans hx115_0
                 replace hx115_1 := (HB.out.cell (yny w _ hx115_1)).trans hx115_1
                 replace p115 := eq_true p115
                 replace q115 := eq_true q115
                 have sq0_ : w75.cell? ⟨gb101, 0, none⟩ = some (.slice (some ad105) l0_0.length c0_0) := (blk_cell BK101.out 0).trans rfl
                 have sq1_ : w75.cell? ⟨gb107, 0, none⟩ = some (.int .i64 ((rd_Face (rd_LFace l0_0 x4_2) x5_3).f0)) := (blk_cell BK107.out 0).trans rfl
                 have sq2_ : w75.cell? ⟨gb107, 1, none⟩ = some (.int .i64 ((rd_Face (rd_LFace l0_0 x4_2) x5_3).f1)) := (blk_cell BK107.out 1).trans rfl
                 have sq3_ : w75.cell? ⟨gb113, 0, none⟩ = some (.int .i64 x4_2) := (blk_cell BK113.out 0).trans rfl
                 have sq4_ : w75.cell? ⟨gb113, 1, none⟩ = some (.int .i64 t112) := (blk_cell BK113.out 1).trans rfl
                 have sq5_ : w75.cell? (ad105.add (((rd_Face (rd_LFace l0_0 x4_2) x5_3).f0)).toNat) = some (.slice (some ad115) (rd_LFace l0_0 ((rd_Face (rd_LFace l0_0 x4_2) x5_3).f0)).length c114_0) := ((HB.out.cell (yny w _ hw114_0)).trans hw114_0)
                 have sq6_ : w75.cell? (ad115.add ((t111).toNat * 2)) = some (.int .i64 ((rd_Face (rd_LFace l0_0 ((rd_Face (rd_LFace l0_0 x4_2) x5_3).f0)) t111).f0)) := ((HB.out.cell (yny w _ hw115_0)).trans hw115_0)
                 have sq7_ : w75.cell? ⟨(ad115.add ((t111).toNat * 2)).block, (ad115.add ((t111).toNat * 2)).off + 1, none⟩ = some (.int .i64 ((rd_Face (rd_LFace l0_0 ((rd_Face (rd_LFace l0_0 x4_2) x5_3).f0)) t111).f1)) := ((HB.out.cell (yny w _ hw115_1)).trans hw115_1)
                 go_quiet (fail)
                 generalize hq_ : World.drewN w75 _ = w76
                 have n0_ := Aside0.mk (blk_at hq_ BK101.out)
                 have n1_ := Aside0.mk (blk_at hq_ BK107.out)
                 have n2_ := Aside0.mk (blk_at hq_ BK113.out)
                 have n3_ := Aside0.mk (below_at hq_ HB.out)
                 clear BK101 BK107 BK113 HB hq_ sq0_ sq1_ sq2_ sq3_ sq4_ sq5_ sq6_ sq7_
                 have BK101 := n0_
                 have BK107 := n1_
                 have BK113 := n2_
                 have HB := n3_
                 clear n0_ n1_ n2_ n3_
                 try go_wp2
                 go_ret
                 exact ⟨by first | rfl | (simp [errW_none, errW_some] <;> rfl) | (simp [*, errW_none, errW_some] <;> rfl), by repeat (first | (with_reducible first | exact HB.out | apply below_alloc | apply pw_below_drewN | apply below_drew1 | refine below_set ?_ GE101.out | refine below_set ?_ GE107.out | refine below_set ?_ GE113.out) | exact HB.out)⟩
                next =>
                 rw [if_neg c65] at H
                 have c65b0 : (t111 == x5_3) = false := beq_eq_false_iff_ne.mpr c65
                 have c65b1 : (t111 != x5_3) = true := bne_iff_ne.mpr c65
                 have H' := Aside0.mk H
                 clear H
                 have hnb77 := NB107_101.out
                 have hnc77 := NB101_107.out
                 have hcz78_0 : wc.cell? ⟨gb107, 0, none⟩ = some (.int .i64 ((rd_Face (rd_LFace l0_0 x4_2) x5_3).f0)) := (blk_cell BK107.out 0).trans rfl
                 have hcz78_1 : wc.cell? ⟨gb107, 1, none⟩ = some (.int .i64 ((rd_Face (rd_LFace l0_0 x4_2) x5_3).f1)) := (blk_cell BK107.out 1).trans rfl
                 have hfz78_0 := blk_frozen BK107.out 0
                 have hfz78_1 := blk_frozen BK107.out 1
                 try go_wp2_with (first | ((with_reducible refine gate_callee (f := 68) rfl ?_); refine goesL_ (some 68) rfl rfl Try.func68 (by kernel_rfl) rfl #[.int .i64 ((rd_Face (rd_LFace l0_0 x4_2) x5_3).f1), .int .i64 x5_3] rfl (by (try simp only [yiy, yjy, yky]); first | done | rfl | (simp only [yly, ymy]; rfl)) ?_; (with_reducible refine (spec_l06At.calls kj35 ((rd_Face (rd_LFace l0_0 x4_2) x5_3).f1) x5_3 t111 _ A46.out).mono ?_); rintro e w79 ⟨rfl, hb⟩; refine ⟨_, rfl, ?_⟩; have n0_ := Aside0.mk (blk_below (g := gb101) (o := .cells #[.slice (some ad105) l0_0.length c0_0] 28 (0, 0)) (by (with_reducible repeat (first | refine blk_drewN ?_ _ | refine blk_drew ?_ | refine blk_alloc ?_ _)); exact BK101.out) hb); have n1_ := Aside0.mk (blk_below (g := gb107) (o := .cells #[.int .i64 ((rd_Face (rd_LFace l0_0 x4_2) x5_3).f0), .int .i64 ((rd_Face (rd_LFace l0_0 x4_2) x5_3).f1)] 74 (0, 0)) (by (with_reducible repeat (first | refine blk_drewN ?_ _ | refine blk_drew ?_ | refine blk_alloc ?_ _)); exact BK107.out) hb); have n2_ := Aside0.mk (below_step (by repeat (first | (with_reducible first | exact HB.out | apply below_alloc | apply pw_below_drewN | apply below_drew1 | refine below_set ?_ GE101.out | refine below_set ?_ GE107.out) | exact HB.out)) hb); clear BK101; clear BK107; clear HB; have BK101 := n0_; have BK107 := n1_; have HB := n2_; clear n0_ n1_ n2_; (try clear hb); (try clear hb2); (try clear hk); (try clear hi); have hcz80_0 : w79.cell? ⟨gb107, 0, none⟩ = some (.int .i64 ((rd_Face (rd_LFace l0_0 x4_2) x5_3).f0)) := (blk_cell BK107.out 0).trans rfl; have hcz80_1 : w79.cell? ⟨gb107, 1, none⟩ = some (.int .i64 ((rd_Face (rd_LFace l0_0 x4_2) x5_3).f1)) := (blk_cell BK107.out 1).trans rfl; have hfz80_0 := blk_frozen BK107.out 0; have hfz80_1 := blk_frozen BK107.out 1) | ((with_reducible refine gate_callee (f := 113) rfl ?_); refine goesL_ (some 72) rfl rfl Try.func113 (by kernel_rfl) rfl #[.int .i64 ((rd_Face (rd_LFace l0_0 x4_2) x5_3).f1)] rfl (by (try simp only [yiy, yjy, yky]); first | done | rfl | (simp only [yly, ymy]; rfl)) ?_; (with_reducible refine (spec_l06Back.calls kj35 ((rd_Face (rd_LFace l0_0 x4_2) x5_3).f1) t112 _ A47.out).mono ?_); rintro e w81 ⟨rfl, hb⟩; refine ⟨_, rfl, ?_⟩; have n0_ := Aside0.mk (blk_below (g := gb101) (o := .cells #[.slice (some ad105) l0_0.length c0_0] 28 (0, 0)) (by (with_reducible repeat (first | refine blk_drewN ?_ _ | refine blk_drew ?_ | refine blk_alloc ?_ _)); exact BK101.out) hb); have n1_ := Aside0.mk (blk_below (g := gb107) (o := .cells #[.int .i64 ((rd_Face (rd_LFace l0_0 x4_2) x5_3).f0), .int .i64 ((rd_Face (rd_LFace l0_0 x4_2) x5_3).f1)] 74 (0, 0)) (by (with_reducible repeat (first | refine blk_drewN ?_ _ | refine blk_drew ?_ | refine blk_alloc ?_ _)); exact BK107.out) hb); have n2_ := Aside0.mk (below_step (by repeat (first | (with_reducible first | exact HB.out | apply below_alloc | apply pw_below_drewN | apply below_drew1 | refine below_set ?_ GE101.out | refine below_set ?_ GE107.out) | exact HB.out)) hb); clear BK101; clear BK107; clear HB; have BK101 := n0_; have BK107 := n1_; have HB := n2_; clear n0_ n1_ n2_; (try clear hb); (try clear hb2); (try clear hk); (try clear hi)) | ((with_reducible refine gate_dst (N := 8) rfl ?_); refine box_event ?hg (N := 8) ?hd (cs := #[.int .i64 0, .int .i64 0]) (t := 74) ?hr ?_; (case hd => rfl); (case hg => rfl); (case hr => first | (go_simp; done) | (go_simp; rfl)); intro gb113 hg w82 hbox hb; have n0_ := Aside0.mk (blk_below (g := gb101) (o := .cells #[.slice (some ad105) l0_0.length c0_0] 28 (0, 0)) (by (with_reducible repeat (first | refine blk_drewN ?_ _ | refine blk_drew ?_ | refine blk_alloc ?_ _)); exact BK101.out) hb); have n1_ := Aside0.mk (blk_below (g := gb107) (o := .cells #[.int .i64 ((rd_Face (rd_LFace l0_0 x4_2) x5_3).f0), .int .i64 ((rd_Face (rd_LFace l0_0 x4_2) x5_3).f1)] 74 (0, 0)) (by (with_reducible repeat (first | refine blk_drewN ?_ _ | refine blk_drew ?_ | refine blk_alloc ?_ _)); exact BK107.out) hb); have n2_ := Aside0.mk (below_step (by repeat (first | (with_reducible first | exact HB.out | apply below_alloc | apply pw_below_drewN | apply below_drew1 | refine below_set ?_ GE101.out | refine below_set ?_ GE107.out) | exact HB.out)) hb); have n3_ := Aside0.mk (hbox); have n4_ := Aside0.mk ((by rw [hg]; exact (below_size (by repeat (first | (with_reducible first | exact HB.out | apply below_alloc | apply pw_below_drewN | apply below_drew1 | refine below_set ?_ GE101.out | refine below_set ?_ GE107.out) | exact HB.out))) : w.heap.size ≤ gb113)); have n5_ := Aside0.mk ((by rw [hg]; exact (below_size (by repeat (first | (with_reducible first | exact HB.out | apply below_alloc | apply pw_below_drewN | apply below_drew1 | refine below_set ?_ GE101.out | refine below_set ?_ GE107.out) | exact HB.out))) : w.heap.size ≤ gb113)); have n6_ := Aside0.mk ((by rw [hg]; exact Nat.ne_of_lt (blk_lt (g := gb101) (o := .cells #[.slice (some ad105) l0_0.length c0_0] 28 (0, 0)) (by (with_reducible repeat (first | refine blk_drewN ?_ _ | refine blk_drew ?_ | refine blk_alloc ?_ _)); exact BK101.out)) : gb101 ≠ gb113)); have n7_ := Aside0.mk ((by rw [hg]; exact Nat.ne_of_gt (blk_lt (g := gb101) (o := .cells #[.slice (some ad105) l0_0.length c0_0] 28 (0, 0)) (by (with_reducible repeat (first | refine blk_drewN ?_ _ | refine blk_drew ?_ | refine blk_alloc ?_ _)); exact BK101.out)) : gb113 ≠ gb101)); have n8_ := Aside0.mk ((by rw [hg]; exact Nat.ne_of_lt (blk_lt (g := gb107) (o := .cells #[.int .i64 ((rd_Face (rd_LFace l0_0 x4_2) x5_3).f0), .int .i64 ((rd_Face (rd_LFace l0_0 x4_2) x5_3).f1)] 74 (0, 0)) (by (with_reducible repeat (first | refine blk_drewN ?_ _ | refine blk_drew ?_ | refine blk_alloc ?_ _)); exact BK107.out)) : gb107 ≠ gb113)); have n9_ := Aside0.mk ((by rw [hg]; exact Nat.ne_of_gt (blk_lt (g := gb107) (o := .cells #[.int .i64 ((rd_Face (rd_LFace l0_0 x4_2) x5_3).f0), .int .i64 ((rd_Face (rd_LFace l0_0 x4_2) x5_3).f1)] 74 (0, 0)) (by (with_reducible repeat (first | refine blk_drewN ?_ _ | refine blk_drew ?_ | refine blk_alloc ?_ _)); exact BK107.out)) : gb113 ≠ gb107)); clear BK101; clear BK107; clear HB; have BK101 := n0_; have BK107 := n1_; have HB := n2_; have BK113 := n3_; have GW113 := n4_; have GE113 := n5_; have NB101_113 := n6_; have NB113_101 := n7_; have NB107_113 := n8_; have NB113_107 := n9_; clear n0_ n1_ n2_ n3_ n4_ n5_ n6_ n7_ n8_ n9_; clear hb hbox hg; have hnb83 := NB113_101.out; have hnc83 := NB101_113.out; have hnb84 := NB113_107.out; have hnc84 := NB107_113.out; have hcz85_0 : w82.cell? ⟨gb113, 0, none⟩ = some (.int .i64 0) := (blk_cell BK113.out 0).trans rfl; have hcz85_1 : w82.cell? ⟨gb113, 1, none⟩ = some (.int .i64 0) := (blk_cell BK113.out 1).trans rfl; have hfz85_0 := blk_frozen BK113.out 0; have hfz85_1 := blk_frozen BK113.out 1))
                 have n0_ : Aside0 (((w82.setCell ⟨gb113, 0, none⟩ (.int .i64 x4_2)).setCell ⟨gb113, 1, none⟩ (.int .i64 t112)).heap[gb101]? = some (.cells #[.slice (some ad105) l0_0.length c0_0] 28 (0, 0))) := ⟨by (with_reducible repeat (first | refine blk_drewN ?_ _ | refine blk_drew ?_ | refine blk_alloc ?_ _)); refine blk_far ?_ NB101_113.out _; (with_reducible repeat (first | refine blk_drewN ?_ _ | refine blk_drew ?_ | refine blk_alloc ?_ _)); refine blk_far ?_ NB101_113.out _; (with_reducible repeat (first | refine blk_drewN ?_ _ | refine blk_drew ?_ | refine blk_alloc ?_ _)); exact BK101.out⟩
                 have n1_ : Aside0 (((w82.setCell ⟨gb113, 0, none⟩ (.int .i64 x4_2)).setCell ⟨gb113, 1, none⟩ (.int .i64 t112)).heap[gb107]? = some (.cells #[.int .i64 ((rd_Face (rd_LFace l0_0 x4_2) x5_3).f0), .int .i64 ((rd_Face (rd_LFace l0_0 x4_2) x5_3).f1)] 74 (0, 0))) := ⟨by (with_reducible repeat (first | refine blk_drewN ?_ _ | refine blk_drew ?_ | refine blk_alloc ?_ _)); refine blk_far ?_ NB107_113.out _; (with_reducible repeat (first | refine blk_drewN ?_ _ | refine blk_drew ?_ | refine blk_alloc ?_ _)); refine blk_far ?_ NB107_113.out _; (with_reducible repeat (first | refine blk_drewN ?_ _ | refine blk_drew ?_ | refine blk_alloc ?_ _)); exact BK107.out⟩
                 have n2_ : Aside0 (((w82.setCell ⟨gb113, 0, none⟩ (.int .i64 x4_2)).setCell ⟨gb113, 1, none⟩ (.int .i64 t112)).heap[gb113]? = some (.cells #[.int .i64 x4_2, .int .i64 t112] 74 (0, 0))) := ⟨by (with_reducible repeat (first | refine blk_drewN ?_ _ | refine blk_drew ?_ | refine blk_alloc ?_ _)); refine blk_put (cs := #[.int .i64 x4_2, .int .i64 0]) ?_ 1 _ rfl; (with_reducible repeat (first | refine blk_drewN ?_ _ | refine blk_drew ?_ | refine blk_alloc ?_ _)); refine blk_put (cs := #[.int .i64 0, .int .i64 0]) ?_ 0 _ rfl; (with_reducible repeat (first | refine blk_drewN ?_ _ | refine blk_drew ?_ | refine blk_alloc ?_ _)); exact BK113.out⟩
                 have n3_ : Aside0 (Below w.heap.size w ((w82.setCell ⟨gb113, 0, none⟩ (.int .i64 x4_2)).setCell ⟨gb113, 1, none⟩ (.int .i64 t112))) := ⟨by repeat (first | (with_reducible first | exact HB.out | apply below_alloc | apply pw_below_drewN | apply below_drew1 | refine below_set ?_ GE101.out | refine below_set ?_ GE107.out | refine below_set ?_ GE113.out) | exact HB.out)⟩
                 (try clear BK101)
                 (try clear BK107)
                 (try clear BK113)
                 (try clear HB)
                 generalize ((w82.setCell ⟨gb113, 0, none⟩ (.int .i64 x4_2)).setCell ⟨gb113, 1, none⟩ (.int .i64 t112)) = w86 at n0_ n1_ n2_ n3_ ⊢
                 have BK101 := n0_
                 have BK107 := n1_
                 have BK113 := n2_
                 have HB := n3_
                 clear n0_ n1_ n2_ n3_
                 have p114 : 0 ≤ (((rd_Face (rd_LFace l0_0 x4_2) x5_3).f0) : Int) := of_decide_eq_true (by first | (with_reducible assumption) | assumption)
                 have q114 : ((rd_Face (rd_LFace l0_0 x4_2) x5_3).f0) < (l0_0.length : Int) := of_decide_eq_true (by first | (with_reducible assumption) | assumption)
                 obtain ⟨ad114, A114_0, c114_0, e114, hx114_0, hl114_0, hi114_0⟩ := at_LFace HR0_0.out ((rd_Face (rd_LFace l0_0 x4_2) x5_3).f0) p114 q114
                 have hw114_0 := hx114_0
                 obtain rfl : ad105 = ad114 := (by injection e114)
                 replace hx114_0 := (HB.out.cell (yny w _ hx114_0)).trans hx114_0
                 have HR114_0 := Aside0.mk hi114_0
                 have HC114_0 := Aside0.mk hl114_0
                 clear hi114_0 hl114_0
                 replace p114 := eq_true p114
                 replace q114 := eq_true q114
                 have p115 : 0 ≤ (t111 : Int) := of_decide_eq_true (by first | (with_reducible assumption) | assumption)
                 have q115 : t111 < ((rd_LFace l0_0 ((rd_Face (rd_LFace l0_0 x4_2) x5_3).f0)).length : Int) := of_decide_eq_true (by first | (with_reducible assumption) | assumption)
                 obtain ⟨ad115, e115, hx115_0, hx115_1⟩ := at_Face HR114_0.out t111 p115 q115
                 have hw115_1 := hx115_1
                 have hw115_0 := hx115_0
                 cases e115
                 replace hx115_0 := (HB.out.cell (yny w _ hx115_0)).trans hx115_0
                 replace hx115_1 := (HB.out.cell (yny w _ hx115_1)).trans hx115_1
                 replace p115 := eq_true p115
                 replace q115 := eq_true q115
                 have sq0_ : w86.cell? ⟨gb101, 0, none⟩ = some (.slice (some ad105) l0_0.length c0_0) := (blk_cell BK101.out 0).trans rfl
                 have sq1_ : w86.cell? ⟨gb107, 0, none⟩ = some (.int .i64 ((rd_Face (rd_LFace l0_0 x4_2) x5_3).f0)) := (blk_cell BK107.out 0).trans rfl
                 have sq2_ : w86.cell? ⟨gb107, 1, none⟩ = some (.int .i64 ((rd_Face (rd_LFace l0_0 x4_2) x5_3).f1)) := (blk_cell BK107.out 1).trans rfl
                 have sq3_ : w86.cell? ⟨gb113, 0, none⟩ = some (.int .i64 x4_2) := (blk_cell BK113.out 0).trans rfl
                 have sq4_ : w86.cell? ⟨gb113, 1, none⟩ = some (.int .i64 t112) := (blk_cell BK113.out 1).trans rfl
                 have sq5_ : w86.cell? (ad105.add (((rd_Face (rd_LFace l0_0 x4_2) x5_3).f0)).toNat) = some (.slice (some ad115) (rd_LFace l0_0 ((rd_Face (rd_LFace l0_0 x4_2) x5_3).f0)).length c114_0) := ((HB.out.cell (yny w _ hw114_0)).trans hw114_0)
                 have sq6_ : w86.cell? (ad115.add ((t111).toNat * 2)) = some (.int .i64 ((rd_Face (rd_LFace l0_0 ((rd_Face (rd_LFace l0_0 x4_2) x5_3).f0)) t111).f0)) := ((HB.out.cell (yny w _ hw115_0)).trans hw115_0)
                 have sq7_ : w86.cell? ⟨(ad115.add ((t111).toNat * 2)).block, (ad115.add ((t111).toNat * 2)).off + 1, none⟩ = some (.int .i64 ((rd_Face (rd_LFace l0_0 ((rd_Face (rd_LFace l0_0 x4_2) x5_3).f0)) t111).f1)) := ((HB.out.cell (yny w _ hw115_1)).trans hw115_1)
                 go_quiet (fail)
                 generalize hq_ : World.drewN w86 _ = w87
                 have n0_ := Aside0.mk (blk_at hq_ BK101.out)
                 have n1_ := Aside0.mk (blk_at hq_ BK107.out)
                 have n2_ := Aside0.mk (blk_at hq_ BK113.out)
                 have n3_ := Aside0.mk (below_at hq_ HB.out)
                 clear BK101 BK107 BK113 HB hq_ sq0_ sq1_ sq2_ sq3_ sq4_ sq5_ sq6_ sq7_
                 have BK101 := n0_
                 have BK107 := n1_
                 have BK113 := n2_
                 have HB := n3_
                 clear n0_ n1_ n2_ n3_
                 try go_wp2
                 go_roundg kj35
                 case measure => have := HK1.out; have := HK2.out; have := HK3.out; have := HJ24.out; have := HJ35.out; omega
                 case rel => exact ⟨(wrap64 (x5_3 + 1)), (by first | rfl | (simp; done) | (simp [*]; done)), H', ⟨by have := HK1.out; have := HK2.out; have := HK3.out; have := HJ24.out; have := HJ35.out; omega⟩, ⟨by (with_reducible repeat (first | refine blk_drewN ?_ _ | refine blk_drew ?_ | refine blk_alloc ?_ _)); exact BK101.out⟩, ⟨by repeat (first | (with_reducible first | exact HB.out | apply below_alloc | apply pw_below_drewN | apply below_drew1 | refine below_set ?_ GE101.out | refine below_set ?_ GE107.out | refine below_set ?_ GE113.out) | exact HB.out)⟩⟩
end
/-! l07Glue, in the print's words. -/
def spec_l07Glue.f (k : Nat) (t : List (List SFace)) (a f b p : Int) : Option (List (List SFace)) := (spec_l06At.f k p f).bind fun g => (spec_l06Back.f k p).bind fun q =>
  if (0 ≤ a ∧ a < t.length ∧ 0 ≤ f ∧ f < (rd_LFace t a).length) ∧ (0 ≤ b ∧ b < t.length ∧ 0 ≤ g ∧ g < (rd_LFace (putF t a f ⟨b, p⟩) b).length) then some (putF (putF t a f ⟨b, p⟩) b g ⟨a, q⟩) else none
theorem spec_l07Glue.calls (k : Nat) (P0_ : Nat → Prop) (v : Value) (t : List (List SFace)) (a f b p : Int) (r : List (List SFace)) (w0 w : World) (hB : Below w0.heap.size w0 w) (ho0 : Kd.S (Kd.slice 74 kFace) 75 w w0.heap.size P0_ v t) (h : spec_l07Glue.f k t a f b p = some r) :
    Calls Try.prog 70 #[.agg #[v], .int .i64 a, .int .i64 f, .int .i64 b, .int .i64 p] w fun e w' => e = .returned (.tuple #[]) ∧ Kd.S (Kd.slice 74 kFace) 75 w' w0.heap.size P0_ v r ∧ Below w0.heap.size w0 w' ∧ Kept w w' P0_ := by
  obtain ⟨g, hg, h⟩ := ydy.mp h
  obtain ⟨q, hq, h⟩ := ydy.mp h
  split at h
  · rename_i hc
    obtain ⟨⟨a0, a1, f0, f1⟩, b0, b1, g0, g1⟩ := hc
    rw [← yey h]
    exact spec_l07Glue.raw k P0_ v t a f b p g q w0 w hB ho0 a0 a1 f0 f1 b0 b1 g0 g1 hg hq
  · cases h
/-! ### spec_l07Own: function 69 -/
def spec_l07Own.l0 : Nat → Int → List (List (SFace)) → List (List (SFace)) → Option ((List (List (SFace))))
 | 0, _, _, _ => none
 | k + 1, x4, x102000, x104000 => if x4 < (x102000.length : Int) then ((some (([] : List (SFace)) : List (SFace))).bind fun y104 => (if 0 ≤ x4 then (if y104.length + (rd_LFace x102000 x4).length < 8796093022208 then (if x104000.length < 5864062014805 then (spec_l07Own.l0 k (wrap64 (x4 + 1)) x102000 (x104000 ++ [(y104 ++ (rd_LFace x102000 x4))])) else (none)) else (none)) else (none))) else (some x104000)
def spec_l07Own.f (k : Nat) (l0_0 : List (List (SFace))) : Option ((List (List (SFace)))) := spec_l07Own.l0 k 0 l0_0 ([] : List (List (SFace)))
def spec_l07Own.T5 : Bool × List (List Nat × List Nat) := (true, [([], []), ([0], [0]), ([], []), ([], []), ([3], [3]), ([], []), ([4, 5], [4, 5]), ([6], [6]), ([2, 7], [2, 7]), ([8], [8]), ([1, 9, 8], [1, 9]), ([0, 1, 2, 3, 4, 5, 6, 7, 8, 9, 10], []), ([11, 10, 10, 0, 1, 2, 3, 4, 5, 6, 7, 8, 9, 10], [10, 11])])
def spec_l07Own.B5 : List Nat := [0, 1, 0, 0, 8, 0, 56, 120, 252, 508, 1023, 2047, 4095]
theorem spec_l07Own.tab5 : rtab .any (opsOf Try.f69 5) = spec_l07Own.T5 := by kernel_rfl
theorem spec_l07Own.bits5 : waitsOk spec_l07Own.T5.2 spec_l07Own.B5 = true := by kernel_rfl
set_option maxHeartbeats 8000000 in
set_option maxRecDepth 100000 in
theorem spec_l07Own.calls (k : Nat) (A0_0 : Option Addr) (c0_0 : Nat) (l0_0 : List (List (SFace))) (r : List (List (SFace))) (w : World) (hr0_0 : Kd.C (Kd.slice 74 kFace) w A0_0 l0_0.length l0_0) (hc0_0 : l0_0.length ≤ c0_0) (h : spec_l07Own.f k l0_0 = some r) :
 Calls Try.prog 69 #[.agg #[.slice A0_0 l0_0.length c0_0]] w fun e w' => ∃ v0_ : Value, e = .returned (.agg #[v0_]) ∧ Kd.S (Kd.slice 74 kFace) 75 w' w.heap.size (fun _ => True) v0_ r ∧ Below w.heap.size w w' := by
 have hu28 := Try.underlying28
 have HR0_0 := Aside0.mk hr0_0
 have HC0_0 := Aside0.mk hc0_0
 clear hr0_0 hc0_0
 have HB := Aside0.mk (Below.refl w.heap.size w)
 have H : (spec_l07Own.l0 k 0 l0_0 ([] : List (List (SFace)))) = some r := h
 clear h
 have H' := Aside0.mk H
 clear H
 go_enter Try.func69, Try.ntmps69
 go_wp2_with (first | ((with_reducible refine gate_dst (N := 1) rfl ?_); refine box_event ?hg (N := 1) ?hd (cs := #[.slice A0_0 l0_0.length c0_0]) (t := 28) ?hr ?_; (case hd => rfl); (case hg => rfl); (case hr => first | (go_simp; done) | (go_simp; rfl)); intro gb101 hg w2 hbox hb; have n0_ := Aside0.mk (below_step (by repeat (first | (with_reducible first | exact HB.out | apply below_alloc | apply pw_below_drewN | apply below_drew1) | exact HB.out)) hb); have n1_ := Aside0.mk (hbox); have n2_ := Aside0.mk ((by rw [hg]; exact (below_size (by repeat (first | (with_reducible first | exact HB.out | apply below_alloc | apply pw_below_drewN | apply below_drew1) | exact HB.out))) : w.heap.size ≤ gb101)); have n3_ := Aside0.mk ((by rw [hg]; exact (below_size (by repeat (first | (with_reducible first | exact HB.out | apply below_alloc | apply pw_below_drewN | apply below_drew1) | exact HB.out))) : w.heap.size ≤ gb101)); clear HB; have HB := n0_; have BK101 := n1_; have GW101 := n2_; have GE101 := n3_; clear n0_ n1_ n2_ n3_; clear hb hbox hg) | ((with_reducible refine gate_dst (N := 2) rfl ?_); refine box_event ?hg (N := 2) ?hd (cs := #[.slice none 0 0]) (t := 28) ?hr ?_; (case hd => rfl); (case hg => rfl); (case hr => first | (go_simp; done) | (go_simp; rfl)); intro gb102 hg w3 hbox hb; have n0_ := Aside0.mk (blk_below (g := gb101) (o := .cells #[.slice A0_0 l0_0.length c0_0] 28 (0, 0)) (by (with_reducible repeat (first | refine blk_drewN ?_ _ | refine blk_drew ?_ | refine blk_alloc ?_ _)); exact BK101.out) hb); have n1_ := Aside0.mk (below_step (by repeat (first | (with_reducible first | exact HB.out | apply below_alloc | apply pw_below_drewN | apply below_drew1 | refine below_set ?_ GE101.out) | exact HB.out)) hb); have n2_ := Aside0.mk (hbox); have n3_ := Aside0.mk ((by rw [hg]; exact (below_size (by repeat (first | (with_reducible first | exact HB.out | apply below_alloc | apply pw_below_drewN | apply below_drew1 | refine below_set ?_ GE101.out) | exact HB.out))) : w.heap.size ≤ gb102)); have n4_ := Aside0.mk ((by rw [hg]; exact (below_size (by repeat (first | (with_reducible first | exact HB.out | apply below_alloc | apply pw_below_drewN | apply below_drew1 | refine below_set ?_ GE101.out) | exact HB.out))) : w.heap.size ≤ gb102)); have n5_ := Aside0.mk ((by rw [hg]; exact Nat.ne_of_lt (blk_lt (g := gb101) (o := .cells #[.slice A0_0 l0_0.length c0_0] 28 (0, 0)) (by (with_reducible repeat (first | refine blk_drewN ?_ _ | refine blk_drew ?_ | refine blk_alloc ?_ _)); exact BK101.out)) : gb101 ≠ gb102)); have n6_ := Aside0.mk ((by rw [hg]; exact Nat.ne_of_gt (blk_lt (g := gb101) (o := .cells #[.slice A0_0 l0_0.length c0_0] 28 (0, 0)) (by (with_reducible repeat (first | refine blk_drewN ?_ _ | refine blk_drew ?_ | refine blk_alloc ?_ _)); exact BK101.out)) : gb102 ≠ gb101)); clear BK101; clear HB; have BK101 := n0_; have HB := n1_; have BK102 := n2_; have GW102 := n3_; have GE102 := n4_; have NB101_102 := n5_; have NB102_101 := n6_; clear n0_ n1_ n2_ n3_ n4_ n5_ n6_; clear hb hbox hg) | ((with_reducible refine gate_dst (N := 3) rfl ?_); refine box_event ?hg (N := 3) ?hd (cs := #[.slice none 0 0]) (t := 28) ?hr ?_; (case hd => rfl); (case hg => rfl); (case hr => first | (go_simp; done) | (go_simp; rfl)); intro gb103 hg w4 hbox hb; have n0_ := Aside0.mk (blk_below (g := gb101) (o := .cells #[.slice A0_0 l0_0.length c0_0] 28 (0, 0)) (by (with_reducible repeat (first | refine blk_drewN ?_ _ | refine blk_drew ?_ | refine blk_alloc ?_ _)); exact BK101.out) hb); have n1_ := Aside0.mk (blk_below (g := gb102) (o := .cells #[.slice none 0 0] 28 (0, 0)) (by (with_reducible repeat (first | refine blk_drewN ?_ _ | refine blk_drew ?_ | refine blk_alloc ?_ _)); exact BK102.out) hb); have n2_ := Aside0.mk (below_step (by repeat (first | (with_reducible first | exact HB.out | apply below_alloc | apply pw_below_drewN | apply below_drew1 | refine below_set ?_ GE101.out | refine below_set ?_ GE102.out) | exact HB.out)) hb); have n3_ := Aside0.mk (hbox); have n4_ := Aside0.mk ((by rw [hg]; exact (below_size (by repeat (first | (with_reducible first | exact HB.out | apply below_alloc | apply pw_below_drewN | apply below_drew1 | refine below_set ?_ GE101.out | refine below_set ?_ GE102.out) | exact HB.out))) : w.heap.size ≤ gb103)); have n5_ := Aside0.mk ((by rw [hg]; exact (below_size (by repeat (first | (with_reducible first | exact HB.out | apply below_alloc | apply pw_below_drewN | apply below_drew1 | refine below_set ?_ GE101.out | refine below_set ?_ GE102.out) | exact HB.out))) : w.heap.size ≤ gb103)); have n6_ := Aside0.mk ((by rw [hg]; exact Nat.ne_of_lt (blk_lt (g := gb101) (o := .cells #[.slice A0_0 l0_0.length c0_0] 28 (0, 0)) (by (with_reducible repeat (first | refine blk_drewN ?_ _ | refine blk_drew ?_ | refine blk_alloc ?_ _)); exact BK101.out)) : gb101 ≠ gb103)); have n7_ := Aside0.mk ((by rw [hg]; exact Nat.ne_of_gt (blk_lt (g := gb101) (o := .cells #[.slice A0_0 l0_0.length c0_0] 28 (0, 0)) (by (with_reducible repeat (first | refine blk_drewN ?_ _ | refine blk_drew ?_ | refine blk_alloc ?_ _)); exact BK101.out)) : gb103 ≠ gb101)); have n8_ := Aside0.mk ((by rw [hg]; exact Nat.ne_of_lt (blk_lt (g := gb102) (o := .cells #[.slice none 0 0] 28 (0, 0)) (by (with_reducible repeat (first | refine blk_drewN ?_ _ | refine blk_drew ?_ | refine blk_alloc ?_ _)); exact BK102.out)) : gb102 ≠ gb103)); have n9_ := Aside0.mk ((by rw [hg]; exact Nat.ne_of_gt (blk_lt (g := gb102) (o := .cells #[.slice none 0 0] 28 (0, 0)) (by (with_reducible repeat (first | refine blk_drewN ?_ _ | refine blk_drew ?_ | refine blk_alloc ?_ _)); exact BK102.out)) : gb103 ≠ gb102)); clear BK101; clear BK102; clear HB; have BK101 := n0_; have BK102 := n1_; have HB := n2_; have BK103 := n3_; have GW103 := n4_; have GE103 := n5_; have NB101_103 := n6_; have NB103_101 := n7_; have NB102_103 := n8_; have NB103_102 := n9_; clear n0_ n1_ n2_ n3_ n4_ n5_ n6_ n7_ n8_ n9_; clear hb hbox hg; have hnb5 := NB103_101.out; have hnc5 := NB101_103.out; have hnb6 := NB103_102.out; have hnc6 := NB102_103.out; have hcz7_0 : w4.cell? ⟨gb103, 0, none⟩ = some (.slice none 0 0) := (blk_cell BK103.out 0).trans rfl; have hfz7_0 := blk_frozen BK103.out 0))
 go_loopg [4] k (fun kq v4 w' => ∃ (x4_1 : Int) (x104000_1 : List (List (SFace))) (u104000 : Value), v4 = .int .i64 x4_1 ∧ Aside0 (spec_l07Own.l0 kq x4_1 l0_0 x104000_1 = some r) ∧ Aside0 (kq ≤ k) ∧ Aside0 (Kd.S (Kd.slice 74 kFace) 75 w' w.heap.size (fun _ => True) u104000 x104000_1) ∧ Aside0 (w'.heap[gb101]? = some (.cells #[(.slice A0_0 l0_0.length c0_0)] 28 (0, 0))) ∧ Aside0 (w'.heap[gb102]? = some (.cells #[(.slice none 0 0)] 28 (0, 0))) ∧ Aside0 (w'.heap[gb103]? = some (.cells #[u104000] 28 (0, 0))) ∧ Aside0 (Below w.heap.size w w'))
 case atStart => exact ⟨(0), (([] : List (List (SFace)))), (.slice none 0 0), (by first | rfl | (simp; done) | (simp [*]; done)), H', ⟨yoy _⟩, ⟨by first | exact Kd.S_nil _ _ _ _ _ | exact Kd.N_nil _ _ _ _ _ | exact Kd.V_nil _ _ _ _ _ | exact Kd.Q_nil _ _ _ _ _ | exact Kd.R_nil _ _ _ _ _⟩, ⟨by (with_reducible repeat (first | refine blk_drewN ?_ _ | refine blk_drew ?_ | refine blk_alloc ?_ _)); refine blk_far ?_ NB101_103.out _; (with_reducible repeat (first | refine blk_drewN ?_ _ | refine blk_drew ?_ | refine blk_alloc ?_ _)); exact BK101.out⟩, ⟨by (with_reducible repeat (first | refine blk_drewN ?_ _ | refine blk_drew ?_ | refine blk_alloc ?_ _)); refine blk_far ?_ NB102_103.out _; (with_reducible repeat (first | refine blk_drewN ?_ _ | refine blk_drew ?_ | refine blk_alloc ?_ _)); exact BK102.out⟩, ⟨by (with_reducible repeat (first | refine blk_drewN ?_ _ | refine blk_drew ?_ | refine blk_alloc ?_ _)); refine blk_put (cs := #[.slice none 0 0]) ?_ 0 _ rfl; (with_reducible repeat (first | refine blk_drewN ?_ _ | refine blk_drew ?_ | refine blk_alloc ?_ _)); exact BK103.out⟩, ⟨by repeat (first | (with_reducible first | exact HB.out | apply below_alloc | apply pw_below_drewN | apply below_drew1 | refine below_set ?_ GE101.out | refine below_set ?_ GE102.out | refine below_set ?_ GE103.out) | exact HB.out)⟩⟩
 case round =>
  clear H'
  try clear p2
  try clear c5
  try clear c6
  try clear hcz7_0
  try clear hfz7_0
  obtain ⟨x4_1, x104000_1, u104000, rfl, HA, HK1, HO_104000, BK101, BK102, BK103, HB⟩ := hrel
  cases gk with
  | zero => exact absurd HA.out (by simp [spec_l07Own.l0])
  | succ k1 =>
   have H := HA.out
   clear HA
   simp only [spec_l07Own.l0] at H
   by_cases c8 : x4_1 < (l0_0.length : Int)
   rotate_left
   next =>
    rw [if_neg c8] at H
    have c8b0 : decide (x4_1 < (l0_0.length : Int)) = false := yhy c8
    clear c8
    obtain rfl := yey H
    have hnb23 := NB101_102.out
    have hnc23 := NB102_101.out
    have hnb24 := NB101_103.out
    have hnc24 := NB103_101.out
    have hcz25_0 : wr.cell? ⟨gb101, 0, none⟩ = some (.slice A0_0 l0_0.length c0_0) := (blk_cell BK101.out 0).trans rfl
    have hfz25_0 := blk_frozen BK101.out 0
    have hnb26 := NB103_102.out
    have hnc26 := NB102_103.out
    have hcz27_0 : wr.cell? ⟨gb103, 0, none⟩ = some (u104000) := (blk_cell BK103.out 0).trans rfl
    have hfz27_0 := blk_frozen BK103.out 0
    obtain ⟨Ao28, co28, eo28⟩ := Kd.S_slice HO_104000.out
    subst eo28
    have hcz29_0 : wr.cell? ⟨gb102, 0, none⟩ = some (.slice none 0 0) := (blk_cell BK102.out 0).trans rfl
    have hfz29_0 := blk_frozen BK102.out 0
    go_wp2
    refine bodyPost_ret (results_cell_row rfl _ _ gb102 28 #[.slice Ao28 x104000_1.length co28] (0, 0) _ rfl (by (with_reducible repeat (first | refine blk_drewN ?_ _ | refine blk_drew ?_ | refine blk_alloc ?_ _)); refine blk_put (cs := #[.slice none 0 0]) ?_ 0 _ rfl; (with_reducible repeat (first | refine blk_drewN ?_ _ | refine blk_drew ?_ | refine blk_alloc ?_ _)); exact BK102.out) Try.underlying28 rfl (by kernel_rfl)) rfl ?_
    exact ⟨_, by first | rfl | (simp [errW_none, errW_some] <;> rfl) | (simp [*, errW_none, errW_some] <;> rfl), by (with_reducible repeat (first | apply Kd.S_alloc | apply Kd.S_drewN | apply Kd.S_drew)); exact Kd.S_mono (Kd.S_far (p := ⟨gb102, 0, none⟩) (Kd.S_types HO_104000.out BK102.out (by decide)) (fun _ hk => hk.2) (.slice Ao28 x104000_1.length co28)) (fun _ hk => trivial), by repeat (first | (with_reducible first | exact HB.out | apply below_alloc | apply pw_below_drewN | apply below_drew1 | refine below_set ?_ GE101.out | refine below_set ?_ GE102.out | refine below_set ?_ GE103.out) | exact HB.out)⟩
   rw [if_pos c8] at H
   have c8b0 : decide (x4_1 < (l0_0.length : Int)) = true := ygy c8
   clear c8
   obtain ⟨y104, hy104⟩ : ∃ y_ : List (SFace), y_ = (([] : List (SFace))) := ⟨_, rfl⟩
   replace H : (if 0 ≤ x4_1 then (if y104.length + (rd_LFace l0_0 x4_1).length < 8796093022208 then (if x104000_1.length < 5864062014805 then (spec_l07Own.l0 k1 (wrap64 (x4_1 + 1)) l0_0 (x104000_1 ++ [(y104 ++ (rd_LFace l0_0 x4_1))])) else (none)) else (none)) else (none)) = some r := by first | (rw [hy104]; with_reducible exact H) | (have H2_ := (yfy _ _).symm.trans H; rw [hy104]; with_reducible exact H2_) | (have H2_ := (yfy _ _).symm.trans H; with_reducible exact H2_) | with_reducible exact H | (rw [hy104]; exact H) | exact H
   have Ny104 := Aside0.mk hy104
   clear hy104
   by_cases c9 : 0 ≤ x4_1
   rotate_left
   next =>
    rw [if_neg c9] at H
    exact absurd H (by simp)
   rw [if_pos c9] at H
   have c9b0 : decide (0 ≤ x4_1) = true := ygy c9
   clear c9
   by_cases c10 : y104.length + (rd_LFace l0_0 x4_1).length < 8796093022208
   rotate_left
   next =>
    rw [if_neg c10] at H
    exact absurd H (by simp)
   rw [if_pos c10] at H
   have LMc10 := Aside0.mk c10
   clear c10
   obtain ⟨y108, hy108⟩ : ∃ y_ : List (SFace), y_ = (y104 ++ (rd_LFace l0_0 x4_1)) := ⟨_, rfl⟩
   replace H : (if x104000_1.length < 5864062014805 then (spec_l07Own.l0 k1 (wrap64 (x4_1 + 1)) l0_0 (x104000_1 ++ [y108])) else (none)) = some r := by first | (rw [hy108]; with_reducible exact H) | (have H2_ := (yfy _ _).symm.trans H; rw [hy108]; with_reducible exact H2_) | (have H2_ := (yfy _ _).symm.trans H; with_reducible exact H2_) | with_reducible exact H | (rw [hy108]; exact H) | exact H
   have Ny108 := Aside0.mk hy108
   clear hy108
   by_cases c11 : x104000_1.length < 5864062014805
   rotate_left
   next =>
    rw [if_neg c11] at H
    exact absurd H (by simp)
   rw [if_pos c11] at H
   have LMc11 := Aside0.mk c11
   clear c11
   obtain ⟨y111, hy111⟩ : ∃ y_ : List (List (SFace)), y_ = (x104000_1 ++ [y108]) := ⟨_, rfl⟩
   replace H : (spec_l07Own.l0 k1 (wrap64 (x4_1 + 1)) l0_0 y111) = some r := by first | (rw [hy111]; with_reducible exact H) | (have H2_ := (yfy _ _).symm.trans H; rw [hy111]; with_reducible exact H2_) | (have H2_ := (yfy _ _).symm.trans H; with_reducible exact H2_) | with_reducible exact H | (rw [hy111]; exact H) | exact H
   have Ny111 := Aside0.mk hy111
   clear hy111
   have H' := Aside0.mk H
   clear H
   have hnb12 := NB101_102.out
   have hnc12 := NB102_101.out
   have hnb13 := NB101_103.out
   have hnc13 := NB103_101.out
   have hcz14_0 : wr.cell? ⟨gb101, 0, none⟩ = some (.slice A0_0 l0_0.length c0_0) := (blk_cell BK101.out 0).trans rfl
   have hfz14_0 := blk_frozen BK101.out 0
   try go_wp2
   have n0_ := Aside0.mk (Kd.S_drew HO_104000.out)
   have n1_ := Aside0.mk (blk_drew BK101.out)
   have n2_ := Aside0.mk (blk_drew BK102.out)
   have n3_ := Aside0.mk (blk_drew BK103.out)
   have n4_ := Aside0.mk (below_drew1 HB.out)
   clear HO_104000
   clear BK101
   clear BK102
   clear BK103
   clear HB
   have HO_104000 := n0_
   have BK101 := n1_
   have BK102 := n2_
   have BK103 := n3_
   have HB := n4_
   clear n0_ n1_ n2_ n3_ n4_
   have p107 : 0 ≤ (x4_1 : Int) := of_decide_eq_true (by first | (with_reducible assumption) | assumption)
   have q107 : x4_1 < (l0_0.length : Int) := of_decide_eq_true (by first | (with_reducible assumption) | assumption)
   obtain ⟨ad107, A107_0, c107_0, e107, hx107_0, hl107_0, hi107_0⟩ := at_LFace HR0_0.out x4_1 p107 q107
   have hw107_0 := hx107_0
   cases e107
   replace hx107_0 := (HB.out.cell (yny w _ hx107_0)).trans hx107_0
   have HR107_0 := Aside0.mk hi107_0
   have HC107_0 := Aside0.mk hl107_0
   clear hi107_0 hl107_0
   replace p107 := eq_true p107
   replace q107 := eq_true q107
   refine start_ (n := 13) (S := fun w' => w'.cell? ⟨gb103, 0, none⟩ = some (u104000) ∧ w'.cell? ⟨gb101, 0, none⟩ = some (.slice (some ad107) l0_0.length c0_0) ∧ w'.cell? (ad107.add (x4_1).toNat) = some (.slice A107_0 (rd_LFace l0_0 x4_1).length c107_0)) (ds := [12]) #[false, false, false, false, false, false, false, false, false, false, false, false, false] (by kernel_rfl) rfl rfl ⟨(blk_cell BK103.out 0).trans rfl, (blk_cell BK101.out 0).trans rfl, ((HB.out.cell (yny w _ hw107_0)).trans hw107_0)⟩ (fun hHeld => ?_); refine with_tabW spec_l07Own.tab5 spec_l07Own.bits5 (fun HT_ HW_ => ?_)
   generalize wr.drew = w15 at HO_104000 BK101 BK102 BK103 HB HR107_0 hx107_0 hHeld ⊢
   refine pure_ (i := 0) (N := some 13) (v := ?_) (a' := ?_) #[true, false, false, false, false, false, false, false, false, false, false, false, false] rfl rfl (any_of HT_.out (by kernel_rfl)) (fun _ _ _ h => h) (Or.inl ⟨by rfl, ?_⟩) ?_ ?_
   rotate_left
   next =>
    intro w'
    go_simp
    with_reducible rfl
   rotate_left
   next =>
    simp only [Act.put, yay, yby, ycy, i64_w, i32_w]
    rfl
   refine pure_ (i := 3) (N := some 16) (v := ?_) (a' := ?_) #[true, false, false, true, false, false, false, false, false, false, false, false, false] rfl rfl (any_of HT_.out (by kernel_rfl)) (fun _ _ _ h => h) (Or.inl ⟨by rfl, ?_⟩) ?_ ?_
   rotate_left
   next =>
    intro w'
    go_simp
    with_reducible rfl
   rotate_left
   next =>
    simp only [Act.put, yay, yby, ycy, i64_w, i32_w]
    rfl
   refine pure_ (i := 5) (N := some 18) (v := ?_) (a' := ?_) #[true, false, false, true, false, true, false, false, false, false, false, false, false] rfl rfl (any_of HT_.out (by kernel_rfl)) (fun _ _ _ h => h) (Or.inl ⟨by rfl, ?_⟩) ?_ ?_
   rotate_left
   next =>
    intro w'
    go_simp
    with_reducible rfl
   rotate_left
   next =>
    simp only [Act.put, yay, yby, ycy, i64_w, i32_w]
    rfl
   refine take_ (i := 1) (N := some 14) (v := ?_) (a' := ?_) #[true, true, false, true, false, true, false, false, false, false, false, false, false] rfl rfl (take_ofW HT_.out HW_.out (by kernel_rfl)) (fun _ _ _ h => h) (Or.inl ⟨by rfl, ?_⟩) hHeld ?_ ?_
   rotate_left
   next =>
    rintro w' ⟨s0, s1, s2⟩
    go_simp
    with_reducible rfl
   rotate_left
   next =>
    simp only [Act.put, yay, yby, ycy, i64_w, i32_w]
    rfl
   refine take_ (i := 4) (N := some 17) (v := ?_) (a' := ?_) #[true, true, false, true, true, true, false, false, false, false, false, false, false] rfl rfl (take_ofW HT_.out HW_.out (by kernel_rfl)) (fun _ _ _ h => h) (Or.inl ⟨by rfl, ?_⟩) hHeld ?_ ?_
   rotate_left
   next =>
    rintro w' ⟨s0, s1, s2⟩
    go_simp
    with_reducible rfl
   rotate_left
   next =>
    simp only [Act.put, yay, yby, ycy, i64_w, i32_w]
    rfl
   refine pure_ (i := 6) (N := some 19) (v := ?_) (a' := ?_) #[true, true, false, true, true, true, true, false, false, false, false, false, false] rfl rfl (any_of HT_.out (by kernel_rfl)) (fun _ _ _ h => h) (Or.inl ⟨by rfl, ?_⟩) ?_ ?_
   rotate_left
   next =>
    intro w'
    go_simp
    with_reducible rfl
   rotate_left
   next =>
    simp only [Act.put, yay, yby, ycy, i64_w, i32_w]
    rfl
   refine take_ (i := 7) (N := some 20) (v := ?_) (a' := ?_) #[true, true, false, true, true, true, true, true, false, false, false, false, false] rfl rfl (take_ofW HT_.out HW_.out (by kernel_rfl)) (fun _ _ _ h => h) (Or.inl ⟨by rfl, ?_⟩) hHeld ?_ ?_
   rotate_left
   next =>
    rintro w' ⟨s0, s1, s2⟩
    go_simp
    with_reducible rfl
   rotate_left
   next =>
    simp only [Act.put, yay, yby, ycy, i64_w, i32_w]
    rfl
   refine one_ (i := 2) (N := some 15) #[true, true, true, true, true, true, true, true, false, false, false, false, false] rfl rfl (one_of HT_.out (by kernel_rfl)) (by decide) (fun K hK => ?_)
   refine Kd.R_lit_step kFace _ 74 ?hg (N := 15) ?hd (xs := ([] : List (SFace))) (inner := []) (ok := fun _ => True) (okp := fun _ => True) ?hr ?hp (fun _ hk => hk) trivial (Below.refl _ _) (yoy _) (by simp) ?_; (case hd => rfl); (case hg => rfl); (case hr => first | (go_simp; done) | (go_simp; rfl)); (case hp => exact (Reps.none _ _))
   intro v105 w16 ho17 hb hg_ hnew_
   clear hg_ hnew_
   (first | rw [← Ny104.out] at ho17 | (simp only [Int.reduceToNat] at ho17; rw [← Ny104.out] at ho17))
   have n0_ := Aside0.mk (Kd.S_elder' (by (with_reducible repeat (first | apply Kd.S_alloc | apply Kd.S_drewN | apply Kd.S_drew)); exact HO_104000.out) (Kd.R_base ho17) hb)
   have n1_ := Aside0.mk (Kd.R_lower ho17 (below_size (by repeat (first | (with_reducible first | exact HB.out | apply below_alloc | apply pw_below_drewN | apply below_drew1 | refine below_set ?_ GE101.out | refine below_set ?_ GE102.out | refine below_set ?_ GE103.out) | exact HB.out))))
   have n2_ := Aside0.mk (blk_below (g := gb101) (o := .cells #[.slice (some ad107) l0_0.length c0_0] 28 (0, 0)) (by (with_reducible repeat (first | refine blk_drewN ?_ _ | refine blk_drew ?_ | refine blk_alloc ?_ _)); exact BK101.out) hb)
   have n3_ := Aside0.mk (blk_below (g := gb102) (o := .cells #[.slice none 0 0] 28 (0, 0)) (by (with_reducible repeat (first | refine blk_drewN ?_ _ | refine blk_drew ?_ | refine blk_alloc ?_ _)); exact BK102.out) hb)
   have n4_ := Aside0.mk (blk_below (g := gb103) (o := .cells #[u104000] 28 (0, 0)) (by (with_reducible repeat (first | refine blk_drewN ?_ _ | refine blk_drew ?_ | refine blk_alloc ?_ _)); exact BK103.out) hb)
   have n5_ := Aside0.mk (below_step (by repeat (first | (with_reducible first | exact HB.out | apply below_alloc | apply pw_below_drewN | apply below_drew1 | refine below_set ?_ GE101.out | refine below_set ?_ GE102.out | refine below_set ?_ GE103.out) | exact HB.out)) hb)
   clear HO_104000
   clear BK101
   clear BK102
   clear BK103
   clear HB
   have HO_104000 := n0_
   have HO106 := n1_
   have BK101 := n2_
   have BK102 := n3_
   have BK103 := n4_
   have HB := n5_
   clear n0_ n1_ n2_ n3_ n4_ n5_
   clear hb ho17
   refine hK.out _ _ ⟨(blk_cell BK103.out 0).trans rfl, (blk_cell BK101.out 0).trans rfl, ((HB.out.cell (yny w _ hw107_0)).trans hw107_0)⟩ (fun hHeld => ?_)
   clear hK K
   refine norm_ (a' := ?_) ?_ ?_
   rotate_left
   next =>
    show Act.put _ (some 15) _ = _
    simp only [Act.put, yay, yby, ycy, i64_w, i32_w]
    rfl
   refine one_ (i := 8) (N := some 21) #[true, true, true, true, true, true, true, true, true, false, false, false, false] rfl rfl (one_of HT_.out (by kernel_rfl)) (by decide) (fun K hK => ?_)
   refine Kd.R_append_rows_step kFace (w0 := w) w.heap.size (by rfl) (.tmp 15) (.tmp 20) 75 74 (.agg #[(.int .i64 0), (.int .i64 0)]) 16 rfl Try.underlying75 info74 rfl (by decide) (by omega) v105 y104 (rd_LFace l0_0 x4_1) _ _ _ (fun _ => True) (fun _ => False) rfl rfl ?aO ?aR (fun _ _ h => h) (fun _ h => h.elim) ?aF ?aB ?aS ?aL ?_
   (case aR => repeat (first | exact (Kd.C_below HR107_0.out HB.out) | (with_reducible refine Kd.C_alloc ?_ _) | (with_reducible refine Kd.C_drewN ?_ _) | (with_reducible refine Kd.C_drew ?_)))
   (case aB => exact (by repeat (first | (with_reducible first | exact HB.out | apply below_alloc | apply pw_below_drewN | apply below_drew1 | refine below_set ?_ GE101.out | refine below_set ?_ GE102.out | refine below_set ?_ GE103.out) | exact HB.out)))
   (case aF => exact (fun _ _ => trivial))
   (case aO => exact (by (with_reducible repeat (first | apply Kd.R_alloc | apply Kd.R_drewN | apply Kd.R_drew)); exact HO106.out))
   (case aS => exact (below_size (by repeat (first | (with_reducible first | exact HB.out | apply below_alloc | apply pw_below_drewN | apply below_drew1 | refine below_set ?_ GE101.out | refine below_set ?_ GE102.out | refine below_set ?_ GE103.out) | exact HB.out))))
   (case aL => have := LMc10.out; omega)
   intro v109 w18 ho hb hg hat
   rw [← Ny108.out] at ho
   have n0_ := Aside0.mk (Kd.S_after (ok := (fun _ => True)) (by (with_reducible repeat (first | apply Kd.S_alloc | apply Kd.S_drewN | apply Kd.S_drew)); exact HO_104000.out) hg hat)
   have n1_ := Aside0.mk (blk_grown (g := gb101) (o := .cells #[.slice (some ad107) l0_0.length c0_0] 28 (0, 0)) (by (with_reducible repeat (first | refine blk_drewN ?_ _ | refine blk_drew ?_ | refine blk_alloc ?_ _)); exact BK101.out) hg (Kd.R_ne HO106.out BK101.out (by decide)))
   have n2_ := Aside0.mk (blk_grown (g := gb102) (o := .cells #[.slice none 0 0] 28 (0, 0)) (by (with_reducible repeat (first | refine blk_drewN ?_ _ | refine blk_drew ?_ | refine blk_alloc ?_ _)); exact BK102.out) hg (Kd.R_ne HO106.out BK102.out (by decide)))
   have n3_ := Aside0.mk (blk_grown (g := gb103) (o := .cells #[u104000] 28 (0, 0)) (by (with_reducible repeat (first | refine blk_drewN ?_ _ | refine blk_drew ?_ | refine blk_alloc ?_ _)); exact BK103.out) hg (Kd.R_ne HO106.out BK103.out (by decide)))
   have n4_ := Aside0.mk (hb)
   have n5_ := Aside0.mk (ho)
   clear HO_104000
   clear BK101
   clear BK102
   clear BK103
   clear HB
   clear HO106
   have HO_104000 := n0_
   have BK101 := n1_
   have BK102 := n2_
   have BK103 := n3_
   have HB := n4_
   have HO110 := n5_
   clear n0_ n1_ n2_ n3_ n4_ n5_
   clear ho hb hg hat
   obtain ⟨Ao20, co20, eo20⟩ := Kd.R_slice HO110.out
   (first | subst eo20 | (injection eo20 with f1_ f2_ f3_; have f4_ := f1_.symm; have f5_ := f3_.symm; clear f1_ f2_ f3_; subst f4_; subst f5_))
   refine hK.out _ _ ⟨(blk_cell BK103.out 0).trans rfl, (blk_cell BK101.out 0).trans rfl, ((HB.out.cell (yny w _ hw107_0)).trans hw107_0)⟩ (fun hHeld => ?_)
   clear hK K
   refine norm_ (a' := ?_) ?_ ?_
   rotate_left
   next =>
    show Act.put _ (some 21) _ = _
    simp only [Act.put, yay, yby, ycy, i64_w, i32_w]
    rfl
   refine one_ (i := 9) (N := some 22) #[true, true, true, true, true, true, true, true, true, true, false, false, false] rfl rfl (one_of HT_.out (by kernel_rfl)) (by decide) (fun K hK => ?_)
   refine value_ (w1 := ?_) (v := ?_) (by rfl) rfl ?_ ?_
   rotate_left 2
   next =>
    go_simp
    constructor
    next =>
     rfl
    next =>
     rfl
   refine hK.out _ _ ⟨(blk_cell (blk_alloc BK103.out _) 0).trans rfl, (blk_cell (blk_alloc BK101.out _) 0).trans rfl, (World.cell?_alloc_lt _ _ _ (yny _ _ (((HB.out.cell (yny w _ hw107_0)).trans hw107_0)))).trans (((HB.out.cell (yny w _ hw107_0)).trans hw107_0))⟩ (fun hHeld => ?_)
   clear hK K
   refine norm_ (a' := ?_) ?_ ?_
   rotate_left
   next =>
    show Act.put _ (some 22) _ = _
    simp only [Act.put, yay, yby, ycy, i64_w, i32_w]
    rfl
   refine one_ (i := 10) (N := some 23) #[true, true, true, true, true, true, true, true, true, true, true, false, false] rfl rfl (one_of HT_.out (by kernel_rfl)) (by decide) (fun K hK => ?_)
   refine Kd.S_append_step (Kd.slice 74 kFace) (w0 := w) w.heap.size (by rfl) (.tmp 14) (.tmp 22) 26 75 (.slice none 0 0) 24 rfl Try.underlying26 info75 rfl (by decide) (by omega) u104000 x104000_1 y108 [.slice Ao20 y108.length co20] (fun _ => True) (fun k_ => some k_ = (.slice Ao20 y108.length co20 : Value).ownBlock) rfl rfl ?aP (fun k_ hk_ => ((Kd.R_mono (ok' := fun k_ => ((fun _ => True)) k_ ∧ some k_ ≠ (u104000 : Value).ownBlock) (Kd.R_apart' (HO110.out) (Kd.S_typed HO_104000.out) (by decide)) (fun k_ hk => ⟨trivial, hk.2⟩))).1 k_ hk_.symm) ?aF ?aO ?aB ?aS ?aL ?_
   (case aP => exact Kd.M_row (Kd.R_mono (Kd.R_tight rfl (Kd.R_mono (ok' := fun k_ => ((fun _ => True)) k_ ∧ some k_ ≠ (u104000 : Value).ownBlock) (Kd.R_apart' (HO110.out) (Kd.S_typed HO_104000.out) (by decide)) (fun k_ hk => ⟨trivial, hk.2⟩))) (fun _ h_ => h_)))
   (case aB => exact (by repeat (first | (with_reducible first | exact HB.out | apply below_alloc | apply pw_below_drewN | apply below_drew1 | refine below_set ?_ GE101.out | refine below_set ?_ GE102.out | refine below_set ?_ GE103.out) | exact HB.out)))
   (case aF => exact (fun _ _ => trivial))
   (case aO => exact (by (with_reducible repeat (first | apply Kd.S_alloc | apply Kd.S_drewN | apply Kd.S_drew)); exact Kd.S_mono HO_104000.out (fun k_ hk => ⟨trivial, fun e_ => hk.2 e_⟩)))
   (case aS => exact (below_size (by repeat (first | (with_reducible first | exact HB.out | apply below_alloc | apply pw_below_drewN | apply below_drew1 | refine below_set ?_ GE101.out | refine below_set ?_ GE102.out | refine below_set ?_ GE103.out) | exact HB.out))))
   (case aL => have := LMc11.out; omega)
   intro v112 w19 ho hb hg hat
   rw [← Ny111.out] at ho
   have n0_ := Aside0.mk (blk_grown (g := gb101) (o := .cells #[.slice (some ad107) l0_0.length c0_0] 28 (0, 0)) (by (with_reducible repeat (first | refine blk_drewN ?_ _ | refine blk_drew ?_ | refine blk_alloc ?_ _)); exact BK101.out) hg (Kd.S_ne HO_104000.out BK101.out (by decide)))
   have n1_ := Aside0.mk (blk_grown (g := gb102) (o := .cells #[.slice none 0 0] 28 (0, 0)) (by (with_reducible repeat (first | refine blk_drewN ?_ _ | refine blk_drew ?_ | refine blk_alloc ?_ _)); exact BK102.out) hg (Kd.S_ne HO_104000.out BK102.out (by decide)))
   have n2_ := Aside0.mk (blk_grown (g := gb103) (o := .cells #[u104000] 28 (0, 0)) (by (with_reducible repeat (first | refine blk_drewN ?_ _ | refine blk_drew ?_ | refine blk_alloc ?_ _)); exact BK103.out) hg (Kd.S_ne HO_104000.out BK103.out (by decide)))
   have n3_ := Aside0.mk (hb)
   have n4_ := Aside0.mk (ho)
   clear BK101
   clear BK102
   clear BK103
   clear HB
   clear HO_104000
   clear HO110
   have BK101 := n0_
   have BK102 := n1_
   have BK103 := n2_
   have HB := n3_
   have HO113 := n4_
   clear n0_ n1_ n2_ n3_ n4_
   clear ho hb hg hat
   obtain ⟨Ao21, co21, eo21⟩ := Kd.S_slice HO113.out
   (first | subst eo21 | (injection eo21 with f1_ f2_ f3_; have f4_ := f1_.symm; have f5_ := f3_.symm; clear f1_ f2_ f3_; subst f4_; subst f5_))
   refine hK.out _ _ ⟨(blk_cell BK103.out 0).trans rfl, (blk_cell BK101.out 0).trans rfl, ((HB.out.cell (yny w _ hw107_0)).trans hw107_0)⟩ (fun hHeld => ?_)
   clear hK K
   refine norm_ (a' := ?_) ?_ ?_
   rotate_left
   next =>
    show Act.put _ (some 23) _ = _
    simp only [Act.put, yay, yby, ycy, i64_w, i32_w]
    rfl
   refine pure_ (i := 11) (N := some 24) (v := ?_) (a' := ?_) #[true, true, true, true, true, true, true, true, true, true, true, true, false] rfl rfl (any_of HT_.out (by kernel_rfl)) (fun _ _ _ h => h) (Or.inl ⟨by rfl, ?_⟩) ?_ ?_
   rotate_left
   next =>
    intro w'
    go_simp
    with_reducible rfl
   rotate_left
   next =>
    simp only [Act.put, yay, yby, ycy, i64_w, i32_w]
    rfl
   refine last_ (i := 12) (N := none) #[true, true, true, true, true, true, true, true, true, true, true, true, true] rfl rfl (one_of HT_.out (by kernel_rfl)) (by decide) (fun K hK => ?_)
   have hs22 : w19.cell? ⟨gb103, 0, none⟩ = some (u104000) := (blk_cell BK103.out 0).trans rfl
   have hfs22 := blk_frozen BK103.out 0
   have hns22_0 := NB101_103.out
   have hns22_1 := NB102_103.out
   have hms22_0 := NB103_101.out
   have hms22_1 := NB103_102.out
   refine skip_ (w1 := ?_) (by rfl) rfl ?_ ?_
   rotate_left
   next =>
    go_simp
    rfl
   refine hK.out _ _ ?_
   clear hK K
   refine done_ (done_of HT_.out (by kernel_rfl)) ?_
   try go_wp2
   go_roundg k1
   case measure => have := HK1.out; omega
   case rel => exact ⟨(wrap64 (x4_1 + 1)), (y111), (.slice Ao21 y111.length co21), (by first | rfl | (simp; done) | (simp [*]; done)), H', ⟨by have := HK1.out; omega⟩, ⟨by (with_reducible repeat (first | apply Kd.S_alloc | apply Kd.S_drewN | apply Kd.S_drew)); exact Kd.S_mono (Kd.S_far (p := ⟨gb103, 0, none⟩) (Kd.S_types HO113.out BK103.out (by decide)) (fun _ hk => hk.2) (.slice Ao21 y111.length co21)) (fun _ hk => trivial)⟩, ⟨by (with_reducible repeat (first | refine blk_drewN ?_ _ | refine blk_drew ?_ | refine blk_alloc ?_ _)); refine blk_far ?_ NB101_103.out _; (with_reducible repeat (first | refine blk_drewN ?_ _ | refine blk_drew ?_ | refine blk_alloc ?_ _)); exact BK101.out⟩, ⟨by (with_reducible repeat (first | refine blk_drewN ?_ _ | refine blk_drew ?_ | refine blk_alloc ?_ _)); refine blk_far ?_ NB102_103.out _; (with_reducible repeat (first | refine blk_drewN ?_ _ | refine blk_drew ?_ | refine blk_alloc ?_ _)); exact BK102.out⟩, ⟨by (with_reducible repeat (first | refine blk_drewN ?_ _ | refine blk_drew ?_ | refine blk_alloc ?_ _)); refine blk_put (cs := #[u104000]) ?_ 0 _ rfl; (with_reducible repeat (first | refine blk_drewN ?_ _ | refine blk_drew ?_ | refine blk_alloc ?_ _)); exact BK103.out⟩, ⟨by repeat (first | (with_reducible first | exact HB.out | apply below_alloc | apply pw_below_drewN | apply below_drew1 | refine below_set ?_ GE101.out | refine below_set ?_ GE102.out | refine below_set ?_ GE103.out) | exact HB.out)⟩⟩
/-! GlueFaces. -/
theorem gf_in (x lo hi : Int) : spec_l07In.f x lo hi = some (decide (lo ≤ x) && decide (x ≤ hi)) := by
 unfold spec_l07In.f
 by_cases h : lo ≤ x <;> simp [h]
theorem gf_yes {x lo hi : Int} (h : lo ≤ x ∧ x ≤ hi) : spec_l07In.f x lo hi = some true := by rw [gf_in, ygy h.1, ygy h.2]; rfl
theorem gf_no {x lo hi : Int} (h : ¬ (lo ≤ x ∧ x ≤ hi)) : spec_l07In.f x lo hi = some false := by
 rw [gf_in]
 congr 1
 rw [Bool.and_eq_false_iff, decide_eq_false_iff_not, decide_eq_false_iff_not]; omega
theorem gf_val (x : Int) : spec_l06Valid.f x = some (decide (0 ≤ x) && decide (x ≤ 23)) := by
 unfold spec_l06Valid.f
 by_cases h : 0 ≤ x
 next =>
  rw [if_pos h]; simp [h]; omega
 next =>
  rw [if_neg h]; simp [h]
theorem gf_valY {x : Int} (h : 0 ≤ x ∧ x ≤ 23) : spec_l06Valid.f x = some true := by rw [gf_val, ygy h.1, ygy h.2]; rfl
theorem gf_valN {x : Int} (h : ¬ (0 ≤ x ∧ x ≤ 23)) : spec_l06Valid.f x = some false := by
 rw [gf_val]
 congr 1
 rw [Bool.and_eq_false_iff, decide_eq_false_iff_not, decide_eq_false_iff_not]; omega
def spec_GlueFaces.f (k : Nat) (t : List (List SFace)) (a1 a2 a3 a4 : Int) : Option (List (List SFace) × Int) := (spec_IsTriangulation.f k t).bind fun tr => if tr = true then (if t.length ≤ 1000000 then (if 0 ≤ a1 ∧ a1 ≤ (t.length : Int) - 1 then (if 0 ≤ a3 ∧ a3 ≤ (t.length : Int) - 1 then (if 0 ≤ a2 ∧ a2 ≤ 3 then (if 0 ≤ a4 ∧ a4 ≤ 23 then (spec_l06At.f k a4 a2).bind fun g => if (0 ≤ g ∧ g ≤ 3) ∧ (rd_LFace t a1).length = 4 ∧ (rd_LFace t a3).length = 4 then (if 0 ≤ (rd_Face (rd_LFace t a1) a2).f0 ∨ 0 ≤ (rd_Face (rd_LFace t a3) g).f0 ∨ (a1 = a3 ∧ a2 = g) then some ([], 5) else (spec_l07Own.f k t).bind fun u => (spec_l07Glue.f k u a1 a2 a3 a4).bind fun r => some (r, 0)) else none else some ([], 2)) else some ([], 2)) else some ([], 2)) else some ([], 2)) else none) else some ([], 1)
set_option maxHeartbeats 8000000 in
set_option maxRecDepth 100000 in
theorem spec_GlueFaces.calls (k : Nat) (A0_0 : Option Addr) (c0_0 : Nat) (l0_0 : List (List SFace)) (a1 : Int) (a2 : Int) (a3 : Int) (a4 : Int) (r1 : List (List SFace)) (r2 : Int) (w : World) (hr0_0 : Kd.C (Kd.slice 74 kFace) w A0_0 l0_0.length l0_0) (hc0_0 : l0_0.length ≤ c0_0) (h : spec_GlueFaces.f k l0_0 a1 a2 a3 a4 = some (r1, r2)) :
 Calls Try.prog 22 #[.agg #[.slice A0_0 l0_0.length c0_0], .int .i64 a1, .int .i64 a2, .int .i64 a3, .int .i64 a4] w fun e w' => ∃ v0_ : Value, e = .returned (.tuple #[.agg #[v0_], .int .i64 r2]) ∧ Kd.S (Kd.slice 74 kFace) 75 w' w.heap.size (fun _ => True) v0_ r1 ∧ Below w.heap.size w w' := by
 unfold spec_GlueFaces.f at h
 obtain ⟨tr, hn, h2⟩ := ydy.mp h
 clear h
 have h := h2
 clear h2
 have HR := Aside0.mk hr0_0
 have HC := Aside0.mk hc0_0
 have HN := Aside0.mk hn
 clear hr0_0 hc0_0 hn
 have B5 := Aside0.mk (blk_alloc (new_at4 (W := w) rfl (.cells #[.slice A0_0 l0_0.length c0_0] 28)) (.cells #[.slice none 0 0] 28))
 have B10 := Aside0.mk (new_at4 (W := w.alloc (.cells #[.slice A0_0 l0_0.length c0_0] 28)) (n := w.heap.size + 1) (by simp) (.cells #[.slice none 0 0] 28))
 have HB := Aside0.mk (below_alloc (below_alloc (Below.refl w.heap.size w) (.cells #[.slice A0_0 l0_0.length c0_0] 28)) (.cells #[.slice none 0 0] 28))
 go_enter Try.func22, Try.ntmps22
 go_wp2_with fail
 generalize World.alloc (World.alloc w _) _ = w0 at B5 B10 HB ⊢
 have hx5 : w0.cell? ⟨w.heap.size, 0, none⟩ = some (.slice A0_0 l0_0.length c0_0) := (blk_cell B5.out 0).trans rfl
 refine (spec_IsTriangulation.calls k A0_0 c0_0 l0_0 tr w0 (Kd.C_below HR.out HB.out) HC.out HN.out).mono ?_
 rintro e w1 ⟨rfl, hb⟩
 clear hx5
 have B52 := Aside0.mk (blk_below B5.out hb)
 have B102 := Aside0.mk (blk_below B10.out hb)
 have HB2 := Aside0.mk (below_step HB.out hb)
 clear B5 B10 HB
 have B5 := B52
 have B10 := B102
 have HB := HB2
 clear B52 B102 HB2
 clear hb HN
 cases tr with
 | false =>
  rw [if_neg (by simp)] at h
  obtain ⟨rfl, rfl⟩ := Prod.mk.inj (yey h)
  clear h
  have hx10 : w1.cell? ⟨w.heap.size + 1, 0, none⟩ = some (.slice none 0 0) := (blk_cell B10.out 0).trans rfl
  have hf10 := blk_frozen B10.out 0
  go_wp2
  refine bodyPost_ret (results_ct rfl _ _ (w.heap.size + 1) 28 #[.slice none 0 0] (0, 0) _ rfl (blk_put (cs := #[.slice none 0 0]) B10.out 0 _ rfl) Try.underlying28 rfl (by kernel_rfl)) rfl ?_
  exact ⟨_, rfl, Kd.S_nil _ _ _ _ _, below_set HB.out (by omega)⟩
 | true =>
 rw [if_pos rfl] at h
 by_cases hbig : l0_0.length ≤ 1000000
 case neg => rw [if_neg hbig] at h; cases h
 rw [if_pos hbig] at h
 have hx5 : w1.cell? ⟨w.heap.size, 0, none⟩ = some (.slice A0_0 l0_0.length c0_0) := (blk_cell B5.out 0).trans rfl
 go_wp2_with fail
 refine (spec_l07Tets.calls A0_0 c0_0 l0_0 (l0_0.length : Int) _ (Kd.C_below HR.out HB.out) HC.out (by unfold spec_l07Tets.f; rfl)).mono ?_
 rintro e w2 ⟨rfl, hb_⟩
 have hb := hb_
 clear hx5
 have B52 := Aside0.mk (blk_below B5.out hb)
 have B102 := Aside0.mk (blk_below B10.out hb)
 have HB2 := Aside0.mk (below_step HB.out hb)
 clear B5 B10 HB
 have B5 := B52
 have B10 := B102
 have HB := HB2
 clear B52 B102 HB2
 clear hb hb_
 have hx5 : w2.cell? ⟨w.heap.size, 0, none⟩ = some (.slice A0_0 l0_0.length c0_0) := (blk_cell B5.out 0).trans rfl
 by_cases ha : 0 ≤ a1 ∧ a1 ≤ (l0_0.length : Int) - 1
 case neg =>
  rw [if_neg ha] at h
  obtain ⟨rfl, rfl⟩ := Prod.mk.inj (yey h)
  clear h
  go_wp2_with fail
  refine (spec_l07In.calls a1 0 _ false _ (gf_no ha)).mono ?_
  rintro e w3 ⟨rfl, hb_⟩
  have hb := Drawn0.below hb_
  clear hx5
  have B52 := Aside0.mk (blk_below B5.out hb)
  have B102 := Aside0.mk (blk_below B10.out hb)
  have HB2 := Aside0.mk (below_step HB.out hb)
  clear B5 B10 HB
  have B5 := B52
  have B10 := B102
  have HB := HB2
  clear B52 B102 HB2
  clear hb hb_
  have hx10 : w3.cell? ⟨w.heap.size + 1, 0, none⟩ = some (.slice none 0 0) := (blk_cell B10.out 0).trans rfl
  have hf10 := blk_frozen B10.out 0
  go_wp2
  refine bodyPost_ret (results_ct rfl _ _ (w.heap.size + 1) 28 #[.slice none 0 0] (0, 0) _ rfl (blk_put (cs := #[.slice none 0 0]) B10.out 0 _ rfl) Try.underlying28 rfl (by kernel_rfl)) rfl ?_
  exact ⟨_, rfl, Kd.S_nil _ _ _ _ _, below_set HB.out (by omega)⟩
 rw [if_pos ha] at h
 go_wp2_with fail
 refine (spec_l07In.calls a1 0 _ true _ (gf_yes ha)).mono ?_
 rintro e w3 ⟨rfl, hb_⟩
 have hb := Drawn0.below hb_
 clear hx5
 have B52 := Aside0.mk (blk_below B5.out hb)
 have B102 := Aside0.mk (blk_below B10.out hb)
 have HB2 := Aside0.mk (below_step HB.out hb)
 clear B5 B10 HB
 have B5 := B52
 have B10 := B102
 have HB := HB2
 clear B52 B102 HB2
 clear hb hb_
 have hx5 : w3.cell? ⟨w.heap.size, 0, none⟩ = some (.slice A0_0 l0_0.length c0_0) := (blk_cell B5.out 0).trans rfl
 by_cases hb : 0 ≤ a3 ∧ a3 ≤ (l0_0.length : Int) - 1
 case neg =>
  rw [if_neg hb] at h
  obtain ⟨rfl, rfl⟩ := Prod.mk.inj (yey h)
  clear h
  go_wp2_with fail
  refine (spec_l07In.calls a3 0 _ false _ (gf_no hb)).mono ?_
  rintro e w4 ⟨rfl, hb_⟩
  have hb := Drawn0.below hb_
  clear hx5
  have B52 := Aside0.mk (blk_below B5.out hb)
  have B102 := Aside0.mk (blk_below B10.out hb)
  have HB2 := Aside0.mk (below_step HB.out hb)
  clear B5 B10 HB
  have B5 := B52
  have B10 := B102
  have HB := HB2
  clear B52 B102 HB2
  clear hb hb_
  have hx10 : w4.cell? ⟨w.heap.size + 1, 0, none⟩ = some (.slice none 0 0) := (blk_cell B10.out 0).trans rfl
  have hf10 := blk_frozen B10.out 0
  go_wp2
  refine bodyPost_ret (results_ct rfl _ _ (w.heap.size + 1) 28 #[.slice none 0 0] (0, 0) _ rfl (blk_put (cs := #[.slice none 0 0]) B10.out 0 _ rfl) Try.underlying28 rfl (by kernel_rfl)) rfl ?_
  exact ⟨_, rfl, Kd.S_nil _ _ _ _ _, below_set HB.out (by omega)⟩
 rw [if_pos hb] at h
 go_wp2_with fail
 refine (spec_l07In.calls a3 0 _ true _ (gf_yes hb)).mono ?_
 rintro e w4 ⟨rfl, hb_⟩
 have hb := Drawn0.below hb_
 clear hx5
 have B52 := Aside0.mk (blk_below B5.out hb)
 have B102 := Aside0.mk (blk_below B10.out hb)
 have HB2 := Aside0.mk (below_step HB.out hb)
 clear B5 B10 HB
 have B5 := B52
 have B10 := B102
 have HB := HB2
 clear B52 B102 HB2
 clear hb hb_
 have hx5 : w4.cell? ⟨w.heap.size, 0, none⟩ = some (.slice A0_0 l0_0.length c0_0) := (blk_cell B5.out 0).trans rfl
 by_cases hf : 0 ≤ a2 ∧ a2 ≤ 3
 case neg =>
  rw [if_neg hf] at h
  obtain ⟨rfl, rfl⟩ := Prod.mk.inj (yey h)
  clear h
  go_wp2_with fail
  refine (spec_l07In.calls a2 0 _ false _ (gf_no hf)).mono ?_
  rintro e w5 ⟨rfl, hb_⟩
  have hb := Drawn0.below hb_
  clear hx5
  have B52 := Aside0.mk (blk_below B5.out hb)
  have B102 := Aside0.mk (blk_below B10.out hb)
  have HB2 := Aside0.mk (below_step HB.out hb)
  clear B5 B10 HB
  have B5 := B52
  have B10 := B102
  have HB := HB2
  clear B52 B102 HB2
  clear hb hb_
  have hx10 : w5.cell? ⟨w.heap.size + 1, 0, none⟩ = some (.slice none 0 0) := (blk_cell B10.out 0).trans rfl
  have hf10 := blk_frozen B10.out 0
  go_wp2
  refine bodyPost_ret (results_ct rfl _ _ (w.heap.size + 1) 28 #[.slice none 0 0] (0, 0) _ rfl (blk_put (cs := #[.slice none 0 0]) B10.out 0 _ rfl) Try.underlying28 rfl (by kernel_rfl)) rfl ?_
  exact ⟨_, rfl, Kd.S_nil _ _ _ _ _, below_set HB.out (by omega)⟩
 rw [if_pos hf] at h
 go_wp2_with fail
 refine (spec_l07In.calls a2 0 _ true _ (gf_yes hf)).mono ?_
 rintro e w5 ⟨rfl, hb_⟩
 have hb := Drawn0.below hb_
 clear hx5
 have B52 := Aside0.mk (blk_below B5.out hb)
 have B102 := Aside0.mk (blk_below B10.out hb)
 have HB2 := Aside0.mk (below_step HB.out hb)
 clear B5 B10 HB
 have B5 := B52
 have B10 := B102
 have HB := HB2
 clear B52 B102 HB2
 clear hb hb_
 have hx5 : w5.cell? ⟨w.heap.size, 0, none⟩ = some (.slice A0_0 l0_0.length c0_0) := (blk_cell B5.out 0).trans rfl
 by_cases hp : 0 ≤ a4 ∧ a4 ≤ 23
 case neg =>
  rw [if_neg hp] at h
  obtain ⟨rfl, rfl⟩ := Prod.mk.inj (yey h)
  clear h
  go_wp2_with fail
  refine (spec_l06Valid.calls a4 false _ (gf_valN hp)).mono ?_
  rintro e w6 ⟨rfl, hb_⟩
  have hb := Drawn0.below hb_
  clear hx5
  have B52 := Aside0.mk (blk_below B5.out hb)
  have B102 := Aside0.mk (blk_below B10.out hb)
  have HB2 := Aside0.mk (below_step HB.out hb)
  clear B5 B10 HB
  have B5 := B52
  have B10 := B102
  have HB := HB2
  clear B52 B102 HB2
  clear hb hb_
  have hx10 : w6.cell? ⟨w.heap.size + 1, 0, none⟩ = some (.slice none 0 0) := (blk_cell B10.out 0).trans rfl
  have hf10 := blk_frozen B10.out 0
  go_wp2
  refine bodyPost_ret (results_ct rfl _ _ (w.heap.size + 1) 28 #[.slice none 0 0] (0, 0) _ rfl (blk_put (cs := #[.slice none 0 0]) B10.out 0 _ rfl) Try.underlying28 rfl (by kernel_rfl)) rfl ?_
  exact ⟨_, rfl, Kd.S_nil _ _ _ _ _, below_set HB.out (by omega)⟩
 rw [if_pos hp] at h
 go_wp2_with fail
 refine (spec_l06Valid.calls a4 true _ (gf_valY hp)).mono ?_
 rintro e w6 ⟨rfl, hb_⟩
 have hb := Drawn0.below hb_
 clear hx5
 have B52 := Aside0.mk (blk_below B5.out hb)
 have B102 := Aside0.mk (blk_below B10.out hb)
 have HB2 := Aside0.mk (below_step HB.out hb)
 clear B5 B10 HB
 have B5 := B52
 have B10 := B102
 have HB := HB2
 clear B52 B102 HB2
 clear hb hb_
 have hx5 : w6.cell? ⟨w.heap.size, 0, none⟩ = some (.slice A0_0 l0_0.length c0_0) := (blk_cell B5.out 0).trans rfl
 obtain ⟨g, hg, h2⟩ := ydy.mp h
 clear h
 have h := h2
 clear h2
 have HG := Aside0.mk hg
 clear hg
 go_wp2_with fail
 refine (spec_l06At.calls k a4 a2 g _ HG.out).mono ?_
 rintro e w7 ⟨rfl, hb_⟩
 have hb := hb_
 clear hx5
 have B52 := Aside0.mk (blk_below B5.out hb)
 have B102 := Aside0.mk (blk_below B10.out hb)
 have HB2 := Aside0.mk (below_step HB.out hb)
 clear B5 B10 HB
 have B5 := B52
 have B10 := B102
 have HB := HB2
 clear B52 B102 HB2
 clear hb hb_
 by_cases hq : (0 ≤ g ∧ g ≤ 3) ∧ (rd_LFace l0_0 a1).length = 4 ∧ (rd_LFace l0_0 a3).length = 4
 case neg => rw [if_neg hq] at h; cases h
 rw [if_pos hq] at h
 obtain ⟨⟨g0, g1⟩, q1, q3⟩ := hq
 have a10 := ha.1
 have a11 : a1 < (l0_0.length : Int) := by have := ha.2; omega
 have a30 := hb.1
 have a31 : a3 < (l0_0.length : Int) := by have := hb.2; omega
 have a20 := hf.1
 have a21 : a2 < 4 := by have := hf.2; omega
 have g11 : g < 4 := by omega
 obtain ⟨ay, A3, c3, e3, hy, hl3, hi3⟩ := at_LFace HR.out a1 a10 a11
 obtain ⟨by_, A4, c4, e4, hz, hl4, hi4⟩ := at_LFace HR.out a3 a30 a31
 subst e3
 obtain rfl : ay = by_ := by injection e4
 obtain ⟨af, e5, hy0, hy1⟩ := at_Face hi3 a2 a20 (by omega)
 obtain ⟨ag, e6, hz0, hz1⟩ := at_Face hi4 g g0 (by omega)
 subst e5
 subst e6
 rw [q1] at hy
 rw [q3] at hz
 replace hy := (HB.out.cell (yny w _ hy)).trans hy
 replace hz := (HB.out.cell (yny w _ hz)).trans hz
 replace hy0 := (HB.out.cell (yny w _ hy0)).trans hy0
 replace hy1 := (HB.out.cell (yny w _ hy1)).trans hy1
 replace hz0 := (HB.out.cell (yny w _ hz0)).trans hz0
 replace hz1 := (HB.out.cell (yny w _ hz1)).trans hz1
 have Q1 := Aside0.mk q1
 have Q3 := Aside0.mk q3
 clear e4 hl3 hi3 hl4 hi4 q1 q3 ha hf hp
 have hx5 : w7.cell? ⟨w.heap.size, 0, none⟩ = some (.slice (some ay) l0_0.length c0_0) := (blk_cell B5.out 0).trans rfl
 generalize hfa : rd_Face (rd_LFace l0_0 a1) a2 = fa at *
 generalize hfb : rd_Face (rd_LFace l0_0 a3) g = fb at *
 obtain ⟨x0, x1⟩ := fa
 obtain ⟨y0, y1⟩ := fb
 clear hfa hfb
 by_cases c1 : x0 < 0
 case neg =>
  rw [if_pos (Or.inl (show (0 : Int) ≤ x0 by omega))] at h
  obtain ⟨rfl, rfl⟩ := Prod.mk.inj (yey h)
  clear h hz hz0 hz1
  have d1 : decide (0 ≤ x0) = true := ygy (by omega)
  have hx10 : w7.cell? ⟨w.heap.size + 1, 0, none⟩ = some (.slice none 0 0) := (blk_cell B10.out 0).trans rfl
  have hf10 := blk_frozen B10.out 0
  go_wp2
  refine bodyPost_ret (results_ct rfl _ _ (w.heap.size + 1) 28 #[.slice none 0 0] (0, 0) _ rfl (blk_put (cs := #[.slice none 0 0]) B10.out 0 _ rfl) Try.underlying28 rfl (by kernel_rfl)) rfl ?_
  exact ⟨_, rfl, Kd.S_nil _ _ _ _ _, below_set HB.out (by omega)⟩
 have d1 : decide (0 ≤ x0) = false := yhy (by omega)
 by_cases c2 : y0 < 0
 case neg =>
  rw [if_pos (Or.inr (Or.inl (show (0 : Int) ≤ y0 by omega)))] at h
  obtain ⟨rfl, rfl⟩ := Prod.mk.inj (yey h)
  clear h
  have d2 : decide (0 ≤ y0) = true := ygy (by omega)
  have hx10 : w7.cell? ⟨w.heap.size + 1, 0, none⟩ = some (.slice none 0 0) := (blk_cell B10.out 0).trans rfl
  have hf10 := blk_frozen B10.out 0
  go_wp2
  refine bodyPost_ret (results_ct rfl _ _ (w.heap.size + 1) 28 #[.slice none 0 0] (0, 0) _ rfl (blk_put (cs := #[.slice none 0 0]) B10.out 0 _ rfl) Try.underlying28 rfl (by kernel_rfl)) rfl ?_
  exact ⟨_, rfl, Kd.S_nil _ _ _ _ _, below_set HB.out (by omega)⟩
 have d2 : decide (0 ≤ y0) = false := yhy (by omega)
 by_cases c3 : a1 = a3 ∧ a2 = g
 case pos =>
  rw [if_pos (Or.inr (Or.inr c3))] at h
  obtain ⟨rfl, rfl⟩ := Prod.mk.inj (yey h)
  have d3 : (a1 == a3) = true := by rw [beq_iff_eq]; exact c3.1
  have d4 : (a2 == g) = true := by rw [beq_iff_eq]; exact c3.2
  clear h c3
  have hx10 : w7.cell? ⟨w.heap.size + 1, 0, none⟩ = some (.slice none 0 0) := (blk_cell B10.out 0).trans rfl
  have hf10 := blk_frozen B10.out 0
  go_wp2
  refine bodyPost_ret (results_ct rfl _ _ (w.heap.size + 1) 28 #[.slice none 0 0] (0, 0) _ rfl (blk_put (cs := #[.slice none 0 0]) B10.out 0 _ rfl) Try.underlying28 rfl (by kernel_rfl)) rfl ?_
  exact ⟨_, rfl, Kd.S_nil _ _ _ _ _, below_set HB.out (by omega)⟩
 rw [if_neg (by intro hc; rcases hc with hc | hc | hc <;> first | exact absurd (show (0 : Int) ≤ x0 from hc) (by omega) | exact absurd (show (0 : Int) ≤ y0 from hc) (by omega) | exact c3 hc)] at h
 obtain ⟨u, hu, h⟩ := ydy.mp h
 obtain ⟨r, hgl, h⟩ := ydy.mp h
 obtain ⟨rfl, rfl⟩ := Prod.mk.inj (yey h)
 have HU := Aside0.mk hu
 have HGL := Aside0.mk hgl
 clear h hu hgl
 have hcase : (a1 == a3) = false ∨ ((a1 == a3) = true ∧ (a2 == g) = false) := by
  by_cases e : a1 = a3
  next =>
   refine .inr ⟨by rw [beq_iff_eq]; exact e, ?_⟩
   rw [beq_eq_false_iff_ne]; exact fun e2 => c3 ⟨e, e2⟩
  next =>
   refine .inl ?_
   rw [beq_eq_false_iff_ne]; exact e
 clear c3
 rcases hcase with d3 | ⟨d3, d4⟩
 all_goals
  go_wp2_with fail
  refine (spec_l07Own.calls k (some ay) c0_0 l0_0 u _ (Kd.C_below HR.out HB.out) HC.out HU.out).mono ?_
  rintro e w8 ⟨v9, rfl, ho, hb9⟩
  have HO := Aside0.mk (Kd.S_lower ho (below_size HB.out))
  clear hx5
  have B52 := Aside0.mk (blk_below B5.out hb9)
  have B102 := Aside0.mk (blk_below B10.out hb9)
  have HB2 := Aside0.mk (below_step HB.out hb9)
  clear B5 B10 HB
  have B5 := B52
  have B10 := B102
  have HB := HB2
  clear B52 B102 HB2
  clear ho hb9
  obtain ⟨A9, c9, ev⟩ := Kd.S_slice HO.out
  subst ev
  have B14 := Aside0.mk (new_at4 (W := w8) rfl (.cells #[.slice A9 u.length c9] 28))
  have HO2 := Aside0.mk (Kd.S_alloc HO.out (.cells #[.slice A9 u.length c9] 28))
  have B52 := Aside0.mk (blk_alloc B5.out (.cells #[.slice A9 u.length c9] 28))
  have B102 := Aside0.mk (blk_alloc B10.out (.cells #[.slice A9 u.length c9] 28))
  have HB2 := Aside0.mk (below_alloc HB.out (.cells #[.slice A9 u.length c9] 28))
  clear HO B5 B10 HB
  have HO := HO2
  have B5 := B52
  have B10 := B102
  have HB := HB2
  clear HO2 B52 B102 HB2
  have HS := Aside0.mk (Kd.S_types (Kd.S_types HO.out B10.out (by decide)) B14.out (by decide))
  have HGC := Aside0.mk (spec_l07Glue.calls k _ (.slice A9 u.length c9) u a1 a2 a3 a4 r w _ HB.out HS.out HGL.out)
  clear HO HS
  have hx14 : (w8.alloc (.cells #[.slice A9 u.length c9] 28)).cell? ⟨w8.heap.size, 0, none⟩ = some (.slice A9 u.length c9) := (blk_cell B14.out 0).trans rfl
  go_wp2_with fail
  refine HGC.out.mono ?_
  rintro e wz ⟨rfl, ho, hb, hk⟩
  have HO := Aside0.mk ho
  have B102 := Aside0.mk ((hk.2 (w.heap.size + 1) (blk_lt B10.out) (fun h_ => h_.1.2 rfl)).trans B10.out)
  have B142 := Aside0.mk ((hk.2 _ (blk_lt B14.out) (fun h_ => h_.2 rfl)).trans B14.out)
  have HB2 := Aside0.mk hb
  clear ho hb hk HGC B5 hx14
  clear B10 B14 HB
  have B10 := B102
  have B14 := B142
  have HB := HB2
  clear B102 B142 HB2
  have hx14 : wz.cell? ⟨w8.heap.size, 0, none⟩ = some (.slice A9 u.length c9) := (blk_cell B14.out 0).trans rfl
  have hx10 : wz.cell? ⟨w.heap.size + 1, 0, none⟩ = some (.slice none 0 0) := (blk_cell B10.out 0).trans rfl
  have hf10 := blk_frozen B10.out 0
  obtain ⟨A8, c8, ev8⟩ := Kd.S_slice HO.out
  injection ev8 with e1 e2 e3
  have E2 := Aside0.mk e2
  clear e1 e3 e2
  go_wp2
  refine bodyPost_ret (results_ct rfl _ _ (w.heap.size + 1) 28 #[.slice A9 u.length c9] (0, 0) _ rfl (blk_put (cs := #[.slice none 0 0]) B10.out 0 _ rfl) Try.underlying28 rfl (by kernel_rfl)) rfl ?_
  exact ⟨_, rfl, Kd.S_mono (Kd.S_far (p := ⟨w.heap.size + 1, 0, none⟩) HO.out (fun k_ hk_ => hk_.1.2) _) (fun _ _ => trivial), below_set HB.out (by omega)⟩
end Go.Proofs.Ytdgdnnjigigkcaa.P
namespace Go.Proofs.Ytdgdnnjigigkcaa.Lib
open Go.RowKit Go.Proofs.YtdgdnnjigigkcaaW.PrintWords
set_option linter.unusedVariables false
section
variable {α : Type} {d : Kd α} {e b lo hi lo2 hi2 T : Nat} {w w' W : World} {v : Value} {xs ys : List α}
/-- A row of rows of the walk's own (all of it made from b on), its blocks from lo on and before hi. -/
def ObS (d : Kd α) (e b : Nat) (w : World) (lo hi : Nat) (v : Value) (xs : List α) : Prop := hi ≤ w.heap.size ∧ Kd.S d e w b (fun k => lo ≤ k ∧ k < hi) v xs
theorem size_set (w : World) (g i : Nat) (u : Value) : w.heap.size ≤ (w.setCell ⟨g, i, none⟩ u).heap.size := ((Below.refl 0 w).setCell (Nat.zero_le _) u).size
theorem ObS.made (ho : Kd.S d e w' W.heap.size (fun _ => True) v xs) (hb : Below W.heap.size W w') (hT : T ≤ W.heap.size) (hB : b ≤ W.heap.size) : ∃ lo hi, (T ≤ lo ∧ lo ≤ hi) ∧ hi ≤ w'.heap.size ∧ ObS d e b w' lo hi v xs :=
  ⟨W.heap.size, w'.heap.size, ⟨hT, hb.size⟩, yoy _, yoy _, Kd.S_lower (Kd.S_mono (Kd.S_bound ho) (fun k hk => ⟨hk.2.1, hk.2.2.1⟩)) hB⟩
theorem ObS.below (h : ObS d e b w lo hi v xs) (hb : Below w.heap.size w w') : ObS d e b w' lo hi v xs := ⟨Nat.le_trans h.1 hb.size, Kd.S_below h.2 hb⟩
theorem ObS.drew (h : ObS d e b w lo hi v xs) : ObS d e b w.drew lo hi v xs := ⟨h.1, Kd.S_drew h.2⟩
theorem ObS.far {g i : Nat} (h : ObS d e b w lo hi v xs) (hg : g < lo ∨ hi ≤ g) (u : Value) : ObS d e b (w.setCell ⟨g, i, none⟩ u) lo hi v xs :=
  ⟨Nat.le_trans h.1 (size_set _ _ _ _), Kd.S_far h.2 (fun k hk => by show k ≠ g; have := hk.1; have := hk.2; omega) u⟩
theorem ObS.kept (h : ObS d e b w lo hi v xs) (hk : Kept w w' (fun k => lo2 ≤ k ∧ k < hi2)) (hd : hi ≤ lo2 ∨ hi2 ≤ lo) : ObS d e b w' lo hi v xs :=
  ⟨Nat.le_trans h.1 hk.1, Kd.S_kept h.2 hk (fun k h1 h2 => by have := h1.1; have := h1.2; have := h2.1; have := h2.2; omega)⟩
theorem ObS.slice (h : ObS d e b w lo hi v xs) : ∃ A c, v = .slice A xs.length c := Kd.S_slice h.2
theorem ObS.reads {A : Option Addr} {n c : Nat} (h : ObS d e b w lo hi (.slice A n c) xs) : n = xs.length ∧ n ≤ c ∧ d.C w A xs.length xs := Kd.S_reads' h.2
theorem ObS.room {A : Option Addr} {n c : Nat} (h : ObS d e b w lo hi (.slice A n c) xs) : xs.length ≤ c := by have := h.reads; omega
theorem ObS.marked (h : ObS d e b w lo hi v xs) (hy : Kd.S d e w' b (fun k => lo ≤ k ∧ k < hi) v ys) (hs : w.heap.size ≤ w'.heap.size) : ObS d e b w' lo hi v ys := ⟨Nat.le_trans h.1 hs, hy⟩
theorem ObS.row (h : ObS d e b w lo hi v xs) : Kd.S d e w b (fun k => lo ≤ k ∧ k < hi) v xs := h.2
theorem top_below (h : T ≤ w.heap.size) (hb : Below w.heap.size w w') : T ≤ w'.heap.size := Nat.le_trans h hb.size
theorem top_drew (h : T ≤ w.heap.size) : T ≤ w.drew.heap.size := h
theorem top_far {g i : Nat} {u : Value} (h : T ≤ w.heap.size) : T ≤ (w.setCell ⟨g, i, none⟩ u).heap.size := Nat.le_trans h (size_set _ _ _ _)
end
end Go.Proofs.Ytdgdnnjigigkcaa.Lib
