/- The statement FnExactLinkIsOrientableSaid, proved: part 5 of 8 (texts of this session and of the kit's print, put together and cut to what is used by a program of it). -/
import Derived.Test.YtembbpalgfikiaaMFnExactLinkIsOrientable4
namespace Go.Proofs.Ytembbpalgfikiaa.P
open Go.RowKit Go.Proofs.YtembbpalgfikiaaW.PrintWords Go.Proofs.YtembbpalgfikiaaW.PrintLast Go.Proofs.YtembbpalgfikiaaW.PrintMore
attribute [local go_sem] Qj Qk JQ JR QX QY Ql Qm
set_option linter.unusedVariables false
set_option linter.unusedSimpArgs false
def zz.l0 : Nat → Int → Int → Int → Option (Int)
  | 0, _, _, _ => none
  | k + 1, x0, x1, x5 => if x5 < 6 then ((ql.f x5).bind fun bt101 => (if bt101.1 = (mn x0 x1) then (if bt101.2 = (mx x0 x1) then (some x5) else (zz.l0 k x0 x1 (wrap64 (x5 + 1)))) else (zz.l0 k x0 x1 (wrap64 (x5 + 1))))) else (some (-1))
def zz.f (k : Nat) (a0 : Int) (a1 : Int) : Option (Int) := zz.l0 k a0 a1 0
theorem zz.JE : ∀ k, (∀ y0 y1 y2, LeO (zz.l0 k y0 y1 y2) (zz.l0 (k + 1) y0 y1 y2))
  | 0 => fun _ _ _ r h => by simp [zz.l0] at h
  | k + 1 => by
    have ih0 := zz.JE k
    · intro y0 y1 y2
      unfold zz.l0
      repeat' first
      | (with_reducible exact ih0 _ _ _)
      | (with_reducible exact LeO.refl _)
      | (with_reducible exact LeO.none _)
      | (with_reducible refine LeO.ite ?_ ?_)
      | (with_reducible refine LeO.bind ?_ (fun _ => ?_))
      | exact ih0 _ _ _
      | exact LeO.none _
      | refine LeO.ite ?_ ?_
      | refine LeO.bind ?_ (fun _ => ?_)
theorem zz.mono : ∀ a0 a1 k, LeO (zz.f k a0 a1) (zz.f (k + 1) a0 a1) := by
  intro a0 a1 k
  have ih0 := zz.JE k
  unfold zz.f
  repeat' first
      | (with_reducible exact ih0 _ _ _)
      | (with_reducible exact LeO.refl _)
      | (with_reducible exact LeO.none _)
      | (with_reducible refine LeO.ite ?_ ?_)
      | (with_reducible refine LeO.bind ?_ (fun _ => ?_))
      | exact ih0 _ _ _
      | exact LeO.none _
      | refine LeO.ite ?_ ?_
      | refine LeO.bind ?_ (fun _ => ?_)
set_option maxHeartbeats 8000000 in
set_option maxRecDepth 100000 in
theorem zz.calls (k : Nat) (a0 : Int) (a1 : Int) (r : Int) (w : World) (h : zz.f k a0 a1 = some r) :
    Calls Try.prog 116 #[.int .i64 a0, .int .i64 a1] w fun e w' => e = .returned (.int .i64 r) ∧ Below w.heap.size w w' := by
  have HB := zA.mk (yry w.heap.size w)
  have H : (zz.l0 k a0 a1 0) = some r := h
  clear h
  have H' := zA.mk H
  clear H
  go_enter Try.func116, Try.ntmps116
  go_wp2
  go_loopg [5] k (fun kq v5 w' => ∃ (x5_1 : Int), v5 = .int .i64 x5_1 ∧ zA (zz.l0 kq a0 a1 x5_1 = some r) ∧ zA (kq ≤ k) ∧ zA (Below w.heap.size w w'))
  case atStart => exact ⟨(0), (by first | rfl | (simp; done) | (simp [*]; done)), H', ⟨yqy _⟩, ⟨by repeat (first | (with_reducible first | exact HB.out | apply zC | apply zB | apply zD) | exact HB.out)⟩⟩
  case round =>
    clear H'
    try clear c1
    try clear p2
    obtain ⟨x5_1, rfl, HA, HK1, HB⟩ := hrel
    cases gk with
    | zero => exact absurd HA.out (by simp [zz.l0])
    | succ k1 =>
      have H := HA.out
      clear HA
      simp only [zz.l0] at H
      by_cases c3 : x5_1 < 6
      · rw [if_pos c3] at H
        have c3b0 : decide (x5_1 < 6) = true := ygy c3
        clear c3
        replace H := ydy.mp H
        obtain ⟨⟨t101, t102⟩, A40, H⟩ := H
        replace H : (if t101 = (mn a0 a1) then (if t102 = (mx a0 a1) then (some x5_1) else (zz.l0 k1 a0 a1 (wrap64 (x5_1 + 1)))) else (zz.l0 k1 a0 a1 (wrap64 (x5_1 + 1)))) = some r := H
        have A4 := zA.mk A40
        clear A40
        obtain ⟨ji5, hji5⟩ : ∃ j_ : Int, (mn a0 a1) = j_ := ⟨_, rfl⟩
        replace H : (if t101 = (ji5) then (if t102 = (mx a0 a1) then (some x5_1) else (zz.l0 k1 a0 a1 (wrap64 (x5_1 + 1)))) else (zz.l0 k1 a0 a1 (wrap64 (x5_1 + 1)))) = some r := by first | (rw [hji5] at H; exact H) | (simp only [hji5] at H ⊢; exact H)
        (try rw [hji5] at A4)
        have hji5_ : (if a1 < a0 then a1 else a0) = ji5 := hji5
        by_cases c6 : t101 = (ji5)
        · rw [if_pos c6] at H
          have c6b0 : (t101 == (ji5)) = true := beq_iff_eq.mpr c6
          have c6b1 : (t101 != (ji5)) = false := bne_eq_false_iff_eq.mpr c6
          clear c6
          obtain ⟨ji7, hji7⟩ : ∃ j_ : Int, (mx a0 a1) = j_ := ⟨_, rfl⟩
          replace H : (if t102 = (ji7) then (some x5_1) else (zz.l0 k1 a0 a1 (wrap64 (x5_1 + 1)))) = some r := by first | (rw [hji7] at H; exact H) | (simp only [hji7] at H ⊢; exact H)
          (try rw [hji7] at A4)
          have hji7_ : (if a0 < a1 then a1 else a0) = ji7 := hji7
          by_cases c8 : t102 = (ji7)
          · rw [if_pos c8] at H
            have c8b0 : (t102 == (ji7)) = true := beq_iff_eq.mpr c8
            have c8b1 : (t102 != (ji7)) = false := bne_eq_false_iff_eq.mpr c8
            clear c8
            obtain rfl := yey H
            go_wp2_with (first | ((with_reducible refine za (f := 115) rfl ?_); refine qL (some 14) rfl rfl Try.func115 (by kernel_rfl) rfl #[.int .i64 x5_1] rfl (by (try simp only [yiy, yjy, yky]); first | done | rfl | (simp only [yly, ymy]; rfl)) ?_; (with_reducible refine (ql.calls x5_1 t101 t102 _ A4.out).mono ?_); rintro e w9 ⟨rfl, hb⟩; refine ⟨_, rfl, ?_⟩; have n0_ := zA.mk (zM (by repeat (first | (with_reducible first | exact HB.out | apply zC | apply zB | apply zD) | exact HB.out)) hb); clear HB; have HB := n0_; clear n0_; (try clear hb); (try clear hb2); (try clear hk); (try clear hi)))
            go_ret
            exact ⟨by first | rfl | (simp [zX, zY] <;> rfl) | (simp only [← hji5, ← hji7]; first | rfl | (simp [zX, zY] <;> rfl)) | (simp [*, zX, zY] <;> rfl), by repeat (first | (with_reducible first | exact HB.out | apply zC | apply zB | apply zD) | exact HB.out)⟩
          · rw [if_neg c8] at H
            have c8b0 : (t102 == (ji7)) = false := beq_eq_false_iff_ne.mpr c8
            have c8b1 : (t102 != (ji7)) = true := bne_iff_ne.mpr c8
            have H' := zA.mk H
            clear H
            go_wp2_with (first | ((with_reducible refine za (f := 115) rfl ?_); refine qL (some 14) rfl rfl Try.func115 (by kernel_rfl) rfl #[.int .i64 x5_1] rfl (by (try simp only [yiy, yjy, yky]); first | done | rfl | (simp only [yly, ymy]; rfl)) ?_; (with_reducible refine (ql.calls x5_1 t101 t102 _ A4.out).mono ?_); rintro e w10 ⟨rfl, hb⟩; refine ⟨_, rfl, ?_⟩; have n0_ := zA.mk (zM (by repeat (first | (with_reducible first | exact HB.out | apply zC | apply zB | apply zD) | exact HB.out)) hb); clear HB; have HB := n0_; clear n0_; (try clear hb); (try clear hb2); (try clear hk); (try clear hi)))
            go_roundg k1
            case measure => have := HK1.out; omega
            case rel => exact ⟨(wrap64 (x5_1 + 1)), (by first | rfl | (simp; done) | (simp [*]; done)), H', ⟨by have := HK1.out; omega⟩, ⟨by repeat (first | (with_reducible first | exact HB.out | apply zC | apply zB | apply zD) | exact HB.out)⟩⟩
        · rw [if_neg c6] at H
          have c6b0 : (t101 == (ji5)) = false := beq_eq_false_iff_ne.mpr c6
          have c6b1 : (t101 != (ji5)) = true := bne_iff_ne.mpr c6
          have H' := zA.mk H
          clear H
          go_wp2_with (first | ((with_reducible refine za (f := 115) rfl ?_); refine qL (some 14) rfl rfl Try.func115 (by kernel_rfl) rfl #[.int .i64 x5_1] rfl (by (try simp only [yiy, yjy, yky]); first | done | rfl | (simp only [yly, ymy]; rfl)) ?_; (with_reducible refine (ql.calls x5_1 t101 t102 _ A4.out).mono ?_); rintro e w11 ⟨rfl, hb⟩; refine ⟨_, rfl, ?_⟩; have n0_ := zA.mk (zM (by repeat (first | (with_reducible first | exact HB.out | apply zC | apply zB | apply zD) | exact HB.out)) hb); clear HB; have HB := n0_; clear n0_; (try clear hb); (try clear hb2); (try clear hk); (try clear hi)))
          go_roundg k1
          case measure => have := HK1.out; omega
          case rel => exact ⟨(wrap64 (x5_1 + 1)), (by first | rfl | (simp; done) | (simp [*]; done)), H', ⟨by have := HK1.out; omega⟩, ⟨by repeat (first | (with_reducible first | exact HB.out | apply zC | apply zB | apply zD) | exact HB.out)⟩⟩
      · rw [if_neg c3] at H
        have c3b0 : decide (x5_1 < 6) = false := yhy c3
        clear c3
        obtain rfl := yey H
        go_wp2
        go_ret
        exact ⟨by first | rfl | (simp [zX, zY] <;> rfl) | (simp [*, zX, zY] <;> rfl), by repeat (first | (with_reducible first | exact HB.out | apply zC | apply zB | apply zD) | exact HB.out)⟩
def qB.l0 : Nat → Int → List Int → Int → Option (List Int)
  | 0, _, _, _ => none
  | k + 1, x0, x3, x4 => if x4 < x0 then (if x3.length < 17592186044416 then (qB.l0 k x0 (x3 ++ [x4]) (wrap64 (x4 + 1))) else (none)) else (some x3)
def qB.f (k : Nat) (a0 : Int) : Option (List Int) := qB.l0 k a0 (([] : List Int)) 0
set_option maxHeartbeats 8000000 in
set_option maxRecDepth 100000 in
theorem qB.calls (k : Nat) (a0 : Int) (r : List Int) (w : World) (h : qB.f k a0 = some r) :
    Calls Try.prog 91 #[.int .i64 a0] w fun e w' => ∃ v0_ : Value, e = .returned (v0_) ∧ Kd.R (Kd.int .i64) 2 w' w.heap.size (fun _ => True) v0_ r ∧ Below w.heap.size w w' := by
  have HB := zA.mk (yry w.heap.size w)
  have H : (qB.l0 k a0 (([] : List Int)) 0) = some r := h
  clear h
  obtain ⟨y101, hy101⟩ : ∃ y_ : List Int, y_ = (([] : List Int)) := ⟨_, rfl⟩
  replace H : (qB.l0 k a0 y101 0) = some r := by first | (rw [hy101]; with_reducible exact H) | (have H2_ := (yfy _ _).symm.trans H; rw [hy101]; with_reducible exact H2_) | (have H2_ := (yfy _ _).symm.trans H; with_reducible exact H2_) | with_reducible exact H | (rw [hy101]; exact H) | exact H
  have Ny101 := zA.mk hy101
  clear hy101
  have H' := zA.mk H
  clear H
  go_enter Try.func91, Try.ntmps91
  go_wp2_with (first | ((with_reducible refine zq (N := 5) rfl ?_); refine Kd.zAu (Kd.int .i64) _ 2 ?hg (N := 5) ?hd (xs := ([] : List Int)) (inner := []) (ok := fun _ => True) (okp := fun _ => True) ?hr ?hp (fun _ hk => hk) trivial (yry _ _) (yqy _) (by simp) ?_; (case hd => rfl); (case hg => rfl); (case hr => first | (go_simp; done) | (go_simp; rfl)); (case hp => exact (Zu.none _ _)); intro v102 w2 ho3 hb hg_ hnew_; clear hg_ hnew_; (first | rw [← Ny101.out] at ho3 | (simp only [Int.reduceToNat] at ho3; rw [← Ny101.out] at ho3)); have n0_ := zA.mk (Kd.ZB ho3 (zO (by repeat (first | (with_reducible first | exact HB.out | apply zC | apply zB | apply zD) | exact HB.out)))); have n1_ := zA.mk (zM (by repeat (first | (with_reducible first | exact HB.out | apply zC | apply zB | apply zD) | exact HB.out)) hb); clear HB; have HO103 := n0_; have HB := n1_; clear n0_ n1_; clear hb ho3))
  go_loopg [3, 4] k (fun kq v3 v4 w' => ∃ (x3_1 : List Int) (x4_1 : Int), v4 = .int .i64 x4_1 ∧ zA (qB.l0 kq a0 x3_1 x4_1 = some r) ∧ zA (kq ≤ k) ∧ zA (Kd.R (Kd.int .i64) 2 w' w.heap.size (fun _ => True) v3 x3_1) ∧ zA (Below w.heap.size w w'))
  case atStart => exact ⟨(y101), (0), (by first | rfl | (simp; done) | (simp [*]; done)), H', ⟨yqy _⟩, ⟨by (with_reducible repeat (first | apply Kd.zR | apply Kd.zS | apply Kd.zW)); exact HO103.out⟩, ⟨by repeat (first | (with_reducible first | exact HB.out | apply zC | apply zB | apply zD) | exact HB.out)⟩⟩
  case round =>
    clear H'
    try clear p2
    obtain ⟨x3_1, x4_1, rfl, HA, HK1, HO_3, HB⟩ := hrel
    cases gk with
    | zero => exact absurd HA.out (by simp [qB.l0])
    | succ k1 =>
      have H := HA.out
      clear HA
      simp only [qB.l0] at H
      by_cases c4 : x4_1 < a0
      · rw [if_pos c4] at H
        have c4b0 : decide (x4_1 < a0) = true := ygy c4
        clear c4
        by_cases c5 : x3_1.length < 17592186044416
        · rw [if_pos c5] at H
          have LMc5 := zA.mk c5
          clear c5
          obtain ⟨y104, hy104⟩ : ∃ y_ : List Int, y_ = (x3_1 ++ [x4_1]) := ⟨_, rfl⟩
          replace H : (qB.l0 k1 a0 y104 (wrap64 (x4_1 + 1))) = some r := by first | (rw [hy104]; with_reducible exact H) | (have H2_ := (yfy _ _).symm.trans H; rw [hy104]; with_reducible exact H2_) | (have H2_ := (yfy _ _).symm.trans H; with_reducible exact H2_) | with_reducible exact H | (rw [hy104]; exact H) | exact H
          have Ny104 := zA.mk hy104
          clear hy104
          have H' := zA.mk H
          clear H
          go_wp2_with (first | ((with_reducible refine ZS (b := .append) (xs := #[.tmp 11, .tmp 13]) rfl ?_); at_builtin; refine Kd.Qf (Kd.int .i64) (w0 := w) w.heap.size rfl (.tmp 11) (.tmp 13) 22 2 (.int .i64 0) 8 rfl Try.underlying22 JS rfl (by decide) (by omega) u3 x3_1 x4_1 [.int .i64 x4_1] (fun _ => True) (fun _ => False) rfl rfl ?aP (fun _ hk => hk.elim) ?aF ?aO ?aB ?aS ?aL ?_; (case aP => exact rfl); (case aB => exact (by repeat (first | (with_reducible first | exact HB.out | apply zC | apply zB | apply zD) | exact HB.out))); (case aF => exact (fun _ _ => trivial)); (case aO => exact (by (with_reducible repeat (first | apply Kd.zR | apply Kd.zS | apply Kd.zW)); exact HO_3.out)); (case aS => exact (zO (by repeat (first | (with_reducible first | exact HB.out | apply zC | apply zB | apply zD) | exact HB.out)))); (case aL => have := LMc5.out; omega); intro v105 w6 ho hb hg hat; rw [← Ny104.out] at ho; have n0_ := zA.mk (hb); have n1_ := zA.mk (ho); clear HB; clear HO_3; have HB := n0_; have HO106 := n1_; clear n0_ n1_; clear ho hb hg hat))
          go_roundg k1
          case measure => have := HK1.out; omega
          case rel => exact ⟨(y104), (wrap64 (x4_1 + 1)), (by first | rfl | (simp; done) | (simp [*]; done)), H', ⟨by have := HK1.out; omega⟩, ⟨by (with_reducible repeat (first | apply Kd.zR | apply Kd.zS | apply Kd.zW)); exact HO106.out⟩, ⟨by repeat (first | (with_reducible first | exact HB.out | apply zC | apply zB | apply zD) | exact HB.out)⟩⟩
        · rw [if_neg c5] at H
          exact absurd H (by simp)
      · rw [if_neg c4] at H
        have c4b0 : decide (x4_1 < a0) = false := yhy c4
        clear c4
        obtain rfl := yey H
        go_wp2
        go_ret
        exact ⟨_, by first | rfl | (simp [zX, zY] <;> rfl) | (simp [*, zX, zY] <;> rfl), by (with_reducible repeat (first | apply Kd.zR | apply Kd.zS | apply Kd.zW)); exact HO_3.out, by repeat (first | (with_reducible first | exact HB.out | apply zC | apply zB | apply zD) | exact HB.out)⟩
def qv.f (l : List Int) (i k : Int) : Option (List Int) := if 0 ≤ i ∧ i < l.length ∧ 0 ≤ k ∧ k < l.length then some (Lib.joi l i k) else none
theorem pt_get {G : Int → Int} {l cur : List Int} {n : Nat} (h : cur = (l.take n).map G ++ l.drop n) (hn : n < l.length) : rd cur (n : Int) = l[n] := by
  subst h
  have h1 : ((l.take n).map G).length = n := by simp; omega
  simp only [rd, yny, List.getD_eq_getElem?_getD]
  rw [List.getElem?_append_right (by omega), h1, Nat.sub_self, List.getElem?_drop]
  simp [hn]
theorem zGS {G : Int → Int} {l cur : List Int} {n : Nat} (h : cur = (l.take n).map G ++ l.drop n) (hn : n < l.length) (e : G l[n] = l[n]) : cur = (l.take (n + 1)).map G ++ l.drop (n + 1) := by
  subst h
  rw [yoy hn, List.take_succ_eq_append_getElem hn, List.map_append, yjy, yky, e, List.append_assoc]
  rfl
theorem pt_put {G : Int → Int} {l cur : List Int} {n : Nat} (h : cur = (l.take n).map G ++ l.drop n) (hn : n < l.length) : cur.set n (G l[n]) = (l.take (n + 1)).map G ++ l.drop (n + 1) := by
  subst h
  have h1 : ((l.take n).map G).length = n := by simp; omega
  rw [List.set_append_right _ _ (by omega), h1, Nat.sub_self, yoy hn, yby, List.take_succ_eq_append_getElem hn, List.map_append, yjy, yky, List.append_assoc]
  rfl
set_option maxHeartbeats 8000000 in
set_option maxRecDepth 100000 in
theorem qv.calls (P0_ : Nat → Prop) (v : Value) (l : List Int) (i k : Int) (r : List Int) (w0 w : World) (hB : Below w0.heap.size w0 w) (ho0 : Kd.R (Kd.int .i64) 2 w w0.heap.size P0_ v l) (h : qv.f l i k = some r) :
    Calls Try.prog 92 #[v, .int .i64 i, .int .i64 k] w fun e w' => e = .returned (.tuple #[]) ∧ Kd.R (Kd.int .i64) 2 w' w0.heap.size P0_ v r ∧ Below w0.heap.size w0 w' ∧ Kept w w' P0_ := by
  unfold qv.f at h
  by_cases hok : 0 ≤ i ∧ i < l.length ∧ 0 ≤ k ∧ k < l.length
  case neg => rw [if_neg hok] at h; cases h
  rw [if_pos hok] at h
  have hr := yey h
  obtain ⟨hi0, hi1, hk0, hk1⟩ := hok
  obtain ⟨g, cap, rfl, hg1, _, _⟩ := Kd.JY ho0 (by omega)
  have hbig : l.length ≤ 9223372036854775807 := (Kd.zFJ (Kd.zx ho0).2.2)
  have q0 := (Kd.ZV 0 ho0 k hk0 hk1).1
  have q1 := (Kd.ZV 0 ho0 i hi0 hi1).1
  replace q0 : w.cell? ⟨g, k.toNat, none⟩ = some (.int .i64 (rd l k)) := q0
  replace q1 : w.cell? ⟨g, i.toNat, none⟩ = some (.int .i64 (rd l i)) := q1
  have hR : zA (l.map (fun x => if x = max (rd l i) (rd l k) then min (rd l i) (rd l k) else x) = r) := ⟨hr⟩
  clear hr h
  generalize rd l k = q at q0 hR
  generalize rd l i = p at q1 hR
  obtain ⟨lo, hlo⟩ : ∃ z : Int, (if q < p then q else p) = z := ⟨_, rfl⟩
  obtain ⟨hi, hhi⟩ : ∃ z : Int, (if p < q then q else p) = z := ⟨_, rfl⟩
  have hR2 : zA (l.map (fun x => if x = hi then lo else x) = r) := ⟨by
    have e1 : max p q = hi := by rw [← hhi]; split <;> omega
    have e2 : min p q = lo := by rw [← hlo]; split <;> omega
    rw [← e1, ← e2]; exact hR.out⟩
  have HO := zA.mk ho0
  have HB := zA.mk hB
  have HP := zA.mk (ho0.1 g rfl)
  have HK := zA.mk (Kept.refl w P0_)
  have HC : zA (l = (l.take 0).map (fun x => if x = hi then lo else x) ++ l.drop 0) := ⟨by simp⟩
  clear ho0 hB hR
  go_enter Try.func92, Try.ntmps92
  go_wp2
  repeat (go_quiet (fail); try go_wp2)
  go_loopg [8] l.length (fun gg v8 w' => ∃ (n : Nat) (cur : List Int), n ≤ l.length ∧ l.length - n ≤ gg ∧ v8 = .int .i64 n ∧ zA (cur = (l.take n).map (fun x => if x = hi then lo else x) ++ l.drop n) ∧ zA (Kd.R (Kd.int .i64) 2 w' w0.heap.size P0_ (.slice (some ⟨g, 0, none⟩) l.length cap) cur) ∧ zA (Below w0.heap.size w0 w') ∧ zA (Kept w w' P0_))
  case atStart => exact ⟨0, l, Nat.zero_le _, by omega, rfl, HC, ⟨by (with_reducible repeat (first | apply Kd.zS | apply Kd.zW)); exact HO.out⟩, ⟨by (with_reducible repeat (first | apply zB | apply zD)); exact HB.out⟩, ⟨by (with_reducible repeat (first | apply Kept.drewN | apply Kept.drew)); exact HK.out⟩⟩
  case round =>
    clear HC HO HB HK hlo hhi
    obtain ⟨n, cur, hn, hg, rfl, HC, HO, HB, HK⟩ := hrel
    by_cases hlt : n < l.length
    · have hltz : (n : Int) < (l.length : Int) := by omega
      obtain ⟨hc, hf⟩ := Kd.ZV 0 HO.out (n : Int) (by omega) hltz
      replace hc : wr.cell? ⟨g, n, none⟩ = some (.int .i64 (rd cur (n : Int))) := hc
      replace hf : wr.frozen? ⟨g, n, none⟩ = false := hf
      rw [pt_get HC.out hlt] at hc
      by_cases hy : l[n] = hi
      · have HC2 := zA.mk (pt_put HC.out hlt)
        rw [hy] at hc HC2
        have HC3 : zA (cur.set n lo = (l.take (n + 1)).map (fun x => if x = hi then lo else x) ++ l.drop (n + 1)) := ⟨by have h := HC2.out; rwa [if_pos rfl] at h⟩
        have e1 : (hi == hi) = true := by simp
        clear hy HC2 HC
        go_wp2_with (first
          | ((with_reducible refine ZQ (t := 2) (p := 42) rfl ?_); refine ZE (t := 2) (p := 42) (v := ?vo42) (w1 := (wr.setCell ⟨g, n, none⟩ (.int .i64 lo))) ?hg ?ho ?hn ?hr ?_; (case ho => rfl); (case hg => rfl); (case hn => rfl); (case hr => first | (go_simp; done) | (go_simp; rfl)); intro w4 hw; have HO2 := zA.mk (show Kd.R (Kd.int .i64) 2 w4 w0.heap.size P0_ (.slice (some ⟨g, 0, none⟩) l.length cap) (cur.set n lo) by rw [hw]; exact (Kd.JZ HO.out (n : Int) lo).1); have HB2 := zA.mk (show Below w0.heap.size w0 w4 by rw [hw]; exact zF HB.out hg1); have HK2 := zA.mk (show Kept w w4 P0_ by rw [hw]; exact HK.out.setCell (p := ⟨g, n, none⟩) (.inl HP.out) _); clear hw hc hf HO HB HK))
        go_roundg (l.length - (n + 1))
        case measure => omega
        case rel => exact ⟨n + 1, cur.set n lo, by omega, by omega, by go_num, HC3, HO2, HB2, HK2⟩
      · have HC2 := zA.mk (zGS HC.out hlt (if_neg hy))
        have e1 : (l[n] == hi) = false := by simpa using hy
        generalize l[n] = y at hc e1
        clear hy HC
        go_wp2
        go_roundg (l.length - (n + 1))
        case measure => omega
        case rel => exact ⟨n + 1, cur, by omega, by omega, by go_num, HC2, HO, HB, HK⟩
    · obtain rfl : n = l.length := by omega
      have hcr : cur = r := by rw [HC.out, ← hR2.out]; simp
      have HCR := zA.mk hcr
      clear hcr HC
      go_wp2
      first | go_end0 | ((try simp only [Exit.inBlock, Exit.then]); refine bodyPost_ret (results_none rfl _ _ _) rfl ?_)
      refine ⟨?_, by rw [← HCR.out]; exact HO.out, HB.out, HK.out⟩
      first | rfl | (simp <;> rfl)
mutual
def zd.l0 : Nat → List Int → Int → List Int → Int → List (List Int) → Int → Option ((List (List Int)) × Int)
 | 0, _, _, _, _, _, _ => none
 | k + 1, x0, x1, x6, x7, x8, x9 => if x9 < (x0.length : Int) then (if 0 ≤ x9 then (if (rd x0 x9) = x9 then (if x9 < (x6.length : Int) then (zd.l0 k x0 x1 (x6.set (x9 : Int).toNat x7) (wrap64 (x7 + 1)) x8 (wrap64 (x9 + 1))) else (none)) else (zd.l0 k x0 x1 x6 x7 x8 (wrap64 (x9 + 1)))) else (none)) else (zd.l1 k x0 x1 x6 x7 x8 0)
def zd.l1 : Nat → List Int → Int → List Int → Int → List (List Int) → Int → Option ((List (List Int)) × Int)
 | 0, _, _, _, _, _, _ => none
 | k + 1, x0, x1, x6, x7, x8, x10 => if x10 < (x0.length : Int) then (zd.l2 k x0 x1 x6 x7 x8 x10 (([] : List Int)) x10) else (some (x8, x7))
def zd.l2 : Nat → List Int → Int → List Int → Int → List (List Int) → Int → List Int → Int → Option ((List (List Int)) × Int)
 | 0, _, _, _, _, _, _, _, _ => none
 | k + 1, x0, x1, x6, x7, x8, x10, x11, x12 => if x12 < (wrap64 (x10 + x1)) then (if 0 ≤ x12 then (if x12 < (x0.length : Int) then (if 0 ≤ (rd x0 x12) then (if (rd x0 x12) < (x6.length : Int) then (if x11.length < 17592186044416 then (zd.l2 k x0 x1 x6 x7 x8 x10 (x11 ++ [rd x6 (rd x0 x12)]) (wrap64 (x12 + 1))) else (none)) else (none)) else (none)) else (none)) else (none)) else (if x8.length < 5864062014805 then (zd.l1 k x0 x1 x6 x7 (x8 ++ [x11]) (wrap64 (x10 + x1))) else (none))
end
def zd.f (k : Nat) (l0 : List Int) (a1 : Int) : Option ((List (List Int)) × Int) := if 0 ≤ (l0.length : Int) then (if ((l0.length : Int) : Int).toNat ≤ 35184372088832 then (zd.l0 k l0 a1 (List.replicate ((l0.length : Int) : Int).toNat 0) 0 (([] : List (List Int))) 0) else (none)) else (none)
set_option maxHeartbeats 8000000 in
set_option maxRecDepth 100000 in
theorem zd.calls (k : Nat) (A0 : Option Addr) (c0 : Nat) (l0 : List Int) (a1 : Int) (r1 : List (List Int)) (r2 : Int) (w : World) (hr0 : Kd.C (Kd.int .i64) w A0 l0.length l0) (hc0 : l0.length ≤ c0) (h : zd.f k l0 a1 = some (r1, r2)) :
 Calls Try.prog 117 #[.slice A0 l0.length c0, .int .i64 a1] w fun e w' => ∃ v0_ : Value, e = .returned (.tuple #[v0_, .int .i64 r2]) ∧ Kd.S (Kd.slice 2 (Kd.int .i64)) 22 w' w.heap.size (fun _ => True) v0_ r1 ∧ Below w.heap.size w w' := by
 have HR0 := zA.mk hr0
 have HC0 := zA.mk hc0
 clear hr0 hc0
 have HB := zA.mk (yry w.heap.size w)
 have H : (if 0 ≤ (l0.length : Int) then (if ((l0.length : Int) : Int).toNat ≤ 35184372088832 then (zd.l0 k l0 a1 (List.replicate ((l0.length : Int) : Int).toNat 0) 0 (([] : List (List Int))) 0) else (none)) else (none)) = some (r1, r2) := h
 clear h
 by_cases c3 : 0 ≤ (l0.length : Int)
 rotate_left
 next =>
  rw [if_neg c3] at H
  exact absurd H (by simp)
 rw [if_pos c3] at H
 have c3b0 := eq_true c3
 have c3b1 : decide (0 ≤ (l0.length : Int)) = true := ygy c3
 clear c3
 by_cases c4 : ((l0.length : Int) : Int).toNat ≤ 35184372088832
 rotate_left
 next =>
  rw [if_neg c4] at H
  exact absurd H (by simp)
 rw [if_pos c4] at H
 have c4b0 := eq_true c4
 have c4b1 : decide (((l0.length : Int) : Int).toNat ≤ 35184372088832) = true := ygy c4
 clear c4
 obtain ⟨y101, hy101⟩ : ∃ y_ : List Int, y_ = (List.replicate ((l0.length : Int) : Int).toNat 0) := ⟨_, rfl⟩
 replace H : (zd.l0 k l0 a1 y101 0 (([] : List (List Int))) 0) = some (r1, r2) := by first | (rw [hy101]; with_reducible exact H) | (have H2_ := (yfy _ _).symm.trans H; rw [hy101]; with_reducible exact H2_) | (have H2_ := (yfy _ _).symm.trans H; with_reducible exact H2_) | with_reducible exact H | (rw [hy101]; exact H) | exact H
 have Ny101 := zA.mk hy101
 clear hy101
 obtain ⟨y104, hy104⟩ : ∃ y_ : List (List Int), y_ = (([] : List (List Int))) := ⟨_, rfl⟩
 replace H : (zd.l0 k l0 a1 y101 0 y104 0) = some (r1, r2) := by first | (rw [hy104]; with_reducible exact H) | (have H2_ := (yfy _ _).symm.trans H; rw [hy104]; with_reducible exact H2_) | (have H2_ := (yfy _ _).symm.trans H; with_reducible exact H2_) | with_reducible exact H | (rw [hy104]; exact H) | exact H
 have Ny104 := zA.mk hy104
 clear hy104
 have H' := zA.mk H
 clear H
 go_enter Try.func117, Try.ntmps117
 go_wp2_with (first | ((with_reducible refine zq (N := 15) rfl ?_); refine Kd.zCN (Kd.int .i64) _ 2 rfl (N := 15) rfl 22 _ _ rfl (l0.length : Int) rfl rfl Try.underlying22 (.int .i64 0) 8 JS rfl (by decide) (by omega) 0 (ok := fun _ => True) (okp := fun _ => True) rfl (fun _ hk => hk) trivial (of_decide_eq_true (by first | (with_reducible assumption) | assumption)) (Nat.le_trans (Nat.mul_le_mul_right _ (of_decide_eq_true (by first | (with_reducible assumption) | assumption) : (l0.length : Int).toNat ≤ 35184372088832)) (by omega)) (yry _ _) (yqy _) ?_; intro v102 w5 ho6 hb hg_ hnew_; clear hg_ hnew_; (first | rw [← Ny101.out] at ho6 | (simp only [Int.reduceToNat] at ho6; rw [← Ny101.out] at ho6)); have n0_ := zA.mk (Kd.ZB ho6 (zO (by repeat (first | (with_reducible first | exact HB.out | apply zC | apply zB | apply zD) | exact HB.out)))); have n1_ := zA.mk (zM (by repeat (first | (with_reducible first | exact HB.out | apply zC | apply zB | apply zD) | exact HB.out)) hb); clear HB; have HO103 := n0_; have HB := n1_; clear n0_ n1_; clear hb ho6) | ((with_reducible refine zq (N := 16) rfl ?_); refine Kd.S_lit (Kd.slice 2 (Kd.int .i64)) _ 22 ?hg (N := 16) ?hd (xs := ([] : List (List Int))) (inner := []) (ok := fun _ => True) (okp := fun _ => True) ?hr ?hp (fun _ hk => hk) trivial (yry _ _) (yqy _) (by simp) ?_; (case hd => rfl); (case hg => rfl); (case hr => first | (go_simp; done) | (go_simp; rfl)); (case hp => exact (Zu.none _ _)); intro v105 w7 ho8 hb hg_ hnew_; clear hg_ hnew_; (first | rw [← Ny104.out] at ho8 | (simp only [Int.reduceToNat] at ho8; rw [← Ny104.out] at ho8)); have n0_ := zA.mk (Kd.qM (by (with_reducible repeat (first | apply Kd.zR | apply Kd.zS | apply Kd.zW)); exact HO103.out) hb); have n1_ := zA.mk (Kd.Zg (Kd.Zn ho8 (Kd.JC (by (with_reducible repeat (first | apply Kd.zR | apply Kd.zS | apply Kd.zW)); exact HO103.out))) (zO (by repeat (first | (with_reducible first | exact HB.out | apply zC | apply zB | apply zD) | exact HB.out)))); have n2_ := zA.mk (zM (by repeat (first | (with_reducible first | exact HB.out | apply zC | apply zB | apply zD) | exact HB.out)) hb); clear HO103; clear HB; have HO103 := n0_; have HO106 := n1_; have HB := n2_; clear n0_ n1_ n2_; clear hb ho8))
 go_loopg [7, 9] k (fun kq v7 v9 w' => ∃ (x6_1 : List Int) (x7_1 : Int) (x9_1 : Int), v7 = .int .i64 x7_1 ∧ v9 = .int .i64 x9_1 ∧ zA (zd.l0 kq l0 a1 x6_1 x7_1 y104 x9_1 = some (r1, r2)) ∧ zA (kq ≤ k) ∧ zA (Kd.R (Kd.int .i64) 2 w' w.heap.size (fun _ => True) v102 x6_1) ∧ zA (Kd.S (Kd.slice 2 (Kd.int .i64)) 22 w' w.heap.size (fun k_ => some k_ ≠ (v102 : Value).ownBlock) v105 y104) ∧ zA (Below w.heap.size w w'))
 case atStart => exact ⟨(y101), (0), (0), (by first | rfl | (simp; done) | (simp [*]; done)), (by first | rfl | (simp; done) | (simp [*]; done)), H', ⟨yqy _⟩, ⟨by (with_reducible repeat (first | apply Kd.zR | apply Kd.zS | apply Kd.zW)); exact HO103.out⟩, ⟨by (with_reducible repeat (first | apply Kd.ze | apply Kd.zf | apply Kd.zo)); exact Kd.qq HO106.out (fun _ hk => hk.2)⟩, ⟨by repeat (first | (with_reducible first | exact HB.out | apply zC | apply zB | apply zD) | exact HB.out)⟩⟩
 case round =>
  clear H'
  try clear c1
  try clear p2
  try clear c3
  try clear c3b0
  try clear c3b1
  try clear c4
  try clear c4b0
  try clear c4b1
  obtain ⟨x6_1, x7_1, x9_1, rfl, rfl, HA, HK1, HO_6, HO_8, HB⟩ := hrel
  cases gk with
  | zero => exact absurd HA.out (by simp [zd.l0])
  | succ k1 =>
   have H := HA.out
   clear HA
   simp only [zd.l0] at H
   by_cases c9 : x9_1 < (l0.length : Int)
   next =>
    rw [if_pos c9] at H
    have c9b0 : decide (x9_1 < (l0.length : Int)) = true := ygy c9
    clear c9
    by_cases c10 : 0 ≤ x9_1
    rotate_left
    next =>
     rw [if_neg c10] at H
     exact absurd H (by simp)
    rw [if_pos c10] at H
    have c10b0 : decide (0 ≤ x9_1) = true := ygy c10
    clear c10
    by_cases c11 : (rd l0 x9_1) = x9_1
    rotate_left
    next =>
     rw [if_neg c11] at H
     have c11b0 : ((rd l0 x9_1) == x9_1) = false := beq_eq_false_iff_ne.mpr c11
     have c11b1 : ((rd l0 x9_1) != x9_1) = true := bne_iff_ne.mpr c11
     have H' := zA.mk H
     clear H
     have p107 : 0 ≤ (x9_1 : Int) := of_decide_eq_true (by first | (with_reducible assumption) | assumption)
     have q107 : x9_1 < (l0.length : Int) := of_decide_eq_true (by first | (with_reducible assumption) | assumption)
     obtain ⟨ad107, e107, hx107_0⟩ := Kd.ZK HR0.out x9_1 p107 q107
     cases e107
     replace hx107_0 := (HB.out.cell (ypy w _ hx107_0)).trans hx107_0
     replace p107 := eq_true p107
     replace q107 := eq_true q107
     go_wp2
     go_roundg k1
     case measure => have := HK1.out; omega
     case rel => exact ⟨(x6_1), (x7_1), (wrap64 (x9_1 + 1)), (by first | rfl | (simp; done) | (simp [*]; done)), (by first | rfl | (simp; done) | (simp [*]; done)), H', ⟨by have := HK1.out; omega⟩, ⟨by (with_reducible repeat (first | apply Kd.zR | apply Kd.zS | apply Kd.zW)); exact HO_6.out⟩, ⟨by (with_reducible repeat (first | apply Kd.ze | apply Kd.zf | apply Kd.zo)); exact HO_8.out⟩, ⟨by repeat (first | (with_reducible first | exact HB.out | apply zC | apply zB | apply zD) | exact HB.out)⟩⟩
    rw [if_pos c11] at H
    have c11b0 : ((rd l0 x9_1) == x9_1) = true := beq_iff_eq.mpr c11
    have c11b1 : ((rd l0 x9_1) != x9_1) = false := bne_eq_false_iff_eq.mpr c11
    clear c11
    by_cases c12 : x9_1 < (x6_1.length : Int)
    rotate_left
    next =>
     rw [if_neg c12] at H
     exact absurd H (by simp)
    rw [if_pos c12] at H
    have c12b0 : decide (x9_1 < (x6_1.length : Int)) = true := ygy c12
    clear c12
    obtain ⟨y108, hy108⟩ : ∃ y_ : List Int, y_ = (x6_1.set (x9_1 : Int).toNat x7_1) := ⟨_, rfl⟩
    replace H : (zd.l0 k1 l0 a1 y108 (wrap64 (x7_1 + 1)) y104 (wrap64 (x9_1 + 1))) = some (r1, r2) := by first | (rw [hy108]; with_reducible exact H) | (have H2_ := (yfy _ _).symm.trans H; rw [hy108]; with_reducible exact H2_) | (have H2_ := (yfy _ _).symm.trans H; with_reducible exact H2_) | with_reducible exact H | (rw [hy108]; exact H) | exact H
    have Ny108 := zA.mk hy108
    clear hy108
    have H' := zA.mk H
    clear H
    have p107 : 0 ≤ (x9_1 : Int) := of_decide_eq_true (by first | (with_reducible assumption) | assumption)
    have q107 : x9_1 < (l0.length : Int) := of_decide_eq_true (by first | (with_reducible assumption) | assumption)
    obtain ⟨ad107, e107, hx107_0⟩ := Kd.ZK HR0.out x9_1 p107 q107
    cases e107
    replace hx107_0 := (HB.out.cell (ypy w _ hx107_0)).trans hx107_0
    replace p107 := eq_true p107
    replace q107 := eq_true q107
    have p13 : 0 ≤ (x9_1 : Int) := of_decide_eq_true (by first | (with_reducible assumption) | assumption)
    have q13 : (x9_1 : Int) < ((x6_1.length : Int) : Int) := of_decide_eq_true (by first | (with_reducible assumption) | assumption)
    obtain ⟨go13, co13, eo13, gb13, gl13, cl13, HG13⟩ := Kd.JY HO_6.out (by omega)
    (first | cases eo13 | (injection eo13 with ea_ en_ ec_; (first | subst ea_ | (injection ea_ with ea_; subst ea_)); subst ec_; clear en_))
    have GB13 := zA.mk gb13
    have GG13 := zA.mk HG13
    clear gb13 gl13 HG13
    obtain ⟨hx13_0, hf13_0⟩ := Kd.ZV 0 HO_6.out (x9_1 : Int) p13 q13
    replace p13 := eq_true p13
    replace q13 := eq_true q13
    have HP14 := Kd.JZ HO_6.out (x9_1 : Int) x7_1
    go_wp2_with (first | ((with_reducible refine ZQ (t := 2) (p := 32) rfl ?_); refine ZE (t := 2) (p := 32) (v := ?vo_w15) (w1 := (wr.setCell ⟨go13, (x9_1 : Int).toNat, none⟩ (.int .i64 x7_1))) ?hg ?ho ?hn ?hr ?_; (case ho => rfl); (case hg => rfl); (case hn => rfl); (case hr => first | (go_simp; done) | (go_simp; rfl)); intro w15 hw; have hg : wr.grownBy w15 (some go13) := (by rw [hw]; exact HP14.2); have hp_ : Kd.R (Kd.int .i64) 2 w15 w.heap.size (fun _ => True) (.slice (some ⟨go13, 0, none⟩) x6_1.length co13) y108 := (by rw [hw, Ny108.out]; exact HP14.1); clear HP14; have n0_ := zA.mk (hp_); have n1_ := zA.mk (Kd.Qv (v := (.slice (some ⟨go13, 0, none⟩) x6_1.length co13)) (v1 := (.slice (some ⟨go13, 0, none⟩) x6_1.length co13)) (ok := (fun _ => True)) (by (with_reducible repeat (first | apply Kd.ze | apply Kd.zf | apply Kd.zo)); exact Kd.qq HO_8.out (fun _ hk => ⟨trivial, hk⟩)) hg (.inl rfl)); have n2_ := zA.mk ((by rw [hw]; exact zF (HB.out) GB13.out : Below w.heap.size w w15)); clear HO_6; clear HO_8; clear HB; have HO_6 := n0_; have HO_8 := n1_; have HB := n2_; clear n0_ n1_ n2_; clear hg hw hp_))
    go_roundg k1
    case measure => have := HK1.out; omega
    case rel => exact ⟨(y108), (wrap64 (x7_1 + 1)), (wrap64 (x9_1 + 1)), (by first | rfl | (simp; done) | (simp [*]; done)), (by first | rfl | (simp; done) | (simp [*]; done)), H', ⟨by have := HK1.out; omega⟩, ⟨by (with_reducible repeat (first | apply Kd.zR | apply Kd.zS | apply Kd.zW)); exact HO_6.out⟩, ⟨by (with_reducible repeat (first | apply Kd.ze | apply Kd.zf | apply Kd.zo)); exact Kd.qq HO_8.out (fun _ hk => hk.2)⟩, ⟨by repeat (first | (with_reducible first | exact HB.out | apply zC | apply zB | apply zD) | exact HB.out)⟩⟩
   next =>
    rw [if_neg c9] at H
    have c9b0 : decide (x9_1 < (l0.length : Int)) = false := yhy c9
    clear c9
    have H' := zA.mk H
    clear H
    go_wp2
    go_loopg [8, 10] k1 (fun kq v8 v10 w' => ∃ (x8_2 : List (List Int)) (x10_2 : Int), v10 = .int .i64 x10_2 ∧ zA (zd.l1 kq l0 a1 x6_1 x7_1 x8_2 x10_2 = some (r1, r2)) ∧ zA (kq ≤ k1) ∧ zA (Kd.R (Kd.int .i64) 2 w' w.heap.size (fun _ => True) v102 x6_1) ∧ zA (Kd.S (Kd.slice 2 (Kd.int .i64)) 22 w' w.heap.size (fun k_ => some k_ ≠ (v102 : Value).ownBlock) v8 x8_2) ∧ zA (Below w.heap.size w w'))
    case atStart => exact ⟨(y104), (0), (by first | rfl | (simp; done) | (simp [*]; done)), H', ⟨yqy _⟩, ⟨by (with_reducible repeat (first | apply Kd.zR | apply Kd.zS | apply Kd.zW)); exact HO_6.out⟩, ⟨by (with_reducible repeat (first | apply Kd.ze | apply Kd.zf | apply Kd.zo)); exact HO_8.out⟩, ⟨by repeat (first | (with_reducible first | exact HB.out | apply zC | apply zB | apply zD) | exact HB.out)⟩⟩
    case round =>
     clear H'
     try clear c1
     try clear p1
     try clear q1
     try clear hx1
     try clear p2
     try clear c3
     try clear c3b0
     try clear c3b1
     try clear c4
     try clear c4b0
     try clear c4b1
     try clear p6
     try clear c9
     try clear c9b0
     try clear c10
     try clear c10b0
     try clear p10
     try clear q10
     try clear hx10
     try clear c11
     try clear c11b0
     try clear c11b1
     try clear c12
     try clear c12b0
     try clear p13
     try clear q13
     try clear hx13
     try clear hf13
     try clear hx107_0
     try clear hx13_0
     try clear p107
     try clear p13
     try clear p2
     try clear q107
     try clear q13
     obtain ⟨x8_2, x10_2, rfl, HA, HK2, HO_6, HO_8, HB⟩ := hrel
     cases gk with
     | zero => exact absurd HA.out (by simp [zd.l1])
     | succ k2 =>
      have H := HA.out
      clear HA
      simp only [zd.l1] at H
      by_cases c16 : x10_2 < (l0.length : Int)
      rotate_left
      next =>
       rw [if_neg c16] at H
       have c16b0 : decide (x10_2 < (l0.length : Int)) = false := yhy c16
       clear c16
       simp only [Option.some.injEq, Prod.mk.injEq] at H
       obtain ⟨rfl, rfl⟩ := H
       go_wp2
       go_ret2
       exact ⟨_, by first | rfl | (simp [zX, zY] <;> rfl) | (simp [*, zX, zY] <;> rfl), by (with_reducible repeat (first | apply Kd.ze | apply Kd.zf | apply Kd.zo)); exact Kd.qq HO_8.out (fun _ hk => trivial), by repeat (first | (with_reducible first | exact HB.out | apply zC | apply zB | apply zD) | exact HB.out)⟩
      rw [if_pos c16] at H
      have c16b0 : decide (x10_2 < (l0.length : Int)) = true := ygy c16
      clear c16
      obtain ⟨y109, hy109⟩ : ∃ y_ : List Int, y_ = (([] : List Int)) := ⟨_, rfl⟩
      replace H : (zd.l2 k2 l0 a1 x6_1 x7_1 x8_2 x10_2 y109 x10_2) = some (r1, r2) := by first | (rw [hy109]; with_reducible exact H) | (have H2_ := (yfy _ _).symm.trans H; rw [hy109]; with_reducible exact H2_) | (have H2_ := (yfy _ _).symm.trans H; with_reducible exact H2_) | with_reducible exact H | (rw [hy109]; exact H) | exact H
      have Ny109 := zA.mk hy109
      clear hy109
      have H' := zA.mk H
      clear H
      go_wp2_with (first | ((with_reducible refine zq (N := 42) rfl ?_); refine Kd.zAu (Kd.int .i64) _ 2 ?hg (N := 42) ?hd (xs := ([] : List Int)) (inner := []) (ok := fun _ => True) (okp := fun _ => True) ?hr ?hp (fun _ hk => hk) trivial (yry _ _) (yqy _) (by simp) ?_; (case hd => rfl); (case hg => rfl); (case hr => first | (go_simp; done) | (go_simp; rfl)); (case hp => exact (Zu.none _ _)); intro v110 w17 ho18 hb hg_ hnew_; clear hg_ hnew_; (first | rw [← Ny109.out] at ho18 | (simp only [Int.reduceToNat] at ho18; rw [← Ny109.out] at ho18)); have n0_ := zA.mk (Kd.ZY (by (with_reducible repeat (first | apply Kd.zR | apply Kd.zS | apply Kd.zW)); exact HO_6.out) (Kd.Zh ho18) hb); have n1_ := zA.mk (Kd.ZZ (by (with_reducible repeat (first | apply Kd.ze | apply Kd.zf | apply Kd.zo)); exact HO_8.out) (Kd.Zh ho18) hb); have n2_ := zA.mk (Kd.ZB (Kd.Qs ho18 (Kd.JC (by (with_reducible repeat (first | apply Kd.zR | apply Kd.zS | apply Kd.zW)); exact HO_6.out))) (zO (by repeat (first | (with_reducible first | exact HB.out | apply zC | apply zB | apply zD) | exact HB.out)))); have n3_ := zA.mk (zM (by repeat (first | (with_reducible first | exact HB.out | apply zC | apply zB | apply zD) | exact HB.out)) hb); clear HO_6; clear HO_8; clear HB; have HO_6 := n0_; have HO_8 := n1_; have HO111 := n2_; have HB := n3_; clear n0_ n1_ n2_ n3_; clear hb ho18))
      go_loopg [11, 12] k2 (fun kq v11 v12 w' => ∃ (x11_3 : List Int) (x12_3 : Int), v12 = .int .i64 x12_3 ∧ zA (zd.l2 kq l0 a1 x6_1 x7_1 x8_2 x10_2 x11_3 x12_3 = some (r1, r2)) ∧ zA (kq ≤ k2) ∧ zA (Kd.R (Kd.int .i64) 2 w' w.heap.size (fun k_ => some k_ ≠ (v11 : Value).ownBlock) v102 x6_1) ∧ zA (Kd.S (Kd.slice 2 (Kd.int .i64)) 22 w' w.heap.size (fun k_ => some k_ ≠ (v102 : Value).ownBlock ∧ some k_ ≠ (v11 : Value).ownBlock) u8 x8_2) ∧ zA (Kd.R (Kd.int .i64) 2 w' w.heap.size (fun k_ => some k_ ≠ (v102 : Value).ownBlock) v11 x11_3) ∧ zA (Below w.heap.size w w'))
      case atStart => exact ⟨(y109), (x10_2), (by first | rfl | (simp; done) | (simp [*]; done)), H', ⟨yqy _⟩, ⟨by (with_reducible repeat (first | apply Kd.zR | apply Kd.zS | apply Kd.zW)); exact Kd.zv HO_6.out (fun _ hk => hk.2)⟩, ⟨by (with_reducible repeat (first | apply Kd.ze | apply Kd.zf | apply Kd.zo)); exact HO_8.out⟩, ⟨by (with_reducible repeat (first | apply Kd.zR | apply Kd.zS | apply Kd.zW)); exact Kd.zv HO111.out (fun _ hk => hk.2)⟩, ⟨by repeat (first | (with_reducible first | exact HB.out | apply zC | apply zB | apply zD) | exact HB.out)⟩⟩
      case round =>
       clear H'
       try clear c1
       try clear p1
       try clear q1
       try clear hx1
       try clear p2
       try clear c3
       try clear c3b0
       try clear c3b1
       try clear c4
       try clear c4b0
       try clear c4b1
       try clear p6
       try clear c9
       try clear c9b0
       try clear c10
       try clear c10b0
       try clear p10
       try clear q10
       try clear hx10
       try clear c11
       try clear c11b0
       try clear c11b1
       try clear c12
       try clear c12b0
       try clear p13
       try clear q13
       try clear hx13
       try clear hf13
       try clear c16
       try clear c16b0
       try clear hx107_0
       try clear hx13_0
       try clear p1
       try clear p10
       try clear p107
       try clear p13
       try clear p2
       try clear p6
       try clear q1
       try clear q10
       try clear q107
       try clear q13
       obtain ⟨x11_3, x12_3, rfl, HA, HK3, HO_6, HO_8, HO_11, HB⟩ := hrel
       cases gk with
       | zero => exact absurd HA.out (by simp [zd.l2])
       | succ k3 =>
        have H := HA.out
        clear HA
        simp only [zd.l2] at H
        by_cases c19 : x12_3 < (wrap64 (x10_2 + a1))
        rotate_left
        next =>
         rw [if_neg c19] at H
         have c19b0 : decide (x12_3 < (wrap64 (x10_2 + a1))) = false := yhy c19
         clear c19
         by_cases c27 : x8_2.length < 5864062014805
         rotate_left
         next =>
          rw [if_neg c27] at H
          exact absurd H (by simp)
         rw [if_pos c27] at H
         have LMc27 := zA.mk c27
         clear c27
         obtain ⟨y117, hy117⟩ : ∃ y_ : List (List Int), y_ = (x8_2 ++ [x11_3]) := ⟨_, rfl⟩
         replace H : (zd.l1 k3 l0 a1 x6_1 x7_1 y117 (wrap64 (x10_2 + a1))) = some (r1, r2) := by first | (rw [hy117]; with_reducible exact H) | (have H2_ := (yfy _ _).symm.trans H; rw [hy117]; with_reducible exact H2_) | (have H2_ := (yfy _ _).symm.trans H; with_reducible exact H2_) | with_reducible exact H | (rw [hy117]; exact H) | exact H
         have Ny117 := zA.mk hy117
         clear hy117
         have H' := zA.mk H
         clear H
         obtain ⟨Ao29, co29, eo29⟩ := Kd.ZH HO_11.out
         subst eo29
         go_wp2_with (first | ((with_reducible refine ZS (b := .append) (xs := #[.tmp 61, .tmp 63]) rfl ?_); at_builtin; refine Kd.zDQ (Kd.slice 2 (Kd.int .i64)) (w0 := w) w.heap.size rfl (.tmp 61) (.tmp 63) 30 22 (.slice none 0 0) 24 rfl Try.underlying30 zEd rfl (by decide) (by omega) u8 x8_2 x11_3 [.slice Ao29 x11_3.length co29] (fun k_ => some k_ ≠ (v102 : Value).ownBlock) (fun k_ => some k_ = (.slice Ao29 x11_3.length co29 : Value).ownBlock) rfl rfl ?aP (fun k_ hk_ => ((Kd.zv (ok' := fun k_ => ((fun k_ => some k_ ≠ (v102 : Value).ownBlock)) k_ ∧ some k_ ≠ (u8 : Value).ownBlock) (Kd.QO (HO_11.out) (Kd.Qa HO_8.out) (by decide)) (fun k_ hk => ⟨hk.1, hk.2⟩))).1 k_ hk_.symm) ?aF ?aO ?aB ?aS ?aL ?_; (case aP => exact Kd.zGA (Kd.zv (Kd.Qu rfl (Kd.zv (ok' := fun k_ => ((fun k_ => some k_ ≠ (v102 : Value).ownBlock)) k_ ∧ some k_ ≠ (u8 : Value).ownBlock) (Kd.QO (HO_11.out) (Kd.Qa HO_8.out) (by decide)) (fun k_ hk => ⟨hk.1, hk.2⟩))) (fun _ h_ => h_))); (case aB => exact (by repeat (first | (with_reducible first | exact HB.out | apply zC | apply zB | apply zD) | exact HB.out))); (case aF => exact (fun k_ hk => Kd.Qt (Kd.JC (by (with_reducible repeat (first | apply Kd.zR | apply Kd.zS | apply Kd.zW)); exact HO_6.out)) k_ hk)); (case aO => exact (by (with_reducible repeat (first | apply Kd.ze | apply Kd.zf | apply Kd.zo)); exact Kd.qq HO_8.out (fun k_ hk => ⟨hk.1, fun e_ => hk.2 e_⟩))); (case aS => exact (zO (by repeat (first | (with_reducible first | exact HB.out | apply zC | apply zB | apply zD) | exact HB.out)))); (case aL => have := LMc27.out; omega); intro v118 w28 ho hb hg hat; rw [← Ny117.out] at ho; have n0_ := zA.mk (Kd.zGC (by (with_reducible repeat (first | apply Kd.zR | apply Kd.zS | apply Kd.zW)); exact HO_6.out) (Kd.Qa (by (with_reducible repeat (first | apply Kd.ze | apply Kd.zf | apply Kd.zo)); exact HO_8.out)) (by decide) hg); have n1_ := zA.mk (hb); have n2_ := zA.mk (ho); clear HO_6; clear HB; clear HO_8; clear HO_11; have HO_6 := n0_; have HB := n1_; have HO119 := n2_; clear n0_ n1_ n2_; clear ho hb hg hat))
         go_roundg k3
         case measure => have := HK1.out; have := HK2.out; have := HK3.out; omega
         case rel => exact ⟨(y117), (wrap64 (x10_2 + a1)), (by first | rfl | (simp; done) | (simp [*]; done)), H', ⟨by have := HK1.out; have := HK2.out; have := HK3.out; omega⟩, ⟨by (with_reducible repeat (first | apply Kd.zR | apply Kd.zS | apply Kd.zW)); exact Kd.zv HO_6.out (fun _ hk => trivial)⟩, ⟨by (with_reducible repeat (first | apply Kd.ze | apply Kd.zf | apply Kd.zo)); exact HO119.out⟩, ⟨by repeat (first | (with_reducible first | exact HB.out | apply zC | apply zB | apply zD) | exact HB.out)⟩⟩
        rw [if_pos c19] at H
        have c19b0 : decide (x12_3 < (wrap64 (x10_2 + a1))) = true := ygy c19
        clear c19
        by_cases c20 : 0 ≤ x12_3
        rotate_left
        next =>
         rw [if_neg c20] at H
         exact absurd H (by simp)
        rw [if_pos c20] at H
        have c20b0 : decide (0 ≤ x12_3) = true := ygy c20
        clear c20
        by_cases c21 : x12_3 < (l0.length : Int)
        rotate_left
        next =>
         rw [if_neg c21] at H
         exact absurd H (by simp)
        rw [if_pos c21] at H
        have c21b0 : decide (x12_3 < (l0.length : Int)) = true := ygy c21
        clear c21
        by_cases c22 : 0 ≤ (rd l0 x12_3)
        rotate_left
        next =>
         rw [if_neg c22] at H
         exact absurd H (by simp)
        rw [if_pos c22] at H
        have c22b0 : decide (0 ≤ (rd l0 x12_3)) = true := ygy c22
        clear c22
        by_cases c23 : (rd l0 x12_3) < (x6_1.length : Int)
        rotate_left
        next =>
         rw [if_neg c23] at H
         exact absurd H (by simp)
        rw [if_pos c23] at H
        have c23b0 : decide ((rd l0 x12_3) < (x6_1.length : Int)) = true := ygy c23
        clear c23
        by_cases c24 : x11_3.length < 17592186044416
        rotate_left
        next =>
         rw [if_neg c24] at H
         exact absurd H (by simp)
        rw [if_pos c24] at H
        have LMc24 := zA.mk c24
        clear c24
        obtain ⟨y114, hy114⟩ : ∃ y_ : List Int, y_ = (x11_3 ++ [rd x6_1 (rd l0 x12_3)]) := ⟨_, rfl⟩
        replace H : (zd.l2 k3 l0 a1 x6_1 x7_1 x8_2 x10_2 y114 (wrap64 (x12_3 + 1))) = some (r1, r2) := by first | (rw [hy114]; with_reducible exact H) | (have H2_ := (yfy _ _).symm.trans H; rw [hy114]; with_reducible exact H2_) | (have H2_ := (yfy _ _).symm.trans H; with_reducible exact H2_) | with_reducible exact H | (rw [hy114]; exact H) | exact H
        have Ny114 := zA.mk hy114
        clear hy114
        have H' := zA.mk H
        clear H
        have p112 : 0 ≤ (x12_3 : Int) := of_decide_eq_true (by first | (with_reducible assumption) | assumption)
        have q112 : x12_3 < (l0.length : Int) := of_decide_eq_true (by first | (with_reducible assumption) | assumption)
        obtain ⟨ad112, e112, hx112_0⟩ := Kd.ZK HR0.out x12_3 p112 q112
        cases e112
        replace hx112_0 := (HB.out.cell (ypy w _ hx112_0)).trans hx112_0
        replace p112 := eq_true p112
        replace q112 := eq_true q112
        obtain ⟨Ao25, co25, eo25⟩ := Kd.ZH HO_6.out
        subst eo25
        have p113 : 0 ≤ ((rd l0 x12_3) : Int) := of_decide_eq_true (by first | (with_reducible assumption) | assumption)
        have q113 : (rd l0 x12_3) < (x6_1.length : Int) := of_decide_eq_true (by first | (with_reducible assumption) | assumption)
        obtain ⟨ad113, e113, hx113_0⟩ := Kd.ZK (Kd.zx HO_6.out).2.2 (rd l0 x12_3) p113 q113
        cases e113
        replace p113 := eq_true p113
        replace q113 := eq_true q113
        go_wp2_with (first | ((with_reducible refine ZS (b := .append) (xs := #[.tmp 51, .tmp 59]) rfl ?_); at_builtin; refine Kd.Qf (Kd.int .i64) (w0 := w) w.heap.size rfl (.tmp 51) (.tmp 59) 22 2 (.int .i64 0) 8 rfl Try.underlying22 JS rfl (by decide) (by omega) u11 x11_3 (rd x6_1 (rd l0 x12_3)) [.int .i64 (rd x6_1 (rd l0 x12_3))] (fun k_ => some k_ ≠ (.slice (some ad113) x6_1.length co25 : Value).ownBlock) (fun _ => False) rfl rfl ?aP (fun _ hk => hk.elim) ?aF ?aO ?aB ?aS ?aL ?_; (case aP => exact rfl); (case aB => exact (by repeat (first | (with_reducible first | exact HB.out | apply zC | apply zB | apply zD) | exact HB.out))); (case aF => exact (fun k_ hk => Kd.Qt (Kd.JC (by (with_reducible repeat (first | apply Kd.zR | apply Kd.zS | apply Kd.zW)); exact HO_6.out)) k_ hk)); (case aO => exact (by (with_reducible repeat (first | apply Kd.zR | apply Kd.zS | apply Kd.zW)); exact HO_11.out)); (case aS => exact (zO (by repeat (first | (with_reducible first | exact HB.out | apply zC | apply zB | apply zD) | exact HB.out)))); (case aL => have := LMc24.out; omega); intro v115 w26 ho hb hg hat; rw [← Ny114.out] at ho; have n0_ := zA.mk (Kd.qy (ok := (fun _ => True)) (by (with_reducible repeat (first | apply Kd.zR | apply Kd.zS | apply Kd.zW)); exact Kd.zv HO_6.out (fun _ hk => ⟨trivial, hk⟩)) hg hat); have n1_ := zA.mk (Kd.Qv (ok := (fun k_ => some k_ ≠ (.slice (some ad113) x6_1.length co25 : Value).ownBlock)) (by (with_reducible repeat (first | apply Kd.ze | apply Kd.zf | apply Kd.zo)); exact HO_8.out) hg hat); have n2_ := zA.mk (hb); have n3_ := zA.mk (ho); clear HO_6; clear HO_8; clear HB; clear HO_11; have HO_6 := n0_; have HO_8 := n1_; have HB := n2_; have HO116 := n3_; clear n0_ n1_ n2_ n3_; clear ho hb hg hat))
        go_roundg k3
        case measure => have := HK1.out; have := HK2.out; have := HK3.out; omega
        case rel => exact ⟨(y114), (wrap64 (x12_3 + 1)), (by first | rfl | (simp; done) | (simp [*]; done)), H', ⟨by have := HK1.out; have := HK2.out; have := HK3.out; omega⟩, ⟨by (with_reducible repeat (first | apply Kd.zR | apply Kd.zS | apply Kd.zW)); exact Kd.zv HO_6.out (fun _ hk => hk.2)⟩, ⟨by (with_reducible repeat (first | apply Kd.ze | apply Kd.zf | apply Kd.zo)); exact HO_8.out⟩, ⟨by (with_reducible repeat (first | apply Kd.zR | apply Kd.zS | apply Kd.zW)); exact HO116.out⟩, ⟨by repeat (first | (with_reducible first | exact HB.out | apply zC | apply zB | apply zD) | exact HB.out)⟩⟩
mutual
def zQ.l0 : Nat → Int → List Int → List Int → List Int → Int → List (List (qA)) → Option ((List (List Int)) × (List (List Int)) × (List (List Int)) × List Int)
 | 0, _, _, _, _, _, _ => none
 | k + 1, x4, x5, x6, x7, x8, x102000 => if x8 < x4 then (zQ.l1 k x4 x5 x6 x7 x8 0 x102000) else ((some (([0, 0, 0, x4] : List Int) : List Int)).bind fun y114 => ((zd.f k x5 4).bind fun bt117 => (if 0 < (y114.length : Int) then ((zd.f k x6 6).bind fun bt122 => (if 1 < (y114.length : Int) then ((zd.f k x7 4).bind fun bt127 => (if 2 < (y114.length : Int) then (some (bt117.1, bt122.1, bt127.1, (((y114.set (0 : Int).toNat bt117.2).set (1 : Int).toNat bt122.2).set (2 : Int).toNat bt127.2))) else (none))) else (none))) else (none))))
def zQ.l1 : Nat → Int → List Int → List Int → List Int → Int → Int → List (List (qA)) → Option ((List (List Int)) × (List (List Int)) × (List (List Int)) × List Int)
 | 0, _, _, _, _, _, _, _ => none
 | k + 1, x4, x5, x6, x7, x8, x9, x102000 => if x9 < 4 then (if 0 ≤ x8 then (if x8 < (x102000.length : Int) then (if 0 ≤ x9 then (if x9 < ((zE x102000 x8).length : Int) then (if ((zI (zE x102000 x8) x9).f0) < 0 then (zQ.l1 k x4 x5 x6 x7 x8 (wrap64 (x9 + 1)) x102000) else ((qh.f k ((zI (zE x102000 x8) x9).f1) x9).bind fun t135 => ((qv.f x7 (wrap64 ((wrap64 (4 * x8)) + x9)) (wrap64 ((wrap64 (4 * ((zI (zE x102000 x8) x9).f0))) + t135))).bind fun t136 => (zQ.l2 k x4 x5 x6 t136 x8 x9 0 x102000 ((zI (zE x102000 x8) x9).f0) ((zI (zE x102000 x8) x9).f1))))) else (none)) else (none)) else (none)) else (none)) else (zQ.l0 k x4 x5 x6 x7 (wrap64 (x8 + 1)) x102000)
def zQ.l2 : Nat → Int → List Int → List Int → List Int → Int → Int → Int → List (List (qA)) → Int → Int → Option ((List (List Int)) × (List (List Int)) × (List (List Int)) × List Int)
 | 0, _, _, _, _, _, _, _, _, _, _ => none
 | k + 1, x4, x5, x6, x7, x8, x9, x11, x102000, x135000, x135001 => if x11 < 4 then (if x11 = x9 then (zQ.l2 k x4 x5 x6 x7 x8 x9 (wrap64 (x11 + 1)) x102000 x135000 x135001) else ((qh.f k x135001 x11).bind fun t137 => ((qv.f x5 (wrap64 ((wrap64 (4 * x8)) + x11)) (wrap64 ((wrap64 (4 * x135000)) + t137))).bind fun t138 => (zQ.l2 k x4 t138 x6 x7 x8 x9 (wrap64 (x11 + 1)) x102000 x135000 x135001)))) else (zQ.l3 k x4 x5 x6 x7 x8 x9 0 x102000 x135000 x135001)
def zQ.l3 : Nat → Int → List Int → List Int → List Int → Int → Int → Int → List (List (qA)) → Int → Int → Option ((List (List Int)) × (List (List Int)) × (List (List Int)) × List Int)
 | 0, _, _, _, _, _, _, _, _, _, _ => none
 | k + 1, x4, x5, x6, x7, x8, x9, x12, x102000, x135000, x135001 => if x12 < 6 then ((ql.f x12).bind fun bt139 => (if bt139.1 = x9 then (zQ.j4 k x4 x5 x6 x7 x8 x9 x12 bt139.1 bt139.2 false x102000 x135000 x135001) else (zQ.j4 k x4 x5 x6 x7 x8 x9 x12 bt139.1 bt139.2 (bt139.2 != x9) x102000 x135000 x135001))) else (zQ.l1 k x4 x5 x6 x7 x8 (wrap64 (x9 + 1)) x102000)
def zQ.j4 : Nat → Int → List Int → List Int → List Int → Int → Int → Int → Int → Int → Bool → List (List (qA)) → Int → Int → Option ((List (List Int)) × (List (List Int)) × (List (List Int)) × List Int)
 | 0, _, _, _, _, _, _, _, _, _, _, _, _, _ => none
 | k + 1, x4, x5, x6, x7, x8, x9, x12, x13, x14, x99, x102000, x135000, x135001 => if x99 = true then ((qh.f k x135001 x13).bind fun t141 => ((qh.f k x135001 x14).bind fun t142 => ((zz.f k t141 t142).bind fun t143 => ((qv.f x6 (wrap64 ((wrap64 (6 * x8)) + x12)) (wrap64 ((wrap64 (6 * x135000)) + t143))).bind fun t144 => (zQ.l3 k x4 x5 t144 x7 x8 x9 (wrap64 (x12 + 1)) x102000 x135000 x135001))))) else (zQ.l3 k x4 x5 x6 x7 x8 x9 (wrap64 (x12 + 1)) x102000 x135000 x135001)
end
def zQ.f (k : Nat) (l0_0 : List (List (qA))) : Option ((List (List Int)) × (List (List Int)) × (List (List Int)) × List Int) := (qV.f l0_0).bind fun t103 => ((qB.f k (wrap64 (4 * t103))).bind fun t104 => ((qB.f k (wrap64 (6 * t103))).bind fun t107 => ((qB.f k (wrap64 (4 * t103))).bind fun t110 => (zQ.l0 k t103 t104 t107 t110 0 l0_0))))
def zQ.T13 : Bool × List (List Nat × List Nat) := (true, [([], []), ([], []), ([1], [1]), ([], []), ([2, 3], [2, 3]), ([], []), ([5], [5]), ([6], [6]), ([], []), ([8], [8]), ([], []), ([9, 10], [9, 10]), ([7, 11], [7, 11]), ([0, 4, 12, 11], [0, 4, 12])])
def zQ.B13 : List Nat := [0, 0, 2, 0, 14, 0, 32, 96, 0, 256, 0, 1792, 4064, 8191]
theorem zQ.tab13 : JD .any (opsOf Try.f84 13) = zQ.T13 := by kernel_rfl
theorem zQ.bits13 : Zy zQ.T13.2 zQ.B13 = true := by kernel_rfl
def zQ.T18 : Bool × List (List Nat × List Nat) := (true, [([], []), ([], []), ([1], [1]), ([], []), ([2, 3], [2, 3]), ([], []), ([5], [5]), ([6], [6]), ([], []), ([8], [8]), ([], []), ([9, 10], [9, 10]), ([7, 11], [7, 11]), ([0, 4, 12, 11], [0, 4, 12])])
def zQ.B18 : List Nat := [0, 0, 2, 0, 14, 0, 32, 96, 0, 256, 0, 1792, 4064, 8191]
theorem zQ.tab18 : JD .any (opsOf Try.f84 18) = zQ.T18 := by kernel_rfl
theorem zQ.bits18 : Zy zQ.T18.2 zQ.B18 = true := by kernel_rfl
def zQ.T24 : Bool × List (List Nat × List Nat) := (true, [([], []), ([], []), ([1], [1]), ([], []), ([2, 3], [2, 3]), ([], []), ([5], [5]), ([6], [6]), ([], []), ([8], [8]), ([], []), ([9, 10], [9, 10]), ([], []), ([12], [12]), ([], []), ([13, 14, 11], [13, 14]), ([11, 15, 15], [11, 15]), ([7, 16], [7, 16]), ([0, 4, 17, 16], [0, 4, 17])])
def zQ.B24 : List Nat := [0, 0, 2, 0, 14, 0, 32, 96, 0, 256, 0, 1792, 0, 4096, 0, 32512, 65280, 131040, 262143]
theorem zQ.tab24 : JD .any (opsOf Try.f84 24) = zQ.T24 := by kernel_rfl
theorem zQ.bits24 : Zy zQ.T24.2 zQ.B24 = true := by kernel_rfl
set_option maxHeartbeats 8000000 in
set_option maxRecDepth 100000 in
theorem zQ.calls (k : Nat) (A0_0 : Option Addr) (c0_0 : Nat) (l0_0 : List (List (qA))) (r1 : List (List Int)) (r2 : List (List Int)) (r3 : List (List Int)) (r4 : List Int) (w : World) (hr0_0 : Kd.C (Kd.slice 75 ZT) w A0_0 l0_0.length l0_0) (hc0_0 : l0_0.length ≤ c0_0) (h : zQ.f k l0_0 = some (r1, r2, r3, r4)) :
 Calls Try.prog 84 #[.agg #[.slice A0_0 l0_0.length c0_0]] w fun e w' => ∃ v0_ v1_ v2_ v3_ : Value, e = .returned (.tuple #[.agg #[v0_, v1_, v2_], v3_]) ∧ Kd.S (Kd.slice 2 (Kd.int .i64)) 22 w' w.heap.size (fun k_ => some k_ ≠ (v1_ : Value).ownBlock ∧ some k_ ≠ (v2_ : Value).ownBlock ∧ some k_ ≠ (v3_ : Value).ownBlock) v0_ r1 ∧ Kd.S (Kd.slice 2 (Kd.int .i64)) 22 w' w.heap.size (fun k_ => some k_ ≠ (v0_ : Value).ownBlock ∧ some k_ ≠ (v2_ : Value).ownBlock ∧ some k_ ≠ (v3_ : Value).ownBlock) v1_ r2 ∧ Kd.S (Kd.slice 2 (Kd.int .i64)) 22 w' w.heap.size (fun k_ => some k_ ≠ (v0_ : Value).ownBlock ∧ some k_ ≠ (v1_ : Value).ownBlock ∧ some k_ ≠ (v3_ : Value).ownBlock) v2_ r3 ∧ Kd.R (Kd.int .i64) 2 w' w.heap.size (fun _ => True) v3_ r4 ∧ Below w.heap.size w w' := by
 have hu35 := Try.underlying35
 have hu88 := Try.underlying88
 have hu75 := Try.underlying75
 have HR0_0 := zA.mk hr0_0
 have HC0_0 := zA.mk hc0_0
 clear hr0_0 hc0_0
 have HB := zA.mk (yry w.heap.size w)
 have H : ((qV.f l0_0).bind fun t103 => ((qB.f k (wrap64 (4 * t103))).bind fun t104 => ((qB.f k (wrap64 (6 * t103))).bind fun t107 => ((qB.f k (wrap64 (4 * t103))).bind fun t110 => (zQ.l0 k t103 t104 t107 t110 0 l0_0))))) = some (r1, r2, r3, r4) := h
 clear h
 replace H := ydy.mp H
 obtain ⟨t103, A20, H⟩ := H
 replace H : ((qB.f k (wrap64 (4 * t103))).bind fun t104 => ((qB.f k (wrap64 (6 * t103))).bind fun t107 => ((qB.f k (wrap64 (4 * t103))).bind fun t110 => (zQ.l0 k t103 t104 t107 t110 0 l0_0)))) = some (r1, r2, r3, r4) := H
 have A2 := zA.mk A20
 clear A20
 replace H := ydy.mp H
 obtain ⟨t104, A30, H⟩ := H
 replace H : ((qB.f k (wrap64 (6 * t103))).bind fun t107 => ((qB.f k (wrap64 (4 * t103))).bind fun t110 => (zQ.l0 k t103 t104 t107 t110 0 l0_0))) = some (r1, r2, r3, r4) := H
 have A3 := zA.mk A30
 clear A30
 replace H := ydy.mp H
 obtain ⟨t107, A40, H⟩ := H
 replace H : ((qB.f k (wrap64 (4 * t103))).bind fun t110 => (zQ.l0 k t103 t104 t107 t110 0 l0_0)) = some (r1, r2, r3, r4) := H
 have A4 := zA.mk A40
 clear A40
 replace H := ydy.mp H
 obtain ⟨t110, A50, H⟩ := H
 replace H : (zQ.l0 k t103 t104 t107 t110 0 l0_0) = some (r1, r2, r3, r4) := H
 have A5 := zA.mk A50
 clear A50
 have H' := zA.mk H
 clear H
 go_enter Try.func84, Try.ntmps84
 go_wp2_with (first | ((with_reducible refine zq (N := 1) rfl ?_); refine zt ?hg (N := 1) ?hd (cs := #[.slice A0_0 l0_0.length c0_0]) (t := 35) ?hr ?_; (case hd => rfl); (case hg => rfl); (case hr => first | (go_simp; done) | (go_simp; rfl)); intro gb101 hg w6 hbox hb; have n0_ := zA.mk (zM (by repeat (first | (with_reducible first | exact HB.out | apply zC | apply zB | apply zD) | exact HB.out)) hb); have n1_ := zA.mk (hbox); have n2_ := zA.mk ((by rw [hg]; exact (zO (by repeat (first | (with_reducible first | exact HB.out | apply zC | apply zB | apply zD) | exact HB.out))) : w.heap.size ≤ gb101)); have n3_ := zA.mk ((by rw [hg]; exact (zO (by repeat (first | (with_reducible first | exact HB.out | apply zC | apply zB | apply zD) | exact HB.out))) : w.heap.size ≤ gb101)); clear HB; have HB := n0_; have BK101 := n1_; have GW101 := n2_; have GE101 := n3_; clear n0_ n1_ n2_ n3_; clear hb hbox hg) | ((with_reducible refine zq (N := 2) rfl ?_); refine zt ?hg (N := 2) ?hd (cs := #[.slice none 0 0, .slice none 0 0, .slice none 0 0]) (t := 88) ?hr ?_; (case hd => rfl); (case hg => rfl); (case hr => first | (go_simp; done) | (go_simp; rfl)); intro gb102 hg w7 hbox hb; have n0_ := zA.mk (zP (g := gb101) (o := .cells #[.slice A0_0 l0_0.length c0_0] 35 (0, 0)) (by (with_reducible repeat (first | refine zH ?_ _ | refine zJ ?_ | refine zG ?_ _)); exact BK101.out) hb); have n1_ := zA.mk (zM (by repeat (first | (with_reducible first | exact HB.out | apply zC | apply zB | apply zD | refine zF ?_ GE101.out) | exact HB.out)) hb); have n2_ := zA.mk (hbox); have n3_ := zA.mk ((by rw [hg]; exact (zO (by repeat (first | (with_reducible first | exact HB.out | apply zC | apply zB | apply zD | refine zF ?_ GE101.out) | exact HB.out))) : w.heap.size ≤ gb102)); have n4_ := zA.mk ((by rw [hg]; exact (zO (by repeat (first | (with_reducible first | exact HB.out | apply zC | apply zB | apply zD | refine zF ?_ GE101.out) | exact HB.out))) : w.heap.size ≤ gb102)); have n5_ := zA.mk ((by rw [hg]; exact Nat.ne_of_lt (qN (g := gb101) (o := .cells #[.slice A0_0 l0_0.length c0_0] 35 (0, 0)) (by (with_reducible repeat (first | refine zH ?_ _ | refine zJ ?_ | refine zG ?_ _)); exact BK101.out)) : gb101 ≠ gb102)); have n6_ := zA.mk ((by rw [hg]; exact Nat.ne_of_gt (qN (g := gb101) (o := .cells #[.slice A0_0 l0_0.length c0_0] 35 (0, 0)) (by (with_reducible repeat (first | refine zH ?_ _ | refine zJ ?_ | refine zG ?_ _)); exact BK101.out)) : gb102 ≠ gb101)); clear BK101; clear HB; have BK101 := n0_; have HB := n1_; have BK102 := n2_; have GW102 := n3_; have GE102 := n4_; have NB101_102 := n5_; have NB102_101 := n6_; clear n0_ n1_ n2_ n3_ n4_ n5_ n6_; clear hb hbox hg; have hnb8 := NB101_102.out; have hnc8 := NB102_101.out; have hcz9_0 : w7.cell? ⟨gb101, 0, none⟩ = some (.slice A0_0 l0_0.length c0_0) := (zK BK101.out 0).trans rfl; have hfz9_0 := zN BK101.out 0) | ((with_reducible refine za (f := 66) rfl ?_); refine qL (some 18) rfl rfl Try.func66 (by kernel_rfl) rfl #[.agg #[.slice A0_0 l0_0.length c0_0]] rfl (by (try simp only [yiy, yjy, yky]); first | done | rfl | (simp only [yly, ymy]; rfl)) ?_; (with_reducible refine (qV.calls _ _ l0_0 t103 _ ?side1 ?side2 A2.out).mono ?_); (case side1 => repeat (first | exact (Kd.qG HR0_0.out HB.out) | (with_reducible refine Kd.zu ?_ _) | (with_reducible refine Kd.zw ?_ _) | (with_reducible refine Kd.qK ?_))); (case side2 => exact HC0_0.out); rintro e w10 ⟨rfl, hb⟩; refine ⟨_, rfl, ?_⟩; have n0_ := zA.mk (zP (g := gb101) (o := .cells #[.slice A0_0 l0_0.length c0_0] 35 (0, 0)) (by (with_reducible repeat (first | refine zH ?_ _ | refine zJ ?_ | refine zG ?_ _)); exact BK101.out) hb); have n1_ := zA.mk (zP (g := gb102) (o := .cells #[.slice none 0 0, .slice none 0 0, .slice none 0 0] 88 (0, 0)) (by (with_reducible repeat (first | refine zH ?_ _ | refine zJ ?_ | refine zG ?_ _)); exact BK102.out) hb); have n2_ := zA.mk (zM (by repeat (first | (with_reducible first | exact HB.out | apply zC | apply zB | apply zD | refine zF ?_ GE101.out | refine zF ?_ GE102.out) | exact HB.out)) hb); clear BK101; clear BK102; clear HB; have BK101 := n0_; have BK102 := n1_; have HB := n2_; clear n0_ n1_ n2_; (try clear hb); (try clear hb2); (try clear hk); (try clear hi)) | ((with_reducible refine za (f := 91) rfl ?_); refine qL (some 21) rfl rfl Try.func91 (by kernel_rfl) rfl #[.int .i64 (wrap64 (4 * t103))] rfl (by (try simp only [yiy, yjy, yky]); first | done | rfl | (simp only [yly, ymy]; rfl)) ?_; (with_reducible refine (qB.calls k (wrap64 (4 * t103)) t104 _ A3.out).mono ?_); rintro e w11 ⟨v105, rfl, ho0, hb⟩; refine ⟨_, rfl, ?_⟩; have n0_ := zA.mk (Kd.ZB ho0 (zO (by repeat (first | (with_reducible first | exact HB.out | apply zC | apply zB | apply zD | refine zF ?_ GE101.out | refine zF ?_ GE102.out) | exact HB.out)))); have n1_ := zA.mk (zP (g := gb101) (o := .cells #[.slice A0_0 l0_0.length c0_0] 35 (0, 0)) (by (with_reducible repeat (first | refine zH ?_ _ | refine zJ ?_ | refine zG ?_ _)); exact BK101.out) hb); have n2_ := zA.mk (zP (g := gb102) (o := .cells #[.slice none 0 0, .slice none 0 0, .slice none 0 0] 88 (0, 0)) (by (with_reducible repeat (first | refine zH ?_ _ | refine zJ ?_ | refine zG ?_ _)); exact BK102.out) hb); have n3_ := zA.mk (zM (by repeat (first | (with_reducible first | exact HB.out | apply zC | apply zB | apply zD | refine zF ?_ GE101.out | refine zF ?_ GE102.out) | exact HB.out)) hb); clear BK101; clear BK102; clear HB; have HO106 := n0_; have BK101 := n1_; have BK102 := n2_; have HB := n3_; clear n0_ n1_ n2_ n3_; (try clear hb); (try clear hb2); (try clear hk); (try clear hi); (try clear ho0)) | ((with_reducible refine za (f := 91) rfl ?_); refine qL (some 24) rfl rfl Try.func91 (by kernel_rfl) rfl #[.int .i64 (wrap64 (6 * t103))] rfl (by (try simp only [yiy, yjy, yky]); first | done | rfl | (simp only [yly, ymy]; rfl)) ?_; (with_reducible refine (qB.calls k (wrap64 (6 * t103)) t107 _ A4.out).mono ?_); rintro e w12 ⟨v108, rfl, ho0, hb⟩; refine ⟨_, rfl, ?_⟩; have n0_ := zA.mk (Kd.ZY (by (with_reducible repeat (first | apply Kd.zR | apply Kd.zS | apply Kd.zW)); exact HO106.out) (Kd.Zh ho0) hb); have n1_ := zA.mk (Kd.ZB (Kd.Qs ho0 (Kd.JC (by (with_reducible repeat (first | apply Kd.zR | apply Kd.zS | apply Kd.zW)); exact HO106.out))) (zO (by repeat (first | (with_reducible first | exact HB.out | apply zC | apply zB | apply zD | refine zF ?_ GE101.out | refine zF ?_ GE102.out) | exact HB.out)))); have n2_ := zA.mk (zP (g := gb101) (o := .cells #[.slice A0_0 l0_0.length c0_0] 35 (0, 0)) (by (with_reducible repeat (first | refine zH ?_ _ | refine zJ ?_ | refine zG ?_ _)); exact BK101.out) hb); have n3_ := zA.mk (zP (g := gb102) (o := .cells #[.slice none 0 0, .slice none 0 0, .slice none 0 0] 88 (0, 0)) (by (with_reducible repeat (first | refine zH ?_ _ | refine zJ ?_ | refine zG ?_ _)); exact BK102.out) hb); have n4_ := zA.mk (zM (by repeat (first | (with_reducible first | exact HB.out | apply zC | apply zB | apply zD | refine zF ?_ GE101.out | refine zF ?_ GE102.out) | exact HB.out)) hb); clear HO106; clear BK101; clear BK102; clear HB; have HO106 := n0_; have HO109 := n1_; have BK101 := n2_; have BK102 := n3_; have HB := n4_; clear n0_ n1_ n2_ n3_ n4_; (try clear hb); (try clear hb2); (try clear hk); (try clear hi); (try clear ho0)) | ((with_reducible refine za (f := 91) rfl ?_); refine qL (some 27) rfl rfl Try.func91 (by kernel_rfl) rfl #[.int .i64 (wrap64 (4 * t103))] rfl (by (try simp only [yiy, yjy, yky]); first | done | rfl | (simp only [yly, ymy]; rfl)) ?_; (with_reducible refine (qB.calls k (wrap64 (4 * t103)) t110 _ A5.out).mono ?_); rintro e w13 ⟨v111, rfl, ho0, hb⟩; refine ⟨_, rfl, ?_⟩; have n0_ := zA.mk (Kd.ZY (by (with_reducible repeat (first | apply Kd.zR | apply Kd.zS | apply Kd.zW)); exact HO106.out) (Kd.Zh ho0) hb); have n1_ := zA.mk (Kd.ZY (by (with_reducible repeat (first | apply Kd.zR | apply Kd.zS | apply Kd.zW)); exact HO109.out) (Kd.Zh ho0) hb); have n2_ := zA.mk (Kd.ZB (Kd.Qs (Kd.Qs ho0 (Kd.JC (by (with_reducible repeat (first | apply Kd.zR | apply Kd.zS | apply Kd.zW)); exact HO106.out))) (Kd.JC (by (with_reducible repeat (first | apply Kd.zR | apply Kd.zS | apply Kd.zW)); exact HO109.out))) (zO (by repeat (first | (with_reducible first | exact HB.out | apply zC | apply zB | apply zD | refine zF ?_ GE101.out | refine zF ?_ GE102.out) | exact HB.out)))); have n3_ := zA.mk (zP (g := gb101) (o := .cells #[.slice A0_0 l0_0.length c0_0] 35 (0, 0)) (by (with_reducible repeat (first | refine zH ?_ _ | refine zJ ?_ | refine zG ?_ _)); exact BK101.out) hb); have n4_ := zA.mk (zP (g := gb102) (o := .cells #[.slice none 0 0, .slice none 0 0, .slice none 0 0] 88 (0, 0)) (by (with_reducible repeat (first | refine zH ?_ _ | refine zJ ?_ | refine zG ?_ _)); exact BK102.out) hb); have n5_ := zA.mk (zM (by repeat (first | (with_reducible first | exact HB.out | apply zC | apply zB | apply zD | refine zF ?_ GE101.out | refine zF ?_ GE102.out) | exact HB.out)) hb); clear HO106; clear HO109; clear BK101; clear BK102; clear HB; have HO106 := n0_; have HO109 := n1_; have HO112 := n2_; have BK101 := n3_; have BK102 := n4_; have HB := n5_; clear n0_ n1_ n2_ n3_ n4_ n5_; (try clear hb); (try clear hb2); (try clear hk); (try clear hi); (try clear ho0)))
 go_loopg [8] k (fun kq v8 w' => ∃ (x5_1 : List Int) (x6_1 : List Int) (x7_1 : List Int) (x8_1 : Int), v8 = .int .i64 x8_1 ∧ zA (zQ.l0 kq t103 x5_1 x6_1 x7_1 x8_1 l0_0 = some (r1, r2, r3, r4)) ∧ zA (kq ≤ k) ∧ zA (Kd.R (Kd.int .i64) 2 w' w.heap.size (fun k_ => some k_ ≠ (v108 : Value).ownBlock ∧ some k_ ≠ (v111 : Value).ownBlock) v105 x5_1) ∧ zA (Kd.R (Kd.int .i64) 2 w' w.heap.size (fun k_ => some k_ ≠ (v105 : Value).ownBlock ∧ some k_ ≠ (v111 : Value).ownBlock) v108 x6_1) ∧ zA (Kd.R (Kd.int .i64) 2 w' w.heap.size (fun k_ => some k_ ≠ (v105 : Value).ownBlock ∧ some k_ ≠ (v108 : Value).ownBlock) v111 x7_1) ∧ zA (w'.heap[gb101]? = some (.cells #[(.slice A0_0 l0_0.length c0_0)] 35 (0, 0))) ∧ zA (w'.heap[gb102]? = some (.cells #[(.slice none 0 0), (.slice none 0 0), (.slice none 0 0)] 88 (0, 0))) ∧ zA (Below w.heap.size w w'))
 case atStart => exact ⟨(t104), (t107), (t110), (0), (by first | rfl | (simp; done) | (simp [*]; done)), H', ⟨yqy _⟩, ⟨by (with_reducible repeat (first | apply Kd.zR | apply Kd.zS | apply Kd.zW)); exact Kd.zv HO106.out (fun _ hk => ⟨hk.1.2, hk.2⟩)⟩, ⟨by (with_reducible repeat (first | apply Kd.zR | apply Kd.zS | apply Kd.zW)); exact Kd.zv HO109.out (fun _ hk => ⟨hk.1.2, hk.2⟩)⟩, ⟨by (with_reducible repeat (first | apply Kd.zR | apply Kd.zS | apply Kd.zW)); exact Kd.zv HO112.out (fun _ hk => ⟨hk.1.2, hk.2⟩)⟩, ⟨by (with_reducible repeat (first | refine zH ?_ _ | refine zJ ?_ | refine zG ?_ _)); exact BK101.out⟩, ⟨by (with_reducible repeat (first | refine zH ?_ _ | refine zJ ?_ | refine zG ?_ _)); exact BK102.out⟩, ⟨by repeat (first | (with_reducible first | exact HB.out | apply zC | apply zB | apply zD | refine zF ?_ GE101.out | refine zF ?_ GE102.out) | exact HB.out)⟩⟩
 case round =>
  clear H'
  try clear p2
  try clear c6
  try clear p6
  try clear c8
  try clear c9
  try clear hcz9_0
  try clear hfz9_0
  obtain ⟨x5_1, x6_1, x7_1, x8_1, rfl, HA, HK1, HO_5, HO_6, HO_7, BK101, BK102, HB⟩ := hrel
  cases gk with
  | zero => exact absurd HA.out (by simp [zQ.l0])
  | succ k1 =>
   have H := HA.out
   clear HA
   simp only [zQ.l0] at H
   by_cases c14 : x8_1 < t103
   rotate_left
   next =>
    rw [if_neg c14] at H
    have c14b0 : decide (x8_1 < t103) = false := yhy c14
    clear c14
    obtain ⟨y114, hy114⟩ : ∃ y_ : List Int, y_ = (([0, 0, 0, t103] : List Int)) := ⟨_, rfl⟩
    replace H : ((zd.f k1 x5_1 4).bind fun bt117 => (if 0 < (y114.length : Int) then ((zd.f k1 x6_1 6).bind fun bt122 => (if 1 < (y114.length : Int) then ((zd.f k1 x7_1 4).bind fun bt127 => (if 2 < (y114.length : Int) then (some (bt117.1, bt122.1, bt127.1, (((y114.set (0 : Int).toNat bt117.2).set (1 : Int).toNat bt122.2).set (2 : Int).toNat bt127.2))) else (none))) else (none))) else (none))) = some (r1, r2, r3, r4) := by first | (rw [hy114]; with_reducible exact H) | (have H2_ := (yfy _ _).symm.trans H; rw [hy114]; with_reducible exact H2_) | (have H2_ := (yfy _ _).symm.trans H; with_reducible exact H2_) | with_reducible exact H | (rw [hy114]; exact H) | exact H
    have Ny114 := zA.mk hy114
    clear hy114
    replace H := ydy.mp H
    obtain ⟨⟨t117, t118⟩, A640, H⟩ := H
    replace H : (if 0 < (y114.length : Int) then ((zd.f k1 x6_1 6).bind fun bt122 => (if 1 < (y114.length : Int) then ((zd.f k1 x7_1 4).bind fun bt127 => (if 2 < (y114.length : Int) then (some (t117, bt122.1, bt127.1, (((y114.set (0 : Int).toNat t118).set (1 : Int).toNat bt122.2).set (2 : Int).toNat bt127.2))) else (none))) else (none))) else (none)) = some (r1, r2, r3, r4) := H
    have A64 := zA.mk A640
    clear A640
    by_cases c65 : 0 < (y114.length : Int)
    rotate_left
    next =>
     rw [if_neg c65] at H
     exact absurd H (by simp)
    rw [if_pos c65] at H
    have c65b0 : decide (0 < (y114.length : Int)) = true := ygy c65
    have c65b1 : decide (0 < y114.length) = true := ygy (by omega)
    clear c65
    obtain ⟨y121, hy121⟩ : ∃ y_ : List Int, y_ = (y114.set (0 : Int).toNat t118) := ⟨_, rfl⟩
    replace H : ((zd.f k1 x6_1 6).bind fun bt122 => (if 1 < (y114.length : Int) then ((zd.f k1 x7_1 4).bind fun bt127 => (if 2 < (y114.length : Int) then (some (t117, bt122.1, bt127.1, ((y121.set (1 : Int).toNat bt122.2).set (2 : Int).toNat bt127.2))) else (none))) else (none))) = some (r1, r2, r3, r4) := by first | (rw [hy121]; with_reducible exact H) | (have H2_ := (yfy _ _).symm.trans H; rw [hy121]; with_reducible exact H2_) | (have H2_ := (yfy _ _).symm.trans H; with_reducible exact H2_) | with_reducible exact H | (rw [hy121]; exact H) | exact H
    have Ny121 := zA.mk hy121
    clear hy121
    replace H := ydy.mp H
    obtain ⟨⟨t122, t123⟩, A670, H⟩ := H
    replace H : (if 1 < (y114.length : Int) then ((zd.f k1 x7_1 4).bind fun bt127 => (if 2 < (y114.length : Int) then (some (t117, t122, bt127.1, ((y121.set (1 : Int).toNat t123).set (2 : Int).toNat bt127.2))) else (none))) else (none)) = some (r1, r2, r3, r4) := H
    have A67 := zA.mk A670
    clear A670
    by_cases c68 : 1 < (y114.length : Int)
    rotate_left
    next =>
     rw [if_neg c68] at H
     exact absurd H (by simp)
    rw [if_pos c68] at H
    have c68b0 : decide (1 < (y114.length : Int)) = true := ygy c68
    have c68b1 : decide (1 < y114.length) = true := ygy (by omega)
    clear c68
    obtain ⟨y126, hy126⟩ : ∃ y_ : List Int, y_ = (y121.set (1 : Int).toNat t123) := ⟨_, rfl⟩
    replace H : ((zd.f k1 x7_1 4).bind fun bt127 => (if 2 < (y114.length : Int) then (some (t117, t122, bt127.1, (y126.set (2 : Int).toNat bt127.2))) else (none))) = some (r1, r2, r3, r4) := by first | (rw [hy126]; with_reducible exact H) | (have H2_ := (yfy _ _).symm.trans H; rw [hy126]; with_reducible exact H2_) | (have H2_ := (yfy _ _).symm.trans H; with_reducible exact H2_) | with_reducible exact H | (rw [hy126]; exact H) | exact H
    have Ny126 := zA.mk hy126
    clear hy126
    replace H := ydy.mp H
    obtain ⟨⟨t127, t128⟩, A700, H⟩ := H
    replace H : (if 2 < (y114.length : Int) then (some (t117, t122, t127, (y126.set (2 : Int).toNat t128))) else (none)) = some (r1, r2, r3, r4) := H
    have A70 := zA.mk A700
    clear A700
    by_cases c71 : 2 < (y114.length : Int)
    rotate_left
    next =>
     rw [if_neg c71] at H
     exact absurd H (by simp)
    rw [if_pos c71] at H
    have c71b0 : decide (2 < (y114.length : Int)) = true := ygy c71
    have c71b1 : decide (2 < y114.length) = true := ygy (by omega)
    clear c71
    obtain ⟨y131, hy131⟩ : ∃ y_ : List Int, y_ = (y126.set (2 : Int).toNat t128) := ⟨_, rfl⟩
    replace H : (some (t117, t122, t127, y131)) = some (r1, r2, r3, r4) := by first | (rw [hy131]; with_reducible exact H) | (have H2_ := (yfy _ _).symm.trans H; rw [hy131]; with_reducible exact H2_) | (have H2_ := (yfy _ _).symm.trans H; with_reducible exact H2_) | with_reducible exact H | (rw [hy131]; exact H) | exact H
    have Ny131 := zA.mk hy131
    clear hy131
    simp only [Option.some.injEq, Prod.mk.injEq] at H
    obtain ⟨rfl, rfl, rfl, rfl⟩ := H
    go_wp2_with (first | ((with_reducible refine zq (N := 15) rfl ?_); refine zt ?hg (N := 15) ?hd (cs := #[.slice none 0 0, .slice none 0 0, .slice none 0 0]) (t := 88) ?hr ?_; (case hd => rfl); (case hg => rfl); (case hr => first | (go_simp; done) | (go_simp; rfl)); intro gb113 hg w73 hbox hb; have n0_ := zA.mk (Kd.qM (by (with_reducible repeat (first | apply Kd.zR | apply Kd.zS | apply Kd.zW)); exact HO_5.out) hb); have n1_ := zA.mk (Kd.qM (by (with_reducible repeat (first | apply Kd.zR | apply Kd.zS | apply Kd.zW)); exact HO_6.out) hb); have n2_ := zA.mk (Kd.qM (by (with_reducible repeat (first | apply Kd.zR | apply Kd.zS | apply Kd.zW)); exact HO_7.out) hb); have n3_ := zA.mk (zP (g := gb101) (o := .cells #[.slice A0_0 l0_0.length c0_0] 35 (0, 0)) (by (with_reducible repeat (first | refine zH ?_ _ | refine zJ ?_ | refine zG ?_ _)); exact BK101.out) hb); have n4_ := zA.mk (zP (g := gb102) (o := .cells #[.slice none 0 0, .slice none 0 0, .slice none 0 0] 88 (0, 0)) (by (with_reducible repeat (first | refine zH ?_ _ | refine zJ ?_ | refine zG ?_ _)); exact BK102.out) hb); have n5_ := zA.mk (zM (by repeat (first | (with_reducible first | exact HB.out | apply zC | apply zB | apply zD | refine zF ?_ GE101.out | refine zF ?_ GE102.out) | exact HB.out)) hb); have n6_ := zA.mk (hbox); have n7_ := zA.mk ((by rw [hg]; exact (zO (by repeat (first | (with_reducible first | exact HB.out | apply zC | apply zB | apply zD | refine zF ?_ GE101.out | refine zF ?_ GE102.out) | exact HB.out))) : w.heap.size ≤ gb113)); have n8_ := zA.mk ((by rw [hg]; exact (zO (by repeat (first | (with_reducible first | exact HB.out | apply zC | apply zB | apply zD | refine zF ?_ GE101.out | refine zF ?_ GE102.out) | exact HB.out))) : w.heap.size ≤ gb113)); have n9_ := zA.mk ((by rw [hg]; exact Nat.ne_of_lt (qN (g := gb101) (o := .cells #[.slice A0_0 l0_0.length c0_0] 35 (0, 0)) (by (with_reducible repeat (first | refine zH ?_ _ | refine zJ ?_ | refine zG ?_ _)); exact BK101.out)) : gb101 ≠ gb113)); have n10_ := zA.mk ((by rw [hg]; exact Nat.ne_of_gt (qN (g := gb101) (o := .cells #[.slice A0_0 l0_0.length c0_0] 35 (0, 0)) (by (with_reducible repeat (first | refine zH ?_ _ | refine zJ ?_ | refine zG ?_ _)); exact BK101.out)) : gb113 ≠ gb101)); have n11_ := zA.mk ((by rw [hg]; exact Nat.ne_of_lt (qN (g := gb102) (o := .cells #[.slice none 0 0, .slice none 0 0, .slice none 0 0] 88 (0, 0)) (by (with_reducible repeat (first | refine zH ?_ _ | refine zJ ?_ | refine zG ?_ _)); exact BK102.out)) : gb102 ≠ gb113)); have n12_ := zA.mk ((by rw [hg]; exact Nat.ne_of_gt (qN (g := gb102) (o := .cells #[.slice none 0 0, .slice none 0 0, .slice none 0 0] 88 (0, 0)) (by (with_reducible repeat (first | refine zH ?_ _ | refine zJ ?_ | refine zG ?_ _)); exact BK102.out)) : gb113 ≠ gb102)); clear HO_5; clear HO_6; clear HO_7; clear BK101; clear BK102; clear HB; have HO_5 := n0_; have HO_6 := n1_; have HO_7 := n2_; have BK101 := n3_; have BK102 := n4_; have HB := n5_; have BK113 := n6_; have GW113 := n7_; have GE113 := n8_; have NB101_113 := n9_; have NB113_101 := n10_; have NB102_113 := n11_; have NB113_102 := n12_; clear n0_ n1_ n2_ n3_ n4_ n5_ n6_ n7_ n8_ n9_ n10_ n11_ n12_; clear hb hbox hg; have hnb74 := NB113_101.out; have hnc74 := NB101_113.out; have hnb75 := NB113_102.out; have hnc75 := NB102_113.out; have hcz76_0 : w73.cell? ⟨gb113, 0, none⟩ = some (.slice none 0 0) := (zK BK113.out 0).trans rfl; have hcz76_1 : w73.cell? ⟨gb113, 1, none⟩ = some (.slice none 0 0) := (zK BK113.out 1).trans rfl; have hcz76_2 : w73.cell? ⟨gb113, 2, none⟩ = some (.slice none 0 0) := (zK BK113.out 2).trans rfl; have hfz76_0 := zN BK113.out 0; have hfz76_1 := zN BK113.out 1; have hfz76_2 := zN BK113.out 2) | ((with_reducible refine zq (N := 121) rfl ?_); refine Kd.zAu (Kd.int .i64) _ 2 ?hg (N := 121) ?hd (xs := ([0, 0, 0, t103] : List Int)) (inner := [.int .i64 0, .int .i64 0, .int .i64 0, .int .i64 t103]) (ok := fun _ => True) (okp := fun _ => True) ?hr ?hp (fun _ hk => hk) trivial (yry _ _) (yqy _) (by simp) ?_; (case hd => rfl); (case hg => rfl); (case hr => first | (go_simp; done) | (go_simp; rfl)); (case hp => exact (Zu.one (show Kd.M (Kd.int .i64) _ _ _ 0 [.int .i64 0] from rfl) (Zu.one (show Kd.M (Kd.int .i64) _ _ _ 0 [.int .i64 0] from rfl) (Zu.one (show Kd.M (Kd.int .i64) _ _ _ 0 [.int .i64 0] from rfl) (Zu.one (show Kd.M (Kd.int .i64) _ _ _ t103 [.int .i64 t103] from rfl) (Zu.none _ _)))))); intro v115 w77 ho78 hb hg_ hnew_; clear hg_ hnew_; (first | rw [← Ny114.out] at ho78 | (simp only [Int.reduceToNat] at ho78; rw [← Ny114.out] at ho78)); have n0_ := zA.mk (Kd.ZY (by (with_reducible repeat (first | apply Kd.zR | apply Kd.zS | apply Kd.zW)); exact (Kd.zv (Kd.ZI (p := ⟨gb113, 2, none⟩) (Kd.ZI (p := ⟨gb113, 1, none⟩) (Kd.ZI (p := ⟨gb113, 0, none⟩) (Kd.ZJ HO_5.out BK113.out (by decide)) (fun _ hk => hk.2) (.slice none 0 0)) (fun _ hk => hk.2) (.slice none 0 0)) (fun _ hk => hk.2) (.slice none 0 0)) (fun _ h_ => h_.1))) (Kd.Zh ho78) hb); have n1_ := zA.mk (Kd.ZY (by (with_reducible repeat (first | apply Kd.zR | apply Kd.zS | apply Kd.zW)); exact (Kd.zv (Kd.ZI (p := ⟨gb113, 2, none⟩) (Kd.ZI (p := ⟨gb113, 1, none⟩) (Kd.ZI (p := ⟨gb113, 0, none⟩) (Kd.ZJ HO_6.out BK113.out (by decide)) (fun _ hk => hk.2) (.slice none 0 0)) (fun _ hk => hk.2) (.slice none 0 0)) (fun _ hk => hk.2) (.slice none 0 0)) (fun _ h_ => h_.1))) (Kd.Zh ho78) hb); have n2_ := zA.mk (Kd.ZY (by (with_reducible repeat (first | apply Kd.zR | apply Kd.zS | apply Kd.zW)); exact (Kd.zv (Kd.ZI (p := ⟨gb113, 2, none⟩) (Kd.ZI (p := ⟨gb113, 1, none⟩) (Kd.ZI (p := ⟨gb113, 0, none⟩) (Kd.ZJ HO_7.out BK113.out (by decide)) (fun _ hk => hk.2) (.slice none 0 0)) (fun _ hk => hk.2) (.slice none 0 0)) (fun _ hk => hk.2) (.slice none 0 0)) (fun _ h_ => h_.1))) (Kd.Zh ho78) hb); have n3_ := zA.mk (Kd.ZB (Kd.Qs (Kd.Qs (Kd.Qs ho78 (Kd.JC (by (with_reducible repeat (first | apply Kd.zR | apply Kd.zS | apply Kd.zW)); exact (Kd.zv (Kd.ZI (p := ⟨gb113, 2, none⟩) (Kd.ZI (p := ⟨gb113, 1, none⟩) (Kd.ZI (p := ⟨gb113, 0, none⟩) (Kd.ZJ HO_5.out BK113.out (by decide)) (fun _ hk => hk.2) (.slice none 0 0)) (fun _ hk => hk.2) (.slice none 0 0)) (fun _ hk => hk.2) (.slice none 0 0)) (fun _ h_ => h_.1))))) (Kd.JC (by (with_reducible repeat (first | apply Kd.zR | apply Kd.zS | apply Kd.zW)); exact (Kd.zv (Kd.ZI (p := ⟨gb113, 2, none⟩) (Kd.ZI (p := ⟨gb113, 1, none⟩) (Kd.ZI (p := ⟨gb113, 0, none⟩) (Kd.ZJ HO_6.out BK113.out (by decide)) (fun _ hk => hk.2) (.slice none 0 0)) (fun _ hk => hk.2) (.slice none 0 0)) (fun _ hk => hk.2) (.slice none 0 0)) (fun _ h_ => h_.1))))) (Kd.JC (by (with_reducible repeat (first | apply Kd.zR | apply Kd.zS | apply Kd.zW)); exact (Kd.zv (Kd.ZI (p := ⟨gb113, 2, none⟩) (Kd.ZI (p := ⟨gb113, 1, none⟩) (Kd.ZI (p := ⟨gb113, 0, none⟩) (Kd.ZJ HO_7.out BK113.out (by decide)) (fun _ hk => hk.2) (.slice none 0 0)) (fun _ hk => hk.2) (.slice none 0 0)) (fun _ hk => hk.2) (.slice none 0 0)) (fun _ h_ => h_.1))))) (zO (by repeat (first | (with_reducible first | exact HB.out | apply zC | apply zB | apply zD | refine zF ?_ GE101.out | refine zF ?_ GE102.out | refine zF ?_ GE113.out) | exact HB.out)))); have n4_ := zA.mk (zP (g := gb101) (o := .cells #[.slice A0_0 l0_0.length c0_0] 35 (0, 0)) (by (with_reducible repeat (first | refine zH ?_ _ | refine zJ ?_ | refine zG ?_ _)); refine qE ?_ NB101_113.out _; (with_reducible repeat (first | refine zH ?_ _ | refine zJ ?_ | refine zG ?_ _)); refine qE ?_ NB101_113.out _; (with_reducible repeat (first | refine zH ?_ _ | refine zJ ?_ | refine zG ?_ _)); refine qE ?_ NB101_113.out _; (with_reducible repeat (first | refine zH ?_ _ | refine zJ ?_ | refine zG ?_ _)); exact BK101.out) hb); have n5_ := zA.mk (zP (g := gb102) (o := .cells #[.slice none 0 0, .slice none 0 0, .slice none 0 0] 88 (0, 0)) (by (with_reducible repeat (first | refine zH ?_ _ | refine zJ ?_ | refine zG ?_ _)); refine qE ?_ NB102_113.out _; (with_reducible repeat (first | refine zH ?_ _ | refine zJ ?_ | refine zG ?_ _)); refine qE ?_ NB102_113.out _; (with_reducible repeat (first | refine zH ?_ _ | refine zJ ?_ | refine zG ?_ _)); refine qE ?_ NB102_113.out _; (with_reducible repeat (first | refine zH ?_ _ | refine zJ ?_ | refine zG ?_ _)); exact BK102.out) hb); have n6_ := zA.mk (zP (g := gb113) (o := .cells #[.slice none 0 0, .slice none 0 0, .slice none 0 0] 88 (0, 0)) (by (with_reducible repeat (first | refine zH ?_ _ | refine zJ ?_ | refine zG ?_ _)); refine qT (cs := #[.slice none 0 0, .slice none 0 0, .slice none 0 0]) ?_ 2 _ rfl; (with_reducible repeat (first | refine zH ?_ _ | refine zJ ?_ | refine zG ?_ _)); refine qT (cs := #[.slice none 0 0, .slice none 0 0, .slice none 0 0]) ?_ 1 _ rfl; (with_reducible repeat (first | refine zH ?_ _ | refine zJ ?_ | refine zG ?_ _)); refine qT (cs := #[.slice none 0 0, .slice none 0 0, .slice none 0 0]) ?_ 0 _ rfl; (with_reducible repeat (first | refine zH ?_ _ | refine zJ ?_ | refine zG ?_ _)); exact BK113.out) hb); have n7_ := zA.mk (zM (by repeat (first | (with_reducible first | exact HB.out | apply zC | apply zB | apply zD | refine zF ?_ GE101.out | refine zF ?_ GE102.out | refine zF ?_ GE113.out) | exact HB.out)) hb); clear HO_5; clear HO_6; clear HO_7; clear BK101; clear BK102; clear BK113; clear HB; have HO_5 := n0_; have HO_6 := n1_; have HO_7 := n2_; have HO116 := n3_; have BK101 := n4_; have BK102 := n5_; have BK113 := n6_; have HB := n7_; clear n0_ n1_ n2_ n3_ n4_ n5_ n6_ n7_; clear hb ho78; obtain ⟨Ao79, co79, eo79⟩ := Kd.ZH HO_5.out; subst eo79) | ((with_reducible refine za (f := 117) rfl ?_); refine qL (some 125) rfl rfl Try.func117 (by kernel_rfl) rfl #[.slice Ao79 x5_1.length co79, .int .i64 4] rfl (by (try simp only [yiy, yjy, yky]); first | done | rfl | (simp only [yly, ymy]; rfl)) ?_; (with_reducible refine (zd.calls k1 _ _ x5_1 4 t117 t118 _ ?side1 ?side2 A64.out).mono ?_); (case side1 => repeat (first | exact (Kd.zx HO_5.out).2.2 | (with_reducible refine Kd.zu ?_ _) | (with_reducible refine Kd.zw ?_ _) | (with_reducible refine Kd.qK ?_))); (case side2 => exact (Kd.zx HO_5.out).2.1); rintro e w80 ⟨v119, rfl, ho0, hb⟩; refine ⟨_, rfl, ?_⟩; have n0_ := zA.mk (Kd.qM (by (with_reducible repeat (first | apply Kd.zR | apply Kd.zS | apply Kd.zW)); exact HO_5.out) hb); have n1_ := zA.mk (Kd.qM (by (with_reducible repeat (first | apply Kd.zR | apply Kd.zS | apply Kd.zW)); exact HO_6.out) hb); have n2_ := zA.mk (Kd.qM (by (with_reducible repeat (first | apply Kd.zR | apply Kd.zS | apply Kd.zW)); exact HO_7.out) hb); have n3_ := zA.mk (Kd.qM (by (with_reducible repeat (first | apply Kd.zR | apply Kd.zS | apply Kd.zW)); exact HO116.out) hb); have n4_ := zA.mk (Kd.Zg (Kd.Zn (Kd.Zn (Kd.Zn (Kd.Zn ho0 (Kd.JC (by (with_reducible repeat (first | apply Kd.zR | apply Kd.zS | apply Kd.zW)); exact HO_5.out))) (Kd.JC (by (with_reducible repeat (first | apply Kd.zR | apply Kd.zS | apply Kd.zW)); exact HO_6.out))) (Kd.JC (by (with_reducible repeat (first | apply Kd.zR | apply Kd.zS | apply Kd.zW)); exact HO_7.out))) (Kd.JC (by (with_reducible repeat (first | apply Kd.zR | apply Kd.zS | apply Kd.zW)); exact HO116.out))) (zO (by repeat (first | (with_reducible first | exact HB.out | apply zC | apply zB | apply zD | refine zF ?_ GE101.out | refine zF ?_ GE102.out | refine zF ?_ GE113.out) | exact HB.out)))); have n5_ := zA.mk (zP (g := gb101) (o := .cells #[.slice A0_0 l0_0.length c0_0] 35 (0, 0)) (by (with_reducible repeat (first | refine zH ?_ _ | refine zJ ?_ | refine zG ?_ _)); exact BK101.out) hb); have n6_ := zA.mk (zP (g := gb102) (o := .cells #[.slice none 0 0, .slice none 0 0, .slice none 0 0] 88 (0, 0)) (by (with_reducible repeat (first | refine zH ?_ _ | refine zJ ?_ | refine zG ?_ _)); exact BK102.out) hb); have n7_ := zA.mk (zP (g := gb113) (o := .cells #[.slice none 0 0, .slice none 0 0, .slice none 0 0] 88 (0, 0)) (by (with_reducible repeat (first | refine zH ?_ _ | refine zJ ?_ | refine zG ?_ _)); exact BK113.out) hb); have n8_ := zA.mk (zM (by repeat (first | (with_reducible first | exact HB.out | apply zC | apply zB | apply zD | refine zF ?_ GE101.out | refine zF ?_ GE102.out | refine zF ?_ GE113.out) | exact HB.out)) hb); clear HO_5; clear HO_6; clear HO_7; clear HO116; clear BK101; clear BK102; clear BK113; clear HB; have HO_5 := n0_; have HO_6 := n1_; have HO_7 := n2_; have HO116 := n3_; have HO120 := n4_; have BK101 := n5_; have BK102 := n6_; have BK113 := n7_; have HB := n8_; clear n0_ n1_ n2_ n3_ n4_ n5_ n6_ n7_ n8_; (try clear hb); (try clear hb2); (try clear hk); (try clear hi); (try clear ho0); obtain ⟨Ao81, co81, eo81⟩ := Kd.Zz HO120.out; subst eo81; have hcz82_0 : w80.cell? ⟨gb113, 0, none⟩ = some (.slice none 0 0) := (zK BK113.out 0).trans rfl; have hcz82_1 : w80.cell? ⟨gb113, 1, none⟩ = some (.slice none 0 0) := (zK BK113.out 1).trans rfl; have hcz82_2 : w80.cell? ⟨gb113, 2, none⟩ = some (.slice none 0 0) := (zK BK113.out 2).trans rfl; have hfz82_0 := zN BK113.out 0; have hfz82_1 := zN BK113.out 1; have hfz82_2 := zN BK113.out 2) | ((with_reducible refine ZQ (t := 30) (p := 128) rfl ?_); refine ZE (t := 30) (p := 128) (v := ?vo_w83) (w1 := (w80.setCell ⟨gb113, 0, none⟩ (.slice Ao81 t117.length co81))) ?hg ?ho ?hn ?hr ?_; (case ho => rfl); (case hg => rfl); (case hn => rfl); (case hr => first | (go_simp; done) | (go_simp; rfl)); intro w83 hw; have n0_ : zA (Kd.R (Kd.int .i64) 2 w83 w.heap.size (fun k_ => some k_ ≠ (v108 : Value).ownBlock ∧ some k_ ≠ (v111 : Value).ownBlock ∧ some k_ ≠ (v115 : Value).ownBlock) (.slice Ao79 x5_1.length co79) x5_1) := ⟨(by rw [hw]; exact (by (with_reducible repeat (first | apply Kd.zR | apply Kd.zS | apply Kd.zW)); exact Kd.zv (Kd.ZI (p := ⟨gb113, 0, none⟩) (Kd.ZJ HO_5.out BK113.out (by decide)) (fun _ hk => hk.2) (.slice Ao81 t117.length co81)) (fun _ hk => ⟨hk.1.1.1, ⟨hk.1.1.2, hk.1.2⟩⟩)))⟩; have n1_ : zA (Kd.R (Kd.int .i64) 2 w83 w.heap.size (fun k_ => some k_ ≠ (.slice Ao79 x5_1.length co79 : Value).ownBlock ∧ some k_ ≠ (v111 : Value).ownBlock ∧ some k_ ≠ (v115 : Value).ownBlock) v108 x6_1) := ⟨(by rw [hw]; exact (by (with_reducible repeat (first | apply Kd.zR | apply Kd.zS | apply Kd.zW)); exact Kd.zv (Kd.ZI (p := ⟨gb113, 0, none⟩) (Kd.ZJ HO_6.out BK113.out (by decide)) (fun _ hk => hk.2) (.slice Ao81 t117.length co81)) (fun _ hk => ⟨hk.1.1.1, ⟨hk.1.1.2, hk.1.2⟩⟩)))⟩; have n2_ : zA (Kd.R (Kd.int .i64) 2 w83 w.heap.size (fun k_ => some k_ ≠ (.slice Ao79 x5_1.length co79 : Value).ownBlock ∧ some k_ ≠ (v108 : Value).ownBlock ∧ some k_ ≠ (v115 : Value).ownBlock) v111 x7_1) := ⟨(by rw [hw]; exact (by (with_reducible repeat (first | apply Kd.zR | apply Kd.zS | apply Kd.zW)); exact Kd.zv (Kd.ZI (p := ⟨gb113, 0, none⟩) (Kd.ZJ HO_7.out BK113.out (by decide)) (fun _ hk => hk.2) (.slice Ao81 t117.length co81)) (fun _ hk => ⟨hk.1.1.1, ⟨hk.1.1.2, hk.1.2⟩⟩)))⟩; have n3_ : zA (Kd.R (Kd.int .i64) 2 w83 w.heap.size (fun k_ => some k_ ≠ (.slice Ao79 x5_1.length co79 : Value).ownBlock ∧ some k_ ≠ (v108 : Value).ownBlock ∧ some k_ ≠ (v111 : Value).ownBlock) v115 y114) := ⟨(by rw [hw]; exact (by (with_reducible repeat (first | apply Kd.zR | apply Kd.zS | apply Kd.zW)); exact Kd.zv (Kd.ZI (p := ⟨gb113, 0, none⟩) (Kd.ZJ HO116.out BK113.out (by decide)) (fun _ hk => hk.2) (.slice Ao81 t117.length co81)) (fun _ hk => ⟨hk.1.1.1.2, ⟨hk.1.1.2, hk.1.2⟩⟩)))⟩; have n4_ : zA (Kd.S (Kd.slice 2 (Kd.int .i64)) 22 w83 w.heap.size (fun k_ => some k_ ≠ (.slice Ao79 x5_1.length co79 : Value).ownBlock ∧ some k_ ≠ (v108 : Value).ownBlock ∧ some k_ ≠ (v111 : Value).ownBlock ∧ some k_ ≠ (v115 : Value).ownBlock) (.slice Ao81 t117.length co81) t117) := ⟨(by rw [hw]; exact (by (with_reducible repeat (first | apply Kd.ze | apply Kd.zf | apply Kd.zo)); exact Kd.qq (Kd.Zi (p := ⟨gb113, 0, none⟩) (Kd.ZR HO120.out BK113.out (by decide)) (fun _ hk => hk.2) (.slice Ao81 t117.length co81)) (fun _ hk => ⟨hk.1.1.1.1.2, ⟨hk.1.1.1.2, ⟨hk.1.1.2, hk.1.2⟩⟩⟩)))⟩; have n5_ : zA (w83.heap[gb101]? = some (.cells #[.slice A0_0 l0_0.length c0_0] 35 (0, 0))) := ⟨(by rw [hw]; exact (by (with_reducible repeat (first | refine zH ?_ _ | refine zJ ?_ | refine zG ?_ _)); refine qE ?_ NB101_113.out _; (with_reducible repeat (first | refine zH ?_ _ | refine zJ ?_ | refine zG ?_ _)); exact BK101.out))⟩; have n6_ : zA (w83.heap[gb102]? = some (.cells #[.slice none 0 0, .slice none 0 0, .slice none 0 0] 88 (0, 0))) := ⟨(by rw [hw]; exact (by (with_reducible repeat (first | refine zH ?_ _ | refine zJ ?_ | refine zG ?_ _)); refine qE ?_ NB102_113.out _; (with_reducible repeat (first | refine zH ?_ _ | refine zJ ?_ | refine zG ?_ _)); exact BK102.out))⟩; have n7_ : zA (w83.heap[gb113]? = some (.cells #[.slice Ao81 t117.length co81, .slice none 0 0, .slice none 0 0] 88 (0, 0))) := ⟨(by rw [hw]; exact (by (with_reducible repeat (first | refine zH ?_ _ | refine zJ ?_ | refine zG ?_ _)); refine qT (cs := #[.slice none 0 0, .slice none 0 0, .slice none 0 0]) ?_ 0 _ rfl; (with_reducible repeat (first | refine zH ?_ _ | refine zJ ?_ | refine zG ?_ _)); exact BK113.out))⟩; have n8_ : zA (Below w.heap.size w w83) := ⟨(by rw [hw]; exact (by repeat (first | (with_reducible first | exact HB.out | apply zC | apply zB | apply zD | refine zF ?_ GE101.out | refine zF ?_ GE102.out | refine zF ?_ GE113.out) | exact HB.out)))⟩; clear hw; clear HO_5; clear HO_6; clear HO_7; clear HO116; clear HO120; clear BK101; clear BK102; clear BK113; clear HB; have HO_5 := n0_; have HO_6 := n1_; have HO_7 := n2_; have HO116 := n3_; have HO120 := n4_; have BK101 := n5_; have BK102 := n6_; have BK113 := n7_; have HB := n8_; clear n0_ n1_ n2_ n3_ n4_ n5_ n6_ n7_ n8_; have p66 : 0 ≤ (0 : Int) := (by omega); have q66 : (0 : Int) < ((y114.length : Int) : Int) := of_decide_eq_true (by first | (with_reducible assumption) | assumption); have qi66 : (0 < y114.length) = True := eq_true (by omega); obtain ⟨go66, co66, eo66, gb66, gl66, cl66, HG66⟩ := Kd.JY HO116.out (by omega); (first | cases eo66 | (injection eo66 with ea_ en_ ec_; (first | subst ea_ | (injection ea_ with ea_; subst ea_)); subst ec_; clear en_)); have GB66 := zA.mk gb66; have GG66 := zA.mk HG66; clear gb66 gl66 HG66; obtain ⟨hx66_0, hf66_0⟩ := Kd.ZV 0 HO116.out (0 : Int) p66 q66; (try rw [show ((0 : Int)).toNat = 0 from rfl] at hx66_0); (try simp only [Nat.reduceMul, Nat.zero_mul, Nat.zero_add, Nat.reduceAdd] at hx66_0); (try rw [show ((0 : Int)).toNat = 0 from rfl] at hf66_0); (try simp only [Nat.reduceMul, Nat.zero_mul, Nat.zero_add, Nat.reduceAdd] at hf66_0); replace p66 := eq_true p66; replace q66 := eq_true q66; obtain ⟨hy84_, hz84_⟩ := Kd.ZV 0 HO116.out (0 : Int) (by omega) (of_decide_eq_true (by first | (with_reducible assumption) | assumption)); (try simp only [Int.reduceToNat, Int.toNat_zero, Int.toNat_ofNat, Nat.reduceMul, Nat.zero_mul, Nat.zero_add] at hy84_ hz84_); (try rw [show ((0 : Int)).toNat = 0 from rfl] at hy84_); (try rw [show ((0 : Int)).toNat = 0 from rfl] at hz84_); have HP84 := Kd.JZ HO116.out (0 : Int) t118) | ((with_reducible refine ZQ (t := 2) (p := 129) rfl ?_); refine ZE (t := 2) (p := 129) (v := ?vo_w85) (w1 := (w83.setCell ⟨go66, (0 : Int).toNat, none⟩ (.int .i64 t118))) ?hg ?ho ?hn ?hr ?_; (case ho => rfl); (case hg => rfl); (case hn => rfl); (case hr => first | (go_simp; done) | (go_simp; rfl)); intro w85 hw; have hg : w83.grownBy w85 (some go66) := (by rw [hw]; exact HP84.2); have hp_ : Kd.R (Kd.int .i64) 2 w85 w.heap.size (fun k_ => some k_ ≠ (.slice Ao79 x5_1.length co79 : Value).ownBlock ∧ some k_ ≠ (v108 : Value).ownBlock ∧ some k_ ≠ (v111 : Value).ownBlock) (.slice (some ⟨go66, 0, none⟩) y114.length co66) y121 := (by rw [hw, Ny121.out]; exact HP84.1); clear HP84; have n0_ := zA.mk (Kd.qy (v := (.slice (some ⟨go66, 0, none⟩) y114.length co66)) (v1 := (.slice (some ⟨go66, 0, none⟩) y114.length co66)) (ok := (fun k_ => some k_ ≠ (v108 : Value).ownBlock ∧ some k_ ≠ (v111 : Value).ownBlock)) (by (with_reducible repeat (first | apply Kd.zR | apply Kd.zS | apply Kd.zW)); exact Kd.zv HO_5.out (fun _ hk => ⟨⟨hk.1, hk.2.1⟩, hk.2.2⟩)) hg (.inl rfl)); have n1_ := zA.mk (Kd.qy (v := (.slice (some ⟨go66, 0, none⟩) y114.length co66)) (v1 := (.slice (some ⟨go66, 0, none⟩) y114.length co66)) (ok := (fun k_ => some k_ ≠ (.slice Ao79 x5_1.length co79 : Value).ownBlock ∧ some k_ ≠ (v111 : Value).ownBlock)) (by (with_reducible repeat (first | apply Kd.zR | apply Kd.zS | apply Kd.zW)); exact Kd.zv HO_6.out (fun _ hk => ⟨⟨hk.1, hk.2.1⟩, hk.2.2⟩)) hg (.inl rfl)); have n2_ := zA.mk (Kd.qy (v := (.slice (some ⟨go66, 0, none⟩) y114.length co66)) (v1 := (.slice (some ⟨go66, 0, none⟩) y114.length co66)) (ok := (fun k_ => some k_ ≠ (.slice Ao79 x5_1.length co79 : Value).ownBlock ∧ some k_ ≠ (v108 : Value).ownBlock)) (by (with_reducible repeat (first | apply Kd.zR | apply Kd.zS | apply Kd.zW)); exact Kd.zv HO_7.out (fun _ hk => ⟨⟨hk.1, hk.2.1⟩, hk.2.2⟩)) hg (.inl rfl)); have n3_ := zA.mk (qa (g := gb101) (o := .cells #[.slice A0_0 l0_0.length c0_0] 35 (0, 0)) (by (with_reducible repeat (first | refine zH ?_ _ | refine zJ ?_ | refine zG ?_ _)); exact BK101.out) hg (Kd.zBF HO116.out BK101.out (by decide))); have n4_ := zA.mk (qa (g := gb102) (o := .cells #[.slice none 0 0, .slice none 0 0, .slice none 0 0] 88 (0, 0)) (by (with_reducible repeat (first | refine zH ?_ _ | refine zJ ?_ | refine zG ?_ _)); exact BK102.out) hg (Kd.zBF HO116.out BK102.out (by decide))); have n5_ := zA.mk (qa (g := gb113) (o := .cells #[.slice Ao81 t117.length co81, .slice none 0 0, .slice none 0 0] 88 (0, 0)) (by (with_reducible repeat (first | refine zH ?_ _ | refine zJ ?_ | refine zG ?_ _)); exact BK113.out) hg (Kd.zBF HO116.out BK113.out (by decide))); have n6_ := zA.mk (hp_); have n7_ := zA.mk (Kd.Qv (v := (.slice (some ⟨go66, 0, none⟩) y114.length co66)) (v1 := (.slice (some ⟨go66, 0, none⟩) y114.length co66)) (ok := (fun k_ => some k_ ≠ (.slice Ao79 x5_1.length co79 : Value).ownBlock ∧ some k_ ≠ (v108 : Value).ownBlock ∧ some k_ ≠ (v111 : Value).ownBlock)) (by (with_reducible repeat (first | apply Kd.ze | apply Kd.zf | apply Kd.zo)); exact Kd.qq HO120.out (fun _ hk => ⟨⟨hk.1, ⟨hk.2.1, hk.2.2.1⟩⟩, hk.2.2.2⟩)) hg (.inl rfl)); have n8_ := zA.mk ((by rw [hw]; exact zF (HB.out) GB66.out : Below w.heap.size w w85)); clear HO_5; clear HO_6; clear HO_7; clear BK101; clear BK102; clear BK113; clear HO116; clear HO120; clear HB; have HO_5 := n0_; have HO_6 := n1_; have HO_7 := n2_; have BK101 := n3_; have BK102 := n4_; have BK113 := n5_; have HO116 := n6_; have HO120 := n7_; have HB := n8_; clear n0_ n1_ n2_ n3_ n4_ n5_ n6_ n7_ n8_; clear hg hw hp_; obtain ⟨Ao86, co86, eo86⟩ := Kd.ZH HO_6.out; subst eo86) | ((with_reducible refine za (f := 117) rfl ?_); refine qL (some 133) rfl rfl Try.func117 (by kernel_rfl) rfl #[.slice Ao86 x6_1.length co86, .int .i64 6] rfl (by (try simp only [yiy, yjy, yky]); first | done | rfl | (simp only [yly, ymy]; rfl)) ?_; (with_reducible refine (zd.calls k1 _ _ x6_1 6 t122 t123 _ ?side1 ?side2 A67.out).mono ?_); (case side1 => repeat (first | exact (Kd.zx HO_6.out).2.2 | (with_reducible refine Kd.zu ?_ _) | (with_reducible refine Kd.zw ?_ _) | (with_reducible refine Kd.qK ?_))); (case side2 => exact (Kd.zx HO_6.out).2.1); rintro e w87 ⟨v124, rfl, ho0, hb⟩; refine ⟨_, rfl, ?_⟩; have n0_ := zA.mk (Kd.qM (by (with_reducible repeat (first | apply Kd.zR | apply Kd.zS | apply Kd.zW)); exact HO_5.out) hb); have n1_ := zA.mk (Kd.qM (by (with_reducible repeat (first | apply Kd.zR | apply Kd.zS | apply Kd.zW)); exact HO_6.out) hb); have n2_ := zA.mk (Kd.qM (by (with_reducible repeat (first | apply Kd.zR | apply Kd.zS | apply Kd.zW)); exact HO_7.out) hb); have n3_ := zA.mk (Kd.qM (by (with_reducible repeat (first | apply Kd.zR | apply Kd.zS | apply Kd.zW)); exact HO116.out) hb); have n4_ := zA.mk (Kd.ZZ (by (with_reducible repeat (first | apply Kd.ze | apply Kd.zf | apply Kd.zo)); exact HO120.out) (Kd.JK ho0) hb); have n5_ := zA.mk (Kd.Zg (Kd.Zn (Kd.Zn (Kd.Zn (Kd.Zn (Kd.Zn ho0 (Kd.JC (by (with_reducible repeat (first | apply Kd.zR | apply Kd.zS | apply Kd.zW)); exact HO_5.out))) (Kd.JC (by (with_reducible repeat (first | apply Kd.zR | apply Kd.zS | apply Kd.zW)); exact HO_6.out))) (Kd.JC (by (with_reducible repeat (first | apply Kd.zR | apply Kd.zS | apply Kd.zW)); exact HO_7.out))) (Kd.JC (by (with_reducible repeat (first | apply Kd.zR | apply Kd.zS | apply Kd.zW)); exact HO116.out))) (Kd.zCr (by (with_reducible repeat (first | apply Kd.ze | apply Kd.zf | apply Kd.zo)); exact HO120.out))) (zO (by repeat (first | (with_reducible first | exact HB.out | apply zC | apply zB | apply zD | refine zF ?_ GE101.out | refine zF ?_ GE102.out | refine zF ?_ GE113.out) | exact HB.out)))); have n6_ := zA.mk (zP (g := gb101) (o := .cells #[.slice A0_0 l0_0.length c0_0] 35 (0, 0)) (by (with_reducible repeat (first | refine zH ?_ _ | refine zJ ?_ | refine zG ?_ _)); exact BK101.out) hb); have n7_ := zA.mk (zP (g := gb102) (o := .cells #[.slice none 0 0, .slice none 0 0, .slice none 0 0] 88 (0, 0)) (by (with_reducible repeat (first | refine zH ?_ _ | refine zJ ?_ | refine zG ?_ _)); exact BK102.out) hb); have n8_ := zA.mk (zP (g := gb113) (o := .cells #[.slice Ao81 t117.length co81, .slice none 0 0, .slice none 0 0] 88 (0, 0)) (by (with_reducible repeat (first | refine zH ?_ _ | refine zJ ?_ | refine zG ?_ _)); exact BK113.out) hb); have n9_ := zA.mk (zM (by repeat (first | (with_reducible first | exact HB.out | apply zC | apply zB | apply zD | refine zF ?_ GE101.out | refine zF ?_ GE102.out | refine zF ?_ GE113.out) | exact HB.out)) hb); clear HO_5; clear HO_6; clear HO_7; clear HO116; clear HO120; clear BK101; clear BK102; clear BK113; clear HB; have HO_5 := n0_; have HO_6 := n1_; have HO_7 := n2_; have HO116 := n3_; have HO120 := n4_; have HO125 := n5_; have BK101 := n6_; have BK102 := n7_; have BK113 := n8_; have HB := n9_; clear n0_ n1_ n2_ n3_ n4_ n5_ n6_ n7_ n8_ n9_; (try clear hb); (try clear hb2); (try clear hk); (try clear hi); (try clear ho0); obtain ⟨Ao88, co88, eo88⟩ := Kd.Zz HO125.out; subst eo88; have hcz89_0 : w87.cell? ⟨gb113, 0, none⟩ = some (.slice Ao81 t117.length co81) := (zK BK113.out 0).trans rfl; have hcz89_1 : w87.cell? ⟨gb113, 1, none⟩ = some (.slice none 0 0) := (zK BK113.out 1).trans rfl; have hcz89_2 : w87.cell? ⟨gb113, 2, none⟩ = some (.slice none 0 0) := (zK BK113.out 2).trans rfl; have hfz89_0 := zN BK113.out 0; have hfz89_1 := zN BK113.out 1; have hfz89_2 := zN BK113.out 2) | ((with_reducible refine ZQ (t := 30) (p := 136) rfl ?_); refine ZE (t := 30) (p := 136) (v := ?vo_w90) (w1 := (w87.setCell ⟨gb113, 1, none⟩ (.slice Ao88 t122.length co88))) ?hg ?ho ?hn ?hr ?_; (case ho => rfl); (case hg => rfl); (case hn => rfl); (case hr => first | (go_simp; done) | (go_simp; rfl)); intro w90 hw; have n0_ : zA (Kd.R (Kd.int .i64) 2 w90 w.heap.size (fun k_ => some k_ ≠ (.slice Ao86 x6_1.length co86 : Value).ownBlock ∧ some k_ ≠ (v111 : Value).ownBlock ∧ some k_ ≠ (.slice (some ⟨go66, 0, none⟩) y114.length co66 : Value).ownBlock) (.slice Ao79 x5_1.length co79) x5_1) := ⟨(by rw [hw]; exact (by (with_reducible repeat (first | apply Kd.zR | apply Kd.zS | apply Kd.zW)); exact Kd.zv (Kd.ZI (p := ⟨gb113, 1, none⟩) (Kd.ZJ HO_5.out BK113.out (by decide)) (fun _ hk => hk.2) (.slice Ao88 t122.length co88)) (fun _ hk => ⟨hk.1.1.1, ⟨hk.1.1.2, hk.1.2⟩⟩)))⟩; have n1_ : zA (Kd.R (Kd.int .i64) 2 w90 w.heap.size (fun k_ => some k_ ≠ (.slice Ao79 x5_1.length co79 : Value).ownBlock ∧ some k_ ≠ (v111 : Value).ownBlock ∧ some k_ ≠ (.slice (some ⟨go66, 0, none⟩) y114.length co66 : Value).ownBlock) (.slice Ao86 x6_1.length co86) x6_1) := ⟨(by rw [hw]; exact (by (with_reducible repeat (first | apply Kd.zR | apply Kd.zS | apply Kd.zW)); exact Kd.zv (Kd.ZI (p := ⟨gb113, 1, none⟩) (Kd.ZJ HO_6.out BK113.out (by decide)) (fun _ hk => hk.2) (.slice Ao88 t122.length co88)) (fun _ hk => ⟨hk.1.1.1, ⟨hk.1.1.2, hk.1.2⟩⟩)))⟩; have n2_ : zA (Kd.R (Kd.int .i64) 2 w90 w.heap.size (fun k_ => some k_ ≠ (.slice Ao79 x5_1.length co79 : Value).ownBlock ∧ some k_ ≠ (.slice Ao86 x6_1.length co86 : Value).ownBlock ∧ some k_ ≠ (.slice (some ⟨go66, 0, none⟩) y114.length co66 : Value).ownBlock) v111 x7_1) := ⟨(by rw [hw]; exact (by (with_reducible repeat (first | apply Kd.zR | apply Kd.zS | apply Kd.zW)); exact Kd.zv (Kd.ZI (p := ⟨gb113, 1, none⟩) (Kd.ZJ HO_7.out BK113.out (by decide)) (fun _ hk => hk.2) (.slice Ao88 t122.length co88)) (fun _ hk => ⟨hk.1.1.1, ⟨hk.1.1.2, hk.1.2⟩⟩)))⟩; have n3_ : zA (Kd.R (Kd.int .i64) 2 w90 w.heap.size (fun k_ => some k_ ≠ (.slice Ao79 x5_1.length co79 : Value).ownBlock ∧ some k_ ≠ (.slice Ao86 x6_1.length co86 : Value).ownBlock ∧ some k_ ≠ (v111 : Value).ownBlock) (.slice (some ⟨go66, 0, none⟩) y114.length co66) y121) := ⟨(by rw [hw]; exact (by (with_reducible repeat (first | apply Kd.zR | apply Kd.zS | apply Kd.zW)); exact Kd.zv (Kd.ZI (p := ⟨gb113, 1, none⟩) (Kd.ZJ HO116.out BK113.out (by decide)) (fun _ hk => hk.2) (.slice Ao88 t122.length co88)) (fun _ hk => ⟨hk.1.1, ⟨hk.1.2.1, hk.1.2.2⟩⟩)))⟩; have n4_ : zA (Kd.S (Kd.slice 2 (Kd.int .i64)) 22 w90 w.heap.size (fun k_ => some k_ ≠ (.slice Ao79 x5_1.length co79 : Value).ownBlock ∧ some k_ ≠ (.slice Ao86 x6_1.length co86 : Value).ownBlock ∧ some k_ ≠ (v111 : Value).ownBlock ∧ some k_ ≠ (.slice (some ⟨go66, 0, none⟩) y114.length co66 : Value).ownBlock ∧ some k_ ≠ (.slice Ao88 t122.length co88 : Value).ownBlock) (.slice Ao81 t117.length co81) t117) := ⟨(by rw [hw]; exact (by (with_reducible repeat (first | apply Kd.ze | apply Kd.zf | apply Kd.zo)); exact Kd.qq (Kd.Zi (p := ⟨gb113, 1, none⟩) (Kd.ZR HO120.out BK113.out (by decide)) (fun _ hk => hk.2) (.slice Ao88 t122.length co88)) (fun _ hk => ⟨hk.1.1.1.1, ⟨hk.1.1.1.2.1, ⟨hk.1.1.1.2.2, ⟨hk.1.1.2, hk.1.2⟩⟩⟩⟩)))⟩; have n5_ : zA (Kd.S (Kd.slice 2 (Kd.int .i64)) 22 w90 w.heap.size (fun k_ => some k_ ≠ (.slice Ao79 x5_1.length co79 : Value).ownBlock ∧ some k_ ≠ (.slice Ao86 x6_1.length co86 : Value).ownBlock ∧ some k_ ≠ (v111 : Value).ownBlock ∧ some k_ ≠ (.slice (some ⟨go66, 0, none⟩) y114.length co66 : Value).ownBlock ∧ some k_ ≠ (.slice Ao81 t117.length co81 : Value).ownBlock) (.slice Ao88 t122.length co88) t122) := ⟨(by rw [hw]; exact (by (with_reducible repeat (first | apply Kd.ze | apply Kd.zf | apply Kd.zo)); exact Kd.qq (Kd.Zi (p := ⟨gb113, 1, none⟩) (Kd.ZR HO125.out BK113.out (by decide)) (fun _ hk => hk.2) (.slice Ao88 t122.length co88)) (fun _ hk => ⟨hk.1.1.1.1.1.2, ⟨hk.1.1.1.1.2, ⟨hk.1.1.1.2, ⟨hk.1.1.2, hk.1.2⟩⟩⟩⟩)))⟩; have n6_ : zA (w90.heap[gb101]? = some (.cells #[.slice A0_0 l0_0.length c0_0] 35 (0, 0))) := ⟨(by rw [hw]; exact (by (with_reducible repeat (first | refine zH ?_ _ | refine zJ ?_ | refine zG ?_ _)); refine qE ?_ NB101_113.out _; (with_reducible repeat (first | refine zH ?_ _ | refine zJ ?_ | refine zG ?_ _)); exact BK101.out))⟩; have n7_ : zA (w90.heap[gb102]? = some (.cells #[.slice none 0 0, .slice none 0 0, .slice none 0 0] 88 (0, 0))) := ⟨(by rw [hw]; exact (by (with_reducible repeat (first | refine zH ?_ _ | refine zJ ?_ | refine zG ?_ _)); refine qE ?_ NB102_113.out _; (with_reducible repeat (first | refine zH ?_ _ | refine zJ ?_ | refine zG ?_ _)); exact BK102.out))⟩; have n8_ : zA (w90.heap[gb113]? = some (.cells #[.slice Ao81 t117.length co81, .slice Ao88 t122.length co88, .slice none 0 0] 88 (0, 0))) := ⟨(by rw [hw]; exact (by (with_reducible repeat (first | refine zH ?_ _ | refine zJ ?_ | refine zG ?_ _)); refine qT (cs := #[.slice Ao81 t117.length co81, .slice none 0 0, .slice none 0 0]) ?_ 1 _ rfl; (with_reducible repeat (first | refine zH ?_ _ | refine zJ ?_ | refine zG ?_ _)); exact BK113.out))⟩; have n9_ : zA (Below w.heap.size w w90) := ⟨(by rw [hw]; exact (by repeat (first | (with_reducible first | exact HB.out | apply zC | apply zB | apply zD | refine zF ?_ GE101.out | refine zF ?_ GE102.out | refine zF ?_ GE113.out) | exact HB.out)))⟩; clear hw; clear HO_5; clear HO_6; clear HO_7; clear HO116; clear HO120; clear HO125; clear BK101; clear BK102; clear BK113; clear HB; have HO_5 := n0_; have HO_6 := n1_; have HO_7 := n2_; have HO116 := n3_; have HO120 := n4_; have HO125 := n5_; have BK101 := n6_; have BK102 := n7_; have BK113 := n8_; have HB := n9_; clear n0_ n1_ n2_ n3_ n4_ n5_ n6_ n7_ n8_ n9_; have p69 : 0 ≤ (1 : Int) := (by omega); have q69 : (1 : Int) < ((y114.length : Int) : Int) := of_decide_eq_true (by first | (with_reducible assumption) | assumption); have qi69 : (1 < y114.length) = True := eq_true (by omega); obtain ⟨hx69_0, hf69_0⟩ := Kd.ZV 0 HO116.out (1 : Int) p69 q69; (try rw [show ((1 : Int)).toNat = 1 from rfl] at hx69_0); (try simp only [Nat.reduceMul, Nat.zero_mul, Nat.zero_add, Nat.reduceAdd] at hx69_0); (try rw [show ((1 : Int)).toNat = 1 from rfl] at hf69_0); (try simp only [Nat.reduceMul, Nat.zero_mul, Nat.zero_add, Nat.reduceAdd] at hf69_0); replace p69 := eq_true p69; replace q69 := eq_true q69; obtain ⟨hy91_, hz91_⟩ := Kd.ZV 0 HO116.out (1 : Int) (by omega) (of_decide_eq_true (by first | (with_reducible assumption) | assumption)); (try simp only [Int.reduceToNat, Int.toNat_zero, Int.toNat_ofNat, Nat.reduceMul, Nat.zero_mul, Nat.zero_add] at hy91_ hz91_); (try rw [show ((1 : Int)).toNat = 1 from rfl] at hy91_); (try rw [show ((1 : Int)).toNat = 1 from rfl] at hz91_); have HP91 := Kd.JZ HO116.out (1 : Int) t123) | ((with_reducible refine ZQ (t := 2) (p := 137) rfl ?_); refine ZE (t := 2) (p := 137) (v := ?vo_w92) (w1 := (w90.setCell ⟨go66, (1 : Int).toNat, none⟩ (.int .i64 t123))) ?hg ?ho ?hn ?hr ?_; (case ho => rfl); (case hg => rfl); (case hn => rfl); (case hr => first | (go_simp; done) | (go_simp; rfl)); intro w92 hw; have hg : w90.grownBy w92 (some go66) := (by rw [hw]; exact HP91.2); have hp_ : Kd.R (Kd.int .i64) 2 w92 w.heap.size (fun k_ => some k_ ≠ (.slice Ao79 x5_1.length co79 : Value).ownBlock ∧ some k_ ≠ (.slice Ao86 x6_1.length co86 : Value).ownBlock ∧ some k_ ≠ (v111 : Value).ownBlock) (.slice (some ⟨go66, 0, none⟩) y114.length co66) y126 := (by rw [hw, Ny126.out]; exact HP91.1); clear HP91; have n0_ := zA.mk (Kd.qy (v := (.slice (some ⟨go66, 0, none⟩) y114.length co66)) (v1 := (.slice (some ⟨go66, 0, none⟩) y114.length co66)) (ok := (fun k_ => some k_ ≠ (.slice Ao86 x6_1.length co86 : Value).ownBlock ∧ some k_ ≠ (v111 : Value).ownBlock)) (by (with_reducible repeat (first | apply Kd.zR | apply Kd.zS | apply Kd.zW)); exact Kd.zv HO_5.out (fun _ hk => ⟨⟨hk.1, hk.2.1⟩, hk.2.2⟩)) hg (.inl rfl)); have n1_ := zA.mk (Kd.qy (v := (.slice (some ⟨go66, 0, none⟩) y114.length co66)) (v1 := (.slice (some ⟨go66, 0, none⟩) y114.length co66)) (ok := (fun k_ => some k_ ≠ (.slice Ao79 x5_1.length co79 : Value).ownBlock ∧ some k_ ≠ (v111 : Value).ownBlock)) (by (with_reducible repeat (first | apply Kd.zR | apply Kd.zS | apply Kd.zW)); exact Kd.zv HO_6.out (fun _ hk => ⟨⟨hk.1, hk.2.1⟩, hk.2.2⟩)) hg (.inl rfl)); have n2_ := zA.mk (Kd.qy (v := (.slice (some ⟨go66, 0, none⟩) y114.length co66)) (v1 := (.slice (some ⟨go66, 0, none⟩) y114.length co66)) (ok := (fun k_ => some k_ ≠ (.slice Ao79 x5_1.length co79 : Value).ownBlock ∧ some k_ ≠ (.slice Ao86 x6_1.length co86 : Value).ownBlock)) (by (with_reducible repeat (first | apply Kd.zR | apply Kd.zS | apply Kd.zW)); exact Kd.zv HO_7.out (fun _ hk => ⟨⟨hk.1, hk.2.1⟩, hk.2.2⟩)) hg (.inl rfl)); have n3_ := zA.mk (qa (g := gb101) (o := .cells #[.slice A0_0 l0_0.length c0_0] 35 (0, 0)) (by (with_reducible repeat (first | refine zH ?_ _ | refine zJ ?_ | refine zG ?_ _)); exact BK101.out) hg (Kd.zBF HO116.out BK101.out (by decide))); have n4_ := zA.mk (qa (g := gb102) (o := .cells #[.slice none 0 0, .slice none 0 0, .slice none 0 0] 88 (0, 0)) (by (with_reducible repeat (first | refine zH ?_ _ | refine zJ ?_ | refine zG ?_ _)); exact BK102.out) hg (Kd.zBF HO116.out BK102.out (by decide))); have n5_ := zA.mk (qa (g := gb113) (o := .cells #[.slice Ao81 t117.length co81, .slice Ao88 t122.length co88, .slice none 0 0] 88 (0, 0)) (by (with_reducible repeat (first | refine zH ?_ _ | refine zJ ?_ | refine zG ?_ _)); exact BK113.out) hg (Kd.zBF HO116.out BK113.out (by decide))); have n6_ := zA.mk (hp_); have n7_ := zA.mk (Kd.Qv (v := (.slice (some ⟨go66, 0, none⟩) y114.length co66)) (v1 := (.slice (some ⟨go66, 0, none⟩) y114.length co66)) (ok := (fun k_ => some k_ ≠ (.slice Ao79 x5_1.length co79 : Value).ownBlock ∧ some k_ ≠ (.slice Ao86 x6_1.length co86 : Value).ownBlock ∧ some k_ ≠ (v111 : Value).ownBlock ∧ some k_ ≠ (.slice Ao88 t122.length co88 : Value).ownBlock)) (by (with_reducible repeat (first | apply Kd.ze | apply Kd.zf | apply Kd.zo)); exact Kd.qq HO120.out (fun _ hk => ⟨⟨hk.1, ⟨hk.2.1, ⟨hk.2.2.1, hk.2.2.2.2⟩⟩⟩, hk.2.2.2.1⟩)) hg (.inl rfl)); have n8_ := zA.mk (Kd.Qv (v := (.slice (some ⟨go66, 0, none⟩) y114.length co66)) (v1 := (.slice (some ⟨go66, 0, none⟩) y114.length co66)) (ok := (fun k_ => some k_ ≠ (.slice Ao79 x5_1.length co79 : Value).ownBlock ∧ some k_ ≠ (.slice Ao86 x6_1.length co86 : Value).ownBlock ∧ some k_ ≠ (v111 : Value).ownBlock ∧ some k_ ≠ (.slice Ao81 t117.length co81 : Value).ownBlock)) (by (with_reducible repeat (first | apply Kd.ze | apply Kd.zf | apply Kd.zo)); exact Kd.qq HO125.out (fun _ hk => ⟨⟨hk.1, ⟨hk.2.1, ⟨hk.2.2.1, hk.2.2.2.2⟩⟩⟩, hk.2.2.2.1⟩)) hg (.inl rfl)); have n9_ := zA.mk ((by rw [hw]; exact zF (HB.out) GB66.out : Below w.heap.size w w92)); clear HO_5; clear HO_6; clear HO_7; clear BK101; clear BK102; clear BK113; clear HO116; clear HO120; clear HO125; clear HB; have HO_5 := n0_; have HO_6 := n1_; have HO_7 := n2_; have BK101 := n3_; have BK102 := n4_; have BK113 := n5_; have HO116 := n6_; have HO120 := n7_; have HO125 := n8_; have HB := n9_; clear n0_ n1_ n2_ n3_ n4_ n5_ n6_ n7_ n8_ n9_; clear hg hw hp_; obtain ⟨Ao93, co93, eo93⟩ := Kd.ZH HO_7.out; subst eo93) | ((with_reducible refine za (f := 117) rfl ?_); refine qL (some 141) rfl rfl Try.func117 (by kernel_rfl) rfl #[.slice Ao93 x7_1.length co93, .int .i64 4] rfl (by (try simp only [yiy, yjy, yky]); first | done | rfl | (simp only [yly, ymy]; rfl)) ?_; (with_reducible refine (zd.calls k1 _ _ x7_1 4 t127 t128 _ ?side1 ?side2 A70.out).mono ?_); (case side1 => repeat (first | exact (Kd.zx HO_7.out).2.2 | (with_reducible refine Kd.zu ?_ _) | (with_reducible refine Kd.zw ?_ _) | (with_reducible refine Kd.qK ?_))); (case side2 => exact (Kd.zx HO_7.out).2.1); rintro e w94 ⟨v129, rfl, ho0, hb⟩; refine ⟨_, rfl, ?_⟩; have n0_ := zA.mk (Kd.qM (by (with_reducible repeat (first | apply Kd.zR | apply Kd.zS | apply Kd.zW)); exact HO_5.out) hb); have n1_ := zA.mk (Kd.qM (by (with_reducible repeat (first | apply Kd.zR | apply Kd.zS | apply Kd.zW)); exact HO_6.out) hb); have n2_ := zA.mk (Kd.qM (by (with_reducible repeat (first | apply Kd.zR | apply Kd.zS | apply Kd.zW)); exact HO_7.out) hb); have n3_ := zA.mk (Kd.qM (by (with_reducible repeat (first | apply Kd.zR | apply Kd.zS | apply Kd.zW)); exact HO116.out) hb); have n4_ := zA.mk (Kd.ZZ (by (with_reducible repeat (first | apply Kd.ze | apply Kd.zf | apply Kd.zo)); exact HO120.out) (Kd.JK ho0) hb); have n5_ := zA.mk (Kd.ZZ (by (with_reducible repeat (first | apply Kd.ze | apply Kd.zf | apply Kd.zo)); exact HO125.out) (Kd.JK ho0) hb); have n6_ := zA.mk (Kd.Zg (Kd.Zn (Kd.Zn (Kd.Zn (Kd.Zn (Kd.Zn (Kd.Zn ho0 (Kd.JC (by (with_reducible repeat (first | apply Kd.zR | apply Kd.zS | apply Kd.zW)); exact HO_5.out))) (Kd.JC (by (with_reducible repeat (first | apply Kd.zR | apply Kd.zS | apply Kd.zW)); exact HO_6.out))) (Kd.JC (by (with_reducible repeat (first | apply Kd.zR | apply Kd.zS | apply Kd.zW)); exact HO_7.out))) (Kd.JC (by (with_reducible repeat (first | apply Kd.zR | apply Kd.zS | apply Kd.zW)); exact HO116.out))) (Kd.zCr (by (with_reducible repeat (first | apply Kd.ze | apply Kd.zf | apply Kd.zo)); exact HO120.out))) (Kd.zCr (by (with_reducible repeat (first | apply Kd.ze | apply Kd.zf | apply Kd.zo)); exact HO125.out))) (zO (by repeat (first | (with_reducible first | exact HB.out | apply zC | apply zB | apply zD | refine zF ?_ GE101.out | refine zF ?_ GE102.out | refine zF ?_ GE113.out) | exact HB.out)))); have n7_ := zA.mk (zP (g := gb101) (o := .cells #[.slice A0_0 l0_0.length c0_0] 35 (0, 0)) (by (with_reducible repeat (first | refine zH ?_ _ | refine zJ ?_ | refine zG ?_ _)); exact BK101.out) hb); have n8_ := zA.mk (zP (g := gb102) (o := .cells #[.slice none 0 0, .slice none 0 0, .slice none 0 0] 88 (0, 0)) (by (with_reducible repeat (first | refine zH ?_ _ | refine zJ ?_ | refine zG ?_ _)); exact BK102.out) hb); have n9_ := zA.mk (zP (g := gb113) (o := .cells #[.slice Ao81 t117.length co81, .slice Ao88 t122.length co88, .slice none 0 0] 88 (0, 0)) (by (with_reducible repeat (first | refine zH ?_ _ | refine zJ ?_ | refine zG ?_ _)); exact BK113.out) hb); have n10_ := zA.mk (zM (by repeat (first | (with_reducible first | exact HB.out | apply zC | apply zB | apply zD | refine zF ?_ GE101.out | refine zF ?_ GE102.out | refine zF ?_ GE113.out) | exact HB.out)) hb); clear HO_5; clear HO_6; clear HO_7; clear HO116; clear HO120; clear HO125; clear BK101; clear BK102; clear BK113; clear HB; have HO_5 := n0_; have HO_6 := n1_; have HO_7 := n2_; have HO116 := n3_; have HO120 := n4_; have HO125 := n5_; have HO130 := n6_; have BK101 := n7_; have BK102 := n8_; have BK113 := n9_; have HB := n10_; clear n0_ n1_ n2_ n3_ n4_ n5_ n6_ n7_ n8_ n9_ n10_; (try clear hb); (try clear hb2); (try clear hk); (try clear hi); (try clear ho0); obtain ⟨Ao95, co95, eo95⟩ := Kd.Zz HO130.out; subst eo95; have hcz96_0 : w94.cell? ⟨gb113, 0, none⟩ = some (.slice Ao81 t117.length co81) := (zK BK113.out 0).trans rfl; have hcz96_1 : w94.cell? ⟨gb113, 1, none⟩ = some (.slice Ao88 t122.length co88) := (zK BK113.out 1).trans rfl; have hcz96_2 : w94.cell? ⟨gb113, 2, none⟩ = some (.slice none 0 0) := (zK BK113.out 2).trans rfl; have hfz96_0 := zN BK113.out 0; have hfz96_1 := zN BK113.out 1; have hfz96_2 := zN BK113.out 2) | ((with_reducible refine ZQ (t := 30) (p := 144) rfl ?_); refine ZE (t := 30) (p := 144) (v := ?vo_w97) (w1 := (w94.setCell ⟨gb113, 2, none⟩ (.slice Ao95 t127.length co95))) ?hg ?ho ?hn ?hr ?_; (case ho => rfl); (case hg => rfl); (case hn => rfl); (case hr => first | (go_simp; done) | (go_simp; rfl)); intro w97 hw; have n0_ : zA (Kd.R (Kd.int .i64) 2 w97 w.heap.size (fun k_ => some k_ ≠ (.slice Ao86 x6_1.length co86 : Value).ownBlock ∧ some k_ ≠ (.slice Ao93 x7_1.length co93 : Value).ownBlock ∧ some k_ ≠ (.slice (some ⟨go66, 0, none⟩) y114.length co66 : Value).ownBlock) (.slice Ao79 x5_1.length co79) x5_1) := ⟨(by rw [hw]; exact (by (with_reducible repeat (first | apply Kd.zR | apply Kd.zS | apply Kd.zW)); exact Kd.zv (Kd.ZI (p := ⟨gb113, 2, none⟩) (Kd.ZJ HO_5.out BK113.out (by decide)) (fun _ hk => hk.2) (.slice Ao95 t127.length co95)) (fun _ hk => ⟨hk.1.1.1, ⟨hk.1.1.2, hk.1.2⟩⟩)))⟩; have n1_ : zA (Kd.R (Kd.int .i64) 2 w97 w.heap.size (fun k_ => some k_ ≠ (.slice Ao79 x5_1.length co79 : Value).ownBlock ∧ some k_ ≠ (.slice Ao93 x7_1.length co93 : Value).ownBlock ∧ some k_ ≠ (.slice (some ⟨go66, 0, none⟩) y114.length co66 : Value).ownBlock) (.slice Ao86 x6_1.length co86) x6_1) := ⟨(by rw [hw]; exact (by (with_reducible repeat (first | apply Kd.zR | apply Kd.zS | apply Kd.zW)); exact Kd.zv (Kd.ZI (p := ⟨gb113, 2, none⟩) (Kd.ZJ HO_6.out BK113.out (by decide)) (fun _ hk => hk.2) (.slice Ao95 t127.length co95)) (fun _ hk => ⟨hk.1.1.1, ⟨hk.1.1.2, hk.1.2⟩⟩)))⟩; have n2_ : zA (Kd.R (Kd.int .i64) 2 w97 w.heap.size (fun k_ => some k_ ≠ (.slice Ao79 x5_1.length co79 : Value).ownBlock ∧ some k_ ≠ (.slice Ao86 x6_1.length co86 : Value).ownBlock ∧ some k_ ≠ (.slice (some ⟨go66, 0, none⟩) y114.length co66 : Value).ownBlock) (.slice Ao93 x7_1.length co93) x7_1) := ⟨(by rw [hw]; exact (by (with_reducible repeat (first | apply Kd.zR | apply Kd.zS | apply Kd.zW)); exact Kd.zv (Kd.ZI (p := ⟨gb113, 2, none⟩) (Kd.ZJ HO_7.out BK113.out (by decide)) (fun _ hk => hk.2) (.slice Ao95 t127.length co95)) (fun _ hk => ⟨hk.1.1.1, ⟨hk.1.1.2, hk.1.2⟩⟩)))⟩; have n3_ : zA (Kd.R (Kd.int .i64) 2 w97 w.heap.size (fun k_ => some k_ ≠ (.slice Ao79 x5_1.length co79 : Value).ownBlock ∧ some k_ ≠ (.slice Ao86 x6_1.length co86 : Value).ownBlock ∧ some k_ ≠ (.slice Ao93 x7_1.length co93 : Value).ownBlock) (.slice (some ⟨go66, 0, none⟩) y114.length co66) y126) := ⟨(by rw [hw]; exact (by (with_reducible repeat (first | apply Kd.zR | apply Kd.zS | apply Kd.zW)); exact Kd.zv (Kd.ZI (p := ⟨gb113, 2, none⟩) (Kd.ZJ HO116.out BK113.out (by decide)) (fun _ hk => hk.2) (.slice Ao95 t127.length co95)) (fun _ hk => ⟨hk.1.1, ⟨hk.1.2.1, hk.1.2.2⟩⟩)))⟩; have n4_ : zA (Kd.S (Kd.slice 2 (Kd.int .i64)) 22 w97 w.heap.size (fun k_ => some k_ ≠ (.slice Ao79 x5_1.length co79 : Value).ownBlock ∧ some k_ ≠ (.slice Ao86 x6_1.length co86 : Value).ownBlock ∧ some k_ ≠ (.slice Ao93 x7_1.length co93 : Value).ownBlock ∧ some k_ ≠ (.slice (some ⟨go66, 0, none⟩) y114.length co66 : Value).ownBlock ∧ some k_ ≠ (.slice Ao88 t122.length co88 : Value).ownBlock ∧ some k_ ≠ (.slice Ao95 t127.length co95 : Value).ownBlock) (.slice Ao81 t117.length co81) t117) := ⟨(by rw [hw]; exact (by (with_reducible repeat (first | apply Kd.ze | apply Kd.zf | apply Kd.zo)); exact Kd.qq (Kd.Zi (p := ⟨gb113, 2, none⟩) (Kd.ZR HO120.out BK113.out (by decide)) (fun _ hk => hk.2) (.slice Ao95 t127.length co95)) (fun _ hk => ⟨hk.1.1.1.1, ⟨hk.1.1.1.2.1, ⟨hk.1.1.1.2.2.1, ⟨hk.1.1.2, ⟨hk.1.1.1.2.2.2, hk.1.2⟩⟩⟩⟩⟩)))⟩; have n5_ : zA (Kd.S (Kd.slice 2 (Kd.int .i64)) 22 w97 w.heap.size (fun k_ => some k_ ≠ (.slice Ao79 x5_1.length co79 : Value).ownBlock ∧ some k_ ≠ (.slice Ao86 x6_1.length co86 : Value).ownBlock ∧ some k_ ≠ (.slice Ao93 x7_1.length co93 : Value).ownBlock ∧ some k_ ≠ (.slice (some ⟨go66, 0, none⟩) y114.length co66 : Value).ownBlock ∧ some k_ ≠ (.slice Ao81 t117.length co81 : Value).ownBlock ∧ some k_ ≠ (.slice Ao95 t127.length co95 : Value).ownBlock) (.slice Ao88 t122.length co88) t122) := ⟨(by rw [hw]; exact (by (with_reducible repeat (first | apply Kd.ze | apply Kd.zf | apply Kd.zo)); exact Kd.qq (Kd.Zi (p := ⟨gb113, 2, none⟩) (Kd.ZR HO125.out BK113.out (by decide)) (fun _ hk => hk.2) (.slice Ao95 t127.length co95)) (fun _ hk => ⟨hk.1.1.1.1, ⟨hk.1.1.1.2.1, ⟨hk.1.1.1.2.2.1, ⟨hk.1.1.2, ⟨hk.1.1.1.2.2.2, hk.1.2⟩⟩⟩⟩⟩)))⟩; have n6_ : zA (Kd.S (Kd.slice 2 (Kd.int .i64)) 22 w97 w.heap.size (fun k_ => some k_ ≠ (.slice Ao79 x5_1.length co79 : Value).ownBlock ∧ some k_ ≠ (.slice Ao86 x6_1.length co86 : Value).ownBlock ∧ some k_ ≠ (.slice Ao93 x7_1.length co93 : Value).ownBlock ∧ some k_ ≠ (.slice (some ⟨go66, 0, none⟩) y114.length co66 : Value).ownBlock ∧ some k_ ≠ (.slice Ao81 t117.length co81 : Value).ownBlock ∧ some k_ ≠ (.slice Ao88 t122.length co88 : Value).ownBlock) (.slice Ao95 t127.length co95) t127) := ⟨(by rw [hw]; exact (by (with_reducible repeat (first | apply Kd.ze | apply Kd.zf | apply Kd.zo)); exact Kd.qq (Kd.Zi (p := ⟨gb113, 2, none⟩) (Kd.ZR HO130.out BK113.out (by decide)) (fun _ hk => hk.2) (.slice Ao95 t127.length co95)) (fun _ hk => ⟨hk.1.1.1.1.1.1.2, ⟨hk.1.1.1.1.1.2, ⟨hk.1.1.1.1.2, ⟨hk.1.1.1.2, ⟨hk.1.1.2, hk.1.2⟩⟩⟩⟩⟩)))⟩; have n7_ : zA (w97.heap[gb101]? = some (.cells #[.slice A0_0 l0_0.length c0_0] 35 (0, 0))) := ⟨(by rw [hw]; exact (by (with_reducible repeat (first | refine zH ?_ _ | refine zJ ?_ | refine zG ?_ _)); refine qE ?_ NB101_113.out _; (with_reducible repeat (first | refine zH ?_ _ | refine zJ ?_ | refine zG ?_ _)); exact BK101.out))⟩; have n8_ : zA (w97.heap[gb102]? = some (.cells #[.slice none 0 0, .slice none 0 0, .slice none 0 0] 88 (0, 0))) := ⟨(by rw [hw]; exact (by (with_reducible repeat (first | refine zH ?_ _ | refine zJ ?_ | refine zG ?_ _)); refine qE ?_ NB102_113.out _; (with_reducible repeat (first | refine zH ?_ _ | refine zJ ?_ | refine zG ?_ _)); exact BK102.out))⟩; have n9_ : zA (w97.heap[gb113]? = some (.cells #[.slice Ao81 t117.length co81, .slice Ao88 t122.length co88, .slice Ao95 t127.length co95] 88 (0, 0))) := ⟨(by rw [hw]; exact (by (with_reducible repeat (first | refine zH ?_ _ | refine zJ ?_ | refine zG ?_ _)); refine qT (cs := #[.slice Ao81 t117.length co81, .slice Ao88 t122.length co88, .slice none 0 0]) ?_ 2 _ rfl; (with_reducible repeat (first | refine zH ?_ _ | refine zJ ?_ | refine zG ?_ _)); exact BK113.out))⟩; have n10_ : zA (Below w.heap.size w w97) := ⟨(by rw [hw]; exact (by repeat (first | (with_reducible first | exact HB.out | apply zC | apply zB | apply zD | refine zF ?_ GE101.out | refine zF ?_ GE102.out | refine zF ?_ GE113.out) | exact HB.out)))⟩; clear hw; clear HO_5; clear HO_6; clear HO_7; clear HO116; clear HO120; clear HO125; clear HO130; clear BK101; clear BK102; clear BK113; clear HB; have HO_5 := n0_; have HO_6 := n1_; have HO_7 := n2_; have HO116 := n3_; have HO120 := n4_; have HO125 := n5_; have HO130 := n6_; have BK101 := n7_; have BK102 := n8_; have BK113 := n9_; have HB := n10_; clear n0_ n1_ n2_ n3_ n4_ n5_ n6_ n7_ n8_ n9_ n10_; have p72 : 0 ≤ (2 : Int) := (by omega); have q72 : (2 : Int) < ((y114.length : Int) : Int) := of_decide_eq_true (by first | (with_reducible assumption) | assumption); have qi72 : (2 < y114.length) = True := eq_true (by omega); obtain ⟨hx72_0, hf72_0⟩ := Kd.ZV 0 HO116.out (2 : Int) p72 q72; (try rw [show ((2 : Int)).toNat = 2 from rfl] at hx72_0); (try simp only [Nat.reduceMul, Nat.zero_mul, Nat.zero_add, Nat.reduceAdd] at hx72_0); (try rw [show ((2 : Int)).toNat = 2 from rfl] at hf72_0); (try simp only [Nat.reduceMul, Nat.zero_mul, Nat.zero_add, Nat.reduceAdd] at hf72_0); replace p72 := eq_true p72; replace q72 := eq_true q72; obtain ⟨hy98_, hz98_⟩ := Kd.ZV 0 HO116.out (2 : Int) (by omega) (of_decide_eq_true (by first | (with_reducible assumption) | assumption)); (try simp only [Int.reduceToNat, Int.toNat_zero, Int.toNat_ofNat, Nat.reduceMul, Nat.zero_mul, Nat.zero_add] at hy98_ hz98_); (try rw [show ((2 : Int)).toNat = 2 from rfl] at hy98_); (try rw [show ((2 : Int)).toNat = 2 from rfl] at hz98_); have HP98 := Kd.JZ HO116.out (2 : Int) t128) | ((with_reducible refine ZQ (t := 2) (p := 145) rfl ?_); refine ZE (t := 2) (p := 145) (v := ?vo_w99) (w1 := (w97.setCell ⟨go66, (2 : Int).toNat, none⟩ (.int .i64 t128))) ?hg ?ho ?hn ?hr ?_; (case ho => rfl); (case hg => rfl); (case hn => rfl); (case hr => first | (go_simp; done) | (go_simp; rfl)); intro w99 hw; have hg : w97.grownBy w99 (some go66) := (by rw [hw]; exact HP98.2); have hp_ : Kd.R (Kd.int .i64) 2 w99 w.heap.size (fun k_ => some k_ ≠ (.slice Ao79 x5_1.length co79 : Value).ownBlock ∧ some k_ ≠ (.slice Ao86 x6_1.length co86 : Value).ownBlock ∧ some k_ ≠ (.slice Ao93 x7_1.length co93 : Value).ownBlock) (.slice (some ⟨go66, 0, none⟩) y114.length co66) y131 := (by rw [hw, Ny131.out]; exact HP98.1); clear HP98; have n0_ := zA.mk (Kd.qy (v := (.slice (some ⟨go66, 0, none⟩) y114.length co66)) (v1 := (.slice (some ⟨go66, 0, none⟩) y114.length co66)) (ok := (fun k_ => some k_ ≠ (.slice Ao86 x6_1.length co86 : Value).ownBlock ∧ some k_ ≠ (.slice Ao93 x7_1.length co93 : Value).ownBlock)) (by (with_reducible repeat (first | apply Kd.zR | apply Kd.zS | apply Kd.zW)); exact Kd.zv HO_5.out (fun _ hk => ⟨⟨hk.1, hk.2.1⟩, hk.2.2⟩)) hg (.inl rfl)); have n1_ := zA.mk (Kd.qy (v := (.slice (some ⟨go66, 0, none⟩) y114.length co66)) (v1 := (.slice (some ⟨go66, 0, none⟩) y114.length co66)) (ok := (fun k_ => some k_ ≠ (.slice Ao79 x5_1.length co79 : Value).ownBlock ∧ some k_ ≠ (.slice Ao93 x7_1.length co93 : Value).ownBlock)) (by (with_reducible repeat (first | apply Kd.zR | apply Kd.zS | apply Kd.zW)); exact Kd.zv HO_6.out (fun _ hk => ⟨⟨hk.1, hk.2.1⟩, hk.2.2⟩)) hg (.inl rfl)); have n2_ := zA.mk (Kd.qy (v := (.slice (some ⟨go66, 0, none⟩) y114.length co66)) (v1 := (.slice (some ⟨go66, 0, none⟩) y114.length co66)) (ok := (fun k_ => some k_ ≠ (.slice Ao79 x5_1.length co79 : Value).ownBlock ∧ some k_ ≠ (.slice Ao86 x6_1.length co86 : Value).ownBlock)) (by (with_reducible repeat (first | apply Kd.zR | apply Kd.zS | apply Kd.zW)); exact Kd.zv HO_7.out (fun _ hk => ⟨⟨hk.1, hk.2.1⟩, hk.2.2⟩)) hg (.inl rfl)); have n3_ := zA.mk (qa (g := gb101) (o := .cells #[.slice A0_0 l0_0.length c0_0] 35 (0, 0)) (by (with_reducible repeat (first | refine zH ?_ _ | refine zJ ?_ | refine zG ?_ _)); exact BK101.out) hg (Kd.zBF HO116.out BK101.out (by decide))); have n4_ := zA.mk (qa (g := gb102) (o := .cells #[.slice none 0 0, .slice none 0 0, .slice none 0 0] 88 (0, 0)) (by (with_reducible repeat (first | refine zH ?_ _ | refine zJ ?_ | refine zG ?_ _)); exact BK102.out) hg (Kd.zBF HO116.out BK102.out (by decide))); have n5_ := zA.mk (qa (g := gb113) (o := .cells #[.slice Ao81 t117.length co81, .slice Ao88 t122.length co88, .slice Ao95 t127.length co95] 88 (0, 0)) (by (with_reducible repeat (first | refine zH ?_ _ | refine zJ ?_ | refine zG ?_ _)); exact BK113.out) hg (Kd.zBF HO116.out BK113.out (by decide))); have n6_ := zA.mk (hp_); have n7_ := zA.mk (Kd.Qv (v := (.slice (some ⟨go66, 0, none⟩) y114.length co66)) (v1 := (.slice (some ⟨go66, 0, none⟩) y114.length co66)) (ok := (fun k_ => some k_ ≠ (.slice Ao79 x5_1.length co79 : Value).ownBlock ∧ some k_ ≠ (.slice Ao86 x6_1.length co86 : Value).ownBlock ∧ some k_ ≠ (.slice Ao93 x7_1.length co93 : Value).ownBlock ∧ some k_ ≠ (.slice Ao88 t122.length co88 : Value).ownBlock ∧ some k_ ≠ (.slice Ao95 t127.length co95 : Value).ownBlock)) (by (with_reducible repeat (first | apply Kd.ze | apply Kd.zf | apply Kd.zo)); exact Kd.qq HO120.out (fun _ hk => ⟨⟨hk.1, ⟨hk.2.1, ⟨hk.2.2.1, ⟨hk.2.2.2.2.1, hk.2.2.2.2.2⟩⟩⟩⟩, hk.2.2.2.1⟩)) hg (.inl rfl)); have n8_ := zA.mk (Kd.Qv (v := (.slice (some ⟨go66, 0, none⟩) y114.length co66)) (v1 := (.slice (some ⟨go66, 0, none⟩) y114.length co66)) (ok := (fun k_ => some k_ ≠ (.slice Ao79 x5_1.length co79 : Value).ownBlock ∧ some k_ ≠ (.slice Ao86 x6_1.length co86 : Value).ownBlock ∧ some k_ ≠ (.slice Ao93 x7_1.length co93 : Value).ownBlock ∧ some k_ ≠ (.slice Ao81 t117.length co81 : Value).ownBlock ∧ some k_ ≠ (.slice Ao95 t127.length co95 : Value).ownBlock)) (by (with_reducible repeat (first | apply Kd.ze | apply Kd.zf | apply Kd.zo)); exact Kd.qq HO125.out (fun _ hk => ⟨⟨hk.1, ⟨hk.2.1, ⟨hk.2.2.1, ⟨hk.2.2.2.2.1, hk.2.2.2.2.2⟩⟩⟩⟩, hk.2.2.2.1⟩)) hg (.inl rfl)); have n9_ := zA.mk (Kd.Qv (v := (.slice (some ⟨go66, 0, none⟩) y114.length co66)) (v1 := (.slice (some ⟨go66, 0, none⟩) y114.length co66)) (ok := (fun k_ => some k_ ≠ (.slice Ao79 x5_1.length co79 : Value).ownBlock ∧ some k_ ≠ (.slice Ao86 x6_1.length co86 : Value).ownBlock ∧ some k_ ≠ (.slice Ao93 x7_1.length co93 : Value).ownBlock ∧ some k_ ≠ (.slice Ao81 t117.length co81 : Value).ownBlock ∧ some k_ ≠ (.slice Ao88 t122.length co88 : Value).ownBlock)) (by (with_reducible repeat (first | apply Kd.ze | apply Kd.zf | apply Kd.zo)); exact Kd.qq HO130.out (fun _ hk => ⟨⟨hk.1, ⟨hk.2.1, ⟨hk.2.2.1, ⟨hk.2.2.2.2.1, hk.2.2.2.2.2⟩⟩⟩⟩, hk.2.2.2.1⟩)) hg (.inl rfl)); have n10_ := zA.mk ((by rw [hw]; exact zF (HB.out) GB66.out : Below w.heap.size w w99)); clear HO_5; clear HO_6; clear HO_7; clear BK101; clear BK102; clear BK113; clear HO116; clear HO120; clear HO125; clear HO130; clear HB; have HO_5 := n0_; have HO_6 := n1_; have HO_7 := n2_; have BK101 := n3_; have BK102 := n4_; have BK113 := n5_; have HO116 := n6_; have HO120 := n7_; have HO125 := n8_; have HO130 := n9_; have HB := n10_; clear n0_ n1_ n2_ n3_ n4_ n5_ n6_ n7_ n8_ n9_ n10_; clear hg hw hp_; have hcz100_0 : w99.cell? ⟨gb113, 0, none⟩ = some (.slice Ao81 t117.length co81) := (zK BK113.out 0).trans rfl; have hcz100_1 : w99.cell? ⟨gb113, 1, none⟩ = some (.slice Ao88 t122.length co88) := (zK BK113.out 1).trans rfl; have hcz100_2 : w99.cell? ⟨gb113, 2, none⟩ = some (.slice Ao95 t127.length co95) := (zK BK113.out 2).trans rfl; have hfz100_0 := zN BK113.out 0; have hfz100_1 := zN BK113.out 1; have hfz100_2 := zN BK113.out 2; have hnb101 := NB102_101.out; have hnc101 := NB101_102.out; have hcz102_0 : w99.cell? ⟨gb102, 0, none⟩ = some (.slice none 0 0) := (zK BK102.out 0).trans rfl; have hcz102_1 : w99.cell? ⟨gb102, 1, none⟩ = some (.slice none 0 0) := (zK BK102.out 1).trans rfl; have hcz102_2 : w99.cell? ⟨gb102, 2, none⟩ = some (.slice none 0 0) := (zK BK102.out 2).trans rfl; have hfz102_0 := zN BK102.out 0; have hfz102_1 := zN BK102.out 1; have hfz102_2 := zN BK102.out 2))
    refine bodyPost_ret (zDs rfl _ _ gb102 88 #[.slice Ao81 t117.length co81, .slice Ao88 t122.length co88, .slice Ao95 t127.length co95] (0, 0) _ rfl (by (with_reducible repeat (first | refine zH ?_ _ | refine zJ ?_ | refine zG ?_ _)); refine qT (cs := #[.slice Ao81 t117.length co81, .slice Ao88 t122.length co88, .slice none 0 0]) ?_ 2 _ rfl; (with_reducible repeat (first | refine zH ?_ _ | refine zJ ?_ | refine zG ?_ _)); refine qT (cs := #[.slice Ao81 t117.length co81, .slice none 0 0, .slice none 0 0]) ?_ 1 _ rfl; (with_reducible repeat (first | refine zH ?_ _ | refine zJ ?_ | refine zG ?_ _)); refine qT (cs := #[.slice none 0 0, .slice none 0 0, .slice none 0 0]) ?_ 0 _ rfl; (with_reducible repeat (first | refine zH ?_ _ | refine zJ ?_ | refine zG ?_ _)); exact BK102.out) Try.underlying88 rfl (by kernel_rfl)) rfl ?_
    exact ⟨_, _, _, _, by first | rfl | (simp [zX, zY] <;> rfl) | (simp [*, zX, zY] <;> rfl), by (with_reducible repeat (first | apply Kd.ze | apply Kd.zf | apply Kd.zo)); exact Kd.qq (Kd.Zi (p := ⟨gb102, 2, none⟩) (Kd.Zi (p := ⟨gb102, 1, none⟩) (Kd.Zi (p := ⟨gb102, 0, none⟩) (Kd.ZR HO120.out BK102.out (by decide)) (fun _ hk => hk.2) (.slice Ao81 t117.length co81)) (fun _ hk => hk.2) (.slice Ao88 t122.length co88)) (fun _ hk => hk.2) (.slice Ao95 t127.length co95)) (fun _ hk => ⟨hk.1.1.2.2.2.1, ⟨hk.1.1.2.2.2.2, hk.1.2⟩⟩), by (with_reducible repeat (first | apply Kd.ze | apply Kd.zf | apply Kd.zo)); exact Kd.qq (Kd.Zi (p := ⟨gb102, 2, none⟩) (Kd.Zi (p := ⟨gb102, 1, none⟩) (Kd.Zi (p := ⟨gb102, 0, none⟩) (Kd.ZR HO125.out BK102.out (by decide)) (fun _ hk => hk.2) (.slice Ao81 t117.length co81)) (fun _ hk => hk.2) (.slice Ao88 t122.length co88)) (fun _ hk => hk.2) (.slice Ao95 t127.length co95)) (fun _ hk => ⟨hk.1.1.2.2.2.1, ⟨hk.1.1.2.2.2.2, hk.1.2⟩⟩), by (with_reducible repeat (first | apply Kd.ze | apply Kd.zf | apply Kd.zo)); exact Kd.qq (Kd.Zi (p := ⟨gb102, 2, none⟩) (Kd.Zi (p := ⟨gb102, 1, none⟩) (Kd.Zi (p := ⟨gb102, 0, none⟩) (Kd.ZR HO130.out BK102.out (by decide)) (fun _ hk => hk.2) (.slice Ao81 t117.length co81)) (fun _ hk => hk.2) (.slice Ao88 t122.length co88)) (fun _ hk => hk.2) (.slice Ao95 t127.length co95)) (fun _ hk => ⟨hk.1.1.2.2.2.1, ⟨hk.1.1.2.2.2.2, hk.1.2⟩⟩), by (with_reducible repeat (first | apply Kd.zR | apply Kd.zS | apply Kd.zW)); exact Kd.zv (Kd.ZI (p := ⟨gb102, 2, none⟩) (Kd.ZI (p := ⟨gb102, 1, none⟩) (Kd.ZI (p := ⟨gb102, 0, none⟩) (Kd.ZJ HO116.out BK102.out (by decide)) (fun _ hk => hk.2) (.slice Ao81 t117.length co81)) (fun _ hk => hk.2) (.slice Ao88 t122.length co88)) (fun _ hk => hk.2) (.slice Ao95 t127.length co95)) (fun _ hk => trivial), by repeat (first | (with_reducible first | exact HB.out | apply zC | apply zB | apply zD | refine zF ?_ GE101.out | refine zF ?_ GE102.out | refine zF ?_ GE113.out) | exact HB.out)⟩
   rw [if_pos c14] at H
   have c14b0 : decide (x8_1 < t103) = true := ygy c14
   clear c14
   have H' := zA.mk H
   clear H
   go_wp2
   go_loopg [9] k1 (fun kq v9 w' => ∃ (x5_2 : List Int) (x6_2 : List Int) (x7_2 : List Int) (x9_2 : Int), v9 = .int .i64 x9_2 ∧ zA (zQ.l1 kq t103 x5_2 x6_2 x7_2 x8_1 x9_2 l0_0 = some (r1, r2, r3, r4)) ∧ zA (kq ≤ k1) ∧ zA (Kd.R (Kd.int .i64) 2 w' w.heap.size (fun k_ => some k_ ≠ (v108 : Value).ownBlock ∧ some k_ ≠ (v111 : Value).ownBlock) v105 x5_2) ∧ zA (Kd.R (Kd.int .i64) 2 w' w.heap.size (fun k_ => some k_ ≠ (v105 : Value).ownBlock ∧ some k_ ≠ (v111 : Value).ownBlock) v108 x6_2) ∧ zA (Kd.R (Kd.int .i64) 2 w' w.heap.size (fun k_ => some k_ ≠ (v105 : Value).ownBlock ∧ some k_ ≠ (v108 : Value).ownBlock) v111 x7_2) ∧ zA (w'.heap[gb101]? = some (.cells #[(.slice A0_0 l0_0.length c0_0)] 35 (0, 0))) ∧ zA (w'.heap[gb102]? = some (.cells #[(.slice none 0 0), (.slice none 0 0), (.slice none 0 0)] 88 (0, 0))) ∧ zA (Below w.heap.size w w'))
   case atStart => exact ⟨(x5_1), (x6_1), (x7_1), (0), (by first | rfl | (simp; done) | (simp [*]; done)), H', ⟨yqy _⟩, ⟨by (with_reducible repeat (first | apply Kd.zR | apply Kd.zS | apply Kd.zW)); exact HO_5.out⟩, ⟨by (with_reducible repeat (first | apply Kd.zR | apply Kd.zS | apply Kd.zW)); exact HO_6.out⟩, ⟨by (with_reducible repeat (first | apply Kd.zR | apply Kd.zS | apply Kd.zW)); exact HO_7.out⟩, ⟨by (with_reducible repeat (first | refine zH ?_ _ | refine zJ ?_ | refine zG ?_ _)); exact BK101.out⟩, ⟨by (with_reducible repeat (first | refine zH ?_ _ | refine zJ ?_ | refine zG ?_ _)); exact BK102.out⟩, ⟨by repeat (first | (with_reducible first | exact HB.out | apply zC | apply zB | apply zD | refine zF ?_ GE101.out | refine zF ?_ GE102.out) | exact HB.out)⟩⟩
   case round =>
    clear H'
    try clear c1
    try clear p2
    try clear c6
    try clear p6
    try clear c8
    try clear c9
    try clear c14
    try clear c14b0
    try clear hcz9_0
    try clear hfz9_0
    try clear p2
    try clear p6
    obtain ⟨x5_2, x6_2, x7_2, x9_2, rfl, HA, HK2, HO_5, HO_6, HO_7, BK101, BK102, HB⟩ := hrel
    cases gk with
    | zero => exact absurd HA.out (by simp [zQ.l1])
    | succ k2 =>
     have H := HA.out
     clear HA
     simp only [zQ.l1] at H
     by_cases c15 : x9_2 < 4
     rotate_left
     next =>
      rw [if_neg c15] at H
      have c15b0 : decide (x9_2 < 4) = false := yhy c15
      clear c15
      have H' := zA.mk H
      clear H
      go_wp2
      go_roundg k2
      case measure => have := HK1.out; have := HK2.out; omega
      case rel => exact ⟨(x5_2), (x6_2), (x7_2), (wrap64 (x8_1 + 1)), (by first | rfl | (simp; done) | (simp [*]; done)), H', ⟨by have := HK1.out; have := HK2.out; omega⟩, ⟨by (with_reducible repeat (first | apply Kd.zR | apply Kd.zS | apply Kd.zW)); exact HO_5.out⟩, ⟨by (with_reducible repeat (first | apply Kd.zR | apply Kd.zS | apply Kd.zW)); exact HO_6.out⟩, ⟨by (with_reducible repeat (first | apply Kd.zR | apply Kd.zS | apply Kd.zW)); exact HO_7.out⟩, ⟨by (with_reducible repeat (first | refine zH ?_ _ | refine zJ ?_ | refine zG ?_ _)); exact BK101.out⟩, ⟨by (with_reducible repeat (first | refine zH ?_ _ | refine zJ ?_ | refine zG ?_ _)); exact BK102.out⟩, ⟨by repeat (first | (with_reducible first | exact HB.out | apply zC | apply zB | apply zD | refine zF ?_ GE101.out | refine zF ?_ GE102.out) | exact HB.out)⟩⟩
     rw [if_pos c15] at H
     have c15b0 : decide (x9_2 < 4) = true := ygy c15
     clear c15
     by_cases c16 : 0 ≤ x8_1
     rotate_left
     next =>
      rw [if_neg c16] at H
      exact absurd H (by simp)
     rw [if_pos c16] at H
     have c16b0 : decide (0 ≤ x8_1) = true := ygy c16
     clear c16
     by_cases c17 : x8_1 < (l0_0.length : Int)
     rotate_left
     next =>
      rw [if_neg c17] at H
      exact absurd H (by simp)
     rw [if_pos c17] at H
     have c17b0 : decide (x8_1 < (l0_0.length : Int)) = true := ygy c17
     clear c17
     by_cases c18 : 0 ≤ x9_2
     rotate_left
     next =>
      rw [if_neg c18] at H
      exact absurd H (by simp)
     rw [if_pos c18] at H
     have c18b0 : decide (0 ≤ x9_2) = true := ygy c18
     clear c18
     by_cases c19 : x9_2 < ((zE l0_0 x8_1).length : Int)
     rotate_left
     next =>
      rw [if_neg c19] at H
      exact absurd H (by simp)
     rw [if_pos c19] at H
     have c19b0 : decide (x9_2 < ((zE l0_0 x8_1).length : Int)) = true := ygy c19
     clear c19
     by_cases c20 : ((zI (zE l0_0 x8_1) x9_2).f0) < 0
     next =>
      rw [if_pos c20] at H
      have c20b0 : decide (((zI (zE l0_0 x8_1) x9_2).f0) < 0) = true := ygy c20
      clear c20
      have H' := zA.mk H
      clear H
      have hnb21 := NB101_102.out
      have hnc21 := NB102_101.out
      have hcz22_0 : wr.cell? ⟨gb101, 0, none⟩ = some (.slice A0_0 l0_0.length c0_0) := (zK BK101.out 0).trans rfl
      have hfz22_0 := zN BK101.out 0
      have p132 : 0 ≤ (x8_1 : Int) := of_decide_eq_true (by first | (with_reducible assumption) | assumption)
      have q132 : x8_1 < (l0_0.length : Int) := of_decide_eq_true (by first | (with_reducible assumption) | assumption)
      obtain ⟨ad132, A132_0, c132_0, e132, hx132_0, hl132_0, hi132_0⟩ := ZO HR0_0.out x8_1 p132 q132
      cases e132
      replace hx132_0 := (HB.out.cell (ypy w _ hx132_0)).trans hx132_0
      have HR132_0 := zA.mk hi132_0
      have HC132_0 := zA.mk hl132_0
      clear hi132_0 hl132_0
      replace p132 := eq_true p132
      replace q132 := eq_true q132
      have p133 : 0 ≤ (x9_2 : Int) := of_decide_eq_true (by first | (with_reducible assumption) | assumption)
      have q133 : x9_2 < ((zE l0_0 x8_1).length : Int) := of_decide_eq_true (by first | (with_reducible assumption) | assumption)
      obtain ⟨ad133, e133, hx133_0, hx133_1⟩ := Zp HR132_0.out x9_2 p133 q133
      cases e133
      replace hx133_0 := (HB.out.cell (ypy w _ hx133_0)).trans hx133_0
      replace hx133_1 := (HB.out.cell (ypy w _ hx133_1)).trans hx133_1
      replace p133 := eq_true p133
      replace q133 := eq_true q133
      go_wp2_with (first | ((with_reducible refine zq (N := 10) rfl ?_); refine zt ?hg (N := 10) ?hd (cs := #[.int .i64 0, .int .i64 0]) (t := 75) ?hr ?_; (case hd => rfl); (case hg => rfl); (case hr => first | (go_simp; done) | (go_simp; rfl)); intro gb134 hg w23 hbox hb; have n0_ := zA.mk (Kd.qM (by (with_reducible repeat (first | apply Kd.zR | apply Kd.zS | apply Kd.zW)); exact HO_5.out) hb); have n1_ := zA.mk (Kd.qM (by (with_reducible repeat (first | apply Kd.zR | apply Kd.zS | apply Kd.zW)); exact HO_6.out) hb); have n2_ := zA.mk (Kd.qM (by (with_reducible repeat (first | apply Kd.zR | apply Kd.zS | apply Kd.zW)); exact HO_7.out) hb); have n3_ := zA.mk (zP (g := gb101) (o := .cells #[.slice (some ad132) l0_0.length c0_0] 35 (0, 0)) (by (with_reducible repeat (first | refine zH ?_ _ | refine zJ ?_ | refine zG ?_ _)); exact BK101.out) hb); have n4_ := zA.mk (zP (g := gb102) (o := .cells #[.slice none 0 0, .slice none 0 0, .slice none 0 0] 88 (0, 0)) (by (with_reducible repeat (first | refine zH ?_ _ | refine zJ ?_ | refine zG ?_ _)); exact BK102.out) hb); have n5_ := zA.mk (zM (by repeat (first | (with_reducible first | exact HB.out | apply zC | apply zB | apply zD | refine zF ?_ GE101.out | refine zF ?_ GE102.out) | exact HB.out)) hb); have n6_ := zA.mk (hbox); have n7_ := zA.mk ((by rw [hg]; exact (zO (by repeat (first | (with_reducible first | exact HB.out | apply zC | apply zB | apply zD | refine zF ?_ GE101.out | refine zF ?_ GE102.out) | exact HB.out))) : w.heap.size ≤ gb134)); have n8_ := zA.mk ((by rw [hg]; exact (zO (by repeat (first | (with_reducible first | exact HB.out | apply zC | apply zB | apply zD | refine zF ?_ GE101.out | refine zF ?_ GE102.out) | exact HB.out))) : w.heap.size ≤ gb134)); have n9_ := zA.mk ((by rw [hg]; exact Nat.ne_of_lt (qN (g := gb101) (o := .cells #[.slice (some ad132) l0_0.length c0_0] 35 (0, 0)) (by (with_reducible repeat (first | refine zH ?_ _ | refine zJ ?_ | refine zG ?_ _)); exact BK101.out)) : gb101 ≠ gb134)); have n10_ := zA.mk ((by rw [hg]; exact Nat.ne_of_gt (qN (g := gb101) (o := .cells #[.slice (some ad132) l0_0.length c0_0] 35 (0, 0)) (by (with_reducible repeat (first | refine zH ?_ _ | refine zJ ?_ | refine zG ?_ _)); exact BK101.out)) : gb134 ≠ gb101)); have n11_ := zA.mk ((by rw [hg]; exact Nat.ne_of_lt (qN (g := gb102) (o := .cells #[.slice none 0 0, .slice none 0 0, .slice none 0 0] 88 (0, 0)) (by (with_reducible repeat (first | refine zH ?_ _ | refine zJ ?_ | refine zG ?_ _)); exact BK102.out)) : gb102 ≠ gb134)); have n12_ := zA.mk ((by rw [hg]; exact Nat.ne_of_gt (qN (g := gb102) (o := .cells #[.slice none 0 0, .slice none 0 0, .slice none 0 0] 88 (0, 0)) (by (with_reducible repeat (first | refine zH ?_ _ | refine zJ ?_ | refine zG ?_ _)); exact BK102.out)) : gb134 ≠ gb102)); clear HO_5; clear HO_6; clear HO_7; clear BK101; clear BK102; clear HB; have HO_5 := n0_; have HO_6 := n1_; have HO_7 := n2_; have BK101 := n3_; have BK102 := n4_; have HB := n5_; have BK134 := n6_; have GW134 := n7_; have GE134 := n8_; have NB101_134 := n9_; have NB134_101 := n10_; have NB102_134 := n11_; have NB134_102 := n12_; clear n0_ n1_ n2_ n3_ n4_ n5_ n6_ n7_ n8_ n9_ n10_ n11_ n12_; clear hb hbox hg; have hnb24 := NB134_101.out; have hnc24 := NB101_134.out; have hnb25 := NB134_102.out; have hnc25 := NB102_134.out; have hcz26_0 : w23.cell? ⟨gb134, 0, none⟩ = some (.int .i64 0) := (zK BK134.out 0).trans rfl; have hcz26_1 : w23.cell? ⟨gb134, 1, none⟩ = some (.int .i64 0) := (zK BK134.out 1).trans rfl; have hfz26_0 := zN BK134.out 0; have hfz26_1 := zN BK134.out 1))
      go_roundg k2
      case measure => have := HK1.out; have := HK2.out; omega
      case rel => exact ⟨(x5_2), (x6_2), (x7_2), (wrap64 (x9_2 + 1)), (by first | rfl | (simp; done) | (simp [*]; done)), H', ⟨by have := HK1.out; have := HK2.out; omega⟩, ⟨by (with_reducible repeat (first | apply Kd.zR | apply Kd.zS | apply Kd.zW)); exact Kd.zv (Kd.ZI (p := ⟨gb134, 1, none⟩) (Kd.ZI (p := ⟨gb134, 0, none⟩) (Kd.ZJ HO_5.out BK134.out (by decide)) (fun _ hk => hk.2) (.int .i64 ((zI (zE l0_0 x8_1) x9_2).f0))) (fun _ hk => hk.2) (.int .i64 ((zI (zE l0_0 x8_1) x9_2).f1))) (fun _ hk => ⟨hk.1.1, hk.1.2⟩)⟩, ⟨by (with_reducible repeat (first | apply Kd.zR | apply Kd.zS | apply Kd.zW)); exact Kd.zv (Kd.ZI (p := ⟨gb134, 1, none⟩) (Kd.ZI (p := ⟨gb134, 0, none⟩) (Kd.ZJ HO_6.out BK134.out (by decide)) (fun _ hk => hk.2) (.int .i64 ((zI (zE l0_0 x8_1) x9_2).f0))) (fun _ hk => hk.2) (.int .i64 ((zI (zE l0_0 x8_1) x9_2).f1))) (fun _ hk => ⟨hk.1.1, hk.1.2⟩)⟩, ⟨by (with_reducible repeat (first | apply Kd.zR | apply Kd.zS | apply Kd.zW)); exact Kd.zv (Kd.ZI (p := ⟨gb134, 1, none⟩) (Kd.ZI (p := ⟨gb134, 0, none⟩) (Kd.ZJ HO_7.out BK134.out (by decide)) (fun _ hk => hk.2) (.int .i64 ((zI (zE l0_0 x8_1) x9_2).f0))) (fun _ hk => hk.2) (.int .i64 ((zI (zE l0_0 x8_1) x9_2).f1))) (fun _ hk => ⟨hk.1.1, hk.1.2⟩)⟩, ⟨by (with_reducible repeat (first | refine zH ?_ _ | refine zJ ?_ | refine zG ?_ _)); refine qE ?_ NB101_134.out _; (with_reducible repeat (first | refine zH ?_ _ | refine zJ ?_ | refine zG ?_ _)); refine qE ?_ NB101_134.out _; (with_reducible repeat (first | refine zH ?_ _ | refine zJ ?_ | refine zG ?_ _)); exact BK101.out⟩, ⟨by (with_reducible repeat (first | refine zH ?_ _ | refine zJ ?_ | refine zG ?_ _)); refine qE ?_ NB102_134.out _; (with_reducible repeat (first | refine zH ?_ _ | refine zJ ?_ | refine zG ?_ _)); refine qE ?_ NB102_134.out _; (with_reducible repeat (first | refine zH ?_ _ | refine zJ ?_ | refine zG ?_ _)); exact BK102.out⟩, ⟨by repeat (first | (with_reducible first | exact HB.out | apply zC | apply zB | apply zD | refine zF ?_ GE101.out | refine zF ?_ GE102.out | refine zF ?_ GE134.out) | exact HB.out)⟩⟩
     next =>
      rw [if_neg c20] at H
      have c20b0 : decide (((zI (zE l0_0 x8_1) x9_2).f0) < 0) = false := yhy c20
      clear c20
      replace H := ydy.mp H
      obtain ⟨t135, A270, H⟩ := H
      replace H : ((qv.f x7_2 (wrap64 ((wrap64 (4 * x8_1)) + x9_2)) (wrap64 ((wrap64 (4 * ((zI (zE l0_0 x8_1) x9_2).f0))) + t135))).bind fun t136 => (zQ.l2 k2 t103 x5_2 x6_2 t136 x8_1 x9_2 0 l0_0 ((zI (zE l0_0 x8_1) x9_2).f0) ((zI (zE l0_0 x8_1) x9_2).f1))) = some (r1, r2, r3, r4) := H
      have A27 := zA.mk A270
      clear A270
      replace H := ydy.mp H
      obtain ⟨t136, A280, H⟩ := H
      replace H : (zQ.l2 k2 t103 x5_2 x6_2 t136 x8_1 x9_2 0 l0_0 ((zI (zE l0_0 x8_1) x9_2).f0) ((zI (zE l0_0 x8_1) x9_2).f1)) = some (r1, r2, r3, r4) := H
      have A28 := zA.mk A280
      clear A280
      have H' := zA.mk H
      clear H
      have hnb29 := NB101_102.out
      have hnc29 := NB102_101.out
      have hcz30_0 : wr.cell? ⟨gb101, 0, none⟩ = some (.slice A0_0 l0_0.length c0_0) := (zK BK101.out 0).trans rfl
      have hfz30_0 := zN BK101.out 0
      have p132 : 0 ≤ (x8_1 : Int) := of_decide_eq_true (by first | (with_reducible assumption) | assumption)
      have q132 : x8_1 < (l0_0.length : Int) := of_decide_eq_true (by first | (with_reducible assumption) | assumption)
      obtain ⟨ad132, A132_0, c132_0, e132, hx132_0, hl132_0, hi132_0⟩ := ZO HR0_0.out x8_1 p132 q132
      cases e132
      replace hx132_0 := (HB.out.cell (ypy w _ hx132_0)).trans hx132_0
      have HR132_0 := zA.mk hi132_0
      have HC132_0 := zA.mk hl132_0
      clear hi132_0 hl132_0
      replace p132 := eq_true p132
      replace q132 := eq_true q132
      have p133 : 0 ≤ (x9_2 : Int) := of_decide_eq_true (by first | (with_reducible assumption) | assumption)
      have q133 : x9_2 < ((zE l0_0 x8_1).length : Int) := of_decide_eq_true (by first | (with_reducible assumption) | assumption)
      obtain ⟨ad133, e133, hx133_0, hx133_1⟩ := Zp HR132_0.out x9_2 p133 q133
      cases e133
      replace hx133_0 := (HB.out.cell (ypy w _ hx133_0)).trans hx133_0
      replace hx133_1 := (HB.out.cell (ypy w _ hx133_1)).trans hx133_1
      replace p133 := eq_true p133
      replace q133 := eq_true q133
      try go_wp2_with (first | ((with_reducible refine zq (N := 10) rfl ?_); refine zt ?hg (N := 10) ?hd (cs := #[.int .i64 0, .int .i64 0]) (t := 75) ?hr ?_; (case hd => rfl); (case hg => rfl); (case hr => first | (go_simp; done) | (go_simp; rfl)); intro gb134 hg w31 hbox hb; have n0_ := zA.mk (Kd.qM (by (with_reducible repeat (first | apply Kd.zR | apply Kd.zS | apply Kd.zW)); exact HO_5.out) hb); have n1_ := zA.mk (Kd.qM (by (with_reducible repeat (first | apply Kd.zR | apply Kd.zS | apply Kd.zW)); exact HO_6.out) hb); have n2_ := zA.mk (Kd.qM (by (with_reducible repeat (first | apply Kd.zR | apply Kd.zS | apply Kd.zW)); exact HO_7.out) hb); have n3_ := zA.mk (zP (g := gb101) (o := .cells #[.slice (some ad132) l0_0.length c0_0] 35 (0, 0)) (by (with_reducible repeat (first | refine zH ?_ _ | refine zJ ?_ | refine zG ?_ _)); exact BK101.out) hb); have n4_ := zA.mk (zP (g := gb102) (o := .cells #[.slice none 0 0, .slice none 0 0, .slice none 0 0] 88 (0, 0)) (by (with_reducible repeat (first | refine zH ?_ _ | refine zJ ?_ | refine zG ?_ _)); exact BK102.out) hb); have n5_ := zA.mk (zM (by repeat (first | (with_reducible first | exact HB.out | apply zC | apply zB | apply zD | refine zF ?_ GE101.out | refine zF ?_ GE102.out) | exact HB.out)) hb); have n6_ := zA.mk (hbox); have n7_ := zA.mk ((by rw [hg]; exact (zO (by repeat (first | (with_reducible first | exact HB.out | apply zC | apply zB | apply zD | refine zF ?_ GE101.out | refine zF ?_ GE102.out) | exact HB.out))) : w.heap.size ≤ gb134)); have n8_ := zA.mk ((by rw [hg]; exact (zO (by repeat (first | (with_reducible first | exact HB.out | apply zC | apply zB | apply zD | refine zF ?_ GE101.out | refine zF ?_ GE102.out) | exact HB.out))) : w.heap.size ≤ gb134)); have n9_ := zA.mk ((by rw [hg]; exact Nat.ne_of_lt (qN (g := gb101) (o := .cells #[.slice (some ad132) l0_0.length c0_0] 35 (0, 0)) (by (with_reducible repeat (first | refine zH ?_ _ | refine zJ ?_ | refine zG ?_ _)); exact BK101.out)) : gb101 ≠ gb134)); have n10_ := zA.mk ((by rw [hg]; exact Nat.ne_of_gt (qN (g := gb101) (o := .cells #[.slice (some ad132) l0_0.length c0_0] 35 (0, 0)) (by (with_reducible repeat (first | refine zH ?_ _ | refine zJ ?_ | refine zG ?_ _)); exact BK101.out)) : gb134 ≠ gb101)); have n11_ := zA.mk ((by rw [hg]; exact Nat.ne_of_lt (qN (g := gb102) (o := .cells #[.slice none 0 0, .slice none 0 0, .slice none 0 0] 88 (0, 0)) (by (with_reducible repeat (first | refine zH ?_ _ | refine zJ ?_ | refine zG ?_ _)); exact BK102.out)) : gb102 ≠ gb134)); have n12_ := zA.mk ((by rw [hg]; exact Nat.ne_of_gt (qN (g := gb102) (o := .cells #[.slice none 0 0, .slice none 0 0, .slice none 0 0] 88 (0, 0)) (by (with_reducible repeat (first | refine zH ?_ _ | refine zJ ?_ | refine zG ?_ _)); exact BK102.out)) : gb134 ≠ gb102)); clear HO_5; clear HO_6; clear HO_7; clear BK101; clear BK102; clear HB; have HO_5 := n0_; have HO_6 := n1_; have HO_7 := n2_; have BK101 := n3_; have BK102 := n4_; have HB := n5_; have BK134 := n6_; have GW134 := n7_; have GE134 := n8_; have NB101_134 := n9_; have NB134_101 := n10_; have NB102_134 := n11_; have NB134_102 := n12_; clear n0_ n1_ n2_ n3_ n4_ n5_ n6_ n7_ n8_ n9_ n10_ n11_ n12_; clear hb hbox hg; have hnb32 := NB134_101.out; have hnc32 := NB101_134.out; have hnb33 := NB134_102.out; have hnc33 := NB102_134.out; have hcz34_0 : w31.cell? ⟨gb134, 0, none⟩ = some (.int .i64 0) := (zK BK134.out 0).trans rfl; have hcz34_1 : w31.cell? ⟨gb134, 1, none⟩ = some (.int .i64 0) := (zK BK134.out 1).trans rfl; have hfz34_0 := zN BK134.out 0; have hfz34_1 := zN BK134.out 1))
      have n0_ : zA (Kd.R (Kd.int .i64) 2 ((w31.setCell ⟨gb134, 0, none⟩ (.int .i64 ((zI (zE l0_0 x8_1) x9_2).f0))).setCell ⟨gb134, 1, none⟩ (.int .i64 ((zI (zE l0_0 x8_1) x9_2).f1))) w.heap.size (fun k_ => some k_ ≠ (v108 : Value).ownBlock ∧ some k_ ≠ (v111 : Value).ownBlock) v105 x5_2) := ⟨by (with_reducible repeat (first | apply Kd.zR | apply Kd.zS | apply Kd.zW)); exact Kd.zv (Kd.ZI (p := ⟨gb134, 1, none⟩) (Kd.ZI (p := ⟨gb134, 0, none⟩) (Kd.ZJ HO_5.out BK134.out (by decide)) (fun _ hk => hk.2) (.int .i64 ((zI (zE l0_0 x8_1) x9_2).f0))) (fun _ hk => hk.2) (.int .i64 ((zI (zE l0_0 x8_1) x9_2).f1))) (fun _ hk => ⟨hk.1.1, hk.1.2⟩)⟩
      have n1_ : zA (Kd.R (Kd.int .i64) 2 ((w31.setCell ⟨gb134, 0, none⟩ (.int .i64 ((zI (zE l0_0 x8_1) x9_2).f0))).setCell ⟨gb134, 1, none⟩ (.int .i64 ((zI (zE l0_0 x8_1) x9_2).f1))) w.heap.size (fun k_ => some k_ ≠ (v105 : Value).ownBlock ∧ some k_ ≠ (v111 : Value).ownBlock) v108 x6_2) := ⟨by (with_reducible repeat (first | apply Kd.zR | apply Kd.zS | apply Kd.zW)); exact Kd.zv (Kd.ZI (p := ⟨gb134, 1, none⟩) (Kd.ZI (p := ⟨gb134, 0, none⟩) (Kd.ZJ HO_6.out BK134.out (by decide)) (fun _ hk => hk.2) (.int .i64 ((zI (zE l0_0 x8_1) x9_2).f0))) (fun _ hk => hk.2) (.int .i64 ((zI (zE l0_0 x8_1) x9_2).f1))) (fun _ hk => ⟨hk.1.1, hk.1.2⟩)⟩
      have n2_ : zA (Kd.R (Kd.int .i64) 2 ((w31.setCell ⟨gb134, 0, none⟩ (.int .i64 ((zI (zE l0_0 x8_1) x9_2).f0))).setCell ⟨gb134, 1, none⟩ (.int .i64 ((zI (zE l0_0 x8_1) x9_2).f1))) w.heap.size (fun k_ => some k_ ≠ (v105 : Value).ownBlock ∧ some k_ ≠ (v108 : Value).ownBlock) v111 x7_2) := ⟨by (with_reducible repeat (first | apply Kd.zR | apply Kd.zS | apply Kd.zW)); exact Kd.zv (Kd.ZI (p := ⟨gb134, 1, none⟩) (Kd.ZI (p := ⟨gb134, 0, none⟩) (Kd.ZJ HO_7.out BK134.out (by decide)) (fun _ hk => hk.2) (.int .i64 ((zI (zE l0_0 x8_1) x9_2).f0))) (fun _ hk => hk.2) (.int .i64 ((zI (zE l0_0 x8_1) x9_2).f1))) (fun _ hk => ⟨hk.1.1, hk.1.2⟩)⟩
      have n3_ : zA (((w31.setCell ⟨gb134, 0, none⟩ (.int .i64 ((zI (zE l0_0 x8_1) x9_2).f0))).setCell ⟨gb134, 1, none⟩ (.int .i64 ((zI (zE l0_0 x8_1) x9_2).f1))).heap[gb101]? = some (.cells #[.slice (some ad132) l0_0.length c0_0] 35 (0, 0))) := ⟨by (with_reducible repeat (first | refine zH ?_ _ | refine zJ ?_ | refine zG ?_ _)); refine qE ?_ NB101_134.out _; (with_reducible repeat (first | refine zH ?_ _ | refine zJ ?_ | refine zG ?_ _)); refine qE ?_ NB101_134.out _; (with_reducible repeat (first | refine zH ?_ _ | refine zJ ?_ | refine zG ?_ _)); exact BK101.out⟩
      have n4_ : zA (((w31.setCell ⟨gb134, 0, none⟩ (.int .i64 ((zI (zE l0_0 x8_1) x9_2).f0))).setCell ⟨gb134, 1, none⟩ (.int .i64 ((zI (zE l0_0 x8_1) x9_2).f1))).heap[gb102]? = some (.cells #[.slice none 0 0, .slice none 0 0, .slice none 0 0] 88 (0, 0))) := ⟨by (with_reducible repeat (first | refine zH ?_ _ | refine zJ ?_ | refine zG ?_ _)); refine qE ?_ NB102_134.out _; (with_reducible repeat (first | refine zH ?_ _ | refine zJ ?_ | refine zG ?_ _)); refine qE ?_ NB102_134.out _; (with_reducible repeat (first | refine zH ?_ _ | refine zJ ?_ | refine zG ?_ _)); exact BK102.out⟩
      have n5_ : zA (((w31.setCell ⟨gb134, 0, none⟩ (.int .i64 ((zI (zE l0_0 x8_1) x9_2).f0))).setCell ⟨gb134, 1, none⟩ (.int .i64 ((zI (zE l0_0 x8_1) x9_2).f1))).heap[gb134]? = some (.cells #[.int .i64 ((zI (zE l0_0 x8_1) x9_2).f0), .int .i64 ((zI (zE l0_0 x8_1) x9_2).f1)] 75 (0, 0))) := ⟨by (with_reducible repeat (first | refine zH ?_ _ | refine zJ ?_ | refine zG ?_ _)); refine qT (cs := #[.int .i64 ((zI (zE l0_0 x8_1) x9_2).f0), .int .i64 0]) ?_ 1 _ rfl; (with_reducible repeat (first | refine zH ?_ _ | refine zJ ?_ | refine zG ?_ _)); refine qT (cs := #[.int .i64 0, .int .i64 0]) ?_ 0 _ rfl; (with_reducible repeat (first | refine zH ?_ _ | refine zJ ?_ | refine zG ?_ _)); exact BK134.out⟩
      have n6_ : zA (Below w.heap.size w ((w31.setCell ⟨gb134, 0, none⟩ (.int .i64 ((zI (zE l0_0 x8_1) x9_2).f0))).setCell ⟨gb134, 1, none⟩ (.int .i64 ((zI (zE l0_0 x8_1) x9_2).f1)))) := ⟨by repeat (first | (with_reducible first | exact HB.out | apply zC | apply zB | apply zD | refine zF ?_ GE101.out | refine zF ?_ GE102.out | refine zF ?_ GE134.out) | exact HB.out)⟩
      (try clear HO_5)
      (try clear HO_6)
      (try clear HO_7)
      (try clear BK101)
      (try clear BK102)
      (try clear BK134)
      (try clear HB)
      generalize ((w31.setCell ⟨gb134, 0, none⟩ (.int .i64 ((zI (zE l0_0 x8_1) x9_2).f0))).setCell ⟨gb134, 1, none⟩ (.int .i64 ((zI (zE l0_0 x8_1) x9_2).f1))) = w35 at n0_ n1_ n2_ n3_ n4_ n5_ n6_ ⊢
      have HO_5 := n0_
      have HO_6 := n1_
      have HO_7 := n2_
      have BK101 := n3_
      have BK102 := n4_
      have BK134 := n5_
      have HB := n6_
      clear n0_ n1_ n2_ n3_ n4_ n5_ n6_
      have n0_ := zA.mk (Kd.zW HO_5.out)
      have n1_ := zA.mk (Kd.zW HO_6.out)
      have n2_ := zA.mk (Kd.zW HO_7.out)
      have n3_ := zA.mk (zJ BK101.out)
      have n4_ := zA.mk (zJ BK102.out)
      have n5_ := zA.mk (zJ BK134.out)
      have n6_ := zA.mk (zD HB.out)
      clear HO_5
      clear HO_6
      clear HO_7
      clear BK101
      clear BK102
      clear BK134
      clear HB
      have HO_5 := n0_
      have HO_6 := n1_
      have HO_7 := n2_
      have BK101 := n3_
      have BK102 := n4_
      have BK134 := n5_
      have HB := n6_
      clear n0_ n1_ n2_ n3_ n4_ n5_ n6_
      refine Zm (n := 14) (S := fun w' => w'.cell? ⟨gb134, 0, none⟩ = some (.int .i64 ((zI (zE l0_0 x8_1) x9_2).f0)) ∧ w'.cell? ⟨gb134, 1, none⟩ = some (.int .i64 ((zI (zE l0_0 x8_1) x9_2).f1))) (ds := []) #[false, false, false, false, false, false, false, false, false, false, false, false, false, false] (by kernel_rfl) rfl rfl ⟨(zK BK134.out 0).trans rfl, (zK BK134.out 1).trans rfl⟩ (fun hHeld => ?_); refine Zd zQ.tab13 zQ.bits13 (fun HT_ HW_ => ?_)
      generalize w35.drew = w36 at HO_5 HO_6 HO_7 BK101 BK102 BK134 HB hHeld ⊢
      refine zj (i := 0) (N := some 48) (v := ?_) (a' := ?_) #[true, false, false, false, false, false, false, false, false, false, false, false, false, false] rfl rfl (zi HT_.out (by kernel_rfl)) (fun _ _ _ h => h) (Or.inl ⟨by rfl, ?_⟩) ?_ ?_
      rotate_left
      next =>
       intro w'
       go_simp
       with_reducible rfl
      rotate_left
      next =>
       simp only [Act.put, yay, yby, ycy, zZ, zb]
       rfl
      refine zj (i := 1) (N := some 49) (v := ?_) (a' := ?_) #[true, true, false, false, false, false, false, false, false, false, false, false, false, false] rfl rfl (zi HT_.out (by kernel_rfl)) (fun _ _ _ h => h) (Or.inl ⟨by rfl, ?_⟩) ?_ ?_
      rotate_left
      next =>
       intro w'
       go_simp
       with_reducible rfl
      rotate_left
      next =>
       simp only [Act.put, yay, yby, ycy, zZ, zb]
       rfl
      refine zj (i := 2) (N := some 50) (v := ?_) (a' := ?_) #[true, true, true, false, false, false, false, false, false, false, false, false, false, false] rfl rfl (zi HT_.out (by kernel_rfl)) (fun _ _ _ h => h) (Or.inl ⟨by rfl, ?_⟩) ?_ ?_
      rotate_left
      next =>
       intro w'
       go_simp
       with_reducible rfl
      rotate_left
      next =>
       simp only [Act.put, yay, yby, ycy, zZ, zb]
       rfl
      refine zj (i := 3) (N := some 51) (v := ?_) (a' := ?_) #[true, true, true, true, false, false, false, false, false, false, false, false, false, false] rfl rfl (zi HT_.out (by kernel_rfl)) (fun _ _ _ h => h) (Or.inl ⟨by rfl, ?_⟩) ?_ ?_
      rotate_left
      next =>
       intro w'
       go_simp
       with_reducible rfl
      rotate_left
      next =>
       simp only [Act.put, yay, yby, ycy, zZ, zb]
       rfl
      refine zj (i := 4) (N := some 52) (v := ?_) (a' := ?_) #[true, true, true, true, true, false, false, false, false, false, false, false, false, false] rfl rfl (zi HT_.out (by kernel_rfl)) (fun _ _ _ h => h) (Or.inl ⟨by rfl, ?_⟩) ?_ ?_
      rotate_left
      next =>
       intro w'
       go_simp
       with_reducible rfl
      rotate_left
      next =>
       simp only [Act.put, yay, yby, ycy, zZ, zb]
       rfl
      refine zj (i := 5) (N := some 53) (v := ?_) (a' := ?_) #[true, true, true, true, true, true, false, false, false, false, false, false, false, false] rfl rfl (zi HT_.out (by kernel_rfl)) (fun _ _ _ h => h) (Or.inl ⟨by rfl, ?_⟩) ?_ ?_
      rotate_left
      next =>
       intro w'
       go_simp
       with_reducible rfl
      rotate_left
      next =>
       simp only [Act.put, yay, yby, ycy, zZ, zb]
       rfl
      refine zj (i := 8) (N := some 56) (v := ?_) (a' := ?_) #[true, true, true, true, true, true, false, false, true, false, false, false, false, false] rfl rfl (zi HT_.out (by kernel_rfl)) (fun _ _ _ h => h) (Or.inl ⟨by rfl, ?_⟩) ?_ ?_
      rotate_left
      next =>
       intro w'
       go_simp
       with_reducible rfl
      rotate_left
      next =>
       simp only [Act.put, yay, yby, ycy, zZ, zb]
       rfl
      refine zj (i := 10) (N := some 58) (v := ?_) (a' := ?_) #[true, true, true, true, true, true, false, false, true, false, true, false, false, false] rfl rfl (zi HT_.out (by kernel_rfl)) (fun _ _ _ h => h) (Or.inl ⟨by rfl, ?_⟩) ?_ ?_
      rotate_left
      next =>
       intro w'
       go_simp
       with_reducible rfl
      rotate_left
      next =>
       simp only [Act.put, yay, yby, ycy, zZ, zb]
       rfl
      refine qz (i := 6) (N := some 54) (v := ?_) (a' := ?_) #[true, true, true, true, true, true, true, false, true, false, true, false, false, false] rfl rfl (qb HT_.out HW_.out (by kernel_rfl)) (fun _ _ _ h => h) (Or.inl ⟨by rfl, ?_⟩) hHeld ?_ ?_
      rotate_left
      next =>
       rintro w' ⟨s0, s1⟩
       go_simp
       with_reducible rfl
      rotate_left
      next =>
       simp only [Act.put, yay, yby, ycy, zZ, zb]
       rfl
      refine zj (i := 7) (N := some 55) (v := ?_) (a' := ?_) #[true, true, true, true, true, true, true, true, true, false, true, false, false, false] rfl rfl (zi HT_.out (by kernel_rfl)) (fun _ _ _ h => h) (Or.inl ⟨by rfl, ?_⟩) ?_ ?_
      rotate_left
      next =>
       intro w'
       go_simp
       with_reducible rfl
      rotate_left
      next =>
       simp only [Act.put, yay, yby, ycy, zZ, zb]
       rfl
      refine qz (i := 9) (N := some 57) (v := ?_) (a' := ?_) #[true, true, true, true, true, true, true, true, true, true, true, false, false, false] rfl rfl (qb HT_.out HW_.out (by kernel_rfl)) (fun _ _ _ h => h) (Or.inl ⟨by rfl, ?_⟩) hHeld ?_ ?_
      rotate_left
      next =>
       rintro w' ⟨s0, s1⟩
       go_simp
       with_reducible rfl
      rotate_left
      next =>
       simp only [Act.put, yay, yby, ycy, zZ, zb]
       rfl
      refine Jj (i := 11) (N := some 59) #[true, true, true, true, true, true, true, true, true, true, true, true, false, false] rfl rfl (Zo HT_.out (by kernel_rfl)) (by decide) (fun K hK => ?_)
      refine QU Try.func82 (by kernel_rfl) rfl #[.int .i64 ((zI (zE l0_0 x8_1) x9_2).f1), .int .i64 x9_2] (by rfl) rfl rfl (by (try simp only [yiy, yjy, yky]); first | done | rfl | (simp only [yly, ymy]; rfl)) ?_
      with_reducible refine (qh.calls k2 ((zI (zE l0_0 x8_1) x9_2).f1) x9_2 t135 _ A27.out).mono ?_
      rintro e w37 ⟨rfl, hb⟩
      refine ⟨_, rfl, ?_⟩
      have n0_ := zA.mk (Kd.qM (by (with_reducible repeat (first | apply Kd.zR | apply Kd.zS | apply Kd.zW)); exact HO_5.out) hb)
      have n1_ := zA.mk (Kd.qM (by (with_reducible repeat (first | apply Kd.zR | apply Kd.zS | apply Kd.zW)); exact HO_6.out) hb)
      have n2_ := zA.mk (Kd.qM (by (with_reducible repeat (first | apply Kd.zR | apply Kd.zS | apply Kd.zW)); exact HO_7.out) hb)
      have n3_ := zA.mk (zP (g := gb101) (o := .cells #[.slice (some ad132) l0_0.length c0_0] 35 (0, 0)) (by (with_reducible repeat (first | refine zH ?_ _ | refine zJ ?_ | refine zG ?_ _)); exact BK101.out) hb)
      have n4_ := zA.mk (zP (g := gb102) (o := .cells #[.slice none 0 0, .slice none 0 0, .slice none 0 0] 88 (0, 0)) (by (with_reducible repeat (first | refine zH ?_ _ | refine zJ ?_ | refine zG ?_ _)); exact BK102.out) hb)
      have n5_ := zA.mk (zP (g := gb134) (o := .cells #[.int .i64 ((zI (zE l0_0 x8_1) x9_2).f0), .int .i64 ((zI (zE l0_0 x8_1) x9_2).f1)] 75 (0, 0)) (by (with_reducible repeat (first | refine zH ?_ _ | refine zJ ?_ | refine zG ?_ _)); exact BK134.out) hb)
      have n6_ := zA.mk (zM (by repeat (first | (with_reducible first | exact HB.out | apply zC | apply zB | apply zD | refine zF ?_ GE101.out | refine zF ?_ GE102.out | refine zF ?_ GE134.out) | exact HB.out)) hb)
      clear HO_5
      clear HO_6
      clear HO_7
      clear BK101
      clear BK102
      clear BK134
      clear HB
      have HO_5 := n0_
      have HO_6 := n1_
      have HO_7 := n2_
      have BK101 := n3_
      have BK102 := n4_
      have BK134 := n5_
      have HB := n6_
      clear n0_ n1_ n2_ n3_ n4_ n5_ n6_
      (try clear hb)
      (try clear hb2)
      (try clear hk)
      (try clear hi)
      obtain ⟨Ao38, co38, eo38⟩ := Kd.ZH HO_7.out
      (first | subst eo38 | (injection eo38 with f1_ f2_ f3_; have f4_ := f1_.symm; have f5_ := f3_.symm; clear f1_ f2_ f3_; subst f4_; subst f5_))
      refine hK.out _ _ ⟨(zK BK134.out 0).trans rfl, (zK BK134.out 1).trans rfl⟩ (fun hHeld => ?_)
      clear hK K
      refine Zx (a' := ?_) ?_ ?_
      rotate_left
      next =>
       show Act.put _ (some 59) _ = _
       simp only [Act.put, yay, yby, ycy, zZ, zb]
       rfl
      refine zj (i := 12) (N := some 60) (v := ?_) (a' := ?_) #[true, true, true, true, true, true, true, true, true, true, true, true, true, false] rfl rfl (zi HT_.out (by kernel_rfl)) (fun _ _ _ h => h) (Or.inl ⟨by rfl, ?_⟩) ?_ ?_
      rotate_left
      next =>
       intro w'
       go_simp
       with_reducible rfl
      rotate_left
      next =>
       simp only [Act.put, yay, yby, ycy, zZ, zb]
       rfl
      refine Jj (i := 13) (N := some 61) #[true, true, true, true, true, true, true, true, true, true, true, true, true, true] rfl rfl (Zo HT_.out (by kernel_rfl)) (by decide) (fun K hK => ?_)
      refine QU Try.func92 (by kernel_rfl) rfl #[.slice Ao38 x7_2.length co38, .int .i64 (wrap64 ((wrap64 (4 * x8_1)) + x9_2)), .int .i64 (wrap64 ((wrap64 (4 * ((zI (zE l0_0 x8_1) x9_2).f0))) + t135))] (by rfl) rfl rfl (by (try simp only [yiy, yjy, yky]); first | done | rfl | (simp only [yly, ymy]; rfl)) ?_
      with_reducible refine (qv.calls (fun k_ => some k_ = (.slice Ao38 x7_2.length co38 : Value).ownBlock) (.slice Ao38 x7_2.length co38) x7_2 (wrap64 ((wrap64 (4 * x8_1)) + x9_2)) (wrap64 ((wrap64 (4 * ((zI (zE l0_0 x8_1) x9_2).f0))) + t135)) t136 w _ ?side1 ?side2 A28.out).mono ?_
      (case side1 => repeat (first | (with_reducible first | exact HB.out | apply zC | apply zB | apply zD | refine zF ?_ GE101.out | refine zF ?_ GE102.out | refine zF ?_ GE134.out) | exact HB.out))
      (case side2 => exact Kd.Qu rfl HO_7.out)
      rintro e w39 ⟨rfl, hy0, hb, hkp⟩
      refine ⟨_, rfl, ?_⟩
      have n0_ := zA.mk (Kd.zv (ok' := fun k_ => some k_ ≠ (v108 : Value).ownBlock ∧ some k_ ≠ (.slice Ao38 x7_2.length co38 : Value).ownBlock) (Kd.zAU (HO_5.out) hkp (fun k_ hk_ hs_ => (hk_.2) hs_)) (fun k_ hk_ => ⟨hk_.1.1, hk_.1.2⟩))
      have n1_ := zA.mk (Kd.zv (ok' := fun k_ => some k_ ≠ (v105 : Value).ownBlock ∧ some k_ ≠ (.slice Ao38 x7_2.length co38 : Value).ownBlock) (Kd.zAU (HO_6.out) hkp (fun k_ hk_ hs_ => (hk_.2) hs_)) (fun k_ hk_ => ⟨hk_.1.1, hk_.1.2⟩))
      have n2_ := zA.mk (Kd.zEc rfl hy0 (fun k_ e_ => HO_7.out.1 k_ e_))
      have n3_ := zA.mk (QP (by (with_reducible repeat (first | refine zH ?_ _ | refine zJ ?_ | refine zG ?_ _)); exact BK101.out) hkp (fun hs_ => (fun e_ => (Kd.zBF HO_7.out BK101.out (by decide)) e_) hs_))
      have n4_ := zA.mk (QP (by (with_reducible repeat (first | refine zH ?_ _ | refine zJ ?_ | refine zG ?_ _)); exact BK102.out) hkp (fun hs_ => (fun e_ => (Kd.zBF HO_7.out BK102.out (by decide)) e_) hs_))
      have n5_ := zA.mk (QP (by (with_reducible repeat (first | refine zH ?_ _ | refine zJ ?_ | refine zG ?_ _)); exact BK134.out) hkp (fun hs_ => (fun e_ => (Kd.zBF HO_7.out BK134.out (by decide)) e_) hs_))
      have n6_ := zA.mk (hb)
      clear HO_5
      clear HO_6
      clear HO_7
      clear BK101
      clear BK102
      clear BK134
      clear HB
      have HO_5 := n0_
      have HO_6 := n1_
      have HO_7 := n2_
      have BK101 := n3_
      have BK102 := n4_
      have BK134 := n5_
      have HB := n6_
      clear n0_ n1_ n2_ n3_ n4_ n5_ n6_
      (try clear hb)
      (try clear hkp)
      (try clear hy0)
      refine hK.out _ _ ⟨(zK BK134.out 0).trans rfl, (zK BK134.out 1).trans rfl⟩ (fun hHeld => ?_)
      clear hK K
      refine Zx (a' := ?_) ?_ ?_
      rotate_left
      next =>
       show Act.put _ (some 61) _ = _
       simp only [Act.put, yay, yby, ycy, zZ, zb]
       rfl
      refine Qi (QV HT_.out (by kernel_rfl)) ?_
      try go_wp2
      go_loopg [11] k2 (fun kq v11 w' => ∃ (x5_3 : List Int) (x11_3 : Int), v11 = .int .i64 x11_3 ∧ zA (zQ.l2 kq t103 x5_3 x6_2 t136 x8_1 x9_2 x11_3 l0_0 ((zI (zE l0_0 x8_1) x9_2).f0) ((zI (zE l0_0 x8_1) x9_2).f1) = some (r1, r2, r3, r4)) ∧ zA (kq ≤ k2) ∧ zA (Kd.R (Kd.int .i64) 2 w' w.heap.size (fun k_ => some k_ ≠ (v108 : Value).ownBlock ∧ some k_ ≠ ((.slice Ao38 x7_2.length co38) : Value).ownBlock) v105 x5_3) ∧ zA (Kd.R (Kd.int .i64) 2 w' w.heap.size (fun k_ => some k_ ≠ (v105 : Value).ownBlock ∧ some k_ ≠ ((.slice Ao38 x7_2.length co38) : Value).ownBlock) v108 x6_2) ∧ zA (Kd.R (Kd.int .i64) 2 w' w.heap.size (fun k_ => some k_ ≠ (v105 : Value).ownBlock ∧ some k_ ≠ (v108 : Value).ownBlock) (.slice Ao38 x7_2.length co38) t136) ∧ zA (w'.heap[gb101]? = some (.cells #[(.slice (some ad132) l0_0.length c0_0)] 35 (0, 0))) ∧ zA (w'.heap[gb102]? = some (.cells #[(.slice none 0 0), (.slice none 0 0), (.slice none 0 0)] 88 (0, 0))) ∧ zA (w'.heap[gb134]? = some (.cells #[.int .i64 ((zI (zE l0_0 x8_1) x9_2).f0), .int .i64 ((zI (zE l0_0 x8_1) x9_2).f1)] 75 (0, 0))) ∧ zA (Below w.heap.size w w'))
      case atStart => exact ⟨(x5_2), (0), (by first | rfl | (simp; done) | (simp [*]; done)), H', ⟨yqy _⟩, ⟨by (with_reducible repeat (first | apply Kd.zR | apply Kd.zS | apply Kd.zW)); exact HO_5.out⟩, ⟨by (with_reducible repeat (first | apply Kd.zR | apply Kd.zS | apply Kd.zW)); exact HO_6.out⟩, ⟨by (with_reducible repeat (first | apply Kd.zR | apply Kd.zS | apply Kd.zW)); exact HO_7.out⟩, ⟨by (with_reducible repeat (first | refine zH ?_ _ | refine zJ ?_ | refine zG ?_ _)); exact BK101.out⟩, ⟨by (with_reducible repeat (first | refine zH ?_ _ | refine zJ ?_ | refine zG ?_ _)); exact BK102.out⟩, ⟨by (with_reducible repeat (first | refine zH ?_ _ | refine zJ ?_ | refine zG ?_ _)); exact BK134.out⟩, ⟨by repeat (first | (with_reducible first | exact HB.out | apply zC | apply zB | apply zD | refine zF ?_ GE101.out | refine zF ?_ GE102.out | refine zF ?_ GE134.out) | exact HB.out)⟩⟩
      case round =>
       clear H'
       try clear c1
       try clear p1
       try clear q1
       try clear hx1
       try clear c2
       try clear p2
       try clear c3
       try clear c6
       try clear p6
       try clear c8
       try clear c9
       try clear c13
       try clear p13
       try clear q13
       try clear hx13
       try clear c14
       try clear c14b0
       try clear c15
       try clear c15b0
       try clear c16
       try clear c16b0
       try clear c17
       try clear c17b0
       try clear c18
       try clear c18b0
       try clear c19
       try clear c19b0
       try clear c20
       try clear c20b0
       try clear c21
       try clear c24
       try clear c25
       try clear c29
       try clear c32
       try clear c33
       try clear hcz22_0
       try clear hcz26_0
       try clear hcz26_1
       try clear hcz30_0
       try clear hcz34_0
       try clear hcz34_1
       try clear hcz9_0
       try clear hfz22_0
       try clear hfz26_0
       try clear hfz26_1
       try clear hfz30_0
       try clear hfz34_0
       try clear hfz34_1
       try clear hfz9_0
       try clear hx132_0
       try clear hx133_0
       try clear hx133_1
       try clear p132
       try clear p133
       try clear p2
       try clear p6
       try clear q132
       try clear q133
       obtain ⟨x5_3, x11_3, rfl, HA, HK3, HO_5, HO_6, HO_7, BK101, BK102, BK134, HB⟩ := hrel
       have hl7_3 := (Kd.zx HO_7.out).1
       rw [hl7_3] at HO_7
       (try simp only [hl7_3])
       (try simp only [hl7_3] at BK101)
       (try simp only [hl7_3] at BK102)
       (try simp only [hl7_3] at BK134)
       (try simp only [hl7_3] at HO_5)
       (try simp only [hl7_3] at HO_6)
       cases gk with
       | zero => exact absurd HA.out (by simp [zQ.l2])
       | succ k3 =>
        have H := HA.out
        clear HA
        simp only [zQ.l2] at H
        by_cases c40 : x11_3 < 4
        next =>
         rw [if_pos c40] at H
         have c40b0 : decide (x11_3 < 4) = true := ygy c40
         clear c40
         by_cases c41 : x11_3 = x9_2
         next =>
          rw [if_pos c41] at H
          have c41b0 : (x11_3 == x9_2) = true := beq_iff_eq.mpr c41
          have c41b1 : (x11_3 != x9_2) = false := bne_eq_false_iff_eq.mpr c41
          clear c41
          have H' := zA.mk H
          clear H
          go_wp2
          (try simp only [← hl7_3])
          go_roundg k3
          case measure => have := HK1.out; have := HK2.out; have := HK3.out; omega
          case rel => exact ⟨(x5_3), (wrap64 (x11_3 + 1)), (by first | rfl | (simp; done) | (simp [*]; done)), H', ⟨by have := HK1.out; have := HK2.out; have := HK3.out; omega⟩, ⟨by (try simp only [hl7_3]); (with_reducible repeat (first | apply Kd.zR | apply Kd.zS | apply Kd.zW)); exact HO_5.out⟩, ⟨by (try simp only [hl7_3]); (with_reducible repeat (first | apply Kd.zR | apply Kd.zS | apply Kd.zW)); exact HO_6.out⟩, ⟨by (try simp only [hl7_3]); (with_reducible repeat (first | apply Kd.zR | apply Kd.zS | apply Kd.zW)); exact HO_7.out⟩, ⟨by (try simp only [hl7_3]); (with_reducible repeat (first | refine zH ?_ _ | refine zJ ?_ | refine zG ?_ _)); exact BK101.out⟩, ⟨by (try simp only [hl7_3]); (with_reducible repeat (first | refine zH ?_ _ | refine zJ ?_ | refine zG ?_ _)); exact BK102.out⟩, ⟨by (try simp only [hl7_3]); (with_reducible repeat (first | refine zH ?_ _ | refine zJ ?_ | refine zG ?_ _)); exact BK134.out⟩, ⟨by repeat (first | (with_reducible first | exact HB.out | apply zC | apply zB | apply zD | refine zF ?_ GE101.out | refine zF ?_ GE102.out | refine zF ?_ GE134.out) | exact HB.out)⟩⟩
         next =>
          rw [if_neg c41] at H
          have c41b0 : (x11_3 == x9_2) = false := beq_eq_false_iff_ne.mpr c41
          have c41b1 : (x11_3 != x9_2) = true := bne_iff_ne.mpr c41
          replace H := ydy.mp H
          obtain ⟨t137, A420, H⟩ := H
          replace H : ((qv.f x5_3 (wrap64 ((wrap64 (4 * x8_1)) + x11_3)) (wrap64 ((wrap64 (4 * ((zI (zE l0_0 x8_1) x9_2).f0))) + t137))).bind fun t138 => (zQ.l2 k3 t103 t138 x6_2 t136 x8_1 x9_2 (wrap64 (x11_3 + 1)) l0_0 ((zI (zE l0_0 x8_1) x9_2).f0) ((zI (zE l0_0 x8_1) x9_2).f1))) = some (r1, r2, r3, r4) := H
          have A42 := zA.mk A420
          clear A420
          replace H := ydy.mp H
          obtain ⟨t138, A430, H⟩ := H
          replace H : (zQ.l2 k3 t103 t138 x6_2 t136 x8_1 x9_2 (wrap64 (x11_3 + 1)) l0_0 ((zI (zE l0_0 x8_1) x9_2).f0) ((zI (zE l0_0 x8_1) x9_2).f1)) = some (r1, r2, r3, r4) := H
          have A43 := zA.mk A430
          clear A430
          have H' := zA.mk H
          clear H
          try go_wp2
          have n0_ := zA.mk (Kd.zW HO_5.out)
          have n1_ := zA.mk (Kd.zW HO_6.out)
          have n2_ := zA.mk (Kd.zW HO_7.out)
          have n3_ := zA.mk (zJ BK101.out)
          have n4_ := zA.mk (zJ BK102.out)
          have n5_ := zA.mk (zJ BK134.out)
          have n6_ := zA.mk (zD HB.out)
          clear HO_5
          clear HO_6
          clear HO_7
          clear BK101
          clear BK102
          clear BK134
          clear HB
          have HO_5 := n0_
          have HO_6 := n1_
          have HO_7 := n2_
          have BK101 := n3_
          have BK102 := n4_
          have BK134 := n5_
          have HB := n6_
          clear n0_ n1_ n2_ n3_ n4_ n5_ n6_
          refine Zm (n := 14) (S := fun w' => w'.cell? ⟨gb134, 0, none⟩ = some (.int .i64 ((zI (zE l0_0 x8_1) x9_2).f0)) ∧ w'.cell? ⟨gb134, 1, none⟩ = some (.int .i64 ((zI (zE l0_0 x8_1) x9_2).f1))) (ds := []) #[false, false, false, false, false, false, false, false, false, false, false, false, false, false] (by kernel_rfl) rfl rfl ⟨(zK BK134.out 0).trans rfl, (zK BK134.out 1).trans rfl⟩ (fun hHeld => ?_); refine Zd zQ.tab18 zQ.bits18 (fun HT_ HW_ => ?_)
          generalize wr.drew = w44 at HO_5 HO_6 HO_7 BK101 BK102 BK134 HB hHeld ⊢
          refine zj (i := 0) (N := some 69) (v := ?_) (a' := ?_) #[true, false, false, false, false, false, false, false, false, false, false, false, false, false] rfl rfl (zi HT_.out (by kernel_rfl)) (fun _ _ _ h => h) (Or.inl ⟨by rfl, ?_⟩) ?_ ?_
          rotate_left
          next =>
           intro w'
           go_simp
           with_reducible rfl
          rotate_left
          next =>
           simp only [Act.put, yay, yby, ycy, zZ, zb]
           rfl
          refine zj (i := 1) (N := some 70) (v := ?_) (a' := ?_) #[true, true, false, false, false, false, false, false, false, false, false, false, false, false] rfl rfl (zi HT_.out (by kernel_rfl)) (fun _ _ _ h => h) (Or.inl ⟨by rfl, ?_⟩) ?_ ?_
          rotate_left
          next =>
           intro w'
           go_simp
           with_reducible rfl
          rotate_left
          next =>
           simp only [Act.put, yay, yby, ycy, zZ, zb]
           rfl
          refine zj (i := 2) (N := some 71) (v := ?_) (a' := ?_) #[true, true, true, false, false, false, false, false, false, false, false, false, false, false] rfl rfl (zi HT_.out (by kernel_rfl)) (fun _ _ _ h => h) (Or.inl ⟨by rfl, ?_⟩) ?_ ?_
          rotate_left
          next =>
           intro w'
           go_simp
           with_reducible rfl
          rotate_left
          next =>
           simp only [Act.put, yay, yby, ycy, zZ, zb]
           rfl
          refine zj (i := 3) (N := some 72) (v := ?_) (a' := ?_) #[true, true, true, true, false, false, false, false, false, false, false, false, false, false] rfl rfl (zi HT_.out (by kernel_rfl)) (fun _ _ _ h => h) (Or.inl ⟨by rfl, ?_⟩) ?_ ?_
          rotate_left
          next =>
           intro w'
           go_simp
           with_reducible rfl
          rotate_left
          next =>
           simp only [Act.put, yay, yby, ycy, zZ, zb]
           rfl
          refine zj (i := 4) (N := some 73) (v := ?_) (a' := ?_) #[true, true, true, true, true, false, false, false, false, false, false, false, false, false] rfl rfl (zi HT_.out (by kernel_rfl)) (fun _ _ _ h => h) (Or.inl ⟨by rfl, ?_⟩) ?_ ?_
          rotate_left
          next =>
           intro w'
           go_simp
           with_reducible rfl
          rotate_left
          next =>
           simp only [Act.put, yay, yby, ycy, zZ, zb]
           rfl
          refine zj (i := 5) (N := some 74) (v := ?_) (a' := ?_) #[true, true, true, true, true, true, false, false, false, false, false, false, false, false] rfl rfl (zi HT_.out (by kernel_rfl)) (fun _ _ _ h => h) (Or.inl ⟨by rfl, ?_⟩) ?_ ?_
          rotate_left
          next =>
           intro w'
           go_simp
           with_reducible rfl
          rotate_left
          next =>
           simp only [Act.put, yay, yby, ycy, zZ, zb]
           rfl
          refine zj (i := 8) (N := some 77) (v := ?_) (a' := ?_) #[true, true, true, true, true, true, false, false, true, false, false, false, false, false] rfl rfl (zi HT_.out (by kernel_rfl)) (fun _ _ _ h => h) (Or.inl ⟨by rfl, ?_⟩) ?_ ?_
          rotate_left
          next =>
           intro w'
           go_simp
           with_reducible rfl
          rotate_left
          next =>
           simp only [Act.put, yay, yby, ycy, zZ, zb]
           rfl
          refine zj (i := 10) (N := some 79) (v := ?_) (a' := ?_) #[true, true, true, true, true, true, false, false, true, false, true, false, false, false] rfl rfl (zi HT_.out (by kernel_rfl)) (fun _ _ _ h => h) (Or.inl ⟨by rfl, ?_⟩) ?_ ?_
          rotate_left
          next =>
           intro w'
           go_simp
           with_reducible rfl
          rotate_left
          next =>
           simp only [Act.put, yay, yby, ycy, zZ, zb]
           rfl
          refine qz (i := 6) (N := some 75) (v := ?_) (a' := ?_) #[true, true, true, true, true, true, true, false, true, false, true, false, false, false] rfl rfl (qb HT_.out HW_.out (by kernel_rfl)) (fun _ _ _ h => h) (Or.inl ⟨by rfl, ?_⟩) hHeld ?_ ?_
          rotate_left
          next =>
           rintro w' ⟨s0, s1⟩
           go_simp
           with_reducible rfl
          rotate_left
          next =>
           simp only [Act.put, yay, yby, ycy, zZ, zb]
           rfl
          refine zj (i := 7) (N := some 76) (v := ?_) (a' := ?_) #[true, true, true, true, true, true, true, true, true, false, true, false, false, false] rfl rfl (zi HT_.out (by kernel_rfl)) (fun _ _ _ h => h) (Or.inl ⟨by rfl, ?_⟩) ?_ ?_
          rotate_left
          next =>
           intro w'
           go_simp
           with_reducible rfl
          rotate_left
          next =>
           simp only [Act.put, yay, yby, ycy, zZ, zb]
           rfl
          refine qz (i := 9) (N := some 78) (v := ?_) (a' := ?_) #[true, true, true, true, true, true, true, true, true, true, true, false, false, false] rfl rfl (qb HT_.out HW_.out (by kernel_rfl)) (fun _ _ _ h => h) (Or.inl ⟨by rfl, ?_⟩) hHeld ?_ ?_
          rotate_left
          next =>
           rintro w' ⟨s0, s1⟩
           go_simp
           with_reducible rfl
          rotate_left
          next =>
           simp only [Act.put, yay, yby, ycy, zZ, zb]
           rfl
          refine Jj (i := 11) (N := some 80) #[true, true, true, true, true, true, true, true, true, true, true, true, false, false] rfl rfl (Zo HT_.out (by kernel_rfl)) (by decide) (fun K hK => ?_)
          refine QU Try.func82 (by kernel_rfl) rfl #[.int .i64 ((zI (zE l0_0 x8_1) x9_2).f1), .int .i64 x11_3] (by rfl) rfl rfl (by (try simp only [yiy, yjy, yky]); first | done | rfl | (simp only [yly, ymy]; rfl)) ?_
          with_reducible refine (qh.calls k3 ((zI (zE l0_0 x8_1) x9_2).f1) x11_3 t137 _ A42.out).mono ?_
          rintro e w45 ⟨rfl, hb⟩
          refine ⟨_, rfl, ?_⟩
          have n0_ := zA.mk (Kd.qM (by (with_reducible repeat (first | apply Kd.zR | apply Kd.zS | apply Kd.zW)); exact HO_5.out) hb)
          have n1_ := zA.mk (Kd.qM (by (with_reducible repeat (first | apply Kd.zR | apply Kd.zS | apply Kd.zW)); exact HO_6.out) hb)
          have n2_ := zA.mk (Kd.qM (by (with_reducible repeat (first | apply Kd.zR | apply Kd.zS | apply Kd.zW)); exact HO_7.out) hb)
          have n3_ := zA.mk (zP (g := gb101) (o := .cells #[.slice (some ad132) l0_0.length c0_0] 35 (0, 0)) (by (with_reducible repeat (first | refine zH ?_ _ | refine zJ ?_ | refine zG ?_ _)); exact BK101.out) hb)
          have n4_ := zA.mk (zP (g := gb102) (o := .cells #[.slice none 0 0, .slice none 0 0, .slice none 0 0] 88 (0, 0)) (by (with_reducible repeat (first | refine zH ?_ _ | refine zJ ?_ | refine zG ?_ _)); exact BK102.out) hb)
          have n5_ := zA.mk (zP (g := gb134) (o := .cells #[.int .i64 ((zI (zE l0_0 x8_1) x9_2).f0), .int .i64 ((zI (zE l0_0 x8_1) x9_2).f1)] 75 (0, 0)) (by (with_reducible repeat (first | refine zH ?_ _ | refine zJ ?_ | refine zG ?_ _)); exact BK134.out) hb)
          have n6_ := zA.mk (zM (by repeat (first | (with_reducible first | exact HB.out | apply zC | apply zB | apply zD | refine zF ?_ GE101.out | refine zF ?_ GE102.out | refine zF ?_ GE134.out) | exact HB.out)) hb)
          clear HO_5
          clear HO_6
          clear HO_7
          clear BK101
          clear BK102
          clear BK134
          clear HB
          have HO_5 := n0_
          have HO_6 := n1_
          have HO_7 := n2_
          have BK101 := n3_
          have BK102 := n4_
          have BK134 := n5_
          have HB := n6_
          clear n0_ n1_ n2_ n3_ n4_ n5_ n6_
          (try clear hb)
          (try clear hb2)
          (try clear hk)
          (try clear hi)
          obtain ⟨Ao46, co46, eo46⟩ := Kd.ZH HO_5.out
          (first | subst eo46 | (injection eo46 with f1_ f2_ f3_; have f4_ := f1_.symm; have f5_ := f3_.symm; clear f1_ f2_ f3_; subst f4_; subst f5_))
          refine hK.out _ _ ⟨(zK BK134.out 0).trans rfl, (zK BK134.out 1).trans rfl⟩ (fun hHeld => ?_)
          clear hK K
          refine Zx (a' := ?_) ?_ ?_
          rotate_left
          next =>
           show Act.put _ (some 80) _ = _
           simp only [Act.put, yay, yby, ycy, zZ, zb]
           rfl
          refine zj (i := 12) (N := some 81) (v := ?_) (a' := ?_) #[true, true, true, true, true, true, true, true, true, true, true, true, true, false] rfl rfl (zi HT_.out (by kernel_rfl)) (fun _ _ _ h => h) (Or.inl ⟨by rfl, ?_⟩) ?_ ?_
          rotate_left
          next =>
           intro w'
           go_simp
           with_reducible rfl
          rotate_left
          next =>
           simp only [Act.put, yay, yby, ycy, zZ, zb]
           rfl
          refine Jj (i := 13) (N := some 82) #[true, true, true, true, true, true, true, true, true, true, true, true, true, true] rfl rfl (Zo HT_.out (by kernel_rfl)) (by decide) (fun K hK => ?_)
          refine QU Try.func92 (by kernel_rfl) rfl #[.slice Ao46 x5_3.length co46, .int .i64 (wrap64 ((wrap64 (4 * x8_1)) + x11_3)), .int .i64 (wrap64 ((wrap64 (4 * ((zI (zE l0_0 x8_1) x9_2).f0))) + t137))] (by rfl) rfl rfl (by (try simp only [yiy, yjy, yky]); first | done | rfl | (simp only [yly, ymy]; rfl)) ?_
          with_reducible refine (qv.calls (fun k_ => some k_ = (.slice Ao46 x5_3.length co46 : Value).ownBlock) (.slice Ao46 x5_3.length co46) x5_3 (wrap64 ((wrap64 (4 * x8_1)) + x11_3)) (wrap64 ((wrap64 (4 * ((zI (zE l0_0 x8_1) x9_2).f0))) + t137)) t138 w _ ?side1 ?side2 A43.out).mono ?_
          (case side1 => repeat (first | (with_reducible first | exact HB.out | apply zC | apply zB | apply zD | refine zF ?_ GE101.out | refine zF ?_ GE102.out | refine zF ?_ GE134.out) | exact HB.out))
          (case side2 => exact Kd.Qu rfl HO_5.out)
          rintro e w47 ⟨rfl, hy0, hb, hkp⟩
          refine ⟨_, rfl, ?_⟩
          have n0_ := zA.mk (Kd.zEc rfl hy0 (fun k_ e_ => HO_5.out.1 k_ e_))
          have n1_ := zA.mk (Kd.zv (ok' := fun k_ => some k_ ≠ (.slice Ao46 x5_3.length co46 : Value).ownBlock ∧ some k_ ≠ (.slice Ao38 t136.length co38 : Value).ownBlock) (Kd.zAU (HO_6.out) hkp (fun k_ hk_ hs_ => (hk_.1) hs_)) (fun k_ hk_ => ⟨hk_.1.1, hk_.1.2⟩))
          have n2_ := zA.mk (Kd.zv (ok' := fun k_ => some k_ ≠ (.slice Ao46 x5_3.length co46 : Value).ownBlock ∧ some k_ ≠ (v108 : Value).ownBlock) (Kd.zAU (HO_7.out) hkp (fun k_ hk_ hs_ => (hk_.1) hs_)) (fun k_ hk_ => ⟨hk_.1.1, hk_.1.2⟩))
          have n3_ := zA.mk (QP (by (with_reducible repeat (first | refine zH ?_ _ | refine zJ ?_ | refine zG ?_ _)); exact BK101.out) hkp (fun hs_ => (fun e_ => (Kd.zBF HO_5.out BK101.out (by decide)) e_) hs_))
          have n4_ := zA.mk (QP (by (with_reducible repeat (first | refine zH ?_ _ | refine zJ ?_ | refine zG ?_ _)); exact BK102.out) hkp (fun hs_ => (fun e_ => (Kd.zBF HO_5.out BK102.out (by decide)) e_) hs_))
          have n5_ := zA.mk (QP (by (with_reducible repeat (first | refine zH ?_ _ | refine zJ ?_ | refine zG ?_ _)); exact BK134.out) hkp (fun hs_ => (fun e_ => (Kd.zBF HO_5.out BK134.out (by decide)) e_) hs_))
          have n6_ := zA.mk (hb)
          clear HO_5
          clear HO_6
          clear HO_7
          clear BK101
          clear BK102
          clear BK134
          clear HB
          have HO_5 := n0_
          have HO_6 := n1_
          have HO_7 := n2_
          have BK101 := n3_
          have BK102 := n4_
          have BK134 := n5_
          have HB := n6_
          clear n0_ n1_ n2_ n3_ n4_ n5_ n6_
          (try clear hb)
          (try clear hkp)
          (try clear hy0)
          refine hK.out _ _ ⟨(zK BK134.out 0).trans rfl, (zK BK134.out 1).trans rfl⟩ (fun hHeld => ?_)
          clear hK K
          refine Zx (a' := ?_) ?_ ?_
          rotate_left
          next =>
           show Act.put _ (some 82) _ = _
           simp only [Act.put, yay, yby, ycy, zZ, zb]
           rfl
          refine Qi (QV HT_.out (by kernel_rfl)) ?_
          try go_wp2
          (try simp only [← hl7_3])
          go_roundg k3
          case measure => have := HK1.out; have := HK2.out; have := HK3.out; omega
          case rel => exact ⟨(t138), (wrap64 (x11_3 + 1)), (by first | rfl | (simp; done) | (simp [*]; done)), H', ⟨by have := HK1.out; have := HK2.out; have := HK3.out; omega⟩, ⟨by (try simp only [hl7_3]); (with_reducible repeat (first | apply Kd.zR | apply Kd.zS | apply Kd.zW)); exact HO_5.out⟩, ⟨by (try simp only [hl7_3]); (with_reducible repeat (first | apply Kd.zR | apply Kd.zS | apply Kd.zW)); exact HO_6.out⟩, ⟨by (try simp only [hl7_3]); (with_reducible repeat (first | apply Kd.zR | apply Kd.zS | apply Kd.zW)); exact HO_7.out⟩, ⟨by (try simp only [hl7_3]); (with_reducible repeat (first | refine zH ?_ _ | refine zJ ?_ | refine zG ?_ _)); exact BK101.out⟩, ⟨by (try simp only [hl7_3]); (with_reducible repeat (first | refine zH ?_ _ | refine zJ ?_ | refine zG ?_ _)); exact BK102.out⟩, ⟨by (try simp only [hl7_3]); (with_reducible repeat (first | refine zH ?_ _ | refine zJ ?_ | refine zG ?_ _)); exact BK134.out⟩, ⟨by repeat (first | (with_reducible first | exact HB.out | apply zC | apply zB | apply zD | refine zF ?_ GE101.out | refine zF ?_ GE102.out | refine zF ?_ GE134.out) | exact HB.out)⟩⟩
        next =>
         rw [if_neg c40] at H
         have c40b0 : decide (x11_3 < 4) = false := yhy c40
         (try simp only [hl7_3] at c40b0)
         clear c40
         have H' := zA.mk H
         clear H
         go_wp2
         go_loopg [12] k3 (fun kq v12 w' => ∃ (x6_4 : List Int) (x12_4 : Int), v12 = .int .i64 x12_4 ∧ zA (zQ.l3 kq t103 x5_3 x6_4 t136 x8_1 x9_2 x12_4 l0_0 ((zI (zE l0_0 x8_1) x9_2).f0) ((zI (zE l0_0 x8_1) x9_2).f1) = some (r1, r2, r3, r4)) ∧ zA (kq ≤ k3) ∧ zA (Kd.R (Kd.int .i64) 2 w' w.heap.size (fun k_ => some k_ ≠ (v108 : Value).ownBlock ∧ some k_ ≠ ((.slice Ao38 t136.length co38) : Value).ownBlock) v105 x5_3) ∧ zA (Kd.R (Kd.int .i64) 2 w' w.heap.size (fun k_ => some k_ ≠ (v105 : Value).ownBlock ∧ some k_ ≠ ((.slice Ao38 t136.length co38) : Value).ownBlock) v108 x6_4) ∧ zA (Kd.R (Kd.int .i64) 2 w' w.heap.size (fun k_ => some k_ ≠ (v105 : Value).ownBlock ∧ some k_ ≠ (v108 : Value).ownBlock) (.slice Ao38 t136.length co38) t136) ∧ zA (w'.heap[gb101]? = some (.cells #[(.slice (some ad132) l0_0.length c0_0)] 35 (0, 0))) ∧ zA (w'.heap[gb102]? = some (.cells #[(.slice none 0 0), (.slice none 0 0), (.slice none 0 0)] 88 (0, 0))) ∧ zA (w'.heap[gb134]? = some (.cells #[.int .i64 ((zI (zE l0_0 x8_1) x9_2).f0), .int .i64 ((zI (zE l0_0 x8_1) x9_2).f1)] 75 (0, 0))) ∧ zA (Below w.heap.size w w'))
         case atStart => exact ⟨(x6_2), (0), (by first | rfl | (simp; done) | (simp [*]; done)), H', ⟨yqy _⟩, ⟨by (try simp only [hl7_3]); (with_reducible repeat (first | apply Kd.zR | apply Kd.zS | apply Kd.zW)); exact HO_5.out⟩, ⟨by (try simp only [hl7_3]); (with_reducible repeat (first | apply Kd.zR | apply Kd.zS | apply Kd.zW)); exact HO_6.out⟩, ⟨by (try simp only [hl7_3]); (with_reducible repeat (first | apply Kd.zR | apply Kd.zS | apply Kd.zW)); exact HO_7.out⟩, ⟨by (try simp only [hl7_3]); (with_reducible repeat (first | refine zH ?_ _ | refine zJ ?_ | refine zG ?_ _)); exact BK101.out⟩, ⟨by (try simp only [hl7_3]); (with_reducible repeat (first | refine zH ?_ _ | refine zJ ?_ | refine zG ?_ _)); exact BK102.out⟩, ⟨by (try simp only [hl7_3]); (with_reducible repeat (first | refine zH ?_ _ | refine zJ ?_ | refine zG ?_ _)); exact BK134.out⟩, ⟨by repeat (first | (with_reducible first | exact HB.out | apply zC | apply zB | apply zD | refine zF ?_ GE101.out | refine zF ?_ GE102.out | refine zF ?_ GE134.out) | exact HB.out)⟩⟩
         case round =>
          clear H'
          try clear c1
          try clear p1
          try clear q1
          try clear hx1
          try clear c2
          try clear p2
          try clear c3
          try clear c4
          try clear c6
          try clear p6
          try clear c8
          try clear c9
          try clear c13
          try clear p13
          try clear q13
          try clear hx13
          try clear c14
          try clear c14b0
          try clear c15
          try clear c15b0
          try clear c16
          try clear c16b0
          try clear c17
          try clear c17b0
          try clear c18
          try clear c18b0
          try clear c19
          try clear c19b0
          try clear c20
          try clear c20b0
          try clear c21
          try clear c24
          try clear c25
          try clear c29
          try clear c32
          try clear c33
          try clear c40
          try clear c40b0
          try clear c41
          try clear c41b0
          try clear c41b1
          try clear hcz22_0
          try clear hcz26_0
          try clear hcz26_1
          try clear hcz30_0
          try clear hcz34_0
          try clear hcz34_1
          try clear hcz9_0
          try clear hfz22_0
          try clear hfz26_0
          try clear hfz26_1
          try clear hfz30_0
          try clear hfz34_0
          try clear hfz34_1
          try clear hfz9_0
          try clear hx132_0
          try clear hx133_0
          try clear hx133_1
          try clear p1
          try clear p13
          try clear p132
          try clear p133
          try clear p2
          try clear p6
          try clear q1
          try clear q13
          try clear q132
          try clear q133
          obtain ⟨x6_4, x12_4, rfl, HA, HK4, HO_5, HO_6, HO_7, BK101, BK102, BK134, HB⟩ := hrel
          cases gk with
          | zero => exact absurd HA.out (by simp [zQ.l3])
          | succ k4 =>
           have H := HA.out
           clear HA
           simp only [zQ.l3] at H
           by_cases c48 : x12_4 < 6
           rotate_left
           next =>
            rw [if_neg c48] at H
            have c48b0 : decide (x12_4 < 6) = false := yhy c48
            (try simp only [hl7_3] at c48b0)
            clear c48
            have H' := zA.mk H
            clear H
            go_wp2
            (try simp only [← hl7_3])
            go_roundg k4
            case measure => have := HK1.out; have := HK2.out; have := HK3.out; have := HK4.out; omega
            case rel => exact ⟨(x5_3), (x6_4), (t136), (wrap64 (x9_2 + 1)), (by first | rfl | (simp; done) | (simp [*]; done)), H', ⟨by have := HK1.out; have := HK2.out; have := HK3.out; have := HK4.out; omega⟩, ⟨by (try simp only [hl7_3]); (with_reducible repeat (first | apply Kd.zR | apply Kd.zS | apply Kd.zW)); exact HO_5.out⟩, ⟨by (try simp only [hl7_3]); (with_reducible repeat (first | apply Kd.zR | apply Kd.zS | apply Kd.zW)); exact HO_6.out⟩, ⟨by (try simp only [hl7_3]); (with_reducible repeat (first | apply Kd.zR | apply Kd.zS | apply Kd.zW)); exact HO_7.out⟩, ⟨by (try simp only [hl7_3]); (with_reducible repeat (first | refine zH ?_ _ | refine zJ ?_ | refine zG ?_ _)); exact BK101.out⟩, ⟨by (try simp only [hl7_3]); (with_reducible repeat (first | refine zH ?_ _ | refine zJ ?_ | refine zG ?_ _)); exact BK102.out⟩, ⟨by repeat (first | (with_reducible first | exact HB.out | apply zC | apply zB | apply zD | refine zF ?_ GE101.out | refine zF ?_ GE102.out | refine zF ?_ GE134.out) | exact HB.out)⟩⟩
           rw [if_pos c48] at H
           have c48b0 : decide (x12_4 < 6) = true := ygy c48
           clear c48
           replace H := ydy.mp H
           obtain ⟨⟨t139, t140⟩, A490, H⟩ := H
           replace H : (if t139 = x9_2 then (zQ.j4 k4 t103 x5_3 x6_4 t136 x8_1 x9_2 x12_4 t139 t140 false l0_0 ((zI (zE l0_0 x8_1) x9_2).f0) ((zI (zE l0_0 x8_1) x9_2).f1)) else (zQ.j4 k4 t103 x5_3 x6_4 t136 x8_1 x9_2 x12_4 t139 t140 (t140 != x9_2) l0_0 ((zI (zE l0_0 x8_1) x9_2).f0) ((zI (zE l0_0 x8_1) x9_2).f1))) = some (r1, r2, r3, r4) := H
           have A49 := zA.mk A490
           clear A490
           have HC50 := zA.mk H
           clear H
           go_upto_region 23 with (first | ((with_reducible refine za (f := 115) rfl ?_); refine qL (some 89) rfl rfl Try.func115 (by kernel_rfl) rfl #[.int .i64 x12_4] rfl (by (try simp only [yiy, yjy, yky]); first | done | rfl | (simp only [yly, ymy]; rfl)) ?_; (with_reducible refine (ql.calls x12_4 t139 t140 _ A49.out).mono ?_); rintro e w51 ⟨rfl, hb⟩; refine ⟨_, rfl, ?_⟩; have n0_ := zA.mk (Kd.qM (by (with_reducible repeat (first | apply Kd.zR | apply Kd.zS | apply Kd.zW)); exact HO_5.out) hb); have n1_ := zA.mk (Kd.qM (by (with_reducible repeat (first | apply Kd.zR | apply Kd.zS | apply Kd.zW)); exact HO_6.out) hb); have n2_ := zA.mk (Kd.qM (by (with_reducible repeat (first | apply Kd.zR | apply Kd.zS | apply Kd.zW)); exact HO_7.out) hb); have n3_ := zA.mk (zP (g := gb101) (o := .cells #[.slice (some ad132) l0_0.length c0_0] 35 (0, 0)) (by (with_reducible repeat (first | refine zH ?_ _ | refine zJ ?_ | refine zG ?_ _)); exact BK101.out) hb); have n4_ := zA.mk (zP (g := gb102) (o := .cells #[.slice none 0 0, .slice none 0 0, .slice none 0 0] 88 (0, 0)) (by (with_reducible repeat (first | refine zH ?_ _ | refine zJ ?_ | refine zG ?_ _)); exact BK102.out) hb); have n5_ := zA.mk (zP (g := gb134) (o := .cells #[.int .i64 ((zI (zE l0_0 x8_1) x9_2).f0), .int .i64 ((zI (zE l0_0 x8_1) x9_2).f1)] 75 (0, 0)) (by (with_reducible repeat (first | refine zH ?_ _ | refine zJ ?_ | refine zG ?_ _)); exact BK134.out) hb); have n6_ := zA.mk (zM (by repeat (first | (with_reducible first | exact HB.out | apply zC | apply zB | apply zD | refine zF ?_ GE101.out | refine zF ?_ GE102.out | refine zF ?_ GE134.out) | exact HB.out)) hb); clear HO_5; clear HO_6; clear HO_7; clear BK101; clear BK102; clear BK134; clear HB; have HO_5 := n0_; have HO_6 := n1_; have HO_7 := n2_; have BK101 := n3_; have BK102 := n4_; have BK134 := n5_; have HB := n6_; clear n0_ n1_ n2_ n3_ n4_ n5_ n6_; (try clear hb); (try clear hb2); (try clear hk); (try clear hi)))
           (try simp only [Act.put, yay, yby, ycy])
           go_cut [99] (fun v99 wc => ∃ (kq : Nat) (x99_49 : Bool), v99 = .bool x99_49 ∧ zA (zQ.j4 kq t103 x5_3 x6_4 t136 x8_1 x9_2 x12_4 t139 t140 x99_49 l0_0 ((zI (zE l0_0 x8_1) x9_2).f0) ((zI (zE l0_0 x8_1) x9_2).f1) = some (r1, r2, r3, r4)) ∧ zA (kq ≤ k4) ∧ zA (Kd.R (Kd.int .i64) 2 wc w.heap.size (fun k_ => some k_ ≠ (v108 : Value).ownBlock ∧ some k_ ≠ ((.slice Ao38 t136.length co38) : Value).ownBlock) v105 x5_3) ∧ zA (Kd.R (Kd.int .i64) 2 wc w.heap.size (fun k_ => some k_ ≠ (v105 : Value).ownBlock ∧ some k_ ≠ ((.slice Ao38 t136.length co38) : Value).ownBlock) v108 x6_4) ∧ zA (Kd.R (Kd.int .i64) 2 wc w.heap.size (fun k_ => some k_ ≠ (v105 : Value).ownBlock ∧ some k_ ≠ (v108 : Value).ownBlock) (.slice Ao38 t136.length co38) t136) ∧ zA (wc.heap[gb101]? = some (.cells #[(.slice (some ad132) l0_0.length c0_0)] 35 (0, 0))) ∧ zA (wc.heap[gb102]? = some (.cells #[(.slice none 0 0), (.slice none 0 0), (.slice none 0 0)] 88 (0, 0))) ∧ zA (wc.heap[gb134]? = some (.cells #[.int .i64 ((zI (zE l0_0 x8_1) x9_2).f0), .int .i64 ((zI (zE l0_0 x8_1) x9_2).f1)] 75 (0, 0))) ∧ zA (Below w.heap.size w wc))
           case first =>
            have H := HC50.out
            clear HC50
            by_cases c52 : t139 = x9_2
            rotate_left
            next =>
             rw [if_neg c52] at H
             have c52b0 : (t139 == x9_2) = false := beq_eq_false_iff_ne.mpr c52
             have c52b1 : (t139 != x9_2) = true := bne_iff_ne.mpr c52
             (first | rw [c52b0] | (simp only [zZ, zb]; rw [c52b0]) | skip)
             have H' := zA.mk H
             clear H
             go_wp2
             go_meet
             case rel => exact ⟨_, ((t140 != x9_2)), (by first | rfl | (simp; done) | (simp [*]; done)), H', ⟨by have := HK1.out; have := HK2.out; have := HK3.out; have := HK4.out; first | omega | exact yqy _⟩, ⟨by (try simp only [hl7_3]); (with_reducible repeat (first | apply Kd.zR | apply Kd.zS | apply Kd.zW)); exact HO_5.out⟩, ⟨by (try simp only [hl7_3]); (with_reducible repeat (first | apply Kd.zR | apply Kd.zS | apply Kd.zW)); exact HO_6.out⟩, ⟨by (try simp only [hl7_3]); (with_reducible repeat (first | apply Kd.zR | apply Kd.zS | apply Kd.zW)); exact HO_7.out⟩, ⟨by (try simp only [hl7_3]); (with_reducible repeat (first | refine zH ?_ _ | refine zJ ?_ | refine zG ?_ _)); exact BK101.out⟩, ⟨by (try simp only [hl7_3]); (with_reducible repeat (first | refine zH ?_ _ | refine zJ ?_ | refine zG ?_ _)); exact BK102.out⟩, ⟨by (try simp only [hl7_3]); (with_reducible repeat (first | refine zH ?_ _ | refine zJ ?_ | refine zG ?_ _)); exact BK134.out⟩, ⟨by repeat (first | (with_reducible first | exact HB.out | apply zC | apply zB | apply zD | refine zF ?_ GE101.out | refine zF ?_ GE102.out | refine zF ?_ GE134.out) | exact HB.out)⟩⟩
            rw [if_pos c52] at H
            have c52b0 : (t139 == x9_2) = true := beq_iff_eq.mpr c52
            have c52b1 : (t139 != x9_2) = false := bne_eq_false_iff_eq.mpr c52
            clear c52
            (first | rw [c52b0] | (simp only [zZ, zb]; rw [c52b0]) | skip)
            have H' := zA.mk H
            clear H
            go_wp2
            go_meet
            case rel => exact ⟨_, (false), (by first | rfl | (simp; done) | (simp [*]; done)), H', ⟨by have := HK1.out; have := HK2.out; have := HK3.out; have := HK4.out; first | omega | exact yqy _⟩, ⟨by (try simp only [hl7_3]); (with_reducible repeat (first | apply Kd.zR | apply Kd.zS | apply Kd.zW)); exact HO_5.out⟩, ⟨by (try simp only [hl7_3]); (with_reducible repeat (first | apply Kd.zR | apply Kd.zS | apply Kd.zW)); exact HO_6.out⟩, ⟨by (try simp only [hl7_3]); (with_reducible repeat (first | apply Kd.zR | apply Kd.zS | apply Kd.zW)); exact HO_7.out⟩, ⟨by (try simp only [hl7_3]); (with_reducible repeat (first | refine zH ?_ _ | refine zJ ?_ | refine zG ?_ _)); exact BK101.out⟩, ⟨by (try simp only [hl7_3]); (with_reducible repeat (first | refine zH ?_ _ | refine zJ ?_ | refine zG ?_ _)); exact BK102.out⟩, ⟨by (try simp only [hl7_3]); (with_reducible repeat (first | refine zH ?_ _ | refine zJ ?_ | refine zG ?_ _)); exact BK134.out⟩, ⟨by repeat (first | (with_reducible first | exact HB.out | apply zC | apply zB | apply zD | refine zF ?_ GE101.out | refine zF ?_ GE102.out | refine zF ?_ GE134.out) | exact HB.out)⟩⟩
           case rest =>
            clear HC50
            try clear c1
            try clear p1
            try clear q1
            try clear hx1
            try clear c2
            try clear p2
            try clear c3
            try clear c4
            try clear c5
            try clear c6
            try clear p6
            try clear c8
            try clear c9
            try clear c11
            try clear c13
            try clear p13
            try clear q13
            try clear hx13
            try clear c14
            try clear c14b0
            try clear c15
            try clear c15b0
            try clear c16
            try clear c16b0
            try clear c17
            try clear c17b0
            try clear c18
            try clear c18b0
            try clear c19
            try clear c19b0
            try clear c20
            try clear c20b0
            try clear c21
            try clear c24
            try clear c25
            try clear c29
            try clear c32
            try clear c33
            try clear c40
            try clear c40b0
            try clear c41
            try clear c41b0
            try clear c41b1
            try clear c48
            try clear c48b0
            try clear c52
            try clear c52b0
            try clear c52b1
            try clear hcz22_0
            try clear hcz26_0
            try clear hcz26_1
            try clear hcz30_0
            try clear hcz34_0
            try clear hcz34_1
            try clear hcz9_0
            try clear hfz22_0
            try clear hfz26_0
            try clear hfz26_1
            try clear hfz30_0
            try clear hfz34_0
            try clear hfz34_1
            try clear hfz9_0
            try clear hx132_0
            try clear hx133_0
            try clear hx133_1
            try clear p1
            try clear p13
            try clear p132
            try clear p133
            try clear p2
            try clear p6
            try clear q1
            try clear q13
            try clear q132
            try clear q133
            obtain ⟨kq, x99_49, rfl, HA, HJ49, HO_5, HO_6, HO_7, BK101, BK102, BK134, HB⟩ := hcut
            cases kq with
            | zero => exact absurd HA.out (by simp [zQ.j4])
            | succ kj49 =>
             have H := HA.out
             clear HA
             simp only [zQ.j4] at H
             by_cases c53 : x99_49 = true
             rotate_left
             next =>
              replace c53 := Bool.eq_false_iff.mpr c53
              subst c53
              have H1 : (zQ.l3 kj49 t103 x5_3 x6_4 t136 x8_1 x9_2 (wrap64 (x12_4 + 1)) l0_0 ((zI (zE l0_0 x8_1) x9_2).f0) ((zI (zE l0_0 x8_1) x9_2).f1)) = some (r1, r2, r3, r4) := by rw [if_neg (show ¬ (false = true) by decide)] at H; exact H
              clear H
              have H := H1
              clear H1
              have H' := zA.mk H
              clear H
              go_wp2
              go_roundg kj49
              case measure => have := HK1.out; have := HK2.out; have := HK3.out; have := HK4.out; have := HJ49.out; omega
              case rel => exact ⟨(x6_4), (wrap64 (x12_4 + 1)), (by first | rfl | (simp; done) | (simp [*]; done)), H', ⟨by have := HK1.out; have := HK2.out; have := HK3.out; have := HK4.out; have := HJ49.out; omega⟩, ⟨by (try simp only [hl7_3]); (with_reducible repeat (first | apply Kd.zR | apply Kd.zS | apply Kd.zW)); exact HO_5.out⟩, ⟨by (try simp only [hl7_3]); (with_reducible repeat (first | apply Kd.zR | apply Kd.zS | apply Kd.zW)); exact HO_6.out⟩, ⟨by (try simp only [hl7_3]); (with_reducible repeat (first | apply Kd.zR | apply Kd.zS | apply Kd.zW)); exact HO_7.out⟩, ⟨by (try simp only [hl7_3]); (with_reducible repeat (first | refine zH ?_ _ | refine zJ ?_ | refine zG ?_ _)); exact BK101.out⟩, ⟨by (try simp only [hl7_3]); (with_reducible repeat (first | refine zH ?_ _ | refine zJ ?_ | refine zG ?_ _)); exact BK102.out⟩, ⟨by (try simp only [hl7_3]); (with_reducible repeat (first | refine zH ?_ _ | refine zJ ?_ | refine zG ?_ _)); exact BK134.out⟩, ⟨by repeat (first | (with_reducible first | exact HB.out | apply zC | apply zB | apply zD | refine zF ?_ GE101.out | refine zF ?_ GE102.out | refine zF ?_ GE134.out) | exact HB.out)⟩⟩
             subst c53
             have H1 : ((qh.f kj49 ((zI (zE l0_0 x8_1) x9_2).f1) t139).bind fun t141 => ((qh.f kj49 ((zI (zE l0_0 x8_1) x9_2).f1) t140).bind fun t142 => ((zz.f kj49 t141 t142).bind fun t143 => ((qv.f x6_4 (wrap64 ((wrap64 (6 * x8_1)) + x12_4)) (wrap64 ((wrap64 (6 * ((zI (zE l0_0 x8_1) x9_2).f0))) + t143))).bind fun t144 => (zQ.l3 kj49 t103 x5_3 t144 t136 x8_1 x9_2 (wrap64 (x12_4 + 1)) l0_0 ((zI (zE l0_0 x8_1) x9_2).f0) ((zI (zE l0_0 x8_1) x9_2).f1)))))) = some (r1, r2, r3, r4) := by rw [if_pos rfl] at H; exact H
             clear H
             have H := H1
             clear H1
             replace H := ydy.mp H
             obtain ⟨t141, A540, H⟩ := H
             replace H : ((qh.f kj49 ((zI (zE l0_0 x8_1) x9_2).f1) t140).bind fun t142 => ((zz.f kj49 t141 t142).bind fun t143 => ((qv.f x6_4 (wrap64 ((wrap64 (6 * x8_1)) + x12_4)) (wrap64 ((wrap64 (6 * ((zI (zE l0_0 x8_1) x9_2).f0))) + t143))).bind fun t144 => (zQ.l3 kj49 t103 x5_3 t144 t136 x8_1 x9_2 (wrap64 (x12_4 + 1)) l0_0 ((zI (zE l0_0 x8_1) x9_2).f0) ((zI (zE l0_0 x8_1) x9_2).f1))))) = some (r1, r2, r3, r4) := H
             have A54 := zA.mk A540
             clear A540
             replace H := ydy.mp H
             obtain ⟨t142, A550, H⟩ := H
             replace H : ((zz.f kj49 t141 t142).bind fun t143 => ((qv.f x6_4 (wrap64 ((wrap64 (6 * x8_1)) + x12_4)) (wrap64 ((wrap64 (6 * ((zI (zE l0_0 x8_1) x9_2).f0))) + t143))).bind fun t144 => (zQ.l3 kj49 t103 x5_3 t144 t136 x8_1 x9_2 (wrap64 (x12_4 + 1)) l0_0 ((zI (zE l0_0 x8_1) x9_2).f0) ((zI (zE l0_0 x8_1) x9_2).f1)))) = some (r1, r2, r3, r4) := H
             have A55 := zA.mk A550
             clear A550
             replace H := ydy.mp H
             obtain ⟨t143, A560, H⟩ := H
             replace H : ((qv.f x6_4 (wrap64 ((wrap64 (6 * x8_1)) + x12_4)) (wrap64 ((wrap64 (6 * ((zI (zE l0_0 x8_1) x9_2).f0))) + t143))).bind fun t144 => (zQ.l3 kj49 t103 x5_3 t144 t136 x8_1 x9_2 (wrap64 (x12_4 + 1)) l0_0 ((zI (zE l0_0 x8_1) x9_2).f0) ((zI (zE l0_0 x8_1) x9_2).f1))) = some (r1, r2, r3, r4) := H
             have A56 := zA.mk A560
             clear A560
             replace H := ydy.mp H
             obtain ⟨t144, A570, H⟩ := H
             replace H : (zQ.l3 kj49 t103 x5_3 t144 t136 x8_1 x9_2 (wrap64 (x12_4 + 1)) l0_0 ((zI (zE l0_0 x8_1) x9_2).f0) ((zI (zE l0_0 x8_1) x9_2).f1)) = some (r1, r2, r3, r4) := H
             have A57 := zA.mk A570
             clear A570
             have H' := zA.mk H
             clear H
             try go_wp2
             have n0_ := zA.mk (Kd.zW HO_5.out)
             have n1_ := zA.mk (Kd.zW HO_6.out)
             have n2_ := zA.mk (Kd.zW HO_7.out)
             have n3_ := zA.mk (zJ BK101.out)
             have n4_ := zA.mk (zJ BK102.out)
             have n5_ := zA.mk (zJ BK134.out)
             have n6_ := zA.mk (zD HB.out)
             clear HO_5
             clear HO_6
             clear HO_7
             clear BK101
             clear BK102
             clear BK134
             clear HB
             have HO_5 := n0_
             have HO_6 := n1_
             have HO_7 := n2_
             have BK101 := n3_
             have BK102 := n4_
             have BK134 := n5_
             have HB := n6_
             clear n0_ n1_ n2_ n3_ n4_ n5_ n6_
             refine Zm (n := 19) (S := fun w' => w'.cell? ⟨gb134, 0, none⟩ = some (.int .i64 ((zI (zE l0_0 x8_1) x9_2).f0)) ∧ w'.cell? ⟨gb134, 1, none⟩ = some (.int .i64 ((zI (zE l0_0 x8_1) x9_2).f1))) (ds := []) #[false, false, false, false, false, false, false, false, false, false, false, false, false, false, false, false, false, false, false] (by kernel_rfl) rfl rfl ⟨(zK BK134.out 0).trans rfl, (zK BK134.out 1).trans rfl⟩ (fun hHeld => ?_); refine Zd zQ.tab24 zQ.bits24 (fun HT_ HW_ => ?_)
             generalize wc.drew = w58 at HO_5 HO_6 HO_7 BK101 BK102 BK134 HB hHeld ⊢
             refine zj (i := 0) (N := some 100) (v := ?_) (a' := ?_) #[true, false, false, false, false, false, false, false, false, false, false, false, false, false, false, false, false, false, false] rfl rfl (zi HT_.out (by kernel_rfl)) (fun _ _ _ h => h) (Or.inl ⟨by rfl, ?_⟩) ?_ ?_
             rotate_left
             next =>
              intro w'
              go_simp
              with_reducible rfl
             rotate_left
             next =>
              simp only [Act.put, yay, yby, ycy, zZ, zb]
              rfl
             refine zj (i := 1) (N := some 101) (v := ?_) (a' := ?_) #[true, true, false, false, false, false, false, false, false, false, false, false, false, false, false, false, false, false, false] rfl rfl (zi HT_.out (by kernel_rfl)) (fun _ _ _ h => h) (Or.inl ⟨by rfl, ?_⟩) ?_ ?_
             rotate_left
             next =>
              intro w'
              go_simp
              with_reducible rfl
             rotate_left
             next =>
              simp only [Act.put, yay, yby, ycy, zZ, zb]
              rfl
             refine zj (i := 2) (N := some 102) (v := ?_) (a' := ?_) #[true, true, true, false, false, false, false, false, false, false, false, false, false, false, false, false, false, false, false] rfl rfl (zi HT_.out (by kernel_rfl)) (fun _ _ _ h => h) (Or.inl ⟨by rfl, ?_⟩) ?_ ?_
             rotate_left
             next =>
              intro w'
              go_simp
              with_reducible rfl
             rotate_left
             next =>
              simp only [Act.put, yay, yby, ycy, zZ, zb]
              rfl
             refine zj (i := 3) (N := some 103) (v := ?_) (a' := ?_) #[true, true, true, true, false, false, false, false, false, false, false, false, false, false, false, false, false, false, false] rfl rfl (zi HT_.out (by kernel_rfl)) (fun _ _ _ h => h) (Or.inl ⟨by rfl, ?_⟩) ?_ ?_
             rotate_left
             next =>
              intro w'
              go_simp
              with_reducible rfl
             rotate_left
             next =>
              simp only [Act.put, yay, yby, ycy, zZ, zb]
              rfl
             refine zj (i := 4) (N := some 104) (v := ?_) (a' := ?_) #[true, true, true, true, true, false, false, false, false, false, false, false, false, false, false, false, false, false, false] rfl rfl (zi HT_.out (by kernel_rfl)) (fun _ _ _ h => h) (Or.inl ⟨by rfl, ?_⟩) ?_ ?_
             rotate_left
             next =>
              intro w'
              go_simp
              with_reducible rfl
             rotate_left
             next =>
              simp only [Act.put, yay, yby, ycy, zZ, zb]
              rfl
             refine zj (i := 5) (N := some 105) (v := ?_) (a' := ?_) #[true, true, true, true, true, true, false, false, false, false, false, false, false, false, false, false, false, false, false] rfl rfl (zi HT_.out (by kernel_rfl)) (fun _ _ _ h => h) (Or.inl ⟨by rfl, ?_⟩) ?_ ?_
             rotate_left
             next =>
              intro w'
              go_simp
              with_reducible rfl
             rotate_left
             next =>
              simp only [Act.put, yay, yby, ycy, zZ, zb]
              rfl
             refine zj (i := 8) (N := some 108) (v := ?_) (a' := ?_) #[true, true, true, true, true, true, false, false, true, false, false, false, false, false, false, false, false, false, false] rfl rfl (zi HT_.out (by kernel_rfl)) (fun _ _ _ h => h) (Or.inl ⟨by rfl, ?_⟩) ?_ ?_
             rotate_left
             next =>
              intro w'
              go_simp
              with_reducible rfl
             rotate_left
             next =>
              simp only [Act.put, yay, yby, ycy, zZ, zb]
              rfl
             refine zj (i := 10) (N := some 110) (v := ?_) (a' := ?_) #[true, true, true, true, true, true, false, false, true, false, true, false, false, false, false, false, false, false, false] rfl rfl (zi HT_.out (by kernel_rfl)) (fun _ _ _ h => h) (Or.inl ⟨by rfl, ?_⟩) ?_ ?_
             rotate_left
             next =>
              intro w'
              go_simp
              with_reducible rfl
             rotate_left
             next =>
              simp only [Act.put, yay, yby, ycy, zZ, zb]
              rfl
             refine zj (i := 12) (N := some 112) (v := ?_) (a' := ?_) #[true, true, true, true, true, true, false, false, true, false, true, false, true, false, false, false, false, false, false] rfl rfl (zi HT_.out (by kernel_rfl)) (fun _ _ _ h => h) (Or.inl ⟨by rfl, ?_⟩) ?_ ?_
             rotate_left
             next =>
              intro w'
              go_simp
              with_reducible rfl
             rotate_left
             next =>
              simp only [Act.put, yay, yby, ycy, zZ, zb]
              rfl
             refine zj (i := 14) (N := some 114) (v := ?_) (a' := ?_) #[true, true, true, true, true, true, false, false, true, false, true, false, true, false, true, false, false, false, false] rfl rfl (zi HT_.out (by kernel_rfl)) (fun _ _ _ h => h) (Or.inl ⟨by rfl, ?_⟩) ?_ ?_
             rotate_left
             next =>
              intro w'
              go_simp
              with_reducible rfl
             rotate_left
             next =>
              simp only [Act.put, yay, yby, ycy, zZ, zb]
              rfl
             refine qz (i := 6) (N := some 106) (v := ?_) (a' := ?_) #[true, true, true, true, true, true, true, false, true, false, true, false, true, false, true, false, false, false, false] rfl rfl (qb HT_.out HW_.out (by kernel_rfl)) (fun _ _ _ h => h) (Or.inl ⟨by rfl, ?_⟩) hHeld ?_ ?_
             rotate_left
             next =>
              rintro w' ⟨s0, s1⟩
              go_simp
              with_reducible rfl
             rotate_left
             next =>
              simp only [Act.put, yay, yby, ycy, zZ, zb]
              rfl
             refine zj (i := 7) (N := some 107) (v := ?_) (a' := ?_) #[true, true, true, true, true, true, true, true, true, false, true, false, true, false, true, false, false, false, false] rfl rfl (zi HT_.out (by kernel_rfl)) (fun _ _ _ h => h) (Or.inl ⟨by rfl, ?_⟩) ?_ ?_
             rotate_left
             next =>
              intro w'
              go_simp
              with_reducible rfl
             rotate_left
             next =>
              simp only [Act.put, yay, yby, ycy, zZ, zb]
              rfl
             refine qz (i := 9) (N := some 109) (v := ?_) (a' := ?_) #[true, true, true, true, true, true, true, true, true, true, true, false, true, false, true, false, false, false, false] rfl rfl (qb HT_.out HW_.out (by kernel_rfl)) (fun _ _ _ h => h) (Or.inl ⟨by rfl, ?_⟩) hHeld ?_ ?_
             rotate_left
             next =>
              rintro w' ⟨s0, s1⟩
              go_simp
              with_reducible rfl
             rotate_left
             next =>
              simp only [Act.put, yay, yby, ycy, zZ, zb]
              rfl
             refine qz (i := 13) (N := some 113) (v := ?_) (a' := ?_) #[true, true, true, true, true, true, true, true, true, true, true, false, true, true, true, false, false, false, false] rfl rfl (qb HT_.out HW_.out (by kernel_rfl)) (fun _ _ _ h => h) (Or.inl ⟨by rfl, ?_⟩) hHeld ?_ ?_
             rotate_left
             next =>
              rintro w' ⟨s0, s1⟩
              go_simp
              with_reducible rfl
             rotate_left
             next =>
              simp only [Act.put, yay, yby, ycy, zZ, zb]
              rfl
             refine Jj (i := 11) (N := some 111) #[true, true, true, true, true, true, true, true, true, true, true, true, true, true, true, false, false, false, false] rfl rfl (Zo HT_.out (by kernel_rfl)) (by decide) (fun K hK => ?_)
             refine QU Try.func82 (by kernel_rfl) rfl #[.int .i64 ((zI (zE l0_0 x8_1) x9_2).f1), .int .i64 t139] (by rfl) rfl rfl (by (try simp only [yiy, yjy, yky]); first | done | rfl | (simp only [yly, ymy]; rfl)) ?_
             with_reducible refine (qh.calls kj49 ((zI (zE l0_0 x8_1) x9_2).f1) t139 t141 _ A54.out).mono ?_
             rintro e w59 ⟨rfl, hb⟩
             refine ⟨_, rfl, ?_⟩
             have n0_ := zA.mk (Kd.qM (by (with_reducible repeat (first | apply Kd.zR | apply Kd.zS | apply Kd.zW)); exact HO_5.out) hb)
             have n1_ := zA.mk (Kd.qM (by (with_reducible repeat (first | apply Kd.zR | apply Kd.zS | apply Kd.zW)); exact HO_6.out) hb)
             have n2_ := zA.mk (Kd.qM (by (with_reducible repeat (first | apply Kd.zR | apply Kd.zS | apply Kd.zW)); exact HO_7.out) hb)
             have n3_ := zA.mk (zP (g := gb101) (o := .cells #[.slice (some ad132) l0_0.length c0_0] 35 (0, 0)) (by (with_reducible repeat (first | refine zH ?_ _ | refine zJ ?_ | refine zG ?_ _)); exact BK101.out) hb)
             have n4_ := zA.mk (zP (g := gb102) (o := .cells #[.slice none 0 0, .slice none 0 0, .slice none 0 0] 88 (0, 0)) (by (with_reducible repeat (first | refine zH ?_ _ | refine zJ ?_ | refine zG ?_ _)); exact BK102.out) hb)
             have n5_ := zA.mk (zP (g := gb134) (o := .cells #[.int .i64 ((zI (zE l0_0 x8_1) x9_2).f0), .int .i64 ((zI (zE l0_0 x8_1) x9_2).f1)] 75 (0, 0)) (by (with_reducible repeat (first | refine zH ?_ _ | refine zJ ?_ | refine zG ?_ _)); exact BK134.out) hb)
             have n6_ := zA.mk (zM (by repeat (first | (with_reducible first | exact HB.out | apply zC | apply zB | apply zD | refine zF ?_ GE101.out | refine zF ?_ GE102.out | refine zF ?_ GE134.out) | exact HB.out)) hb)
             clear HO_5
             clear HO_6
             clear HO_7
             clear BK101
             clear BK102
             clear BK134
             clear HB
             have HO_5 := n0_
             have HO_6 := n1_
             have HO_7 := n2_
             have BK101 := n3_
             have BK102 := n4_
             have BK134 := n5_
             have HB := n6_
             clear n0_ n1_ n2_ n3_ n4_ n5_ n6_
             (try clear hb)
             (try clear hb2)
             (try clear hk)
             (try clear hi)
             refine hK.out _ _ ⟨(zK BK134.out 0).trans rfl, (zK BK134.out 1).trans rfl⟩ (fun hHeld => ?_)
             clear hK K
             refine Zx (a' := ?_) ?_ ?_
             rotate_left
             next =>
              show Act.put _ (some 111) _ = _
              simp only [Act.put, yay, yby, ycy, zZ, zb]
              rfl
             refine Jj (i := 15) (N := some 115) #[true, true, true, true, true, true, true, true, true, true, true, true, true, true, true, true, false, false, false] rfl rfl (Zo HT_.out (by kernel_rfl)) (by decide) (fun K hK => ?_)
             refine QU Try.func82 (by kernel_rfl) rfl #[.int .i64 ((zI (zE l0_0 x8_1) x9_2).f1), .int .i64 t140] (by rfl) rfl rfl (by (try simp only [yiy, yjy, yky]); first | done | rfl | (simp only [yly, ymy]; rfl)) ?_
             with_reducible refine (qh.calls kj49 ((zI (zE l0_0 x8_1) x9_2).f1) t140 t142 _ A55.out).mono ?_
             rintro e w60 ⟨rfl, hb⟩
             refine ⟨_, rfl, ?_⟩
             have n0_ := zA.mk (Kd.qM (by (with_reducible repeat (first | apply Kd.zR | apply Kd.zS | apply Kd.zW)); exact HO_5.out) hb)
             have n1_ := zA.mk (Kd.qM (by (with_reducible repeat (first | apply Kd.zR | apply Kd.zS | apply Kd.zW)); exact HO_6.out) hb)
             have n2_ := zA.mk (Kd.qM (by (with_reducible repeat (first | apply Kd.zR | apply Kd.zS | apply Kd.zW)); exact HO_7.out) hb)
             have n3_ := zA.mk (zP (g := gb101) (o := .cells #[.slice (some ad132) l0_0.length c0_0] 35 (0, 0)) (by (with_reducible repeat (first | refine zH ?_ _ | refine zJ ?_ | refine zG ?_ _)); exact BK101.out) hb)
             have n4_ := zA.mk (zP (g := gb102) (o := .cells #[.slice none 0 0, .slice none 0 0, .slice none 0 0] 88 (0, 0)) (by (with_reducible repeat (first | refine zH ?_ _ | refine zJ ?_ | refine zG ?_ _)); exact BK102.out) hb)
             have n5_ := zA.mk (zP (g := gb134) (o := .cells #[.int .i64 ((zI (zE l0_0 x8_1) x9_2).f0), .int .i64 ((zI (zE l0_0 x8_1) x9_2).f1)] 75 (0, 0)) (by (with_reducible repeat (first | refine zH ?_ _ | refine zJ ?_ | refine zG ?_ _)); exact BK134.out) hb)
             have n6_ := zA.mk (zM (by repeat (first | (with_reducible first | exact HB.out | apply zC | apply zB | apply zD | refine zF ?_ GE101.out | refine zF ?_ GE102.out | refine zF ?_ GE134.out) | exact HB.out)) hb)
             clear HO_5
             clear HO_6
             clear HO_7
             clear BK101
             clear BK102
             clear BK134
             clear HB
             have HO_5 := n0_
             have HO_6 := n1_
             have HO_7 := n2_
             have BK101 := n3_
             have BK102 := n4_
             have BK134 := n5_
             have HB := n6_
             clear n0_ n1_ n2_ n3_ n4_ n5_ n6_
             (try clear hb)
             (try clear hb2)
             (try clear hk)
             (try clear hi)
             refine hK.out _ _ ⟨(zK BK134.out 0).trans rfl, (zK BK134.out 1).trans rfl⟩ (fun hHeld => ?_)
             clear hK K
             refine Zx (a' := ?_) ?_ ?_
             rotate_left
             next =>
              show Act.put _ (some 115) _ = _
              simp only [Act.put, yay, yby, ycy, zZ, zb]
              rfl
             refine Jj (i := 16) (N := some 116) #[true, true, true, true, true, true, true, true, true, true, true, true, true, true, true, true, true, false, false] rfl rfl (Zo HT_.out (by kernel_rfl)) (by decide) (fun K hK => ?_)
             refine QU Try.func116 (by kernel_rfl) rfl #[.int .i64 t141, .int .i64 t142] (by rfl) rfl rfl (by (try simp only [yiy, yjy, yky]); first | done | rfl | (simp only [yly, ymy]; rfl)) ?_
             with_reducible refine (zz.calls kj49 t141 t142 t143 _ A56.out).mono ?_
             rintro e w61 ⟨rfl, hb⟩
             refine ⟨_, rfl, ?_⟩
             have n0_ := zA.mk (Kd.qM (by (with_reducible repeat (first | apply Kd.zR | apply Kd.zS | apply Kd.zW)); exact HO_5.out) hb)
             have n1_ := zA.mk (Kd.qM (by (with_reducible repeat (first | apply Kd.zR | apply Kd.zS | apply Kd.zW)); exact HO_6.out) hb)
             have n2_ := zA.mk (Kd.qM (by (with_reducible repeat (first | apply Kd.zR | apply Kd.zS | apply Kd.zW)); exact HO_7.out) hb)
             have n3_ := zA.mk (zP (g := gb101) (o := .cells #[.slice (some ad132) l0_0.length c0_0] 35 (0, 0)) (by (with_reducible repeat (first | refine zH ?_ _ | refine zJ ?_ | refine zG ?_ _)); exact BK101.out) hb)
             have n4_ := zA.mk (zP (g := gb102) (o := .cells #[.slice none 0 0, .slice none 0 0, .slice none 0 0] 88 (0, 0)) (by (with_reducible repeat (first | refine zH ?_ _ | refine zJ ?_ | refine zG ?_ _)); exact BK102.out) hb)
             have n5_ := zA.mk (zP (g := gb134) (o := .cells #[.int .i64 ((zI (zE l0_0 x8_1) x9_2).f0), .int .i64 ((zI (zE l0_0 x8_1) x9_2).f1)] 75 (0, 0)) (by (with_reducible repeat (first | refine zH ?_ _ | refine zJ ?_ | refine zG ?_ _)); exact BK134.out) hb)
             have n6_ := zA.mk (zM (by repeat (first | (with_reducible first | exact HB.out | apply zC | apply zB | apply zD | refine zF ?_ GE101.out | refine zF ?_ GE102.out | refine zF ?_ GE134.out) | exact HB.out)) hb)
             clear HO_5
             clear HO_6
             clear HO_7
             clear BK101
             clear BK102
             clear BK134
             clear HB
             have HO_5 := n0_
             have HO_6 := n1_
             have HO_7 := n2_
             have BK101 := n3_
             have BK102 := n4_
             have BK134 := n5_
             have HB := n6_
             clear n0_ n1_ n2_ n3_ n4_ n5_ n6_
             (try clear hb)
             (try clear hb2)
             (try clear hk)
             (try clear hi)
             obtain ⟨Ao62, co62, eo62⟩ := Kd.ZH HO_6.out
             (first | subst eo62 | (injection eo62 with f1_ f2_ f3_; have f4_ := f1_.symm; have f5_ := f3_.symm; clear f1_ f2_ f3_; subst f4_; subst f5_))
             refine hK.out _ _ ⟨(zK BK134.out 0).trans rfl, (zK BK134.out 1).trans rfl⟩ (fun hHeld => ?_)
             clear hK K
             refine Zx (a' := ?_) ?_ ?_
             rotate_left
             next =>
              show Act.put _ (some 116) _ = _
              simp only [Act.put, yay, yby, ycy, zZ, zb]
              rfl
             refine zj (i := 17) (N := some 117) (v := ?_) (a' := ?_) #[true, true, true, true, true, true, true, true, true, true, true, true, true, true, true, true, true, true, false] rfl rfl (zi HT_.out (by kernel_rfl)) (fun _ _ _ h => h) (Or.inl ⟨by rfl, ?_⟩) ?_ ?_
             rotate_left
             next =>
              intro w'
              go_simp
              with_reducible rfl
             rotate_left
             next =>
              simp only [Act.put, yay, yby, ycy, zZ, zb]
              rfl
             refine Jj (i := 18) (N := some 118) #[true, true, true, true, true, true, true, true, true, true, true, true, true, true, true, true, true, true, true] rfl rfl (Zo HT_.out (by kernel_rfl)) (by decide) (fun K hK => ?_)
             refine QU Try.func92 (by kernel_rfl) rfl #[.slice Ao62 x6_4.length co62, .int .i64 (wrap64 ((wrap64 (6 * x8_1)) + x12_4)), .int .i64 (wrap64 ((wrap64 (6 * ((zI (zE l0_0 x8_1) x9_2).f0))) + t143))] (by rfl) rfl rfl (by (try simp only [yiy, yjy, yky]); first | done | rfl | (simp only [yly, ymy]; rfl)) ?_
             with_reducible refine (qv.calls (fun k_ => some k_ = (.slice Ao62 x6_4.length co62 : Value).ownBlock) (.slice Ao62 x6_4.length co62) x6_4 (wrap64 ((wrap64 (6 * x8_1)) + x12_4)) (wrap64 ((wrap64 (6 * ((zI (zE l0_0 x8_1) x9_2).f0))) + t143)) t144 w _ ?side1 ?side2 A57.out).mono ?_
             (case side1 => repeat (first | (with_reducible first | exact HB.out | apply zC | apply zB | apply zD | refine zF ?_ GE101.out | refine zF ?_ GE102.out | refine zF ?_ GE134.out) | exact HB.out))
             (case side2 => exact Kd.Qu rfl HO_6.out)
             rintro e w63 ⟨rfl, hy0, hb, hkp⟩
             refine ⟨_, rfl, ?_⟩
             have n0_ := zA.mk (Kd.zv (ok' := fun k_ => some k_ ≠ (.slice Ao62 x6_4.length co62 : Value).ownBlock ∧ some k_ ≠ (.slice Ao38 t136.length co38 : Value).ownBlock) (Kd.zAU (HO_5.out) hkp (fun k_ hk_ hs_ => (hk_.1) hs_)) (fun k_ hk_ => ⟨hk_.1.1, hk_.1.2⟩))
             have n1_ := zA.mk (Kd.zEc rfl hy0 (fun k_ e_ => HO_6.out.1 k_ e_))
             have n2_ := zA.mk (Kd.zv (ok' := fun k_ => some k_ ≠ (v105 : Value).ownBlock ∧ some k_ ≠ (.slice Ao62 x6_4.length co62 : Value).ownBlock) (Kd.zAU (HO_7.out) hkp (fun k_ hk_ hs_ => (hk_.2) hs_)) (fun k_ hk_ => ⟨hk_.1.1, hk_.1.2⟩))
             have n3_ := zA.mk (QP (by (with_reducible repeat (first | refine zH ?_ _ | refine zJ ?_ | refine zG ?_ _)); exact BK101.out) hkp (fun hs_ => (fun e_ => (Kd.zBF HO_6.out BK101.out (by decide)) e_) hs_))
             have n4_ := zA.mk (QP (by (with_reducible repeat (first | refine zH ?_ _ | refine zJ ?_ | refine zG ?_ _)); exact BK102.out) hkp (fun hs_ => (fun e_ => (Kd.zBF HO_6.out BK102.out (by decide)) e_) hs_))
             have n5_ := zA.mk (QP (by (with_reducible repeat (first | refine zH ?_ _ | refine zJ ?_ | refine zG ?_ _)); exact BK134.out) hkp (fun hs_ => (fun e_ => (Kd.zBF HO_6.out BK134.out (by decide)) e_) hs_))
             have n6_ := zA.mk (hb)
             clear HO_5
             clear HO_6
             clear HO_7
             clear BK101
             clear BK102
             clear BK134
             clear HB
             have HO_5 := n0_
             have HO_6 := n1_
             have HO_7 := n2_
             have BK101 := n3_
             have BK102 := n4_
             have BK134 := n5_
             have HB := n6_
             clear n0_ n1_ n2_ n3_ n4_ n5_ n6_
             (try clear hb)
             (try clear hkp)
             (try clear hy0)
             refine hK.out _ _ ⟨(zK BK134.out 0).trans rfl, (zK BK134.out 1).trans rfl⟩ (fun hHeld => ?_)
             clear hK K
             refine Zx (a' := ?_) ?_ ?_
             rotate_left
             next =>
              show Act.put _ (some 118) _ = _
              simp only [Act.put, yay, yby, ycy, zZ, zb]
              rfl
             refine Qi (QV HT_.out (by kernel_rfl)) ?_
             try go_wp2
             go_roundg kj49
             case measure => have := HK1.out; have := HK2.out; have := HK3.out; have := HK4.out; have := HJ49.out; omega
             case rel => exact ⟨(t144), (wrap64 (x12_4 + 1)), (by first | rfl | (simp; done) | (simp [*]; done)), H', ⟨by have := HK1.out; have := HK2.out; have := HK3.out; have := HK4.out; have := HJ49.out; omega⟩, ⟨by (try simp only [hl7_3]); (with_reducible repeat (first | apply Kd.zR | apply Kd.zS | apply Kd.zW)); exact HO_5.out⟩, ⟨by (try simp only [hl7_3]); (with_reducible repeat (first | apply Kd.zR | apply Kd.zS | apply Kd.zW)); exact HO_6.out⟩, ⟨by (try simp only [hl7_3]); (with_reducible repeat (first | apply Kd.zR | apply Kd.zS | apply Kd.zW)); exact HO_7.out⟩, ⟨by (try simp only [hl7_3]); (with_reducible repeat (first | refine zH ?_ _ | refine zJ ?_ | refine zG ?_ _)); exact BK101.out⟩, ⟨by (try simp only [hl7_3]); (with_reducible repeat (first | refine zH ?_ _ | refine zJ ?_ | refine zG ?_ _)); exact BK102.out⟩, ⟨by (try simp only [hl7_3]); (with_reducible repeat (first | refine zH ?_ _ | refine zJ ?_ | refine zG ?_ _)); exact BK134.out⟩, ⟨by repeat (first | (with_reducible first | exact HB.out | apply zC | apply zB | apply zD | refine zF ?_ GE101.out | refine zF ?_ GE102.out | refine zF ?_ GE134.out) | exact HB.out)⟩⟩
end Go.Proofs.Ytembbpalgfikiaa.P
