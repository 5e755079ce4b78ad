/- The statement FnExactOrientedFormSaid, proved: part 2 of 8 (texts of this session and of the kit's print, put together and cut to what is used by a program of it). -/
import Derived.Test.YtdgdnnjigigkcaaMFnExactOrientedForm1
import Derived.Test.YtdgdnnjigigkcaaProg
import Derived.Below
import Derived.Deep.Draws
import Derived.Deep.AppendLies
import Derived.Maps.AppendAt
import Derived.OwnWalk
import Derived.Laws.BytesArg
import Derived.Laws.MakeOwn
import Derived.Laws.OwnMore
import Derived.Deep.OwnRows
import Derived.Tactics
import Derived.Lib.ConvBytes
import Derived.Laws.Slices
import Derived.WalkKit
import Derived.KernelRfl
import Derived.RowKit3
import Derived.Deep.LoopGhost
import Derived.Deep.QuietTactic
import Derived.BigQuiet
import Derived.WideLaws
import Derived.Deep.DeepCutAuto
import Derived.Deep.CutBlock
import Derived.Deep.RegionHeld3
import Derived.Laws.Rows
import Derived.Lib.AppendStr
import Derived.ArgAppend
import Derived.Laws.IdiomCopy
import Derived.OrdersHeld
import Derived.Laws.BitsLemmas
import Derived.RowKit
import Derived.Shelf.SlicesG.Delete
import Derived.Ground.SlgnProg
import Derived.Sort.Row
import Derived.WalkSpells
import Derived.Lib.SliceRun
namespace Go.Proofs.Ytdgdnnjigigkcaa
abbrev yay := @List.setIfInBounds_toArray
abbrev yby := @List.set_cons_zero
abbrev ycy := @List.set_cons_succ
abbrev ydy := @Option.bind_eq_some_iff
abbrev yey := @Option.some.inj
abbrev yfy := @Option.bind_some
abbrev ygy := @decide_eq_true
abbrev yhy := @decide_eq_false
abbrev yiy := @List.map_toArray
abbrev yjy := @List.map_cons
abbrev yky := @List.map_nil
abbrev yly := @List.length_drop
abbrev ymy := @List.length_take
abbrev yny := @Int.toNat_natCast
abbrev yoy := @Go.World.block_lt_of_cell?
abbrev ypy := @Nat.le_refl
abbrev yqy := @Go.RowKit.Below.refl
end Go.Proofs.Ytdgdnnjigigkcaa
namespace Go.Proofs.Ytdgdnnjigigkcaa.P
open Go.RowKit Go.Proofs.YtdgdnnjigigkcaaW.PrintWords Go.Proofs.YtdgdnnjigigkcaaW.PrintLast Go.Proofs.YtdgdnnjigigkcaaW.PrintMore
attribute [local go_sem] Qm Qn JO JP QT QU Qo Qp
set_option linter.unusedVariables false
set_option linter.unusedSimpArgs false
def errW : Option Int → Value
  | none => .nilIface
  | some c => .iface 0 (.int .i64 c)
theorem zX : errW none = .nilIface := rfl
theorem zY (c : Int) : errW (some c) = .iface 0 (.int .i64 c) := rfl
theorem JC : (Try.prog.info? 2).map (fun i => (i.zero, i.size, i.bytes)) = some (some (.int .i64 0), 1, 8) := by kernel_rfl
theorem zDU : (Try.prog.info? 74).map (fun i => (i.zero, i.size, i.bytes)) = some (some (.agg #[(.int .i64 0), (.int .i64 0)]), 2, 16) := by kernel_rfl
theorem zDV : (Try.prog.info? 75).map (fun i => (i.zero, i.size, i.bytes)) = some (some (.slice none 0 0), 1, 24) := by kernel_rfl
structure qI where
  f0 : Int
  f1 : Int
def zCX : qI := ⟨(0 : Int), (0 : Int)⟩
def Zt : Kd qI := Kd.iso (Kd.pair (Kd.int .i64) (Kd.int .i64)) (fun x : qI => (x.f0, x.f1))
theorem zBR {w : World} {x : qI} {cs : List Value} (h : Zt.K w x cs) : cs = [.int .i64 x.f0, .int .i64 x.f1] := by
  obtain ⟨_, _, rfl, rfl, rfl⟩ := h
  exact rfl
theorem zCB (w : World) (x : qI)  : Zt.K w x [.int .i64 x.f0, .int .i64 x.f1] := ⟨[.int .i64 x.f0], [.int .i64 x.f1], rfl, rfl, rfl⟩
def Zl (xs : List qI) (i : Int) : qI := xs.getD i.toNat zCX
theorem zCu {w : World} {A : Option Addr} {n : Nat} {xs : List qI} (h : Kd.C Zt w A n xs) (i : Int) (h0 : 0 ≤ i) (h1 : i < n) : ∃ ad , A = some ad ∧ w.cell? (ad.add (i.toNat * 2)) = some (.int .i64 (Zl xs i).f0) ∧ w.cell? ⟨(ad.add (i.toNat * 2)).block, (ad.add (i.toNat * 2)).off + 1, none⟩ = some (.int .i64 (Zl xs i).f1) := by
  obtain ⟨ad, c, e, _, hK, hc0⟩ := Kd.zDu h zCX i h0 h1
  have hc : ∀ j u, c[j]? = some u → w.cell? (ad.add (i.toNat * 2 + j)) = some u := hc0
  obtain rfl := zBR hK
  exact ⟨ad, e, hc 0 _ rfl, by rw [← zBe _ _ 1 (by omega)]; exact hc 1 _ rfl⟩
def ZG (xs : List (List qI)) (i : Int) : (List qI) := xs.getD i.toNat ([] : List qI)
theorem Jd {w : World} {A : Option Addr} {n : Nat} {xs : List (List qI)} (h : Kd.C (Kd.slice 133 Zt) w A n xs) (i : Int) (h0 : 0 ≤ i) (h1 : i < n) : ∃ ad A0 c0, A = some ad ∧ w.cell? (ad.add i.toNat) = some (.slice A0 (ZG xs i).length c0) ∧ (ZG xs i).length ≤ c0 ∧ Zt.C w A0 (ZG xs i).length (ZG xs i) := by
  obtain ⟨ad, c, e, _, hK, hc0⟩ := Kd.zDu h ([] : List qI) i h0 h1
  have hc : ∀ j u, c[j]? = some u → w.cell? (ad.add (i.toNat * 1 + j)) = some u := hc0
  obtain ⟨A0, c0, rfl, l0, g0⟩ := hK
  exact ⟨ad, A0, c0, e, by have hq := hc 0 _ rfl; rwa [Nat.mul_one, Nat.add_zero] at hq, l0, g0⟩
structure zh where
  f0 : Int
  f1 : Int
def Qt : zh := ⟨(0 : Int), (0 : Int)⟩
def qJ : Kd zh := Kd.iso (Kd.pair (Kd.int .i64) (Kd.int .i64)) (fun x : zh => (x.f0, x.f1))
theorem zCv {w : World} {x : zh} {cs : List Value} (h : qJ.K w x cs) : cs = [.int .i64 x.f0, .int .i64 x.f1] := by
  obtain ⟨_, _, rfl, rfl, rfl⟩ := h
  exact rfl
theorem QC {w : World} {base : Nat} {ok : Nat → Prop} {x : zh} {cs : List Value} (h : qJ.M w base ok x cs) : cs = [.int .i64 x.f0, .int .i64 x.f1] := by
  obtain ⟨_, _, rfl, rfl, rfl⟩ := h
  exact rfl
theorem Zi (w : World) (base : Nat) (ok : Nat → Prop) (x : zh)  : qJ.M w base ok x [.int .i64 x.f0, .int .i64 x.f1] := ⟨[.int .i64 x.f0], [.int .i64 x.f1], rfl, rfl, rfl⟩
def zF (xs : List zh) (i : Int) : zh := xs.getD i.toNat Qt
theorem ZM {w : World} {A : Option Addr} {n : Nat} {xs : List zh} (h : Kd.C qJ w A n xs) (i : Int) (h0 : 0 ≤ i) (h1 : i < n) : ∃ ad , A = some ad ∧ w.cell? (ad.add (i.toNat * 2)) = some (.int .i64 (zF xs i).f0) ∧ w.cell? ⟨(ad.add (i.toNat * 2)).block, (ad.add (i.toNat * 2)).off + 1, none⟩ = some (.int .i64 (zF xs i).f1) := by
  obtain ⟨ad, c, e, _, hK, hc0⟩ := Kd.zDu h Qt i h0 h1
  have hc : ∀ j u, c[j]? = some u → w.cell? (ad.add (i.toNat * 2 + j)) = some u := hc0
  obtain rfl := zCv hK
  exact ⟨ad, e, hc 0 _ rfl, by rw [← zBe _ _ 1 (by omega)]; exact hc 1 _ rfl⟩
def zC (xs : List (List zh)) (i : Int) : (List zh) := xs.getD i.toNat ([] : List zh)
theorem qt {w : World} {A : Option Addr} {n : Nat} {xs : List (List zh)} (h : Kd.C (Kd.slice 74 qJ) w A n xs) (i : Int) (h0 : 0 ≤ i) (h1 : i < n) : ∃ ad A0 c0, A = some ad ∧ w.cell? (ad.add i.toNat) = some (.slice A0 (zC xs i).length c0) ∧ (zC xs i).length ≤ c0 ∧ qJ.C w A0 (zC xs i).length (zC xs i) := by
  obtain ⟨ad, c, e, _, hK, hc0⟩ := Kd.zDu h ([] : List zh) i h0 h1
  have hc : ∀ j u, c[j]? = some u → w.cell? (ad.add (i.toNat * 1 + j)) = some u := hc0
  obtain ⟨A0, c0, rfl, l0, g0⟩ := hK
  exact ⟨ad, A0, c0, e, by have hq := hc 0 _ rfl; rwa [Nat.mul_one, Nat.add_zero] at hq, l0, g0⟩
def qN.f (l0 : List (List (zh))) : Option (Int) := some (l0.length : Int)
set_option maxHeartbeats 8000000 in
set_option maxRecDepth 100000 in
theorem qN.calls (A0 : Option Addr) (c0 : Nat) (l0 : List (List (zh))) (r : Int) (w : World) (hr0 : Kd.C (Kd.slice 74 qJ) w A0 l0.length l0) (hc0 : l0.length ≤ c0) (h : qN.f l0 = some r) :
    Calls Try.prog 79 #[.slice A0 l0.length c0] w fun e w' => e = .returned (.int .i64 r) ∧ zz w w' := by
  have HR0 := zA.mk hr0
  have HC0 := zA.mk hc0
  clear hr0 hc0
  have H : (some (l0.length : Int)) = some r := h
  clear h
  obtain rfl := yey H
  go_enter Try.func79, Try.ntmps79
  go_wp2
  go_ret
  exact ⟨by first | rfl | (simp; done) | (simp [*]; done), by repeat (first | exact zz.refl _ | apply zz.step)⟩
theorem ZZ (a b c d : Int) (f : Int) (h0 : 0 ≤ f) (h1 : f ≤ 3) : ∀ w : World, (Instr.index 108 (.agg #[.int .i64 a, .int .i64 b, .int .i64 c, .int .i64 d]) (.int .i64 f)).run Try.prog w = .ok (.int .i64 (rd [a, b, c, d] f)) w := by
  intro w
  rcases (show f = 0 ∨ f = 1 ∨ f = 2 ∨ f = 3 by omega) with rfl | rfl | rfl | rfl
  · kernel_rfl
  · kernel_rfl
  · kernel_rfl
  · kernel_rfl
theorem ZU {w : World} {g : Nat} {T : TypeId} {a b c d : Int} (h : w.heap[g]? = some (.cells #[.int .i64 a, .int .i64 b, .int .i64 c, .int .i64 d] T (0, 0))) (f : Int) (h0 : 0 ≤ f) (h1 : f ≤ 3) : w.cell? ⟨g, f.toNat, none⟩ = some (.int .i64 (rd [a, b, c, d] f)) := by
  rw [zJ h]
  rcases (show f = 0 ∨ f = 1 ∨ f = 2 ∨ f = 3 by omega) with rfl | rfl | rfl | rfl <;> rfl
theorem JQ {w : World} {g : Nat} {T : TypeId} {a b c d : Int} (h : w.heap[g]? = some (.cells #[.int .i64 a, .int .i64 b, .int .i64 c, .int .i64 d] T (0, 0))) (f v : Int) (h0 : 0 ≤ f) (h1 : f ≤ 3) :
    (w.setCell ⟨g, f.toNat, none⟩ (.int .i64 v)).heap[g]? = some (.cells #[.int .i64 (rd ([a, b, c, d].set f.toNat v) 0), .int .i64 (rd ([a, b, c, d].set f.toNat v) 1), .int .i64 (rd ([a, b, c, d].set f.toNat v) 2), .int .i64 (rd ([a, b, c, d].set f.toNat v) 3)] T (0, 0)) := by
  rcases (show f = 0 ∨ f = 1 ∨ f = 2 ∨ f = 3 by omega) with rfl | rfl | rfl | rfl
  · exact qH h 0 _ rfl
  · exact qH h 1 _ rfl
  · exact qH h 2 _ rfl
  · exact qH h 3 _ rfl
theorem ZH {W : World} {n : Nat} (h : W.heap.size = n) (o : Obj) : (W.alloc o).heap[n]? = some o := h ▸ zBF W o
theorem zBS {l : List Int} (h : l.length = 4) : l = [rd l 0, rd l 1, rd l 2, rd l 3] := by
  match l, h with
  | [a, b, c, d], _ => rfl
theorem goesF_ {P : Program} {ops : Array Oper} {Q : Exit → Act → World → Prop} {oi : Oper} {N : Option Tmp} {a : Act} {w : World} {K : Act → World → Prop} {f : FuncId} {fn : Func} {t : Tmp} {as_ : Array Operand} {ts : Array TypeId} {caps : Array Value} (hf : P.funcs[f]? = some fn) (hname : (fn.name == "runtime.NumGoroutine") = false) (hb : fn.body.isSome = true) (args all : Array Value)
    (hw : Region.wanted oi (yielded ops a.tmps) = true) (hN : oi.dst = N) (hop : oi.op = .call { callee := .value (.tmp t), args := as_, argTypes := ts }) (ht : a.eval (.tmp t) = .func (.func f) #[] caps) (hargs : as_.map a.eval = args) (hall : args ++ caps = all)
    (h : Calls P f all w fun e w' => ∃ v, e = .returned v ∧ K (a.put N v) w') : if Region.wanted oi (yielded ops a.tmps) = true then Oper.wp P oi a w K Q else K (a.put N undef) w := by
  subst hall
  refine call_ f (args ++ caps) hw hN ?_ h
  have he := zC9 hf hname hb (args ++ caps) w
  unfold execOp
  simp [hop, resolve, Deferred.ofValue, invoke, ht, hargs, he]
theorem zE8 {α : Type} {w : World} {d : Kd α} {e base b : Nat} {ok : Nat → Prop} {v : Value} {xs : List α} (h : d.R e w base ok v xs) (hb : v.ownBlock = some b) : ∃ cap, v = .slice (some ⟨b, 0, none⟩) xs.length cap := by
  obtain ⟨inner, ho⟩ := Kd.zC7 h
  rcases ho.2 with ⟨rfl, _⟩ | ⟨g, cap, cur, rfl, _⟩
  · simp [Value.ownBlock] at hb
  · have : g = b := by simpa [Value.ownBlock] using hb
    subst this
    exact ⟨cap, rfl⟩
def vis (sg qu : List Int) (ok : Bool) (i k t : Int) : List Int × List Int × Bool :=
  if rd sg k = 0 then (sg.set k.toNat (wrap64 (rd sg (rd qu i) * t)), qu ++ [k], ok) else if rd sg k = wrap64 (-(wrap64 (rd sg (rd qu i) * t))) then (sg, qu, false) else (sg, qu, ok)
structure Sg0 (w0 w : World) (gs gq gi go bs cs : Nat) (i : Int) (sg qu : List Int) (ok : Bool) (vq vr : Value) : Prop where
  below : Below w0.heap.size w0 w
  bS : w.heap[gs]? = some (.cells #[.slice (some ⟨bs, 0, none⟩) sg.length cs] 41 (0, 0))
  bQ : w.heap[gq]? = some (.cells #[vq] 41 (0, 0))
  bI : w.heap[gi]? = some (.cells #[.int .i64 i] 3 (0, 0))
  bO : w.heap[go]? = some (.cells #[.bool ok] 4 (0, 0))
  rS : Kd.R (Kd.int .i64) 2 w w0.heap.size (fun k => k = bs) (.slice (some ⟨bs, 0, none⟩) sg.length cs) sg
  rQ : Kd.R (Kd.int .i64) 2 w w0.heap.size (fun k => k ≠ bs) vr qu
  nsq : gs ≠ gq
  own : w0.heap.size ≤ gq ∧ w0.heap.size ≤ go ∧ w0.heap.size ≤ gi
abbrev Sg (w0 w : World) (gs gq gi go bs cs : Nat) (i : Int) (sg qu : List Int) (ok : Bool) (vq : Value) : Prop := Sg0 w0 w gs gq gi go bs cs i sg qu ok vq vq
section
variable {w0 w w1 : World} {gs gq gi go bs cs : Nat} {i : Int} {sg qu qu' : List Int} {ok : Bool} {vq vr v1 : Value}
theorem Sg0.row (h : Sg0 w0 w gs gq gi go bs cs i sg qu ok vq vr) : ∃ cells, w.heap[bs]? = some (.cells cells 2 (0, 0)) := Kd.zAU h.rS bs (by simp [Value.ownBlock])
theorem Sg0.far (h : Sg0 w0 w gs gq gi go bs cs i sg qu ok vq vr) : gs ≠ bs ∧ gq ≠ bs ∧ gi ≠ bs ∧ go ≠ bs := by
  obtain ⟨cells, hc⟩ := h.row
  exact ⟨QZ h.bS hc (by decide), QZ h.bQ hc (by decide), QZ h.bI hc (by decide), QZ h.bO hc (by decide)⟩
theorem Sg0.drew (h : Sg0 w0 w gs gq gi go bs cs i sg qu ok vq vr) : Sg0 w0 w.drew gs gq gi go bs cs i sg qu ok vq vr :=
  ⟨zE h.below, h.bS, h.bQ, h.bI, h.bO, Kd.zf h.rS, Kd.zf h.rQ, h.nsq, h.own⟩
theorem Sg0.stays (h : Sg0 w0 w gs gq gi go bs cs i sg qu ok vq vr) (hb : Below w.heap.size w w1) : Sg0 w0 w1 gs gq gi go bs cs i sg qu ok vq vr :=
  ⟨zO h.below hb, zN h.bS hb, zN h.bQ hb, zN h.bI hb, zN h.bO hb, Kd.qe h.rS hb, Kd.qe h.rQ hb, h.nsq, h.own⟩
theorem Sg0.sign (h : Sg0 w0 w gs gq gi go bs cs i sg qu ok vq vr) (k v : Int) : Sg0 w0 (w.setCell ⟨bs, k.toNat, none⟩ (.int .i64 v)) gs gq gi go bs cs i (sg.set k.toNat v) qu ok vq vr := by
  obtain ⟨f1, f2, f3, f4⟩ := h.far
  refine ⟨zG h.below (Kd.QI h.rS bs (by simp [Value.ownBlock])), ?_, zv (p := ⟨bs, k.toNat, none⟩) h.bQ f2 _, zv (p := ⟨bs, k.toNat, none⟩) h.bI f3 _, zv (p := ⟨bs, k.toNat, none⟩) h.bO f4 _, ?_, Kd.QG (p := ⟨bs, k.toNat, none⟩) h.rQ (fun _ hk => hk) _, h.nsq, h.own⟩
  · rw [List.length_set]; exact zv (p := ⟨bs, k.toNat, none⟩) h.bS f1 _
  · rw [List.length_set]; exact (Kd.zAB h.rS k v).1
theorem Sg0.grown (h : Sg0 w0 w gs gq gi go bs cs i sg qu ok vq vr) (ho : Kd.R (Kd.int .i64) 2 w1 w0.heap.size (fun k => k ≠ bs) v1 qu') (hb : Below w0.heap.size w0 w1) (hg : w.grownBy w1 vr.ownBlock) : Sg0 w0 w1 gs gq gi go bs cs i sg qu' ok vq v1 := by
  have hty := Kd.zAU h.rQ
  have hne : ∀ (g : Nat) (T : TypeId) (c : Array Value), T ≠ 2 → w.heap[g]? = some (.cells c T (0, 0)) → some g ≠ vr.ownBlock := fun g T c hT hc e => by
    obtain ⟨cells, hc2⟩ := hty g e.symm
    exact QZ hc hc2 hT rfl
  exact ⟨hb, zu h.bS hg (hne _ _ _ (by decide) h.bS), zu h.bQ hg (hne _ _ _ (by decide) h.bQ), zu h.bI hg (hne _ _ _ (by decide) h.bI), zu h.bO hg (hne _ _ _ (by decide) h.bO), Kd.zEW h.rS hg (fun k hk e => h.rQ.1 k e.symm hk), ho, h.nsq, h.own⟩
theorem Sg0.queue (h : Sg0 w0 w gs gq gi go bs cs i sg qu ok vq vr) : Sg0 w0 (w.setCell ⟨gq, 0, none⟩ vr) gs gq gi go bs cs i sg qu ok vr vr := by
  obtain ⟨f1, f2, f3, f4⟩ := h.far
  refine ⟨zG h.below h.own.1, zv (p := ⟨gq, 0, none⟩) h.bS h.nsq _, qH h.bQ 0 _ rfl, zv (p := ⟨gq, 0, none⟩) h.bI (QZ h.bI h.bQ (by decide)) _, zv (p := ⟨gq, 0, none⟩) h.bO (QZ h.bO h.bQ (by decide)) _, Kd.QG (p := ⟨gq, 0, none⟩) h.rS (fun k hk => by rw [hk]; exact fun e => f2 e.symm) _, Kd.qR (Kd.R_set h.rQ h.bQ (by decide) 0 _) (fun _ hk => hk), h.nsq, h.own⟩
theorem Sg0.fails (h : Sg0 w0 w gs gq gi go bs cs i sg qu ok vq vr) (b : Bool) : Sg0 w0 (w.setCell ⟨go, 0, none⟩ (.bool b)) gs gq gi go bs cs i sg qu b vq vr := by
  obtain ⟨f1, f2, f3, f4⟩ := h.far
  refine ⟨zG h.below h.own.2.1, zv (p := ⟨go, 0, none⟩) h.bS (QZ h.bS h.bO (by decide)) _, zv (p := ⟨go, 0, none⟩) h.bQ (QZ h.bQ h.bO (by decide)) _, zv (p := ⟨go, 0, none⟩) h.bI (QZ h.bI h.bO (by decide)) _, qH h.bO 0 _ rfl, Kd.QG (p := ⟨go, 0, none⟩) h.rS (fun k hk => by rw [hk]; exact fun e => f4 e.symm) _, Kd.qR (Kd.R_set h.rQ h.bO (by decide) 0 _) (fun _ hk => hk), h.nsq, h.own⟩
end
def Oth (w w1 : World) : Prop := ∀ (g : Nat) (c : Array Value) (T : TypeId), T ≠ 41 → T ≠ 2 → T ≠ 4 → w.heap[g]? = some (.cells c T (0, 0)) → w1.heap[g]? = some (.cells c T (0, 0))
section
variable {w0 w w1 w2 : World} {gs gq gi go bs cs : Nat} {i : Int} {sg qu qu' : List Int} {ok : Bool} {vq vr v1 : Value}
theorem Oth.trans (h : Oth w w1) (k : Oth w1 w2) : Oth w w2 := fun g c T h1 h2 h3 h4 => k g c T h1 h2 h3 (h g c T h1 h2 h3 h4)
theorem Sg0.zCw (h : Sg0 w0 w gs gq gi go bs cs i sg qu ok vq vr) (k v : Int) : Oth w (w.setCell ⟨bs, k.toNat, none⟩ (.int .i64 v)) := fun g c T _ h2 _ h4 => by
  obtain ⟨cells, hc⟩ := h.row
  exact zv (p := ⟨bs, k.toNat, none⟩) h4 (QZ h4 hc h2) _
theorem Sg0.grownO (h : Sg0 w0 w gs gq gi go bs cs i sg qu ok vq vr) (hg : w.grownBy w1 vr.ownBlock) : Oth w w1 := fun g c T _ h2 _ h4 => zu h4 hg fun e => by
  obtain ⟨cells, hc⟩ := Kd.zAU h.rQ g e.symm
  exact QZ h4 hc h2 rfl
theorem Sg0.queueO (h : Sg0 w0 w gs gq gi go bs cs i sg qu ok vq vr) (v : Value) : Oth w (w.setCell ⟨gq, 0, none⟩ v) := fun g c T h1 _ _ h4 => zv (p := ⟨gq, 0, none⟩) h4 (QZ h4 h.bQ h1) _
theorem Sg0.failsO (h : Sg0 w0 w gs gq gi go bs cs i sg qu ok vq vr) (v : Value) : Oth w (w.setCell ⟨go, 0, none⟩ v) := fun g c T _ _ h3 h4 => zv (p := ⟨go, 0, none⟩) h4 (QZ h4 h.bO h3) _
end
set_option maxHeartbeats 8000000 in
set_option maxRecDepth 100000 in
theorem zBT.calls (gs gq gi go bs cs : Nat) (i k t : Int) (sg qu : List Int) (ok : Bool) (vq : Value) (w0 w : World) (hS : Sg w0 w gs gq gi go bs cs i sg qu ok vq)
    (hi0 : 0 ≤ i) (hi1 : i < qu.length) (hq0 : 0 ≤ rd qu i) (hq1 : rd qu i < sg.length) (hk0 : 0 ≤ k) (hk1 : k < sg.length) (hn : qu.length < 1000000) :
    Calls Try.prog 182 #[.int .i64 k, .int .i64 t, .pointer (some ⟨gs, 0, none⟩), .pointer (some ⟨gq, 0, none⟩), .pointer (some ⟨gi, 0, none⟩), .pointer (some ⟨go, 0, none⟩)] w
      fun e w' => e = .returned (.tuple #[]) ∧ ∃ vq', Sg w0 w' gs gq gi go bs cs i (vis sg qu ok i k t).1 (vis sg qu ok i k t).2.1 (vis sg qu ok i k t).2.2 vq' ∧ Oth w w' := by
  obtain ⟨bq, cq, rfl, hbq, hbl, _, HGQ⟩ := Kd.JJ hS.rQ (by omega)
  have hqs : bq ≠ bs := hS.rQ.1 bq (by simp [Value.ownBlock])
  have hxS : w.cell? ⟨gs, 0, none⟩ = some (.slice (some ⟨bs, 0, none⟩) sg.length cs) := (zJ hS.bS 0).trans rfl
  have hxQ : w.cell? ⟨gq, 0, none⟩ = some (.slice (some ⟨bq, 0, none⟩) qu.length cq) := (zJ hS.bQ 0).trans rfl
  have hxI : w.cell? ⟨gi, 0, none⟩ = some (.int .i64 i) := (zJ hS.bI 0).trans rfl
  have hxO : w.cell? ⟨go, 0, none⟩ = some (.bool ok) := (zJ hS.bO 0).trans rfl
  have hfQ := zL hS.bQ 0
  have hfO := zL hS.bO 0
  obtain ⟨hx1, _⟩ := Kd.QL 0 hS.rQ i hi0 hi1
  obtain ⟨hx2, _⟩ := Kd.QL 0 hS.rS (rd qu i) hq0 hq1
  obtain ⟨hx3, hf3⟩ := Kd.QL 0 hS.rS k hk0 hk1
  replace hx1 : w.cell? ⟨bq, i.toNat, none⟩ = some (.int .i64 (rd qu i)) := hx1
  replace hx2 : w.cell? ⟨bs, (rd qu i).toNat, none⟩ = some (.int .i64 (rd sg (rd qu i))) := hx2
  replace hx3 : w.cell? ⟨bs, k.toNat, none⟩ = some (.int .i64 (rd sg k)) := hx3
  have HV := zA.mk (show vis sg qu ok i k t = if rd sg k = 0 then (sg.set k.toNat (wrap64 (rd sg (rd qu i) * t)), qu ++ [k], ok) else if rd sg k = wrap64 (-(wrap64 (rd sg (rd qu i) * t))) then (sg, qu, false) else (sg, qu, ok) from rfl)
  have HS := zA.mk hS
  have HN := zA.mk hn
  clear hS HGQ hbl hn
  have HQ := zA.mk (And.intro hqs hbq)
  clear hqs hbq
  generalize vis sg qu ok i k t = res at HV ⊢
  generalize rd qu i = q at hx1 hx2 hq0 hq1 HV
  generalize rd sg q = s at hx2 HV
  generalize hsk : rd sg k = sk at hx3 HV
  have HSK := zA.mk hsk
  clear hsk
  go_enter Try.func182, Try.ntmps182
  try go_wp2
  refine ZN (n := 10) (S := fun w' => w'.cell? ⟨gs, 0, none⟩ = some (.slice (some ⟨bs, 0, none⟩) sg.length cs) ∧ w'.cell? ⟨gq, 0, none⟩ = some (.slice (some ⟨bq, 0, none⟩) qu.length cq) ∧ w'.cell? ⟨gi, 0, none⟩ = some (.int .i64 i) ∧ w'.cell? ⟨bq, i.toNat, none⟩ = some (.int .i64 q) ∧ w'.cell? ⟨bs, q.toNat, none⟩ = some (.int .i64 s)) (ds := []) #[false, false, false, false, false, false, false, false, false, false] (by kernel_rfl) rfl rfl ⟨hxS, hxQ, hxI, hx1, hx2⟩ (fun hHeld => ?_)
  refine qQ (i := 0) (N := some 9) (v := ?_) (a' := ?_) #[true, false, false, false, false, false, false, false, false, false] rfl rfl (by kernel_rfl) (fun _ _ _ h => h) (Or.inl ⟨by rfl, ?_⟩) hHeld ?_ ?_
  rotate_left
  · rintro w' ⟨s0, s1, s2, s3, s4⟩
    go_simp
    with_reducible rfl
  rotate_left
  · simp only [Act.put, yay, yby, ycy, zT, zU]
    rfl
  refine qQ (i := 1) (N := some 10) (v := ?_) (a' := ?_) #[true, true, false, false, false, false, false, false, false, false] rfl rfl (by kernel_rfl) (fun _ _ _ h => h) (Or.inl ⟨by rfl, ?_⟩) hHeld ?_ ?_
  rotate_left
  · rintro w' ⟨s0, s1, s2, s3, s4⟩
    go_simp
    with_reducible rfl
  rotate_left
  · simp only [Act.put, yay, yby, ycy, zT, zU]
    rfl
  refine qQ (i := 2) (N := some 11) (v := ?_) (a' := ?_) #[true, true, true, false, false, false, false, false, false, false] rfl rfl (by kernel_rfl) (fun _ _ _ h => h) (Or.inl ⟨by rfl, ?_⟩) hHeld ?_ ?_
  rotate_left
  · rintro w' ⟨s0, s1, s2, s3, s4⟩
    go_simp
    with_reducible rfl
  rotate_left
  · simp only [Act.put, yay, yby, ycy, zT, zU]
    rfl
  refine zg (i := 3) (N := some 12) (v := ?_) (a' := ?_) #[true, true, true, true, false, false, false, false, false, false] rfl rfl (by kernel_rfl) (fun _ _ _ h => h) (Or.inl ⟨by rfl, ?_⟩) ?_ ?_
  rotate_left
  · intro w'
    go_simp
    with_reducible rfl
  rotate_left
  · simp only [Act.put, yay, yby, ycy, zT, zU]
    rfl
  refine qQ (i := 4) (N := some 13) (v := ?_) (a' := ?_) #[true, true, true, true, true, false, false, false, false, false] rfl rfl (by kernel_rfl) (fun _ _ _ h => h) (Or.inl ⟨by rfl, ?_⟩) hHeld ?_ ?_
  rotate_left
  · rintro w' ⟨s0, s1, s2, s3, s4⟩
    go_simp
    with_reducible rfl
  rotate_left
  · simp only [Act.put, yay, yby, ycy, zT, zU]
    rfl
  refine zg (i := 5) (N := some 14) (v := ?_) (a' := ?_) #[true, true, true, true, true, true, false, false, false, false] rfl rfl (by kernel_rfl) (fun _ _ _ h => h) (Or.inl ⟨by rfl, ?_⟩) ?_ ?_
  rotate_left
  · intro w'
    go_simp
    with_reducible rfl
  rotate_left
  · simp only [Act.put, yay, yby, ycy, zT, zU]
    rfl
  refine qQ (i := 6) (N := some 15) (v := ?_) (a' := ?_) #[true, true, true, true, true, true, true, false, false, false] rfl rfl (by kernel_rfl) (fun _ _ _ h => h) (Or.inl ⟨by rfl, ?_⟩) hHeld ?_ ?_
  rotate_left
  · rintro w' ⟨s0, s1, s2, s3, s4⟩
    go_simp
    with_reducible rfl
  rotate_left
  · simp only [Act.put, yay, yby, ycy, zT, zU]
    rfl
  refine zg (i := 7) (N := some 16) (v := ?_) (a' := ?_) #[true, true, true, true, true, true, true, true, false, false] rfl rfl (by kernel_rfl) (fun _ _ _ h => h) (Or.inl ⟨by rfl, ?_⟩) ?_ ?_
  rotate_left
  · intro w'
    go_simp
    with_reducible rfl
  rotate_left
  · simp only [Act.put, yay, yby, ycy, zT, zU]
    rfl
  refine zg (i := 8) (N := some 17) (v := ?_) (a' := ?_) #[true, true, true, true, true, true, true, true, true, false] rfl rfl (by kernel_rfl) (fun _ _ _ h => h) (Or.inl ⟨by rfl, ?_⟩) ?_ ?_
  rotate_left
  · intro w'
    go_simp
    with_reducible rfl
  rotate_left
  · simp only [Act.put, yay, yby, ycy, zT, zU]
    rfl
  refine zg (i := 9) (N := some 8) (v := ?_) (a' := ?_) #[true, true, true, true, true, true, true, true, true, true] rfl rfl (by kernel_rfl) (fun _ _ _ h => h) (Or.inl ⟨by rfl, ?_⟩) ?_ ?_
  rotate_left
  · intro w'
    go_simp
    with_reducible rfl
  rotate_left
  · simp only [Act.put, yay, yby, ycy, zT, zU]
    rfl
  refine Zo (by kernel_rfl) ?_
  have HS2 := zA.mk HS.out.drew
  have HO := zA.mk (show Oth w w.drew from fun _ _ _ _ _ _ h => h)
  clear HS hHeld
  replace hxS : w.drew.cell? ⟨gs, 0, none⟩ = some (.slice (some ⟨bs, 0, none⟩) sg.length cs) := hxS
  replace hxQ : w.drew.cell? ⟨gq, 0, none⟩ = some (.slice (some ⟨bq, 0, none⟩) qu.length cq) := hxQ
  replace hx3 : w.drew.cell? ⟨bs, k.toNat, none⟩ = some (.int .i64 sk) := hx3
  replace hf3 : w.drew.frozen? ⟨bs, k.toNat, none⟩ = false := hf3
  replace hfQ : w.drew.frozen? ⟨gq, 0, none⟩ = false := hfQ
  replace hfO : w.drew.frozen? ⟨go, 0, none⟩ = false := hfO
  replace hxO : w.drew.cell? ⟨go, 0, none⟩ = some (.bool ok) := hxO
  clear hx1 hx2 hxI
  generalize w.drew = wd at *
  generalize wrap64 (s * t) = want at HV ⊢
  by_cases c0 : sk = 0
  · subst c0
    rw [if_pos rfl] at HV
    clear hxO hfO
    go_wp2_with (first
      | ((with_reducible refine Zk (t := 2) (p := 27) rfl ?_); refine ZW (t := 2) (p := 27) (v := ?vo) (w1 := (wd.setCell ⟨bs, k.toNat, none⟩ (.int .i64 want))) ?hg ?ho ?hn ?hr ?_; (case ho => rfl); (case hg => rfl); (case hn => rfl); (case hr => first | (go_simp; done) | (go_simp; rfl)); intro w2 hw; have HS3 := zA.mk (show Sg0 w0 w2 gs gq gi go bs cs i (sg.set k.toNat want) qu ok _ _ by rw [hw]; exact HS2.out.sign k want); have HO3 := zA.mk (show Oth w w2 by rw [hw]; exact HO.out.trans (HS2.out.zCw k want)); clear HS2 HO hw hxS hxQ hx3 hf3 hfQ; have hxQ : w2.cell? ⟨gq, 0, none⟩ = some (.slice (some ⟨bq, 0, none⟩) qu.length cq) := (zJ HS3.out.bQ 0).trans rfl)
      | ((with_reducible refine Zd (b := .append) (xs := #[.tmp 28, .tmp 30]) rfl ?_); at_builtin; refine Kd.Qj (Kd.int .i64) (w0 := w0) w0.heap.size rfl (.tmp 28) (.tmp 30) 41 2 (.int .i64 0) 8 rfl Try.underlying41 JC rfl (by decide) (by omega) (.slice (some ⟨bq, 0, none⟩) qu.length cq) qu k [.int .i64 k] (fun k => k ≠ bs) (fun _ => False) rfl rfl ?aP (fun _ hk => hk.elim) ?aF ?aO ?aB ?aS ?aL ?_; (case aP => exact rfl); (case aB => exact HS3.out.below); (case aF => exact (fun k_ hk_ e_ => by obtain ⟨_, hc_⟩ := HS3.out.row; have := qE hc_; omega)); (case aO => exact HS3.out.rQ); (case aS => exact zP HS3.out.below); (case aL => have := HN.out; omega); intro v1 w3 ho hb hg hat; obtain ⟨A1, c1, rfl⟩ := Kd.qv ho; have HS4 := zA.mk (HS3.out.grown ho hb hg); have HO4 := zA.mk (HO3.out.trans (HS3.out.grownO hg)); clear HO3 HS3 ho hb hg hat hxQ; have hxQ : w3.cell? ⟨gq, 0, none⟩ = some (.slice (some ⟨bq, 0, none⟩) qu.length cq) := (zJ HS4.out.bQ 0).trans rfl; have hfQ := zL HS4.out.bQ 0))
    try go_wp2
    first | go_end0 | ((try simp only [Exit.inBlock, Exit.then]); refine bodyPost_ret (results_none rfl _ _ _) rfl ?_)
    refine ⟨?_, .slice A1 (qu.length + 1) c1, ?_, HO4.out.trans (HS4.out.queueO _)⟩
    · first | rfl | (simp <;> rfl)
    · rw [HV.out]
      have h5 := HS4.out.queue
      rw [List.length_append] at h5
      exact h5
  · have d0 : (sk == 0) = false := by simp [c0]
    have d0' : decide (sk = 0) = false := yhy c0
    rw [if_neg c0] at HV
    by_cases c1 : sk = wrap64 (-want)
    · rw [if_pos c1] at HV
      have d1 : (sk == wrap64 (-want)) = true := beq_iff_eq.mpr c1
      have d1' : decide (sk = wrap64 (-want)) = true := ygy c1
      clear c0 c1
      try go_wp2
      first | go_end0 | ((try simp only [Exit.inBlock, Exit.then]); refine bodyPost_ret (results_none rfl _ _ _) rfl ?_)
      refine ⟨?_, _, by rw [HV.out]; exact HS2.out.fails false, HO.out.trans (HS2.out.failsO _)⟩
      first | rfl | (simp <;> rfl)
    · rw [if_neg c1] at HV
      have d1 : (sk == wrap64 (-want)) = false := by simp [c1]
      have d1' : decide (sk = wrap64 (-want)) = false := yhy c1
      clear c0 c1
      go_wp2
      first | go_end0 | ((try simp only [Exit.inBlock, Exit.then]); refine bodyPost_ret (results_none rfl _ _ _) rfl ?_)
      refine ⟨?_, _, by rw [HV.out]; exact HS2.out, HO.out⟩
      first | rfl | (simp <;> rfl)
def qf.f (a0_0 : Int) (a0_1 : Int) : Option (Bool) := some (decide (a0_0 < 0))
set_option maxHeartbeats 8000000 in
set_option maxRecDepth 100000 in
theorem qf.calls (a0_0 : Int) (a0_1 : Int) (r : Bool) (w : World) (h : qf.f a0_0 a0_1 = some r) :
    Calls Try.prog 75 #[.agg #[.int .i64 a0_0, .int .i64 a0_1]] w fun e w' => e = .returned (.bool r) ∧ Below w.heap.size w w' := by
  have hu74 := Try.underlying74
  have HB := zA.mk (yqy w.heap.size w)
  have H : (some (decide (a0_0 < 0))) = some r := h
  clear h
  obtain rfl := yey H
  go_enter Try.func75, Try.ntmps75
  go_wp2_with (first | ((with_reducible refine zm (N := 1) rfl ?_); refine zp ?hg (N := 1) ?hd (cs := #[.int .i64 a0_0, .int .i64 a0_1]) (t := 74) ?hr ?_; (case hd => rfl); (case hg => rfl); (case hr => first | (go_simp; done) | (go_simp; rfl)); intro gb101 hg w2 hbox hb; have n0_ := zA.mk (zO (by repeat (first | (with_reducible first | exact HB.out | apply zD | apply zB | apply zE) | exact HB.out)) hb); have n1_ := zA.mk (hbox); have n2_ := zA.mk ((by rw [hg]; exact (zP (by repeat (first | (with_reducible first | exact HB.out | apply zD | apply zB | apply zE) | exact HB.out))) : w.heap.size ≤ gb101)); have n3_ := zA.mk ((by rw [hg]; exact (zP (by repeat (first | (with_reducible first | exact HB.out | apply zD | apply zB | apply zE) | exact HB.out))) : w.heap.size ≤ gb101)); clear HB; have HB := n0_; have BK101 := n1_; have GW101 := n2_; have GE101 := n3_; clear n0_ n1_ n2_ n3_; clear hb hbox hg; have hcz3_0 : w2.cell? ⟨gb101, 0, none⟩ = some (.int .i64 a0_0) := (zJ BK101.out 0).trans rfl; have hcz3_1 : w2.cell? ⟨gb101, 1, none⟩ = some (.int .i64 a0_1) := (zJ BK101.out 1).trans rfl; have hfz3_0 := zL BK101.out 0; have hfz3_1 := zL BK101.out 1))
  go_ret
  exact ⟨by first | rfl | (simp [zX, zY] <;> rfl) | (simp [*, zX, zY] <;> rfl), by repeat (first | (with_reducible first | exact HB.out | apply zD | apply zB | apply zE | refine zG ?_ GE101.out) | exact HB.out)⟩
def zCC : Go.Shelf.Ren := ⟨fun | 45 => 149 | n => n, fun | 22 => 41 | 23 => 2 | 3 => 3 | 4 => 4 | 0 => 0 | n => n, fun | n => n⟩
theorem zEf : Go.Proofs.SlLaysN.n45 Try.prog zCC := {
  mixed := by kernel_rfl
  f45 := ⟨Try.f149.name, by decide, Try.func149.trans (congrArg some (by kernel_rfl))⟩
  t0 := Try.underlying0
  a0 := Try.isAgg0
  z0 := Try.sizeOf0
  v0 := Try.zeroValue0
  t3 := Try.underlying3
  a3 := Try.isAgg3
  z3 := Try.sizeOf3
  v3 := Try.zeroValue3
  t4 := Try.underlying4
  a4 := Try.isAgg4
  z4 := Try.sizeOf4
  v4 := Try.zeroValue4
  t22 := Try.underlying41
  a22 := Try.isAgg41
  z22 := Try.sizeOf41
  v22 := Try.zeroValue41
  t23 := Try.underlying2
  a23 := Try.isAgg2
  z23 := Try.sizeOf2
  v23 := Try.zeroValue2
  i23 := by kernel_rfl }
theorem erase_eq (xs : List Int) (i : Nat) : xs.take i ++ xs.drop (i + 1) = xs.eraseIdx i := (List.eraseIdx_eq_take_drop_succ xs i).symm
theorem Zf.zCY (g cap i : Nat) (xs : List Int) (base : Nat) (ok : Nat → Prop) (w : World) (ho : Kd.R (Kd.int .i64) 2 w base ok (.slice (some ⟨g, 0, none⟩) xs.length cap) xs) (hi : i < xs.length) :
    Calls Try.prog 149 #[.slice (some ⟨g, 0, none⟩) xs.length cap, .int .i64 i, .int .i64 (i + 1)] w fun e w' => e = .returned (.slice (some ⟨g, 0, none⟩) (xs.length - 1) cap) ∧
      Kd.R (Kd.int .i64) 2 w' base ok (.slice (some ⟨g, 0, none⟩) (xs.length - 1) cap) (xs.eraseIdx i) ∧ w.grownBy w' (some g) := by
  have hown := Kd.zBH ho
  rcases hown.2 with ⟨hv, _⟩ | ⟨g', cap', cur, hv, hbase, hh, hle, hmax, hcs, htake⟩
  · cases hv
  injection hv with hv1 _ hv3
  injection hv1 with hv1
  injection hv1 with hv1 _ _
  subst hv1 hv3
  rw [Nat.mul_one] at hcs htake
  have hcell : ∀ j, j < xs.length → w.cell? ⟨g, 0 + j, none⟩ = some (.int .i64 xs[j]!) := by
    intro j hj
    rw [Nat.zero_add]
    have h1 : cur.toList[j]? = some (.int .i64 xs[j]!) := by
      have h2 : (cur.toList.take xs.length)[j]? = some (.int .i64 xs[j]!) := by
        rw [htake, zA7, List.getElem?_map, List.getElem?_eq_getElem hj]
        simp [getElem!_pos, hj]
      rw [List.getElem?_take, if_pos hj] at h2
      exact h2
    rw [zJ hh j, ← Array.getElem?_toList, h1]
  have hH : Go.Sort.Holds (Value.int .i64) w g 0 xs.toArray := by
    intro j hj
    have hj' : j < xs.length := by simpa using hj
    refine ⟨?_, by rw [Nat.zero_add]; exact zL hh j⟩
    rw [hcell j hj']
    simp [getElem!_pos, hj']
  have hc := AnyG.slices_Delete_int zEf g 0 cap i (i + 1) xs w hH hle (by unfold maxLen at hmax; omega) (by omega) (by omega)
  have hc2 : Calls Try.prog 149 #[.slice (some ⟨g, 0, none⟩) xs.length cap, .int .i64 (i : Nat), .int .i64 ((i + 1 : Nat) : Int)] w fun e w' => e = .returned (.slice (some ⟨g, 0, none⟩) (xs.length - (i + 1 - i)) cap) ∧ ∃ q, w' = Go.Sort.putRow (Value.int .i64) (Go.Sort.ahead w q) g 0 (xs.take i ++ xs.drop (i + 1) ++ List.replicate (i + 1 - i) 0).toArray := hc
  refine hc2.mono ?_
  rintro e w' ⟨rfl, q, rfl⟩
  have hlen : (xs.eraseIdx i).length = xs.length - 1 := by rw [List.length_eraseIdx]; simp [hi]
  have hd : xs.take i ++ xs.drop (i + 1) ++ List.replicate (i + 1 - i) 0 = xs.eraseIdx i ++ [0] := by
    rw [erase_eq, show i + 1 - i = 1 by omega]; rfl
  rw [hd, show i + 1 - i = 1 by omega]
  have hheap : (Go.Sort.putRow (Value.int .i64) (Go.Sort.ahead w q) g 0 (xs.eraseIdx i ++ [0]).toArray).heap[g]? = some (.cells (Go.Sort.putCells (Value.int .i64) 0 (xs.eraseIdx i ++ [0]).toArray cur) 2 (0, 0)) := by
    show (w.heap.modify g _)[g]? = _
    rw [Array.getElem?_modify, if_pos rfl, hh]
    rfl
  have hfar : ∀ k, k ≠ g → (Go.Sort.putRow (Value.int .i64) (Go.Sort.ahead w q) g 0 (xs.eraseIdx i ++ [0]).toArray).heap[k]? = w.heap[k]? := by
    intro k hk
    show (w.heap.modify g _)[k]? = _
    rw [Array.getElem?_modify, if_neg (Ne.symm hk)]
  refine ⟨rfl, ?_, ⟨rfl, rfl, rfl, ?_, fun k _ hk => hfar k (fun e => hk (by rw [e]))⟩⟩
  · have e1 : xs.length - 1 = (xs.eraseIdx i).length := hlen.symm
    rw [e1]
    refine Kd.zAM ⟨by simp [zA7], .inr ⟨g, cap, _, rfl, hbase, hheap, by omega, hmax, by simp [Go.Sort.putCells, hcs], ?_⟩⟩ (fun k hk => ho.1 k hk)
    rw [Nat.mul_one]
    apply List.ext_getElem?
    intro j
    rw [List.getElem?_take]
    by_cases hj : j < (xs.eraseIdx i).length
    · rw [if_pos hj, Array.getElem?_toList, Go.Sort.putCells, Array.getElem?_mapIdx, Array.getElem?_eq_getElem (by omega), Option.map_some, if_pos ⟨by omega, by simp; omega⟩, Nat.sub_zero, zA7, List.getElem?_map, List.getElem?_eq_getElem hj, Option.map_some]
      congr 2
      rw [List.getElem!_toArray, getElem!_pos _ j (by simp; omega), List.getElem_append_left hj]
    · rw [if_neg hj, List.getElem?_eq_none (by simp [zA7]; omega)]
  · show w.heap.size ≤ (w.heap.modify g _).size
    rw [Array.size_modify]
    omega
def zDW : Nat → Int
 | 0 => 6
 | 1 => 2
 | _ => 1
def ZC (p : Int) : Nat → Int
 | 0 => p
 | i + 1 => ZC p i % zDW i
def Zg (p : Int) (i : Nat) : Int := ZC p i / zDW i
def zq (p : Int) : Nat → List Int
 | 0 => [0, 1, 2, 3]
 | i + 1 => (zq p i).eraseIdx (Zg p i).toNat
def zo (p : Int) (i : Nat) : Int := (zq p i).getD (Zg p i).toNat 0
def ZR (p : Int) : List Int := [zo p 0, zo p 1, zo p 2, zo p 3]
theorem zCZ (p : Int) (h0 : 0 ≤ p) (h1 : p ≤ 23) : (0 ≤ ZC p 0 ∧ ZC p 0 ≤ 23) ∧ (0 ≤ ZC p 1 ∧ ZC p 1 ≤ 5) ∧ (0 ≤ ZC p 2 ∧ ZC p 2 ≤ 1) ∧ (0 ≤ ZC p 3 ∧ ZC p 3 ≤ 0) := by
 simp only [ZC, zDW]; omega
theorem zCa (p : Int) (h0 : 0 ≤ p) (h1 : p ≤ 23) : (0 ≤ Zg p 0 ∧ Zg p 0 < 4) ∧ (0 ≤ Zg p 1 ∧ Zg p 1 < 3) ∧ (0 ≤ Zg p 2 ∧ Zg p 2 < 2) ∧ (0 ≤ Zg p 3 ∧ Zg p 3 < 1) := by
 have := zCZ p h0 h1
 simp only [Zg, zDW]; omega
theorem zBl (p : Int) (h0 : 0 ≤ p) (h1 : p ≤ 23) : (zq p 0).length = 4 ∧ (zq p 1).length = 3 ∧ (zq p 2).length = 2 ∧ (zq p 3).length = 1 ∧ (zq p 4).length = 0 := by
 obtain ⟨a, b, c, d⟩ := zCa p h0 h1
 have e0 : (zq p 0).length = 4 := rfl
 have e1 : (zq p 1).length = 3 := by rw [zq, List.length_eraseIdx, e0, if_pos (by omega)]
 have e2 : (zq p 2).length = 2 := by rw [zq, List.length_eraseIdx, e1, if_pos (by omega)]
 have e3 : (zq p 3).length = 1 := by rw [zq, List.length_eraseIdx, e2, if_pos (by omega)]
 have e4 : (zq p 4).length = 0 := by rw [zq, List.length_eraseIdx, e3, if_pos (by omega)]
 exact ⟨e0, e1, e2, e3, e4⟩
theorem zCb {W : World} {n : Nat} (h : W.heap.size = n) (o : Obj) : (W.alloc o).heap[n]? = some o := h ▸ zBF W o
def Zj (p : Int) (i j : Nat) : Int := if j < i then zo p j else 0
set_option maxHeartbeats 8000000 in
set_option maxRecDepth 100000 in
theorem Qx.calls (p : Int) (w : World) (h0 : 0 ≤ p) (h1 : p ≤ 23) :
 Calls Try.prog 127 #[.int .i64 p] w fun e w' => e = .returned (.agg #[.int .i64 (zo p 0), .int .i64 (zo p 1), .int .i64 (zo p 2), .int .i64 (zo p 3)]) ∧ Below w.heap.size w w' := by
 have HP := zA.mk (zCZ p h0 h1)
 have HK := zA.mk (zCa p h0 h1)
 have HL := zA.mk (zBl p h0 h1)
 clear h0 h1
 go_enter Try.func127, Try.ntmps127
 go_wp2_with fail
 go_loopg [0, 4, 11] 4 (fun gg v0 v4 v11 w' => ∃ i : Nat, i ≤ 4 ∧ 4 - i ≤ gg ∧ v11 = .int .i64 i ∧ v0 = .int .i64 (ZC p i) ∧ v4 = .slice (some ⟨w.heap.size + 1 + 1, 0, none⟩) (zq p i).length 4 ∧
  zA (Kd.R (Kd.int .i64) 2 w' w.heap.size (fun k => k = w.heap.size + 1 + 1) (.slice (some ⟨w.heap.size + 1 + 1, 0, none⟩) (zq p i).length 4) (zq p i)) ∧
  zA (w'.heap[w.heap.size + 1]? = some (.cells #[.int .i64 (Zj p i 0), .int .i64 (Zj p i 1), .int .i64 (Zj p i 2), .int .i64 (Zj p i 3)] 108 (0, 0))) ∧
  zA (w'.heap[w.heap.size]? = some (.cells #[.int .i64 0, .int .i64 0, .int .i64 0, .int .i64 0] 108 (0, 0))) ∧
  zA (w'.heap[w.heap.size + 1 + 1 + 1]? = some (.cells #[.int .i64 6, .int .i64 2, .int .i64 1, .int .i64 1] 2 (0, 0))) ∧ zA (Below w.heap.size w w'))
 case atStart =>
  refine ⟨0, by omega, by omega, rfl, rfl, rfl, ⟨?_⟩, ⟨?_⟩, ⟨?_⟩, ⟨?_⟩, ⟨?_⟩⟩
  next =>
   refine Kd.zAM ⟨by simp [zA7], .inr ⟨w.heap.size + 1 + 1, 4, #[.int .i64 0, .int .i64 1, .int .i64 2, .int .i64 3], rfl, by omega, ?_, ypy 4, by decide, rfl, rfl⟩⟩ (fun k hk => by simpa [Value.ownBlock] using hk.symm)
   exact zH (zCb (by simp) _) _
  next =>
   exact zH (zH (zCb (by simp) _) _) _
  next =>
   exact zH (zH (zH (zCb rfl _) _) _) _
  next =>
   exact zCb (by simp) _
  next =>
   exact zD (zD (zD (zD (yqy _ _) _) _) _) _
 case round =>
  obtain ⟨i, hi, hg, rfl, rfl, rfl, HR, B3, B2, B9, HB⟩ := hrel
  rcases (show i = 4 ∨ i = 3 ∨ i = 2 ∨ i = 1 ∨ i = 0 by omega) with rfl | rfl | rfl | rfl | rfl
  next =>
   have c0 : wr.cell? ⟨w.heap.size + 1, 0, none⟩ = some (.int .i64 (Zj p 4 0)) := (zJ B3.out 0).trans rfl
   have c1 : wr.cell? ⟨w.heap.size + 1, 1, none⟩ = some (.int .i64 (Zj p 4 1)) := (zJ B3.out 1).trans rfl
   have c2 : wr.cell? ⟨w.heap.size + 1, 2, none⟩ = some (.int .i64 (Zj p 4 2)) := (zJ B3.out 2).trans rfl
   have c3 : wr.cell? ⟨w.heap.size + 1, 3, none⟩ = some (.int .i64 (Zj p 4 3)) := (zJ B3.out 3).trans rfl
   have d0 : wr.cell? ⟨w.heap.size, 0, none⟩ = some (.int .i64 0) := (zJ B2.out 0).trans rfl
   have d1 : wr.cell? ⟨w.heap.size, 1, none⟩ = some (.int .i64 0) := (zJ B2.out 1).trans rfl
   have d2 : wr.cell? ⟨w.heap.size, 2, none⟩ = some (.int .i64 0) := (zJ B2.out 2).trans rfl
   have d3 : wr.cell? ⟨w.heap.size, 3, none⟩ = some (.int .i64 0) := (zJ B2.out 3).trans rfl
   have f0 := zL B2.out 0
   have f1 := zL B2.out 1
   have f2 := zL B2.out 2
   have f3 := zL B2.out 3
   have ht := Try.underlying108
   go_wp2
   refine bodyPost_ret (results_cell_row rfl _ _ w.heap.size 108 #[.int .i64 (Zj p 4 0), .int .i64 (Zj p 4 1), .int .i64 (Zj p 4 2), .int .i64 (Zj p 4 3)] (0, 0) _ rfl (qH (cs := #[.int .i64 (Zj p 4 0), .int .i64 (Zj p 4 1), .int .i64 (Zj p 4 2), .int .i64 0]) (qH (cs := #[.int .i64 (Zj p 4 0), .int .i64 (Zj p 4 1), .int .i64 0, .int .i64 0]) (qH (cs := #[.int .i64 (Zj p 4 0), .int .i64 0, .int .i64 0, .int .i64 0]) (qH B2.out 0 _ rfl) 1 _ rfl) 2 _ rfl) 3 _ rfl) ht rfl (by kernel_rfl)) rfl ⟨rfl, ?_⟩
   exact zG (zG (zG (zG HB.out (ypy _)) (ypy _)) (ypy _)) (ypy _)
  next =>
   have hK : 0 ≤ Zg p 3 ∧ Zg p 3 < (zq p 3).length := by have := HK.out; have := HL.out; omega
   have hP : 0 ≤ ZC p 3 ∧ ZC p 3 ≤ 23 := by have := HP.out; omega
   have HLN := zA.mk (show (zq p 3).length = 1 by have := HL.out; omega)
   have HLN2 := zA.mk (show (zq p 4).length = (zq p 3).length - 1 by have := HL.out; omega)
   obtain ⟨A1, q1, hA1, hq1, hC⟩ := Kd.Jb HR.out
   injection hA1 with hA1 hl1 hc1
   subst hA1
   clear hl1 hc1 hq1
   obtain ⟨ad, had, hx⟩ := Kd.qi hC (Zg p 3) hK.1 (by omega)
   injection had with had
   subst had
   rw [add_plain] at hx
   have HAT := zA.mk (show rd (zq p 3) (Zg p 3) = zo p 3 from rfl)
   rw [HAT.out] at hx
   have HER := zA.mk (show (zq p 3).eraseIdx (Zg p 3).toNat = zq p 4 from rfl)
   have hX : Zg p 3 = ZC p 3 := by have e : Zg p 3 = ZC p 3 / 1 := rfl; rw [e]; exact Int.ediv_one _
   have HY := zA.mk (show 0 = ZC p 4 by have e : ZC p 4 = ZC p 3 % 1 := rfl; rw [e]; omega)
   rw [hX] at hx hK
   have HX := zA.mk hX
   clear hX hC
   obtain ⟨hk0, hk1⟩ := hK
   obtain ⟨hp0, hp1⟩ := hP
   have b9 : wr.cell? ⟨w.heap.size + 1 + 1 + 1, 3, none⟩ = some (.int .i64 1) := (zJ B9.out 3).trans rfl
   have b3 : wr.cell? ⟨w.heap.size + 1, 3, none⟩ = some (.int .i64 (Zj p 3 3)) := (zJ B3.out 3).trans rfl
   have f3 := zL B3.out 3
   have hk2 : ZC p 3 < 9223372036854775807 := by omega
   go_wp2_with fail
   have HRw := zA.mk (show Kd.R (Kd.int .i64) 2 (wr.setCell ⟨w.heap.size + 1, 3, none⟩ (.int .i64 (zo p 3))) w.heap.size (fun k => k = w.heap.size + 1 + 1) (.slice (some ⟨w.heap.size + 1 + 1, 0, none⟩) (zq p 3).length 4) (zq p 3) from Kd.QG (p := ⟨w.heap.size + 1, 3, none⟩) HR.out (fun k hk => by rw [hk]; show w.heap.size + 1 + 1 ≠ w.heap.size + 1; omega) _)
   refine Qc (args' := #[.slice (some ⟨w.heap.size + 1 + 1, 0, none⟩) (zq p 3).length 4, .int .i64 ((ZC p 3).toNat : Int), .int .i64 (((ZC p 3).toNat : Int) + 1)]) (by rw [Int.toNat_of_nonneg hk0]) ?_
   refine (Zf.zCY (w.heap.size + 1 + 1) 4 (ZC p 3).toNat (zq p 3) w.heap.size (fun k => k = w.heap.size + 1 + 1) _ HRw.out (by omega)).mono ?_
   rintro e w1 ⟨rfl, hR1, hg1⟩
   have hl2 := HLN2.out
   have er : (zq p 3).eraseIdx (ZC p 3).toNat = zq p 4 := by rw [← HER.out, HX.out]
   rw [er, ← hl2] at hR1
   rw [← hl2]
   have HR2 := zA.mk hR1
   have B3a : (wr.setCell ⟨w.heap.size + 1, 3, none⟩ (.int .i64 (zo p 3))).heap[w.heap.size + 1]? = some (.cells #[.int .i64 (Zj p 4 0), .int .i64 (Zj p 4 1), .int .i64 (Zj p 4 2), .int .i64 (Zj p 4 3)] 108 (0, 0)) := qH B3.out 3 _ rfl
   have B3n := zA.mk (zu B3a hg1 (by simp))
   have B2n := zA.mk (zu (zv (p := ⟨w.heap.size + 1, 3, none⟩) B2.out (by show w.heap.size ≠ w.heap.size + 1; omega) (.int .i64 (zo p 3))) hg1 (by simp; omega))
   have B9n := zA.mk (zu (zv (p := ⟨w.heap.size + 1, 3, none⟩) B9.out (by show w.heap.size + 1 + 1 + 1 ≠ w.heap.size + 1; omega) (.int .i64 (zo p 3))) hg1 (by simp))
   have HBn := zA.mk (QS (zG (j := 3) (v := .int .i64 (zo p 3)) HB.out (show w.heap.size ≤ w.heap.size + 1 by omega)) (some (w.heap.size + 1 + 1)) (by have := HB.out.size; simp [World.setCell]; omega) hg1 (fun k hk => by injection hk with hk; omega))
   clear hR1 hg1 B3a HRw B3 B2 B9 HB HR er hl2 hx b9 b3 f3
   go_wp2
   go_roundg (4 - 4)
   case measure => omega
   case rel => exact ⟨4, by omega, by omega, by first | rfl | go_num, by rw [← HY.out], rfl, HR2, B3n, B2n, B9n, HBn⟩
  next =>
   have hK : 0 ≤ Zg p 2 ∧ Zg p 2 < (zq p 2).length := by have := HK.out; have := HL.out; omega
   have hP : 0 ≤ ZC p 2 ∧ ZC p 2 ≤ 23 := by have := HP.out; omega
   have HLN := zA.mk (show (zq p 2).length = 2 by have := HL.out; omega)
   have HLN2 := zA.mk (show (zq p 3).length = (zq p 2).length - 1 by have := HL.out; omega)
   obtain ⟨A1, q1, hA1, hq1, hC⟩ := Kd.Jb HR.out
   injection hA1 with hA1 hl1 hc1
   subst hA1
   clear hl1 hc1 hq1
   obtain ⟨ad, had, hx⟩ := Kd.qi hC (Zg p 2) hK.1 (by omega)
   injection had with had
   subst had
   rw [add_plain] at hx
   have HAT := zA.mk (show rd (zq p 2) (Zg p 2) = zo p 2 from rfl)
   rw [HAT.out] at hx
   have HER := zA.mk (show (zq p 2).eraseIdx (Zg p 2).toNat = zq p 3 from rfl)
   have hX : Zg p 2 = ZC p 2 := by have e : Zg p 2 = ZC p 2 / 1 := rfl; rw [e]; exact Int.ediv_one _
   have HY := zA.mk (show 0 = ZC p 3 by have e : ZC p 3 = ZC p 2 % 1 := rfl; rw [e]; omega)
   rw [hX] at hx hK
   have HX := zA.mk hX
   clear hX hC
   obtain ⟨hk0, hk1⟩ := hK
   obtain ⟨hp0, hp1⟩ := hP
   have b9 : wr.cell? ⟨w.heap.size + 1 + 1 + 1, 2, none⟩ = some (.int .i64 1) := (zJ B9.out 2).trans rfl
   have b3 : wr.cell? ⟨w.heap.size + 1, 2, none⟩ = some (.int .i64 (Zj p 2 2)) := (zJ B3.out 2).trans rfl
   have f3 := zL B3.out 2
   have hk2 : ZC p 2 < 9223372036854775807 := by omega
   go_wp2_with fail
   have HRw := zA.mk (show Kd.R (Kd.int .i64) 2 (wr.setCell ⟨w.heap.size + 1, 2, none⟩ (.int .i64 (zo p 2))) w.heap.size (fun k => k = w.heap.size + 1 + 1) (.slice (some ⟨w.heap.size + 1 + 1, 0, none⟩) (zq p 2).length 4) (zq p 2) from Kd.QG (p := ⟨w.heap.size + 1, 2, none⟩) HR.out (fun k hk => by rw [hk]; show w.heap.size + 1 + 1 ≠ w.heap.size + 1; omega) _)
   refine Qc (args' := #[.slice (some ⟨w.heap.size + 1 + 1, 0, none⟩) (zq p 2).length 4, .int .i64 ((ZC p 2).toNat : Int), .int .i64 (((ZC p 2).toNat : Int) + 1)]) (by rw [Int.toNat_of_nonneg hk0]) ?_
   refine (Zf.zCY (w.heap.size + 1 + 1) 4 (ZC p 2).toNat (zq p 2) w.heap.size (fun k => k = w.heap.size + 1 + 1) _ HRw.out (by omega)).mono ?_
   rintro e w1 ⟨rfl, hR1, hg1⟩
   have hl2 := HLN2.out
   have er : (zq p 2).eraseIdx (ZC p 2).toNat = zq p 3 := by rw [← HER.out, HX.out]
   rw [er, ← hl2] at hR1
   rw [← hl2]
   have HR2 := zA.mk hR1
   have B3a : (wr.setCell ⟨w.heap.size + 1, 2, none⟩ (.int .i64 (zo p 2))).heap[w.heap.size + 1]? = some (.cells #[.int .i64 (Zj p 3 0), .int .i64 (Zj p 3 1), .int .i64 (Zj p 3 2), .int .i64 (Zj p 3 3)] 108 (0, 0)) := qH B3.out 2 _ rfl
   have B3n := zA.mk (zu B3a hg1 (by simp))
   have B2n := zA.mk (zu (zv (p := ⟨w.heap.size + 1, 2, none⟩) B2.out (by show w.heap.size ≠ w.heap.size + 1; omega) (.int .i64 (zo p 2))) hg1 (by simp; omega))
   have B9n := zA.mk (zu (zv (p := ⟨w.heap.size + 1, 2, none⟩) B9.out (by show w.heap.size + 1 + 1 + 1 ≠ w.heap.size + 1; omega) (.int .i64 (zo p 2))) hg1 (by simp))
   have HBn := zA.mk (QS (zG (j := 2) (v := .int .i64 (zo p 2)) HB.out (show w.heap.size ≤ w.heap.size + 1 by omega)) (some (w.heap.size + 1 + 1)) (by have := HB.out.size; simp [World.setCell]; omega) hg1 (fun k hk => by injection hk with hk; omega))
   clear hR1 hg1 B3a HRw B3 B2 B9 HB HR er hl2 hx b9 b3 f3
   go_wp2
   go_roundg (4 - 3)
   case measure => omega
   case rel => exact ⟨3, by omega, by omega, by first | rfl | go_num, by rw [← HY.out], rfl, HR2, B3n, B2n, B9n, HBn⟩
  next =>
   have hK : 0 ≤ Zg p 1 ∧ Zg p 1 < (zq p 1).length := by have := HK.out; have := HL.out; omega
   have hP : 0 ≤ ZC p 1 ∧ ZC p 1 ≤ 23 := by have := HP.out; omega
   have HLN := zA.mk (show (zq p 1).length = 3 by have := HL.out; omega)
   have HLN2 := zA.mk (show (zq p 2).length = (zq p 1).length - 1 by have := HL.out; omega)
   obtain ⟨A1, q1, hA1, hq1, hC⟩ := Kd.Jb HR.out
   injection hA1 with hA1 hl1 hc1
   subst hA1
   clear hl1 hc1 hq1
   obtain ⟨ad, had, hx⟩ := Kd.qi hC (Zg p 1) hK.1 (by omega)
   injection had with had
   subst had
   rw [add_plain] at hx
   have HAT := zA.mk (show rd (zq p 1) (Zg p 1) = zo p 1 from rfl)
   rw [HAT.out] at hx
   have HER := zA.mk (show (zq p 1).eraseIdx (Zg p 1).toNat = zq p 2 from rfl)
   have hX : Zg p 1 = ZC p 1 / 2 := by have e : Zg p 1 = ZC p 1 / 2 := rfl; rw [e]
   have HY := zA.mk (show ZC p 1 % 2 = ZC p 2 by have e : ZC p 2 = ZC p 1 % 2 := rfl; rw [e])
   rw [hX] at hx hK
   have HX := zA.mk hX
   clear hX hC
   obtain ⟨hk0, hk1⟩ := hK
   obtain ⟨hp0, hp1⟩ := hP
   have b9 : wr.cell? ⟨w.heap.size + 1 + 1 + 1, 1, none⟩ = some (.int .i64 2) := (zJ B9.out 1).trans rfl
   have b3 : wr.cell? ⟨w.heap.size + 1, 1, none⟩ = some (.int .i64 (Zj p 1 1)) := (zJ B3.out 1).trans rfl
   have f3 := zL B3.out 1
   have hk2 : ZC p 1 / 2 < 9223372036854775807 := by omega
   go_wp2_with fail
   have HRw := zA.mk (show Kd.R (Kd.int .i64) 2 (wr.setCell ⟨w.heap.size + 1, 1, none⟩ (.int .i64 (zo p 1))) w.heap.size (fun k => k = w.heap.size + 1 + 1) (.slice (some ⟨w.heap.size + 1 + 1, 0, none⟩) (zq p 1).length 4) (zq p 1) from Kd.QG (p := ⟨w.heap.size + 1, 1, none⟩) HR.out (fun k hk => by rw [hk]; show w.heap.size + 1 + 1 ≠ w.heap.size + 1; omega) _)
   refine Qc (args' := #[.slice (some ⟨w.heap.size + 1 + 1, 0, none⟩) (zq p 1).length 4, .int .i64 ((ZC p 1 / 2).toNat : Int), .int .i64 (((ZC p 1 / 2).toNat : Int) + 1)]) (by rw [Int.toNat_of_nonneg hk0]) ?_
   refine (Zf.zCY (w.heap.size + 1 + 1) 4 (ZC p 1 / 2).toNat (zq p 1) w.heap.size (fun k => k = w.heap.size + 1 + 1) _ HRw.out (by omega)).mono ?_
   rintro e w1 ⟨rfl, hR1, hg1⟩
   have hl2 := HLN2.out
   have er : (zq p 1).eraseIdx (ZC p 1 / 2).toNat = zq p 2 := by rw [← HER.out, HX.out]
   rw [er, ← hl2] at hR1
   rw [← hl2]
   have HR2 := zA.mk hR1
   have B3a : (wr.setCell ⟨w.heap.size + 1, 1, none⟩ (.int .i64 (zo p 1))).heap[w.heap.size + 1]? = some (.cells #[.int .i64 (Zj p 2 0), .int .i64 (Zj p 2 1), .int .i64 (Zj p 2 2), .int .i64 (Zj p 2 3)] 108 (0, 0)) := qH B3.out 1 _ rfl
   have B3n := zA.mk (zu B3a hg1 (by simp))
   have B2n := zA.mk (zu (zv (p := ⟨w.heap.size + 1, 1, none⟩) B2.out (by show w.heap.size ≠ w.heap.size + 1; omega) (.int .i64 (zo p 1))) hg1 (by simp; omega))
   have B9n := zA.mk (zu (zv (p := ⟨w.heap.size + 1, 1, none⟩) B9.out (by show w.heap.size + 1 + 1 + 1 ≠ w.heap.size + 1; omega) (.int .i64 (zo p 1))) hg1 (by simp))
   have HBn := zA.mk (QS (zG (j := 1) (v := .int .i64 (zo p 1)) HB.out (show w.heap.size ≤ w.heap.size + 1 by omega)) (some (w.heap.size + 1 + 1)) (by have := HB.out.size; simp [World.setCell]; omega) hg1 (fun k hk => by injection hk with hk; omega))
   clear hR1 hg1 B3a HRw B3 B2 B9 HB HR er hl2 hx b9 b3 f3
   go_wp2
   go_roundg (4 - 2)
   case measure => omega
   case rel => exact ⟨2, by omega, by omega, by first | rfl | go_num, by rw [← HY.out], rfl, HR2, B3n, B2n, B9n, HBn⟩
  next =>
   have hK : 0 ≤ Zg p 0 ∧ Zg p 0 < (zq p 0).length := by have := HK.out; have := HL.out; omega
   have hP : 0 ≤ ZC p 0 ∧ ZC p 0 ≤ 23 := by have := HP.out; omega
   have HLN := zA.mk (show (zq p 0).length = 4 by have := HL.out; omega)
   have HLN2 := zA.mk (show (zq p 1).length = (zq p 0).length - 1 by have := HL.out; omega)
   obtain ⟨A1, q1, hA1, hq1, hC⟩ := Kd.Jb HR.out
   injection hA1 with hA1 hl1 hc1
   subst hA1
   clear hl1 hc1 hq1
   obtain ⟨ad, had, hx⟩ := Kd.qi hC (Zg p 0) hK.1 (by omega)
   injection had with had
   subst had
   rw [add_plain] at hx
   have HAT := zA.mk (show rd (zq p 0) (Zg p 0) = zo p 0 from rfl)
   rw [HAT.out] at hx
   have HER := zA.mk (show (zq p 0).eraseIdx (Zg p 0).toNat = zq p 1 from rfl)
   have hX : Zg p 0 = ZC p 0 / 6 := by have e : Zg p 0 = ZC p 0 / 6 := rfl; rw [e]
   have HY := zA.mk (show ZC p 0 % 6 = ZC p 1 by have e : ZC p 1 = ZC p 0 % 6 := rfl; rw [e])
   rw [hX] at hx hK
   have HX := zA.mk hX
   clear hX hC
   obtain ⟨hk0, hk1⟩ := hK
   obtain ⟨hp0, hp1⟩ := hP
   have b9 : wr.cell? ⟨w.heap.size + 1 + 1 + 1, 0, none⟩ = some (.int .i64 6) := (zJ B9.out 0).trans rfl
   have b3 : wr.cell? ⟨w.heap.size + 1, 0, none⟩ = some (.int .i64 (Zj p 0 0)) := (zJ B3.out 0).trans rfl
   have f3 := zL B3.out 0
   have hk2 : ZC p 0 / 6 < 9223372036854775807 := by omega
   go_wp2_with fail
   have HRw := zA.mk (show Kd.R (Kd.int .i64) 2 (wr.setCell ⟨w.heap.size + 1, 0, none⟩ (.int .i64 (zo p 0))) w.heap.size (fun k => k = w.heap.size + 1 + 1) (.slice (some ⟨w.heap.size + 1 + 1, 0, none⟩) (zq p 0).length 4) (zq p 0) from Kd.QG (p := ⟨w.heap.size + 1, 0, none⟩) HR.out (fun k hk => by rw [hk]; show w.heap.size + 1 + 1 ≠ w.heap.size + 1; omega) _)
   refine Qc (args' := #[.slice (some ⟨w.heap.size + 1 + 1, 0, none⟩) (zq p 0).length 4, .int .i64 ((ZC p 0 / 6).toNat : Int), .int .i64 (((ZC p 0 / 6).toNat : Int) + 1)]) (by rw [Int.toNat_of_nonneg hk0]) ?_
   refine (Zf.zCY (w.heap.size + 1 + 1) 4 (ZC p 0 / 6).toNat (zq p 0) w.heap.size (fun k => k = w.heap.size + 1 + 1) _ HRw.out (by omega)).mono ?_
   rintro e w1 ⟨rfl, hR1, hg1⟩
   have hl2 := HLN2.out
   have er : (zq p 0).eraseIdx (ZC p 0 / 6).toNat = zq p 1 := by rw [← HER.out, HX.out]
   rw [er, ← hl2] at hR1
   rw [← hl2]
   have HR2 := zA.mk hR1
   have B3a : (wr.setCell ⟨w.heap.size + 1, 0, none⟩ (.int .i64 (zo p 0))).heap[w.heap.size + 1]? = some (.cells #[.int .i64 (Zj p 1 0), .int .i64 (Zj p 1 1), .int .i64 (Zj p 1 2), .int .i64 (Zj p 1 3)] 108 (0, 0)) := qH B3.out 0 _ rfl
   have B3n := zA.mk (zu B3a hg1 (by simp))
   have B2n := zA.mk (zu (zv (p := ⟨w.heap.size + 1, 0, none⟩) B2.out (by show w.heap.size ≠ w.heap.size + 1; omega) (.int .i64 (zo p 0))) hg1 (by simp; omega))
   have B9n := zA.mk (zu (zv (p := ⟨w.heap.size + 1, 0, none⟩) B9.out (by show w.heap.size + 1 + 1 + 1 ≠ w.heap.size + 1; omega) (.int .i64 (zo p 0))) hg1 (by simp))
   have HBn := zA.mk (QS (zG (j := 0) (v := .int .i64 (zo p 0)) HB.out (show w.heap.size ≤ w.heap.size + 1 by omega)) (some (w.heap.size + 1 + 1)) (by have := HB.out.size; simp [World.setCell]; omega) hg1 (fun k hk => by injection hk with hk; omega))
   clear hR1 hg1 B3a HRw B3 B2 B9 HB HR er hl2 hx b9 b3 f3
   go_wp2
   go_roundg (4 - 1)
   case measure => omega
   case rel => exact ⟨1, by omega, by omega, by first | rfl | go_num, by rw [← HY.out], rfl, HR2, B3n, B2n, B9n, HBn⟩
def sgJ (l : List Int) (i : Nat) (s : Int) : Nat → Int
  | 0 => s
  | j + 1 => if rd l j > rd l i then -(sgJ l i s j) else sgJ l i s j
def sgI (l : List Int) : Nat → Int
  | 0 => 1
  | i + 1 => sgJ l i (sgI l i) i
def zBd (p : Int) : Int := sgI (ZR p) 4
theorem zB0 (l : List Int) (i : Nat) (s : Int) (h : -1 ≤ s ∧ s ≤ 1) : ∀ j, -1 ≤ sgJ l i s j ∧ sgJ l i s j ≤ 1
  | 0 => h
  | j + 1 => by have := zB0 l i s h j; unfold sgJ; split <;> omega
theorem zDX (l : List Int) : ∀ i, -1 ≤ sgI l i ∧ sgI l i ≤ 1
  | 0 => by unfold sgI; omega
  | i + 1 => zB0 l i _ (zDX l i) i
def Qd.f (a0 : Int) : Option Int := if 0 ≤ a0 ∧ a0 ≤ 23 then some (zBd a0) else none
set_option maxHeartbeats 8000000 in
set_option maxRecDepth 100000 in
theorem Qd.calls (a0 : Int) (r : Int) (w : World) (h : Qd.f a0 = some r) :
    Calls Try.prog 82 #[.int .i64 a0] w fun e w' => e = .returned (.int .i64 r) ∧ Below w.heap.size w w' := by
  unfold Qd.f at h
  by_cases hc : 0 ≤ a0 ∧ a0 ≤ 23
  case neg => rw [if_neg hc] at h; exact absurd h (by simp)
  rw [if_pos hc] at h
  have hr : zBd a0 = r := yey h
  clear h
  subst hr
  obtain ⟨h0, h1⟩ := hc
  have H0 := zA.mk h0
  have H1 := zA.mk h1
  clear h0 h1
  go_enter Try.func82, Try.ntmps82
  go_wp2_with fail
  refine (Qx.calls _ _ H0.out H1.out).mono ?_
  rintro e w1 ⟨rfl, hb⟩
  have HB := zA.mk hb
  clear hb
  have HPL := zA.mk (show ZR a0 = [zo a0 0, zo a0 1, zo a0 2, zo a0 3] from rfl)
  have HIP := zA.mk (show zBd a0 = sgI (ZR a0) 4 from rfl)
  generalize ZR a0 = l at HPL HIP
  generalize zo a0 0 = x0 at HPL ⊢
  generalize zo a0 1 = x1 at HPL ⊢
  generalize zo a0 2 = x2 at HPL ⊢
  generalize zo a0 3 = x3 at HPL ⊢
  have HL := zA.mk (zDX l)
  go_wp2_with fail
  go_loopg [4, 12] 4 (fun gg v4 v12 w' => ∃ i : Nat, i ≤ 4 ∧ 4 - i ≤ gg ∧ v12 = .int .i64 i ∧ v4 = .int .i64 (sgI l i) ∧
    zA (w'.heap[w1.heap.size]? = some (.cells #[.int .i64 x0, .int .i64 x1, .int .i64 x2, .int .i64 x3] 108 (0, 0))) ∧ zA (Below w.heap.size w w'))
  case atStart => exact ⟨0, by omega, by omega, rfl, rfl, ⟨ZH rfl _⟩, ⟨zD HB.out _⟩⟩
  case round =>
    clear HB
    obtain ⟨i, hi, hg, rfl, rfl, B, HB⟩ := hrel
    rcases (show i = 4 ∨ i = 3 ∨ i = 2 ∨ i = 1 ∨ i = 0 by omega) with rfl | rfl | rfl | rfl | rfl
    · go_wp2
      go_ret
      exact ⟨by rw [HIP.out]; rfl, HB.out⟩
    · have HD := zA.mk (show ∀ j : Nat, sgJ l 3 (sgI l 3) (j + 1) = if rd l j > rd l (3 : Nat) then -(sgJ l 3 (sgI l 3) j) else sgJ l 3 (sgI l 3) j from fun _ => rfl)
      have HE := zA.mk (show sgI l (3 + 1) = sgJ l 3 (sgI l 3) 3 from rfl)
      have HJ := zA.mk (zB0 l 3 _ (HL.out 3))
      have HX := zA.mk (show rd l (3 : Nat) = x3 by rw [HPL.out]; rfl)
      have HZ := zA.mk (show sgI l 3 = sgJ l 3 (sgI l 3) 0 from rfl)
      have hidx : ∀ w_ : World, (Instr.index 108 (.agg #[.int .i64 x0, .int .i64 x1, .int .i64 x2, .int .i64 x3]) (.int .i64 3)).run Try.prog w_ = .ok (.int .i64 x3) w_ := ZZ x0 x1 x2 x3 3 (by omega) (by omega)
      go_wp2_with fail
      go_loopg [4, 19] 3 (fun gg v4 v19 w' => ∃ j : Nat, j ≤ 3 ∧ 3 - j ≤ gg ∧ v19 = .int .i64 j ∧ v4 = .int .i64 (sgJ l 3 (sgI l 3) j) ∧ w' = wr)
      case atStart => exact ⟨0, by omega, by omega, rfl, by rw [← HZ.out], rfl⟩
      case round =>
        obtain ⟨j, hj, hg2, rfl, rfl, rfl⟩ := hrel
        by_cases hlt : j < 3
        · have hltz : (j : Int) < 3 := by omega
          have bj : wr.cell? ⟨w1.heap.size, j, none⟩ = some (.int .i64 (rd l (j : Nat))) := by
            have := ZU B.out (j : Int) (by omega) (by omega)
            rw [← HPL.out, yny] at this
            exact this
          have hbd := HJ.out j
          obtain ⟨hbd1, hbd2⟩ := hbd
          have HN := zA.mk (HD.out j)
          rw [HX.out] at HN
          generalize sgJ l 3 (sgI l 3) j = sv at HN hbd1 hbd2 ⊢
          generalize rd l (j : Nat) = xj at bj HN
          by_cases hless : xj > x3
          · have hd1 : decide (x3 < xj) = true := ygy hless
            go_wp2
            go_roundg (3 - (j + 1))
            case measure => omega
            case rel => exact ⟨j + 1, by omega, by omega, by go_num, by rw [HN.out, if_pos hless], rfl⟩
          · have hd1 : decide (x3 < xj) = false := yhy hless
            go_wp2
            go_roundg (3 - (j + 1))
            case measure => omega
            case rel => exact ⟨j + 1, by omega, by omega, by go_num, by rw [HN.out, if_neg (by omega)], rfl⟩
        · obtain rfl : j = 3 := by omega
          have HK := zA.mk HE.out.symm
          generalize sgJ l 3 (sgI l 3) 3 = sv at HK ⊢
          go_wp2
          go_roundg (4 - (3 + 1))
          case measure => omega
          case rel => exact ⟨3 + 1, by omega, by omega, by first | rfl | go_num, by rw [HK.out], B, HB⟩
    · have HD := zA.mk (show ∀ j : Nat, sgJ l 2 (sgI l 2) (j + 1) = if rd l j > rd l (2 : Nat) then -(sgJ l 2 (sgI l 2) j) else sgJ l 2 (sgI l 2) j from fun _ => rfl)
      have HE := zA.mk (show sgI l (2 + 1) = sgJ l 2 (sgI l 2) 2 from rfl)
      have HJ := zA.mk (zB0 l 2 _ (HL.out 2))
      have HX := zA.mk (show rd l (2 : Nat) = x2 by rw [HPL.out]; rfl)
      have HZ := zA.mk (show sgI l 2 = sgJ l 2 (sgI l 2) 0 from rfl)
      have hidx : ∀ w_ : World, (Instr.index 108 (.agg #[.int .i64 x0, .int .i64 x1, .int .i64 x2, .int .i64 x3]) (.int .i64 2)).run Try.prog w_ = .ok (.int .i64 x2) w_ := ZZ x0 x1 x2 x3 2 (by omega) (by omega)
      go_wp2_with fail
      go_loopg [4, 19] 2 (fun gg v4 v19 w' => ∃ j : Nat, j ≤ 2 ∧ 2 - j ≤ gg ∧ v19 = .int .i64 j ∧ v4 = .int .i64 (sgJ l 2 (sgI l 2) j) ∧ w' = wr)
      case atStart => exact ⟨0, by omega, by omega, rfl, by rw [← HZ.out], rfl⟩
      case round =>
        obtain ⟨j, hj, hg2, rfl, rfl, rfl⟩ := hrel
        by_cases hlt : j < 2
        · have hltz : (j : Int) < 2 := by omega
          have bj : wr.cell? ⟨w1.heap.size, j, none⟩ = some (.int .i64 (rd l (j : Nat))) := by
            have := ZU B.out (j : Int) (by omega) (by omega)
            rw [← HPL.out, yny] at this
            exact this
          have hbd := HJ.out j
          obtain ⟨hbd1, hbd2⟩ := hbd
          have HN := zA.mk (HD.out j)
          rw [HX.out] at HN
          generalize sgJ l 2 (sgI l 2) j = sv at HN hbd1 hbd2 ⊢
          generalize rd l (j : Nat) = xj at bj HN
          by_cases hless : xj > x2
          · have hd1 : decide (x2 < xj) = true := ygy hless
            go_wp2
            go_roundg (2 - (j + 1))
            case measure => omega
            case rel => exact ⟨j + 1, by omega, by omega, by go_num, by rw [HN.out, if_pos hless], rfl⟩
          · have hd1 : decide (x2 < xj) = false := yhy hless
            go_wp2
            go_roundg (2 - (j + 1))
            case measure => omega
            case rel => exact ⟨j + 1, by omega, by omega, by go_num, by rw [HN.out, if_neg (by omega)], rfl⟩
        · obtain rfl : j = 2 := by omega
          have HK := zA.mk HE.out.symm
          generalize sgJ l 2 (sgI l 2) 2 = sv at HK ⊢
          go_wp2
          go_roundg (4 - (2 + 1))
          case measure => omega
          case rel => exact ⟨2 + 1, by omega, by omega, by first | rfl | go_num, by rw [HK.out], B, HB⟩
    · have HD := zA.mk (show ∀ j : Nat, sgJ l 1 (sgI l 1) (j + 1) = if rd l j > rd l (1 : Nat) then -(sgJ l 1 (sgI l 1) j) else sgJ l 1 (sgI l 1) j from fun _ => rfl)
      have HE := zA.mk (show sgI l (1 + 1) = sgJ l 1 (sgI l 1) 1 from rfl)
      have HJ := zA.mk (zB0 l 1 _ (HL.out 1))
      have HX := zA.mk (show rd l (1 : Nat) = x1 by rw [HPL.out]; rfl)
      have HZ := zA.mk (show sgI l 1 = sgJ l 1 (sgI l 1) 0 from rfl)
      have hidx : ∀ w_ : World, (Instr.index 108 (.agg #[.int .i64 x0, .int .i64 x1, .int .i64 x2, .int .i64 x3]) (.int .i64 1)).run Try.prog w_ = .ok (.int .i64 x1) w_ := ZZ x0 x1 x2 x3 1 (by omega) (by omega)
      go_wp2_with fail
      go_loopg [4, 19] 1 (fun gg v4 v19 w' => ∃ j : Nat, j ≤ 1 ∧ 1 - j ≤ gg ∧ v19 = .int .i64 j ∧ v4 = .int .i64 (sgJ l 1 (sgI l 1) j) ∧ w' = wr)
      case atStart => exact ⟨0, by omega, by omega, rfl, by rw [← HZ.out], rfl⟩
      case round =>
        obtain ⟨j, hj, hg2, rfl, rfl, rfl⟩ := hrel
        by_cases hlt : j < 1
        · have hltz : (j : Int) < 1 := by omega
          have bj : wr.cell? ⟨w1.heap.size, j, none⟩ = some (.int .i64 (rd l (j : Nat))) := by
            have := ZU B.out (j : Int) (by omega) (by omega)
            rw [← HPL.out, yny] at this
            exact this
          have hbd := HJ.out j
          obtain ⟨hbd1, hbd2⟩ := hbd
          have HN := zA.mk (HD.out j)
          rw [HX.out] at HN
          generalize sgJ l 1 (sgI l 1) j = sv at HN hbd1 hbd2 ⊢
          generalize rd l (j : Nat) = xj at bj HN
          by_cases hless : xj > x1
          · have hd1 : decide (x1 < xj) = true := ygy hless
            go_wp2
            go_roundg (1 - (j + 1))
            case measure => omega
            case rel => exact ⟨j + 1, by omega, by omega, by go_num, by rw [HN.out, if_pos hless], rfl⟩
          · have hd1 : decide (x1 < xj) = false := yhy hless
            go_wp2
            go_roundg (1 - (j + 1))
            case measure => omega
            case rel => exact ⟨j + 1, by omega, by omega, by go_num, by rw [HN.out, if_neg (by omega)], rfl⟩
        · obtain rfl : j = 1 := by omega
          have HK := zA.mk HE.out.symm
          generalize sgJ l 1 (sgI l 1) 1 = sv at HK ⊢
          go_wp2
          go_roundg (4 - (1 + 1))
          case measure => omega
          case rel => exact ⟨1 + 1, by omega, by omega, by first | rfl | go_num, by rw [HK.out], B, HB⟩
    · have HD := zA.mk (show ∀ j : Nat, sgJ l 0 (sgI l 0) (j + 1) = if rd l j > rd l (0 : Nat) then -(sgJ l 0 (sgI l 0) j) else sgJ l 0 (sgI l 0) j from fun _ => rfl)
      have HE := zA.mk (show sgI l (0 + 1) = sgJ l 0 (sgI l 0) 0 from rfl)
      have HJ := zA.mk (zB0 l 0 _ (HL.out 0))
      have HX := zA.mk (show rd l (0 : Nat) = x0 by rw [HPL.out]; rfl)
      have HZ := zA.mk (show sgI l 0 = sgJ l 0 (sgI l 0) 0 from rfl)
      have hidx : ∀ w_ : World, (Instr.index 108 (.agg #[.int .i64 x0, .int .i64 x1, .int .i64 x2, .int .i64 x3]) (.int .i64 0)).run Try.prog w_ = .ok (.int .i64 x0) w_ := ZZ x0 x1 x2 x3 0 (by omega) (by omega)
      go_wp2_with fail
      go_loopg [4, 19] 0 (fun gg v4 v19 w' => ∃ j : Nat, j ≤ 0 ∧ 0 - j ≤ gg ∧ v19 = .int .i64 j ∧ v4 = .int .i64 (sgJ l 0 (sgI l 0) j) ∧ w' = wr)
      case atStart => exact ⟨0, by omega, by omega, rfl, by rw [← HZ.out], rfl⟩
      case round =>
        obtain ⟨j, hj, hg2, rfl, rfl, rfl⟩ := hrel
        by_cases hlt : j < 0
        · have hltz : (j : Int) < 0 := by omega
          have bj : wr.cell? ⟨w1.heap.size, j, none⟩ = some (.int .i64 (rd l (j : Nat))) := by
            have := ZU B.out (j : Int) (by omega) (by omega)
            rw [← HPL.out, yny] at this
            exact this
          have hbd := HJ.out j
          obtain ⟨hbd1, hbd2⟩ := hbd
          have HN := zA.mk (HD.out j)
          rw [HX.out] at HN
          generalize sgJ l 0 (sgI l 0) j = sv at HN hbd1 hbd2 ⊢
          generalize rd l (j : Nat) = xj at bj HN
          by_cases hless : xj > x0
          · have hd1 : decide (x0 < xj) = true := ygy hless
            go_wp2
            go_roundg (0 - (j + 1))
            case measure => omega
            case rel => exact ⟨j + 1, by omega, by omega, by go_num, by rw [HN.out, if_pos hless], rfl⟩
          · have hd1 : decide (x0 < xj) = false := yhy hless
            go_wp2
            go_roundg (0 - (j + 1))
            case measure => omega
            case rel => exact ⟨j + 1, by omega, by omega, by go_num, by rw [HN.out, if_neg (by omega)], rfl⟩
        · obtain rfl : j = 0 := by omega
          have HK := zA.mk HE.out.symm
          generalize sgJ l 0 (sgI l 0) 0 = sv at HK ⊢
          go_wp2
          go_roundg (4 - (0 + 1))
          case measure => omega
          case rel => exact ⟨0 + 1, by omega, by omega, by first | rfl | go_num, by rw [HK.out], B, HB⟩
def Qq (i : Int) : List zh → List Int × List Int × Bool → List Int × List Int × Bool
  | [], s => s
  | x :: xs, s => Qq i xs (if x.f0 < 0 then s else vis s.1 s.2.1 s.2.2 i x.f0 (wrap64 (-(zBd x.f1))))
theorem zEP (sg qu : List Int) (ok : Bool) (i k t : Int) : (vis sg qu ok i k t).1.length = sg.length := by
  unfold vis
  split
  · simp
  · split <;> rfl
theorem vis_qu (sg qu : List Int) (ok : Bool) (i k t : Int) : (vis sg qu ok i k t).2.1 = qu ∨ (vis sg qu ok i k t).2.1 = qu ++ [k] := by
  unfold vis; split
  · exact .inr rfl
  · split <;> exact .inl rfl
theorem zEQ (qu : List Int) (k i : Int) (h0 : 0 ≤ i) (h1 : i < qu.length) : rd (qu ++ [k]) i = rd qu i := by
  have h2 : i.toNat < qu.length := by omega
  simp [rd, List.getD_eq_getElem?_getD, List.getElem?_append_left h2]
theorem zEg (p : Int) : -1 ≤ zBd p ∧ zBd p ≤ 1 := zDX _ _
set_option maxHeartbeats 8000000 in
set_option maxRecDepth 100000 in
theorem Jt.calls (l : List (List zh)) (A0 : Option Addr) (c0 gt : Nat) (x : Int) (gs gq gi go bs cs : Nat) (i : Int) (sg0 qu0 : List Int) (ok0 : Bool) (vq0 : Value) (w0 w : World)
    (hS : Sg w0 w gs gq gi go bs cs i sg0 qu0 ok0 vq0) (bT : w0.heap[gt]? = some (.cells #[.slice A0 l.length c0] 28 (0, 0))) (hT : Kd.C (Kd.slice 74 qJ) w0 A0 l.length l)
    (hx0 : 0 ≤ x) (hx1 : x < l.length) (hsg : sg0.length = l.length) (hi0 : 0 ≤ i) (hi1 : i < qu0.length) (hq0 : 0 ≤ rd qu0 i) (hq1 : rd qu0 i < l.length)
    (hr : (zC l x).length ≤ 4) (hF : ∀ y ∈ zC l x, ¬ y.f0 < 0 → 0 ≤ y.f0 ∧ y.f0 < l.length ∧ 0 ≤ y.f1 ∧ y.f1 ≤ 23) (hn : qu0.length < 999000) :
    Calls Try.prog 171 #[.int .i64 x, .func (.func 182) #[] #[.pointer (some ⟨gs, 0, none⟩), .pointer (some ⟨gq, 0, none⟩), .pointer (some ⟨gi, 0, none⟩), .pointer (some ⟨go, 0, none⟩)], .pointer (some ⟨gt, 0, none⟩)] w
      fun e w' => e = .returned (.tuple #[]) ∧ ∃ vq', Sg w0 w' gs gq gi go bs cs i (Qq i (zC l x) (sg0, qu0, ok0)).1 (Qq i (zC l x) (sg0, qu0, ok0)).2.1 (Qq i (zC l x) (sg0, qu0, ok0)).2.2 vq' := by
  obtain ⟨ad1, A1, c1, e1, hy1, hl1, hC1⟩ := qt hT x hx0 hx1
  subst e1
  generalize hrow : zC l x = row at *
  have hbT : w.heap[gt]? = some (.cells #[.slice (some ad1) l.length c0] 28 (0, 0)) := (hS.below.block _ (qE bT)).trans bT
  have hyT : w.cell? ⟨gt, 0, none⟩ = some (.slice (some ad1) l.length c0) := (zJ hbT 0).trans rfl
  replace hy1 := (hS.below.cell (yoy w0 _ hy1)).trans hy1
  have HC1 := zA.mk hC1
  have HS := zA.mk hS
  have HF := zA.mk hF
  have HR := zA.mk (And.intro hr (And.intro hsg hn))
  have HQ := zA.mk (And.intro hi0 (And.intro hi1 (And.intro hq0 hq1)))
  clear hC1 hS hF hr hsg hn hi0 hi1 hq0 hq1 hT bT hbT hrow
  go_enter Try.func171, Try.ntmps171
  go_wp2
  go_loopg [13] row.length (fun gg v13 w' => ∃ (j : Nat) (sg qu : List Int) (ok : Bool) (vq : Value), j ≤ row.length ∧ row.length - j ≤ gg ∧ v13 = .int .i64 j ∧ zA (Qq i (row.drop j) (sg, qu, ok) = Qq i row (sg0, qu0, ok0)) ∧ zA (Sg w0 w' gs gq gi go bs cs i sg qu ok vq) ∧ zA (sg.length = l.length ∧ i < qu.length ∧ rd qu i = rd qu0 i ∧ qu.length ≤ qu0.length + j))
  case atStart => exact ⟨0, sg0, qu0, ok0, vq0, Nat.zero_le _, by omega, rfl, ⟨by rw [List.drop_zero]⟩, HS, ⟨HR.out.2.1, HQ.out.2.1, rfl, by omega⟩⟩
  case round =>
    clear HS hyT hy1
    obtain ⟨j, sg, qu, ok, vq, hj, hg, rfl, HA, HS, HX⟩ := hrel
    by_cases hlt : j < row.length
    · have hltz : (j : Int) < (row.length : Int) := by omega
      have h4 : row.length ≤ 4 := HR.out.1
      obtain ⟨ad2, e2, hy2, hy3⟩ := ZM HC1.out (j : Int) (by omega) hltz
      subst e2
      replace hy2 := (HS.out.below.cell (yoy w0 _ hy2)).trans hy2
      replace hy3 := (HS.out.below.cell (yoy w0 _ hy3)).trans hy3
      have HY := zA.mk (HF.out row[j] (List.getElem_mem hlt))
      have HA2 := HA.out
      rw [List.drop_eq_getElem_cons hlt, Qq] at HA2
      have HA3 := zA.mk HA2
      clear HA HA2
      have ex : zF row (j : Int) = row[j] := by simp [zF, hlt]
      rw [ex, yny] at hy2 hy3
      generalize row[j] = y at hy2 hy3 HY HA3
      obtain ⟨f0, f1⟩ := y
      clear ex
      have BF := zA.mk (ZH (W := wr) rfl (.cells #[.int .i64 f0, .int .i64 f1] 74))
      have HS1 := zA.mk (HS.out.stays (zD (yqy _ _) (.cells #[.int .i64 f0, .int .i64 f1] 74)))
      clear HS
      by_cases hb : f0 < 0
      · rw [if_pos hb] at HA3
        have d0 : decide (f0 < 0) = true := ygy hb
        go_wp2_with (first | (go_at_call 75; (with_reducible refine (qf.calls f0 f1 true _ (by unfold qf.f; rw [d0])).mono ?_); rintro e w2 ⟨rfl, hnd⟩; have HS2 := zA.mk (HS1.out.stays hnd); clear HS1 BF hnd))
        go_roundg (row.length - (j + 1))
        case measure => omega
        case rel => exact ⟨j + 1, sg, qu, ok, vq, by omega, by omega, by go_num, HA3, HS2, ⟨HX.out.1, HX.out.2.1, HX.out.2.2.1, by have := HX.out.2.2.2; omega⟩⟩
      · rw [if_neg hb] at HA3
        have d0 : decide (f0 < 0) = false := yhy hb
        have HP := zA.mk (show 0 ≤ f1 ∧ f1 ≤ 23 from by have h_ := HY.out (by first | exact hb | (show (0 : Int) ≤ f0; omega)); exact ⟨h_.2.2.1, h_.2.2.2⟩)
        have HG := zA.mk (show 0 ≤ f0 ∧ f0 < l.length from by have h_ := HY.out (by first | exact hb | (show (0 : Int) ≤ f0; omega)); exact ⟨h_.1, h_.2.1⟩)
        have HSG := zA.mk (show Qd.f f1 = some (zBd f1) from if_pos ⟨HP.out.1, HP.out.2⟩)
        have hbd := zEg f1
        dsimp only at HA3
        generalize zBd f1 = sv at hbd HSG HA3
        obtain ⟨hbd1, hbd2⟩ := hbd
        clear HY
        go_wp2_with (first | (go_at_call 75; (with_reducible refine (qf.calls f0 f1 false _ (by unfold qf.f; rw [d0])).mono ?_); rintro e w2 ⟨rfl, hnd⟩; have HS2 := zA.mk (HS1.out.stays hnd); have BF2 := zA.mk (zN BF.out hnd); clear HS1 BF hnd; have BF := BF2; clear BF2))
        obtain ⟨bq, cq, rfl, _, _, _⟩ := Kd.JJ HS2.out.rQ (by have := HX.out.2.1; have := HQ.out.1; omega)
        refine ZN (n := 8) (S := fun w' => w'.cell? ⟨wr.heap.size, 0, none⟩ = some (.int .i64 f0) ∧ w'.cell? ⟨wr.heap.size, 1, none⟩ = some (.int .i64 f1)) (ds := []) #[false, false, false, false, false, false, false, false] (by kernel_rfl) rfl rfl ⟨(zJ BF.out 0).trans rfl, (zJ BF.out 1).trans rfl⟩ (fun hHeld => ?_)
        have HS3 := zA.mk HS2.out.drew
        have BF3 := zA.mk (zK BF.out)
        clear HS2 BF
        have HS2 := HS3
        have BF := BF3
        clear HS3 BF3
        generalize w2.drew = w22 at HS2 BF hHeld ⊢
        refine zg (i := 0) (N := some 20) (v := ?_) (a' := ?_) #[true, false, false, false, false, false, false, false] rfl rfl (by kernel_rfl) (fun _ _ _ h => h) (Or.inl ⟨by rfl, ?_⟩) ?_ ?_
        rotate_left
        · intro w'
          go_simp
          with_reducible rfl
        rotate_left
        · simp only [Act.put, yay, yby, ycy, zT, zU]
          rfl
        refine zg (i := 1) (N := some 21) (v := ?_) (a' := ?_) #[true, true, false, false, false, false, false, false] rfl rfl (by kernel_rfl) (fun _ _ _ h => h) (Or.inl ⟨by rfl, ?_⟩) ?_ ?_
        rotate_left
        · intro w'
          go_simp
          with_reducible rfl
        rotate_left
        · simp only [Act.put, yay, yby, ycy, zT, zU]
          rfl
        refine qQ (i := 2) (N := some 22) (v := ?_) (a' := ?_) #[true, true, true, false, false, false, false, false] rfl rfl (by kernel_rfl) (fun _ _ _ h => h) (Or.inl ⟨by rfl, ?_⟩) hHeld ?_ ?_
        rotate_left
        · rintro w' ⟨s0, s1⟩
          go_simp
          with_reducible rfl
        rotate_left
        · simp only [Act.put, yay, yby, ycy, zT, zU]
          rfl
        refine zg (i := 3) (N := some 23) (v := ?_) (a' := ?_) #[true, true, true, true, false, false, false, false] rfl rfl (by kernel_rfl) (fun _ _ _ h => h) (Or.inl ⟨by rfl, ?_⟩) ?_ ?_
        rotate_left
        · intro w'
          go_simp
          with_reducible rfl
        rotate_left
        · simp only [Act.put, yay, yby, ycy, zT, zU]
          rfl
        refine qQ (i := 4) (N := some 24) (v := ?_) (a' := ?_) #[true, true, true, true, true, false, false, false] rfl rfl (by kernel_rfl) (fun _ _ _ h => h) (Or.inl ⟨by rfl, ?_⟩) hHeld ?_ ?_
        rotate_left
        · rintro w' ⟨s0, s1⟩
          go_simp
          with_reducible rfl
        rotate_left
        · simp only [Act.put, yay, yby, ycy, zT, zU]
          rfl
        refine QH (i := 5) (N := some 25) #[true, true, true, true, true, true, false, false] rfl rfl (by kernel_rfl) (by decide) (fun K hK => ?_)
        refine Zv Try.func82 (by kernel_rfl) rfl #[.int .i64 f1] (by rfl) rfl rfl (by (try simp only [yiy, yjy, yky]); first | done | rfl) ?_
        refine (Qd.calls f1 sv _ HSG.out).mono ?_
        rintro e w3 ⟨rfl, hb3⟩
        refine ⟨_, rfl, ?_⟩
        have HS3 := zA.mk (HS2.out.stays hb3)
        have BF3 := zA.mk (zN BF.out hb3)
        clear HS2 BF hb3
        have BF := BF3
        have HS2 := HS3
        clear BF3 HS3
        refine hK.out _ _ ⟨(zJ BF.out 0).trans rfl, (zJ BF.out 1).trans rfl⟩ (fun hHeld => ?_)
        clear hK K
        refine ZQ (a' := ?_) ?_ ?_
        rotate_left
        · show Act.put _ (some 25) _ = _
          simp only [Act.put, yay, yby, ycy, zT, zU]
          rfl
        refine zg (i := 6) (N := some 26) (v := ?_) (a' := ?_) #[true, true, true, true, true, true, true, false] rfl rfl (by kernel_rfl) (fun _ _ _ h => h) (Or.inl ⟨by rfl, ?_⟩) ?_ ?_
        rotate_left
        · intro w'
          go_simp
          with_reducible rfl
        rotate_left
        · simp only [Act.put, yay, yby, ycy, zT, zU]
          rfl
        refine QH (i := 7) (N := some 27) #[true, true, true, true, true, true, true, true] rfl rfl (by kernel_rfl) (by decide) (fun K hK => ?_)
        refine goesF_ (f := 182) Try.func182 (by kernel_rfl) rfl #[.int .i64 f0, .int .i64 (wrap64 (-sv))] #[.int .i64 f0, .int .i64 (wrap64 (-sv)), .pointer (some ⟨gs, 0, none⟩), .pointer (some ⟨gq, 0, none⟩), .pointer (some ⟨gi, 0, none⟩), .pointer (some ⟨go, 0, none⟩)] (by rfl) rfl rfl rfl (by (try simp only [yiy, yjy, yky]); first | done | rfl) (by rfl) ?_
        refine (zBT.calls gs gq gi go bs cs i f0 (wrap64 (-sv)) sg qu ok _ w0 _ HS2.out HQ.out.1 HX.out.2.1 (by rw [HX.out.2.2.1]; exact HQ.out.2.2.1) (by rw [HX.out.2.2.1, HX.out.1]; exact HQ.out.2.2.2) HG.out.1 (by rw [HX.out.1]; exact HG.out.2) (by have := HX.out.2.2.2; have := HR.out.2.2; omega)).mono ?_
        rintro e w4 ⟨rfl, vq', hS4, hO4⟩
        refine ⟨_, rfl, ?_⟩
        have HS4 := zA.mk hS4
        clear hS4 HS2
        have BF4 := zA.mk (hO4 _ _ _ (by decide) (by decide) (by decide) BF.out)
        refine hK.out _ _ ⟨(zJ BF4.out 0).trans rfl, (zJ BF4.out 1).trans rfl⟩ (fun hHeld => ?_)
        clear hK K
        refine ZQ (a' := ?_) ?_ ?_
        rotate_left
        · show Act.put _ (some 27) _ = _
          simp only [Act.put, yay, yby, ycy, zT, zU]
          rfl
        refine Zo (by kernel_rfl) ?_
        clear hHeld BF BF4 hO4
        have HX2 := zA.mk (show (vis sg qu ok i f0 (wrap64 (-sv))).1.length = l.length ∧ i < (vis sg qu ok i f0 (wrap64 (-sv))).2.1.length ∧ rd (vis sg qu ok i f0 (wrap64 (-sv))).2.1 i = rd qu0 i ∧ (vis sg qu ok i f0 (wrap64 (-sv))).2.1.length ≤ qu0.length + (j + 1) from by
          obtain ⟨x1, x2, x3, x4⟩ := HX.out
          refine ⟨by rw [zEP]; exact x1, ?_, ?_, ?_⟩ <;> rcases vis_qu sg qu ok i f0 (wrap64 (-sv)) with e_ | e_ <;> rw [e_]
          · exact x2
          · simp; omega
          · exact x3
          · rw [zEQ qu f0 i HQ.out.1 x2]; exact x3
          · omega
          · simp; omega)
        generalize vis sg qu ok i f0 (wrap64 (-sv)) = st at HS4 HA3 HX2
        obtain ⟨sg2, qu2, ok2⟩ := st
        dsimp only at HS4 HA3 HX2
        go_wp2
        go_roundg (row.length - (j + 1))
        case measure => omega
        case rel => exact ⟨j + 1, sg2, qu2, ok2, vq', by omega, by omega, by go_num, HA3, HS4, HX2⟩
    · obtain rfl : j = row.length := by omega
      go_wp2
      first | go_end0 | ((try simp only [Exit.inBlock, Exit.then]); refine bodyPost_ret (results_none rfl _ _ _) rfl ?_)
      have HA2 := HA.out
      rw [List.drop_length, Qq] at HA2
      refine ⟨?_, vq, ?_⟩
      · first | rfl | (simp <;> rfl)
      · rw [← HA2]; exact HS.out
abbrev zEh (l : List (List zh)) (x : Int) (m : Nat) : Prop := (0 ≤ x ∧ x < l.length) ∧ (zC l x).length ≤ 4 ∧ (∀ y ∈ zC l x, ¬ y.f0 < 0 → 0 ≤ y.f0 ∧ y.f0 < l.length ∧ 0 ≤ y.f1 ∧ y.f1 ≤ 23) ∧ m < 999000
def inQ (l : List (List zh)) : Nat → Int → List Int × List Int × Bool → Option (List Int × Bool)
  | 0, _, _ => none
  | k + 1, i, s => if i < s.2.1.length then (if zEh l (rd s.2.1 i) s.2.1.length then inQ l k (i + 1) (Qq i (zC l (rd s.2.1 i)) s) else none) else some (s.1, s.2.2)
def zDq (l : List (List zh)) (k : Nat) : Nat → Int → List Int → Bool → Option (List Int × Bool)
  | 0, _, sg, ok => some (sg, ok)
  | d + 1, a, sg, ok => if rd sg a = 0 then (inQ l k 0 (sg.set a.toNat 1, [a], ok)).bind fun s => zDq l k d (a + 1) s.1 s.2 else zDq l k d (a + 1) sg ok
def zCw (k : Nat) (l : List (List zh)) : Option (List Int × Bool) := if l.length ≤ 100000 then zDq l k l.length 0 (List.replicate l.length 0) true else none
theorem zAc (i : Int) : ∀ (r : List zh) (s : List Int × List Int × Bool), (Qq i r s).1.length = s.1.length
  | [], _ => rfl
  | x :: xs, s => by
    rw [Qq, zAc i xs]
    split
    · rfl
    · exact zEP _ _ _ _ _ _
theorem zER (l : List (List zh)) : ∀ k i s r, inQ l k i s = some r → r.1.length = s.1.length
  | 0, _, _, _, h => by simp [inQ] at h
  | k + 1, i, s, r, h => by
    rw [inQ] at h
    split at h
    · split at h
      · rw [zER l k _ _ _ h, zAc]
      · cases h
    · rw [← yey h]
structure SgO (w0 w : World) (gs go bs cs : Nat) (sg : List Int) (ok : Bool) : Prop where
  below : Below w0.heap.size w0 w
  bS : w.heap[gs]? = some (.cells #[.slice (some ⟨bs, 0, none⟩) sg.length cs] 41 (0, 0))
  bO : w.heap[go]? = some (.cells #[.bool ok] 4 (0, 0))
  rS : Kd.R (Kd.int .i64) 2 w w0.heap.size (fun k => k = bs) (.slice (some ⟨bs, 0, none⟩) sg.length cs) sg
  own : w0.heap.size ≤ go
section
variable {w0 w w1 : World} {gs gq gi go bs cs : Nat} {i : Int} {sg qu : List Int} {ok : Bool} {vq vr : Value}
theorem Sg0.close (h : Sg0 w0 w gs gq gi go bs cs i sg qu ok vq vr) : SgO w0 w gs go bs cs sg ok := ⟨h.below, h.bS, h.bO, h.rS, h.own.2.1⟩
theorem SgO.drew (h : SgO w0 w gs go bs cs sg ok) : SgO w0 w.drew gs go bs cs sg ok := ⟨zE h.below, h.bS, h.bO, Kd.zf h.rS, h.own⟩
theorem SgO.row (h : SgO w0 w gs go bs cs sg ok) : ∃ cells, w.heap[bs]? = some (.cells cells 2 (0, 0)) := Kd.zAU h.rS bs (by simp [Value.ownBlock])
theorem SgO.sign (h : SgO w0 w gs go bs cs sg ok) (k v : Int) : SgO w0 (w.setCell ⟨bs, k.toNat, none⟩ (.int .i64 v)) gs go bs cs (sg.set k.toNat v) ok := by
  obtain ⟨cells, hc⟩ := h.row
  refine ⟨zG h.below (Kd.QI h.rS bs (by simp [Value.ownBlock])), ?_, zv (p := ⟨bs, k.toNat, none⟩) h.bO (QZ h.bO hc (by decide)) _, ?_, h.own⟩
  · rw [List.length_set]; exact zv (p := ⟨bs, k.toNat, none⟩) h.bS (QZ h.bS hc (by decide)) _
  · rw [List.length_set]; exact (Kd.zAB h.rS k v).1
theorem SgO.start (h : SgO w0 w gs go bs cs sg ok) (a : Int) :
    Sg w0 (((w.alloc (.cells #[.int .i64 a] 2)).alloc (.cells #[.slice (some ⟨w.heap.size, 0, none⟩) 1 1] 41)).alloc (.cells #[.int .i64 0] 3)) gs (w.heap.size + 1) (w.heap.size + 1 + 1) go bs cs 0 sg [a] ok (.slice (some ⟨w.heap.size, 0, none⟩) 1 1) := by
  have hbs := qE h.row.choose_spec
  have hsz := zP h.below
  refine ⟨zD (zD (zD h.below _) _) _, zH (zH (zH h.bS _) _) _, zH (ZH (by simp) _) _, ZH (by simp) _, zH (zH (zH h.bO _) _) _, Kd.zZ (Kd.zZ (Kd.zZ h.rS _) _) _, ?_, by have := qE h.bS; omega, by omega, h.own, by omega⟩
  refine Kd.zAM ⟨by simp [zA7], .inr ⟨w.heap.size, 1, #[.int .i64 a], rfl, hsz, ?_, ypy 1, by decide, rfl, rfl⟩⟩ (fun k hk => ?_)
  rotate_left
  · have e : w.heap.size = k := by simpa [Value.ownBlock] using hk
    show k ≠ bs
    omega
  exact zH (zH (ZH rfl _) _) _
theorem Sg0.next (h : Sg0 w0 w gs gq gi go bs cs i sg qu ok vq vr) (j : Int) :
    Sg0 w0 (w.alloc (.cells #[.int .i64 j] 3)) gs gq w.heap.size go bs cs j sg qu ok vq vr := by
  have h1 := h.stays (zD (yqy _ _) (.cells #[.int .i64 j] 3))
  exact ⟨h1.below, h1.bS, h1.bQ, ZH rfl _, h1.bO, h1.rS, h1.rQ, h.nsq, h.own.1, h.own.2.1, zP h.below⟩
end
set_option maxHeartbeats 8000000 in
set_option maxRecDepth 100000 in
theorem zBU.calls (k : Nat) (l : List (List zh)) (A0 : Option Addr) (c0 gt : Nat) (r1 : List Int) (r2 : Bool) (w : World) (bT : w.heap[gt]? = some (.cells #[.slice A0 l.length c0] 28 (0, 0))) (hT : Kd.C (Kd.slice 74 qJ) w A0 l.length l) (h : zCw k l = some (r1, r2)) :
    Calls Try.prog 170 #[.int .i64 (l.length : Int), .func (.func 171) #[] #[.pointer (some ⟨gt, 0, none⟩)]] w fun e w' => ∃ v0_ : Value, e = .returned (.tuple #[v0_, .bool r2]) ∧ Kd.R (Kd.int .i64) 2 w' w.heap.size (fun _ => True) v0_ r1 ∧ Below w.heap.size w w' := by
  unfold zCw at h
  by_cases hl : l.length ≤ 100000
  case neg => rw [if_neg hl] at h; cases h
  rw [if_pos hl] at h
  have H := zA.mk h
  have BT := zA.mk bT
  have HTC := zA.mk hT
  have HL := zA.mk hl
  clear h bT hT
  go_enter Try.func170, Try.ntmps170
  go_wp2_with (first
    | ((with_reducible refine zm (N := 12) rfl ?_); refine Kd.zAu (Kd.int .i64) (w0 := w) w.heap.size 2 rfl (N := 12) rfl 41 _ _ rfl (l.length : Int) rfl rfl Try.underlying41 (.int .i64 0) 8 JC rfl (by decide) (by omega) 0 (ok := fun _ => True) (okp := fun _ => True) rfl (fun _ hk => hk) trivial (by omega) (by omega) (yqy _ _) (ypy _) ?_; intro v1 w1 ho hb _ hnew; obtain ⟨bs, hbs, _⟩ := hnew; obtain ⟨cs, rfl⟩ := zE8 ho hbs; rw [yny] at ho; have HR := zA.mk ho; have HB := zA.mk hb; have HBS := zA.mk hbs; clear ho hb hbs))
  have HO := zA.mk (show SgO w ((w1.alloc (.cells #[.slice (some ⟨bs, 0, none⟩) l.length cs] 41)).alloc (.cells #[.bool true] 4)) w1.heap.size (w1.heap.size + 1) bs cs (List.replicate l.length 0) true from
    ⟨zD (zD HB.out _) _, by rw [List.length_replicate]; exact zH (ZH rfl _) _, ZH (by simp) _, Kd.zZ (Kd.zZ (Kd.qR (Kd.zA3 rfl HR.out) (fun k_ hk_ => by simpa [Value.ownBlock] using hk_)) _) _, by have := zP HB.out; omega⟩)
  clear HR HB HBS
  generalize w1.heap.size + 1 = go at HO ⊢
  generalize w1.heap.size = gs at HO ⊢
  generalize World.alloc _ _ = wA at HO ⊢
  go_loopg [14] l.length (fun gg v14 w' => ∃ (d a : Nat) (sg : List Int) (ok : Bool), a + d = l.length ∧ d ≤ gg ∧ v14 = .int .i64 a ∧ zA (zDq l k d a sg ok = some (r1, r2)) ∧ zA (sg.length = l.length) ∧ zA (SgO w w' gs go bs cs sg ok))
  case atStart => exact ⟨l.length, 0, List.replicate l.length 0, true, by omega, ypy _, rfl, H, ⟨List.length_replicate⟩, HO⟩
  case round =>
    clear H HO
    obtain ⟨d, a, sg, ok, had, hg, rfl, HA, HG, HO⟩ := hrel
    have hxS : wr.cell? ⟨gs, 0, none⟩ = some (.slice (some ⟨bs, 0, none⟩) sg.length cs) := (zJ HO.out.bS 0).trans rfl
    have hxO : wr.cell? ⟨go, 0, none⟩ = some (.bool ok) := (zJ HO.out.bO 0).trans rfl
    cases d with
    | zero =>
      obtain rfl : a = l.length := by omega
      have H2 := HA.out
      rw [zDq] at H2
      obtain ⟨e1, e2⟩ := Prod.mk.inj (yey H2)
      subst e1 e2
      clear H2 HA
      try go_wp2
      refine ZN (n := 4) (S := fun w' => w'.cell? ⟨gs, 0, none⟩ = some (.slice (some ⟨bs, 0, none⟩) sg.length cs) ∧ w'.cell? ⟨go, 0, none⟩ = some (.bool ok)) (ds := []) #[false, false, false, false] (by kernel_rfl) rfl rfl ⟨hxS, hxO⟩ (fun hHeld => ?_)
      refine qQ (i := 0) (N := some 42) (v := ?_) (a' := ?_) #[true, false, false, false] rfl rfl (by kernel_rfl) (fun _ _ _ h => h) (Or.inl ⟨by rfl, ?_⟩) hHeld ?_ ?_
      rotate_left
      · rintro w' ⟨s0, s1⟩
        go_simp
        with_reducible rfl
      rotate_left
      · simp only [Act.put, yay, yby, ycy, zT, zU]
        rfl
      refine qQ (i := 1) (N := some 43) (v := ?_) (a' := ?_) #[true, true, false, false] rfl rfl (by kernel_rfl) (fun _ _ _ h => h) (Or.inl ⟨by rfl, ?_⟩) hHeld ?_ ?_
      rotate_left
      · rintro w' ⟨s0, s1⟩
        go_simp
        with_reducible rfl
      rotate_left
      · simp only [Act.put, yay, yby, ycy, zT, zU]
        rfl
      refine zg (i := 2) (N := some 4) (v := ?_) (a' := ?_) #[true, true, true, false] rfl rfl (by kernel_rfl) (fun _ _ _ h => h) (Or.inl ⟨by rfl, ?_⟩) ?_ ?_
      rotate_left
      · intro w'
        go_simp
        with_reducible rfl
      rotate_left
      · simp only [Act.put, yay, yby, ycy, zT, zU]
        rfl
      refine zg (i := 3) (N := some 5) (v := ?_) (a' := ?_) #[true, true, true, true] rfl rfl (by kernel_rfl) (fun _ _ _ h => h) (Or.inl ⟨by rfl, ?_⟩) ?_ ?_
      rotate_left
      · intro w'
        go_simp
        with_reducible rfl
      rotate_left
      · simp only [Act.put, yay, yby, ycy, zT, zU]
        rfl
      refine Zo (by kernel_rfl) ?_
      try go_wp2
      go_ret2
      refine ⟨_, rfl, ?_, ?_⟩
      · exact Kd.qR (HO.out.drew).rS (fun _ _ => trivial)
      · exact HO.out.drew.below
    | succ d =>
      have hltz : (a : Int) < (l.length : Int) := by omega
      have h1 : (a : Int) < (sg.length : Int) := by rw [HG.out]; exact hltz
      obtain ⟨hx3, hf3⟩ := Kd.QL 0 HO.out.rS (a : Int) (by omega) h1
      rw [yny] at hx3 hf3
      replace hx3 : wr.cell? ⟨bs, a, none⟩ = some (.int .i64 (rd sg (a : Int))) := hx3
      have HA2 := HA.out
      rw [zDq] at HA2
      clear HA
      by_cases hz : rd sg (a : Int) = 0
      · rw [if_pos hz] at HA2
        rw [hz] at hx3
        obtain ⟨st, hst, HA2⟩ := ydy.mp HA2
        have HA := zA.mk HA2
        have HI := zA.mk hst
        have HGS := zA.mk (zER l k _ _ _ hst)
        clear HA2 hst hz
        rw [yny] at HI HGS
        go_wp2_with (first
          | ((with_reducible refine Zk (t := 2) (p := 24) rfl ?_); refine ZW (t := 2) (p := 24) (v := ?vo) (w1 := (wr.setCell ⟨bs, a, none⟩ (.int .i64 1))) ?hg ?ho ?hn ?hr ?_; (case ho => rfl); (case hg => rfl); (case hn => rfl); (case hr => first | (go_simp; done) | (go_simp; rfl)); intro w2 hw; have HO2 := zA.mk (show SgO w w2 gs go bs cs (sg.set a 1) ok by rw [hw]; have := HO.out.sign (a : Int) 1; rwa [yny] at this); clear HO hw hxS hxO hx3 hf3))
        have HS := zA.mk (HO2.out.start (a : Int))
        clear HO2
        have HG1 := zA.mk (show (sg.set a 1).length = l.length by rw [List.length_set]; exact HG.out)
        clear HG
        generalize sg.set a 1 = sg1 at HS HI HG1 HGS
        generalize hgq : w2.heap.size + 1 = gq at HS ⊢
        generalize hgi : gq + 1 = gi at HS ⊢
        generalize (Value.slice (some ⟨w2.heap.size, 0, none⟩) 1 1) = vq at HS
        generalize World.alloc _ _ = wB at HS ⊢
        go_loopg [10] k (fun kq v10 w' => ∃ (i : Int) (gi : Nat) (sg qu : List Int) (ok : Bool) (vq : Value), v10 = .pointer (some ⟨gi, 0, none⟩) ∧ zA (kq ≤ k) ∧ zA (inQ l kq i (sg, qu, ok) = some st) ∧ zA (Sg w w' gs gq gi go bs cs i sg qu ok vq) ∧ zA (sg.length = l.length ∧ 0 ≤ i))
        case atStart => exact ⟨0, gi, sg1, [(a : Int)], ok, vq, rfl, ⟨ypy _⟩, HI, HS, ⟨HG1.out, by omega⟩⟩
        case round =>
          clear HS HI
          obtain ⟨i, gi2, sg2, qu, ok2, vq2, rfl, HK, HI, HS, HG2⟩ := hrel
          have hxI : wr.cell? ⟨gi2, 0, none⟩ = some (.int .i64 i) := (zJ HS.out.bI 0).trans rfl
          obtain ⟨Aq, cq, eq_⟩ := Kd.qv HS.out.rQ
          subst eq_
          have hxQ : wr.cell? ⟨gq, 0, none⟩ = some (.slice Aq qu.length cq) := (zJ HS.out.bQ 0).trans rfl
          cases gk with
          | zero => exact absurd HI.out (by simp [inQ])
          | succ gk =>
            have HI2 := HI.out
            rw [inQ] at HI2
            clear HI
            dsimp only at HI2
            by_cases hlt : i < (qu.length : Int)
            · rw [if_pos hlt] at HI2
              by_cases hok : zEh l (rd qu i) qu.length
              case neg => rw [if_neg hok] at HI2; cases HI2
              rw [if_pos hok] at HI2
              have HI := zA.mk HI2
              have HOK := zA.mk hok
              clear HI2 hok
              have hi0 := HG2.out.2
              obtain ⟨bq, cq2, eA, _, _, _⟩ := Kd.JJ HS.out.rQ (by omega)
              injection eA with eA _ eC
              subst eA eC
              obtain ⟨hx4, _⟩ := Kd.QL 0 HS.out.rQ i hi0 hlt
              replace hx4 : wr.cell? ⟨bq, i.toNat, none⟩ = some (.int .i64 (rd qu i)) := hx4
              have HQ := zA.mk (show rd qu i = rd qu i from rfl)
              have hi9 : i < 1000000 := by have := HOK.out.2.2.2; omega
              generalize hq_ : rd qu i = q at hx4 HOK HI HQ
              have HQ2 := zA.mk hq_
              clear hq_ HQ
              go_wp2_with (first | (go_at_call 171; refine (Jt.calls l A0 c0 gt q gs gq gi2 go bs cs i sg2 qu ok2 _ w _ HS.out BT.out HTC.out HOK.out.1.1 HOK.out.1.2 HG2.out.1 HG2.out.2 hlt (by rw [HQ2.out]; exact HOK.out.1.1) (by rw [HQ2.out]; exact HOK.out.1.2) HOK.out.2.1 HOK.out.2.2.1 HOK.out.2.2.2).mono ?_; rintro e w4 ⟨rfl, vq', hS4⟩; have HS4 := zA.mk hS4; clear hS4 HS hxI hxQ hx4; have hxI : w4.cell? ⟨gi2, 0, none⟩ = some (.int .i64 i) := (zJ HS4.out.bI 0).trans rfl))
              go_roundg gk
              case measure => omega
              case rel => exact ⟨i + 1, w4.heap.size, _, _, _, vq', rfl, ⟨by have := HK.out; omega⟩, HI, ⟨HS4.out.next (i + 1)⟩, ⟨by rw [zAc]; exact HG2.out.1, by omega⟩⟩
            · rw [if_neg hlt] at HI2
              have e_ := yey HI2
              subst e_
              clear HI2
              have hge : ¬ i < (qu.length : Int) := hlt
              have d0 : decide (i < (qu.length : Int)) = false := yhy hlt
              go_wp2
              go_roundg d
              case measure => omega
              case rel => exact ⟨d, a + 1, sg2, ok2, by omega, by omega, by go_num, by simpa using HA, ⟨HG2.out.1⟩, ⟨HS.out.close⟩⟩
      · rw [if_neg hz] at HA2
        have HA := zA.mk HA2
        clear HA2
        generalize rd sg (a : Int) = sa at hx3 hz
        have d0 : (sa == 0) = false := by simp [hz]
        have d1 : (sa != 0) = true := by simp [bne, d0]
        go_wp2
        go_roundg d
        case measure => omega
        case rel => exact ⟨d, a + 1, sg, ok, by omega, by omega, by go_num, by simpa using HA, HG, HO⟩
def zx.f (k : Nat) (l0_0 : List (List zh)) : Option (List Int × Bool) := zCw k l0_0
set_option maxHeartbeats 8000000 in
set_option maxRecDepth 100000 in
theorem zx.calls (k : Nat) (A0_0 : Option Addr) (c0_0 : Nat) (l0_0 : List (List zh)) (r1 : List Int) (r2 : Bool) (w : World) (hr0_0 : Kd.C (Kd.slice 74 qJ) w A0_0 l0_0.length l0_0) (hc0_0 : l0_0.length ≤ c0_0) (h : zx.f k l0_0 = some (r1, r2)) :
    Calls Try.prog 139 #[.agg #[.slice A0_0 l0_0.length c0_0]] w fun e w' => ∃ v0_ : Value, e = .returned (.tuple #[v0_, .bool r2]) ∧ Kd.R (Kd.int .i64) 2 w' w.heap.size (fun _ => True) v0_ r1 ∧ Below w.heap.size w w' := by
  have H := zA.mk h
  have HR := zA.mk hr0_0
  have HC := zA.mk hc0_0
  clear h hr0_0 hc0_0
  go_enter Try.func139, Try.ntmps139
  have BT := zA.mk (ZH (W := w) rfl (.cells #[.slice A0_0 l0_0.length c0_0] 28))
  have HB := zA.mk (zD (yqy w.heap.size w) (.cells #[.slice A0_0 l0_0.length c0_0] 28))
  go_wp2_with (first
    | (go_at_call 79; refine (qN.calls A0_0 c0_0 l0_0 (l0_0.length : Int) _ (Kd.qB HR.out _) HC.out rfl).mono ?_; rintro e w2 ⟨rfl, hd⟩; have hb := zz.below hd; clear hd; have BT2 := zA.mk (zN BT.out hb); have HB2 := zA.mk (zO HB.out hb); clear BT HB hb)
    | (go_at_call 170; refine (zBU.calls k l0_0 A0_0 c0_0 w.heap.size r1 r2 _ BT2.out (Kd.qA HR.out HB2.out) H.out).mono ?_; rintro e w3 ⟨v0_, rfl, ho, hb⟩; have HO := zA.mk (Kd.qy ho (zP HB2.out)); have HB3 := zA.mk (zO HB2.out hb); clear BT2 HB2 ho hb))
  go_ret2
  exact ⟨_, rfl, HO.out, HB3.out⟩
theorem eqA74 (d : Nat) (w : World) (x0 y0 : Int) (x1 y1 : Int) :
    (Op.equalIn (d + 2) 74 (.agg #[.int .i64 x0, .int .i64 x1]) (.agg #[.int .i64 y0, .int .i64 y1])).run Try.prog w = .ok (x0 == y0 && (x1 == y1)) w := by
  refine eqA_of Try.underlying74 (by kernel_rfl) ?_
  refine zE7 (by rfl) (by go_simp; rfl) (by go_simp; rfl) (by go_simp) ?_
  exact zE6 (by rfl) (by go_simp; rfl) (by go_simp; rfl) (by go_simp)
def ZI (l : List Int) (i : Nat) : Nat → Int
  | 0 => rd l i
  | j + 1 => if rd l j < rd l i then ZI l i j - 1 else ZI l i j
def JI (l : List Int) : Nat → Int
  | 0 => 0
  | i + 1 => JI l i + ZI l i i * zDW i
def zEq (l : List Int) : Int := JI l 4
def sm (x : Int) : Prop := 0 ≤ x ∧ x ≤ 3
theorem JR (l : List Int) (i : Nat) (h : sm (rd l i)) : ∀ j : Nat, -(j : Int) ≤ ZI l i j ∧ ZI l i j ≤ 3
  | 0 => by have := h.1; have := h.2; unfold ZI; omega
  | j + 1 => by
    have := JR l i h j
    unfold ZI
    split <;> omega
set_option maxHeartbeats 8000000 in
set_option maxRecDepth 100000 in
theorem zAE.calls (a b c d : Int) (w : World) (ha : sm a) (hb : sm b) (hc : sm c) (hd : sm d) :
    Calls Try.prog 157 #[.agg #[.int .i64 a, .int .i64 b, .int .i64 c, .int .i64 d]] w fun e w' => e = .returned (.int .i64 (zEq [a, b, c, d])) ∧ Below w.heap.size w w' := by
  have hl0 : sm (rd [a, b, c, d] (0 : Nat)) := ha
  have hl1 : sm (rd [a, b, c, d] (1 : Nat)) := hb
  have hl2 : sm (rd [a, b, c, d] (2 : Nat)) := hc
  have hl3 : sm (rd [a, b, c, d] (3 : Nat)) := hd
  have HL := zA.mk (And.intro (JR _ 0 hl0) (And.intro (JR _ 1 hl1) (And.intro (JR _ 2 hl2) (JR _ 3 hl3))))
  have HS := zA.mk (And.intro hl0 (And.intro hl1 (And.intro hl2 hl3)))
  clear ha hb hc hd hl0 hl1 hl2 hl3
  generalize hl : [a, b, c, d] = l at HL HS ⊢
  have HLL := zA.mk hl
  clear hl
  go_enter Try.func157, Try.ntmps157
  go_wp2_with fail
  go_loopg [3, 11] 4 (fun gg v3 v11 w' => ∃ i : Nat, i ≤ 4 ∧ 4 - i ≤ gg ∧ v11 = .int .i64 i ∧ v3 = .int .i64 (JI l i) ∧ zA (-24 * (i : Int) ≤ JI l i ∧ JI l i ≤ 24 * i) ∧
    zA (w'.heap[w.heap.size]? = some (.cells #[.int .i64 a, .int .i64 b, .int .i64 c, .int .i64 d] 108 (0, 0))) ∧
    zA (w'.heap[w.heap.size + 1]? = some (.cells #[.int .i64 6, .int .i64 2, .int .i64 1, .int .i64 1] 2 (0, 0))) ∧ zA (Below w.heap.size w w'))
  case atStart =>
    refine ⟨0, by omega, by omega, rfl, rfl, ⟨by simp [JI]⟩, ⟨?_⟩, ⟨?_⟩, ⟨?_⟩⟩
    · exact zH (ZH rfl _) _
    · exact ZH (by simp) _
    · exact zD (zD (yqy _ _) _) _
  case round =>
    obtain ⟨i, hi, hg, rfl, rfl, HI, B1, B9, HB⟩ := hrel
    rcases (show i = 4 ∨ i = 3 ∨ i = 2 ∨ i = 1 ∨ i = 0 by omega) with rfl | rfl | rfl | rfl | rfl
    · go_wp2
      go_ret
      exact ⟨rfl, HB.out⟩
    · have b9 : wr.cell? ⟨w.heap.size + 1, 3, none⟩ = some (.int .i64 1) := (zJ B9.out 3).trans rfl
      have b1 : wr.cell? ⟨w.heap.size, 3, none⟩ = some (.int .i64 (rd l (3 : Nat))) := (zJ B1.out 3).trans (by rw [← HLL.out]; rfl)
      have hx : sm (rd l (3 : Nat)) := by have := HS.out; exact this.2.2.2
      have HD := zA.mk (show ∀ j : Nat, ZI l 3 (j + 1) = if rd l (j : Nat) < rd l (3 : Nat) then ZI l 3 j - 1 else ZI l 3 j from fun _ => rfl)
      have HD0 := zA.mk (show rd l (3 : Nat) = ZI l 3 0 from rfl)
      generalize rd l (3 : Nat) = xi at b1 HD HD0 hx
      go_wp2_with fail
      go_loopg [6, 22] 3 (fun gg v6 v22 w' => ∃ j : Nat, j ≤ 3 ∧ 3 - j ≤ gg ∧ v22 = .int .i64 j ∧ v6 = .int .i64 (ZI l 3 j) ∧ w' = wr)
      case atStart => exact ⟨0, by omega, by omega, rfl, by rw [HD0.out], rfl⟩
      case round =>
        obtain ⟨j, hj, hg2, rfl, rfl, rfl⟩ := hrel
        by_cases hlt : j < 3
        · have hltz : (j : Int) < 3 := by omega
          have bj : wr.cell? ⟨w.heap.size, j, none⟩ = some (.int .i64 (rd l (j : Nat))) := by
            have := ZU B1.out (j : Int) (by omega) (by omega)
            rw [HLL.out, yny] at this
            exact this
          have hbd := (HL.out.2.2.2 j)
          obtain ⟨hbd1, hbd2⟩ := hbd
          have HN := zA.mk (HD.out j)
          generalize ZI l 3 j = lv at HN hbd1 hbd2 ⊢
          generalize rd l (j : Nat) = xj at bj HN
          by_cases hless : xj < xi
          · have hd1 : decide (xj < xi) = true := ygy hless
            go_wp2
            go_roundg (3 - (j + 1))
            case measure => omega
            case rel => exact ⟨j + 1, by omega, by omega, by go_num, by rw [HN.out, if_pos hless], rfl⟩
          · have hd1 : decide (xj < xi) = false := yhy hless
            go_wp2
            go_roundg (3 - (j + 1))
            case measure => omega
            case rel => exact ⟨j + 1, by omega, by omega, by go_num, by rw [HN.out, if_neg (by omega)], rfl⟩
        · have hltz : ¬ (j : Int) < 3 := by omega
          obtain rfl : j = 3 := by omega
          have hbd := (HL.out.2.2.2 3)
          obtain ⟨hbd1, hbd2⟩ := hbd
          obtain ⟨hi1, hi2⟩ := HI.out
          have HN := zA.mk (show JI l 4 = JI l 3 + ZI l 3 3 * 1 from rfl)
          generalize ZI l 3 3 = lv at HN hbd1 hbd2 ⊢
          generalize JI l 3 = iv at HN hi1 hi2 ⊢
          go_wp2
          go_roundg (4 - 4)
          case measure => omega
          case rel => exact ⟨4, by omega, by omega, by first | rfl | go_num, by rw [HN.out]; rw [Int.mul_one], ⟨by rw [HN.out]; omega⟩, B1, B9, HB⟩
    · have b9 : wr.cell? ⟨w.heap.size + 1, 2, none⟩ = some (.int .i64 1) := (zJ B9.out 2).trans rfl
      have b1 : wr.cell? ⟨w.heap.size, 2, none⟩ = some (.int .i64 (rd l (2 : Nat))) := (zJ B1.out 2).trans (by rw [← HLL.out]; rfl)
      have hx : sm (rd l (2 : Nat)) := by have := HS.out; exact this.2.2.1
      have HD := zA.mk (show ∀ j : Nat, ZI l 2 (j + 1) = if rd l (j : Nat) < rd l (2 : Nat) then ZI l 2 j - 1 else ZI l 2 j from fun _ => rfl)
      have HD0 := zA.mk (show rd l (2 : Nat) = ZI l 2 0 from rfl)
      generalize rd l (2 : Nat) = xi at b1 HD HD0 hx
      go_wp2_with fail
      go_loopg [6, 22] 2 (fun gg v6 v22 w' => ∃ j : Nat, j ≤ 2 ∧ 2 - j ≤ gg ∧ v22 = .int .i64 j ∧ v6 = .int .i64 (ZI l 2 j) ∧ w' = wr)
      case atStart => exact ⟨0, by omega, by omega, rfl, by rw [HD0.out], rfl⟩
      case round =>
        obtain ⟨j, hj, hg2, rfl, rfl, rfl⟩ := hrel
        by_cases hlt : j < 2
        · have hltz : (j : Int) < 2 := by omega
          have bj : wr.cell? ⟨w.heap.size, j, none⟩ = some (.int .i64 (rd l (j : Nat))) := by
            have := ZU B1.out (j : Int) (by omega) (by omega)
            rw [HLL.out, yny] at this
            exact this
          have hbd := (HL.out.2.2.1 j)
          obtain ⟨hbd1, hbd2⟩ := hbd
          have HN := zA.mk (HD.out j)
          generalize ZI l 2 j = lv at HN hbd1 hbd2 ⊢
          generalize rd l (j : Nat) = xj at bj HN
          by_cases hless : xj < xi
          · have hd1 : decide (xj < xi) = true := ygy hless
            go_wp2
            go_roundg (2 - (j + 1))
            case measure => omega
            case rel => exact ⟨j + 1, by omega, by omega, by go_num, by rw [HN.out, if_pos hless], rfl⟩
          · have hd1 : decide (xj < xi) = false := yhy hless
            go_wp2
            go_roundg (2 - (j + 1))
            case measure => omega
            case rel => exact ⟨j + 1, by omega, by omega, by go_num, by rw [HN.out, if_neg (by omega)], rfl⟩
        · have hltz : ¬ (j : Int) < 2 := by omega
          obtain rfl : j = 2 := by omega
          have hbd := (HL.out.2.2.1 2)
          obtain ⟨hbd1, hbd2⟩ := hbd
          obtain ⟨hi1, hi2⟩ := HI.out
          have HN := zA.mk (show JI l 3 = JI l 2 + ZI l 2 2 * 1 from rfl)
          generalize ZI l 2 2 = lv at HN hbd1 hbd2 ⊢
          generalize JI l 2 = iv at HN hi1 hi2 ⊢
          go_wp2
          go_roundg (4 - 3)
          case measure => omega
          case rel => exact ⟨3, by omega, by omega, by first | rfl | go_num, by rw [HN.out]; rw [Int.mul_one], ⟨by rw [HN.out]; omega⟩, B1, B9, HB⟩
    · have b9 : wr.cell? ⟨w.heap.size + 1, 1, none⟩ = some (.int .i64 2) := (zJ B9.out 1).trans rfl
      have b1 : wr.cell? ⟨w.heap.size, 1, none⟩ = some (.int .i64 (rd l (1 : Nat))) := (zJ B1.out 1).trans (by rw [← HLL.out]; rfl)
      have hx : sm (rd l (1 : Nat)) := by have := HS.out; exact this.2.1
      have HD := zA.mk (show ∀ j : Nat, ZI l 1 (j + 1) = if rd l (j : Nat) < rd l (1 : Nat) then ZI l 1 j - 1 else ZI l 1 j from fun _ => rfl)
      have HD0 := zA.mk (show rd l (1 : Nat) = ZI l 1 0 from rfl)
      generalize rd l (1 : Nat) = xi at b1 HD HD0 hx
      go_wp2_with fail
      go_loopg [6, 22] 1 (fun gg v6 v22 w' => ∃ j : Nat, j ≤ 1 ∧ 1 - j ≤ gg ∧ v22 = .int .i64 j ∧ v6 = .int .i64 (ZI l 1 j) ∧ w' = wr)
      case atStart => exact ⟨0, by omega, by omega, rfl, by rw [HD0.out], rfl⟩
      case round =>
        obtain ⟨j, hj, hg2, rfl, rfl, rfl⟩ := hrel
        by_cases hlt : j < 1
        · have hltz : (j : Int) < 1 := by omega
          have bj : wr.cell? ⟨w.heap.size, j, none⟩ = some (.int .i64 (rd l (j : Nat))) := by
            have := ZU B1.out (j : Int) (by omega) (by omega)
            rw [HLL.out, yny] at this
            exact this
          have hbd := (HL.out.2.1 j)
          obtain ⟨hbd1, hbd2⟩ := hbd
          have HN := zA.mk (HD.out j)
          generalize ZI l 1 j = lv at HN hbd1 hbd2 ⊢
          generalize rd l (j : Nat) = xj at bj HN
          by_cases hless : xj < xi
          · have hd1 : decide (xj < xi) = true := ygy hless
            go_wp2
            go_roundg (1 - (j + 1))
            case measure => omega
            case rel => exact ⟨j + 1, by omega, by omega, by go_num, by rw [HN.out, if_pos hless], rfl⟩
          · have hd1 : decide (xj < xi) = false := yhy hless
            go_wp2
            go_roundg (1 - (j + 1))
            case measure => omega
            case rel => exact ⟨j + 1, by omega, by omega, by go_num, by rw [HN.out, if_neg (by omega)], rfl⟩
        · have hltz : ¬ (j : Int) < 1 := by omega
          obtain rfl : j = 1 := by omega
          have hbd := (HL.out.2.1 1)
          obtain ⟨hbd1, hbd2⟩ := hbd
          obtain ⟨hi1, hi2⟩ := HI.out
          have HN := zA.mk (show JI l 2 = JI l 1 + ZI l 1 1 * 2 from rfl)
          generalize ZI l 1 1 = lv at HN hbd1 hbd2 ⊢
          generalize JI l 1 = iv at HN hi1 hi2 ⊢
          go_wp2
          go_roundg (4 - 2)
          case measure => omega
          case rel => exact ⟨2, by omega, by omega, by first | rfl | go_num, by rw [HN.out], ⟨by rw [HN.out]; omega⟩, B1, B9, HB⟩
    · have b9 : wr.cell? ⟨w.heap.size + 1, 0, none⟩ = some (.int .i64 6) := (zJ B9.out 0).trans rfl
      have b1 : wr.cell? ⟨w.heap.size, 0, none⟩ = some (.int .i64 (rd l (0 : Nat))) := (zJ B1.out 0).trans (by rw [← HLL.out]; rfl)
      have hx : sm (rd l (0 : Nat)) := by have := HS.out; exact this.1
      have HD := zA.mk (show ∀ j : Nat, ZI l 0 (j + 1) = if rd l (j : Nat) < rd l (0 : Nat) then ZI l 0 j - 1 else ZI l 0 j from fun _ => rfl)
      have HD0 := zA.mk (show rd l (0 : Nat) = ZI l 0 0 from rfl)
      generalize rd l (0 : Nat) = xi at b1 HD HD0 hx
      go_wp2_with fail
      go_loopg [6, 22] 0 (fun gg v6 v22 w' => ∃ j : Nat, j ≤ 0 ∧ 0 - j ≤ gg ∧ v22 = .int .i64 j ∧ v6 = .int .i64 (ZI l 0 j) ∧ w' = wr)
      case atStart => exact ⟨0, by omega, by omega, rfl, by rw [HD0.out], rfl⟩
      case round =>
        obtain ⟨j, hj, hg2, rfl, rfl, rfl⟩ := hrel
        by_cases hlt : j < 0
        · have hltz : (j : Int) < 0 := by omega
          have bj : wr.cell? ⟨w.heap.size, j, none⟩ = some (.int .i64 (rd l (j : Nat))) := by
            have := ZU B1.out (j : Int) (by omega) (by omega)
            rw [HLL.out, yny] at this
            exact this
          have hbd := (HL.out.1 j)
          obtain ⟨hbd1, hbd2⟩ := hbd
          have HN := zA.mk (HD.out j)
          generalize ZI l 0 j = lv at HN hbd1 hbd2 ⊢
          generalize rd l (j : Nat) = xj at bj HN
          by_cases hless : xj < xi
          · have hd1 : decide (xj < xi) = true := ygy hless
            go_wp2
            go_roundg (0 - (j + 1))
            case measure => omega
            case rel => exact ⟨j + 1, by omega, by omega, by go_num, by rw [HN.out, if_pos hless], rfl⟩
          · have hd1 : decide (xj < xi) = false := yhy hless
            go_wp2
            go_roundg (0 - (j + 1))
            case measure => omega
            case rel => exact ⟨j + 1, by omega, by omega, by go_num, by rw [HN.out, if_neg (by omega)], rfl⟩
        · have hltz : ¬ (j : Int) < 0 := by omega
          obtain rfl : j = 0 := by omega
          have hbd := (HL.out.1 0)
          obtain ⟨hbd1, hbd2⟩ := hbd
          obtain ⟨hi1, hi2⟩ := HI.out
          have HN := zA.mk (show JI l 1 = JI l 0 + ZI l 0 0 * 6 from rfl)
          generalize ZI l 0 0 = lv at HN hbd1 hbd2 ⊢
          generalize JI l 0 = iv at HN hi1 hi2 ⊢
          go_wp2
          go_roundg (4 - 1)
          case measure => omega
          case rel => exact ⟨1, by omega, by omega, by first | rfl | go_num, by rw [HN.out], ⟨by rw [HN.out]; omega⟩, B1, B9, HB⟩
theorem Qy (p : Int) (h0 : 0 ≤ p) (h1 : p ≤ 23) : sm (zo p 0) ∧ sm (zo p 1) ∧ sm (zo p 2) ∧ sm (zo p 3) := by
  obtain ⟨n, rfl⟩ := Int.eq_ofNat_of_zero_le h0
  have hn : n < 24 := by omega
  have key : ∀ m : Fin 24, (0 ≤ zo (m.val : Int) 0 ∧ zo (m.val : Int) 0 ≤ 3) ∧ (0 ≤ zo (m.val : Int) 1 ∧ zo (m.val : Int) 1 ≤ 3) ∧ (0 ≤ zo (m.val : Int) 2 ∧ zo (m.val : Int) 2 ≤ 3) ∧ (0 ≤ zo (m.val : Int) 3 ∧ zo (m.val : Int) 3 ≤ 3) := by decide
  exact key ⟨n, hn⟩
def Qe (l : List Int) : Nat → List Int
  | 0 => [0, 0, 0, 0]
  | i + 1 => (Qe l i).set (rd l i).toNat i
theorem zB1 (l : List Int) : ∀ i, i ≤ 4 → ∀ x ∈ Qe l i, sm x
  | 0, _, x, hx => by
    have : x = 0 := by simp [Qe] at hx; exact hx
    subst this; exact ⟨by omega, by omega⟩
  | i + 1, hi, x, hx => by
    rw [Qe] at hx
    rcases List.mem_or_eq_of_mem_set hx with h | rfl
    · exact zB1 l i (by omega) x h
    · exact ⟨by omega, by omega⟩
def JD (p : Int) : Int := zEq (Qe (ZR p) 4)
def zEi (a b : List Int) : List Int := [rd b (rd a 0), rd b (rd a 1), rd b (rd a 2), rd b (rd a 3)]
def zA4 (l m : List Int) : Nat → List Int
  | 0 => [0, 0, 0, 0]
  | i + 1 => (zA4 l m i).set i (rd m (rd l i))
def QD (p q : Int) : Int := zEq (zEi (ZR p) (ZR q))
theorem QO {a b c d : Int} (ha : sm a) (hb : sm b) (hc : sm c) (hd : sm d) (f : Int) (h0 : 0 ≤ f) (h1 : f ≤ 3) : sm (rd [a, b, c, d] f) := by
  rcases (show f = 0 ∨ f = 1 ∨ f = 2 ∨ f = 3 by omega) with rfl | rfl | rfl | rfl <;> assumption
def Zp.f (a0 : Int) : Option Int := if 0 ≤ a0 ∧ a0 ≤ 23 then some (JD a0) else none
set_option maxHeartbeats 8000000 in
set_option maxRecDepth 100000 in
theorem Zp.calls (a0 : Int) (r : Int) (w : World) (h : Zp.f a0 = some r) :
    Calls Try.prog 137 #[.int .i64 a0] w fun e w' => e = .returned (.int .i64 r) ∧ Below w.heap.size w w' := by
  unfold Zp.f at h
  by_cases hc : 0 ≤ a0 ∧ a0 ≤ 23
  case neg => rw [if_neg hc] at h; exact absurd h (by simp)
  rw [if_pos hc] at h
  have hr : JD a0 = r := yey h
  clear h
  subst hr
  obtain ⟨h0, h1⟩ := hc
  have HS := zA.mk (Qy a0 h0 h1)
  have H0 := zA.mk h0
  have H1 := zA.mk h1
  clear h0 h1
  go_enter Try.func137, Try.ntmps137
  go_wp2_with fail
  refine (Qx.calls _ _ H0.out H1.out).mono ?_
  rintro e w1 ⟨rfl, hb⟩
  have B3 := zA.mk (zN (ZH (W := w) rfl (.cells #[.int .i64 0, .int .i64 0, .int .i64 0, .int .i64 0] 108)) hb)
  have HB := zA.mk (zO (zD (yqy _ _) _) hb)
  clear hb
  have HPL := zA.mk (show ZR a0 = [zo a0 0, zo a0 1, zo a0 2, zo a0 3] from rfl)
  have HIP := zA.mk (show JD a0 = zEq (Qe (ZR a0) 4) from rfl)
  generalize ZR a0 = pl at HPL HIP
  generalize zo a0 0 = x0 at HS HPL ⊢
  generalize zo a0 1 = x1 at HS HPL ⊢
  generalize zo a0 2 = x2 at HS HPL ⊢
  generalize zo a0 3 = x3 at HS HPL ⊢
  go_wp2_with fail
  go_loopg [8] 4 (fun gg v8 w' => ∃ (i : Nat) (b0 b1 b2 b3 : Int), i ≤ 4 ∧ 4 - i ≤ gg ∧ v8 = .int .i64 i ∧ zA ([b0, b1, b2, b3] = Qe pl i) ∧
    zA (w'.heap[w.heap.size]? = some (.cells #[.int .i64 b0, .int .i64 b1, .int .i64 b2, .int .i64 b3] 108 (0, 0))) ∧ zA (Below w.heap.size w w'))
  case atStart => exact ⟨0, 0, 0, 0, 0, by omega, by omega, rfl, ⟨rfl⟩, B3, HB⟩
  case round =>
    clear HB B3
    obtain ⟨i, b0, b1, b2, b3, hi, hg, rfl, HI, B3, HB⟩ := hrel
    rcases (show i = 4 ∨ i = 3 ∨ i = 2 ∨ i = 1 ∨ i = 0 by omega) with rfl | rfl | rfl | rfl | rfl
    · have c0 : wr.cell? ⟨w.heap.size, 0, none⟩ = some (.int .i64 b0) := (zJ B3.out 0).trans rfl
      have c1 : wr.cell? ⟨w.heap.size, 1, none⟩ = some (.int .i64 b1) := (zJ B3.out 1).trans rfl
      have c2 : wr.cell? ⟨w.heap.size, 2, none⟩ = some (.int .i64 b2) := (zJ B3.out 2).trans rfl
      have c3 : wr.cell? ⟨w.heap.size, 3, none⟩ = some (.int .i64 b3) := (zJ B3.out 3).trans rfl
      have ht := Try.underlying108
      go_wp2_with fail
      have hsm := zB1 pl 4 (by omega)
      rw [← HI.out] at hsm
      refine (zAE.calls b0 b1 b2 b3 _ (hsm _ (by simp)) (hsm _ (by simp)) (hsm _ (by simp)) (hsm _ (by simp))).mono ?_
      rintro e w2 ⟨rfl, hb⟩
      have HB2 := zA.mk (zO HB.out hb)
      clear hb hsm
      go_wp2
      go_ret
      exact ⟨by rw [HIP.out, ← HI.out]; rfl, HB2.out⟩
    · have ix := ZZ x0 x1 x2 x3 3 (by omega) (by omega)
      have hx : rd [x0, x1, x2, x3] 3 = x3 := rfl
      rw [hx] at ix
      have hs : sm x3 := HS.out.2.2.2
      obtain ⟨hs0, hs1⟩ := hs
      have c3 := ZU B3.out x3 hs0 hs1
      have f3 := zL B3.out x3.toNat
      have B3n := zA.mk (JQ B3.out x3 3 hs0 hs1)
      have HN : [b0, b1, b2, b3].set x3.toNat 3 = Qe pl (3 + 1) := by rw [HI.out, HPL.out]; rfl
      have hlen : ([b0, b1, b2, b3].set x3.toNat (3 : Int)).length = 4 := by simp
      have HF := zA.mk ((zBS hlen).symm.trans HN)
      clear hx HN hlen
      go_wp2
      go_roundg (4 - (3 + 1))
      case measure => omega
      case rel => exact ⟨3 + 1, _, _, _, _, by omega, by omega, by first | rfl | go_num, HF, B3n, ⟨zG HB.out (ypy _)⟩⟩
    · have ix := ZZ x0 x1 x2 x3 2 (by omega) (by omega)
      have hx : rd [x0, x1, x2, x3] 2 = x2 := rfl
      rw [hx] at ix
      have hs : sm x2 := HS.out.2.2.1
      obtain ⟨hs0, hs1⟩ := hs
      have c3 := ZU B3.out x2 hs0 hs1
      have f3 := zL B3.out x2.toNat
      have B3n := zA.mk (JQ B3.out x2 2 hs0 hs1)
      have HN : [b0, b1, b2, b3].set x2.toNat 2 = Qe pl (2 + 1) := by rw [HI.out, HPL.out]; rfl
      have hlen : ([b0, b1, b2, b3].set x2.toNat (2 : Int)).length = 4 := by simp
      have HF := zA.mk ((zBS hlen).symm.trans HN)
      clear hx HN hlen
      go_wp2
      go_roundg (4 - (2 + 1))
      case measure => omega
      case rel => exact ⟨2 + 1, _, _, _, _, by omega, by omega, by first | rfl | go_num, HF, B3n, ⟨zG HB.out (ypy _)⟩⟩
    · have ix := ZZ x0 x1 x2 x3 1 (by omega) (by omega)
      have hx : rd [x0, x1, x2, x3] 1 = x1 := rfl
      rw [hx] at ix
      have hs : sm x1 := HS.out.2.1
      obtain ⟨hs0, hs1⟩ := hs
      have c3 := ZU B3.out x1 hs0 hs1
      have f3 := zL B3.out x1.toNat
      have B3n := zA.mk (JQ B3.out x1 1 hs0 hs1)
      have HN : [b0, b1, b2, b3].set x1.toNat 1 = Qe pl (1 + 1) := by rw [HI.out, HPL.out]; rfl
      have hlen : ([b0, b1, b2, b3].set x1.toNat (1 : Int)).length = 4 := by simp
      have HF := zA.mk ((zBS hlen).symm.trans HN)
      clear hx HN hlen
      go_wp2
      go_roundg (4 - (1 + 1))
      case measure => omega
      case rel => exact ⟨1 + 1, _, _, _, _, by omega, by omega, by first | rfl | go_num, HF, B3n, ⟨zG HB.out (ypy _)⟩⟩
    · have ix := ZZ x0 x1 x2 x3 0 (by omega) (by omega)
      have hx : rd [x0, x1, x2, x3] 0 = x0 := rfl
      rw [hx] at ix
      have hs : sm x0 := HS.out.1
      obtain ⟨hs0, hs1⟩ := hs
      have c3 := ZU B3.out x0 hs0 hs1
      have f3 := zL B3.out x0.toNat
      have B3n := zA.mk (JQ B3.out x0 0 hs0 hs1)
      have HN : [b0, b1, b2, b3].set x0.toNat 0 = Qe pl (0 + 1) := by rw [HI.out, HPL.out]; rfl
      have hlen : ([b0, b1, b2, b3].set x0.toNat (0 : Int)).length = 4 := by simp
      have HF := zA.mk ((zBS hlen).symm.trans HN)
      clear hx HN hlen
      go_wp2
      go_roundg (4 - (0 + 1))
      case measure => omega
      case rel => exact ⟨0 + 1, _, _, _, _, by omega, by omega, by first | rfl | go_num, HF, B3n, ⟨zG HB.out (ypy _)⟩⟩
def qm.f (a0_0 : Int) (a0_1 : Int) (a1 : Int) : Option (Int × Int) := (Zp.f a0_1).bind fun t103 => (some (a1, t103))
set_option maxHeartbeats 8000000 in
set_option maxRecDepth 100000 in
theorem qm.calls (a0_0 : Int) (a0_1 : Int) (a1 : Int) (r1 : Int) (r2 : Int) (w : World) (h : qm.f a0_0 a0_1 a1 = some (r1, r2)) :
    Calls Try.prog 128 #[.agg #[.int .i64 a0_0, .int .i64 a0_1], .int .i64 a1] w fun e w' => e = .returned (.agg #[.int .i64 r1, .int .i64 r2]) ∧ Below w.heap.size w w' := by
  have hu74 := Try.underlying74
  have HB := zA.mk (yqy w.heap.size w)
  have H : ((Zp.f a0_1).bind fun t103 => (some (a1, t103))) = some (r1, r2) := h
  clear h
  replace H := ydy.mp H
  obtain ⟨t103, A30, H⟩ := H
  replace H : (some (a1, t103)) = some (r1, r2) := H
  have A3 := zA.mk A30
  clear A30
  simp only [Option.some.injEq, Prod.mk.injEq] at H
  obtain ⟨rfl, rfl⟩ := H
  go_enter Try.func128, Try.ntmps128
  go_wp2_with (first | ((with_reducible refine zm (N := 2) rfl ?_); refine zp ?hg (N := 2) ?hd (cs := #[.int .i64 a0_0, .int .i64 a0_1]) (t := 74) ?hr ?_; (case hd => rfl); (case hg => rfl); (case hr => first | (go_simp; done) | (go_simp; rfl)); intro gb101 hg w4 hbox hb; have n0_ := zA.mk (zO (by repeat (first | (with_reducible first | exact HB.out | apply zD | apply zB | apply zE) | exact HB.out)) hb); have n1_ := zA.mk (hbox); have n2_ := zA.mk ((by rw [hg]; exact (zP (by repeat (first | (with_reducible first | exact HB.out | apply zD | apply zB | apply zE) | exact HB.out))) : w.heap.size ≤ gb101)); have n3_ := zA.mk ((by rw [hg]; exact (zP (by repeat (first | (with_reducible first | exact HB.out | apply zD | apply zB | apply zE) | exact HB.out))) : w.heap.size ≤ gb101)); clear HB; have HB := n0_; have BK101 := n1_; have GW101 := n2_; have GE101 := n3_; clear n0_ n1_ n2_ n3_; clear hb hbox hg) | ((with_reducible refine zm (N := 4) rfl ?_); refine zp ?hg (N := 4) ?hd (cs := #[.int .i64 0, .int .i64 0]) (t := 74) ?hr ?_; (case hd => rfl); (case hg => rfl); (case hr => first | (go_simp; done) | (go_simp; rfl)); intro gb102 hg w5 hbox hb; have n0_ := zA.mk (zN (g := gb101) (o := .cells #[.int .i64 a0_0, .int .i64 a0_1] 74 (0, 0)) (by (with_reducible repeat (first | refine zI ?_ _ | refine zK ?_ | refine zH ?_ _)); exact BK101.out) hb); have n1_ := zA.mk (zO (by repeat (first | (with_reducible first | exact HB.out | apply zD | apply zB | apply zE | refine zG ?_ GE101.out) | exact HB.out)) hb); have n2_ := zA.mk (hbox); have n3_ := zA.mk ((by rw [hg]; exact (zP (by repeat (first | (with_reducible first | exact HB.out | apply zD | apply zB | apply zE | refine zG ?_ GE101.out) | exact HB.out))) : w.heap.size ≤ gb102)); have n4_ := zA.mk ((by rw [hg]; exact (zP (by repeat (first | (with_reducible first | exact HB.out | apply zD | apply zB | apply zE | refine zG ?_ GE101.out) | exact HB.out))) : w.heap.size ≤ gb102)); have n5_ := zA.mk ((by rw [hg]; exact Nat.ne_of_lt (qE (g := gb101) (o := .cells #[.int .i64 a0_0, .int .i64 a0_1] 74 (0, 0)) (by (with_reducible repeat (first | refine zI ?_ _ | refine zK ?_ | refine zH ?_ _)); exact BK101.out)) : gb101 ≠ gb102)); have n6_ := zA.mk ((by rw [hg]; exact Nat.ne_of_gt (qE (g := gb101) (o := .cells #[.int .i64 a0_0, .int .i64 a0_1] 74 (0, 0)) (by (with_reducible repeat (first | refine zI ?_ _ | refine zK ?_ | refine zH ?_ _)); exact BK101.out)) : gb102 ≠ gb101)); clear BK101; clear HB; have BK101 := n0_; have HB := n1_; have BK102 := n2_; have GW102 := n3_; have GE102 := n4_; have NB101_102 := n5_; have NB102_101 := n6_; clear n0_ n1_ n2_ n3_ n4_ n5_ n6_; clear hb hbox hg; have hnb6 := NB101_102.out; have hnc6 := NB102_101.out; have hcz7_0 : w5.cell? ⟨gb101, 0, none⟩ = some (.int .i64 a0_0) := (zJ BK101.out 0).trans rfl; have hcz7_1 : w5.cell? ⟨gb101, 1, none⟩ = some (.int .i64 a0_1) := (zJ BK101.out 1).trans rfl; have hfz7_0 := zL BK101.out 0; have hfz7_1 := zL BK101.out 1) | ((with_reducible refine ze (f := 137) rfl ?_); refine qP (some 8) rfl rfl Try.func137 (by kernel_rfl) rfl #[.int .i64 a0_1] rfl (by (try simp only [yiy, yjy, yky]); first | done | rfl | (simp only [yly, ymy]; rfl)) ?_; (with_reducible refine (Zp.calls a0_1 t103 _ A3.out).mono ?_); rintro e w8 ⟨rfl, hb⟩; refine ⟨_, rfl, ?_⟩; have n0_ := zA.mk (zN (g := gb101) (o := .cells #[.int .i64 a0_0, .int .i64 a0_1] 74 (0, 0)) (by (with_reducible repeat (first | refine zI ?_ _ | refine zK ?_ | refine zH ?_ _)); exact BK101.out) hb); have n1_ := zA.mk (zN (g := gb102) (o := .cells #[.int .i64 0, .int .i64 0] 74 (0, 0)) (by (with_reducible repeat (first | refine zI ?_ _ | refine zK ?_ | refine zH ?_ _)); exact BK102.out) hb); have n2_ := zA.mk (zO (by repeat (first | (with_reducible first | exact HB.out | apply zD | apply zB | apply zE | refine zG ?_ GE101.out | refine zG ?_ GE102.out) | exact HB.out)) hb); clear BK101; clear BK102; clear HB; have BK101 := n0_; have BK102 := n1_; have HB := n2_; clear n0_ n1_ n2_; (try clear hb); (try clear hb2); (try clear hk); (try clear hi); have hcz9_0 : w8.cell? ⟨gb102, 0, none⟩ = some (.int .i64 0) := (zJ BK102.out 0).trans rfl; have hcz9_1 : w8.cell? ⟨gb102, 1, none⟩ = some (.int .i64 0) := (zJ BK102.out 1).trans rfl; have hfz9_0 := zL BK102.out 0; have hfz9_1 := zL BK102.out 1))
  refine bodyPost_ret (results_cell_row rfl _ _ gb102 74 #[.int .i64 a1, .int .i64 t103] (0, 0) _ rfl (by (with_reducible repeat (first | refine zI ?_ _ | refine zK ?_ | refine zH ?_ _)); refine qH (cs := #[.int .i64 a1, .int .i64 0]) ?_ 1 _ rfl; (with_reducible repeat (first | refine zI ?_ _ | refine zK ?_ | refine zH ?_ _)); refine qH (cs := #[.int .i64 0, .int .i64 0]) ?_ 0 _ rfl; (with_reducible repeat (first | refine zI ?_ _ | refine zK ?_ | refine zH ?_ _)); exact BK102.out) Try.underlying74 rfl (by kernel_rfl)) rfl ?_
  exact ⟨by first | rfl | (simp [zX, zY] <;> rfl) | (simp [*, zX, zY] <;> rfl), by repeat (first | (with_reducible first | exact HB.out | apply zD | apply zB | apply zE | refine zG ?_ GE101.out | refine zG ?_ GE102.out) | exact HB.out)⟩
def ZB.f (a0_0 : Int) (a0_1 : Int) (a1 : Int) : Option Int := if 0 ≤ a0_1 ∧ a0_1 ≤ 23 ∧ 0 ≤ a1 ∧ a1 ≤ 3 then some (rd (ZR a0_1) a1) else none
set_option maxHeartbeats 800000 in
set_option maxRecDepth 100000 in
theorem ZB.calls (a0_0 : Int) (a0_1 : Int) (a1 : Int) (r : Int) (w : World) (h : ZB.f a0_0 a0_1 a1 = some r) :
    Calls Try.prog 74 #[.agg #[.int .i64 a0_0, .int .i64 a0_1], .int .i64 a1] w fun e w' => e = .returned (.int .i64 r) ∧ Below w.heap.size w w' := by
  unfold ZB.f at h
  by_cases hc : 0 ≤ a0_1 ∧ a0_1 ≤ 23 ∧ 0 ≤ a1 ∧ a1 ≤ 3
  · rw [if_pos hc] at h
    obtain ⟨h0, h1, hf0, hf1⟩ := hc
    have ix := ZZ (zo a0_1 0) (zo a0_1 1) (zo a0_1 2) (zo a0_1 3) a1 hf0 hf1
    have H0 := zA.mk h0
    have H1 := zA.mk h1
    clear h0 h1
    have hr : rd [zo a0_1 0, zo a0_1 1, zo a0_1 2, zo a0_1 3] a1 = r := yey h
    rw [hr] at ix
    clear hr h
    go_enter Try.func74, Try.ntmps74
    go_wp2_with fail
    refine (Qx.calls _ _ H0.out H1.out).mono ?_
    rintro e w' ⟨rfl, hb⟩
    have HB := zA.mk (zO (zD (yqy _ _) _) hb)
    clear hb
    go_wp2
    go_ret
    exact ⟨rfl, HB.out⟩
  · rw [if_neg hc] at h
    exact absurd h (by simp)
def ZO.f (a0 : Int) (a1 : Int) (a2 : Int) : Option (Bool) := if a1 ≤ a0 then (some (decide (a0 ≤ a2))) else (some false)
set_option maxHeartbeats 8000000 in
set_option maxRecDepth 100000 in
theorem ZO.calls (a0 : Int) (a1 : Int) (a2 : Int) (r : Bool) (w : World) (h : ZO.f a0 a1 a2 = some r) :
    Calls Try.prog 58 #[.int .i64 a0, .int .i64 a1, .int .i64 a2] w fun e w' => e = .returned (.bool r) ∧ zz w w' := by
  have H : (if a1 ≤ a0 then (some (decide (a0 ≤ a2))) else (some false)) = some r := h
  clear h
  by_cases c4 : a1 ≤ a0
  · rw [if_pos c4] at H
    have c4b0 : decide (a1 ≤ a0) = true := ygy c4
    clear c4
    obtain rfl := yey H
    go_enter Try.func58, Try.ntmps58
    go_wp2
    go_ret
    exact ⟨by first | rfl | (simp; done) | (simp [*]; done), by repeat (first | exact zz.refl _ | apply zz.step)⟩
  · rw [if_neg c4] at H
    have c4b0 : decide (a1 ≤ a0) = false := yhy c4
    clear c4
    obtain rfl := yey H
    go_enter Try.func58, Try.ntmps58
    go_wp2
    go_ret
    exact ⟨by first | rfl | (simp; done) | (simp [*]; done), by repeat (first | exact zz.refl _ | apply zz.step)⟩
def qd.f (l0 : List (List (zh))) (a1 : Int) : Option (Bool) := (qN.f l0).bind fun t101 => ((ZO.f a1 0 (wrap64 (t101 - 1))).bind fun t102 => (some t102))
set_option maxHeartbeats 8000000 in
set_option maxRecDepth 100000 in
theorem qd.calls (A0 : Option Addr) (c0 : Nat) (l0 : List (List (zh))) (a1 : Int) (r : Bool) (w : World) (hr0 : Kd.C (Kd.slice 74 qJ) w A0 l0.length l0) (hc0 : l0.length ≤ c0) (h : qd.f l0 a1 = some r) :
    Calls Try.prog 71 #[.slice A0 l0.length c0, .int .i64 a1] w fun e w' => e = .returned (.bool r) ∧ zz w w' := by
  have HR0 := zA.mk hr0
  have HC0 := zA.mk hc0
  clear hr0 hc0
  have H : ((qN.f l0).bind fun t101 => ((ZO.f a1 0 (wrap64 (t101 - 1))).bind fun t102 => (some t102))) = some r := h
  clear h
  replace H := ydy.mp H
  obtain ⟨t101, A30, H⟩ := H
  replace H : ((ZO.f a1 0 (wrap64 (t101 - 1))).bind fun t102 => (some t102)) = some r := H
  have A3 := zA.mk A30
  clear A30
  replace H := ydy.mp H
  obtain ⟨t102, A40, H⟩ := H
  replace H : (some t102) = some r := H
  have A4 := zA.mk A40
  clear A40
  obtain rfl := yey H
  go_enter Try.func71, Try.ntmps71
  go_wp2_with (first | ((with_reducible refine ze (f := 79) rfl ?_); refine qP (some 7) rfl rfl Try.func79 (by kernel_rfl) rfl #[.slice A0 l0.length c0] rfl (by (try simp only [yiy, yjy, yky]); first | done | rfl | (simp only [yly, ymy]; rfl)) ?_; (with_reducible refine (qN.calls _ _ l0 t101 _ ?side1 ?side2 A3.out).mono ?_); (case side1 => repeat (first | exact HR0.out | (with_reducible refine Kd.qB ?_ _) | (with_reducible refine Kd.qC ?_ _) | (with_reducible refine Kd.qW ?_))); (case side2 => exact HC0.out); rintro e w' ⟨rfl, ⟨nd, rfl⟩⟩; refine ⟨_, rfl, ?_⟩) | ((with_reducible refine ze (f := 58) rfl ?_); refine qP (some 9) rfl rfl Try.func58 (by kernel_rfl) rfl #[.int .i64 a1, .int .i64 0, .int .i64 (wrap64 (t101 - 1))] rfl (by (try simp only [yiy, yjy, yky]); first | done | rfl | (simp only [yly, ymy]; rfl)) ?_; (with_reducible refine (ZO.calls a1 0 (wrap64 (t101 - 1)) t102 _ A4.out).mono ?_); rintro e w' ⟨rfl, ⟨nd, rfl⟩⟩; refine ⟨_, rfl, ?_⟩))
  go_ret
  exact ⟨by first | rfl | (simp; done) | (simp [*]; done), by repeat (first | exact zz.refl _ | apply zz.step)⟩
def Zh.f (a0 : Int) : Option (Bool) := (ZO.f a0 0 23).bind fun t101 => (some t101)
set_option maxHeartbeats 8000000 in
set_option maxRecDepth 100000 in
theorem Zh.calls (a0 : Int) (r : Bool) (w : World) (h : Zh.f a0 = some r) :
    Calls Try.prog 73 #[.int .i64 a0] w fun e w' => e = .returned (.bool r) ∧ zz w w' := by
  have H : ((ZO.f a0 0 23).bind fun t101 => (some t101)) = some r := h
  clear h
  replace H := ydy.mp H
  obtain ⟨t101, A20, H⟩ := H
  replace H : (some t101) = some r := H
  have A2 := zA.mk A20
  clear A20
  obtain rfl := yey H
  go_enter Try.func73, Try.ntmps73
  go_wp2_with (first | ((with_reducible refine ze (f := 58) rfl ?_); refine qP (some 4) rfl rfl Try.func58 (by kernel_rfl) rfl #[.int .i64 a0, .int .i64 0, .int .i64 23] rfl (by (try simp only [yiy, yjy, yky]); first | done | rfl | (simp only [yly, ymy]; rfl)) ?_; (with_reducible refine (ZO.calls a0 0 23 t101 _ A2.out).mono ?_); rintro e w' ⟨rfl, ⟨nd, rfl⟩⟩; refine ⟨_, rfl, ?_⟩))
  go_ret
  exact ⟨by first | rfl | (simp; done) | (simp [*]; done), by repeat (first | exact zz.refl _ | apply zz.step)⟩
section
attribute [local go_sem high] eqA74
def zV.j0 : Nat → Int → Int → Bool → List (List (zh)) → Int → Int → Option (Bool)
 | 0, _, _, _, _, _, _ => none
 | k + 1, x1, x2, x34, x102000, x105000, x105001 => if x34 = true then (some false) else ((ZB.f x105000 x105001 x2).bind fun t107 => (if 0 ≤ x105000 then (if x105000 < (x102000.length : Int) then (if 0 ≤ t107 then (if t107 < ((zC x102000 x105000).length : Int) then ((qm.f x105000 x105001 x1).bind fun bt110 => (if (((zF (zC x102000 x105000) t107).f0) == bt110.1 && (((zF (zC x102000 x105000) t107).f1) == bt110.2)) = true then (if x105000 = x1 then (some (t107 != x2)) else (some true)) else (some false))) else (none)) else (none)) else (none)) else (none)))
def zV.f (k : Nat) (l0_0 : List (List (zh))) (a1 : Int) (a2 : Int) : Option (Bool) := if 0 ≤ a1 then (if a1 < (l0_0.length : Int) then (if 0 ≤ a2 then (if a2 < ((zC l0_0 a1).length : Int) then (if ((zF (zC l0_0 a1) a2).f0) = (-1) then (some (((zF (zC l0_0 a1) a2).f1) == 0)) else ((qd.f l0_0 ((zF (zC l0_0 a1) a2).f0)).bind fun t105 => (if t105 = true then ((Zh.f ((zF (zC l0_0 a1) a2).f1)).bind fun t106 => (zV.j0 k a1 a2 (!t106) l0_0 ((zF (zC l0_0 a1) a2).f0) ((zF (zC l0_0 a1) a2).f1))) else (zV.j0 k a1 a2 true l0_0 ((zF (zC l0_0 a1) a2).f0) ((zF (zC l0_0 a1) a2).f1))))) else (none)) else (none)) else (none)) else (none)
def zV.T7 : Bool × List (List Nat × List Nat) := (true, [([], []), ([0], [0]), ([], []), ([2], [2]), ([1, 3], [1, 3]), ([4], [4]), ([], []), ([5, 6], [5, 6]), ([7], [7]), ([], []), ([], []), ([9, 10], [9, 10]), ([8, 11], [8, 11]), ([12, 11], [12]), ([13], [13]), ([14, 13], [13, 14]), ([13], [13]), ([15, 16, 13], [13, 15, 16]), ([17, 13, 13], [13, 17]), ([18], [18]), ([18], [18]), ([19, 20, 18], [18, 19, 20]), ([18, 21, 13], [13, 18, 21]), ([13, 22], [13, 22]), ([23, 18, 0, 1, 2, 3, 4, 5, 6, 7, 8, 9, 10, 11, 12, 13, 14, 15, 16, 17, 18, 19, 20, 21, 22, 23], [23])])
def zV.B7 : List Nat := [0, 1, 0, 4, 15, 31, 0, 127, 255, 0, 0, 1536, 4095, 8191, 16383, 32767, 16383, 131071, 262143, 524287, 524287, 2097151, 4194303, 8388607, 16777215]
theorem zV.tab7 : Jq .any (opsOf Try.f117 7) = zV.T7 := by kernel_rfl
theorem zV.zEj : QM zV.T7.2 zV.B7 = true := by kernel_rfl
set_option maxHeartbeats 8000000 in
set_option maxRecDepth 100000 in
theorem zV.calls (k : Nat) (A0_0 : Option Addr) (c0_0 : Nat) (l0_0 : List (List (zh))) (a1 : Int) (a2 : Int) (r : Bool) (w : World) (hr0_0 : Kd.C (Kd.slice 74 qJ) w A0_0 l0_0.length l0_0) (hc0_0 : l0_0.length ≤ c0_0) (h : zV.f k l0_0 a1 a2 = some r) :
 Calls Try.prog 117 #[.agg #[.slice A0_0 l0_0.length c0_0], .int .i64 a1, .int .i64 a2] w fun e w' => e = .returned (.bool r) ∧ Below w.heap.size w w' := by
 have hu28 := Try.underlying28
 have hu74 := Try.underlying74
 have HR0_0 := zA.mk hr0_0
 have HC0_0 := zA.mk hc0_0
 clear hr0_0 hc0_0
 have HB := zA.mk (yqy w.heap.size w)
 have H : (if 0 ≤ a1 then (if a1 < (l0_0.length : Int) then (if 0 ≤ a2 then (if a2 < ((zC l0_0 a1).length : Int) then (if ((zF (zC l0_0 a1) a2).f0) = (-1) then (some (((zF (zC l0_0 a1) a2).f1) == 0)) else ((qd.f l0_0 ((zF (zC l0_0 a1) a2).f0)).bind fun t105 => (if t105 = true then ((Zh.f ((zF (zC l0_0 a1) a2).f1)).bind fun t106 => (zV.j0 k a1 a2 (!t106) l0_0 ((zF (zC l0_0 a1) a2).f0) ((zF (zC l0_0 a1) a2).f1))) else (zV.j0 k a1 a2 true l0_0 ((zF (zC l0_0 a1) a2).f0) ((zF (zC l0_0 a1) a2).f1))))) else (none)) else (none)) else (none)) else (none)) = some r := h
 clear h
 by_cases c4 : 0 ≤ a1
 rotate_left
 next =>
  rw [if_neg c4] at H
  exact absurd H (by simp)
 rw [if_pos c4] at H
 have c4b0 : decide (0 ≤ a1) = true := ygy c4
 clear c4
 by_cases c5 : a1 < (l0_0.length : Int)
 rotate_left
 next =>
  rw [if_neg c5] at H
  exact absurd H (by simp)
 rw [if_pos c5] at H
 have c5b0 : decide (a1 < (l0_0.length : Int)) = true := ygy c5
 clear c5
 by_cases c6 : 0 ≤ a2
 rotate_left
 next =>
  rw [if_neg c6] at H
  exact absurd H (by simp)
 rw [if_pos c6] at H
 have c6b0 : decide (0 ≤ a2) = true := ygy c6
 clear c6
 by_cases c7 : a2 < ((zC l0_0 a1).length : Int)
 rotate_left
 next =>
  rw [if_neg c7] at H
  exact absurd H (by simp)
 rw [if_pos c7] at H
 have c7b0 : decide (a2 < ((zC l0_0 a1).length : Int)) = true := ygy c7
 clear c7
 by_cases c8 : ((zF (zC l0_0 a1) a2).f0) = (-1)
 next =>
  rw [if_pos c8] at H
  have c8b0 : (((zF (zC l0_0 a1) a2).f0) == (-1)) = true := beq_iff_eq.mpr c8
  have c8b1 : (((zF (zC l0_0 a1) a2).f0) != (-1)) = false := bne_eq_false_iff_eq.mpr c8
  clear c8
  obtain rfl := yey H
  go_enter Try.func117, Try.ntmps117
  go_wp2_with (first | ((with_reducible refine zm (N := 3) rfl ?_); refine zp ?hg (N := 3) ?hd (cs := #[.slice A0_0 l0_0.length c0_0]) (t := 28) ?hr ?_; (case hd => rfl); (case hg => rfl); (case hr => first | (go_simp; done) | (go_simp; rfl)); intro gb101 hg w9 hbox hb; have n0_ := zA.mk (zO (by repeat (first | (with_reducible first | exact HB.out | apply zD | apply zB | apply zE) | exact HB.out)) hb); have n1_ := zA.mk (hbox); have n2_ := zA.mk ((by rw [hg]; exact (zP (by repeat (first | (with_reducible first | exact HB.out | apply zD | apply zB | apply zE) | exact HB.out))) : w.heap.size ≤ gb101)); have n3_ := zA.mk ((by rw [hg]; exact (zP (by repeat (first | (with_reducible first | exact HB.out | apply zD | apply zB | apply zE) | exact HB.out))) : w.heap.size ≤ gb101)); clear HB; have HB := n0_; have BK101 := n1_; have GW101 := n2_; have GE101 := n3_; clear n0_ n1_ n2_ n3_; clear hb hbox hg; have hcz10_0 : w9.cell? ⟨gb101, 0, none⟩ = some (.slice A0_0 l0_0.length c0_0) := (zJ BK101.out 0).trans rfl; have hfz10_0 := zL BK101.out 0; have p102 : 0 ≤ (a1 : Int) := of_decide_eq_true (by first | (with_reducible assumption) | assumption); have q102 : a1 < (l0_0.length : Int) := of_decide_eq_true (by first | (with_reducible assumption) | assumption); obtain ⟨ad102, A102_0, c102_0, e102, hx102_0, hl102_0, hi102_0⟩ := qt HR0_0.out a1 p102 q102; cases e102; replace hx102_0 := (HB.out.cell (yoy w _ hx102_0)).trans hx102_0; have HR102_0 := zA.mk hi102_0; have HC102_0 := zA.mk hl102_0; clear hi102_0 hl102_0; replace p102 := eq_true p102; replace q102 := eq_true q102; have p103 : 0 ≤ (a2 : Int) := of_decide_eq_true (by first | (with_reducible assumption) | assumption); have q103 : a2 < ((zC l0_0 a1).length : Int) := of_decide_eq_true (by first | (with_reducible assumption) | assumption); obtain ⟨ad103, e103, hx103_0, hx103_1⟩ := ZM HR102_0.out a2 p103 q103; cases e103; replace hx103_0 := (HB.out.cell (yoy w _ hx103_0)).trans hx103_0; replace hx103_1 := (HB.out.cell (yoy w _ hx103_1)).trans hx103_1; replace p103 := eq_true p103; replace q103 := eq_true q103) | ((with_reducible refine zm (N := 7) rfl ?_); refine zp ?hg (N := 7) ?hd (cs := #[.int .i64 0, .int .i64 0]) (t := 74) ?hr ?_; (case hd => rfl); (case hg => rfl); (case hr => first | (go_simp; done) | (go_simp; rfl)); intro gb104 hg w11 hbox hb; have n0_ := zA.mk (zN (g := gb101) (o := .cells #[.slice (some ad102) l0_0.length c0_0] 28 (0, 0)) (by (with_reducible repeat (first | refine zI ?_ _ | refine zK ?_ | refine zH ?_ _)); exact BK101.out) hb); have n1_ := zA.mk (zO (by repeat (first | (with_reducible first | exact HB.out | apply zD | apply zB | apply zE | refine zG ?_ GE101.out) | exact HB.out)) hb); have n2_ := zA.mk (hbox); have n3_ := zA.mk ((by rw [hg]; exact (zP (by repeat (first | (with_reducible first | exact HB.out | apply zD | apply zB | apply zE | refine zG ?_ GE101.out) | exact HB.out))) : w.heap.size ≤ gb104)); have n4_ := zA.mk ((by rw [hg]; exact (zP (by repeat (first | (with_reducible first | exact HB.out | apply zD | apply zB | apply zE | refine zG ?_ GE101.out) | exact HB.out))) : w.heap.size ≤ gb104)); have n5_ := zA.mk ((by rw [hg]; exact Nat.ne_of_lt (qE (g := gb101) (o := .cells #[.slice (some ad102) l0_0.length c0_0] 28 (0, 0)) (by (with_reducible repeat (first | refine zI ?_ _ | refine zK ?_ | refine zH ?_ _)); exact BK101.out)) : gb101 ≠ gb104)); have n6_ := zA.mk ((by rw [hg]; exact Nat.ne_of_gt (qE (g := gb101) (o := .cells #[.slice (some ad102) l0_0.length c0_0] 28 (0, 0)) (by (with_reducible repeat (first | refine zI ?_ _ | refine zK ?_ | refine zH ?_ _)); exact BK101.out)) : gb104 ≠ gb101)); clear BK101; clear HB; have BK101 := n0_; have HB := n1_; have BK104 := n2_; have GW104 := n3_; have GE104 := n4_; have NB101_104 := n5_; have NB104_101 := n6_; clear n0_ n1_ n2_ n3_ n4_ n5_ n6_; clear hb hbox hg; have hnb12 := NB104_101.out; have hnc12 := NB101_104.out; have hcz13_0 : w11.cell? ⟨gb104, 0, none⟩ = some (.int .i64 0) := (zJ BK104.out 0).trans rfl; have hcz13_1 : w11.cell? ⟨gb104, 1, none⟩ = some (.int .i64 0) := (zJ BK104.out 1).trans rfl; have hfz13_0 := zL BK104.out 0; have hfz13_1 := zL BK104.out 1))
  go_ret
  exact ⟨by first | rfl | (simp [zX, zY] <;> rfl) | (simp [*, zX, zY] <;> rfl), by repeat (first | (with_reducible first | exact HB.out | apply zD | apply zB | apply zE | refine zG ?_ GE101.out | refine zG ?_ GE104.out) | exact HB.out)⟩
 next =>
  rw [if_neg c8] at H
  have c8b0 : (((zF (zC l0_0 a1) a2).f0) == (-1)) = false := beq_eq_false_iff_ne.mpr c8
  have c8b1 : (((zF (zC l0_0 a1) a2).f0) != (-1)) = true := bne_iff_ne.mpr c8
  have HC14 := zA.mk H
  clear H
  go_enter Try.func117, Try.ntmps117
  go_upto_region 4 with (first | ((with_reducible refine zm (N := 3) rfl ?_); refine zp ?hg (N := 3) ?hd (cs := #[.slice A0_0 l0_0.length c0_0]) (t := 28) ?hr ?_; (case hd => rfl); (case hg => rfl); (case hr => first | (go_simp; done) | (go_simp; rfl)); intro gb101 hg w15 hbox hb; have n0_ := zA.mk (zO (by repeat (first | (with_reducible first | exact HB.out | apply zD | apply zB | apply zE) | exact HB.out)) hb); have n1_ := zA.mk (hbox); have n2_ := zA.mk ((by rw [hg]; exact (zP (by repeat (first | (with_reducible first | exact HB.out | apply zD | apply zB | apply zE) | exact HB.out))) : w.heap.size ≤ gb101)); have n3_ := zA.mk ((by rw [hg]; exact (zP (by repeat (first | (with_reducible first | exact HB.out | apply zD | apply zB | apply zE) | exact HB.out))) : w.heap.size ≤ gb101)); clear HB; have HB := n0_; have BK101 := n1_; have GW101 := n2_; have GE101 := n3_; clear n0_ n1_ n2_ n3_; clear hb hbox hg; have hcz16_0 : w15.cell? ⟨gb101, 0, none⟩ = some (.slice A0_0 l0_0.length c0_0) := (zJ BK101.out 0).trans rfl; have hfz16_0 := zL BK101.out 0; have p102 : 0 ≤ (a1 : Int) := of_decide_eq_true (by first | (with_reducible assumption) | assumption); have q102 : a1 < (l0_0.length : Int) := of_decide_eq_true (by first | (with_reducible assumption) | assumption); obtain ⟨ad102, A102_0, c102_0, e102, hx102_0, hl102_0, hi102_0⟩ := qt HR0_0.out a1 p102 q102; cases e102; replace hx102_0 := (HB.out.cell (yoy w _ hx102_0)).trans hx102_0; have HR102_0 := zA.mk hi102_0; have HC102_0 := zA.mk hl102_0; clear hi102_0 hl102_0; replace p102 := eq_true p102; replace q102 := eq_true q102; have p103 : 0 ≤ (a2 : Int) := of_decide_eq_true (by first | (with_reducible assumption) | assumption); have q103 : a2 < ((zC l0_0 a1).length : Int) := of_decide_eq_true (by first | (with_reducible assumption) | assumption); obtain ⟨ad103, e103, hx103_0, hx103_1⟩ := ZM HR102_0.out a2 p103 q103; cases e103; replace hx103_0 := (HB.out.cell (yoy w _ hx103_0)).trans hx103_0; replace hx103_1 := (HB.out.cell (yoy w _ hx103_1)).trans hx103_1; replace p103 := eq_true p103; replace q103 := eq_true q103) | ((with_reducible refine zm (N := 7) rfl ?_); refine zp ?hg (N := 7) ?hd (cs := #[.int .i64 0, .int .i64 0]) (t := 74) ?hr ?_; (case hd => rfl); (case hg => rfl); (case hr => first | (go_simp; done) | (go_simp; rfl)); intro gb104 hg w17 hbox hb; have n0_ := zA.mk (zN (g := gb101) (o := .cells #[.slice (some ad102) l0_0.length c0_0] 28 (0, 0)) (by (with_reducible repeat (first | refine zI ?_ _ | refine zK ?_ | refine zH ?_ _)); exact BK101.out) hb); have n1_ := zA.mk (zO (by repeat (first | (with_reducible first | exact HB.out | apply zD | apply zB | apply zE | refine zG ?_ GE101.out) | exact HB.out)) hb); have n2_ := zA.mk (hbox); have n3_ := zA.mk ((by rw [hg]; exact (zP (by repeat (first | (with_reducible first | exact HB.out | apply zD | apply zB | apply zE | refine zG ?_ GE101.out) | exact HB.out))) : w.heap.size ≤ gb104)); have n4_ := zA.mk ((by rw [hg]; exact (zP (by repeat (first | (with_reducible first | exact HB.out | apply zD | apply zB | apply zE | refine zG ?_ GE101.out) | exact HB.out))) : w.heap.size ≤ gb104)); have n5_ := zA.mk ((by rw [hg]; exact Nat.ne_of_lt (qE (g := gb101) (o := .cells #[.slice (some ad102) l0_0.length c0_0] 28 (0, 0)) (by (with_reducible repeat (first | refine zI ?_ _ | refine zK ?_ | refine zH ?_ _)); exact BK101.out)) : gb101 ≠ gb104)); have n6_ := zA.mk ((by rw [hg]; exact Nat.ne_of_gt (qE (g := gb101) (o := .cells #[.slice (some ad102) l0_0.length c0_0] 28 (0, 0)) (by (with_reducible repeat (first | refine zI ?_ _ | refine zK ?_ | refine zH ?_ _)); exact BK101.out)) : gb104 ≠ gb101)); clear BK101; clear HB; have BK101 := n0_; have HB := n1_; have BK104 := n2_; have GW104 := n3_; have GE104 := n4_; have NB101_104 := n5_; have NB104_101 := n6_; clear n0_ n1_ n2_ n3_ n4_ n5_ n6_; clear hb hbox hg; have hnb18 := NB104_101.out; have hnc18 := NB101_104.out; have hcz19_0 : w17.cell? ⟨gb104, 0, none⟩ = some (.int .i64 0) := (zJ BK104.out 0).trans rfl; have hcz19_1 : w17.cell? ⟨gb104, 1, none⟩ = some (.int .i64 0) := (zJ BK104.out 1).trans rfl; have hfz19_0 := zL BK104.out 0; have hfz19_1 := zL BK104.out 1))
  (try simp only [Act.put, yay, yby, ycy])
  go_cut [34] (fun v34 wc => ∃ (kq : Nat) (x34_13 : Bool), v34 = .bool x34_13 ∧ zA (zV.j0 kq a1 a2 x34_13 l0_0 ((zF (zC l0_0 a1) a2).f0) ((zF (zC l0_0 a1) a2).f1) = some r) ∧ zA (kq ≤ k) ∧ zA (wc.heap[gb101]? = some (.cells #[(.slice (some ad102) l0_0.length c0_0)] 28 (0, 0))) ∧ zA (wc.heap[gb104]? = some (.cells #[.int .i64 ((zF (zC l0_0 a1) a2).f0), .int .i64 ((zF (zC l0_0 a1) a2).f1)] 74 (0, 0))) ∧ zA (Below w.heap.size w wc))
  case first =>
   have H := HC14.out
   clear HC14
   replace H := ydy.mp H
   obtain ⟨t105, A200, H⟩ := H
   replace H : (if t105 = true then ((Zh.f ((zF (zC l0_0 a1) a2).f1)).bind fun t106 => (zV.j0 k a1 a2 (!t106) l0_0 ((zF (zC l0_0 a1) a2).f0) ((zF (zC l0_0 a1) a2).f1))) else (zV.j0 k a1 a2 true l0_0 ((zF (zC l0_0 a1) a2).f0) ((zF (zC l0_0 a1) a2).f1))) = some r := H
   have A20 := zA.mk A200
   clear A200
   by_cases c21 : t105 = true
   rotate_left
   next =>
    replace c21 := Bool.eq_false_iff.mpr c21
    subst c21
    have H1 : (zV.j0 k a1 a2 true l0_0 ((zF (zC l0_0 a1) a2).f0) ((zF (zC l0_0 a1) a2).f1)) = some r := by rw [if_neg (show ¬ (false = true) by decide)] at H; exact H
    clear H
    have H := H1
    clear H1
    have H' := zA.mk H
    clear H
    have hnb26 := NB101_104.out
    have hnc26 := NB104_101.out
    have hcz27_0 : w17.cell? ⟨gb101, 0, none⟩ = some (.slice (some ad102) l0_0.length c0_0) := (zJ BK101.out 0).trans rfl
    have hfz27_0 := zL BK101.out 0
    have hcz28_0 : w17.cell? ⟨gb104, 0, none⟩ = some (.int .i64 0) := (zJ BK104.out 0).trans rfl
    have hcz28_1 : w17.cell? ⟨gb104, 1, none⟩ = some (.int .i64 0) := (zJ BK104.out 1).trans rfl
    have hfz28_0 := zL BK104.out 0
    have hfz28_1 := zL BK104.out 1
    go_wp2_with (first | ((with_reducible refine ze (f := 71) rfl ?_); refine qP (some 27) rfl rfl Try.func71 (by kernel_rfl) rfl #[.slice (some ad102) l0_0.length c0_0, .int .i64 ((zF (zC l0_0 a1) a2).f0)] rfl (by (try simp only [yiy, yjy, yky]); first | done | rfl | (simp only [yly, ymy]; rfl)) ?_; (with_reducible refine (qd.calls _ _ l0_0 ((zF (zC l0_0 a1) a2).f0) false _ ?side1 ?side2 A20.out).mono ?_); (case side1 => exact Kd.qA HR0_0.out (by repeat (first | (with_reducible first | exact HB.out | apply zD | apply zB | apply zE | refine zG ?_ GE101.out | refine zG ?_ GE104.out) | exact HB.out))); (case side2 => exact HC0_0.out); rintro e w' ⟨rfl, ⟨nd, rfl⟩⟩; refine ⟨_, rfl, ?_⟩))
    go_meet
    case rel => exact ⟨_, (true), (by first | rfl | (simp; done) | (simp [*]; done)), H', ⟨by first | omega | exact ypy _⟩, ⟨by (with_reducible repeat (first | refine zI ?_ _ | refine zK ?_ | refine zH ?_ _)); refine zv ?_ NB101_104.out _; (with_reducible repeat (first | refine zI ?_ _ | refine zK ?_ | refine zH ?_ _)); refine zv ?_ NB101_104.out _; (with_reducible repeat (first | refine zI ?_ _ | refine zK ?_ | refine zH ?_ _)); exact BK101.out⟩, ⟨by (with_reducible repeat (first | refine zI ?_ _ | refine zK ?_ | refine zH ?_ _)); refine qH (cs := #[.int .i64 ((zF (zC l0_0 a1) a2).f0), .int .i64 0]) ?_ 1 _ rfl; (with_reducible repeat (first | refine zI ?_ _ | refine zK ?_ | refine zH ?_ _)); refine qH (cs := #[.int .i64 0, .int .i64 0]) ?_ 0 _ rfl; (with_reducible repeat (first | refine zI ?_ _ | refine zK ?_ | refine zH ?_ _)); exact BK104.out⟩, ⟨by repeat (first | (with_reducible first | exact HB.out | apply zD | apply zB | apply zE | refine zG ?_ GE101.out | refine zG ?_ GE104.out) | exact HB.out)⟩⟩
   subst c21
   have H1 : ((Zh.f ((zF (zC l0_0 a1) a2).f1)).bind fun t106 => (zV.j0 k a1 a2 (!t106) l0_0 ((zF (zC l0_0 a1) a2).f0) ((zF (zC l0_0 a1) a2).f1))) = some r := by rw [if_pos rfl] at H; exact H
   clear H
   have H := H1
   clear H1
   replace H := ydy.mp H
   obtain ⟨t106, A220, H⟩ := H
   replace H : (zV.j0 k a1 a2 (!t106) l0_0 ((zF (zC l0_0 a1) a2).f0) ((zF (zC l0_0 a1) a2).f1)) = some r := H
   have A22 := zA.mk A220
   clear A220
   have H' := zA.mk H
   clear H
   have hnb23 := NB101_104.out
   have hnc23 := NB104_101.out
   have hcz24_0 : w17.cell? ⟨gb101, 0, none⟩ = some (.slice (some ad102) l0_0.length c0_0) := (zJ BK101.out 0).trans rfl
   have hfz24_0 := zL BK101.out 0
   have hcz25_0 : w17.cell? ⟨gb104, 0, none⟩ = some (.int .i64 0) := (zJ BK104.out 0).trans rfl
   have hcz25_1 : w17.cell? ⟨gb104, 1, none⟩ = some (.int .i64 0) := (zJ BK104.out 1).trans rfl
   have hfz25_0 := zL BK104.out 0
   have hfz25_1 := zL BK104.out 1
   go_wp2_with (first | ((with_reducible refine ze (f := 71) rfl ?_); refine qP (some 27) rfl rfl Try.func71 (by kernel_rfl) rfl #[.slice (some ad102) l0_0.length c0_0, .int .i64 ((zF (zC l0_0 a1) a2).f0)] rfl (by (try simp only [yiy, yjy, yky]); first | done | rfl | (simp only [yly, ymy]; rfl)) ?_; (with_reducible refine (qd.calls _ _ l0_0 ((zF (zC l0_0 a1) a2).f0) true _ ?side1 ?side2 A20.out).mono ?_); (case side1 => exact Kd.qA HR0_0.out (by repeat (first | (with_reducible first | exact HB.out | apply zD | apply zB | apply zE | refine zG ?_ GE101.out | refine zG ?_ GE104.out) | exact HB.out))); (case side2 => exact HC0_0.out); rintro e w' ⟨rfl, ⟨nd, rfl⟩⟩; refine ⟨_, rfl, ?_⟩) | (go_at_call 73; (with_reducible refine (Zh.calls ((zF (zC l0_0 a1) a2).f1) t106 _ A22.out).mono ?_); rintro e w' ⟨rfl, ⟨nd, rfl⟩⟩))
   go_meet
   case rel => exact ⟨_, (!t106), (by first | rfl | (simp; done) | (simp [*]; done)), H', ⟨by first | omega | exact ypy _⟩, ⟨by (with_reducible repeat (first | refine zI ?_ _ | refine zK ?_ | refine zH ?_ _)); refine zv ?_ NB101_104.out _; (with_reducible repeat (first | refine zI ?_ _ | refine zK ?_ | refine zH ?_ _)); refine zv ?_ NB101_104.out _; (with_reducible repeat (first | refine zI ?_ _ | refine zK ?_ | refine zH ?_ _)); exact BK101.out⟩, ⟨by (with_reducible repeat (first | refine zI ?_ _ | refine zK ?_ | refine zH ?_ _)); refine qH (cs := #[.int .i64 ((zF (zC l0_0 a1) a2).f0), .int .i64 0]) ?_ 1 _ rfl; (with_reducible repeat (first | refine zI ?_ _ | refine zK ?_ | refine zH ?_ _)); refine qH (cs := #[.int .i64 0, .int .i64 0]) ?_ 0 _ rfl; (with_reducible repeat (first | refine zI ?_ _ | refine zK ?_ | refine zH ?_ _)); exact BK104.out⟩, ⟨by repeat (first | (with_reducible first | exact HB.out | apply zD | apply zB | apply zE | refine zG ?_ GE101.out | refine zG ?_ GE104.out) | exact HB.out)⟩⟩
  case rest =>
   clear HC14
   try clear c1
   try clear p1
   try clear q1
   try clear hx1
   try clear c2
   try clear p2
   try clear c4
   try clear c4b0
   try clear c5
   try clear c5b0
   try clear c6
   try clear c6b0
   try clear c7
   try clear c7b0
   try clear c8
   try clear c8b0
   try clear c8b1
   try clear c10
   try clear p10
   try clear q10
   try clear hx10
   try clear c11
   try clear c12
   try clear c18
   try clear c21
   try clear c23
   try clear c26
   try clear hcz10_0
   try clear hcz13_0
   try clear hcz13_1
   try clear hcz16_0
   try clear hcz19_0
   try clear hcz19_1
   try clear hcz24_0
   try clear hcz25_0
   try clear hcz25_1
   try clear hcz27_0
   try clear hcz28_0
   try clear hcz28_1
   try clear hfz10_0
   try clear hfz13_0
   try clear hfz13_1
   try clear hfz16_0
   try clear hfz19_0
   try clear hfz19_1
   try clear hfz24_0
   try clear hfz25_0
   try clear hfz25_1
   try clear hfz27_0
   try clear hfz28_0
   try clear hfz28_1
   try clear hx102_0
   try clear hx103_0
   try clear hx103_1
   try clear p102
   try clear p103
   try clear q102
   try clear q103
   obtain ⟨kq, x34_13, rfl, HA, HJ13, BK101, BK104, HB⟩ := hcut
   cases kq with
   | zero => exact absurd HA.out (by simp [zV.j0])
   | succ kj13 =>
    have H := HA.out
    clear HA
    simp only [zV.j0] at H
    by_cases c29 : x34_13 = true
    next =>
     subst c29
     have H1 : (some false) = some r := by rw [if_pos rfl] at H; exact H
     clear H
     have H := H1
     clear H1
     obtain rfl := yey H
     go_wp2
     go_ret
     exact ⟨by first | rfl | (simp [zX, zY] <;> rfl) | (simp [*, zX, zY] <;> rfl), by repeat (first | (with_reducible first | exact HB.out | apply zD | apply zB | apply zE | refine zG ?_ GE101.out | refine zG ?_ GE104.out) | exact HB.out)⟩
    next =>
     replace c29 := Bool.eq_false_iff.mpr c29
     subst c29
     have H1 : ((ZB.f ((zF (zC l0_0 a1) a2).f0) ((zF (zC l0_0 a1) a2).f1) a2).bind fun t107 => (if 0 ≤ ((zF (zC l0_0 a1) a2).f0) then (if ((zF (zC l0_0 a1) a2).f0) < (l0_0.length : Int) then (if 0 ≤ t107 then (if t107 < ((zC l0_0 ((zF (zC l0_0 a1) a2).f0)).length : Int) then ((qm.f ((zF (zC l0_0 a1) a2).f0) ((zF (zC l0_0 a1) a2).f1) a1).bind fun bt110 => (if (((zF (zC l0_0 ((zF (zC l0_0 a1) a2).f0)) t107).f0) == bt110.1 && (((zF (zC l0_0 ((zF (zC l0_0 a1) a2).f0)) t107).f1) == bt110.2)) = true then (if ((zF (zC l0_0 a1) a2).f0) = a1 then (some (t107 != a2)) else (some true)) else (some false))) else (none)) else (none)) else (none)) else (none))) = some r := by rw [if_neg (show ¬ (false = true) by decide)] at H; exact H
     clear H
     have H := H1
     clear H1
     replace H := ydy.mp H
     obtain ⟨t107, A300, H⟩ := H
     replace H : (if 0 ≤ ((zF (zC l0_0 a1) a2).f0) then (if ((zF (zC l0_0 a1) a2).f0) < (l0_0.length : Int) then (if 0 ≤ t107 then (if t107 < ((zC l0_0 ((zF (zC l0_0 a1) a2).f0)).length : Int) then ((qm.f ((zF (zC l0_0 a1) a2).f0) ((zF (zC l0_0 a1) a2).f1) a1).bind fun bt110 => (if (((zF (zC l0_0 ((zF (zC l0_0 a1) a2).f0)) t107).f0) == bt110.1 && (((zF (zC l0_0 ((zF (zC l0_0 a1) a2).f0)) t107).f1) == bt110.2)) = true then (if ((zF (zC l0_0 a1) a2).f0) = a1 then (some (t107 != a2)) else (some true)) else (some false))) else (none)) else (none)) else (none)) else (none)) = some r := H
     have A30 := zA.mk A300
     clear A300
     by_cases c31 : 0 ≤ ((zF (zC l0_0 a1) a2).f0)
     rotate_left
     next =>
      rw [if_neg c31] at H
      exact absurd H (by simp)
     rw [if_pos c31] at H
     have c31b0 : decide (0 ≤ ((zF (zC l0_0 a1) a2).f0)) = true := ygy c31
     clear c31
     by_cases c32 : ((zF (zC l0_0 a1) a2).f0) < (l0_0.length : Int)
     rotate_left
     next =>
      rw [if_neg c32] at H
      exact absurd H (by simp)
     rw [if_pos c32] at H
     have c32b0 : decide (((zF (zC l0_0 a1) a2).f0) < (l0_0.length : Int)) = true := ygy c32
     clear c32
     by_cases c33 : 0 ≤ t107
     rotate_left
     next =>
      rw [if_neg c33] at H
      exact absurd H (by simp)
     rw [if_pos c33] at H
     have c33b0 : decide (0 ≤ t107) = true := ygy c33
     clear c33
     by_cases c34 : t107 < ((zC l0_0 ((zF (zC l0_0 a1) a2).f0)).length : Int)
     rotate_left
     next =>
      rw [if_neg c34] at H
      exact absurd H (by simp)
     rw [if_pos c34] at H
     have c34b0 : decide (t107 < ((zC l0_0 ((zF (zC l0_0 a1) a2).f0)).length : Int)) = true := ygy c34
     clear c34
     replace H := ydy.mp H
     obtain ⟨⟨t110, t111⟩, A350, H⟩ := H
     replace H : (if (((zF (zC l0_0 ((zF (zC l0_0 a1) a2).f0)) t107).f0) == t110 && (((zF (zC l0_0 ((zF (zC l0_0 a1) a2).f0)) t107).f1) == t111)) = true then (if ((zF (zC l0_0 a1) a2).f0) = a1 then (some (t107 != a2)) else (some true)) else (some false)) = some r := H
     have A35 := zA.mk A350
     clear A350
     by_cases c36 : (((zF (zC l0_0 ((zF (zC l0_0 a1) a2).f0)) t107).f0) == t110 && (((zF (zC l0_0 ((zF (zC l0_0 a1) a2).f0)) t107).f1) == t111)) = true
     rotate_left
     next =>
      rw [if_neg c36] at H
      have c36b0 : (((zF (zC l0_0 ((zF (zC l0_0 a1) a2).f0)) t107).f0) == t110 && (((zF (zC l0_0 ((zF (zC l0_0 a1) a2).f0)) t107).f1) == t111)) = false := by simpa using c36
      (try (have c36b1 : decide (((zF (zC l0_0 ((zF (zC l0_0 a1) a2).f0)) t107).f0) = t110 && (((zF (zC l0_0 ((zF (zC l0_0 a1) a2).f0)) t107).f1) == t111)) = false := by simpa using c36))
      (try (have c36b2 : (((zF (zC l0_0 ((zF (zC l0_0 a1) a2).f0)) t107).f0) == t110 && (((zF (zC l0_0 ((zF (zC l0_0 a1) a2).f0)) t107).f1) == t111)) = false := by simpa using c36))
      (try (have c36b3 : ¬ (((zF (zC l0_0 ((zF (zC l0_0 a1) a2).f0)) t107).f0) = t110 && (((zF (zC l0_0 ((zF (zC l0_0 a1) a2).f0)) t107).f1) == t111)) := by simpa using c36))
      clear c36
      obtain rfl := yey H
      have hnb48 := NB104_101.out
      have hnc48 := NB101_104.out
      have hcz49_0 : wc.cell? ⟨gb104, 0, none⟩ = some (.int .i64 ((zF (zC l0_0 a1) a2).f0)) := (zJ BK104.out 0).trans rfl
      have hcz49_1 : wc.cell? ⟨gb104, 1, none⟩ = some (.int .i64 ((zF (zC l0_0 a1) a2).f1)) := (zJ BK104.out 1).trans rfl
      have hfz49_0 := zL BK104.out 0
      have hfz49_1 := zL BK104.out 1
      try go_wp2_with (first | ((with_reducible refine ze (f := 74) rfl ?_); refine qP (some 37) rfl rfl Try.func74 (by kernel_rfl) rfl #[.agg #[.int .i64 ((zF (zC l0_0 a1) a2).f0), .int .i64 ((zF (zC l0_0 a1) a2).f1)], .int .i64 a2] rfl (by (try simp only [yiy, yjy, yky]); first | done | rfl | (simp only [yly, ymy]; rfl)) ?_; (with_reducible refine (ZB.calls ((zF (zC l0_0 a1) a2).f0) ((zF (zC l0_0 a1) a2).f1) a2 t107 _ A30.out).mono ?_); rintro e w50 ⟨rfl, hb⟩; refine ⟨_, rfl, ?_⟩; have n0_ := zA.mk (zN (g := gb101) (o := .cells #[.slice (some ad102) l0_0.length c0_0] 28 (0, 0)) (by (with_reducible repeat (first | refine zI ?_ _ | refine zK ?_ | refine zH ?_ _)); exact BK101.out) hb); have n1_ := zA.mk (zN (g := gb104) (o := .cells #[.int .i64 ((zF (zC l0_0 a1) a2).f0), .int .i64 ((zF (zC l0_0 a1) a2).f1)] 74 (0, 0)) (by (with_reducible repeat (first | refine zI ?_ _ | refine zK ?_ | refine zH ?_ _)); exact BK104.out) hb); have n2_ := zA.mk (zO (by repeat (first | (with_reducible first | exact HB.out | apply zD | apply zB | apply zE | refine zG ?_ GE101.out | refine zG ?_ GE104.out) | exact HB.out)) hb); clear BK101; clear BK104; clear HB; have BK101 := n0_; have BK104 := n1_; have HB := n2_; clear n0_ n1_ n2_; (try clear hb); (try clear hb2); (try clear hk); (try clear hi)))
      have n0_ := zA.mk (zK BK101.out)
      have n1_ := zA.mk (zK BK104.out)
      have n2_ := zA.mk (zE HB.out)
      clear BK101
      clear BK104
      clear HB
      have BK101 := n0_
      have BK104 := n1_
      have HB := n2_
      clear n0_ n1_ n2_
      have p108 : 0 ≤ (((zF (zC l0_0 a1) a2).f0) : Int) := of_decide_eq_true (by first | (with_reducible assumption) | assumption)
      have q108 : ((zF (zC l0_0 a1) a2).f0) < (l0_0.length : Int) := of_decide_eq_true (by first | (with_reducible assumption) | assumption)
      obtain ⟨ad108, A108_0, c108_0, e108, hx108_0, hl108_0, hi108_0⟩ := qt HR0_0.out ((zF (zC l0_0 a1) a2).f0) p108 q108
      have hw108_0 := hx108_0
      obtain rfl : ad102 = ad108 := (by injection e108)
      replace hx108_0 := (HB.out.cell (yoy w _ hx108_0)).trans hx108_0
      have HR108_0 := zA.mk hi108_0
      have HC108_0 := zA.mk hl108_0
      clear hi108_0 hl108_0
      replace p108 := eq_true p108
      replace q108 := eq_true q108
      have p109 : 0 ≤ (t107 : Int) := of_decide_eq_true (by first | (with_reducible assumption) | assumption)
      have q109 : t107 < ((zC l0_0 ((zF (zC l0_0 a1) a2).f0)).length : Int) := of_decide_eq_true (by first | (with_reducible assumption) | assumption)
      obtain ⟨ad109, e109, hx109_0, hx109_1⟩ := ZM HR108_0.out t107 p109 q109
      have hw109_1 := hx109_1
      have hw109_0 := hx109_0
      cases e109
      replace hx109_0 := (HB.out.cell (yoy w _ hx109_0)).trans hx109_0
      replace hx109_1 := (HB.out.cell (yoy w _ hx109_1)).trans hx109_1
      replace p109 := eq_true p109
      replace q109 := eq_true q109
      refine ZN (n := 25) (S := fun w' => w'.cell? ⟨gb101, 0, none⟩ = some (.slice (some ad102) l0_0.length c0_0) ∧ w'.cell? ⟨gb104, 0, none⟩ = some (.int .i64 ((zF (zC l0_0 a1) a2).f0)) ∧ w'.cell? ⟨gb104, 1, none⟩ = some (.int .i64 ((zF (zC l0_0 a1) a2).f1)) ∧ w'.cell? (ad102.add (((zF (zC l0_0 a1) a2).f0)).toNat) = some (.slice (some ad109) (zC l0_0 ((zF (zC l0_0 a1) a2).f0)).length c108_0) ∧ w'.cell? (ad109.add ((t107).toNat * 2)) = some (.int .i64 ((zF (zC l0_0 ((zF (zC l0_0 a1) a2).f0)) t107).f0)) ∧ w'.cell? ⟨(ad109.add ((t107).toNat * 2)).block, (ad109.add ((t107).toNat * 2)).off + 1, none⟩ = some (.int .i64 ((zF (zC l0_0 ((zF (zC l0_0 a1) a2).f0)) t107).f1))) (ds := []) #[false, false, false, false, false, false, false, false, false, false, false, false, false, false, false, false, false, false, false, false, false, false, false, false, false] (by kernel_rfl) rfl rfl ⟨(zJ BK101.out 0).trans rfl, (zJ BK104.out 0).trans rfl, (zJ BK104.out 1).trans rfl, ((HB.out.cell (yoy w _ hw108_0)).trans hw108_0), ((HB.out.cell (yoy w _ hw109_0)).trans hw109_0), ((HB.out.cell (yoy w _ hw109_1)).trans hw109_1)⟩ (fun hHeld => ?_); refine qx zV.tab7 zV.zEj (fun HT_ HW_ => ?_)
      generalize w50.drew = w51 at BK101 BK104 HB HR108_0 hx108_0 hx109_0 hx109_1 hHeld ⊢
      refine zg (i := 0) (N := some 38) (v := ?_) (a' := ?_) #[true, false, false, false, false, false, false, false, false, false, false, false, false, false, false, false, false, false, false, false, false, false, false, false, false] rfl rfl (zb HT_.out (by kernel_rfl)) (fun _ _ _ h => h) (Or.inl ⟨by rfl, ?_⟩) ?_ ?_
      rotate_left
      next =>
       intro w'
       go_simp
       with_reducible rfl
      rotate_left
      next =>
       simp only [Act.put, yay, yby, ycy, zT, zU]
       rfl
      refine zg (i := 2) (N := some 40) (v := ?_) (a' := ?_) #[true, false, true, false, false, false, false, false, false, false, false, false, false, false, false, false, false, false, false, false, false, false, false, false, false] rfl rfl (zb HT_.out (by kernel_rfl)) (fun _ _ _ h => h) (Or.inl ⟨by rfl, ?_⟩) ?_ ?_
      rotate_left
      next =>
       intro w'
       go_simp
       with_reducible rfl
      rotate_left
      next =>
       simp only [Act.put, yay, yby, ycy, zT, zU]
       rfl
      refine zg (i := 6) (N := some 44) (v := ?_) (a' := ?_) #[true, false, true, false, false, false, true, false, false, false, false, false, false, false, false, false, false, false, false, false, false, false, false, false, false] rfl rfl (zb HT_.out (by kernel_rfl)) (fun _ _ _ h => h) (Or.inl ⟨by rfl, ?_⟩) ?_ ?_
      rotate_left
      next =>
       intro w'
       go_simp
       with_reducible rfl
      rotate_left
      next =>
       simp only [Act.put, yay, yby, ycy, zT, zU]
       rfl
      refine zg (i := 10) (N := some 48) (v := ?_) (a' := ?_) #[true, false, true, false, false, false, true, false, false, false, true, false, false, false, false, false, false, false, false, false, false, false, false, false, false] rfl rfl (zb HT_.out (by kernel_rfl)) (fun _ _ _ h => h) (Or.inl ⟨by rfl, ?_⟩) ?_ ?_
      rotate_left
      next =>
       intro w'
       go_simp
       with_reducible rfl
      rotate_left
      next =>
       simp only [Act.put, yay, yby, ycy, zT, zU]
       rfl
      refine qQ (i := 1) (N := some 39) (v := ?_) (a' := ?_) #[true, true, true, false, false, false, true, false, false, false, true, false, false, false, false, false, false, false, false, false, false, false, false, false, false] rfl rfl (zn HT_.out HW_.out (by kernel_rfl)) (fun _ _ _ h => h) (Or.inl ⟨by rfl, ?_⟩) hHeld ?_ ?_
      rotate_left
      next =>
       rintro w' ⟨s0, s1, s2, s3, s4, s5⟩
       go_simp
       with_reducible rfl
      rotate_left
      next =>
       simp only [Act.put, yay, yby, ycy, zT, zU]
       rfl
      refine qQ (i := 3) (N := some 41) (v := ?_) (a' := ?_) #[true, true, true, true, false, false, true, false, false, false, true, false, false, false, false, false, false, false, false, false, false, false, false, false, false] rfl rfl (zn HT_.out HW_.out (by kernel_rfl)) (fun _ _ _ h => h) (Or.inl ⟨by rfl, ?_⟩) hHeld ?_ ?_
      rotate_left
      next =>
       rintro w' ⟨s0, s1, s2, s3, s4, s5⟩
       go_simp
       with_reducible rfl
      rotate_left
      next =>
       simp only [Act.put, yay, yby, ycy, zT, zU]
       rfl
      refine zg (i := 4) (N := some 42) (v := ?_) (a' := ?_) #[true, true, true, true, true, false, true, false, false, false, true, false, false, false, false, false, false, false, false, false, false, false, false, false, false] rfl rfl (zb HT_.out (by kernel_rfl)) (fun _ _ _ h => h) (Or.inl ⟨by rfl, ?_⟩) ?_ ?_
      rotate_left
      next =>
       intro w'
       go_simp
       with_reducible rfl
      rotate_left
      next =>
       simp only [Act.put, yay, yby, ycy, zT, zU]
       rfl
      refine qQ (i := 5) (N := some 43) (v := ?_) (a' := ?_) #[true, true, true, true, true, true, true, false, false, false, true, false, false, false, false, false, false, false, false, false, false, false, false, false, false] rfl rfl (zn HT_.out HW_.out (by kernel_rfl)) (fun _ _ _ h => h) (Or.inl ⟨by rfl, ?_⟩) hHeld ?_ ?_
      rotate_left
      next =>
       rintro w' ⟨s0, s1, s2, s3, s4, s5⟩
       go_simp
       with_reducible rfl
      rotate_left
      next =>
       simp only [Act.put, yay, yby, ycy, zT, zU]
       rfl
      refine zg (i := 7) (N := some 45) (v := ?_) (a' := ?_) #[true, true, true, true, true, true, true, true, false, false, true, false, false, false, false, false, false, false, false, false, false, false, false, false, false] rfl rfl (zb HT_.out (by kernel_rfl)) (fun _ _ _ h => h) (Or.inl ⟨by rfl, ?_⟩) ?_ ?_
      rotate_left
      next =>
       intro w'
       go_simp
       with_reducible rfl
      rotate_left
      next =>
       simp only [Act.put, yay, yby, ycy, zT, zU]
       rfl
      refine qQ (i := 8) (N := some 46) (v := ?_) (a' := ?_) #[true, true, true, true, true, true, true, true, true, false, true, false, false, false, false, false, false, false, false, false, false, false, false, false, false] rfl rfl (zn HT_.out HW_.out (by kernel_rfl)) (fun _ _ _ h => h) (Or.inl ⟨by rfl, ?_⟩) hHeld ?_ ?_
      rotate_left
      next =>
       rintro w' ⟨s0, s1, s2, s3, s4, s5⟩
       go_simp
       with_reducible rfl
      rotate_left
      next =>
       simp only [Act.put, yay, yby, ycy, zT, zU]
       rfl
      refine qQ (i := 9) (N := some 47) (v := ?_) (a' := ?_) #[true, true, true, true, true, true, true, true, true, true, true, false, false, false, false, false, false, false, false, false, false, false, false, false, false] rfl rfl (zn HT_.out HW_.out (by kernel_rfl)) (fun _ _ _ h => h) (Or.inl ⟨by rfl, ?_⟩) hHeld ?_ ?_
      rotate_left
      next =>
       rintro w' ⟨s0, s1, s2, s3, s4, s5⟩
       go_simp
       with_reducible rfl
      rotate_left
      next =>
       simp only [Act.put, yay, yby, ycy, zT, zU]
       rfl
      refine QH (i := 11) (N := some 49) #[true, true, true, true, true, true, true, true, true, true, true, true, false, false, false, false, false, false, false, false, false, false, false, false, false] rfl rfl (ZF HT_.out (by kernel_rfl)) (by decide) (fun K hK => ?_)
      refine Zv Try.func128 (by kernel_rfl) rfl #[.agg #[.int .i64 ((zF (zC l0_0 a1) a2).f0), .int .i64 ((zF (zC l0_0 a1) a2).f1)], .int .i64 a1] (by rfl) rfl rfl (by (try simp only [yiy, yjy, yky]); first | done | rfl | (simp only [yly, ymy]; rfl)) ?_
      with_reducible refine (qm.calls ((zF (zC l0_0 a1) a2).f0) ((zF (zC l0_0 a1) a2).f1) a1 t110 t111 _ A35.out).mono ?_
      rintro e w52 ⟨rfl, hb⟩
      refine ⟨_, rfl, ?_⟩
      have n0_ := zA.mk (zN (g := gb101) (o := .cells #[.slice (some ad102) l0_0.length c0_0] 28 (0, 0)) (by (with_reducible repeat (first | refine zI ?_ _ | refine zK ?_ | refine zH ?_ _)); exact BK101.out) hb)
      have n1_ := zA.mk (zN (g := gb104) (o := .cells #[.int .i64 ((zF (zC l0_0 a1) a2).f0), .int .i64 ((zF (zC l0_0 a1) a2).f1)] 74 (0, 0)) (by (with_reducible repeat (first | refine zI ?_ _ | refine zK ?_ | refine zH ?_ _)); exact BK104.out) hb)
      have n2_ := zA.mk (zO (by repeat (first | (with_reducible first | exact HB.out | apply zD | apply zB | apply zE | refine zG ?_ GE101.out | refine zG ?_ GE104.out) | exact HB.out)) hb)
      clear BK101
      clear BK104
      clear HB
      have BK101 := n0_
      have BK104 := n1_
      have HB := n2_
      clear n0_ n1_ n2_
      (try clear hb)
      (try clear hb2)
      (try clear hk)
      (try clear hi)
      refine hK.out _ _ ⟨(zJ BK101.out 0).trans rfl, (zJ BK104.out 0).trans rfl, (zJ BK104.out 1).trans rfl, ((HB.out.cell (yoy w _ hw108_0)).trans hw108_0), ((HB.out.cell (yoy w _ hw109_0)).trans hw109_0), ((HB.out.cell (yoy w _ hw109_1)).trans hw109_1)⟩ (fun hHeld => ?_)
      clear hK K
      refine ZQ (a' := ?_) ?_ ?_
      rotate_left
      next =>
       show Act.put _ (some 49) _ = _
       simp only [Act.put, yay, yby, ycy, zT, zU]
       rfl
      refine zg (i := 12) (N := some 50) (v := ?_) (a' := ?_) #[true, true, true, true, true, true, true, true, true, true, true, true, true, false, false, false, false, false, false, false, false, false, false, false, false] rfl rfl (zb HT_.out (by kernel_rfl)) (fun _ _ _ h => h) (Or.inl ⟨by rfl, ?_⟩) ?_ ?_
      rotate_left
      next =>
       intro w'
       go_simp
       with_reducible rfl
      rotate_left
      next =>
       simp only [Act.put, yay, yby, ycy, zT, zU]
       rfl
      refine zg (i := 13) (N := some 51) (v := ?_) (a' := ?_) #[true, true, true, true, true, true, true, true, true, true, true, true, true, true, false, false, false, false, false, false, false, false, false, false, false] rfl rfl (zb HT_.out (by kernel_rfl)) (fun _ _ _ h => h) (Or.inl ⟨by rfl, ?_⟩) ?_ ?_
      rotate_left
      next =>
       intro w'
       go_simp
       with_reducible rfl
      rotate_left
      next =>
       simp only [Act.put, yay, yby, ycy, zT, zU]
       rfl
      refine zg (i := 14) (N := some 52) (v := undef) (a' := ?_) #[true, true, true, true, true, true, true, true, true, true, true, true, true, true, true, false, false, false, false, false, false, false, false, false, false] rfl rfl (zb HT_.out (by kernel_rfl)) (fun _ _ _ h => h) (Or.inr ⟨by rfl, rfl⟩) ?_ ?_
      rotate_left
      next =>
       simp only [Act.put, yay, yby, ycy, zT, zU]
       rfl
      refine zg (i := 15) (N := some 53) (v := undef) (a' := ?_) #[true, true, true, true, true, true, true, true, true, true, true, true, true, true, true, true, false, false, false, false, false, false, false, false, false] rfl rfl (zb HT_.out (by kernel_rfl)) (fun _ _ _ h => h) (Or.inr ⟨by rfl, rfl⟩) ?_ ?_
      rotate_left
      next =>
       simp only [Act.put, yay, yby, ycy, zT, zU]
       rfl
      refine zg (i := 16) (N := some 54) (v := undef) (a' := ?_) #[true, true, true, true, true, true, true, true, true, true, true, true, true, true, true, true, true, false, false, false, false, false, false, false, false] rfl rfl (zb HT_.out (by kernel_rfl)) (fun _ _ _ h => h) (Or.inr ⟨by rfl, rfl⟩) ?_ ?_
      rotate_left
      next =>
       simp only [Act.put, yay, yby, ycy, zT, zU]
       rfl
      refine zg (i := 17) (N := some 55) (v := undef) (a' := ?_) #[true, true, true, true, true, true, true, true, true, true, true, true, true, true, true, true, true, true, false, false, false, false, false, false, false] rfl rfl (zb HT_.out (by kernel_rfl)) (fun _ _ _ h => h) (Or.inr ⟨by rfl, rfl⟩) ?_ ?_
      rotate_left
      next =>
       simp only [Act.put, yay, yby, ycy, zT, zU]
       rfl
      refine zg (i := 18) (N := some 56) (v := undef) (a' := ?_) #[true, true, true, true, true, true, true, true, true, true, true, true, true, true, true, true, true, true, true, false, false, false, false, false, false] rfl rfl (zb HT_.out (by kernel_rfl)) (fun _ _ _ h => h) (Or.inr ⟨by rfl, rfl⟩) ?_ ?_
      rotate_left
      next =>
       simp only [Act.put, yay, yby, ycy, zT, zU]
       rfl
      refine zg (i := 19) (N := some 57) (v := undef) (a' := ?_) #[true, true, true, true, true, true, true, true, true, true, true, true, true, true, true, true, true, true, true, true, false, false, false, false, false] rfl rfl (zb HT_.out (by kernel_rfl)) (fun _ _ _ h => h) (Or.inr ⟨by rfl, rfl⟩) ?_ ?_
      rotate_left
      next =>
       simp only [Act.put, yay, yby, ycy, zT, zU]
       rfl
      refine zg (i := 20) (N := some 58) (v := undef) (a' := ?_) #[true, true, true, true, true, true, true, true, true, true, true, true, true, true, true, true, true, true, true, true, true, false, false, false, false] rfl rfl (zb HT_.out (by kernel_rfl)) (fun _ _ _ h => h) (Or.inr ⟨by rfl, rfl⟩) ?_ ?_
      rotate_left
      next =>
       simp only [Act.put, yay, yby, ycy, zT, zU]
       rfl
      refine zg (i := 21) (N := some 59) (v := undef) (a' := ?_) #[true, true, true, true, true, true, true, true, true, true, true, true, true, true, true, true, true, true, true, true, true, true, false, false, false] rfl rfl (zb HT_.out (by kernel_rfl)) (fun _ _ _ h => h) (Or.inr ⟨by rfl, rfl⟩) ?_ ?_
      rotate_left
      next =>
       simp only [Act.put, yay, yby, ycy, zT, zU]
       rfl
      refine zg (i := 22) (N := some 60) (v := undef) (a' := ?_) #[true, true, true, true, true, true, true, true, true, true, true, true, true, true, true, true, true, true, true, true, true, true, true, false, false] rfl rfl (zb HT_.out (by kernel_rfl)) (fun _ _ _ h => h) (Or.inr ⟨by rfl, rfl⟩) ?_ ?_
      rotate_left
      next =>
       simp only [Act.put, yay, yby, ycy, zT, zU]
       rfl
      refine zg (i := 23) (N := some 61) (v := ?_) (a' := ?_) #[true, true, true, true, true, true, true, true, true, true, true, true, true, true, true, true, true, true, true, true, true, true, true, true, false] rfl rfl (zb HT_.out (by kernel_rfl)) (fun _ _ _ h => h) (Or.inl ⟨by rfl, ?_⟩) ?_ ?_
      rotate_left
      next =>
       intro w'
       go_simp
       with_reducible rfl
      rotate_left
      next =>
       simp only [Act.put, yay, yby, ycy, zT, zU]
       rfl
      refine zg (i := 24) (N := some 6) (v := ?_) (a' := ?_) #[true, true, true, true, true, true, true, true, true, true, true, true, true, true, true, true, true, true, true, true, true, true, true, true, true] rfl rfl (zb HT_.out (by kernel_rfl)) (fun _ _ _ h => h) (Or.inl ⟨by rfl, ?_⟩) ?_ ?_
      rotate_left
      next =>
       intro w'
       go_simp
       with_reducible rfl
      rotate_left
      next =>
       simp only [Act.put, yay, yby, ycy, zT, zU]
       rfl
      refine Zo (ZS HT_.out (by kernel_rfl)) ?_
      try go_wp2
      go_ret
      exact ⟨by first | rfl | (simp [zX, zY] <;> rfl) | (simp [*, zX, zY] <;> rfl), by repeat (first | (with_reducible first | exact HB.out | apply zD | apply zB | apply zE | refine zG ?_ GE101.out | refine zG ?_ GE104.out) | exact HB.out)⟩
     rw [if_pos c36] at H
     have c36b0 : (((zF (zC l0_0 ((zF (zC l0_0 a1) a2).f0)) t107).f0) == t110 && (((zF (zC l0_0 ((zF (zC l0_0 a1) a2).f0)) t107).f1) == t111)) = true := c36
     (try (have c36b1 : decide (((zF (zC l0_0 ((zF (zC l0_0 a1) a2).f0)) t107).f0) = t110 && (((zF (zC l0_0 ((zF (zC l0_0 a1) a2).f0)) t107).f1) == t111)) = true := by simpa using c36))
     (try (have c36b2 : (((zF (zC l0_0 ((zF (zC l0_0 a1) a2).f0)) t107).f0) == t110 && (((zF (zC l0_0 ((zF (zC l0_0 a1) a2).f0)) t107).f1) == t111)) = true := by simpa using c36))
     clear c36
     by_cases c37 : ((zF (zC l0_0 a1) a2).f0) = a1
     rotate_left
     next =>
      rw [if_neg c37] at H
      have c37b0 : (((zF (zC l0_0 a1) a2).f0) == a1) = false := beq_eq_false_iff_ne.mpr c37
      have c37b1 : (((zF (zC l0_0 a1) a2).f0) != a1) = true := bne_iff_ne.mpr c37
      obtain rfl := yey H
      have hnb43 := NB104_101.out
      have hnc43 := NB101_104.out
      have hcz44_0 : wc.cell? ⟨gb104, 0, none⟩ = some (.int .i64 ((zF (zC l0_0 a1) a2).f0)) := (zJ BK104.out 0).trans rfl
      have hcz44_1 : wc.cell? ⟨gb104, 1, none⟩ = some (.int .i64 ((zF (zC l0_0 a1) a2).f1)) := (zJ BK104.out 1).trans rfl
      have hfz44_0 := zL BK104.out 0
      have hfz44_1 := zL BK104.out 1
      try go_wp2_with (first | ((with_reducible refine ze (f := 74) rfl ?_); refine qP (some 37) rfl rfl Try.func74 (by kernel_rfl) rfl #[.agg #[.int .i64 ((zF (zC l0_0 a1) a2).f0), .int .i64 ((zF (zC l0_0 a1) a2).f1)], .int .i64 a2] rfl (by (try simp only [yiy, yjy, yky]); first | done | rfl | (simp only [yly, ymy]; rfl)) ?_; (with_reducible refine (ZB.calls ((zF (zC l0_0 a1) a2).f0) ((zF (zC l0_0 a1) a2).f1) a2 t107 _ A30.out).mono ?_); rintro e w45 ⟨rfl, hb⟩; refine ⟨_, rfl, ?_⟩; have n0_ := zA.mk (zN (g := gb101) (o := .cells #[.slice (some ad102) l0_0.length c0_0] 28 (0, 0)) (by (with_reducible repeat (first | refine zI ?_ _ | refine zK ?_ | refine zH ?_ _)); exact BK101.out) hb); have n1_ := zA.mk (zN (g := gb104) (o := .cells #[.int .i64 ((zF (zC l0_0 a1) a2).f0), .int .i64 ((zF (zC l0_0 a1) a2).f1)] 74 (0, 0)) (by (with_reducible repeat (first | refine zI ?_ _ | refine zK ?_ | refine zH ?_ _)); exact BK104.out) hb); have n2_ := zA.mk (zO (by repeat (first | (with_reducible first | exact HB.out | apply zD | apply zB | apply zE | refine zG ?_ GE101.out | refine zG ?_ GE104.out) | exact HB.out)) hb); clear BK101; clear BK104; clear HB; have BK101 := n0_; have BK104 := n1_; have HB := n2_; clear n0_ n1_ n2_; (try clear hb); (try clear hb2); (try clear hk); (try clear hi)))
      have n0_ := zA.mk (zK BK101.out)
      have n1_ := zA.mk (zK BK104.out)
      have n2_ := zA.mk (zE HB.out)
      clear BK101
      clear BK104
      clear HB
      have BK101 := n0_
      have BK104 := n1_
      have HB := n2_
      clear n0_ n1_ n2_
      have p108 : 0 ≤ (((zF (zC l0_0 a1) a2).f0) : Int) := of_decide_eq_true (by first | (with_reducible assumption) | assumption)
      have q108 : ((zF (zC l0_0 a1) a2).f0) < (l0_0.length : Int) := of_decide_eq_true (by first | (with_reducible assumption) | assumption)
      obtain ⟨ad108, A108_0, c108_0, e108, hx108_0, hl108_0, hi108_0⟩ := qt HR0_0.out ((zF (zC l0_0 a1) a2).f0) p108 q108
      have hw108_0 := hx108_0
      obtain rfl : ad102 = ad108 := (by injection e108)
      replace hx108_0 := (HB.out.cell (yoy w _ hx108_0)).trans hx108_0
      have HR108_0 := zA.mk hi108_0
      have HC108_0 := zA.mk hl108_0
      clear hi108_0 hl108_0
      replace p108 := eq_true p108
      replace q108 := eq_true q108
      have p109 : 0 ≤ (t107 : Int) := of_decide_eq_true (by first | (with_reducible assumption) | assumption)
      have q109 : t107 < ((zC l0_0 ((zF (zC l0_0 a1) a2).f0)).length : Int) := of_decide_eq_true (by first | (with_reducible assumption) | assumption)
      obtain ⟨ad109, e109, hx109_0, hx109_1⟩ := ZM HR108_0.out t107 p109 q109
      have hw109_1 := hx109_1
      have hw109_0 := hx109_0
      cases e109
      replace hx109_0 := (HB.out.cell (yoy w _ hx109_0)).trans hx109_0
      replace hx109_1 := (HB.out.cell (yoy w _ hx109_1)).trans hx109_1
      replace p109 := eq_true p109
      replace q109 := eq_true q109
      refine ZN (n := 25) (S := fun w' => w'.cell? ⟨gb101, 0, none⟩ = some (.slice (some ad102) l0_0.length c0_0) ∧ w'.cell? ⟨gb104, 0, none⟩ = some (.int .i64 ((zF (zC l0_0 a1) a2).f0)) ∧ w'.cell? ⟨gb104, 1, none⟩ = some (.int .i64 ((zF (zC l0_0 a1) a2).f1)) ∧ w'.cell? (ad102.add (((zF (zC l0_0 a1) a2).f0)).toNat) = some (.slice (some ad109) (zC l0_0 ((zF (zC l0_0 a1) a2).f0)).length c108_0) ∧ w'.cell? (ad109.add ((t107).toNat * 2)) = some (.int .i64 ((zF (zC l0_0 ((zF (zC l0_0 a1) a2).f0)) t107).f0)) ∧ w'.cell? ⟨(ad109.add ((t107).toNat * 2)).block, (ad109.add ((t107).toNat * 2)).off + 1, none⟩ = some (.int .i64 ((zF (zC l0_0 ((zF (zC l0_0 a1) a2).f0)) t107).f1))) (ds := []) #[false, false, false, false, false, false, false, false, false, false, false, false, false, false, false, false, false, false, false, false, false, false, false, false, false] (by kernel_rfl) rfl rfl ⟨(zJ BK101.out 0).trans rfl, (zJ BK104.out 0).trans rfl, (zJ BK104.out 1).trans rfl, ((HB.out.cell (yoy w _ hw108_0)).trans hw108_0), ((HB.out.cell (yoy w _ hw109_0)).trans hw109_0), ((HB.out.cell (yoy w _ hw109_1)).trans hw109_1)⟩ (fun hHeld => ?_); refine qx zV.tab7 zV.zEj (fun HT_ HW_ => ?_)
      generalize w45.drew = w46 at BK101 BK104 HB HR108_0 hx108_0 hx109_0 hx109_1 hHeld ⊢
      refine zg (i := 0) (N := some 38) (v := ?_) (a' := ?_) #[true, false, false, false, false, false, false, false, false, false, false, false, false, false, false, false, false, false, false, false, false, false, false, false, false] rfl rfl (zb HT_.out (by kernel_rfl)) (fun _ _ _ h => h) (Or.inl ⟨by rfl, ?_⟩) ?_ ?_
      rotate_left
      next =>
       intro w'
       go_simp
       with_reducible rfl
      rotate_left
      next =>
       simp only [Act.put, yay, yby, ycy, zT, zU]
       rfl
      refine zg (i := 2) (N := some 40) (v := ?_) (a' := ?_) #[true, false, true, false, false, false, false, false, false, false, false, false, false, false, false, false, false, false, false, false, false, false, false, false, false] rfl rfl (zb HT_.out (by kernel_rfl)) (fun _ _ _ h => h) (Or.inl ⟨by rfl, ?_⟩) ?_ ?_
      rotate_left
      next =>
       intro w'
       go_simp
       with_reducible rfl
      rotate_left
      next =>
       simp only [Act.put, yay, yby, ycy, zT, zU]
       rfl
      refine zg (i := 6) (N := some 44) (v := ?_) (a' := ?_) #[true, false, true, false, false, false, true, false, false, false, false, false, false, false, false, false, false, false, false, false, false, false, false, false, false] rfl rfl (zb HT_.out (by kernel_rfl)) (fun _ _ _ h => h) (Or.inl ⟨by rfl, ?_⟩) ?_ ?_
      rotate_left
      next =>
       intro w'
       go_simp
       with_reducible rfl
      rotate_left
      next =>
       simp only [Act.put, yay, yby, ycy, zT, zU]
       rfl
      refine zg (i := 10) (N := some 48) (v := ?_) (a' := ?_) #[true, false, true, false, false, false, true, false, false, false, true, false, false, false, false, false, false, false, false, false, false, false, false, false, false] rfl rfl (zb HT_.out (by kernel_rfl)) (fun _ _ _ h => h) (Or.inl ⟨by rfl, ?_⟩) ?_ ?_
      rotate_left
      next =>
       intro w'
       go_simp
       with_reducible rfl
      rotate_left
      next =>
       simp only [Act.put, yay, yby, ycy, zT, zU]
       rfl
      refine qQ (i := 1) (N := some 39) (v := ?_) (a' := ?_) #[true, true, true, false, false, false, true, false, false, false, true, false, false, false, false, false, false, false, false, false, false, false, false, false, false] rfl rfl (zn HT_.out HW_.out (by kernel_rfl)) (fun _ _ _ h => h) (Or.inl ⟨by rfl, ?_⟩) hHeld ?_ ?_
      rotate_left
      next =>
       rintro w' ⟨s0, s1, s2, s3, s4, s5⟩
       go_simp
       with_reducible rfl
      rotate_left
      next =>
       simp only [Act.put, yay, yby, ycy, zT, zU]
       rfl
      refine qQ (i := 3) (N := some 41) (v := ?_) (a' := ?_) #[true, true, true, true, false, false, true, false, false, false, true, false, false, false, false, false, false, false, false, false, false, false, false, false, false] rfl rfl (zn HT_.out HW_.out (by kernel_rfl)) (fun _ _ _ h => h) (Or.inl ⟨by rfl, ?_⟩) hHeld ?_ ?_
      rotate_left
      next =>
       rintro w' ⟨s0, s1, s2, s3, s4, s5⟩
       go_simp
       with_reducible rfl
      rotate_left
      next =>
       simp only [Act.put, yay, yby, ycy, zT, zU]
       rfl
      refine zg (i := 4) (N := some 42) (v := ?_) (a' := ?_) #[true, true, true, true, true, false, true, false, false, false, true, false, false, false, false, false, false, false, false, false, false, false, false, false, false] rfl rfl (zb HT_.out (by kernel_rfl)) (fun _ _ _ h => h) (Or.inl ⟨by rfl, ?_⟩) ?_ ?_
      rotate_left
      next =>
       intro w'
       go_simp
       with_reducible rfl
      rotate_left
      next =>
       simp only [Act.put, yay, yby, ycy, zT, zU]
       rfl
      refine qQ (i := 5) (N := some 43) (v := ?_) (a' := ?_) #[true, true, true, true, true, true, true, false, false, false, true, false, false, false, false, false, false, false, false, false, false, false, false, false, false] rfl rfl (zn HT_.out HW_.out (by kernel_rfl)) (fun _ _ _ h => h) (Or.inl ⟨by rfl, ?_⟩) hHeld ?_ ?_
      rotate_left
      next =>
       rintro w' ⟨s0, s1, s2, s3, s4, s5⟩
       go_simp
       with_reducible rfl
      rotate_left
      next =>
       simp only [Act.put, yay, yby, ycy, zT, zU]
       rfl
      refine zg (i := 7) (N := some 45) (v := ?_) (a' := ?_) #[true, true, true, true, true, true, true, true, false, false, true, false, false, false, false, false, false, false, false, false, false, false, false, false, false] rfl rfl (zb HT_.out (by kernel_rfl)) (fun _ _ _ h => h) (Or.inl ⟨by rfl, ?_⟩) ?_ ?_
      rotate_left
      next =>
       intro w'
       go_simp
       with_reducible rfl
      rotate_left
      next =>
       simp only [Act.put, yay, yby, ycy, zT, zU]
       rfl
      refine qQ (i := 8) (N := some 46) (v := ?_) (a' := ?_) #[true, true, true, true, true, true, true, true, true, false, true, false, false, false, false, false, false, false, false, false, false, false, false, false, false] rfl rfl (zn HT_.out HW_.out (by kernel_rfl)) (fun _ _ _ h => h) (Or.inl ⟨by rfl, ?_⟩) hHeld ?_ ?_
      rotate_left
      next =>
       rintro w' ⟨s0, s1, s2, s3, s4, s5⟩
       go_simp
       with_reducible rfl
      rotate_left
      next =>
       simp only [Act.put, yay, yby, ycy, zT, zU]
       rfl
      refine qQ (i := 9) (N := some 47) (v := ?_) (a' := ?_) #[true, true, true, true, true, true, true, true, true, true, true, false, false, false, false, false, false, false, false, false, false, false, false, false, false] rfl rfl (zn HT_.out HW_.out (by kernel_rfl)) (fun _ _ _ h => h) (Or.inl ⟨by rfl, ?_⟩) hHeld ?_ ?_
      rotate_left
      next =>
       rintro w' ⟨s0, s1, s2, s3, s4, s5⟩
       go_simp
       with_reducible rfl
      rotate_left
      next =>
       simp only [Act.put, yay, yby, ycy, zT, zU]
       rfl
      refine QH (i := 11) (N := some 49) #[true, true, true, true, true, true, true, true, true, true, true, true, false, false, false, false, false, false, false, false, false, false, false, false, false] rfl rfl (ZF HT_.out (by kernel_rfl)) (by decide) (fun K hK => ?_)
      refine Zv Try.func128 (by kernel_rfl) rfl #[.agg #[.int .i64 ((zF (zC l0_0 a1) a2).f0), .int .i64 ((zF (zC l0_0 a1) a2).f1)], .int .i64 a1] (by rfl) rfl rfl (by (try simp only [yiy, yjy, yky]); first | done | rfl | (simp only [yly, ymy]; rfl)) ?_
      with_reducible refine (qm.calls ((zF (zC l0_0 a1) a2).f0) ((zF (zC l0_0 a1) a2).f1) a1 t110 t111 _ A35.out).mono ?_
      rintro e w47 ⟨rfl, hb⟩
      refine ⟨_, rfl, ?_⟩
      have n0_ := zA.mk (zN (g := gb101) (o := .cells #[.slice (some ad102) l0_0.length c0_0] 28 (0, 0)) (by (with_reducible repeat (first | refine zI ?_ _ | refine zK ?_ | refine zH ?_ _)); exact BK101.out) hb)
      have n1_ := zA.mk (zN (g := gb104) (o := .cells #[.int .i64 ((zF (zC l0_0 a1) a2).f0), .int .i64 ((zF (zC l0_0 a1) a2).f1)] 74 (0, 0)) (by (with_reducible repeat (first | refine zI ?_ _ | refine zK ?_ | refine zH ?_ _)); exact BK104.out) hb)
      have n2_ := zA.mk (zO (by repeat (first | (with_reducible first | exact HB.out | apply zD | apply zB | apply zE | refine zG ?_ GE101.out | refine zG ?_ GE104.out) | exact HB.out)) hb)
      clear BK101
      clear BK104
      clear HB
      have BK101 := n0_
      have BK104 := n1_
      have HB := n2_
      clear n0_ n1_ n2_
      (try clear hb)
      (try clear hb2)
      (try clear hk)
      (try clear hi)
      refine hK.out _ _ ⟨(zJ BK101.out 0).trans rfl, (zJ BK104.out 0).trans rfl, (zJ BK104.out 1).trans rfl, ((HB.out.cell (yoy w _ hw108_0)).trans hw108_0), ((HB.out.cell (yoy w _ hw109_0)).trans hw109_0), ((HB.out.cell (yoy w _ hw109_1)).trans hw109_1)⟩ (fun hHeld => ?_)
      clear hK K
      refine ZQ (a' := ?_) ?_ ?_
      rotate_left
      next =>
       show Act.put _ (some 49) _ = _
       simp only [Act.put, yay, yby, ycy, zT, zU]
       rfl
      refine zg (i := 12) (N := some 50) (v := ?_) (a' := ?_) #[true, true, true, true, true, true, true, true, true, true, true, true, true, false, false, false, false, false, false, false, false, false, false, false, false] rfl rfl (zb HT_.out (by kernel_rfl)) (fun _ _ _ h => h) (Or.inl ⟨by rfl, ?_⟩) ?_ ?_
      rotate_left
      next =>
       intro w'
       go_simp
       with_reducible rfl
      rotate_left
      next =>
       simp only [Act.put, yay, yby, ycy, zT, zU]
       rfl
      refine zg (i := 13) (N := some 51) (v := ?_) (a' := ?_) #[true, true, true, true, true, true, true, true, true, true, true, true, true, true, false, false, false, false, false, false, false, false, false, false, false] rfl rfl (zb HT_.out (by kernel_rfl)) (fun _ _ _ h => h) (Or.inl ⟨by rfl, ?_⟩) ?_ ?_
      rotate_left
      next =>
       intro w'
       go_simp
       with_reducible rfl
      rotate_left
      next =>
       simp only [Act.put, yay, yby, ycy, zT, zU]
       rfl
      refine zg (i := 14) (N := some 52) (v := ?_) (a' := ?_) #[true, true, true, true, true, true, true, true, true, true, true, true, true, true, true, false, false, false, false, false, false, false, false, false, false] rfl rfl (zb HT_.out (by kernel_rfl)) (fun _ _ _ h => h) (Or.inl ⟨by rfl, ?_⟩) ?_ ?_
      rotate_left
      next =>
       intro w'
       go_simp
       with_reducible rfl
      rotate_left
      next =>
       simp only [Act.put, yay, yby, ycy, zT, zU]
       rfl
      refine zg (i := 16) (N := some 54) (v := ?_) (a' := ?_) #[true, true, true, true, true, true, true, true, true, true, true, true, true, true, true, false, true, false, false, false, false, false, false, false, false] rfl rfl (zb HT_.out (by kernel_rfl)) (fun _ _ _ h => h) (Or.inl ⟨by rfl, ?_⟩) ?_ ?_
      rotate_left
      next =>
       intro w'
       go_simp
       with_reducible rfl
      rotate_left
      next =>
       simp only [Act.put, yay, yby, ycy, zT, zU]
       rfl
      refine qQ (i := 15) (N := some 53) (v := ?_) (a' := ?_) #[true, true, true, true, true, true, true, true, true, true, true, true, true, true, true, true, true, false, false, false, false, false, false, false, false] rfl rfl (zn HT_.out HW_.out (by kernel_rfl)) (fun _ _ _ h => h) (Or.inl ⟨by rfl, ?_⟩) hHeld ?_ ?_
      rotate_left
      next =>
       rintro w' ⟨s0, s1, s2, s3, s4, s5⟩
       go_simp
       with_reducible rfl
      rotate_left
      next =>
       simp only [Act.put, yay, yby, ycy, zT, zU]
       rfl
      refine zg (i := 17) (N := some 55) (v := ?_) (a' := ?_) #[true, true, true, true, true, true, true, true, true, true, true, true, true, true, true, true, true, true, false, false, false, false, false, false, false] rfl rfl (zb HT_.out (by kernel_rfl)) (fun _ _ _ h => h) (Or.inl ⟨by rfl, ?_⟩) ?_ ?_
      rotate_left
      next =>
       intro w'
       go_simp
       with_reducible rfl
      rotate_left
      next =>
       simp only [Act.put, yay, yby, ycy, zT, zU]
       rfl
      refine zg (i := 18) (N := some 56) (v := ?_) (a' := ?_) #[true, true, true, true, true, true, true, true, true, true, true, true, true, true, true, true, true, true, true, false, false, false, false, false, false] rfl rfl (zb HT_.out (by kernel_rfl)) (fun _ _ _ h => h) (Or.inl ⟨by rfl, ?_⟩) ?_ ?_
      rotate_left
      next =>
       intro w'
       go_simp
       with_reducible rfl
      rotate_left
      next =>
       simp only [Act.put, yay, yby, ycy, zT, zU]
       rfl
      refine zg (i := 19) (N := some 57) (v := undef) (a' := ?_) #[true, true, true, true, true, true, true, true, true, true, true, true, true, true, true, true, true, true, true, true, false, false, false, false, false] rfl rfl (zb HT_.out (by kernel_rfl)) (fun _ _ _ h => h) (Or.inr ⟨by rfl, rfl⟩) ?_ ?_
      rotate_left
      next =>
       simp only [Act.put, yay, yby, ycy, zT, zU]
       rfl
      refine zg (i := 20) (N := some 58) (v := undef) (a' := ?_) #[true, true, true, true, true, true, true, true, true, true, true, true, true, true, true, true, true, true, true, true, true, false, false, false, false] rfl rfl (zb HT_.out (by kernel_rfl)) (fun _ _ _ h => h) (Or.inr ⟨by rfl, rfl⟩) ?_ ?_
      rotate_left
      next =>
       simp only [Act.put, yay, yby, ycy, zT, zU]
       rfl
      refine zg (i := 21) (N := some 59) (v := undef) (a' := ?_) #[true, true, true, true, true, true, true, true, true, true, true, true, true, true, true, true, true, true, true, true, true, true, false, false, false] rfl rfl (zb HT_.out (by kernel_rfl)) (fun _ _ _ h => h) (Or.inr ⟨by rfl, rfl⟩) ?_ ?_
      rotate_left
      next =>
       simp only [Act.put, yay, yby, ycy, zT, zU]
       rfl
      refine zg (i := 22) (N := some 60) (v := ?_) (a' := ?_) #[true, true, true, true, true, true, true, true, true, true, true, true, true, true, true, true, true, true, true, true, true, true, true, false, false] rfl rfl (zb HT_.out (by kernel_rfl)) (fun _ _ _ h => h) (Or.inl ⟨by rfl, ?_⟩) ?_ ?_
      rotate_left
      next =>
       intro w'
       go_simp
       with_reducible rfl
      rotate_left
      next =>
       simp only [Act.put, yay, yby, ycy, zT, zU]
       rfl
      refine zg (i := 23) (N := some 61) (v := ?_) (a' := ?_) #[true, true, true, true, true, true, true, true, true, true, true, true, true, true, true, true, true, true, true, true, true, true, true, true, false] rfl rfl (zb HT_.out (by kernel_rfl)) (fun _ _ _ h => h) (Or.inl ⟨by rfl, ?_⟩) ?_ ?_
      rotate_left
      next =>
       intro w'
       go_simp
       with_reducible rfl
      rotate_left
      next =>
       simp only [Act.put, yay, yby, ycy, zT, zU]
       rfl
      refine zg (i := 24) (N := some 6) (v := ?_) (a' := ?_) #[true, true, true, true, true, true, true, true, true, true, true, true, true, true, true, true, true, true, true, true, true, true, true, true, true] rfl rfl (zb HT_.out (by kernel_rfl)) (fun _ _ _ h => h) (Or.inl ⟨by rfl, ?_⟩) ?_ ?_
      rotate_left
      next =>
       intro w'
       go_simp
       with_reducible rfl
      rotate_left
      next =>
       simp only [Act.put, yay, yby, ycy, zT, zU]
       rfl
      refine Zo (ZS HT_.out (by kernel_rfl)) ?_
      try go_wp2
      go_ret
      exact ⟨by first | rfl | (simp [zX, zY] <;> rfl) | (simp [*, zX, zY] <;> rfl), by repeat (first | (with_reducible first | exact HB.out | apply zD | apply zB | apply zE | refine zG ?_ GE101.out | refine zG ?_ GE104.out) | exact HB.out)⟩
     rw [if_pos c37] at H
     have c37b0 : (((zF (zC l0_0 a1) a2).f0) == a1) = true := beq_iff_eq.mpr c37
     have c37b1 : (((zF (zC l0_0 a1) a2).f0) != a1) = false := bne_eq_false_iff_eq.mpr c37
     clear c37
     obtain rfl := yey H
     have hnb38 := NB104_101.out
     have hnc38 := NB101_104.out
     have hcz39_0 : wc.cell? ⟨gb104, 0, none⟩ = some (.int .i64 ((zF (zC l0_0 a1) a2).f0)) := (zJ BK104.out 0).trans rfl
     have hcz39_1 : wc.cell? ⟨gb104, 1, none⟩ = some (.int .i64 ((zF (zC l0_0 a1) a2).f1)) := (zJ BK104.out 1).trans rfl
     have hfz39_0 := zL BK104.out 0
     have hfz39_1 := zL BK104.out 1
     try go_wp2_with (first | ((with_reducible refine ze (f := 74) rfl ?_); refine qP (some 37) rfl rfl Try.func74 (by kernel_rfl) rfl #[.agg #[.int .i64 ((zF (zC l0_0 a1) a2).f0), .int .i64 ((zF (zC l0_0 a1) a2).f1)], .int .i64 a2] rfl (by (try simp only [yiy, yjy, yky]); first | done | rfl | (simp only [yly, ymy]; rfl)) ?_; (with_reducible refine (ZB.calls ((zF (zC l0_0 a1) a2).f0) ((zF (zC l0_0 a1) a2).f1) a2 t107 _ A30.out).mono ?_); rintro e w40 ⟨rfl, hb⟩; refine ⟨_, rfl, ?_⟩; have n0_ := zA.mk (zN (g := gb101) (o := .cells #[.slice (some ad102) l0_0.length c0_0] 28 (0, 0)) (by (with_reducible repeat (first | refine zI ?_ _ | refine zK ?_ | refine zH ?_ _)); exact BK101.out) hb); have n1_ := zA.mk (zN (g := gb104) (o := .cells #[.int .i64 ((zF (zC l0_0 a1) a2).f0), .int .i64 ((zF (zC l0_0 a1) a2).f1)] 74 (0, 0)) (by (with_reducible repeat (first | refine zI ?_ _ | refine zK ?_ | refine zH ?_ _)); exact BK104.out) hb); have n2_ := zA.mk (zO (by repeat (first | (with_reducible first | exact HB.out | apply zD | apply zB | apply zE | refine zG ?_ GE101.out | refine zG ?_ GE104.out) | exact HB.out)) hb); clear BK101; clear BK104; clear HB; have BK101 := n0_; have BK104 := n1_; have HB := n2_; clear n0_ n1_ n2_; (try clear hb); (try clear hb2); (try clear hk); (try clear hi)))
     have n0_ := zA.mk (zK BK101.out)
     have n1_ := zA.mk (zK BK104.out)
     have n2_ := zA.mk (zE HB.out)
     clear BK101
     clear BK104
     clear HB
     have BK101 := n0_
     have BK104 := n1_
     have HB := n2_
     clear n0_ n1_ n2_
     have p108 : 0 ≤ (((zF (zC l0_0 a1) a2).f0) : Int) := of_decide_eq_true (by first | (with_reducible assumption) | assumption)
     have q108 : ((zF (zC l0_0 a1) a2).f0) < (l0_0.length : Int) := of_decide_eq_true (by first | (with_reducible assumption) | assumption)
     obtain ⟨ad108, A108_0, c108_0, e108, hx108_0, hl108_0, hi108_0⟩ := qt HR0_0.out ((zF (zC l0_0 a1) a2).f0) p108 q108
     have hw108_0 := hx108_0
     obtain rfl : ad102 = ad108 := (by injection e108)
     replace hx108_0 := (HB.out.cell (yoy w _ hx108_0)).trans hx108_0
     have HR108_0 := zA.mk hi108_0
     have HC108_0 := zA.mk hl108_0
     clear hi108_0 hl108_0
     replace p108 := eq_true p108
     replace q108 := eq_true q108
     have p109 : 0 ≤ (t107 : Int) := of_decide_eq_true (by first | (with_reducible assumption) | assumption)
     have q109 : t107 < ((zC l0_0 ((zF (zC l0_0 a1) a2).f0)).length : Int) := of_decide_eq_true (by first | (with_reducible assumption) | assumption)
     obtain ⟨ad109, e109, hx109_0, hx109_1⟩ := ZM HR108_0.out t107 p109 q109
     have hw109_1 := hx109_1
     have hw109_0 := hx109_0
     cases e109
     replace hx109_0 := (HB.out.cell (yoy w _ hx109_0)).trans hx109_0
     replace hx109_1 := (HB.out.cell (yoy w _ hx109_1)).trans hx109_1
     replace p109 := eq_true p109
     replace q109 := eq_true q109
     refine ZN (n := 25) (S := fun w' => w'.cell? ⟨gb101, 0, none⟩ = some (.slice (some ad102) l0_0.length c0_0) ∧ w'.cell? ⟨gb104, 0, none⟩ = some (.int .i64 ((zF (zC l0_0 a1) a2).f0)) ∧ w'.cell? ⟨gb104, 1, none⟩ = some (.int .i64 ((zF (zC l0_0 a1) a2).f1)) ∧ w'.cell? (ad102.add (((zF (zC l0_0 a1) a2).f0)).toNat) = some (.slice (some ad109) (zC l0_0 ((zF (zC l0_0 a1) a2).f0)).length c108_0) ∧ w'.cell? (ad109.add ((t107).toNat * 2)) = some (.int .i64 ((zF (zC l0_0 ((zF (zC l0_0 a1) a2).f0)) t107).f0)) ∧ w'.cell? ⟨(ad109.add ((t107).toNat * 2)).block, (ad109.add ((t107).toNat * 2)).off + 1, none⟩ = some (.int .i64 ((zF (zC l0_0 ((zF (zC l0_0 a1) a2).f0)) t107).f1))) (ds := []) #[false, false, false, false, false, false, false, false, false, false, false, false, false, false, false, false, false, false, false, false, false, false, false, false, false] (by kernel_rfl) rfl rfl ⟨(zJ BK101.out 0).trans rfl, (zJ BK104.out 0).trans rfl, (zJ BK104.out 1).trans rfl, ((HB.out.cell (yoy w _ hw108_0)).trans hw108_0), ((HB.out.cell (yoy w _ hw109_0)).trans hw109_0), ((HB.out.cell (yoy w _ hw109_1)).trans hw109_1)⟩ (fun hHeld => ?_); refine qx zV.tab7 zV.zEj (fun HT_ HW_ => ?_)
     generalize w40.drew = w41 at BK101 BK104 HB HR108_0 hx108_0 hx109_0 hx109_1 hHeld ⊢
     refine zg (i := 0) (N := some 38) (v := ?_) (a' := ?_) #[true, false, false, false, false, false, false, false, false, false, false, false, false, false, false, false, false, false, false, false, false, false, false, false, false] rfl rfl (zb HT_.out (by kernel_rfl)) (fun _ _ _ h => h) (Or.inl ⟨by rfl, ?_⟩) ?_ ?_
     rotate_left
     next =>
      intro w'
      go_simp
      with_reducible rfl
     rotate_left
     next =>
      simp only [Act.put, yay, yby, ycy, zT, zU]
      rfl
     refine zg (i := 2) (N := some 40) (v := ?_) (a' := ?_) #[true, false, true, false, false, false, false, false, false, false, false, false, false, false, false, false, false, false, false, false, false, false, false, false, false] rfl rfl (zb HT_.out (by kernel_rfl)) (fun _ _ _ h => h) (Or.inl ⟨by rfl, ?_⟩) ?_ ?_
     rotate_left
     next =>
      intro w'
      go_simp
      with_reducible rfl
     rotate_left
     next =>
      simp only [Act.put, yay, yby, ycy, zT, zU]
      rfl
     refine zg (i := 6) (N := some 44) (v := ?_) (a' := ?_) #[true, false, true, false, false, false, true, false, false, false, false, false, false, false, false, false, false, false, false, false, false, false, false, false, false] rfl rfl (zb HT_.out (by kernel_rfl)) (fun _ _ _ h => h) (Or.inl ⟨by rfl, ?_⟩) ?_ ?_
     rotate_left
     next =>
      intro w'
      go_simp
      with_reducible rfl
     rotate_left
     next =>
      simp only [Act.put, yay, yby, ycy, zT, zU]
      rfl
     refine zg (i := 10) (N := some 48) (v := ?_) (a' := ?_) #[true, false, true, false, false, false, true, false, false, false, true, false, false, false, false, false, false, false, false, false, false, false, false, false, false] rfl rfl (zb HT_.out (by kernel_rfl)) (fun _ _ _ h => h) (Or.inl ⟨by rfl, ?_⟩) ?_ ?_
     rotate_left
     next =>
      intro w'
      go_simp
      with_reducible rfl
     rotate_left
     next =>
      simp only [Act.put, yay, yby, ycy, zT, zU]
      rfl
     refine qQ (i := 1) (N := some 39) (v := ?_) (a' := ?_) #[true, true, true, false, false, false, true, false, false, false, true, false, false, false, false, false, false, false, false, false, false, false, false, false, false] rfl rfl (zn HT_.out HW_.out (by kernel_rfl)) (fun _ _ _ h => h) (Or.inl ⟨by rfl, ?_⟩) hHeld ?_ ?_
     rotate_left
     next =>
      rintro w' ⟨s0, s1, s2, s3, s4, s5⟩
      go_simp
      with_reducible rfl
     rotate_left
     next =>
      simp only [Act.put, yay, yby, ycy, zT, zU]
      rfl
     refine qQ (i := 3) (N := some 41) (v := ?_) (a' := ?_) #[true, true, true, true, false, false, true, false, false, false, true, false, false, false, false, false, false, false, false, false, false, false, false, false, false] rfl rfl (zn HT_.out HW_.out (by kernel_rfl)) (fun _ _ _ h => h) (Or.inl ⟨by rfl, ?_⟩) hHeld ?_ ?_
     rotate_left
     next =>
      rintro w' ⟨s0, s1, s2, s3, s4, s5⟩
      go_simp
      with_reducible rfl
     rotate_left
     next =>
      simp only [Act.put, yay, yby, ycy, zT, zU]
      rfl
     refine zg (i := 4) (N := some 42) (v := ?_) (a' := ?_) #[true, true, true, true, true, false, true, false, false, false, true, false, false, false, false, false, false, false, false, false, false, false, false, false, false] rfl rfl (zb HT_.out (by kernel_rfl)) (fun _ _ _ h => h) (Or.inl ⟨by rfl, ?_⟩) ?_ ?_
     rotate_left
     next =>
      intro w'
      go_simp
      with_reducible rfl
     rotate_left
     next =>
      simp only [Act.put, yay, yby, ycy, zT, zU]
      rfl
     refine qQ (i := 5) (N := some 43) (v := ?_) (a' := ?_) #[true, true, true, true, true, true, true, false, false, false, true, false, false, false, false, false, false, false, false, false, false, false, false, false, false] rfl rfl (zn HT_.out HW_.out (by kernel_rfl)) (fun _ _ _ h => h) (Or.inl ⟨by rfl, ?_⟩) hHeld ?_ ?_
     rotate_left
     next =>
      rintro w' ⟨s0, s1, s2, s3, s4, s5⟩
      go_simp
      with_reducible rfl
     rotate_left
     next =>
      simp only [Act.put, yay, yby, ycy, zT, zU]
      rfl
     refine zg (i := 7) (N := some 45) (v := ?_) (a' := ?_) #[true, true, true, true, true, true, true, true, false, false, true, false, false, false, false, false, false, false, false, false, false, false, false, false, false] rfl rfl (zb HT_.out (by kernel_rfl)) (fun _ _ _ h => h) (Or.inl ⟨by rfl, ?_⟩) ?_ ?_
     rotate_left
     next =>
      intro w'
      go_simp
      with_reducible rfl
     rotate_left
     next =>
      simp only [Act.put, yay, yby, ycy, zT, zU]
      rfl
     refine qQ (i := 8) (N := some 46) (v := ?_) (a' := ?_) #[true, true, true, true, true, true, true, true, true, false, true, false, false, false, false, false, false, false, false, false, false, false, false, false, false] rfl rfl (zn HT_.out HW_.out (by kernel_rfl)) (fun _ _ _ h => h) (Or.inl ⟨by rfl, ?_⟩) hHeld ?_ ?_
     rotate_left
     next =>
      rintro w' ⟨s0, s1, s2, s3, s4, s5⟩
      go_simp
      with_reducible rfl
     rotate_left
     next =>
      simp only [Act.put, yay, yby, ycy, zT, zU]
      rfl
     refine qQ (i := 9) (N := some 47) (v := ?_) (a' := ?_) #[true, true, true, true, true, true, true, true, true, true, true, false, false, false, false, false, false, false, false, false, false, false, false, false, false] rfl rfl (zn HT_.out HW_.out (by kernel_rfl)) (fun _ _ _ h => h) (Or.inl ⟨by rfl, ?_⟩) hHeld ?_ ?_
     rotate_left
     next =>
      rintro w' ⟨s0, s1, s2, s3, s4, s5⟩
      go_simp
      with_reducible rfl
     rotate_left
     next =>
      simp only [Act.put, yay, yby, ycy, zT, zU]
      rfl
     refine QH (i := 11) (N := some 49) #[true, true, true, true, true, true, true, true, true, true, true, true, false, false, false, false, false, false, false, false, false, false, false, false, false] rfl rfl (ZF HT_.out (by kernel_rfl)) (by decide) (fun K hK => ?_)
     refine Zv Try.func128 (by kernel_rfl) rfl #[.agg #[.int .i64 ((zF (zC l0_0 a1) a2).f0), .int .i64 ((zF (zC l0_0 a1) a2).f1)], .int .i64 a1] (by rfl) rfl rfl (by (try simp only [yiy, yjy, yky]); first | done | rfl | (simp only [yly, ymy]; rfl)) ?_
     with_reducible refine (qm.calls ((zF (zC l0_0 a1) a2).f0) ((zF (zC l0_0 a1) a2).f1) a1 t110 t111 _ A35.out).mono ?_
     rintro e w42 ⟨rfl, hb⟩
     refine ⟨_, rfl, ?_⟩
     have n0_ := zA.mk (zN (g := gb101) (o := .cells #[.slice (some ad102) l0_0.length c0_0] 28 (0, 0)) (by (with_reducible repeat (first | refine zI ?_ _ | refine zK ?_ | refine zH ?_ _)); exact BK101.out) hb)
     have n1_ := zA.mk (zN (g := gb104) (o := .cells #[.int .i64 ((zF (zC l0_0 a1) a2).f0), .int .i64 ((zF (zC l0_0 a1) a2).f1)] 74 (0, 0)) (by (with_reducible repeat (first | refine zI ?_ _ | refine zK ?_ | refine zH ?_ _)); exact BK104.out) hb)
     have n2_ := zA.mk (zO (by repeat (first | (with_reducible first | exact HB.out | apply zD | apply zB | apply zE | refine zG ?_ GE101.out | refine zG ?_ GE104.out) | exact HB.out)) hb)
     clear BK101
     clear BK104
     clear HB
     have BK101 := n0_
     have BK104 := n1_
     have HB := n2_
     clear n0_ n1_ n2_
     (try clear hb)
     (try clear hb2)
     (try clear hk)
     (try clear hi)
     refine hK.out _ _ ⟨(zJ BK101.out 0).trans rfl, (zJ BK104.out 0).trans rfl, (zJ BK104.out 1).trans rfl, ((HB.out.cell (yoy w _ hw108_0)).trans hw108_0), ((HB.out.cell (yoy w _ hw109_0)).trans hw109_0), ((HB.out.cell (yoy w _ hw109_1)).trans hw109_1)⟩ (fun hHeld => ?_)
     clear hK K
     refine ZQ (a' := ?_) ?_ ?_
     rotate_left
     next =>
      show Act.put _ (some 49) _ = _
      simp only [Act.put, yay, yby, ycy, zT, zU]
      rfl
     refine zg (i := 12) (N := some 50) (v := ?_) (a' := ?_) #[true, true, true, true, true, true, true, true, true, true, true, true, true, false, false, false, false, false, false, false, false, false, false, false, false] rfl rfl (zb HT_.out (by kernel_rfl)) (fun _ _ _ h => h) (Or.inl ⟨by rfl, ?_⟩) ?_ ?_
     rotate_left
     next =>
      intro w'
      go_simp
      with_reducible rfl
     rotate_left
     next =>
      simp only [Act.put, yay, yby, ycy, zT, zU]
      rfl
     refine zg (i := 13) (N := some 51) (v := ?_) (a' := ?_) #[true, true, true, true, true, true, true, true, true, true, true, true, true, true, false, false, false, false, false, false, false, false, false, false, false] rfl rfl (zb HT_.out (by kernel_rfl)) (fun _ _ _ h => h) (Or.inl ⟨by rfl, ?_⟩) ?_ ?_
     rotate_left
     next =>
      intro w'
      go_simp
      with_reducible rfl
     rotate_left
     next =>
      simp only [Act.put, yay, yby, ycy, zT, zU]
      rfl
     refine zg (i := 14) (N := some 52) (v := ?_) (a' := ?_) #[true, true, true, true, true, true, true, true, true, true, true, true, true, true, true, false, false, false, false, false, false, false, false, false, false] rfl rfl (zb HT_.out (by kernel_rfl)) (fun _ _ _ h => h) (Or.inl ⟨by rfl, ?_⟩) ?_ ?_
     rotate_left
     next =>
      intro w'
      go_simp
      with_reducible rfl
     rotate_left
     next =>
      simp only [Act.put, yay, yby, ycy, zT, zU]
      rfl
     refine zg (i := 16) (N := some 54) (v := ?_) (a' := ?_) #[true, true, true, true, true, true, true, true, true, true, true, true, true, true, true, false, true, false, false, false, false, false, false, false, false] rfl rfl (zb HT_.out (by kernel_rfl)) (fun _ _ _ h => h) (Or.inl ⟨by rfl, ?_⟩) ?_ ?_
     rotate_left
     next =>
      intro w'
      go_simp
      with_reducible rfl
     rotate_left
     next =>
      simp only [Act.put, yay, yby, ycy, zT, zU]
      rfl
     refine qQ (i := 15) (N := some 53) (v := ?_) (a' := ?_) #[true, true, true, true, true, true, true, true, true, true, true, true, true, true, true, true, true, false, false, false, false, false, false, false, false] rfl rfl (zn HT_.out HW_.out (by kernel_rfl)) (fun _ _ _ h => h) (Or.inl ⟨by rfl, ?_⟩) hHeld ?_ ?_
     rotate_left
     next =>
      rintro w' ⟨s0, s1, s2, s3, s4, s5⟩
      go_simp
      with_reducible rfl
     rotate_left
     next =>
      simp only [Act.put, yay, yby, ycy, zT, zU]
      rfl
     refine zg (i := 17) (N := some 55) (v := ?_) (a' := ?_) #[true, true, true, true, true, true, true, true, true, true, true, true, true, true, true, true, true, true, false, false, false, false, false, false, false] rfl rfl (zb HT_.out (by kernel_rfl)) (fun _ _ _ h => h) (Or.inl ⟨by rfl, ?_⟩) ?_ ?_
     rotate_left
     next =>
      intro w'
      go_simp
      with_reducible rfl
     rotate_left
     next =>
      simp only [Act.put, yay, yby, ycy, zT, zU]
      rfl
     refine zg (i := 18) (N := some 56) (v := ?_) (a' := ?_) #[true, true, true, true, true, true, true, true, true, true, true, true, true, true, true, true, true, true, true, false, false, false, false, false, false] rfl rfl (zb HT_.out (by kernel_rfl)) (fun _ _ _ h => h) (Or.inl ⟨by rfl, ?_⟩) ?_ ?_
     rotate_left
     next =>
      intro w'
      go_simp
      with_reducible rfl
     rotate_left
     next =>
      simp only [Act.put, yay, yby, ycy, zT, zU]
      rfl
     refine zg (i := 19) (N := some 57) (v := ?_) (a' := ?_) #[true, true, true, true, true, true, true, true, true, true, true, true, true, true, true, true, true, true, true, true, false, false, false, false, false] rfl rfl (zb HT_.out (by kernel_rfl)) (fun _ _ _ h => h) (Or.inl ⟨by rfl, ?_⟩) ?_ ?_
     rotate_left
     next =>
      intro w'
      go_simp
      with_reducible rfl
     rotate_left
     next =>
      simp only [Act.put, yay, yby, ycy, zT, zU]
      rfl
     refine zg (i := 20) (N := some 58) (v := ?_) (a' := ?_) #[true, true, true, true, true, true, true, true, true, true, true, true, true, true, true, true, true, true, true, true, true, false, false, false, false] rfl rfl (zb HT_.out (by kernel_rfl)) (fun _ _ _ h => h) (Or.inl ⟨by rfl, ?_⟩) ?_ ?_
     rotate_left
     next =>
      intro w'
      go_simp
      with_reducible rfl
     rotate_left
     next =>
      simp only [Act.put, yay, yby, ycy, zT, zU]
      rfl
     refine zg (i := 21) (N := some 59) (v := ?_) (a' := ?_) #[true, true, true, true, true, true, true, true, true, true, true, true, true, true, true, true, true, true, true, true, true, true, false, false, false] rfl rfl (zb HT_.out (by kernel_rfl)) (fun _ _ _ h => h) (Or.inl ⟨by rfl, ?_⟩) ?_ ?_
     rotate_left
     next =>
      intro w'
      go_simp
      with_reducible rfl
     rotate_left
     next =>
      simp only [Act.put, yay, yby, ycy, zT, zU]
      rfl
     refine zg (i := 22) (N := some 60) (v := ?_) (a' := ?_) #[true, true, true, true, true, true, true, true, true, true, true, true, true, true, true, true, true, true, true, true, true, true, true, false, false] rfl rfl (zb HT_.out (by kernel_rfl)) (fun _ _ _ h => h) (Or.inl ⟨by rfl, ?_⟩) ?_ ?_
     rotate_left
     next =>
      intro w'
      go_simp
      with_reducible rfl
     rotate_left
     next =>
      simp only [Act.put, yay, yby, ycy, zT, zU]
      rfl
     refine zg (i := 23) (N := some 61) (v := ?_) (a' := ?_) #[true, true, true, true, true, true, true, true, true, true, true, true, true, true, true, true, true, true, true, true, true, true, true, true, false] rfl rfl (zb HT_.out (by kernel_rfl)) (fun _ _ _ h => h) (Or.inl ⟨by rfl, ?_⟩) ?_ ?_
     rotate_left
     next =>
      intro w'
      go_simp
      with_reducible rfl
     rotate_left
     next =>
      simp only [Act.put, yay, yby, ycy, zT, zU]
      rfl
     refine zg (i := 24) (N := some 6) (v := ?_) (a' := ?_) #[true, true, true, true, true, true, true, true, true, true, true, true, true, true, true, true, true, true, true, true, true, true, true, true, true] rfl rfl (zb HT_.out (by kernel_rfl)) (fun _ _ _ h => h) (Or.inl ⟨by rfl, ?_⟩) ?_ ?_
     rotate_left
     next =>
      intro w'
      go_simp
      with_reducible rfl
     rotate_left
     next =>
      simp only [Act.put, yay, yby, ycy, zT, zU]
      rfl
     refine Zo (ZS HT_.out (by kernel_rfl)) ?_
     try go_wp2
     go_ret
     exact ⟨by first | rfl | (simp [zX, zY] <;> rfl) | (simp [*, zX, zY] <;> rfl), by repeat (first | (with_reducible first | exact HB.out | apply zD | apply zB | apply zE | refine zG ?_ GE101.out | refine zG ?_ GE104.out) | exact HB.out)⟩
end
def qa.f (l0 : List (zh)) : Option (Bool) := some ((l0.length : Int) != 4)
set_option maxHeartbeats 8000000 in
set_option maxRecDepth 100000 in
theorem qa.calls (A0 : Option Addr) (c0 : Nat) (l0 : List (zh)) (r : Bool) (w : World) (hr0 : Kd.C qJ w A0 l0.length l0) (hc0 : l0.length ≤ c0) (h : qa.f l0 = some r) :
    Calls Try.prog 116 #[.slice A0 l0.length c0] w fun e w' => e = .returned (.bool r) ∧ zz w w' := by
  have HR0 := zA.mk hr0
  have HC0 := zA.mk hc0
  clear hr0 hc0
  have H : (some ((l0.length : Int) != 4)) = some r := h
  clear h
  obtain rfl := yey H
  go_enter Try.func116, Try.ntmps116
  go_wp2
  go_ret
  exact ⟨by first | rfl | (simp; done) | (simp [*]; done), by repeat (first | exact zz.refl _ | apply zz.step)⟩
end Go.Proofs.Ytdgdnnjigigkcaa.P
namespace Go.Proofs.Ytdgdnnjigigkcaa.Lib
open Go.RowKit Go.Proofs.YtdgdnnjigigkcaaW.PrintWords
def zE9 {α : Type} (f : α → Option Bool) : Nat → List α → Option Int
  | _, [] => some (-1)
  | i, x :: xs => (f x).bind fun b => if b = true then some (i : Int) else zE9 f (i + 1) xs
theorem zBm {α : Type} (f : α → Option Bool) (i : Nat) (x : α) (xs : List α) : zE9 f i (x :: xs) = (f x).bind fun b => if b = true then some (i : Int) else zE9 f (i + 1) xs := rfl
end Go.Proofs.Ytdgdnnjigigkcaa.Lib
namespace Go.Proofs.Ytdgdnnjigigkcaa.P
open Go.RowKit Go.Proofs.YtdgdnnjigigkcaaW.PrintWords Go.Proofs.YtdgdnnjigigkcaaW.PrintLast Go.Proofs.YtdgdnnjigigkcaaW.PrintMore
attribute [local go_sem] Qm Qn JO JP QT QU Qo Qp
set_option linter.unusedVariables false
set_option linter.unusedSimpArgs false
open Go.Proofs.Ytdgdnnjigigkcaa.Lib
def zw.f (l0 : List (List (zh))) : Option Int := zE9 (fun x => qa.f x) 0 l0
set_option maxHeartbeats 8000000 in
set_option maxRecDepth 100000 in
theorem zw.calls (A0 : Option Addr) (c0 : Nat) (l0 : List (List (zh))) (r : Int) (w : World) (hr0 : Kd.C (Kd.slice 74 qJ) w A0 l0.length l0) (hc0 : l0.length ≤ c0) (h : zw.f l0 = some r) :
    Calls Try.prog 167 #[.slice A0 l0.length c0, .func (.func 116) #[] #[]] w fun e w' => e = .returned (.int .i64 r) ∧ Below w.heap.size w w' := by
  have HR0 := zA.mk hr0
  clear hr0 hc0
  have hbig : l0.length ≤ 9223372036854775807 := HR0.out.2.1
  have HB := zA.mk (yqy w.heap.size w)
  have H' := zA.mk (show zE9 (fun x => qa.f x) 0 l0 = some r from h)
  clear h
  go_enter Try.func167, Try.ntmps167
  go_wp2
  go_loopg [5, 8] l0.length (fun gg v5 v8 w' => ∃ kk : Nat, kk ≤ l0.length ∧ l0.length - kk ≤ gg ∧ v8 = .int .i64 kk ∧ zA (zE9 (fun x => qa.f x) kk (l0.drop kk) = some r) ∧ zA (Below w.heap.size w w'))
  case atStart => exact ⟨0, Nat.zero_le _, by omega, rfl, H', HB⟩
  case round =>
    clear H' HB
    obtain ⟨kk, hkk, hg, rfl, HA, HB⟩ := hrel
    by_cases hlt : kk < l0.length
    · have hltz : (kk : Int) < (l0.length : Int) := by omega
      have H := HA.out
      clear HA
      rw [List.drop_eq_getElem_cons hlt, zBm] at H
      replace H := ydy.mp H
      obtain ⟨b, hb, H⟩ := H
      obtain ⟨ad, A1, c1, e104, hx, hl1, hi1⟩ := qt HR0.out (kk : Int) (by omega) (by omega)
      have ex : zC l0 (kk : Int) = l0[kk] := by simp [zC, hlt]
      rw [ex] at hx hl1 hi1
      rw [yny] at hx
      replace hx := (HB.out.cell (yoy w _ hx)).trans hx
      replace hi1 := Kd.qA hi1 HB.out
      generalize l0[kk] = y at hx hl1 hi1 hb
      have HI1 := zA.mk hi1
      have HL1 := zA.mk hl1
      clear ex hi1 hl1
      cases e104
      have HC := zA.mk hb
      clear hb
      cases b with
      | true =>
        have H2 := zA.mk H
        clear H
        go_wp2_with fail
        refine (qa.calls _ _ _ _ _ HI1.out HL1.out HC.out).mono ?_
        rintro e w' ⟨rfl, hd⟩
        have HB2 := zA.mk (zO HB.out hd.below)
        clear hd HB
        go_wp2
        go_ret
        exact ⟨by rw [yey H2.out]; rfl, HB2.out⟩
      | false =>
        have H2 := zA.mk H
        clear H
        go_wp2_with fail
        refine (qa.calls _ _ _ _ _ HI1.out HL1.out HC.out).mono ?_
        rintro e w' ⟨rfl, hd⟩
        have HB2 := zA.mk (zO HB.out hd.below)
        clear hd HB
        go_wp2
        go_roundg (l0.length - (kk + 1))
        case measure => omega
        case rel => exact ⟨kk + 1, by omega, by omega, by go_num, H2, HB2⟩
    · have hltz : ¬ (kk : Int) < (l0.length : Int) := by omega
      have e : kk = l0.length := by omega
      subst e
      have H2 := zA.mk (yey (by simpa [zE9] using HA.out))
      clear HA
      go_wp2
      go_ret
      exact ⟨by rw [← H2.out]; rfl, HB.out⟩
def zl.f (l0 : List (List (zh))) : Option Bool := (zw.f l0).bind fun i => some (decide (0 ≤ i))
set_option maxHeartbeats 8000000 in
set_option maxRecDepth 100000 in
theorem zl.calls (A0 : Option Addr) (c0 : Nat) (l0 : List (List (zh))) (r : Bool) (w : World) (hr0 : Kd.C (Kd.slice 74 qJ) w A0 l0.length l0) (hc0 : l0.length ≤ c0) (h : zl.f l0 = some r) :
    Calls Try.prog 115 #[.slice A0 l0.length c0, .func (.func 116) #[] #[]] w fun e w' => e = .returned (.bool r) ∧ Below w.heap.size w w' := by
  obtain ⟨i, hi, h⟩ := ydy.mp h
  have H := zA.mk (yey h)
  clear h
  have HI := zA.mk hi
  clear hi
  have HR0 := zA.mk hr0
  have HC0 := zA.mk hc0
  clear hr0 hc0
  go_enter Try.func115, Try.ntmps115
  go_wp2_with fail
  refine (zw.calls _ _ _ _ _ HR0.out HC0.out HI.out).mono ?_
  rintro e w' ⟨rfl, hd⟩
  have HB := zA.mk hd
  clear hd
  go_wp2
  go_ret
  exact ⟨by rw [← H.out]; rfl, HB.out⟩
end Go.Proofs.Ytdgdnnjigigkcaa.P
namespace Go.Proofs.Ytdgdnnjigigkcaa.P
open Go.RowKit Go.Proofs.YtdgdnnjigigkcaaW.PrintWords Go.Proofs.YtdgdnnjigigkcaaW.PrintLast Go.Proofs.YtdgdnnjigigkcaaW.PrintMore
attribute [local go_sem] Qm Qn JO JP QT QU Qo Qp
set_option linter.unusedVariables false
set_option linter.unusedSimpArgs false
mutual
def zW.j0 : Nat → Bool → List (List (zh)) → Option (Bool)
  | 0, _, _ => none
  | k + 1, x13, x102000 => if x13 = true then (some false) else ((qN.f x102000).bind fun t103 => (zW.l0 k t103 0 x102000))
def zW.l0 : Nat → Int → Int → List (List (zh)) → Option (Bool)
  | 0, _, _, _ => none
  | k + 1, x16, x17, x102000 => if x17 < x16 then (zW.l1 k x17 x16 x17 0 x102000) else (some true)
def zW.l1 : Nat → Int → Int → Int → Int → List (List (zh)) → Option (Bool)
  | 0, _, _, _, _, _ => none
  | k + 1, x3, x16, x17, x20, x102000 => if x20 < 4 then ((zV.f k x102000 x3 x20).bind fun t104 => (if t104 = true then (zW.l1 k x3 x16 x17 (wrap64 (x20 + 1)) x102000) else (some false))) else (zW.l0 k x16 (wrap64 (x17 + 1)) x102000)
end
def zW.f (k : Nat) (l0_0 : List (List (zh))) : Option (Bool) := if (l0_0.length : Int) > 8 then (zW.j0 k true l0_0) else ((zl.f l0_0).bind fun t102 => (zW.j0 k t102 l0_0))
set_option maxHeartbeats 8000000 in
set_option maxRecDepth 100000 in
theorem zW.calls (k : Nat) (A0_0 : Option Addr) (c0_0 : Nat) (l0_0 : List (List (zh))) (r : Bool) (w : World) (hr0_0 : Kd.C (Kd.slice 74 qJ) w A0_0 l0_0.length l0_0) (hc0_0 : l0_0.length ≤ c0_0) (h : zW.f k l0_0 = some r) :
    Calls Try.prog 57 #[.agg #[.slice A0_0 l0_0.length c0_0]] w fun e w' => e = .returned (.bool r) ∧ Below w.heap.size w w' := by
  have hu28 := Try.underlying28
  have HR0_0 := zA.mk hr0_0
  have HC0_0 := zA.mk hc0_0
  clear hr0_0 hc0_0
  have HB := zA.mk (yqy w.heap.size w)
  have H : (if (l0_0.length : Int) > 8 then (zW.j0 k true l0_0) else ((zl.f l0_0).bind fun t102 => (zW.j0 k t102 l0_0))) = some r := h
  clear h
  have HC2 := zA.mk H
  clear H
  go_enter Try.func57, Try.ntmps57
  go_upto_region 1 with (first | ((with_reducible refine zm (N := 1) rfl ?_); refine zp ?hg (N := 1) ?hd (cs := #[.slice A0_0 l0_0.length c0_0]) (t := 28) ?hr ?_; (case hd => rfl); (case hg => rfl); (case hr => first | (go_simp; done) | (go_simp; rfl)); intro gb101 hg w3 hbox hb; have n0_ := zA.mk (zO (by repeat (first | (with_reducible first | exact HB.out | apply zD | apply zB | apply zE) | exact HB.out)) hb); have n1_ := zA.mk (hbox); have n2_ := zA.mk ((by rw [hg]; exact (zP (by repeat (first | (with_reducible first | exact HB.out | apply zD | apply zB | apply zE) | exact HB.out))) : w.heap.size ≤ gb101)); have n3_ := zA.mk ((by rw [hg]; exact (zP (by repeat (first | (with_reducible first | exact HB.out | apply zD | apply zB | apply zE) | exact HB.out))) : w.heap.size ≤ gb101)); clear HB; have HB := n0_; have BK101 := n1_; have GW101 := n2_; have GE101 := n3_; clear n0_ n1_ n2_ n3_; clear hb hbox hg))
  (try simp only [Act.put, yay, yby, ycy])
  go_cut [13] (fun v13 wc => ∃ (kq : Nat) (x13_1 : Bool), v13 = .bool x13_1 ∧ zA (zW.j0 kq x13_1 l0_0 = some r) ∧ zA (kq ≤ k) ∧ zA (wc.heap[gb101]? = some (.cells #[(.slice A0_0 l0_0.length c0_0)] 28 (0, 0))) ∧ zA (Below w.heap.size w wc))
  case first =>
    have H := HC2.out
    clear HC2
    by_cases c4 : (l0_0.length : Int) > 8
    · rw [if_pos c4] at H
      have c4b0 : decide (8 < (l0_0.length : Int)) = true := ygy c4
      have c4b1 : decide (8 < l0_0.length) = true := ygy (by omega)
      clear c4
      (first | rw [c4b0] | (simp only [zT, zU]; rw [c4b0]) | skip)
      have H' := zA.mk H
      clear H
      have hcz5_0 : w3.cell? ⟨gb101, 0, none⟩ = some (.slice A0_0 l0_0.length c0_0) := (zJ BK101.out 0).trans rfl
      have hfz5_0 := zL BK101.out 0
      go_wp2
      go_meet
      case rel => exact ⟨_, (true), (by first | rfl | (simp; done) | (simp [*]; done)), H', ⟨by first | omega | exact ypy _⟩, ⟨by (with_reducible repeat (first | refine zI ?_ _ | refine zK ?_ | refine zH ?_ _)); exact BK101.out⟩, ⟨by repeat (first | (with_reducible first | exact HB.out | apply zD | apply zB | apply zE | refine zG ?_ GE101.out) | exact HB.out)⟩⟩
    · rw [if_neg c4] at H
      have c4b0 : decide (8 < (l0_0.length : Int)) = false := yhy c4
      have c4b1 : decide (8 < l0_0.length) = false := yhy (by omega)
      clear c4
      (first | rw [c4b0] | (simp only [zT, zU]; rw [c4b0]) | skip)
      replace H := ydy.mp H
      obtain ⟨t102, A60, H⟩ := H
      replace H : (zW.j0 k t102 l0_0) = some r := H
      have A6 := zA.mk A60
      clear A60
      have H' := zA.mk H
      clear H
      have hcz7_0 : w3.cell? ⟨gb101, 0, none⟩ = some (.slice A0_0 l0_0.length c0_0) := (zJ BK101.out 0).trans rfl
      have hfz7_0 := zL BK101.out 0
      go_wp2_with (first | (go_at_call 115; (with_reducible refine (zl.calls _ _ l0_0 t102 _ ?side1 ?side2 A6.out).mono ?_); (case side1 => repeat (first | exact (Kd.qA HR0_0.out HB.out) | (with_reducible refine Kd.qB ?_ _) | (with_reducible refine Kd.qC ?_ _) | (with_reducible refine Kd.qW ?_))); (case side2 => exact HC0_0.out); rintro e w8 ⟨rfl, hb⟩; have n0_ := zA.mk (zN (g := gb101) (o := .cells #[.slice A0_0 l0_0.length c0_0] 28 (0, 0)) (by (with_reducible repeat (first | refine zI ?_ _ | refine zK ?_ | refine zH ?_ _)); exact BK101.out) hb); have n1_ := zA.mk (zO (by repeat (first | (with_reducible first | exact HB.out | apply zD | apply zB | apply zE | refine zG ?_ GE101.out) | exact HB.out)) hb); clear BK101; clear HB; have BK101 := n0_; have HB := n1_; clear n0_ n1_; (try clear hb); (try clear hb2); (try clear hk); (try clear hi)))
      go_meet
      case rel => exact ⟨_, (t102), (by first | rfl | (simp; done) | (simp [*]; done)), H', ⟨by first | omega | exact ypy _⟩, ⟨by (with_reducible repeat (first | refine zI ?_ _ | refine zK ?_ | refine zH ?_ _)); exact BK101.out⟩, ⟨by repeat (first | (with_reducible first | exact HB.out | apply zD | apply zB | apply zE | refine zG ?_ GE101.out) | exact HB.out)⟩⟩
  case rest =>
    clear HC2
    try clear p2
    try clear c4
    try clear c4b0
    try clear c4b1
    try clear c5
    try clear hcz5_0
    try clear hcz7_0
    try clear hfz5_0
    try clear hfz7_0
    obtain ⟨kq, x13_1, rfl, HA, HJ1, BK101, HB⟩ := hcut
    cases kq with
    | zero => exact absurd HA.out (by simp [zW.j0])
    | succ kj1 =>
      have H := HA.out
      clear HA
      simp only [zW.j0] at H
      by_cases c9 : x13_1 = true
      · subst c9
        have H1 : (some false) = some r := by rw [if_pos rfl] at H; exact H
        clear H
        have H := H1
        clear H1
        obtain rfl := yey H
        go_wp2
        go_ret
        exact ⟨by first | rfl | (simp [zX, zY] <;> rfl) | (simp [*, zX, zY] <;> rfl), by repeat (first | (with_reducible first | exact HB.out | apply zD | apply zB | apply zE | refine zG ?_ GE101.out) | exact HB.out)⟩
      · replace c9 := Bool.eq_false_iff.mpr c9
        subst c9
        have H1 : ((qN.f l0_0).bind fun t103 => (zW.l0 kj1 t103 0 l0_0)) = some r := by rw [if_neg (show ¬ (false = true) by decide)] at H; exact H
        clear H
        have H := H1
        clear H1
        replace H := ydy.mp H
        obtain ⟨t103, A100, H⟩ := H
        replace H : (zW.l0 kj1 t103 0 l0_0) = some r := H
        have A10 := zA.mk A100
        clear A100
        have H' := zA.mk H
        clear H
        have hcz11_0 : wc.cell? ⟨gb101, 0, none⟩ = some (.slice A0_0 l0_0.length c0_0) := (zJ BK101.out 0).trans rfl
        have hfz11_0 := zL BK101.out 0
        go_wp2_with (first | ((with_reducible refine ze (f := 79) rfl ?_); refine qP (some 16) rfl rfl Try.func79 (by kernel_rfl) rfl #[.slice A0_0 l0_0.length c0_0] rfl (by (try simp only [yiy, yjy, yky]); first | done | rfl | (simp only [yly, ymy]; rfl)) ?_; (with_reducible refine (qN.calls _ _ l0_0 t103 _ ?side1 ?side2 A10.out).mono ?_); (case side1 => repeat (first | exact (Kd.qA HR0_0.out HB.out) | (with_reducible refine Kd.qB ?_ _) | (with_reducible refine Kd.qC ?_ _) | (with_reducible refine Kd.qW ?_))); (case side2 => exact HC0_0.out); rintro e w' ⟨rfl, ⟨nd, rfl⟩⟩; refine ⟨_, rfl, ?_⟩))
        go_loopg [17] kj1 (fun kq v17 w' => ∃ (x17_2 : Int), v17 = .int .i64 x17_2 ∧ zA (zW.l0 kq t103 x17_2 l0_0 = some r) ∧ zA (kq ≤ kj1) ∧ zA (w'.heap[gb101]? = some (.cells #[(.slice A0_0 l0_0.length c0_0)] 28 (0, 0))) ∧ zA (Below w.heap.size w w'))
        case atStart => exact ⟨(0), (by first | rfl | (simp; done) | (simp [*]; done)), H', ⟨ypy _⟩, ⟨by (with_reducible repeat (first | refine zI ?_ _ | refine zK ?_ | refine zH ?_ _)); exact BK101.out⟩, ⟨by repeat (first | (with_reducible first | exact HB.out | apply zD | apply zB | apply zE | refine zG ?_ GE101.out) | exact HB.out)⟩⟩
        case round =>
          clear H'
          try clear p2
          try clear c4
          try clear c4b0
          try clear c4b1
          try clear c5
          try clear c7
          try clear c9
          try clear hcz11_0
          try clear hcz5_0
          try clear hcz7_0
          try clear hfz11_0
          try clear hfz5_0
          try clear hfz7_0
          try clear p2
          obtain ⟨x17_2, rfl, HA, HK2, BK101, HB⟩ := hrel
          cases gk with
          | zero => exact absurd HA.out (by simp [zW.l0])
          | succ k2 =>
            have H := HA.out
            clear HA
            simp only [zW.l0] at H
            by_cases c12 : x17_2 < t103
            · rw [if_pos c12] at H
              have c12b0 : decide (x17_2 < t103) = true := ygy c12
              clear c12
              have H' := zA.mk H
              clear H
              go_wp2
              go_loopg [20] k2 (fun kq v20 w' => ∃ (x20_3 : Int), v20 = .int .i64 x20_3 ∧ zA (zW.l1 kq x17_2 t103 x17_2 x20_3 l0_0 = some r) ∧ zA (kq ≤ k2) ∧ zA (w'.heap[gb101]? = some (.cells #[(.slice A0_0 l0_0.length c0_0)] 28 (0, 0))) ∧ zA (Below w.heap.size w w'))
              case atStart => exact ⟨(0), (by first | rfl | (simp; done) | (simp [*]; done)), H', ⟨ypy _⟩, ⟨by (with_reducible repeat (first | refine zI ?_ _ | refine zK ?_ | refine zH ?_ _)); exact BK101.out⟩, ⟨by repeat (first | (with_reducible first | exact HB.out | apply zD | apply zB | apply zE | refine zG ?_ GE101.out) | exact HB.out)⟩⟩
              case round =>
                clear H'
                try clear c1
                try clear p2
                try clear c4
                try clear c4b0
                try clear c4b1
                try clear c5
                try clear c7
                try clear c9
                try clear c12
                try clear c12b0
                try clear hcz11_0
                try clear hcz5_0
                try clear hcz7_0
                try clear hfz11_0
                try clear hfz5_0
                try clear hfz7_0
                try clear p2
                obtain ⟨x20_3, rfl, HA, HK3, BK101, HB⟩ := hrel
                cases gk with
                | zero => exact absurd HA.out (by simp [zW.l1])
                | succ k3 =>
                  have H := HA.out
                  clear HA
                  simp only [zW.l1] at H
                  by_cases c13 : x20_3 < 4
                  · rw [if_pos c13] at H
                    have c13b0 : decide (x20_3 < 4) = true := ygy c13
                    clear c13
                    replace H := ydy.mp H
                    obtain ⟨t104, A140, H⟩ := H
                    replace H : (if t104 = true then (zW.l1 k3 x17_2 t103 x17_2 (wrap64 (x20_3 + 1)) l0_0) else (some false)) = some r := H
                    have A14 := zA.mk A140
                    clear A140
                    by_cases c15 : t104 = true
                    · subst c15
                      have H1 : (zW.l1 k3 x17_2 t103 x17_2 (wrap64 (x20_3 + 1)) l0_0) = some r := by rw [if_pos rfl] at H; exact H
                      clear H
                      have H := H1
                      clear H1
                      have H' := zA.mk H
                      clear H
                      have hcz16_0 : wr.cell? ⟨gb101, 0, none⟩ = some (.slice A0_0 l0_0.length c0_0) := (zJ BK101.out 0).trans rfl
                      have hfz16_0 := zL BK101.out 0
                      go_wp2_with (first | ((with_reducible refine ze (f := 117) rfl ?_); refine qP (some 26) rfl rfl Try.func117 (by kernel_rfl) rfl #[.agg #[.slice A0_0 l0_0.length c0_0], .int .i64 x17_2, .int .i64 x20_3] rfl (by (try simp only [yiy, yjy, yky]); first | done | rfl | (simp only [yly, ymy]; rfl)) ?_; (with_reducible refine (zV.calls k3 _ _ l0_0 x17_2 x20_3 true _ ?side1 ?side2 A14.out).mono ?_); (case side1 => repeat (first | exact (Kd.qA HR0_0.out HB.out) | (with_reducible refine Kd.qB ?_ _) | (with_reducible refine Kd.qC ?_ _) | (with_reducible refine Kd.qW ?_))); (case side2 => exact HC0_0.out); rintro e w17 ⟨rfl, hb⟩; refine ⟨_, rfl, ?_⟩; have n0_ := zA.mk (zN (g := gb101) (o := .cells #[.slice A0_0 l0_0.length c0_0] 28 (0, 0)) (by (with_reducible repeat (first | refine zI ?_ _ | refine zK ?_ | refine zH ?_ _)); exact BK101.out) hb); have n1_ := zA.mk (zO (by repeat (first | (with_reducible first | exact HB.out | apply zD | apply zB | apply zE | refine zG ?_ GE101.out) | exact HB.out)) hb); clear BK101; clear HB; have BK101 := n0_; have HB := n1_; clear n0_ n1_; (try clear hb); (try clear hb2); (try clear hk); (try clear hi)))
                      go_roundg k3
                      case measure => have := HJ1.out; have := HK2.out; have := HK3.out; omega
                      case rel => exact ⟨(wrap64 (x20_3 + 1)), (by first | rfl | (simp; done) | (simp [*]; done)), H', ⟨by have := HJ1.out; have := HK2.out; have := HK3.out; omega⟩, ⟨by (with_reducible repeat (first | refine zI ?_ _ | refine zK ?_ | refine zH ?_ _)); exact BK101.out⟩, ⟨by repeat (first | (with_reducible first | exact HB.out | apply zD | apply zB | apply zE | refine zG ?_ GE101.out) | exact HB.out)⟩⟩
                    · replace c15 := Bool.eq_false_iff.mpr c15
                      subst c15
                      have H1 : (some false) = some r := by rw [if_neg (show ¬ (false = true) by decide)] at H; exact H
                      clear H
                      have H := H1
                      clear H1
                      obtain rfl := yey H
                      have hcz18_0 : wr.cell? ⟨gb101, 0, none⟩ = some (.slice A0_0 l0_0.length c0_0) := (zJ BK101.out 0).trans rfl
                      have hfz18_0 := zL BK101.out 0
                      go_wp2_with (first | ((with_reducible refine ze (f := 117) rfl ?_); refine qP (some 26) rfl rfl Try.func117 (by kernel_rfl) rfl #[.agg #[.slice A0_0 l0_0.length c0_0], .int .i64 x17_2, .int .i64 x20_3] rfl (by (try simp only [yiy, yjy, yky]); first | done | rfl | (simp only [yly, ymy]; rfl)) ?_; (with_reducible refine (zV.calls k3 _ _ l0_0 x17_2 x20_3 false _ ?side1 ?side2 A14.out).mono ?_); (case side1 => repeat (first | exact (Kd.qA HR0_0.out HB.out) | (with_reducible refine Kd.qB ?_ _) | (with_reducible refine Kd.qC ?_ _) | (with_reducible refine Kd.qW ?_))); (case side2 => exact HC0_0.out); rintro e w19 ⟨rfl, hb⟩; refine ⟨_, rfl, ?_⟩; have n0_ := zA.mk (zN (g := gb101) (o := .cells #[.slice A0_0 l0_0.length c0_0] 28 (0, 0)) (by (with_reducible repeat (first | refine zI ?_ _ | refine zK ?_ | refine zH ?_ _)); exact BK101.out) hb); have n1_ := zA.mk (zO (by repeat (first | (with_reducible first | exact HB.out | apply zD | apply zB | apply zE | refine zG ?_ GE101.out) | exact HB.out)) hb); clear BK101; clear HB; have BK101 := n0_; have HB := n1_; clear n0_ n1_; (try clear hb); (try clear hb2); (try clear hk); (try clear hi)))
                      go_ret
                      exact ⟨by first | rfl | (simp [zX, zY] <;> rfl) | (simp [*, zX, zY] <;> rfl), by repeat (first | (with_reducible first | exact HB.out | apply zD | apply zB | apply zE | refine zG ?_ GE101.out) | exact HB.out)⟩
                  · rw [if_neg c13] at H
                    have c13b0 : decide (x20_3 < 4) = false := yhy c13
                    clear c13
                    have H' := zA.mk H
                    clear H
                    go_wp2
                    go_roundg k3
                    case measure => have := HJ1.out; have := HK2.out; have := HK3.out; omega
                    case rel => exact ⟨(wrap64 (x17_2 + 1)), (by first | rfl | (simp; done) | (simp [*]; done)), H', ⟨by have := HJ1.out; have := HK2.out; have := HK3.out; omega⟩, ⟨by (with_reducible repeat (first | refine zI ?_ _ | refine zK ?_ | refine zH ?_ _)); exact BK101.out⟩, ⟨by repeat (first | (with_reducible first | exact HB.out | apply zD | apply zB | apply zE | refine zG ?_ GE101.out) | exact HB.out)⟩⟩
            · rw [if_neg c12] at H
              have c12b0 : decide (x17_2 < t103) = false := yhy c12
              clear c12
              obtain rfl := yey H
              go_wp2
              go_ret
              exact ⟨by first | rfl | (simp [zX, zY] <;> rfl) | (simp [*, zX, zY] <;> rfl), by repeat (first | (with_reducible first | exact HB.out | apply zD | apply zB | apply zE | refine zG ?_ GE101.out) | exact HB.out)⟩
def Zm.f (k : Nat) (l0_0 : List (List (zh))) : Option (List Int × Int) := (zW.f k l0_0).bind fun t102 => (if t102 = true then ((zx.f k l0_0).bind fun bt103 => (if bt103.2 = true then (some (bt103.1, 0)) else (some (([] : List Int), 5)))) else (some (([] : List Int), 1)))
set_option maxHeartbeats 8000000 in
set_option maxRecDepth 100000 in
theorem Zm.calls (k : Nat) (A0_0 : Option Addr) (c0_0 : Nat) (l0_0 : List (List (zh))) (r1 : List Int) (r2 : Int) (w : World) (hr0_0 : Kd.C (Kd.slice 74 qJ) w A0_0 l0_0.length l0_0) (hc0_0 : l0_0.length ≤ c0_0) (h : Zm.f k l0_0 = some (r1, r2)) :
    Calls Try.prog 92 #[.agg #[.slice A0_0 l0_0.length c0_0]] w fun e w' => ∃ v0_ : Value, e = .returned (.tuple #[v0_, .int .i64 r2]) ∧ Kd.R (Kd.int .i64) 2 w' w.heap.size (fun _ => True) v0_ r1 ∧ Below w.heap.size w w' := by
  have hu28 := Try.underlying28
  have HR0_0 := zA.mk hr0_0
  have HC0_0 := zA.mk hc0_0
  clear hr0_0 hc0_0
  have HB := zA.mk (yqy w.heap.size w)
  have H : ((zW.f k l0_0).bind fun t102 => (if t102 = true then ((zx.f k l0_0).bind fun bt103 => (if bt103.2 = true then (some (bt103.1, 0)) else (some (([] : List Int), 5)))) else (some (([] : List Int), 1)))) = some (r1, r2) := h
  clear h
  replace H := ydy.mp H
  obtain ⟨t102, A20, H⟩ := H
  replace H : (if t102 = true then ((zx.f k l0_0).bind fun bt103 => (if bt103.2 = true then (some (bt103.1, 0)) else (some (([] : List Int), 5)))) else (some (([] : List Int), 1))) = some (r1, r2) := H
  have A2 := zA.mk A20
  clear A20
  by_cases c3 : t102 = true
  · subst c3
    have H1 : ((zx.f k l0_0).bind fun bt103 => (if bt103.2 = true then (some (bt103.1, 0)) else (some (([] : List Int), 5)))) = some (r1, r2) := by rw [if_pos rfl] at H; exact H
    clear H
    have H := H1
    clear H1
    replace H := ydy.mp H
    obtain ⟨⟨t103, t106⟩, A40, H⟩ := H
    replace H : (if t106 = true then (some (t103, 0)) else (some (([] : List Int), 5))) = some (r1, r2) := H
    have A4 := zA.mk A40
    clear A40
    by_cases c5 : t106 = true
    · subst c5
      have H1 : (some (t103, 0)) = some (r1, r2) := by rw [if_pos rfl] at H; exact H
      clear H
      have H := H1
      clear H1
      simp only [Option.some.injEq, Prod.mk.injEq] at H
      obtain ⟨rfl, rfl⟩ := H
      go_enter Try.func92, Try.ntmps92
      go_wp2_with (first | ((with_reducible refine zm (N := 1) rfl ?_); refine zp ?hg (N := 1) ?hd (cs := #[.slice A0_0 l0_0.length c0_0]) (t := 28) ?hr ?_; (case hd => rfl); (case hg => rfl); (case hr => first | (go_simp; done) | (go_simp; rfl)); intro gb101 hg w6 hbox hb; have n0_ := zA.mk (zO (by repeat (first | (with_reducible first | exact HB.out | apply zD | apply zB | apply zE) | exact HB.out)) hb); have n1_ := zA.mk (hbox); have n2_ := zA.mk ((by rw [hg]; exact (zP (by repeat (first | (with_reducible first | exact HB.out | apply zD | apply zB | apply zE) | exact HB.out))) : w.heap.size ≤ gb101)); have n3_ := zA.mk ((by rw [hg]; exact (zP (by repeat (first | (with_reducible first | exact HB.out | apply zD | apply zB | apply zE) | exact HB.out))) : w.heap.size ≤ gb101)); clear HB; have HB := n0_; have BK101 := n1_; have GW101 := n2_; have GE101 := n3_; clear n0_ n1_ n2_ n3_; clear hb hbox hg; have hcz7_0 : w6.cell? ⟨gb101, 0, none⟩ = some (.slice A0_0 l0_0.length c0_0) := (zJ BK101.out 0).trans rfl; have hfz7_0 := zL BK101.out 0) | ((with_reducible refine ze (f := 57) rfl ?_); refine qP (some 7) rfl rfl Try.func57 (by kernel_rfl) rfl #[.agg #[.slice A0_0 l0_0.length c0_0]] rfl (by (try simp only [yiy, yjy, yky]); first | done | rfl | (simp only [yly, ymy]; rfl)) ?_; (with_reducible refine (zW.calls k _ _ l0_0 true _ ?side1 ?side2 A2.out).mono ?_); (case side1 => repeat (first | exact (Kd.qA HR0_0.out HB.out) | (with_reducible refine Kd.qB ?_ _) | (with_reducible refine Kd.qC ?_ _) | (with_reducible refine Kd.qW ?_))); (case side2 => exact HC0_0.out); rintro e w8 ⟨rfl, hb⟩; refine ⟨_, rfl, ?_⟩; have n0_ := zA.mk (zN (g := gb101) (o := .cells #[.slice A0_0 l0_0.length c0_0] 28 (0, 0)) (by (with_reducible repeat (first | refine zI ?_ _ | refine zK ?_ | refine zH ?_ _)); exact BK101.out) hb); have n1_ := zA.mk (zO (by repeat (first | (with_reducible first | exact HB.out | apply zD | apply zB | apply zE | refine zG ?_ GE101.out) | exact HB.out)) hb); clear BK101; clear HB; have BK101 := n0_; have HB := n1_; clear n0_ n1_; (try clear hb); (try clear hb2); (try clear hk); (try clear hi); have hcz9_0 : w8.cell? ⟨gb101, 0, none⟩ = some (.slice A0_0 l0_0.length c0_0) := (zJ BK101.out 0).trans rfl; have hfz9_0 := zL BK101.out 0) | ((with_reducible refine ze (f := 139) rfl ?_); refine qP (some 11) rfl rfl Try.func139 (by kernel_rfl) rfl #[.agg #[.slice A0_0 l0_0.length c0_0]] rfl (by (try simp only [yiy, yjy, yky]); first | done | rfl | (simp only [yly, ymy]; rfl)) ?_; (with_reducible refine (zx.calls k _ _ l0_0 t103 true _ ?side1 ?side2 A4.out).mono ?_); (case side1 => repeat (first | exact (Kd.qA HR0_0.out HB.out) | (with_reducible refine Kd.qB ?_ _) | (with_reducible refine Kd.qC ?_ _) | (with_reducible refine Kd.qW ?_))); (case side2 => exact HC0_0.out); rintro e w10 ⟨v104, rfl, ho0, hb⟩; refine ⟨_, rfl, ?_⟩; have n0_ := zA.mk (Kd.qy ho0 (zP (by repeat (first | (with_reducible first | exact HB.out | apply zD | apply zB | apply zE | refine zG ?_ GE101.out) | exact HB.out)))); have n1_ := zA.mk (zN (g := gb101) (o := .cells #[.slice A0_0 l0_0.length c0_0] 28 (0, 0)) (by (with_reducible repeat (first | refine zI ?_ _ | refine zK ?_ | refine zH ?_ _)); exact BK101.out) hb); have n2_ := zA.mk (zO (by repeat (first | (with_reducible first | exact HB.out | apply zD | apply zB | apply zE | refine zG ?_ GE101.out) | exact HB.out)) hb); clear BK101; clear HB; have HO105 := n0_; have BK101 := n1_; have HB := n2_; clear n0_ n1_ n2_; (try clear hb); (try clear hb2); (try clear hk); (try clear hi); (try clear ho0)))
      go_ret2
      exact ⟨_, by first | rfl | (simp [zX, zY] <;> rfl) | (simp [*, zX, zY] <;> rfl), by (with_reducible repeat (first | apply Kd.zZ | apply Kd.za | apply Kd.zf)); exact HO105.out, by repeat (first | (with_reducible first | exact HB.out | apply zD | apply zB | apply zE | refine zG ?_ GE101.out) | exact HB.out)⟩
    · replace c5 := Bool.eq_false_iff.mpr c5
      subst c5
      have H1 : (some (([] : List Int), 5)) = some (r1, r2) := by rw [if_neg (show ¬ (false = true) by decide)] at H; exact H
      clear H
      have H := H1
      clear H1
      simp only [Option.some.injEq, Prod.mk.injEq] at H
      obtain ⟨rfl, rfl⟩ := H
      go_enter Try.func92, Try.ntmps92
      go_wp2_with (first | ((with_reducible refine zm (N := 1) rfl ?_); refine zp ?hg (N := 1) ?hd (cs := #[.slice A0_0 l0_0.length c0_0]) (t := 28) ?hr ?_; (case hd => rfl); (case hg => rfl); (case hr => first | (go_simp; done) | (go_simp; rfl)); intro gb101 hg w11 hbox hb; have n0_ := zA.mk (zO (by repeat (first | (with_reducible first | exact HB.out | apply zD | apply zB | apply zE) | exact HB.out)) hb); have n1_ := zA.mk (hbox); have n2_ := zA.mk ((by rw [hg]; exact (zP (by repeat (first | (with_reducible first | exact HB.out | apply zD | apply zB | apply zE) | exact HB.out))) : w.heap.size ≤ gb101)); have n3_ := zA.mk ((by rw [hg]; exact (zP (by repeat (first | (with_reducible first | exact HB.out | apply zD | apply zB | apply zE) | exact HB.out))) : w.heap.size ≤ gb101)); clear HB; have HB := n0_; have BK101 := n1_; have GW101 := n2_; have GE101 := n3_; clear n0_ n1_ n2_ n3_; clear hb hbox hg; have hcz12_0 : w11.cell? ⟨gb101, 0, none⟩ = some (.slice A0_0 l0_0.length c0_0) := (zJ BK101.out 0).trans rfl; have hfz12_0 := zL BK101.out 0) | ((with_reducible refine ze (f := 57) rfl ?_); refine qP (some 7) rfl rfl Try.func57 (by kernel_rfl) rfl #[.agg #[.slice A0_0 l0_0.length c0_0]] rfl (by (try simp only [yiy, yjy, yky]); first | done | rfl | (simp only [yly, ymy]; rfl)) ?_; (with_reducible refine (zW.calls k _ _ l0_0 true _ ?side1 ?side2 A2.out).mono ?_); (case side1 => repeat (first | exact (Kd.qA HR0_0.out HB.out) | (with_reducible refine Kd.qB ?_ _) | (with_reducible refine Kd.qC ?_ _) | (with_reducible refine Kd.qW ?_))); (case side2 => exact HC0_0.out); rintro e w13 ⟨rfl, hb⟩; refine ⟨_, rfl, ?_⟩; have n0_ := zA.mk (zN (g := gb101) (o := .cells #[.slice A0_0 l0_0.length c0_0] 28 (0, 0)) (by (with_reducible repeat (first | refine zI ?_ _ | refine zK ?_ | refine zH ?_ _)); exact BK101.out) hb); have n1_ := zA.mk (zO (by repeat (first | (with_reducible first | exact HB.out | apply zD | apply zB | apply zE | refine zG ?_ GE101.out) | exact HB.out)) hb); clear BK101; clear HB; have BK101 := n0_; have HB := n1_; clear n0_ n1_; (try clear hb); (try clear hb2); (try clear hk); (try clear hi); have hcz14_0 : w13.cell? ⟨gb101, 0, none⟩ = some (.slice A0_0 l0_0.length c0_0) := (zJ BK101.out 0).trans rfl; have hfz14_0 := zL BK101.out 0) | ((with_reducible refine ze (f := 139) rfl ?_); refine qP (some 11) rfl rfl Try.func139 (by kernel_rfl) rfl #[.agg #[.slice A0_0 l0_0.length c0_0]] rfl (by (try simp only [yiy, yjy, yky]); first | done | rfl | (simp only [yly, ymy]; rfl)) ?_; (with_reducible refine (zx.calls k _ _ l0_0 t103 false _ ?side1 ?side2 A4.out).mono ?_); (case side1 => repeat (first | exact (Kd.qA HR0_0.out HB.out) | (with_reducible refine Kd.qB ?_ _) | (with_reducible refine Kd.qC ?_ _) | (with_reducible refine Kd.qW ?_))); (case side2 => exact HC0_0.out); rintro e w15 ⟨v104, rfl, ho0, hb⟩; refine ⟨_, rfl, ?_⟩; have n0_ := zA.mk (Kd.qy ho0 (zP (by repeat (first | (with_reducible first | exact HB.out | apply zD | apply zB | apply zE | refine zG ?_ GE101.out) | exact HB.out)))); have n1_ := zA.mk (zN (g := gb101) (o := .cells #[.slice A0_0 l0_0.length c0_0] 28 (0, 0)) (by (with_reducible repeat (first | refine zI ?_ _ | refine zK ?_ | refine zH ?_ _)); exact BK101.out) hb); have n2_ := zA.mk (zO (by repeat (first | (with_reducible first | exact HB.out | apply zD | apply zB | apply zE | refine zG ?_ GE101.out) | exact HB.out)) hb); clear BK101; clear HB; have HO105 := n0_; have BK101 := n1_; have HB := n2_; clear n0_ n1_ n2_; (try clear hb); (try clear hb2); (try clear hk); (try clear hi); (try clear ho0)))
      go_ret2
      exact ⟨_, by first | rfl | (simp [zX, zY] <;> rfl) | (simp [*, zX, zY] <;> rfl), by first | exact Kd.Jl _ _ _ _ _ | exact Kd.zBP _ _ _ _ _ | exact Kd.zBQ _ _ _ _ _ | exact Kd.zBJ _ _ _ _ _ | exact Kd.zAq _ _ _ _ _, by repeat (first | (with_reducible first | exact HB.out | apply zD | apply zB | apply zE | refine zG ?_ GE101.out) | exact HB.out)⟩
  · replace c3 := Bool.eq_false_iff.mpr c3
    subst c3
    have H1 : (some (([] : List Int), 1)) = some (r1, r2) := by rw [if_neg (show ¬ (false = true) by decide)] at H; exact H
    clear H
    have H := H1
    clear H1
    simp only [Option.some.injEq, Prod.mk.injEq] at H
    obtain ⟨rfl, rfl⟩ := H
    go_enter Try.func92, Try.ntmps92
    go_wp2_with (first | ((with_reducible refine zm (N := 1) rfl ?_); refine zp ?hg (N := 1) ?hd (cs := #[.slice A0_0 l0_0.length c0_0]) (t := 28) ?hr ?_; (case hd => rfl); (case hg => rfl); (case hr => first | (go_simp; done) | (go_simp; rfl)); intro gb101 hg w16 hbox hb; have n0_ := zA.mk (zO (by repeat (first | (with_reducible first | exact HB.out | apply zD | apply zB | apply zE) | exact HB.out)) hb); have n1_ := zA.mk (hbox); have n2_ := zA.mk ((by rw [hg]; exact (zP (by repeat (first | (with_reducible first | exact HB.out | apply zD | apply zB | apply zE) | exact HB.out))) : w.heap.size ≤ gb101)); have n3_ := zA.mk ((by rw [hg]; exact (zP (by repeat (first | (with_reducible first | exact HB.out | apply zD | apply zB | apply zE) | exact HB.out))) : w.heap.size ≤ gb101)); clear HB; have HB := n0_; have BK101 := n1_; have GW101 := n2_; have GE101 := n3_; clear n0_ n1_ n2_ n3_; clear hb hbox hg; have hcz17_0 : w16.cell? ⟨gb101, 0, none⟩ = some (.slice A0_0 l0_0.length c0_0) := (zJ BK101.out 0).trans rfl; have hfz17_0 := zL BK101.out 0) | ((with_reducible refine ze (f := 57) rfl ?_); refine qP (some 7) rfl rfl Try.func57 (by kernel_rfl) rfl #[.agg #[.slice A0_0 l0_0.length c0_0]] rfl (by (try simp only [yiy, yjy, yky]); first | done | rfl | (simp only [yly, ymy]; rfl)) ?_; (with_reducible refine (zW.calls k _ _ l0_0 false _ ?side1 ?side2 A2.out).mono ?_); (case side1 => repeat (first | exact (Kd.qA HR0_0.out HB.out) | (with_reducible refine Kd.qB ?_ _) | (with_reducible refine Kd.qC ?_ _) | (with_reducible refine Kd.qW ?_))); (case side2 => exact HC0_0.out); rintro e w18 ⟨rfl, hb⟩; refine ⟨_, rfl, ?_⟩; have n0_ := zA.mk (zN (g := gb101) (o := .cells #[.slice A0_0 l0_0.length c0_0] 28 (0, 0)) (by (with_reducible repeat (first | refine zI ?_ _ | refine zK ?_ | refine zH ?_ _)); exact BK101.out) hb); have n1_ := zA.mk (zO (by repeat (first | (with_reducible first | exact HB.out | apply zD | apply zB | apply zE | refine zG ?_ GE101.out) | exact HB.out)) hb); clear BK101; clear HB; have BK101 := n0_; have HB := n1_; clear n0_ n1_; (try clear hb); (try clear hb2); (try clear hk); (try clear hi)))
    go_ret2
    exact ⟨_, by first | rfl | (simp [zX, zY] <;> rfl) | (simp [*, zX, zY] <;> rfl), by first | exact Kd.Jl _ _ _ _ _ | exact Kd.zBP _ _ _ _ _ | exact Kd.zBQ _ _ _ _ _ | exact Kd.zBJ _ _ _ _ _ | exact Kd.zAq _ _ _ _ _, by repeat (first | (with_reducible first | exact HB.out | apply zD | apply zB | apply zE | refine zG ?_ GE101.out) | exact HB.out)⟩
end Go.Proofs.Ytdgdnnjigigkcaa.P
