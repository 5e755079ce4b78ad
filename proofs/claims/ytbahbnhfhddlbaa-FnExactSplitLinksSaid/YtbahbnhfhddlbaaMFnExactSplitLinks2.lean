/- The statement FnExactSplitLinksSaid, proved: part 2 of 10 (texts of this session and of the kit's print, put together and cut to what is used by a program of it). -/
import Derived.Test.YtbahbnhfhddlbaaMFnExactSplitLinks1
import Derived.Test.YtbahbnhfhddlbaaProg
import Derived.Below
import Derived.Deep.Draws
import Derived.Deep.AppendLies
import Derived.Maps.AppendAt
import Derived.OwnWalk
import Derived.Laws.BytesArg
import Derived.Laws.MakeOwn
import Derived.Laws.OwnMore
import Derived.Deep.OwnRows
import Derived.Tactics
import Derived.Lib.ConvBytes
import Derived.Laws.Slices
import Derived.WalkKit
import Derived.KernelRfl
import Derived.RowKit3
import Derived.Deep.LoopGhost
import Derived.Deep.QuietTactic
import Derived.BigQuiet
import Derived.WideLaws
import Derived.Deep.DeepCutAuto
import Derived.Deep.CutBlock
import Derived.Deep.RegionHeld3
import Derived.Laws.Rows
import Derived.Lib.AppendStr
import Derived.ArgAppend
import Derived.Laws.IdiomCopy
import Derived.OrdersHeld
import Derived.Laws.BitsLemmas
import Derived.RowKit
import Derived.Lib.SliceRun
import Derived.Shelf.SlicesG.Delete
import Derived.Ground.SlgnProg
import Derived.Sort.Row
import Derived.Maps.OwnSet
set_option maxHeartbeats 8000000
set_option maxRecDepth 100000
namespace Go.Proofs.Ytbahbnhfhddlbaa
abbrev yay := @List.setIfInBounds_toArray
abbrev yby := @List.set_cons_zero
abbrev ycy := @List.set_cons_succ
abbrev ydy := @Option.bind_eq_some_iff
abbrev yey := @Option.some.inj
abbrev yfy := @Option.bind_some
abbrev ygy := @decide_eq_true
abbrev yhy := @decide_eq_false
abbrev yiy := @List.map_toArray
abbrev yjy := @List.map_cons
abbrev yky := @List.map_nil
abbrev yly := @List.length_drop
abbrev ymy := @List.length_take
abbrev yny := @Int.toNat_natCast
abbrev yoy := @List.getElem_mem
abbrev ypy := @List.drop_eq_getElem_cons
abbrev yqy := @Go.World.block_lt_of_cell?
abbrev yry := @Nat.le_refl
abbrev ysy := @Go.RowKit.Below.refl
end Go.Proofs.Ytbahbnhfhddlbaa
namespace Go.Proofs.Ytbahbnhfhddlbaa.P
open Go.RowKit Go.Proofs.YtbahbnhfhddlbaaW.PrintWords Go.Proofs.YtbahbnhfhddlbaaW.PrintLast Go.Proofs.YtbahbnhfhddlbaaW.PrintMore
attribute [local go_sem] Qj Qk JJ JK QO QP Ql Qm
set_option linter.unusedVariables false
set_option linter.unusedSimpArgs false
def errW:Option Int→Value
  | none => .nilIface
  | some c => .iface 0 (.int .i64 c)
theorem zV:errW none = .nilIface:=rfl
theorem zW (c:Int):errW (some c) = .iface 0 (.int .i64 c):=rfl
theorem JL:(Try.prog.info? 2).map (fun i=>(i.zero,i.size,i.bytes))=some (some (.int .i64 0),1,8):=by kernel_rfl
theorem zFC:(Try.prog.info? 25).map (fun i=>(i.zero,i.size,i.bytes))=some (some (.slice none 0 0),1,24):=by kernel_rfl
theorem info64:(Try.prog.info? 64).map (fun i=>(i.zero,i.size,i.bytes))=some (some (.agg #[(.int .i64 0),(.int .i64 0)]),2,16):=by kernel_rfl
theorem info65:(Try.prog.info? 65).map (fun i=>(i.zero,i.size,i.bytes))=some (some (.slice none 0 0),1,24):=by kernel_rfl
structure qk where
  f0:Int
  f1:Int
def zFD:qk:=⟨(0:Int),(0:Int)⟩
def Qn:Kd qk:=Kd.iso (Kd.pair (Kd.int .i64) (Kd.int .i64)) (fun x:qk=>(x.f0,x.f1))
theorem zDN {w:World} {x:qk} {cs:List Value} (h:Qn.K w x cs):cs = [.int .i64 x.f0,.int .i64 x.f1]:=by
  obtain⟨_,_,rfl,rfl,rfl⟩:=h;exact rfl
theorem zEg (w:World) (x:qk)  : Qn.K w x [.int .i64 x.f0,.int .i64 x.f1]:=⟨[.int .i64 x.f0],[.int .i64 x.f1],rfl,rfl,rfl⟩
def QU (xs:List qk) (i:Int):qk:=xs.getD i.toNat zFD
theorem zFd {w:World} {A:Option Addr} {n:Nat} {xs:List qk} (h:Kd.C Qn w A n xs) (i:Int) (h0:0≤i) (h1:i<n) : ∃ ad ,A=some ad∧w.cell? (ad.add (i.toNat*2))=some (.int .i64 (QU xs i).f0)∧w.cell? ⟨(ad.add (i.toNat*2)).block,(ad.add (i.toNat*2)).off+1,none⟩=some (.int .i64 (QU xs i).f1):=by
  obtain⟨ad,c,e,_,hK,aa⟩:=Kd.zGB h zFD i h0 h1;have hc : ∀ j u,c[j]?=some u→w.cell? (ad.add (i.toNat*2+j))=some u:=aa
  obtain rfl:=zDN hK;exact⟨ad,e,hc 0 _ rfl,by rw[← zDu _ _ 1 (by omega)];exact hc 1 _ rfl⟩
def Zk (xs:List (List qk)) (i:Int):(List qk):=xs.getD i.toNat ([]:List qk)
theorem zAm {w:World} {A:Option Addr} {n:Nat} {xs:List (List qk)} (h:Kd.C (Kd.slice 93 Qn) w A n xs) (i:Int) (h0:0≤i) (h1:i<n) : ∃ ad A0 c0,A=some ad∧w.cell? (ad.add i.toNat)=some (.slice A0 (Zk xs i).length c0)∧(Zk xs i).length≤c0∧Qn.C w A0 (Zk xs i).length (Zk xs i):=by
  obtain⟨ad,c,e,_,hK,aa⟩:=Kd.zGB h ([]:List qk) i h0 h1;have hc : ∀ j u,c[j]?=some u→w.cell? (ad.add (i.toNat*1+j))=some u:=aa
  obtain⟨A0,c0,rfl,l0,g0⟩:=hK;exact⟨ad,A0,c0,e,by have hq:=hc 0 _ rfl;rwa [Nat.mul_one,Nat.add_zero]at hq,l0,g0⟩
structure zz where
  f0:Int
  f1:Int
def zAF:zz:=⟨(0:Int),(0:Int)⟩
def ZW:Kd zz:=Kd.iso (Kd.pair (Kd.int .i64) (Kd.int .i64)) (fun x:zz=>(x.f0,x.f1))
theorem zFe {w:World} {x:zz} {cs:List Value} (h:ZW.K w x cs):cs = [.int .i64 x.f0,.int .i64 x.f1]:=by
  obtain⟨_,_,rfl,rfl,rfl⟩:=h;exact rfl
theorem JM {w:World} {base:Nat} {ok:Nat→Prop} {x:zz} {cs:List Value} (h:ZW.M w base ok x cs):cs = [.int .i64 x.f0,.int .i64 x.f1]:=by
  obtain⟨_,_,rfl,rfl,rfl⟩:=h;exact rfl
theorem zB4 (w:World) (base:Nat) (ok:Nat→Prop) (x:zz)  : ZW.M w base ok x [.int .i64 x.f0,.int .i64 x.f1]:=⟨[.int .i64 x.f0],[.int .i64 x.f1],rfl,rfl,rfl⟩
def zJ (xs:List zz) (i:Int):zz:=xs.getD i.toNat zAF
theorem QI {w:World} {A:Option Addr} {n:Nat} {xs:List zz} (h:Kd.C ZW w A n xs) (i:Int) (h0:0≤i) (h1:i<n) : ∃ ad ,A=some ad∧w.cell? (ad.add (i.toNat*2))=some (.int .i64 (zJ xs i).f0)∧w.cell? ⟨(ad.add (i.toNat*2)).block,(ad.add (i.toNat*2)).off+1,none⟩=some (.int .i64 (zJ xs i).f1):=by
  obtain⟨ad,c,e,_,hK,aa⟩:=Kd.zGB h zAF i h0 h1;have hc : ∀ j u,c[j]?=some u→w.cell? (ad.add (i.toNat*2+j))=some u:=aa
  obtain rfl:=zFe hK;exact⟨ad,e,hc 0 _ rfl,by rw[← zDu _ _ 1 (by omega)];exact hc 1 _ rfl⟩
def zF (xs:List (List zz)) (i:Int):(List zz):=xs.getD i.toNat ([]:List zz)
theorem Zd {w:World} {A:Option Addr} {n:Nat} {xs:List (List zz)} (h:Kd.C (Kd.slice 64 ZW) w A n xs) (i:Int) (h0:0≤i) (h1:i<n) : ∃ ad A0 c0,A=some ad∧w.cell? (ad.add i.toNat)=some (.slice A0 (zF xs i).length c0)∧(zF xs i).length≤c0∧ZW.C w A0 (zF xs i).length (zF xs i):=by
  obtain⟨ad,c,e,_,hK,aa⟩:=Kd.zGB h ([]:List zz) i h0 h1;have hc : ∀ j u,c[j]?=some u→w.cell? (ad.add (i.toNat*1+j))=some u:=aa
  obtain⟨A0,c0,rfl,l0,g0⟩:=hK;exact⟨ad,A0,c0,e,by have hq:=hc 0 _ rfl;rwa [Nat.mul_one,Nat.add_zero]at hq,l0,g0⟩
def zd (xs:List (List Int)) (i:Int):(List Int):=xs.getD i.toNat ([]:List Int)
theorem zBR {w:World} {A:Option Addr} {n:Nat} {xs:List (List Int)} (h:Kd.C (Kd.slice 2 (Kd.int .i64)) w A n xs) (i:Int) (h0:0≤i) (h1:i<n) : ∃ ad A0 c0,A=some ad∧w.cell? (ad.add i.toNat)=some (.slice A0 (zd xs i).length c0)∧(zd xs i).length≤c0∧(Kd.int .i64).C w A0 (zd xs i).length (zd xs i):=by
  obtain⟨ad,c,e,_,hK,aa⟩:=Kd.zGB h ([]:List Int) i h0 h1;have hc : ∀ j u,c[j]?=some u→w.cell? (ad.add (i.toNat*1+j))=some u:=aa
  obtain⟨A0,c0,rfl,l0,g0⟩:=hK;exact⟨ad,A0,c0,e,by have hq:=hc 0 _ rfl;rwa [Nat.mul_one,Nat.add_zero]at hq,l0,g0⟩
def ZC.l0:Nat→List Int→Int→Int→Option (List Int)
  | 0,_,_,_=>none
  | k+1,x3,x5,x6=>if x6<x5 then(if x3.length<17592186044416 then(ZC.l0 k (x3 ++ [x6]) x5 (wrap64 (x6+1)))else(none))else(some x3)
def ZC.f (k:Nat) (a0:Int):Option (List Int):=ZC.l0 k ([]:List Int) a0 0
theorem ZC.calls (k:Nat) (a0:Int) (r:List Int) (w:World) (h:ZC.f k a0=some r) :
    Calls Try.prog 49 #[.int .i64 a0] w fun e w' => ∃ al:Value,e = .returned (al)∧Kd.R (Kd.int .i64) 2 w' w.heap.size (fun _=>True) al r∧Below w.heap.size w w':=by
  have HB:=zA.mk (ysy w.heap.size w);have H:(ZC.l0 k ([]:List Int) a0 0)=some r:=h;clear h;have H':=zA.mk H;clear H;go_enter Try.func49,Try.ntmps49
  go_wp2;go_loopg [3,6] k (fun kq v3 v6 w' => ∃ (ad:List Int) (aa:Int),v6 = .int .i64 aa∧zA (ZC.l0 kq ad a0 aa=some r)∧zA (kq≤k)∧zA (Kd.R (Kd.int .i64) 2 w' w.heap.size (fun _=>True) v3 ad)∧zA (Below w.heap.size w w'))
  case atStart=>exact⟨(([]:List Int)),(0),(by first|rfl|(simp;done)|(simp [*];done)),H',⟨yry _⟩,⟨by first|exact Kd.zAZ _ _ _ _ _|exact Kd.zDJ _ _ _ _ _|exact Kd.zDM _ _ _ _ _|exact Kd.zDC _ _ _ _ _|exact Kd.zDH _ _ _ _ _⟩,⟨by repeat(first|(with_reducible first|exact HB.out|apply zC|apply zB|apply zD)|exact HB.out)⟩⟩
  case round=>
    clear H';obtain⟨ad,aa,rfl,HA,an,ae,HB⟩:=hrel
    cases gk with
    | zero=>exact absurd HA.out (by simp [ZC.l0])
    | succ k1=>
      have H:=HA.out;clear HA;simp only [ZC.l0]at H;by_cases c2:aa<a0
      · rw[if_pos c2]at H
        have ai:decide (aa<a0)=true:=ygy c2;clear c2;by_cases c3:ad.length<17592186044416
        · rw[if_pos c3]at H
          have aj:=zA.mk c3;clear c3;obtain⟨af,ab⟩ : ∃ y_:List Int,y_=(ad ++ [aa]):=⟨_,rfl⟩
          replace H:(ZC.l0 k1 af a0 (wrap64 (aa+1)))=some r:=by first|(rw[ab];with_reducible exact H)|(have ak:=(yfy _ _).symm.trans H;rw[ab];with_reducible exact ak)|(have ak:=(yfy _ _).symm.trans H;with_reducible exact ak)|with_reducible exact H|(rw[ab];exact H)|exact H
          have ag:=zA.mk ab;clear ab;have H':=zA.mk H;clear H;go_wp2_with (first|((with_reducible refine ZX (b := .append) (xs:=#[.tmp 9,.tmp 11]) rfl ?_);at_builtin;refine Kd.Je (Kd.int .i64) (w0:=w) w.heap.size rfl (.tmp 9) (.tmp 11) 25 2 (.int .i64 0) 8 rfl Try.underlying25 JL rfl (by decide) (by omega) u3 ad aa [.int .i64 aa] (fun _=>True) (fun _=>False) rfl rfl ?aP (fun _ hk=>hk.elim) ?aF ?aO ?aB ?aS ?aL ?_;(case aP=>exact rfl);(case aB=>exact(by repeat(first|(with_reducible first|exact HB.out|apply zC|apply zB|apply zD)|exact HB.out)));(case aF=>exact(fun _ _=>trivial));(case aO=>exact(by(with_reducible repeat(first|apply Kd.zR|apply Kd.zQ|apply Kd.zT));exact ae.out));(case aS=>exact(zP (by repeat(first|(with_reducible first|exact HB.out|apply zC|apply zB|apply zD)|exact HB.out))));(case aL=>have:=aj.out;omega);intro ar w4 ho hb hg au;rw[← ag.out]at ho;have ao:=zA.mk (hb);have aq:=zA.mk (ho);clear HB;clear ae;have HB:=ao;have ah:=aq;clear ao aq;clear ho hb hg au))
          go_roundg k1
          case measure=>have:=an.out;omega
          case rel=>exact⟨(af),(wrap64 (aa+1)),(by first|rfl|(simp;done)|(simp [*];done)),H',⟨by have:=an.out;omega⟩,⟨by(with_reducible repeat(first|apply Kd.zR|apply Kd.zQ|apply Kd.zT));exact ah.out⟩,⟨by repeat(first|(with_reducible first|exact HB.out|apply zC|apply zB|apply zD)|exact HB.out)⟩⟩
        (rw[if_neg c3]at H;exact absurd H (by simp))
      (focus rw[if_neg c2]at H;have ai:decide (aa<a0)=false:=yhy c2;clear c2;obtain rfl:=yey H;go_wp2;go_ret;exact⟨_,by first|rfl|(simp [zV,zW] <;> rfl)|(simp [*,zV,zW] <;> rfl),by(with_reducible repeat(first|apply Kd.zR|apply Kd.zQ|apply Kd.zT));exact ae.out,by repeat(first|(with_reducible first|exact HB.out|apply zC|apply zB|apply zD)|exact HB.out)⟩)
theorem zAK (a b c d:Int) (f:Int) (h0:0≤f) (h1:f≤3) : ∀ w:World,(Instr.index 81 (.agg #[.int .i64 a,.int .i64 b,.int .i64 c,.int .i64 d]) (.int .i64 f)).run Try.prog w = .ok (.int .i64 (rd [a,b,c,d] f)) w:=by
  intro w;rcases(show f=0∨f=1∨f=2∨f=3 by omega)with rfl|rfl|rfl|rfl
  · kernel_rfl
  · kernel_rfl
  · kernel_rfl
  · kernel_rfl
theorem JU {w:World} {g:Nat} {T:TypeId} {a b c d:Int} (h:w.heap[g]?=some (.cells #[.int .i64 a,.int .i64 b,.int .i64 c,.int .i64 d] T (0,0))) (f:Int) (h0:0≤f) (h1:f≤3):w.cell? ⟨g,f.toNat,none⟩=some (.int .i64 (rd [a,b,c,d] f)):=by
  rw[zK h];rcases(show f=0∨f=1∨f=2∨f=3 by omega)with rfl|rfl|rfl|rfl <;> rfl
theorem zDO {w:World} {g:Nat} {T:TypeId} {a b c d:Int} (h:w.heap[g]?=some (.cells #[.int .i64 a,.int .i64 b,.int .i64 c,.int .i64 d] T (0,0))) (f v:Int) (h0:0≤f) (h1:f≤3) :
    (w.setCell ⟨g,f.toNat,none⟩ (.int .i64 v)).heap[g]?=some (.cells #[.int .i64 (rd ([a,b,c,d].set f.toNat v) 0),.int .i64 (rd ([a,b,c,d].set f.toNat v) 1),.int .i64 (rd ([a,b,c,d].set f.toNat v) 2),.int .i64 (rd ([a,b,c,d].set f.toNat v) 3)] T (0,0)):=by
  rcases(show f=0∨f=1∨f=2∨f=3 by omega)with rfl|rfl|rfl|rfl
  (exact qc h 0 _ rfl);(exact qc h 1 _ rfl);(exact qc h 2 _ rfl);(exact qc h 3 _ rfl)
theorem Qf {W:World} {n:Nat} (h:W.heap.size=n) (o:Obj):(W.alloc o).heap[n]?=some o:=h ▸ zEZ W o
theorem zDP {l:List Int} (h:l.length=4):l = [rd l 0,rd l 1,rd l 2,rd l 3]:=by
  match l,h with
  | [a,b,c,d],_=>rfl
def zFf (p:Int→Bool):Nat→List Int→Int
  | _,[] => -1
  | i,x :: xs=>if p x=true then(i:Int)else zFf p (i+1) xs
theorem zCk (p:Int→Bool) : ∀ (l:List Int) (i:Nat),(zFf p i l = -1 ∧ ∀ x∈l,p x=false) ∨ ∃ k,k<l.length∧zFf p i l=((i+k:Nat):Int)∧(∀ h:k<l.length,p l[k]=true) ∧ ∀ x∈l.take k,p x=false
  | [],_ => .inl ⟨rfl,fun x hx=>by cases hx⟩
  | x :: xs,i=>by
    cases hp:p x with
    | true=>exact .inr ⟨0,by simp,by rw[zFf,hp,if_pos rfl];rfl,fun _=>hp,fun y hy=>by simp at hy⟩
    | false=>
      rcases zCk p xs (i+1)with ⟨h1,h2⟩|⟨k,h1,h2,h3,h4⟩
      · refine .inl ⟨by rw[zFf,hp,if_neg (by simp)];exact h1,fun y hy=>?_⟩
        rcases List.mem_cons.1 hy with rfl|hy
        (exact hp);(exact h2 y hy)
      · refine .inr ⟨k+1,by simp;omega,by rw[zFf,hp,if_neg (by simp),h2];congr 1;omega,fun h=>h3 (by simpa using h),fun y hy=>?_⟩
        rw[List.take_succ_cons]at hy;rcases List.mem_cons.1 hy with rfl|hy
        (exact hp);(exact h4 y hy)
theorem zE6 {e B g n cap:Nat} {ok:Nat→Prop} {w0:World} : ∀ (m i:Nat) (w:World) (dk:List Int),Kd.R (Kd.int .i64) e w B ok (.slice (some ⟨g,0,none⟩) n cap) dk→B≤g→Below B w0 w →
    ∃ aa,Kd.R (Kd.int .i64) e (w.setCells g i (List.replicate m (.int .i64 0))) B ok (.slice (some ⟨g,0,none⟩) n cap) aa ∧ aa.take i=dk.take i∧aa.length=dk.length∧Below B w0 (w.setCells g i (List.replicate m (.int .i64 0)))
  | 0,i,w,dk,h,_,hb=>⟨dk,h,rfl,rfl,hb⟩
  | m+1,i,w,dk,h,hg,hb=>by
    have hn:n=dk.length:=(Kd.zn h).1;subst hn;have h1:=(Kd.JE h (i:Int) 0).1;rw[yny]at h1;have e1:(.slice (some ⟨g,0,none⟩) dk.length cap:Value) = .slice (some ⟨g,0,none⟩) (dk.set i 0).length cap:=by rw[List.length_set]
    rw[e1]at h1;obtain⟨aa,h2,h3,h4,h5⟩:=zE6 m (i+1) _ _ h1 hg (hb.setCell (p:=⟨g,i,none⟩) hg (.int .i64 0));rw[← e1]at h2;refine⟨aa,h2,?_,by rw[h4,List.length_set],h5⟩;have:=congrArg (List.take i) h3;rw[List.take_take,List.take_take,Nat.min_eq_left (by omega)]at this;rw[this,List.take_set_of_le (yry i)]
structure zAC (p:Int→Bool) (xs dk:List Int) (i j:Nat):Prop where
  lt:i<j
  le:j≤xs.length
  len:dk.length=xs.length
  done:dk.take i=(xs.take j).filter fun x => !p x
  left:dk.drop j=xs.drop j
theorem zAC.start {p:Int→Bool} {xs:List Int} {k:Nat} (h1:k<xs.length) (h3:p xs[k]=true) (h4 : ∀ x∈xs.take k,p x=false):zAC p xs xs k (k+1):=by
  refine⟨by omega,by omega,rfl,?_,rfl⟩;rw[List.take_succ_eq_append_getElem h1,List.filter_append];have e1:(xs.take k).filter (fun x => !p x)=xs.take k:=List.filter_eq_self.2 (fun x hx=>by rw[h4 x hx];rfl);rw[e1];simp [h3]
theorem zAC.get {p:Int→Bool} {xs dk:List Int} {i j:Nat} (h:zAC p xs dk i j) (hj:j<xs.length):rd dk (j:Int)=xs[j]:=by
  have h1:dk[j]?=xs[j]?:=by
    have:=congrArg (fun l=>l[0]?) h.left;simpa [List.getElem?_drop]using this
  have h2:j<dk.length:=by rw[h.len];exact hj
  simp [rd,List.getD_eq_getElem?_getD,h1,hj]
theorem zAC.keep {p:Int→Bool} {xs dk:List Int} {i j:Nat} (h:zAC p xs dk i j) (hj:j<xs.length) (hp:p xs[j]=false):zAC p xs (dk.set i xs[j]) (i+1) (j+1):=by
  have hi:i<dk.length:=by have:=h.lt;have:=h.len;omega
  refine⟨by have:=h.lt;omega,by omega,by rw[List.length_set];exact h.len,?_,?_⟩
  · rw[List.take_succ_eq_append_getElem (by rw[List.length_set];exact hi),List.take_set_of_le (yry i),h.done,List.take_succ_eq_append_getElem hj,List.filter_append]
    simp [hp]
  (rw[List.drop_set_of_lt (by have:=h.lt;omega),← List.drop_drop,h.left,List.drop_drop])
theorem zAC.skip {p:Int→Bool} {xs dk:List Int} {i j:Nat} (h:zAC p xs dk i j) (hj:j<xs.length) (hp:p xs[j]=true):zAC p xs dk i (j+1):=by
  refine⟨by have:=h.lt;omega,by omega,h.len,?_,?_⟩
  · rw[h.done,List.take_succ_eq_append_getElem hj,List.filter_append]
    simp [hp]
  (rw[← List.drop_drop,h.left,List.drop_drop])
theorem zA6.calls (p:Int→Bool) (ag:Value) (A0:Option Addr) (c0:Nat) (l0:List Int) (w:World) (ah:Kd.C (Kd.int .i64) w A0 l0.length l0)
    (hp : ∀ (W:World) (x:Int),x∈l0→Below w.heap.size w W→Calls Try.prog 78 #[.int .i64 x,ag] W fun e W'=>e = .returned (.bool (p x))∧Below W.heap.size W W') :
    Calls Try.prog 71 #[.slice A0 l0.length c0,.func (.func 78) #[] #[ag]] w fun e w'=>e = .returned (.int .i64 (zFf p 0 l0))∧Below w.heap.size w w':=by
  have ai:=zA.mk ah;have HP:=zA.mk hp;clear ah hp;have aj:l0.length≤9223372036854775807:=ai.out.2.1;have HB:=zA.mk (ysy w.heap.size w);have H' : zA (zFf p 0 (l0.drop 0)=zFf p 0 l0):=⟨by rw[List.drop_zero]⟩;generalize zFf p 0 l0=r at H' ⊢;go_enter Try.func71,Try.ntmps71
  go_wp2;go_loopg [5,8] l0.length (fun gg v5 v8 w' => ∃ kk:Nat,kk≤l0.length∧l0.length-kk≤gg∧v8 = .int .i64 kk∧zA (zFf p kk (l0.drop kk)=r)∧zA (Below w.heap.size w w'))
  case atStart=>exact⟨0,Nat.zero_le _,by omega,rfl,H',HB⟩
  case round=>
    clear H' HB;obtain⟨kk,ak,hg,rfl,HA,HB⟩:=hrel;by_cases aa:kk<l0.length
    · have ab:(kk:Int)<(l0.length:Int):=by omega
      have H:=HA.out;clear HA;rw[ypy aa,zFf]at H;obtain⟨ad,ae,hx⟩:=Kd.ZA ai.out (kk:Int) (by omega) (by omega);have ex:rd l0 (kk:Int)=l0[kk]:=by simp [rd,aa]
      rw[ex,yny]at hx;replace hx:=(HB.out.cell (yqy w _ hx)).trans hx;have HC:=zA.mk (HP.out wr l0[kk] (yoy aa) HB.out);generalize l0[kk]=y at hx H HC;clear ex
      cases ae
      cases hq:p y with
      | true=>
        rw[hq]at HC H;rw[if_pos rfl]at H;have H2:=zA.mk H;clear H;go_wp2_with fail
        refine HC.out.mono ?_;rintro e w' ⟨rfl,hd⟩;have af:=zA.mk (zM HB.out hd);clear hd HB HC;go_wp2;go_ret;exact⟨by rw[← H2.out];rfl,af.out⟩
      | false=>
        rw[hq]at HC H;rw[if_neg (by simp)]at H;have H2:=zA.mk H;clear H;go_wp2_with fail
        refine HC.out.mono ?_;rintro e w' ⟨rfl,hd⟩;have af:=zA.mk (zM HB.out hd);clear hd HB HC;go_wp2;go_roundg (l0.length-(kk+1))
        case measure=>omega
        case rel=>exact⟨kk+1,by omega,by omega,by go_num,H2,af⟩
    · have ab : ¬ (kk:Int)<(l0.length:Int):=by omega
      have e:kk=l0.length:=by omega
      subst e;have H2:=zA.mk (show(-1:Int)=r by have:=HA.out;rwa [List.drop_length,zFf]at this);clear HA;go_wp2;go_ret;exact⟨by rw[← H2.out];rfl,HB.out⟩
theorem Jy.calls (p:Int→Bool) (ah:Value) (g cap B:Nat) (ok:Nat→Prop) (xs:List Int) (w:World) (hR:Kd.R (Kd.int .i64) 2 w B ok (.slice (some ⟨g,0,none⟩) xs.length cap) xs)
    (hp : ∀ (W:World) (x:Int),x∈xs→Below B w W→Calls Try.prog 78 #[.int .i64 x,ah] W fun e W'=>e = .returned (.bool (p x))∧Below W.heap.size W W') :
    Calls Try.prog 77 #[.slice (some ⟨g,0,none⟩) xs.length cap,.func (.func 78) #[] #[ah]] w fun e w' => ∃ v',e = .returned v' ∧ Kd.R (Kd.int .i64) 2 w' B ok v' (xs.filter fun x => !p x)∧Below B w w':=by
  have al:B≤g:=Kd.ZO hR g (by simp [Value.ownBlock]);have an:g<w.heap.size:=Kd.Qt hR g (by simp [Value.ownBlock]);have aq:xs.length≤cap:=(Kd.zn hR).2.1;have ar:xs.length≤9223372036854775807:=Kd.zGD (Kd.zn hR).2.2;have ab:=zA.mk (zA6.calls p ah (some ⟨g,0,none⟩) cap xs w (Kd.zn hR).2.2 (fun W x hx hb=>hp W x hx (hb.mono (by omega))));have HR:=zA.mk hR;have HP:=zA.mk hp;have HG:=zA.mk (And.intro al an);clear hR hp al an;rcases zCk p xs 0 with ⟨h1,h2⟩|⟨k,h1,h2,h3,h4⟩
  · rw[h1]at ab
    have e1:xs.filter (fun x => !p x)=xs:=List.filter_eq_self.2 (fun x hx=>by rw[h2 x hx];rfl);rw[e1];clear h1 h2 e1 HP;go_enter Try.func77,Try.ntmps77
    go_wp2_with fail
    refine ab.out.mono ?_;rintro e w' ⟨rfl,hd⟩;have HB:=zA.mk (hd.mono (show B≤w.heap.size by have:=HG.out;omega));have ae:=zA.mk (Kd.qV HR.out hd);clear hd ab HR;go_wp2;go_ret;exact⟨_,rfl,ae.out,HB.out⟩
  · rw[h2,Nat.zero_add]at ab
    have ao:=zA.mk (zAC.start h1 (h3 h1) h4);have au:k<xs.length:=h1;have av:((k:Int) == -1)=false:=beq_eq_false_iff_ne.2 (by omega);clear h2 h3 h4 h1;go_enter Try.func77,Try.ntmps77
    go_wp2_with fail
    refine ab.out.mono ?_;rintro e w1 ⟨rfl,hd⟩;have HB:=zA.mk (hd.mono (show B≤w.heap.size by have:=HG.out;omega));have ae:=zA.mk (Kd.qV HR.out hd);clear hd ab HR;go_wp2;clear av;go_loopg [5,6,7] xs.length (fun gg s5 s6 _ wr => ∃ (i j:Nat) (dk:List Int),s5 = .int .i64 i∧s6 = .int .i64 j∧xs.length-j≤gg∧zA (zAC p xs dk i j)∧zA (Kd.R (Kd.int .i64) 2 wr B ok (.slice (some ⟨g,0,none⟩) xs.length cap) dk)∧zA (Below B w wr))
    case atStart=>exact⟨k,k+1,xs,rfl,by go_num,by omega,ao,ae,HB⟩
    case round=>
      clear ao ae HB au;obtain⟨i,j,dk,rfl,rfl,ax,HK,HR,HB⟩:=hrel;have ay:=HK.out.lt;have az:=HK.out.le;have ad:=HK.out.len;by_cases af:j<xs.length
      · have ai:(j:Int)<(xs.length:Int):=by omega
        have aa:=HR.out;rw[← ad]at aa;obtain⟨cj,_⟩:=Kd.ZZ 0 aa (j:Int) (by omega) (by omega);obtain⟨ci,fi⟩:=Kd.ZZ 0 aa (i:Int) (by omega) (by omega);replace cj:wr.cell? ⟨g,j,none⟩=some (.int .i64 (rd dk (j:Int))):=cj;replace ci:wr.cell? ⟨g,i,none⟩=some (.int .i64 (rd dk (i:Int))):=ci;replace fi:wr.frozen? ⟨g,i,none⟩=false:=fi;rw[HK.out.get af]at cj;have HC:=zA.mk (HP.out wr xs[j] (yoy af) HB.out);generalize hu:xs[j]=u at cj HC;have HU:=zA.mk hu;generalize rd dk (i:Int)=old at ci;clear hu aa
        cases hq:p u with
        | false=>
          rw[hq]at HC;go_wp2_with fail
          refine HC.out.mono ?_;rintro e w2 ⟨rfl,hd⟩;have aj:=zA.mk (HB.out.trans (hd.mono (show B≤wr.heap.size by have:=HB.out.size;have:=HG.out;omega)));have ak:=Kd.qV HR.out hd;rw[← ad]at ak;have ag:=zA.mk (Kd.JE ak (i:Int) u).1;rw[yny]at ag;have aA:=(hd.cell (yqy wr _ ci)).trans ci;have aB:=(hd.frozen (yqy wr _ ci)).trans fi;clear hd HB HC cj ci fi ak HR;go_wp2;go_roundg (xs.length-(j+1))
          case measure=>omega
          case rel=>exact⟨i+1,j+1,dk.set i u,by go_num,by go_num,by omega,⟨by have:=HK.out.keep af (by rw[HU.out];exact hq);rwa [HU.out]at this⟩,⟨by rw[← ad];exact ag.out⟩,⟨aj.out.setCell (p:=⟨g,i,none⟩) HG.out.1 _⟩⟩
        | true=>
          rw[hq]at HC;go_wp2_with fail
          refine HC.out.mono ?_;rintro e w2 ⟨rfl,hd⟩;have aj:=zA.mk (HB.out.trans (hd.mono (show B≤wr.heap.size by have:=HB.out.size;have:=HG.out;omega)));have ag:=zA.mk (Kd.qV HR.out hd);clear hd HB HC cj ci fi HR;go_wp2;go_roundg (xs.length-(j+1))
          case measure=>omega
          case rel=>exact⟨i,j+1,dk,rfl,by go_num,by omega,⟨HK.out.skip af (by rw[HU.out];exact hq)⟩,ag,aj⟩
      · obtain rfl:j=xs.length:=by omega
        have ai : ¬ (xs.length:Int)<(xs.length:Int):=by omega
        have aa:=HR.out;rw[← ad]at aa;have aC : ∀ ty,(Builtin.clear_ #[25] ty #[.slice (some ⟨g,i,none⟩) (xs.length-i) (cap-i)]).run Try.prog wr = .ok (.tuple #[]) (wr.setCells g i (List.replicate (xs.length-i) (.int .i64 0))):=
          fun ty=>Lib.run_clear_slice wr _ _ ty _ Try.underlying25 (fun w=>Try.zeroValue2 w) rfl rfl g i _ _ (by omega) (fun t ht=>by have q:wr.cell? ⟨g,i+t,none⟩=some (.int .i64 (rd dk ((i+t:Nat):Int))):=(Kd.ZZ 0 aa ((i+t:Nat):Int) (by omega) (by omega)).1;rw[q];rfl) (fun t ht=>(Kd.ZZ 0 aa ((i+t:Nat):Int) (by omega) (by omega)).2)
        obtain⟨aw,q1,q2,q3,q4⟩:=zE6 (xs.length-i) i wr dk HR.out HG.out.1 HB.out;have q5:=Kd.R_take (m:=i) q1 (by omega);have q6:aw.take i=xs.filter fun x => !p x:=by rw[q2,HK.out.done,List.take_length]
        rw[q6]at q5;have Q5:=zA.mk q5;have Q4:=zA.mk q4;clear q1 q2 q3 q4 q5 q6 aa HR HB HP HK ad;go_wp2;go_ret;exact⟨_,rfl,Q5.out,Q4.out⟩
def qY.l0:Nat→List Int→Int→Int→Int→Option (Int)
  | 0,_,_,_,_=>none
  | k+1,x0,x1,x7,x8=>if x8<x7 then(if 0≤x8 then(if x8<(x0.length:Int)then(if x1=(rd x0 x8)then(some x8)else(qY.l0 k x0 x1 x7 (wrap64 (x8+1))))else(none))else(none))else(some (-1))
def qY.f (k:Nat) (l0:List Int) (a1:Int):Option (Int):=qY.l0 k l0 a1 (l0.length:Int) 0
theorem qY.calls (k:Nat) (A0:Option Addr) (c0:Nat) (l0:List Int) (a1:Int) (r:Int) (w:World) (ak:Kd.C (Kd.int .i64) w A0 l0.length l0) (al:l0.length≤c0) (h:qY.f k l0 a1=some r) :
    Calls Try.prog 92 #[.slice A0 l0.length c0,.int .i64 a1] w fun e w'=>e = .returned (.int .i64 r)∧zp w w':=by
  have an:=zA.mk ak;have au:=zA.mk al;clear ak al;have H:(qY.l0 k l0 a1 (l0.length:Int) 0)=some r:=h;clear h;have H':=zA.mk H;clear H;go_enter Try.func92,Try.ntmps92
  go_wp2;go_loopg [8] k (fun kq v8 w' => ∃ (aa:Int),v8 = .int .i64 aa∧zA (qY.l0 kq l0 a1 (l0.length:Int) aa=some r)∧zA (kq≤k)∧zp w w')
  case atStart=>exact⟨(0),(by first|rfl|(simp;done)|(simp [*];done)),H',⟨yry _⟩,by repeat(first|exact zp.refl _|apply zp.step)⟩
  case round=>
    clear H';(try clear p2);obtain⟨aa,rfl,HA,ao,⟨m1,rfl⟩⟩:=hrel
    cases gk with
    | zero=>exact absurd HA.out (by simp [qY.l0])
    | succ k1=>
      have H:=HA.out;clear HA;simp only [qY.l0]at H;by_cases c3:aa<(l0.length:Int)
      · rw[if_pos c3]at H
        have ah:decide (aa<(l0.length:Int))=true:=ygy c3;clear c3;by_cases c4:0≤aa
        · rw[if_pos c4]at H
          have aq:decide (0≤aa)=true:=ygy c4;clear c4;by_cases c5:aa<(l0.length:Int)
          · rw[if_pos c5]at H
            have ar:decide (aa<(l0.length:Int))=true:=ygy c5;clear c5;by_cases c6:a1=(rd l0 aa)
            · rw[if_pos c6]at H
              have ai:(a1==(rd l0 aa))=true:=beq_iff_eq.mpr c6;have aj:(a1 != (rd l0 aa))=false:=bne_eq_false_iff_eq.mpr c6;clear c6;obtain rfl:=yey H;have ab:0≤(aa:Int):=of_decide_eq_true (by first|(with_reducible assumption)|assumption);have ad:aa<(l0.length:Int):=of_decide_eq_true (by first|(with_reducible assumption)|assumption);obtain⟨ag,af,ae⟩:=Kd.ZA an.out aa ab ad
              cases af;replace ab:=eq_true ab;replace ad:=eq_true ad;go_wp2;go_ret;exact⟨by first|rfl|(simp;done)|(simp [*];done),by repeat(first|exact zp.refl _|apply zp.step)⟩
            · rw[if_neg c6]at H
              have ai:(a1==(rd l0 aa))=false:=beq_eq_false_iff_ne.mpr c6;have aj:(a1 != (rd l0 aa))=true:=bne_iff_ne.mpr c6;have H':=zA.mk H;clear H;have ab:0≤(aa:Int):=of_decide_eq_true (by first|(with_reducible assumption)|assumption);have ad:aa<(l0.length:Int):=of_decide_eq_true (by first|(with_reducible assumption)|assumption);obtain⟨ag,af,ae⟩:=Kd.ZA an.out aa ab ad
              cases af;replace ab:=eq_true ab;replace ad:=eq_true ad;go_wp2;go_roundg k1
              case measure=>have:=ao.out;omega
              case rel=>exact⟨(wrap64 (aa+1)),(by first|rfl|(simp;done)|(simp [*];done)),H',⟨by have:=ao.out;omega⟩,by repeat(first|exact zp.refl _|apply zp.step)⟩
          (rw[if_neg c5]at H;exact absurd H (by simp))
        (rw[if_neg c4]at H;exact absurd H (by simp))
      (focus rw[if_neg c3]at H;have ah:decide (aa<(l0.length:Int))=false:=yhy c3;clear c3;obtain rfl:=yey H;go_wp2;go_ret;exact⟨by first|rfl|(simp;done)|(simp [*];done),by repeat(first|exact zp.refl _|apply zp.step)⟩)
def Zs.f (k:Nat) (l0:List Int) (a1:Int):Option (Bool):=(qY.f k l0 a1).bind fun t101=>(some (decide (t101≥0)))
theorem Zs.calls (k:Nat) (A0:Option Addr) (c0:Nat) (l0:List Int) (a1:Int) (r:Bool) (w:World) (aa:Kd.C (Kd.int .i64) w A0 l0.length l0) (ab:l0.length≤c0) (h:Zs.f k l0 a1=some r) :
    Calls Try.prog 79 #[.slice A0 l0.length c0,.int .i64 a1] w fun e w'=>e = .returned (.bool r)∧zp w w':=by
  have ae:=zA.mk aa;have af:=zA.mk ab;clear aa ab;have H:((qY.f k l0 a1).bind fun t101=>(some (decide (t101≥0))))=some r:=h;clear h;replace H:=ydy.mp H;obtain⟨t101,ad,H⟩:=H;replace H:(some (decide (t101≥0)))=some r:=H;have A3:=zA.mk ad;clear ad;obtain rfl:=yey H;go_enter Try.func79,Try.ntmps79
  go_wp2_with (first|((with_reducible refine zU (f:=92) rfl ?_);refine qD (some 7) rfl rfl Try.func92 (by kernel_rfl) rfl #[.slice A0 l0.length c0,.int .i64 a1] rfl (by(try simp only [yiy,yjy,yky]);first|done|rfl|(simp only [yly,ymy];rfl)) ?_;(with_reducible refine(qY.calls k _ _ l0 a1 t101 _ ?side1 ?side2 A3.out).mono ?_);(case side1=>repeat(first|exact ae.out|(with_reducible refine Kd.zu ?_ _)|(with_reducible refine Kd.zv ?_ _)|(with_reducible refine Kd.qK ?_)));(case side2=>exact af.out);rintro e w' ⟨rfl,⟨nd,rfl⟩⟩;refine⟨_,rfl,?_⟩))
  go_ret;exact⟨by first|rfl|(simp;done)|(simp [*];done),by repeat(first|exact zp.refl _|apply zp.step)⟩
def zCS (l0:List Int):List Int := [0,1,2,3].filter fun x => !l0.contains x
def JN.f (l0:List Int):Option (List Int):=some (zCS l0)
theorem zFE (l:List Int) (x:Int) (hl:l.length≤9223372036854775807) : ∀ (d n:Nat),n+d=l.length → ∃ r,qY.l0 (d+1) l x (l.length:Int) (n:Int)=some r∧decide (r≥0)=(l.drop n).contains x
  | 0,n,h=>⟨-1,by rw[qY.l0,if_neg (by omega)],by rw[List.drop_eq_nil_of_le (by omega)];rfl⟩
  | d+1,n,h=>by
    have aa:n<l.length:=by omega
    obtain⟨r,h1,h2⟩:=zFE l x hl d (n+1) (by omega);have ex:rd l (n:Int)=l[n]:=by simp [rd,aa]
    rw[qY.l0,if_pos (by omega),if_pos (by omega),if_pos (by omega),ex,ypy aa,List.contains_cons];by_cases c:x=l[n]
    (exact⟨n,by rw[if_pos c],by rw[← c];simp⟩)
    · refine⟨r,?_,?_⟩
      · rw[if_neg c,← h1];congr 1;unfold wrap64;omega
      · rw[h2]
        have:(x==l[n])=false:=by simpa using c
        rw[this,Bool.false_or]
theorem contains_eq (l:List Int) (x:Int) (hl:l.length≤9223372036854775807):Zs.f (l.length+1) l x=some (l.contains x):=by
  obtain⟨r,h1,h2⟩:=zFE l x hl l.length 0 (by omega);have h3:qY.f (l.length+1) l x=some r:=h1;unfold Zs.f;rw[h3,yfy,h2,List.drop_zero]
theorem zDQ.calls (A0:Option Addr) (c0 gb:Nat) (l0:List Int) (x:Int) (w:World) (hb:w.heap[gb]?=some (.cells #[.slice A0 l0.length c0] 25 (0,0))) (hC:Kd.C (Kd.int .i64) w A0 l0.length l0) (hc:l0.length≤c0) :
    Calls Try.prog 78 #[.int .i64 x,.pointer (some ⟨gb,0,none⟩)] w fun e w'=>e = .returned (.bool (l0.contains x))∧Below w.heap.size w w':=by
  have hx:w.cell? ⟨gb,0,none⟩=some (.slice A0 l0.length c0):=(zK hb 0).trans rfl;have aa:=zA.mk (contains_eq l0 x hC.2.1);have HC:=zA.mk hC;have HL:=zA.mk hc;clear hb hC hc;generalize l0.contains x=b at aa ⊢;go_enter Try.func78,Try.ntmps78
  go_wp2_with fail
  refine(Zs.calls _ A0 c0 l0 x b _ HC.out HL.out aa.out).mono ?_;rintro e w' ⟨rfl,hd⟩;have HB:=zA.mk (zp.below hd);clear hd;go_wp2;go_ret;exact⟨rfl,HB.out⟩
theorem zDR:ZC.f 10 4=some [0,1,2,3]:=by decide +kernel
theorem JN.calls (A0:Option Addr) (c0:Nat) (l0:List Int) (r:List Int) (w:World) (ad:Kd.C (Kd.int .i64) w A0 l0.length l0) (ae:l0.length≤c0) (h:JN.f l0=some r) :
    Calls Try.prog 53 #[.slice A0 l0.length c0] w fun e w' => ∃ af:Value,e = .returned (af)∧Kd.R (Kd.int .i64) 2 w' w.heap.size (fun _=>True) af r∧Below w.heap.size w w':=by
  have hr:zCS l0=r:=yey h;subst hr;clear h;have HR:=zA.mk ad;have HC:=zA.mk ae;clear ad ae;go_enter Try.func53,Try.ntmps53
  have BB:=zA.mk (Qf (W:=w) rfl (.cells #[.slice A0 l0.length c0] 25));have HB:=zA.mk (zC (ysy w.heap.size w) (.cells #[.slice A0 l0.length c0] 25));have HS:=zA.mk (show(w.alloc (.cells #[.slice A0 l0.length c0] 25)).heap.size=w.heap.size+1 by simp);go_wp2_with fail
  refine(ZC.calls 10 4 [0,1,2,3] _ zDR).mono ?_;rintro e w1 ⟨v1,rfl,ho,hb⟩;obtain⟨g,cap,rfl,aa,ah,_⟩:=Kd.JV ho (by decide);have ag:=zA.mk (zN BB.out hb);have ab:=zA.mk (zM HB.out hb);rw[HS.out]at ho aa;have HO:=zA.mk ho;have HG:=zA.mk aa;clear ho hb aa ah BB HB HS;go_wp2_with fail
  refine(Jy.calls (fun x=>l0.contains x) (.pointer (some ⟨w.heap.size,0,none⟩)) g cap (w.heap.size+1) (fun _=>True) [0,1,2,3] _ HO.out (fun W x _ hb=>zDQ.calls A0 c0 w.heap.size l0 x W ((hb.block w.heap.size (by omega)).trans ag.out) (Kd.qA HR.out (ab.out.trans (hb.mono (by omega)))) HC.out)).mono ?_;rintro e w2 ⟨v2,rfl,ho,hb⟩;have ai:=zA.mk (Kd.ZG ho (show w.heap.size≤w.heap.size+1 by omega));have aj:=zA.mk (ab.out.trans (hb.mono (show w.heap.size≤w.heap.size+1 by omega)));clear ho hb HO ab ag;go_wp2;go_ret;exact⟨_,rfl,ai.out,aj.out⟩
def zEh:Go.Shelf.Ren:=⟨fun|45=>91|n=>n,fun|22=>25|23=>2|3=>3|4=>4|0=>0|n=>n,fun|n=>n⟩
theorem zI8:Go.Proofs.SlLaysN.n45 Try.prog zEh := {
  mixed:=by kernel_rfl
  f45:=⟨Try.f91.name,by decide,Try.func91.trans (congrArg some (by kernel_rfl))⟩
  t0:=Try.underlying0
  a0:=Try.isAgg0
  z0:=Try.sizeOf0
  v0:=Try.zeroValue0
  t3:=Try.underlying3
  a3:=Try.isAgg3
  z3:=Try.sizeOf3
  v3:=Try.zeroValue3
  t4:=Try.underlying4
  a4:=Try.isAgg4
  z4:=Try.sizeOf4
  v4:=Try.zeroValue4
  t22:=Try.underlying25
  a22:=Try.isAgg25
  z22:=Try.sizeOf25
  v22:=Try.zeroValue25
  t23:=Try.underlying2
  a23:=Try.isAgg2
  z23:=Try.sizeOf2
  v23:=Try.zeroValue2
  i23:=by kernel_rfl }
theorem erase_eq (xs:List Int) (i:Nat):xs.take i++xs.drop (i+1)=xs.eraseIdx i:=(List.eraseIdx_eq_take_drop_succ xs i).symm
theorem QQ.zFF (g cap i:Nat) (xs:List Int) (base:Nat) (ok:Nat→Prop) (w:World) (ho:Kd.R (Kd.int .i64) 2 w base ok (.slice (some ⟨g,0,none⟩) xs.length cap) xs) (hi:i<xs.length) :
    Calls Try.prog 91 #[.slice (some ⟨g,0,none⟩) xs.length cap,.int .i64 i,.int .i64 (i+1)] w fun e w'=>e = .returned (.slice (some ⟨g,0,none⟩) (xs.length-1) cap) ∧
      Kd.R (Kd.int .i64) 2 w' base ok (.slice (some ⟨g,0,none⟩) (xs.length-1) cap) (xs.eraseIdx i)∧w.grownBy w' (some g):=by
  have ag:=Kd.zDB ho;rcases ag.2 with ⟨hv,_⟩|⟨g',ak,cur,hv,ab,hh,hle,ad,ai,aa⟩
  · cases hv
  injection hv with hv1 _ hv3
  injection hv1 with hv1
  injection hv1 with hv1 _ _
  subst hv1 hv3;rw[Nat.mul_one]at ai aa;have ae : ∀ j,j<xs.length→w.cell? ⟨g,0+j,none⟩=some (.int .i64 xs[j]!):=by
    intro j hj;rw[Nat.zero_add];have h1:cur.toList[j]?=some (.int .i64 xs[j]!):=by
      have h2:(cur.toList.take xs.length)[j]?=some (.int .i64 xs[j]!):=by
        rw[aa,zBN,List.getElem?_map,List.getElem?_eq_getElem hj];simp [getElem!_pos,hj]
      rw[List.getElem?_take,if_pos hj]at h2;exact h2
    rw[zK hh j,← Array.getElem?_toList,h1]
  have hH:Go.Sort.Holds (Value.int .i64) w g 0 xs.toArray:=by
    intro j hj;have aj : j<xs.length:=by simpa using hj
    refine⟨?_,by rw[Nat.zero_add];exact zL hh j⟩;rw[ae j aj];simp [getElem!_pos,aj]
  have hc:=AnyG.slices_Delete_int zI8 g 0 cap i (i+1) xs w hH hle (by unfold maxLen at ad;omega) (by omega) (by omega);have al:Calls Try.prog 91 #[.slice (some ⟨g,0,none⟩) xs.length cap,.int .i64 (i:Nat),.int .i64 ((i+1:Nat):Int)] w fun e w'=>e = .returned (.slice (some ⟨g,0,none⟩) (xs.length-(i+1-i)) cap) ∧ ∃ q,w' = Go.Sort.putRow (Value.int .i64) (Go.Sort.ahead w q) g 0 (xs.take i++xs.drop (i+1)++List.replicate (i+1-i) 0).toArray:=hc
  refine al.mono ?_;rintro e w' ⟨rfl,q,rfl⟩;have hlen:(xs.eraseIdx i).length=xs.length-1:=by rw[List.length_eraseIdx];simp [hi]
  have hd:xs.take i++xs.drop (i+1)++List.replicate (i+1-i) 0=xs.eraseIdx i ++ [0]:=by
    rw[erase_eq,show i+1-i=1 by omega];rfl
  rw[hd,show i+1-i=1 by omega];have af:(Go.Sort.putRow (Value.int .i64) (Go.Sort.ahead w q) g 0 (xs.eraseIdx i ++ [0]).toArray).heap[g]?=some (.cells (Go.Sort.putCells (Value.int .i64) 0 (xs.eraseIdx i ++ [0]).toArray cur) 2 (0,0)):=by
    show(w.heap.modify g _)[g]?=_;rw[Array.getElem?_modify,if_pos rfl,hh];rfl
  have ah : ∀ k,k≠g→(Go.Sort.putRow (Value.int .i64) (Go.Sort.ahead w q) g 0 (xs.eraseIdx i ++ [0]).toArray).heap[k]?=w.heap[k]?:=by
    intro k hk;show(w.heap.modify g _)[k]?=_;rw[Array.getElem?_modify,if_neg (Ne.symm hk)]
  refine⟨rfl,?_,⟨rfl,rfl,rfl,?_,fun k _ hk=>ah k (fun e=>hk (by rw[e]))⟩⟩
  · have e1:xs.length-1=(xs.eraseIdx i).length:=hlen.symm
    rw[e1];refine Kd.zAy ⟨by simp [zBN],.inr ⟨g,cap,_,rfl,ab,af,by omega,ad,by simp [Go.Sort.putCells,ai],?_⟩⟩ (fun k hk=>ho.1 k hk);rw[Nat.mul_one];apply List.ext_getElem?
    intro j;rw[List.getElem?_take];by_cases hj:j<(xs.eraseIdx i).length
    · rw[if_pos hj,Array.getElem?_toList,Go.Sort.putCells,Array.getElem?_mapIdx,Array.getElem?_eq_getElem (by omega),Option.map_some,if_pos ⟨by omega,by simp;omega⟩,Nat.sub_zero,zBN,List.getElem?_map,List.getElem?_eq_getElem hj,Option.map_some]
      congr 2
      rw[List.getElem!_toArray,getElem!_pos _ j (by simp;omega),List.getElem_append_left hj]
    (rw[if_neg hj,List.getElem?_eq_none (by simp [zBN];omega)])
  (show w.heap.size≤(w.heap.modify g _).size;rw[Array.size_modify];omega)
def zGT:Nat→Int
 | 0=>6
 | 1=>2
 | _=>1
def Zh (p:Int):Nat→Int
 | 0=>p
 | i+1=>Zh p i%zGT i
def QR (p:Int) (i:Nat):Int:=Zh p i/zGT i
def qE (p:Int):Nat→List Int
 | 0 => [0,1,2,3]
 | i+1=>(qE p i).eraseIdx (QR p i).toNat
def zq (p:Int) (i:Nat):Int:=(qE p i).getD (QR p i).toNat 0
def ZN (p:Int):List Int := [zq p 0,zq p 1,zq p 2,zq p 3]
theorem zFG (p:Int) (h0:0≤p) (h1:p≤23):(0≤Zh p 0∧Zh p 0≤23)∧(0≤Zh p 1∧Zh p 1≤5)∧(0≤Zh p 2∧Zh p 2≤1)∧(0≤Zh p 3∧Zh p 3≤0):=by
 simp only [Zh,zGT];omega
theorem zFH (p:Int) (h0:0≤p) (h1:p≤23):(0≤QR p 0∧QR p 0<4)∧(0≤QR p 1∧QR p 1<3)∧(0≤QR p 2∧QR p 2<2)∧(0≤QR p 3∧QR p 3<1):=by
 have:=zFG p h0 h1;simp only [QR,zGT];omega
theorem zE7 (p:Int) (h0:0≤p) (h1:p≤23):(qE p 0).length=4∧(qE p 1).length=3∧(qE p 2).length=2∧(qE p 3).length=1∧(qE p 4).length=0:=by
 obtain⟨a,b,c,d⟩:=zFH p h0 h1;have e0:(qE p 0).length=4:=rfl;have e1:(qE p 1).length=3:=by rw[qE,List.length_eraseIdx,e0,if_pos (by omega)]
 have e2:(qE p 2).length=2:=by rw[qE,List.length_eraseIdx,e1,if_pos (by omega)]
 have e3:(qE p 3).length=1:=by rw[qE,List.length_eraseIdx,e2,if_pos (by omega)]
 have e4:(qE p 4).length=0:=by rw[qE,List.length_eraseIdx,e3,if_pos (by omega)]
 exact⟨e0,e1,e2,e3,e4⟩
theorem zFI {W:World} {n:Nat} (h:W.heap.size=n) (o:Obj):(W.alloc o).heap[n]?=some o:=h ▸ zEZ W o
def QT (p:Int) (i j:Nat):Int:=if j<i then zq p j else 0
theorem zC8.calls (p:Int) (w:World) (h0:0≤p) (h1:p≤23) :
 Calls Try.prog 76 #[.int .i64 p] w fun e w'=>e = .returned (.agg #[.int .i64 (zq p 0),.int .i64 (zq p 1),.int .i64 (zq p 2),.int .i64 (zq p 3)])∧Below w.heap.size w w':=by
 have HP:=zA.mk (zFG p h0 h1);have HK:=zA.mk (zFH p h0 h1);have HL:=zA.mk (zE7 p h0 h1);clear h0 h1;go_enter Try.func76,Try.ntmps76
 go_wp2_with fail
 go_loopg [0,4,11] 4 (fun gg v0 v4 v11 w' => ∃ i:Nat,i≤4∧4-i≤gg∧v11 = .int .i64 i∧v0 = .int .i64 (Zh p i)∧v4 = .slice (some ⟨w.heap.size+1+1,0,none⟩) (qE p i).length 4 ∧
  zA (Kd.R (Kd.int .i64) 2 w' w.heap.size (fun k=>k=w.heap.size+1+1) (.slice (some ⟨w.heap.size+1+1,0,none⟩) (qE p i).length 4) (qE p i)) ∧
  zA (w'.heap[w.heap.size+1]?=some (.cells #[.int .i64 (QT p i 0),.int .i64 (QT p i 1),.int .i64 (QT p i 2),.int .i64 (QT p i 3)] 81 (0,0))) ∧
  zA (w'.heap[w.heap.size]?=some (.cells #[.int .i64 0,.int .i64 0,.int .i64 0,.int .i64 0] 81 (0,0))) ∧
  zA (w'.heap[w.heap.size+1+1+1]?=some (.cells #[.int .i64 6,.int .i64 2,.int .i64 1,.int .i64 1] 2 (0,0)))∧zA (Below w.heap.size w w'))
 case atStart=>
  refine⟨0,by omega,by omega,rfl,rfl,rfl,⟨?_⟩,⟨?_⟩,⟨?_⟩,⟨?_⟩,⟨?_⟩⟩;(refine Kd.zAy ⟨by simp [zBN],.inr ⟨w.heap.size+1+1,4,#[.int .i64 0,.int .i64 1,.int .i64 2,.int .i64 3],rfl,by omega,?_,yry 4,by decide,rfl,rfl⟩⟩ (fun k hk=>by simpa [Value.ownBlock]using hk.symm);exact zG (zFI (by simp) _) _);(exact zG (zG (zFI (by simp) _) _) _);(exact zG (zG (zG (zFI rfl _) _) _) _);(exact zFI (by simp) _);exact zC (zC (zC (zC (ysy _ _) _) _) _) _
 case round=>
  obtain⟨i,hi,hg,rfl,rfl,rfl,HR,B3,B2,B9,HB⟩:=hrel;rcases(show i=4∨i=3∨i=2∨i=1∨i=0 by omega)with rfl|rfl|rfl|rfl|rfl
  next=>
   have c0:wr.cell? ⟨w.heap.size+1,0,none⟩=some (.int .i64 (QT p 4 0)):=(zK B3.out 0).trans rfl;have c1:wr.cell? ⟨w.heap.size+1,1,none⟩=some (.int .i64 (QT p 4 1)):=(zK B3.out 1).trans rfl;have c2:wr.cell? ⟨w.heap.size+1,2,none⟩=some (.int .i64 (QT p 4 2)):=(zK B3.out 2).trans rfl;have c3:wr.cell? ⟨w.heap.size+1,3,none⟩=some (.int .i64 (QT p 4 3)):=(zK B3.out 3).trans rfl;have d0:wr.cell? ⟨w.heap.size,0,none⟩=some (.int .i64 0):=(zK B2.out 0).trans rfl;have d1:wr.cell? ⟨w.heap.size,1,none⟩=some (.int .i64 0):=(zK B2.out 1).trans rfl;have d2:wr.cell? ⟨w.heap.size,2,none⟩=some (.int .i64 0):=(zK B2.out 2).trans rfl;have d3:wr.cell? ⟨w.heap.size,3,none⟩=some (.int .i64 0):=(zK B2.out 3).trans rfl;have f0:=zL B2.out 0;have f1:=zL B2.out 1;have f2:=zL B2.out 2;have f3:=zL B2.out 3;have ht:=Try.underlying81;go_wp2;refine bodyPost_ret (results_cell_row rfl _ _ w.heap.size 81 #[.int .i64 (QT p 4 0),.int .i64 (QT p 4 1),.int .i64 (QT p 4 2),.int .i64 (QT p 4 3)] (0,0) _ rfl (qc (cs:=#[.int .i64 (QT p 4 0),.int .i64 (QT p 4 1),.int .i64 (QT p 4 2),.int .i64 0]) (qc (cs:=#[.int .i64 (QT p 4 0),.int .i64 (QT p 4 1),.int .i64 0,.int .i64 0]) (qc (cs:=#[.int .i64 (QT p 4 0),.int .i64 0,.int .i64 0,.int .i64 0]) (qc B2.out 0 _ rfl) 1 _ rfl) 2 _ rfl) 3 _ rfl) ht rfl (by kernel_rfl)) rfl ⟨rfl,?_⟩;exact zE (zE (zE (zE HB.out (yry _)) (yry _)) (yry _)) (yry _)
  next=>
   have hK:0≤QR p 3∧QR p 3<(qE p 3).length:=by have:=HK.out;have:=HL.out;omega
   have hP:0≤Zh p 3∧Zh p 3≤23:=by have:=HP.out;omega
   have ax:=zA.mk (show(qE p 3).length=1 by have:=HL.out;omega);have ab:=zA.mk (show(qE p 4).length=(qE p 3).length-1 by have:=HL.out;omega);obtain⟨A1,q1,ae,ak,hC⟩:=Kd.zAi HR.out;injection ae with ae hl1 hc1
   subst ae;clear hl1 hc1 ak;obtain⟨ad,af,hx⟩:=Kd.ZA hC (QR p 3) hK.1 (by omega);injection af with af
   subst af;rw[add_plain]at hx;have al:=zA.mk (show rd (qE p 3) (QR p 3)=zq p 3 from rfl);rw[al.out]at hx;have an:=zA.mk (show(qE p 3).eraseIdx (QR p 3).toNat=qE p 4 from rfl);have hX:QR p 3=Zh p 3:=by have e:QR p 3=Zh p 3/1:=rfl;rw[e];exact Int.ediv_one _
   have HY:=zA.mk (show 0=Zh p 4 by have e:Zh p 4=Zh p 3%1:=rfl;rw[e];omega);rw[hX]at hx hK;have HX:=zA.mk hX;clear hX hC;obtain⟨ao,ay⟩:=hK;obtain⟨az,aA⟩:=hP;have b9:wr.cell? ⟨w.heap.size+1+1+1,3,none⟩=some (.int .i64 1):=(zK B9.out 3).trans rfl;have b3:wr.cell? ⟨w.heap.size+1,3,none⟩=some (.int .i64 (QT p 3 3)):=(zK B3.out 3).trans rfl;have f3:=zL B3.out 3;have aB:Zh p 3<9223372036854775807:=by omega
   go_wp2_with fail
   have ai:=zA.mk (show Kd.R (Kd.int .i64) 2 (wr.setCell ⟨w.heap.size+1,3,none⟩ (.int .i64 (zq p 3))) w.heap.size (fun k=>k=w.heap.size+1+1) (.slice (some ⟨w.heap.size+1+1,0,none⟩) (qE p 3).length 4) (qE p 3)from Kd.Zf (p:=⟨w.heap.size+1,3,none⟩) HR.out (fun k hk=>by rw[hk];show w.heap.size+1+1≠w.heap.size+1;omega) _);refine Jf (args':=#[.slice (some ⟨w.heap.size+1+1,0,none⟩) (qE p 3).length 4,.int .i64 ((Zh p 3).toNat:Int),.int .i64 (((Zh p 3).toNat:Int)+1)]) (by rw[Int.toNat_of_nonneg ao]) ?_;refine(QQ.zFF (w.heap.size+1+1) 4 (Zh p 3).toNat (qE p 3) w.heap.size (fun k=>k=w.heap.size+1+1) _ ai.out (by omega)).mono ?_;rintro e w1 ⟨rfl,ag,aa⟩;have ah:=ab.out;have er:(qE p 3).eraseIdx (Zh p 3).toNat=qE p 4:=by rw[← an.out,HX.out]
   rw[er,← ah]at ag;rw[← ah];have aq:=zA.mk ag;have aj:(wr.setCell ⟨w.heap.size+1,3,none⟩ (.int .i64 (zq p 3))).heap[w.heap.size+1]?=some (.cells #[.int .i64 (QT p 4 0),.int .i64 (QT p 4 1),.int .i64 (QT p 4 2),.int .i64 (QT p 4 3)] 81 (0,0)):=qc B3.out 3 _ rfl;have ar:=zA.mk (qh aj aa (by simp));have au:=zA.mk (qh (qM (p:=⟨w.heap.size+1,3,none⟩) B2.out (by show w.heap.size≠w.heap.size+1;omega) (.int .i64 (zq p 3))) aa (by simp;omega));have av:=zA.mk (qh (qM (p:=⟨w.heap.size+1,3,none⟩) B9.out (by show w.heap.size+1+1+1≠w.heap.size+1;omega) (.int .i64 (zq p 3))) aa (by simp));have aw:=zA.mk (JS (zE (j:=3) (v := .int .i64 (zq p 3)) HB.out (show w.heap.size≤w.heap.size+1 by omega)) (some (w.heap.size+1+1)) (by have:=HB.out.size;simp [World.setCell];omega) aa (fun k hk=>by injection hk with hk;omega));clear ag aa aj ai B3 B2 B9 HB HR er ah hx b9 b3 f3;go_wp2;go_roundg (4-4)
   case measure=>omega
   case rel=>exact⟨4,by omega,by omega,by first|rfl|go_num,by rw[← HY.out],rfl,aq,ar,au,av,aw⟩
  next=>
   have hK:0≤QR p 2∧QR p 2<(qE p 2).length:=by have:=HK.out;have:=HL.out;omega
   have hP:0≤Zh p 2∧Zh p 2≤23:=by have:=HP.out;omega
   have ax:=zA.mk (show(qE p 2).length=2 by have:=HL.out;omega);have ab:=zA.mk (show(qE p 3).length=(qE p 2).length-1 by have:=HL.out;omega);obtain⟨A1,q1,ae,ak,hC⟩:=Kd.zAi HR.out;injection ae with ae hl1 hc1
   subst ae;clear hl1 hc1 ak;obtain⟨ad,af,hx⟩:=Kd.ZA hC (QR p 2) hK.1 (by omega);injection af with af
   subst af;rw[add_plain]at hx;have al:=zA.mk (show rd (qE p 2) (QR p 2)=zq p 2 from rfl);rw[al.out]at hx;have an:=zA.mk (show(qE p 2).eraseIdx (QR p 2).toNat=qE p 3 from rfl);have hX:QR p 2=Zh p 2:=by have e:QR p 2=Zh p 2/1:=rfl;rw[e];exact Int.ediv_one _
   have HY:=zA.mk (show 0=Zh p 3 by have e:Zh p 3=Zh p 2%1:=rfl;rw[e];omega);rw[hX]at hx hK;have HX:=zA.mk hX;clear hX hC;obtain⟨ao,ay⟩:=hK;obtain⟨az,aA⟩:=hP;have b9:wr.cell? ⟨w.heap.size+1+1+1,2,none⟩=some (.int .i64 1):=(zK B9.out 2).trans rfl;have b3:wr.cell? ⟨w.heap.size+1,2,none⟩=some (.int .i64 (QT p 2 2)):=(zK B3.out 2).trans rfl;have f3:=zL B3.out 2;have aB:Zh p 2<9223372036854775807:=by omega
   go_wp2_with fail
   have ai:=zA.mk (show Kd.R (Kd.int .i64) 2 (wr.setCell ⟨w.heap.size+1,2,none⟩ (.int .i64 (zq p 2))) w.heap.size (fun k=>k=w.heap.size+1+1) (.slice (some ⟨w.heap.size+1+1,0,none⟩) (qE p 2).length 4) (qE p 2)from Kd.Zf (p:=⟨w.heap.size+1,2,none⟩) HR.out (fun k hk=>by rw[hk];show w.heap.size+1+1≠w.heap.size+1;omega) _);refine Jf (args':=#[.slice (some ⟨w.heap.size+1+1,0,none⟩) (qE p 2).length 4,.int .i64 ((Zh p 2).toNat:Int),.int .i64 (((Zh p 2).toNat:Int)+1)]) (by rw[Int.toNat_of_nonneg ao]) ?_;refine(QQ.zFF (w.heap.size+1+1) 4 (Zh p 2).toNat (qE p 2) w.heap.size (fun k=>k=w.heap.size+1+1) _ ai.out (by omega)).mono ?_;rintro e w1 ⟨rfl,ag,aa⟩;have ah:=ab.out;have er:(qE p 2).eraseIdx (Zh p 2).toNat=qE p 3:=by rw[← an.out,HX.out]
   rw[er,← ah]at ag;rw[← ah];have aq:=zA.mk ag;have aj:(wr.setCell ⟨w.heap.size+1,2,none⟩ (.int .i64 (zq p 2))).heap[w.heap.size+1]?=some (.cells #[.int .i64 (QT p 3 0),.int .i64 (QT p 3 1),.int .i64 (QT p 3 2),.int .i64 (QT p 3 3)] 81 (0,0)):=qc B3.out 2 _ rfl;have ar:=zA.mk (qh aj aa (by simp));have au:=zA.mk (qh (qM (p:=⟨w.heap.size+1,2,none⟩) B2.out (by show w.heap.size≠w.heap.size+1;omega) (.int .i64 (zq p 2))) aa (by simp;omega));have av:=zA.mk (qh (qM (p:=⟨w.heap.size+1,2,none⟩) B9.out (by show w.heap.size+1+1+1≠w.heap.size+1;omega) (.int .i64 (zq p 2))) aa (by simp));have aw:=zA.mk (JS (zE (j:=2) (v := .int .i64 (zq p 2)) HB.out (show w.heap.size≤w.heap.size+1 by omega)) (some (w.heap.size+1+1)) (by have:=HB.out.size;simp [World.setCell];omega) aa (fun k hk=>by injection hk with hk;omega));clear ag aa aj ai B3 B2 B9 HB HR er ah hx b9 b3 f3;go_wp2;go_roundg (4-3)
   case measure=>omega
   case rel=>exact⟨3,by omega,by omega,by first|rfl|go_num,by rw[← HY.out],rfl,aq,ar,au,av,aw⟩
  next=>
   have hK:0≤QR p 1∧QR p 1<(qE p 1).length:=by have:=HK.out;have:=HL.out;omega
   have hP:0≤Zh p 1∧Zh p 1≤23:=by have:=HP.out;omega
   have ax:=zA.mk (show(qE p 1).length=3 by have:=HL.out;omega);have ab:=zA.mk (show(qE p 2).length=(qE p 1).length-1 by have:=HL.out;omega);obtain⟨A1,q1,ae,ak,hC⟩:=Kd.zAi HR.out;injection ae with ae hl1 hc1
   subst ae;clear hl1 hc1 ak;obtain⟨ad,af,hx⟩:=Kd.ZA hC (QR p 1) hK.1 (by omega);injection af with af
   subst af;rw[add_plain]at hx;have al:=zA.mk (show rd (qE p 1) (QR p 1)=zq p 1 from rfl);rw[al.out]at hx;have an:=zA.mk (show(qE p 1).eraseIdx (QR p 1).toNat=qE p 2 from rfl);have hX:QR p 1=Zh p 1/2:=by have e:QR p 1=Zh p 1/2:=rfl;rw[e]
   have HY:=zA.mk (show Zh p 1%2=Zh p 2 by have e:Zh p 2=Zh p 1%2:=rfl;rw[e]);rw[hX]at hx hK;have HX:=zA.mk hX;clear hX hC;obtain⟨ao,ay⟩:=hK;obtain⟨az,aA⟩:=hP;have b9:wr.cell? ⟨w.heap.size+1+1+1,1,none⟩=some (.int .i64 2):=(zK B9.out 1).trans rfl;have b3:wr.cell? ⟨w.heap.size+1,1,none⟩=some (.int .i64 (QT p 1 1)):=(zK B3.out 1).trans rfl;have f3:=zL B3.out 1;have aB:Zh p 1/2<9223372036854775807:=by omega
   go_wp2_with fail
   have ai:=zA.mk (show Kd.R (Kd.int .i64) 2 (wr.setCell ⟨w.heap.size+1,1,none⟩ (.int .i64 (zq p 1))) w.heap.size (fun k=>k=w.heap.size+1+1) (.slice (some ⟨w.heap.size+1+1,0,none⟩) (qE p 1).length 4) (qE p 1)from Kd.Zf (p:=⟨w.heap.size+1,1,none⟩) HR.out (fun k hk=>by rw[hk];show w.heap.size+1+1≠w.heap.size+1;omega) _);refine Jf (args':=#[.slice (some ⟨w.heap.size+1+1,0,none⟩) (qE p 1).length 4,.int .i64 ((Zh p 1/2).toNat:Int),.int .i64 (((Zh p 1/2).toNat:Int)+1)]) (by rw[Int.toNat_of_nonneg ao]) ?_;refine(QQ.zFF (w.heap.size+1+1) 4 (Zh p 1/2).toNat (qE p 1) w.heap.size (fun k=>k=w.heap.size+1+1) _ ai.out (by omega)).mono ?_;rintro e w1 ⟨rfl,ag,aa⟩;have ah:=ab.out;have er:(qE p 1).eraseIdx (Zh p 1/2).toNat=qE p 2:=by rw[← an.out,HX.out]
   rw[er,← ah]at ag;rw[← ah];have aq:=zA.mk ag;have aj:(wr.setCell ⟨w.heap.size+1,1,none⟩ (.int .i64 (zq p 1))).heap[w.heap.size+1]?=some (.cells #[.int .i64 (QT p 2 0),.int .i64 (QT p 2 1),.int .i64 (QT p 2 2),.int .i64 (QT p 2 3)] 81 (0,0)):=qc B3.out 1 _ rfl;have ar:=zA.mk (qh aj aa (by simp));have au:=zA.mk (qh (qM (p:=⟨w.heap.size+1,1,none⟩) B2.out (by show w.heap.size≠w.heap.size+1;omega) (.int .i64 (zq p 1))) aa (by simp;omega));have av:=zA.mk (qh (qM (p:=⟨w.heap.size+1,1,none⟩) B9.out (by show w.heap.size+1+1+1≠w.heap.size+1;omega) (.int .i64 (zq p 1))) aa (by simp));have aw:=zA.mk (JS (zE (j:=1) (v := .int .i64 (zq p 1)) HB.out (show w.heap.size≤w.heap.size+1 by omega)) (some (w.heap.size+1+1)) (by have:=HB.out.size;simp [World.setCell];omega) aa (fun k hk=>by injection hk with hk;omega));clear ag aa aj ai B3 B2 B9 HB HR er ah hx b9 b3 f3;go_wp2;go_roundg (4-2)
   case measure=>omega
   case rel=>exact⟨2,by omega,by omega,by first|rfl|go_num,by rw[← HY.out],rfl,aq,ar,au,av,aw⟩
  have hK:0≤QR p 0∧QR p 0<(qE p 0).length:=by have:=HK.out;have:=HL.out;omega
  have hP:0≤Zh p 0∧Zh p 0≤23:=by have:=HP.out;omega
  have ax:=zA.mk (show(qE p 0).length=4 by have:=HL.out;omega);have ab:=zA.mk (show(qE p 1).length=(qE p 0).length-1 by have:=HL.out;omega);obtain⟨A1,q1,ae,ak,hC⟩:=Kd.zAi HR.out;injection ae with ae hl1 hc1
  subst ae;clear hl1 hc1 ak;obtain⟨ad,af,hx⟩:=Kd.ZA hC (QR p 0) hK.1 (by omega);injection af with af
  subst af;rw[add_plain]at hx;have al:=zA.mk (show rd (qE p 0) (QR p 0)=zq p 0 from rfl);rw[al.out]at hx;have an:=zA.mk (show(qE p 0).eraseIdx (QR p 0).toNat=qE p 1 from rfl);have hX:QR p 0=Zh p 0/6:=by have e:QR p 0=Zh p 0/6:=rfl;rw[e]
  have HY:=zA.mk (show Zh p 0%6=Zh p 1 by have e:Zh p 1=Zh p 0%6:=rfl;rw[e]);rw[hX]at hx hK;have HX:=zA.mk hX;clear hX hC;obtain⟨ao,ay⟩:=hK;obtain⟨az,aA⟩:=hP;have b9:wr.cell? ⟨w.heap.size+1+1+1,0,none⟩=some (.int .i64 6):=(zK B9.out 0).trans rfl;have b3:wr.cell? ⟨w.heap.size+1,0,none⟩=some (.int .i64 (QT p 0 0)):=(zK B3.out 0).trans rfl;have f3:=zL B3.out 0;have aB:Zh p 0/6<9223372036854775807:=by omega
  go_wp2_with fail
  have ai:=zA.mk (show Kd.R (Kd.int .i64) 2 (wr.setCell ⟨w.heap.size+1,0,none⟩ (.int .i64 (zq p 0))) w.heap.size (fun k=>k=w.heap.size+1+1) (.slice (some ⟨w.heap.size+1+1,0,none⟩) (qE p 0).length 4) (qE p 0)from Kd.Zf (p:=⟨w.heap.size+1,0,none⟩) HR.out (fun k hk=>by rw[hk];show w.heap.size+1+1≠w.heap.size+1;omega) _);refine Jf (args':=#[.slice (some ⟨w.heap.size+1+1,0,none⟩) (qE p 0).length 4,.int .i64 ((Zh p 0/6).toNat:Int),.int .i64 (((Zh p 0/6).toNat:Int)+1)]) (by rw[Int.toNat_of_nonneg ao]) ?_;refine(QQ.zFF (w.heap.size+1+1) 4 (Zh p 0/6).toNat (qE p 0) w.heap.size (fun k=>k=w.heap.size+1+1) _ ai.out (by omega)).mono ?_;rintro e w1 ⟨rfl,ag,aa⟩;have ah:=ab.out;have er:(qE p 0).eraseIdx (Zh p 0/6).toNat=qE p 1:=by rw[← an.out,HX.out]
  rw[er,← ah]at ag;rw[← ah];have aq:=zA.mk ag;have aj:(wr.setCell ⟨w.heap.size+1,0,none⟩ (.int .i64 (zq p 0))).heap[w.heap.size+1]?=some (.cells #[.int .i64 (QT p 1 0),.int .i64 (QT p 1 1),.int .i64 (QT p 1 2),.int .i64 (QT p 1 3)] 81 (0,0)):=qc B3.out 0 _ rfl;have ar:=zA.mk (qh aj aa (by simp));have au:=zA.mk (qh (qM (p:=⟨w.heap.size+1,0,none⟩) B2.out (by show w.heap.size≠w.heap.size+1;omega) (.int .i64 (zq p 0))) aa (by simp;omega));have av:=zA.mk (qh (qM (p:=⟨w.heap.size+1,0,none⟩) B9.out (by show w.heap.size+1+1+1≠w.heap.size+1;omega) (.int .i64 (zq p 0))) aa (by simp));have aw:=zA.mk (JS (zE (j:=0) (v := .int .i64 (zq p 0)) HB.out (show w.heap.size≤w.heap.size+1 by omega)) (some (w.heap.size+1+1)) (by have:=HB.out.size;simp [World.setCell];omega) aa (fun k hk=>by injection hk with hk;omega));clear ag aa aj ai B3 B2 B9 HB HR er ah hx b9 b3 f3;go_wp2;go_roundg (4-1)
  case measure=>omega
  case rel=>exact⟨1,by omega,by omega,by first|rfl|go_num,by rw[← HY.out],rfl,aq,ar,au,av,aw⟩
def qw.f (l0:List (List (zz))):Option (Int):=some (l0.length:Int)
theorem qw.calls (A0:Option Addr) (c0:Nat) (l0:List (List (zz))) (r:Int) (w:World) (aa:Kd.C (Kd.slice 64 ZW) w A0 l0.length l0) (ab:l0.length≤c0) (h:qw.f l0=some r) :
    Calls Try.prog 50 #[.slice A0 l0.length c0] w fun e w'=>e = .returned (.int .i64 r)∧zp w w':=by
  have ad:=zA.mk aa;have ae:=zA.mk ab;clear aa ab;have H:(some (l0.length:Int))=some r:=h;clear h;obtain rfl:=yey H;go_enter Try.func50,Try.ntmps50
  go_wp2;go_ret;exact⟨by first|rfl|(simp;done)|(simp [*];done),by repeat(first|exact zp.refl _|apply zp.step)⟩
def Zn.f (a0_0:Int) (a0_1:Int):Option (Bool):=some (decide (a0_0<0))
theorem Zn.calls (ad:Int) (ae:Int) (r:Bool) (w:World) (h:Zn.f ad ae=some r) :
    Calls Try.prog 75 #[.agg #[.int .i64 ad,.int .i64 ae]] w fun e w'=>e = .returned (.bool r)∧Below w.heap.size w w':=by
  have au:=Try.underlying64;have HB:=zA.mk (ysy w.heap.size w);have H:(some (decide (ad<0)))=some r:=h;clear h;obtain rfl:=yey H;go_enter Try.func75,Try.ntmps75
  go_wp2_with (first|((with_reducible refine zm (N:=1) rfl ?_);refine zt ?hg (N:=1) ?hd (cs:=#[.int .i64 ad,.int .i64 ae]) (t:=64) ?hr ?_;(case hd=>rfl);(case hg=>rfl);(case hr=>first|(go_simp;done)|(go_simp;rfl));intro aa hg w2 af hb;have al:=zA.mk (zM (by repeat(first|(with_reducible first|exact HB.out|apply zC|apply zB|apply zD)|exact HB.out)) hb);have an:=zA.mk (af);have ao:=zA.mk ((by rw[hg];exact(zP (by repeat(first|(with_reducible first|exact HB.out|apply zC|apply zB|apply zD)|exact HB.out))):w.heap.size≤aa));have aq:=zA.mk ((by rw[hg];exact(zP (by repeat(first|(with_reducible first|exact HB.out|apply zC|apply zB|apply zD)|exact HB.out))):w.heap.size≤aa));clear HB;have HB:=al;have ab:=an;have ar:=ao;have ag:=aq;clear al an ao aq;clear hb af hg;have ah:w2.cell? ⟨aa,0,none⟩=some (.int .i64 ad):=(zK ab.out 0).trans rfl;have ai:w2.cell? ⟨aa,1,none⟩=some (.int .i64 ae):=(zK ab.out 1).trans rfl;have aj:=zL ab.out 0;have ak:=zL ab.out 1))
  go_ret;exact⟨by first|rfl|(simp [zV,zW] <;> rfl)|(simp [*,zV,zW] <;> rfl),by repeat(first|(with_reducible first|exact HB.out|apply zC|apply zB|apply zD|refine zE ?_ ag.out)|exact HB.out)⟩
theorem goesF_ {P:Program} {ops:Array Oper} {Q:Exit→Act→World→Prop} {oi:Oper} {N:Option Tmp} {a:Act} {w:World} {K:Act→World→Prop} {f:FuncId} {fn:Func} {t:Tmp} {af:Array Operand} {ts:Array TypeId} {aa:Array Value} (hf:P.funcs[f]?=some fn) (ab:(fn.name == "runtime.NumGoroutine")=false) (hb:fn.body.isSome=true) (args all:Array Value)
    (hw:Region.wanted oi (yielded ops a.tmps)=true) (hN:oi.dst=N) (ag:oi.op = .call { callee := .value (.tmp t),args:=af,argTypes:=ts }) (ht:a.eval (.tmp t) = .func (.func f) #[] aa) (ad:af.map a.eval=args) (ae:args++aa=all)
    (h:Calls P f all w fun e w' => ∃ v,e = .returned v∧K (a.put N v) w'):if Region.wanted oi (yielded ops a.tmps)=true then Oper.wp P oi a w K Q else K (a.put N undef) w:=by
  subst ae;refine call_ f (args++aa) hw hN ?_ h;have he:=zEd hf ab hb (args++aa) w;unfold execOp;simp [ag,resolve,Deferred.ofValue,invoke,ht,ad,he]
theorem zHM {α:Type} {w:World} {d:Kd α} {e base b:Nat} {ok:Nat→Prop} {v:Value} {xs:List α} (h:d.R e w base ok v xs) (hb:v.ownBlock=some b) : ∃ cap,v = .slice (some ⟨b,0,none⟩) xs.length cap:=by
  obtain⟨inner,ho⟩:=Kd.zEb h;rcases ho.2 with ⟨rfl,_⟩|⟨g,cap,cur,rfl,_⟩
  · simp [Value.ownBlock]at hb
  · have:g=b:=by simpa [Value.ownBlock]using hb
    subst this;exact⟨cap,rfl⟩
def zDS {σ:Type} (step : σ→Nat→Nat→zz → σ) (tet:Nat):List zz→Nat → σ → σ
  | [],_,s=>s
  | x :: xs,f,s=>zDS step tet xs (f+1) (if x.f0<0 then s else step s tet f x)
def zB5 {σ:Type} (step : σ→Nat→Nat→zz → σ):List (List zz)→Nat → σ → σ
  | [],_,s=>s
  | r :: rs,tet,s=>zB5 step rs (tet+1) (zDS step tet r 0 s)
def zB6 (l:List (List zz)) (j f:Nat) (x:zz):Prop := ∃ h1:j<l.length,∃ h2:f<l[j].length,l[j][f]=x
theorem zCl.calls {σ:Type} (F:FuncId) (fn:Func) (hf:Try.prog.funcs[F]?=some fn) (ao:(fn.name == "runtime.NumGoroutine")=false) (aq:fn.body.isSome=true) (ah:Array Value)
    (l:List (List zz)) (A0:Option Addr) (c0:Nat) (w0 w:World) (Inv : σ→World→Prop) (step : σ→Nat→Nat→zz → σ) (ad : σ)
    (ae : σ→Nat) (N:Nat) (ar : ∀ s j f x,ae (step s j f x)≤ae s+4) (hN:ae ad+4*(l.map List.length).sum≤N)
    (hB : ∀ s W W',Inv s W→Below W.heap.size W W' → Inv s W')
    (hK : ∀ s W,Inv s W→Below w0.heap.size w0 W)
    (hT:Kd.C (Kd.slice 64 ZW) w0 A0 l.length l)
    (af : ∀ r∈l,∀ x∈r,¬ x.f0<0→0≤x.f1∧x.f1≤23)
    (ag : ∀ s W (j f:Nat) (x:zz),Inv s W→zB6 l j f x → ¬ x.f0<0→ae s+4≤N →
      Calls Try.prog F (#[.int .i64 (j:Int),.int .i64 (f:Int),.agg #[.int .i64 x.f0,.int .i64 x.f1],.agg #[.int .i64 (zq x.f1 0),.int .i64 (zq x.f1 1),.int .i64 (zq x.f1 2),.int .i64 (zq x.f1 3)]]++ah) W fun e W'=>e = .returned (.tuple #[])∧Inv (step s j f x) W')
    (h0:Inv ad w) :
    Calls Try.prog 51 #[.agg #[.slice A0 l.length c0],.func (.func F) #[] ah] w fun e w'=>e = .returned (.tuple #[])∧Inv (zB5 step l 0 ad) w':=by
  have HB:=zA.mk hB;have HK:=zA.mk hK;have HT:=zA.mk hT;have aK:=zA.mk af;have aL:=zA.mk ag;have aM:=zA.mk ar;have HN:zA (ae ad+4*((l.drop 0).map List.length).sum≤N):=⟨by rw[List.drop_zero];exact hN⟩;clear ar hN;have HS:=zA.mk (hB _ _ _ h0 (zC (ysy w.heap.size w) (.cells #[.slice A0 l.length c0] 31)));have aN:l.length≤9223372036854775807:=hT.2.1;clear hB hT af ag h0 hK;have HA:zA (zB5 step (l.drop 0) 0 ad=zB5 step l 0 ad):=⟨by rw[List.drop_zero]⟩;generalize zB5 step l 0 ad=R at HA ⊢;go_enter Try.func51,Try.ntmps51
  go_wp2;go_loopg [11] l.length (fun gg v11 w' => ∃ (j:Nat) (s : σ),j≤l.length∧l.length-j≤gg∧v11 = .int .i64 j∧zA (zB5 step (l.drop j) j s=R)∧zA (Inv s w')∧zA (ae s+4*((l.drop j).map List.length).sum≤N))
  case atStart=>exact⟨0,ad,Nat.zero_le _,by omega,rfl,HA,HS,HN⟩
  case round=>
    clear HS HA HN;obtain⟨j,st,hj,hg,rfl,HA,HS,HN⟩:=hrel;by_cases au:j<l.length
    · have aD:(j:Int)<(l.length:Int):=by omega
      obtain⟨aT,A1,c1,e1,ak,aG,aA⟩:=Zd HT.out (j:Int) (by omega) aD;subst e1;have ex:zF l (j:Int)=l[j]:=by simp [zF,au]
      rw[ex]at ak aG aA;rw[yny]at ak;replace ak:=((HK.out _ _ HS.out).cell (yqy w0 _ ak)).trans ak;have al:=HA.out;rw[ypy au,zB5]at al;have HI:zA (zB5 step (l.drop (j+1)) (j+1) (zDS step j (l[j].drop 0) 0 st)=R):=⟨by rw[List.drop_zero];exact al⟩;have ai:zA (ae st+4*(l[j].length-0+((l.drop (j+1)).map List.length).sum)≤N):=⟨by have h:=HN.out;rw[ypy au,yjy,List.sum_cons]at h;omega⟩;clear HN;have aO:=zA.mk (aK.out l[j] (yoy au));have HX:=zA.mk (show ∀ (f:Nat) (x:zz) (h2:f<l[j].length),l[j][f]=x→zB6 l j f x from fun f x h2 h=>⟨au,h2,h⟩);have aH:l[j].length≤9223372036854775807:=aA.2.1;have aP:=zA.mk aA;clear HA al aG aA ex;generalize l[j]=row at *;go_wp2;go_loopg [18] row.length (fun gg aQ w' => ∃ (f:Nat) (s : σ),f≤row.length∧row.length-f≤gg∧aQ = .int .i64 f∧zA (zB5 step (l.drop (j+1)) (j+1) (zDS step j (row.drop f) f s)=R)∧zA (Inv s w')∧zA (ae s+4*(row.length-f+((l.drop (j+1)).map List.length).sum)≤N))
      case atStart=>exact⟨0,st,Nat.zero_le _,by omega,rfl,HI,HS,ai⟩
      case round=>
        clear HI HS ak ai;obtain⟨f,st,aU,aV,rfl,HI,HS,ai⟩:=hrel;by_cases aB:f<row.length
        · have aE:(f:Int)<(row.length:Int):=by omega
          obtain⟨aW,e2,av,aw⟩:=QI aP.out (f:Int) (by omega) aE;subst e2;replace av:=((HK.out _ _ HS.out).cell (yqy w0 _ av)).trans av;replace aw:=((HK.out _ _ HS.out).cell (yqy w0 _ aw)).trans aw;have HF:=zA.mk (HX.out f row[f] aB rfl);have HY:=zA.mk (aO.out row[f] (yoy aB));have aj:=HI.out;rw[ypy aB,zDS]at aj;have ax:=zA.mk aj;clear HI aj;have ex:zJ row (f:Int)=row[f]:=by simp [zJ,aB]
          rw[ex,yny]at av aw;generalize row[f]=y at av aw HY ax HF;obtain⟨f0,f1⟩:=y;clear ex;have BF:=zA.mk (Qf (W:=wr) rfl (.cells #[.int .i64 f0,.int .i64 f1] 64));have aC:=zA.mk (HB.out _ _ _ HS.out (zC (ysy _ _) (.cells #[.int .i64 f0,.int .i64 f1] 64)));clear HS;by_cases hb:f0<0
          · rw[if_pos hb]at ax
            have d0:decide (f0<0)=true:=ygy hb;go_wp2_with (first|(go_at_call 75;(with_reducible refine(Zn.calls f0 f1 true _ (by unfold Zn.f;rw[d0])).mono ?_);rintro e w2 ⟨rfl,an⟩;have ab:=zA.mk (HB.out _ _ _ aC.out an);clear aC BF an))
            go_roundg (row.length-(f+1))
            case measure=>omega
            case rel=>exact⟨f+1,st,by omega,by omega,by go_num,ax,ab,⟨by have:=ai.out;omega⟩⟩
          · rw[if_neg hb]at ax
            have d0:decide (f0<0)=false:=yhy hb;have HP:=zA.mk (show 0≤f1∧f1≤23 from HY.out (by first|exact hb|(show(0:Int)≤f0;omega)));have aR:=zA.mk hb;clear HY;go_wp2_with (first|(go_at_call 75;(with_reducible refine(Zn.calls f0 f1 false _ (by unfold Zn.f;rw[d0])).mono ?_);rintro e w2 ⟨rfl,an⟩;have ab:=zA.mk (HB.out _ _ _ aC.out an);have aI:=zA.mk (zN BF.out an);clear aC BF an;have BF:=aI;clear aI))
            refine QK (n:=8) (S:=fun w'=>w'.cell? ⟨wr.heap.size,0,none⟩=some (.int .i64 f0)∧w'.cell? ⟨wr.heap.size,1,none⟩=some (.int .i64 f1)) (ds := [7]) #[false,false,false,false,false,false,false,false] (by kernel_rfl) rfl rfl ⟨(zK BF.out 0).trans rfl,(zK BF.out 1).trans rfl⟩ (fun aa=>?_);have ay:=zA.mk (HB.out _ _ _ ab.out (zD (ysy _ _)));have az:=zA.mk (zI BF.out);clear ab BF;have ab:=ay;have BF:=az;clear ay az;generalize w2.drew=aX at ab BF aa ⊢;refine zf (i:=0) (N:=some 26) (v:=?_) (a':=?_) #[true,false,false,false,false,false,false,false] rfl rfl (by kernel_rfl) (fun _ _ _ h=>h) (Or.inl ⟨by rfl,?_⟩) ?_ ?_;rotate_left;(focus intro w';go_simp;with_reducible rfl);rotate_left;(simp only [Act.put,yay,yby,ycy,zY,za];rfl);refine zf (i:=1) (N:=some 27) (v:=?_) (a':=?_) #[true,true,false,false,false,false,false,false] rfl rfl (by kernel_rfl) (fun _ _ _ h=>h) (Or.inl ⟨by rfl,?_⟩) ?_ ?_;rotate_left;(focus intro w';go_simp;with_reducible rfl);rotate_left;(simp only [Act.put,yay,yby,ycy,zY,za];rfl);refine zf (i:=2) (N:=some 28) (v:=?_) (a':=?_) #[true,true,true,false,false,false,false,false] rfl rfl (by kernel_rfl) (fun _ _ _ h=>h) (Or.inl ⟨by rfl,?_⟩) ?_ ?_;rotate_left;(focus intro w';go_simp;with_reducible rfl);rotate_left;(simp only [Act.put,yay,yby,ycy,zY,za];rfl);refine ZY (i:=3) (N:=some 29) (v:=?_) (a':=?_) #[true,true,true,true,false,false,false,false] rfl rfl (by kernel_rfl) (fun _ _ _ h=>h) (Or.inl ⟨by rfl,?_⟩) aa ?_ ?_;rotate_left;(focus rintro w' ⟨s0,s1⟩;go_simp;with_reducible rfl);rotate_left;(simp only [Act.put,yay,yby,ycy,zY,za];rfl);refine zf (i:=4) (N:=some 30) (v:=?_) (a':=?_) #[true,true,true,true,true,false,false,false] rfl rfl (by kernel_rfl) (fun _ _ _ h=>h) (Or.inl ⟨by rfl,?_⟩) ?_ ?_;rotate_left;(focus intro w';go_simp;with_reducible rfl);rotate_left;(simp only [Act.put,yay,yby,ycy,zY,za];rfl);refine ZY (i:=5) (N:=some 31) (v:=?_) (a':=?_) #[true,true,true,true,true,true,false,false] rfl rfl (by kernel_rfl) (fun _ _ _ h=>h) (Or.inl ⟨by rfl,?_⟩) aa ?_ ?_;rotate_left;(focus rintro w' ⟨s0,s1⟩;go_simp;with_reducible rfl);rotate_left;(simp only [Act.put,yay,yby,ycy,zY,za];rfl);refine zAI (i:=6) (N:=some 32) #[true,true,true,true,true,true,true,false] rfl rfl (by kernel_rfl) (by decide) (fun K hK=>?_)
            refine JH Try.func76 (by kernel_rfl) rfl #[.int .i64 f1] (by rfl) rfl rfl (by(try simp only [yiy,yjy,yky]);first|done|rfl) ?_;refine(zC8.calls f1 _ HP.out.1 HP.out.2).mono ?_;rintro e w3 ⟨rfl,aF⟩;refine⟨_,rfl,?_⟩;have ay:=zA.mk (HB.out _ _ _ ab.out aF);have az:=zA.mk (zN BF.out aF);clear ab BF aF;have BF:=az;have ab:=ay;clear az ay;refine hK.out _ _ ⟨(zK BF.out 0).trans rfl,(zK BF.out 1).trans rfl⟩ (fun aa=>?_);clear hK K;refine QV (a':=?_) ?_ ?_;rotate_left;(show Act.put _ (some 32) _=_;simp only [Act.put,yay,yby,ycy,zY,za];rfl);refine zFZ (i:=7) (N:=some 33) #[true,true,true,true,true,true,true,true] rfl rfl (by kernel_rfl) (by decide) (fun K hK=>?_);refine goesF_ (f:=F) (fn:=fn) hf ao aq #[.int .i64 (j:Int),.int .i64 (f:Int),.agg #[.int .i64 f0,.int .i64 f1],.agg #[.int .i64 (zq f1 0),.int .i64 (zq f1 1),.int .i64 (zq f1 2),.int .i64 (zq f1 3)]] (#[.int .i64 (j:Int),.int .i64 (f:Int),.agg #[.int .i64 f0,.int .i64 f1],.agg #[.int .i64 (zq f1 0),.int .i64 (zq f1 1),.int .i64 (zq f1 2),.int .i64 (zq f1 3)]]++ah) (by rfl) rfl rfl rfl (by(try simp only [yiy,yjy,yky]);first|done|rfl) rfl ?_;refine(aL.out st _ j f ⟨f0,f1⟩ ab.out HF.out aR.out (by have:=ai.out;omega)).mono ?_;rintro e w4 ⟨rfl,aJ⟩;refine⟨_,rfl,?_⟩;have aS:=zA.mk aJ;clear aJ ab;refine hK.out _ _ ?_;clear hK K;refine QV (a':=?_) ?_ ?_;rotate_left;(show Act.put _ (some 33) _=_;simp only [Act.put,yay,yby,ycy,zY,za];rfl);refine JG (by kernel_rfl) ?_;go_wp2;go_roundg (row.length-(f+1))
            case measure=>omega
            case rel=>exact⟨f+1,_,by omega,by omega,by go_num,ax,aS,⟨by have:=ai.out;have:=aM.out st j f ⟨f0,f1⟩;omega⟩⟩
        · obtain rfl:f=row.length:=by omega
          have aj:=HI.out;rw[List.drop_length,zDS]at aj;have HA:=zA.mk aj;clear HI aj;go_wp2;go_roundg (l.length-(j+1))
          case measure=>omega
          case rel=>exact⟨j+1,st,by omega,by omega,by go_num,HA,HS,⟨by have:=ai.out;omega⟩⟩
    · obtain rfl:j=l.length:=by omega
      have al:=HA.out;rw[List.drop_length,zB5]at al;subst al;go_wp2;first|go_end0|((try simp only [Exit.inBlock,Exit.then]);refine bodyPost_ret (results_none rfl _ _ _) rfl ?_)
      refine⟨?_,HS.out⟩;first|rfl|(simp <;> rfl)
def Zl (l:List Int) (i:Nat):Nat→Int
  | 0=>rd l i
  | j+1=>if rd l j<rd l i then Zl l i j-1 else Zl l i j
def zAG (l:List Int):Nat→Int
  | 0=>0
  | i+1=>zAG l i+Zl l i i*zGT i
def idxL (l:List Int):Int:=zAG l 4
def sm (x:Int):Prop:=0≤x∧x≤3
theorem zAL (l:List Int) (i:Nat) (h:sm (rd l i)) : ∀ j:Nat, -(j:Int)≤Zl l i j∧Zl l i j≤3
  | 0=>by have:=h.1;have:=h.2;unfold Zl;omega
  | j+1=>by
    have:=zAL l i h j;unfold Zl;split <;> omega
theorem zE8.calls (a b c d:Int) (w:World) (ha:sm a) (hb:sm b) (hc:sm c) (hd:sm d) :
    Calls Try.prog 94 #[.agg #[.int .i64 a,.int .i64 b,.int .i64 c,.int .i64 d]] w fun e w'=>e = .returned (.int .i64 (idxL [a,b,c,d]))∧Below w.heap.size w w':=by
  have ak:sm (rd [a,b,c,d] (0:Nat)):=ha;have al:sm (rd [a,b,c,d] (1:Nat)):=hb;have an:sm (rd [a,b,c,d] (2:Nat)):=hc;have ao:sm (rd [a,b,c,d] (3:Nat)):=hd;have HL:=zA.mk (And.intro (zAL _ 0 ak) (And.intro (zAL _ 1 al) (And.intro (zAL _ 2 an) (zAL _ 3 ao))));have HS:=zA.mk (And.intro ak (And.intro al (And.intro an ao)));clear ha hb hc hd ak al an ao;generalize hl : [a,b,c,d]=l at HL HS ⊢;have ah:=zA.mk hl;clear hl;go_enter Try.func94,Try.ntmps94
  go_wp2_with fail
  go_loopg [3,11] 4 (fun gg v3 v11 w' => ∃ i:Nat,i≤4∧4-i≤gg∧v11 = .int .i64 i∧v3 = .int .i64 (zAG l i)∧zA (-24*(i:Int)≤zAG l i∧zAG l i≤24*i) ∧
    zA (w'.heap[w.heap.size]?=some (.cells #[.int .i64 a,.int .i64 b,.int .i64 c,.int .i64 d] 81 (0,0))) ∧
    zA (w'.heap[w.heap.size+1]?=some (.cells #[.int .i64 6,.int .i64 2,.int .i64 1,.int .i64 1] 2 (0,0)))∧zA (Below w.heap.size w w'))
  case atStart=>
    refine⟨0,by omega,by omega,rfl,rfl,⟨by simp [zAG]⟩,⟨?_⟩,⟨?_⟩,⟨?_⟩⟩;(exact zG (Qf rfl _) _);(exact Qf (by simp) _);(exact zC (zC (ysy _ _) _) _)
  case round=>
    obtain⟨i,hi,hg,rfl,rfl,HI,B1,B9,HB⟩:=hrel;rcases(show i=4∨i=3∨i=2∨i=1∨i=0 by omega)with rfl|rfl|rfl|rfl|rfl
    (focus go_wp2;go_ret;exact⟨rfl,HB.out⟩)
    · have b9:wr.cell? ⟨w.heap.size+1,3,none⟩=some (.int .i64 1):=(zK B9.out 3).trans rfl
      have b1:wr.cell? ⟨w.heap.size,3,none⟩=some (.int .i64 (rd l (3:Nat))):=(zK B1.out 3).trans (by rw[← ah.out];rfl);have hx:sm (rd l (3:Nat)):=by have:=HS.out;exact this.2.2.2
      have HD:=zA.mk (show ∀ j:Nat,Zl l 3 (j+1)=if rd l (j:Nat)<rd l (3:Nat)then Zl l 3 j-1 else Zl l 3 j from fun _=>rfl);have ag:=zA.mk (show rd l (3:Nat)=Zl l 3 0 from rfl);generalize rd l (3:Nat)=xi at b1 HD ag hx;go_wp2_with fail
      go_loopg [6,22] 3 (fun gg v6 v22 w' => ∃ j:Nat,j≤3∧3-j≤gg∧v22 = .int .i64 j∧v6 = .int .i64 (Zl l 3 j)∧w' = wr)
      case atStart=>exact⟨0,by omega,by omega,rfl,by rw[ag.out],rfl⟩
      case round=>
        obtain⟨j,hj,aq,rfl,rfl,rfl⟩:=hrel;by_cases ar:j<3
        · have ae:(j:Int)<3:=by omega
          have bj:wr.cell? ⟨w.heap.size,j,none⟩=some (.int .i64 (rd l (j:Nat))):=by
            have:=JU B1.out (j:Int) (by omega) (by omega);rw[ah.out,yny]at this;exact this
          have af:=(HL.out.2.2.2 j);obtain⟨ab,ad⟩:=af;have HN:=zA.mk (HD.out j);generalize Zl l 3 j=lv at HN ab ad ⊢;generalize rd l (j:Nat)=xj at bj HN;by_cases aa:xj<xi
          · have ai:decide (xj<xi)=true:=ygy aa
            go_wp2;go_roundg (3-(j+1))
            case measure=>omega
            case rel=>exact⟨j+1,by omega,by omega,by go_num,by rw[HN.out,if_pos aa],rfl⟩
          · have ai:decide (xj<xi)=false:=yhy aa
            go_wp2;go_roundg (3-(j+1))
            case measure=>omega
            case rel=>exact⟨j+1,by omega,by omega,by go_num,by rw[HN.out,if_neg (by omega)],rfl⟩
        · have ae : ¬ (j:Int)<3:=by omega
          obtain rfl:j=3:=by omega
          have af:=(HL.out.2.2.2 3);obtain⟨ab,ad⟩:=af;obtain⟨aj,hi2⟩:=HI.out;have HN:=zA.mk (show zAG l 4=zAG l 3+Zl l 3 3*1 from rfl);generalize Zl l 3 3=lv at HN ab ad ⊢;generalize zAG l 3=iv at HN aj hi2 ⊢;go_wp2;go_roundg (4-4)
          case measure=>omega
          case rel=>exact⟨4,by omega,by omega,by first|rfl|go_num,by rw[HN.out];rw[Int.mul_one],⟨by rw[HN.out];omega⟩,B1,B9,HB⟩
    · have b9:wr.cell? ⟨w.heap.size+1,2,none⟩=some (.int .i64 1):=(zK B9.out 2).trans rfl
      have b1:wr.cell? ⟨w.heap.size,2,none⟩=some (.int .i64 (rd l (2:Nat))):=(zK B1.out 2).trans (by rw[← ah.out];rfl);have hx:sm (rd l (2:Nat)):=by have:=HS.out;exact this.2.2.1
      have HD:=zA.mk (show ∀ j:Nat,Zl l 2 (j+1)=if rd l (j:Nat)<rd l (2:Nat)then Zl l 2 j-1 else Zl l 2 j from fun _=>rfl);have ag:=zA.mk (show rd l (2:Nat)=Zl l 2 0 from rfl);generalize rd l (2:Nat)=xi at b1 HD ag hx;go_wp2_with fail
      go_loopg [6,22] 2 (fun gg v6 v22 w' => ∃ j:Nat,j≤2∧2-j≤gg∧v22 = .int .i64 j∧v6 = .int .i64 (Zl l 2 j)∧w' = wr)
      case atStart=>exact⟨0,by omega,by omega,rfl,by rw[ag.out],rfl⟩
      case round=>
        obtain⟨j,hj,aq,rfl,rfl,rfl⟩:=hrel;by_cases ar:j<2
        · have ae:(j:Int)<2:=by omega
          have bj:wr.cell? ⟨w.heap.size,j,none⟩=some (.int .i64 (rd l (j:Nat))):=by
            have:=JU B1.out (j:Int) (by omega) (by omega);rw[ah.out,yny]at this;exact this
          have af:=(HL.out.2.2.1 j);obtain⟨ab,ad⟩:=af;have HN:=zA.mk (HD.out j);generalize Zl l 2 j=lv at HN ab ad ⊢;generalize rd l (j:Nat)=xj at bj HN;by_cases aa:xj<xi
          · have ai:decide (xj<xi)=true:=ygy aa
            go_wp2;go_roundg (2-(j+1))
            case measure=>omega
            case rel=>exact⟨j+1,by omega,by omega,by go_num,by rw[HN.out,if_pos aa],rfl⟩
          · have ai:decide (xj<xi)=false:=yhy aa
            go_wp2;go_roundg (2-(j+1))
            case measure=>omega
            case rel=>exact⟨j+1,by omega,by omega,by go_num,by rw[HN.out,if_neg (by omega)],rfl⟩
        · have ae : ¬ (j:Int)<2:=by omega
          obtain rfl:j=2:=by omega
          have af:=(HL.out.2.2.1 2);obtain⟨ab,ad⟩:=af;obtain⟨aj,hi2⟩:=HI.out;have HN:=zA.mk (show zAG l 3=zAG l 2+Zl l 2 2*1 from rfl);generalize Zl l 2 2=lv at HN ab ad ⊢;generalize zAG l 2=iv at HN aj hi2 ⊢;go_wp2;go_roundg (4-3)
          case measure=>omega
          case rel=>exact⟨3,by omega,by omega,by first|rfl|go_num,by rw[HN.out];rw[Int.mul_one],⟨by rw[HN.out];omega⟩,B1,B9,HB⟩
    · have b9:wr.cell? ⟨w.heap.size+1,1,none⟩=some (.int .i64 2):=(zK B9.out 1).trans rfl
      have b1:wr.cell? ⟨w.heap.size,1,none⟩=some (.int .i64 (rd l (1:Nat))):=(zK B1.out 1).trans (by rw[← ah.out];rfl);have hx:sm (rd l (1:Nat)):=by have:=HS.out;exact this.2.1
      have HD:=zA.mk (show ∀ j:Nat,Zl l 1 (j+1)=if rd l (j:Nat)<rd l (1:Nat)then Zl l 1 j-1 else Zl l 1 j from fun _=>rfl);have ag:=zA.mk (show rd l (1:Nat)=Zl l 1 0 from rfl);generalize rd l (1:Nat)=xi at b1 HD ag hx;go_wp2_with fail
      go_loopg [6,22] 1 (fun gg v6 v22 w' => ∃ j:Nat,j≤1∧1-j≤gg∧v22 = .int .i64 j∧v6 = .int .i64 (Zl l 1 j)∧w' = wr)
      case atStart=>exact⟨0,by omega,by omega,rfl,by rw[ag.out],rfl⟩
      case round=>
        obtain⟨j,hj,aq,rfl,rfl,rfl⟩:=hrel;by_cases ar:j<1
        · have ae:(j:Int)<1:=by omega
          have bj:wr.cell? ⟨w.heap.size,j,none⟩=some (.int .i64 (rd l (j:Nat))):=by
            have:=JU B1.out (j:Int) (by omega) (by omega);rw[ah.out,yny]at this;exact this
          have af:=(HL.out.2.1 j);obtain⟨ab,ad⟩:=af;have HN:=zA.mk (HD.out j);generalize Zl l 1 j=lv at HN ab ad ⊢;generalize rd l (j:Nat)=xj at bj HN;by_cases aa:xj<xi
          · have ai:decide (xj<xi)=true:=ygy aa
            go_wp2;go_roundg (1-(j+1))
            case measure=>omega
            case rel=>exact⟨j+1,by omega,by omega,by go_num,by rw[HN.out,if_pos aa],rfl⟩
          · have ai:decide (xj<xi)=false:=yhy aa
            go_wp2;go_roundg (1-(j+1))
            case measure=>omega
            case rel=>exact⟨j+1,by omega,by omega,by go_num,by rw[HN.out,if_neg (by omega)],rfl⟩
        · have ae : ¬ (j:Int)<1:=by omega
          obtain rfl:j=1:=by omega
          have af:=(HL.out.2.1 1);obtain⟨ab,ad⟩:=af;obtain⟨aj,hi2⟩:=HI.out;have HN:=zA.mk (show zAG l 2=zAG l 1+Zl l 1 1*2 from rfl);generalize Zl l 1 1=lv at HN ab ad ⊢;generalize zAG l 1=iv at HN aj hi2 ⊢;go_wp2;go_roundg (4-2)
          case measure=>omega
          case rel=>exact⟨2,by omega,by omega,by first|rfl|go_num,by rw[HN.out],⟨by rw[HN.out];omega⟩,B1,B9,HB⟩
    · have b9:wr.cell? ⟨w.heap.size+1,0,none⟩=some (.int .i64 6):=(zK B9.out 0).trans rfl
      have b1:wr.cell? ⟨w.heap.size,0,none⟩=some (.int .i64 (rd l (0:Nat))):=(zK B1.out 0).trans (by rw[← ah.out];rfl);have hx:sm (rd l (0:Nat)):=by have:=HS.out;exact this.1
      have HD:=zA.mk (show ∀ j:Nat,Zl l 0 (j+1)=if rd l (j:Nat)<rd l (0:Nat)then Zl l 0 j-1 else Zl l 0 j from fun _=>rfl);have ag:=zA.mk (show rd l (0:Nat)=Zl l 0 0 from rfl);generalize rd l (0:Nat)=xi at b1 HD ag hx;go_wp2_with fail
      go_loopg [6,22] 0 (fun gg v6 v22 w' => ∃ j:Nat,j≤0∧0-j≤gg∧v22 = .int .i64 j∧v6 = .int .i64 (Zl l 0 j)∧w' = wr)
      case atStart=>exact⟨0,by omega,by omega,rfl,by rw[ag.out],rfl⟩
      case round=>
        obtain⟨j,hj,aq,rfl,rfl,rfl⟩:=hrel;by_cases ar:j<0
        · have ae:(j:Int)<0:=by omega
          have bj:wr.cell? ⟨w.heap.size,j,none⟩=some (.int .i64 (rd l (j:Nat))):=by
            have:=JU B1.out (j:Int) (by omega) (by omega);rw[ah.out,yny]at this;exact this
          have af:=(HL.out.1 j);obtain⟨ab,ad⟩:=af;have HN:=zA.mk (HD.out j);generalize Zl l 0 j=lv at HN ab ad ⊢;generalize rd l (j:Nat)=xj at bj HN;by_cases aa:xj<xi
          · have ai:decide (xj<xi)=true:=ygy aa
            go_wp2;go_roundg (0-(j+1))
            case measure=>omega
            case rel=>exact⟨j+1,by omega,by omega,by go_num,by rw[HN.out,if_pos aa],rfl⟩
          · have ai:decide (xj<xi)=false:=yhy aa
            go_wp2;go_roundg (0-(j+1))
            case measure=>omega
            case rel=>exact⟨j+1,by omega,by omega,by go_num,by rw[HN.out,if_neg (by omega)],rfl⟩
        · have ae : ¬ (j:Int)<0:=by omega
          obtain rfl:j=0:=by omega
          have af:=(HL.out.1 0);obtain⟨ab,ad⟩:=af;obtain⟨aj,hi2⟩:=HI.out;have HN:=zA.mk (show zAG l 1=zAG l 0+Zl l 0 0*6 from rfl);generalize Zl l 0 0=lv at HN ab ad ⊢;generalize zAG l 0=iv at HN aj hi2 ⊢;go_wp2;go_roundg (4-1)
          case measure=>omega
          case rel=>exact⟨1,by omega,by omega,by first|rfl|go_num,by rw[HN.out],⟨by rw[HN.out];omega⟩,B1,B9,HB⟩
def Jz.f (a0:Int) (a1:Int):Option (Int):=if a0>a1 then(some (wrap64 ((wrap64 ((wrap64 ((wrap64 (Int.tdiv (wrap64 (a1*(wrap64 (7-a1)))) 2))+a0))-a1))-1)))else(some (wrap64 ((wrap64 ((wrap64 ((wrap64 (Int.tdiv (wrap64 (a0*(wrap64 (7-a0)))) 2))+a1))-a0))-1)))
theorem Jz.calls (a0:Int) (a1:Int) (r:Int) (w:World) (h:Jz.f a0 a1=some r) :
    Calls Try.prog 89 #[.int .i64 a0,.int .i64 a1] w fun e w'=>e = .returned (.int .i64 r)∧zp w w':=by
  have H:(if a0>a1 then(some (wrap64 ((wrap64 ((wrap64 ((wrap64 (Int.tdiv (wrap64 (a1*(wrap64 (7-a1)))) 2))+a0))-a1))-1)))else(some (wrap64 ((wrap64 ((wrap64 ((wrap64 (Int.tdiv (wrap64 (a0*(wrap64 (7-a0)))) 2))+a1))-a0))-1))))=some r:=h;clear h;by_cases c3:a0>a1
  · rw[if_pos c3]at H
    have aa:decide (a1<a0)=true:=ygy c3;clear c3;obtain rfl:=yey H;go_enter Try.func89,Try.ntmps89
    go_wp2;go_ret;exact⟨by first|rfl|(simp;done)|(simp [*];done),by repeat(first|exact zp.refl _|apply zp.step)⟩
  · rw[if_neg c3]at H
    have aa:decide (a1<a0)=false:=yhy c3;clear c3;obtain rfl:=yey H;go_enter Try.func89,Try.ntmps89
    go_wp2;go_ret;exact⟨by first|rfl|(simp;done)|(simp [*];done),by repeat(first|exact zp.refl _|apply zp.step)⟩
def Qo.f (a0:Int):Option (Int):=some (wrap64 (5-a0))
theorem Qo.calls (a0:Int) (r:Int) (w:World) (h:Qo.f a0=some r) :
    Calls Try.prog 90 #[.int .i64 a0] w fun e w'=>e = .returned (.int .i64 r)∧zp w w':=by
  have H:(some (wrap64 (5-a0)))=some r:=h;clear h;obtain rfl:=yey H;go_enter Try.func90,Try.ntmps90
  go_wp2;go_ret;exact⟨by first|rfl|(simp;done)|(simp [*];done),by repeat(first|exact zp.refl _|apply zp.step)⟩
def zAM.f (a0:Int) (a1:Int):Option (Int):=(Jz.f a0 a1).bind fun t101=>(if t101<3 then(some t101)else((Qo.f t101).bind fun t102=>(some t102)))
theorem zAM.calls (a0:Int) (a1:Int) (r:Int) (w:World) (h:zAM.f a0 a1=some r) :
    Calls Try.prog 74 #[.int .i64 a0,.int .i64 a1] w fun e w'=>e = .returned (.int .i64 r)∧zp w w':=by
  have H:((Jz.f a0 a1).bind fun t101=>(if t101<3 then(some t101)else((Qo.f t101).bind fun t102=>(some t102))))=some r:=h;clear h;replace H:=ydy.mp H;obtain⟨t101,ab,H⟩:=H;replace H:(if t101<3 then(some t101)else((Qo.f t101).bind fun t102=>(some t102)))=some r:=H;have A3:=zA.mk ab;clear ab;by_cases c4:t101<3
  · rw[if_pos c4]at H
    have aa:decide (t101<3)=true:=ygy c4;clear c4;obtain rfl:=yey H;go_enter Try.func74,Try.ntmps74
    go_wp2_with (first|((with_reducible refine zU (f:=89) rfl ?_);refine qD (some 8) rfl rfl Try.func89 (by kernel_rfl) rfl #[.int .i64 a0,.int .i64 a1] rfl (by(try simp only [yiy,yjy,yky]);first|done|rfl|(simp only [yly,ymy];rfl)) ?_;(with_reducible refine(Jz.calls a0 a1 t101 _ A3.out).mono ?_);rintro e w' ⟨rfl,⟨nd,rfl⟩⟩;refine⟨_,rfl,?_⟩))
    go_ret;exact⟨by first|rfl|(simp;done)|(simp [*];done),by repeat(first|exact zp.refl _|apply zp.step)⟩
  · rw[if_neg c4]at H
    have aa:decide (t101<3)=false:=yhy c4;clear c4;replace H:=ydy.mp H;obtain⟨t102,ad,H⟩:=H;replace H:(some t102)=some r:=H;have A5:=zA.mk ad;clear ad;obtain rfl:=yey H;go_enter Try.func74,Try.ntmps74
    go_wp2_with (first|((with_reducible refine zU (f:=89) rfl ?_);refine qD (some 8) rfl rfl Try.func89 (by kernel_rfl) rfl #[.int .i64 a0,.int .i64 a1] rfl (by(try simp only [yiy,yjy,yky]);first|done|rfl|(simp only [yly,ymy];rfl)) ?_;(with_reducible refine(Jz.calls a0 a1 t101 _ A3.out).mono ?_);rintro e w' ⟨rfl,⟨nd,rfl⟩⟩;refine⟨_,rfl,?_⟩)|((with_reducible refine zU (f:=90) rfl ?_);refine qD (some 13) rfl rfl Try.func90 (by kernel_rfl) rfl #[.int .i64 t101] rfl (by(try simp only [yiy,yjy,yky]);first|done|rfl|(simp only [yly,ymy];rfl)) ?_;(with_reducible refine(Qo.calls t101 t102 _ A5.out).mono ?_);rintro e w' ⟨rfl,⟨nd,rfl⟩⟩;refine⟨_,rfl,?_⟩))
    go_ret;exact⟨by first|rfl|(simp;done)|(simp [*];done),by repeat(first|exact zp.refl _|apply zp.step)⟩
def qd (a b:Int):Int:=if a=0 then b-1 else if b=0 then a-1 else 5-a-b
theorem zEi {a b:Int} (ha:sm a) (hb:sm b) (aa:a≠b):zAM.f a b=some (qd a b)∧0≤qd a b∧qd a b≤2:=by
  obtain⟨ab,ad⟩:=ha;obtain⟨ae,af⟩:=hb;rcases(show a=0∨a=1∨a=2∨a=3 by omega)with rfl|rfl|rfl|rfl <;> rcases(show b=0∨b=1∨b=2∨b=3 by omega)with rfl|rfl|rfl|rfl <;> first|exact absurd rfl aa|decide +kernel
theorem zE9 {p:Int} (h0:0≤p) (h1:p≤23) {a b:Int} (ha:sm a) (hb:sm b) (aa:a≠b):rd (ZN p) a≠rd (ZN p) b:=by
  obtain⟨ab,ad⟩:=ha;obtain⟨ae,af⟩:=hb;obtain⟨n,rfl⟩:=Int.eq_ofNat_of_zero_le h0;have key : ∀ m:Fin 24,zq (m.val:Int) 0≠zq (m.val:Int) 1∧zq (m.val:Int) 0≠zq (m.val:Int) 2∧zq (m.val:Int) 0≠zq (m.val:Int) 3∧zq (m.val:Int) 1≠zq (m.val:Int) 2∧zq (m.val:Int) 1≠zq (m.val:Int) 3∧zq (m.val:Int) 2≠zq (m.val:Int) 3:=by decide
  obtain⟨k1,k2,k3,k4,k5,k6⟩:=key ⟨n,by omega⟩;dsimp only at k1 k2 k3 k4 k5 k6;rcases(show a=0∨a=1∨a=2∨a=3 by omega)with rfl|rfl|rfl|rfl <;> rcases(show b=0∨b=1∨b=2∨b=3 by omega)with rfl|rfl|rfl|rfl <;> first|exact absurd rfl aa|assumption|exact Ne.symm (by assumption)
def zB7 (r:List Int) (i:Int):List Int:=r.set i.toNat (wrap64 (rd r i+1))
def zBS (r:List Int) (i:Int):List Int:=r.set i.toNat (wrap64 (rd r i-1))
theorem zEA (r:List Int) (i:Int):(zB7 r i).length=r.length:=List.length_set
theorem zEB (r:List Int) (i:Int):(zBS r i).length=r.length:=List.length_set
def zEY (cols:Nat) (j f b:Int) (p:List Int) (c:Int):List Int:=
  zBS (zBS (zB7 (zB7 (List.replicate cols 0) (7*j+c)) (7*j+4+qd c f)) (7*b+rd p c)) (7*b+4+qd (rd p c) (rd p f))
theorem zEj (cols:Nat) (j f b:Int) (p:List Int) (c:Int):(zEY cols j f b p c).length=cols:=by simp [zEY,zEA,zEB]
def JZ (cols:Nat) (j f b:Int) (p:List Int):List Int→List Int × Int→List Int × Int
  | [],s=>s
  | c :: cs,s=>JZ cols j f b p cs (s.1++zEY cols j f b p c,s.2+1)
theorem zC9 (cols:Nat) (j f b:Int) (p:List Int) : ∀ (L:List Int) (s:List Int × Int),(JZ cols j f b p L s).2.toNat≤s.2.toNat+L.length
  | [],s=>yry _
  | c :: cs,s=>by
    rw[JZ];have:=zC9 cols j f b p cs (s.1++zEY cols j f b p c,s.2+1);have h2:(s.2+1).toNat≤s.2.toNat+1:=by omega
    simp only [List.length_cons];dsimp only at this;omega
def zB8 (cols:Nat) (s:List Int × Int) (j f:Nat) (x:zz):List Int × Int:=
  if 4*x.f0+rd (ZN x.f1) (f:Int)<4*(j:Int)+(f:Int)then s else JZ cols j f x.f0 (ZN x.f1) (zCS [(f:Int)]) s
theorem zHN {f c:Int} (h:c∈zCS [f]):sm c∧c≠f:=by
  unfold zCS at h;obtain⟨h1,h2⟩:=List.mem_filter.1 h;refine⟨?_,fun e=>by simp [e]at h2⟩;simp only [List.mem_cons,List.not_mem_nil,or_false]at h1;unfold sm;omega
theorem zFJ (f:Int):(zCS [f]).length≤4:=by
  unfold zCS;exact List.length_filter_le _ _
theorem zFg {f:Int} (h:sm f):(zCS [f]).length=3:=by
  obtain⟨h0,h1⟩:=h;rcases(show f=0∨f=1∨f=2∨f=3 by omega)with rfl|rfl|rfl|rfl <;> decide
structure zDT (w0:World) (gm:Nat) (cols:Nat) (s:List Int × Int) (W:World):Prop where
  below:Below w0.heap.size w0 W
  ex : ∃ v,W.heap[gm]?=some (.cells #[.int .i64 s.2,.int .i64 (cols:Int),v] 77 (0,0))∧Kd.R (Kd.int .i64) 2 W w0.heap.size (fun _=>True) v s.1
  own:w0.heap.size≤gm
  len:s.1.length≤60*s.2.toNat∧0≤s.2
theorem zDT.stays {w0 W W1:World} {gm cols:Nat} {s:List Int × Int} (h:zDT w0 gm cols s W) (hb:Below W.heap.size W W1):zDT w0 gm cols s W1:=by
  obtain⟨v,h1,h2⟩:=h.ex;exact⟨zM h.below hb,⟨v,zN h1 hb,Kd.qV h2 hb⟩,h.own,h.len⟩
structure MmL (w0:World) (gm gF gI gO cO gR:Nat) (cols:Nat) (f0 f1 x0 x1 x2 x3:Int) (L s1:List Int) (s2:Int) (vc va:Value) (W:World):Prop where
  below:Below w0.heap.size w0 W
  bM:W.heap[gm]?=some (.cells #[.int .i64 s2,.int .i64 (cols:Int),vc] 77 (0,0))
  bF:W.heap[gF]?=some (.cells #[.int .i64 f0,.int .i64 f1] 64 (0,0))
  bI:W.heap[gI]?=some (.cells #[.int .i64 x0,.int .i64 x1,.int .i64 x2,.int .i64 x3] 81 (0,0))
  rL:Kd.R (Kd.int .i64) 2 W w0.heap.size (fun k=>k=gO) (.slice (some ⟨gO,0,none⟩) L.length cO) L
  rE:Kd.R (Kd.int .i64) 2 W w0.heap.size (fun k=>k≠gO∧k≠gR) va s1
  own:w0.heap.size≤gm
section
variable {w0 W W1 : World} {gm gF gI gO cO gR g cols : Nat} {f0 f1 x0 x1 x2 x3 : Int} {L s1 s1' r : List Int} {s2 : Int} {vc va v1 : Value}
theorem MmL.stays (h:MmL w0 gm gF gI gO cO gR cols f0 f1 x0 x1 x2 x3 L s1 s2 vc va W) (hb:Below W.heap.size W W1):MmL w0 gm gF gI gO cO gR cols f0 f1 x0 x1 x2 x3 L s1 s2 vc va W1:=
  ⟨zM h.below hb,zN h.bM hb,zN h.bF hb,zN h.bI hb,Kd.qV h.rL hb,Kd.qV h.rE hb,h.own⟩
theorem MmL.again (h:MmL w0 gm gF gI gO cO gR cols f0 f1 x0 x1 x2 x3 L s1 s2 vc va W):MmL w0 gm gF gI gO cO gO cols f0 f1 x0 x1 x2 x3 L s1 s2 vc va W:=
  ⟨h.below,h.bM,h.bF,h.bI,h.rL,Kd.zk h.rE (fun _ hk=>⟨hk.1,hk.1⟩),h.own⟩
theorem MmL.newrow (h:MmL w0 gm gF gI gO cO gO cols f0 f1 x0 x1 x2 x3 L s1 s2 vc va W) (hb:Below W.heap.size W W1) (hg:W.heap.size≤g):MmL w0 gm gF gI gO cO g cols f0 f1 x0 x1 x2 x3 L s1 s2 vc va W1:=
  ⟨zM h.below hb,zN h.bM hb,zN h.bF hb,zN h.bI hb,Kd.qV h.rL hb,Kd.qV (Kd.zk (Kd.Qc h.rE) (fun k hk=>⟨hk.1.1,by have:=hk.2.2.1;omega⟩)) hb,h.own⟩
theorem MmL.put (h:MmL w0 gm gF gI gO cO gR cols f0 f1 x0 x1 x2 x3 L s1 s2 vc va W) {cR n:Nat} {ok:Nat→Prop} {b:Nat} (hr:Kd.R (Kd.int .i64) 2 W b ok (.slice (some ⟨gR,0,none⟩) n cR) r) (aa:gR≠gO) (hg:w0.heap.size≤gR) (i:Nat) (u:Value):MmL w0 gm gF gI gO cO gR cols f0 f1 x0 x1 x2 x3 L s1 s2 vc va (W.setCell ⟨gR,i,none⟩ u):=by
  obtain⟨cells,hc⟩:=Kd.zDD hr gR (by simp [Value.ownBlock]);exact⟨zE h.below hg,qM (p:=⟨gR,i,none⟩) h.bM (zAw h.bM hc (by decide)) _,qM (p:=⟨gR,i,none⟩) h.bF (zAw h.bF hc (by decide)) _,qM (p:=⟨gR,i,none⟩) h.bI (zAw h.bI hc (by decide)) _,Kd.Zf (p:=⟨gR,i,none⟩) h.rL (fun k hk=>by rw[hk];exact fun e=>aa e.symm) _,Kd.Zf (p:=⟨gR,i,none⟩) h.rE (fun k hk=>hk.2) _,h.own⟩
theorem MmL.grown (h:MmL w0 gm gF gI gO cO gR cols f0 f1 x0 x1 x2 x3 L s1 s2 vc va W) (ho:Kd.R (Kd.int .i64) 2 W1 w0.heap.size (fun k=>k≠gO∧k≠gR) v1 s1') (hb:Below w0.heap.size w0 W1) (hg:W.grownBy W1 va.ownBlock):MmL w0 gm gF gI gO cO gR cols f0 f1 x0 x1 x2 x3 L s1' s2 vc v1 W1:=by
  have aa : ∀ (g:Nat) (T:TypeId) (c:Array Value),T≠2→W.heap[g]?=some (.cells c T (0,0))→some g≠va.ownBlock:=fun g T c hT hc e=>by
    obtain⟨cells,ab⟩:=Kd.zDD h.rE g e.symm;exact zAw hc ab hT rfl
  exact⟨hb,qh h.bM hg (aa _ _ _ (by decide) h.bM),qh h.bF hg (aa _ _ _ (by decide) h.bF),qh h.bI hg (aa _ _ _ (by decide) h.bI),Kd.zGA h.rL hg (fun k hk e=>(h.rE.1 k e.symm).1 hk),ho,h.own⟩
theorem MmL.ents (h:MmL w0 gm gF gI gO cO gR cols f0 f1 x0 x1 x2 x3 L s1 s2 vc va W):MmL w0 gm gF gI gO cO gR cols f0 f1 x0 x1 x2 x3 L s1 s2 va va (W.setCell ⟨gm,2,none⟩ va):=
  ⟨zE h.below h.own,qc h.bM 2 _ rfl,qM (p:=⟨gm,2,none⟩) h.bF (zAw h.bF h.bM (by decide)) _,qM (p:=⟨gm,2,none⟩) h.bI (zAw h.bI h.bM (by decide)) _,Kd.zk (Kd.zEa h.rL h.bM (by decide) 2 _) (fun _ hk=>hk),Kd.zk (Kd.zEa h.rE h.bM (by decide) 2 _) (fun _ hk=>hk),h.own⟩
theorem MmL.rows (h:MmL w0 gm gF gI gO cO gR cols f0 f1 x0 x1 x2 x3 L s1 s2 vc va W) (n:Int):MmL w0 gm gF gI gO cO gR cols f0 f1 x0 x1 x2 x3 L s1 n vc va (W.setCell ⟨gm,0,none⟩ (.int .i64 n)):=
  ⟨zE h.below h.own,qc h.bM 0 _ rfl,qM (p:=⟨gm,0,none⟩) h.bF (zAw h.bF h.bM (by decide)) _,qM (p:=⟨gm,0,none⟩) h.bI (zAw h.bI h.bM (by decide)) _,Kd.zk (Kd.zEa h.rL h.bM (by decide) 0 _) (fun _ hk=>hk),Kd.zk (Kd.zEa h.rE h.bM (by decide) 0 _) (fun _ hk=>hk),h.own⟩
end
theorem zB9 (p:Int) (h0:0≤p) (h1:p≤23):sm (zq p 0)∧sm (zq p 1)∧sm (zq p 2)∧sm (zq p 3):=by
  obtain⟨n,rfl⟩:=Int.eq_ofNat_of_zero_le h0;have hn:n<24:=by omega
  have key : ∀ m:Fin 24,(0≤zq (m.val:Int) 0∧zq (m.val:Int) 0≤3)∧(0≤zq (m.val:Int) 1∧zq (m.val:Int) 1≤3)∧(0≤zq (m.val:Int) 2∧zq (m.val:Int) 2≤3)∧(0≤zq (m.val:Int) 3∧zq (m.val:Int) 3≤3):=by decide
  exact key ⟨n,hn⟩
def Jk (l:List Int):Nat→List Int
  | 0 => [0,0,0,0]
  | i+1=>(Jk l i).set (rd l i).toNat i
theorem zCm (l:List Int) : ∀ i,i≤4 → ∀ x∈Jk l i,sm x
  | 0,_,x,hx=>by
    have:x=0:=by simp [Jk]at hx;exact hx
    subst this;exact⟨by omega,by omega⟩
  | i+1,hi,x,hx=>by
    rw[Jk]at hx;rcases List.mem_or_eq_of_mem_set hx with h|rfl
    (exact zCm l i (by omega) x h);(exact⟨by omega,by omega⟩)
def zFh (p:Int):Int:=idxL (Jk (ZN p) 4)
theorem zBT {a b c d:Int} (ha:sm a) (hb:sm b) (hc:sm c) (hd:sm d) (f:Int) (h0:0≤f) (h1:f≤3):sm (rd [a,b,c,d] f):=by
  rcases(show f=0∨f=1∨f=2∨f=3 by omega)with rfl|rfl|rfl|rfl <;> assumption
section
variable {W : World} {b g n cap e : Nat} {ok : Nat → Prop} {r : List Int} {i y : Int}
theorem zGU (h:Kd.R (Kd.int .i64) e W b ok (.slice (some ⟨g,0,none⟩) n cap) r) (hy:rd r i=y):Kd.R (Kd.int .i64) e (W.setCell ⟨g,i.toNat,none⟩ (.int .i64 (wrap64 (y+1)))) b ok (.slice (some ⟨g,0,none⟩) n cap) (zB7 r i):=by subst hy;exact(Kd.JE h i _).1
theorem zGV (h:Kd.R (Kd.int .i64) e W b ok (.slice (some ⟨g,0,none⟩) n cap) r) (hy:rd r i=y):Kd.R (Kd.int .i64) e (W.setCell ⟨g,i.toNat,none⟩ (.int .i64 (wrap64 (y-1)))) b ok (.slice (some ⟨g,0,none⟩) n cap) (zBS r i):=by subst hy;exact(Kd.JE h i _).1
theorem zHp (h:Kd.R (Kd.int .i64) e W b ok (.slice (some ⟨g,0,none⟩) n cap) r) (h0:0≤i) (h1:i<n) (hy:rd r i=y):W.cell? ⟨g,i.toNat,none⟩=some (.int .i64 y)∧W.frozen? ⟨g,i.toNat,none⟩=false:=by subst hy;exact Kd.ZZ 0 h i h0 h1
end
theorem wid {x:Int} (h0 : -9223372036854775808≤x) (h1:x≤9223372036854775807):wrap64 x=x:=by unfold wrap64;omega
theorem zA0 {w:World} {g:Nat} {T:TypeId} {a b c d e f:Int} (h:w.heap[g]?=some (.cells #[.int .i64 a,.int .i64 b,.int .i64 c,.int .i64 d] T (0,0))) (h0:0≤f) (h1:f≤3) (he:rd [a,b,c,d] f=e):w.cell? ⟨g,f.toNat,none⟩=some (.int .i64 e):=by
 rw[JU h f h0 h1,he]
theorem zAN.calls (w0 w:World) (gm cols:Nat) (s:List Int × Int) (j f:Nat) (f0 f1:Int) (hI:zDT w0 gm cols s w) (hn:s.2.toNat≤1000) (hj:7*(j:Int)+7≤(cols:Int)) (hf:(f:Int)≤3) (ca:0≤f0) (cb:7*f0+7≤(cols:Int)) (bl:0≤f1) (bm:f1≤23) (bn:cols≤56) :
 Calls Try.prog 73 #[.int .i64 (j:Int),.int .i64 (f:Int),.agg #[.int .i64 f0,.int .i64 f1],.agg #[.int .i64 (zq f1 0),.int .i64 (zq f1 1),.int .i64 (zq f1 2),.int .i64 (zq f1 3)],.pointer (some ⟨gm,0,none⟩)] w fun e w'=>e = .returned (.tuple #[])∧zDT w0 gm cols (zB8 cols s j f ⟨f0,f1⟩) w':=by
 obtain⟨y0,y1,y2,y3⟩:=zB9 f1 bl bm;have ak : ∀ a b:Int,sm a→sm b→a≠b→rd (ZN f1) a≠rd (ZN f1) b:=fun a b ha hb bS=>zE9 bl bm ha hb bS
 have ae:zB8 cols s j f ⟨f0,f1⟩=if 4*f0+rd (ZN f1) (f:Int)<4*(j:Int)+(f:Int)then s else JZ cols j f f0 (ZN f1) (zCS [(f:Int)]) s:=rfl
 have aU:ZN f1 = [zq f1 0,zq f1 1,zq f1 2,zq f1 3]:=rfl;rw[aU]at ae ak;have bT:=zA.mk aU;generalize zq f1 0=x0 at *;generalize zq f1 1=x1 at *;generalize zq f1 2=x2 at *;generalize zq f1 3=x3 at *;clear bT aU;have HP:zA (∀ c,sm c→sm (rd [x0,x1,x2,x3] c)):=⟨fun c hc=>zBT y0 y1 y2 y3 c hc.1 hc.2⟩;have HJ:=zA.mk ak;have HF:=zA.mk (show sm (f:Int)from⟨by omega,hf⟩);have bo:=HP.out _ HF.out;have ar:=zA.mk ae;generalize zB8 cols s j f ⟨f0,f1⟩=R at ar ⊢;generalize ay:rd [x0,x1,x2,x3] (f:Int)=xf at bo ar;have az:=zA.mk ay;obtain⟨aV,aW⟩:=bo;have HI:=zA.mk hI;have HN:=zA.mk hn;clear hI hn ay ae ak y0 y1 y2 y3;have aX:(0:Int)≤(f:Int):=by omega
 have cc:(f:Int)<4:=by omega
 have ht:=Try.underlying81;go_enter Try.func73,Try.ntmps73
 go_wp2;have BF:=zA.mk (zG (Qf (W:=w) rfl (.cells #[.int .i64 f0,.int .i64 f1] 64)) (.cells #[.int .i64 x0,.int .i64 x1,.int .i64 x2,.int .i64 x3] 81));have BI:=zA.mk (Qf (W:=w.alloc (.cells #[.int .i64 f0,.int .i64 f1] 64)) (n:=w.heap.size+1) (by simp) (.cells #[.int .i64 x0,.int .i64 x1,.int .i64 x2,.int .i64 x3] 81));have HB:=zA.mk (zC (zC (ysy w.heap.size w) (.cells #[.int .i64 f0,.int .i64 f1] 64)) (.cells #[.int .i64 x0,.int .i64 x1,.int .i64 x2,.int .i64 x3] 81));generalize cd:w.heap.size+1=gI at *;generalize bp:w.heap.size=gF at *;have bU:gF<gI:=by omega
 generalize World.alloc (World.alloc w _) _=wB at *;have q0:wB.cell? ⟨gF,0,none⟩=some (.int .i64 f0):=(zK BF.out 0).trans rfl;have q1:wB.cell? ⟨gI,f,none⟩=some (.int .i64 xf):=by have q:=zA0 BI.out aX hf az.out;rwa [yny]at q
 by_cases aH:4*f0+xf<4*(j:Int)+(f:Int)
 next=>
  have HS:=zA.mk (ar.out.trans (if_pos aH));clear ar;refine QK (n:=12) (S:=fun w'=>w'.cell? ⟨gF,0,none⟩=some (.int .i64 f0)∧w'.cell? ⟨gI,f,none⟩=some (.int .i64 xf)) (ds := []) #[false,false,false,false,false,false,false,false,false,false,false,false] (by kernel_rfl) rfl rfl ⟨q0,q1⟩ (fun aa=>?_);refine zf (i:=0) (N:=some 12) (v:=?_) (a':=?_) #[true,false,false,false,false,false,false,false,false,false,false,false] rfl rfl (by kernel_rfl) (fun _ _ _ h=>h) (Or.inl ⟨by rfl,?_⟩) ?_ ?_;rotate_left;(focus intro w';go_simp;with_reducible rfl);rotate_left;(simp only [Act.put,yay,yby,ycy,zY,za];rfl);refine zf (i:=1) (N:=some 13) (v:=?_) (a':=?_) #[true,true,false,false,false,false,false,false,false,false,false,false] rfl rfl (by kernel_rfl) (fun _ _ _ h=>h) (Or.inl ⟨by rfl,?_⟩) ?_ ?_;rotate_left;(focus intro w';go_simp;with_reducible rfl);rotate_left;(simp only [Act.put,yay,yby,ycy,zY,za];rfl);refine zf (i:=2) (N:=some 14) (v:=?_) (a':=?_) #[true,true,true,false,false,false,false,false,false,false,false,false] rfl rfl (by kernel_rfl) (fun _ _ _ h=>h) (Or.inl ⟨by rfl,?_⟩) ?_ ?_;rotate_left;(focus intro w';go_simp;with_reducible rfl);rotate_left;(simp only [Act.put,yay,yby,ycy,zY,za];rfl);refine zf (i:=3) (N:=some 15) (v:=?_) (a':=?_) #[true,true,true,true,false,false,false,false,false,false,false,false] rfl rfl (by kernel_rfl) (fun _ _ _ h=>h) (Or.inl ⟨by rfl,?_⟩) ?_ ?_;rotate_left;(focus intro w';go_simp;with_reducible rfl);rotate_left;(simp only [Act.put,yay,yby,ycy,zY,za];rfl);refine zf (i:=4) (N:=some 16) (v:=?_) (a':=?_) #[true,true,true,true,true,false,false,false,false,false,false,false] rfl rfl (by kernel_rfl) (fun _ _ _ h=>h) (Or.inl ⟨by rfl,?_⟩) ?_ ?_;rotate_left;(focus intro w';go_simp;with_reducible rfl);rotate_left;(simp only [Act.put,yay,yby,ycy,zY,za];rfl);refine ZY (i:=5) (N:=some 17) (v:=?_) (a':=?_) #[true,true,true,true,true,true,false,false,false,false,false,false] rfl rfl (by kernel_rfl) (fun _ _ _ h=>h) (Or.inl ⟨by rfl,?_⟩) aa ?_ ?_;rotate_left;(focus rintro w' ⟨s0,s1⟩;go_simp;with_reducible rfl);rotate_left;(simp only [Act.put,yay,yby,ycy,zY,za];rfl);refine zf (i:=6) (N:=some 18) (v:=?_) (a':=?_) #[true,true,true,true,true,true,true,false,false,false,false,false] rfl rfl (by kernel_rfl) (fun _ _ _ h=>h) (Or.inl ⟨by rfl,?_⟩) ?_ ?_
  rotate_left;(focus intro w';go_simp;with_reducible rfl);rotate_left;(simp only [Act.put,yay,yby,ycy,zY,za];rfl);refine zf (i:=7) (N:=some 19) (v:=?_) (a':=?_) #[true,true,true,true,true,true,true,true,false,false,false,false] rfl rfl (by kernel_rfl) (fun _ _ _ h=>h) (Or.inl ⟨by rfl,?_⟩) ?_ ?_;rotate_left;(focus intro w';go_simp;with_reducible rfl);rotate_left;(simp only [Act.put,yay,yby,ycy,zY,za];rfl);refine zf (i:=8) (N:=some 20) (v:=?_) (a':=?_) #[true,true,true,true,true,true,true,true,true,false,false,false] rfl rfl (by kernel_rfl) (fun _ _ _ h=>h) (Or.inl ⟨by rfl,?_⟩) ?_ ?_;rotate_left;(focus intro w';go_simp;with_reducible rfl);rotate_left;(simp only [Act.put,yay,yby,ycy,zY,za];rfl);refine ZY (i:=9) (N:=some 21) (v:=?_) (a':=?_) #[true,true,true,true,true,true,true,true,true,true,false,false] rfl rfl (by kernel_rfl) (fun _ _ _ h=>h) (Or.inl ⟨by rfl,?_⟩) aa ?_ ?_;rotate_left;(focus rintro w' ⟨s0,s1⟩;go_simp;with_reducible rfl);rotate_left;(simp only [Act.put,yay,yby,ycy,zY,za];rfl);refine zf (i:=10) (N:=some 22) (v:=?_) (a':=?_) #[true,true,true,true,true,true,true,true,true,true,true,false] rfl rfl (by kernel_rfl) (fun _ _ _ h=>h) (Or.inl ⟨by rfl,?_⟩) ?_ ?_;rotate_left;(focus intro w';go_simp;with_reducible rfl);rotate_left;(simp only [Act.put,yay,yby,ycy,zY,za];rfl);refine zf (i:=11) (N:=some 23) (v:=?_) (a':=?_) #[true,true,true,true,true,true,true,true,true,true,true,true] rfl rfl (by kernel_rfl) (fun _ _ _ h=>h) (Or.inl ⟨by rfl,?_⟩) ?_ ?_;rotate_left;(focus intro w';go_simp;with_reducible rfl);rotate_left;(simp only [Act.put,yay,yby,ycy,zY,za];rfl);refine JG (by kernel_rfl) ?_;have aA:=zA.mk (zD HB.out);clear HB aa q0 q1;generalize wB.drew=wd at *;have d0:decide (wrap64 (wrap64 (4*f0)+xf)<wrap64 (wrap64 (4*(j:Int))+(f:Int)))=true:=by rw[wid (show -9223372036854775808≤4*f0 by omega) (by omega),wid (show -9223372036854775808≤4*(j:Int)by omega) (by omega),wid (by omega) (by omega),wid (by omega) (by omega)];exact ygy aH
  rw[d0];clear d0;go_wp2;first|go_end0|((try simp only [Exit.inBlock,Exit.then]);refine bodyPost_ret (results_none rfl _ _ _) rfl ?_)
  refine⟨?_,?_⟩
  next=>
   first|rfl|(simp <;> rfl)
  rw[HS.out];exact HI.out.stays (by rw[bp];exact aA.out)
 have HS:=zA.mk (ar.out.trans (if_neg aH));clear ar;refine QK (n:=12) (S:=fun w'=>w'.cell? ⟨gF,0,none⟩=some (.int .i64 f0)∧w'.cell? ⟨gI,f,none⟩=some (.int .i64 xf)) (ds := []) #[false,false,false,false,false,false,false,false,false,false,false,false] (by kernel_rfl) rfl rfl ⟨q0,q1⟩ (fun aa=>?_);refine zf (i:=0) (N:=some 12) (v:=?_) (a':=?_) #[true,false,false,false,false,false,false,false,false,false,false,false] rfl rfl (by kernel_rfl) (fun _ _ _ h=>h) (Or.inl ⟨by rfl,?_⟩) ?_ ?_;rotate_left;(focus intro w';go_simp;with_reducible rfl);rotate_left;(simp only [Act.put,yay,yby,ycy,zY,za];rfl);refine zf (i:=1) (N:=some 13) (v:=?_) (a':=?_) #[true,true,false,false,false,false,false,false,false,false,false,false] rfl rfl (by kernel_rfl) (fun _ _ _ h=>h) (Or.inl ⟨by rfl,?_⟩) ?_ ?_;rotate_left;(focus intro w';go_simp;with_reducible rfl);rotate_left;(simp only [Act.put,yay,yby,ycy,zY,za];rfl);refine zf (i:=2) (N:=some 14) (v:=?_) (a':=?_) #[true,true,true,false,false,false,false,false,false,false,false,false] rfl rfl (by kernel_rfl) (fun _ _ _ h=>h) (Or.inl ⟨by rfl,?_⟩) ?_ ?_;rotate_left;(focus intro w';go_simp;with_reducible rfl);rotate_left;(simp only [Act.put,yay,yby,ycy,zY,za];rfl);refine zf (i:=3) (N:=some 15) (v:=?_) (a':=?_) #[true,true,true,true,false,false,false,false,false,false,false,false] rfl rfl (by kernel_rfl) (fun _ _ _ h=>h) (Or.inl ⟨by rfl,?_⟩) ?_ ?_;rotate_left;(focus intro w';go_simp;with_reducible rfl);rotate_left;(simp only [Act.put,yay,yby,ycy,zY,za];rfl);refine zf (i:=4) (N:=some 16) (v:=?_) (a':=?_) #[true,true,true,true,true,false,false,false,false,false,false,false] rfl rfl (by kernel_rfl) (fun _ _ _ h=>h) (Or.inl ⟨by rfl,?_⟩) ?_ ?_;rotate_left;(focus intro w';go_simp;with_reducible rfl);rotate_left;(simp only [Act.put,yay,yby,ycy,zY,za];rfl);refine ZY (i:=5) (N:=some 17) (v:=?_) (a':=?_) #[true,true,true,true,true,true,false,false,false,false,false,false] rfl rfl (by kernel_rfl) (fun _ _ _ h=>h) (Or.inl ⟨by rfl,?_⟩) aa ?_ ?_;rotate_left;(focus rintro w' ⟨s0,s1⟩;go_simp;with_reducible rfl);rotate_left;(simp only [Act.put,yay,yby,ycy,zY,za];rfl);refine zf (i:=6) (N:=some 18) (v:=?_) (a':=?_) #[true,true,true,true,true,true,true,false,false,false,false,false] rfl rfl (by kernel_rfl) (fun _ _ _ h=>h) (Or.inl ⟨by rfl,?_⟩) ?_ ?_
 rotate_left;(focus intro w';go_simp;with_reducible rfl);rotate_left;(simp only [Act.put,yay,yby,ycy,zY,za];rfl);refine zf (i:=7) (N:=some 19) (v:=?_) (a':=?_) #[true,true,true,true,true,true,true,true,false,false,false,false] rfl rfl (by kernel_rfl) (fun _ _ _ h=>h) (Or.inl ⟨by rfl,?_⟩) ?_ ?_;rotate_left;(focus intro w';go_simp;with_reducible rfl);rotate_left;(simp only [Act.put,yay,yby,ycy,zY,za];rfl);refine zf (i:=8) (N:=some 20) (v:=?_) (a':=?_) #[true,true,true,true,true,true,true,true,true,false,false,false] rfl rfl (by kernel_rfl) (fun _ _ _ h=>h) (Or.inl ⟨by rfl,?_⟩) ?_ ?_;rotate_left;(focus intro w';go_simp;with_reducible rfl);rotate_left;(simp only [Act.put,yay,yby,ycy,zY,za];rfl);refine ZY (i:=9) (N:=some 21) (v:=?_) (a':=?_) #[true,true,true,true,true,true,true,true,true,true,false,false] rfl rfl (by kernel_rfl) (fun _ _ _ h=>h) (Or.inl ⟨by rfl,?_⟩) aa ?_ ?_;rotate_left;(focus rintro w' ⟨s0,s1⟩;go_simp;with_reducible rfl);rotate_left;(simp only [Act.put,yay,yby,ycy,zY,za];rfl);refine zf (i:=10) (N:=some 22) (v:=?_) (a':=?_) #[true,true,true,true,true,true,true,true,true,true,true,false] rfl rfl (by kernel_rfl) (fun _ _ _ h=>h) (Or.inl ⟨by rfl,?_⟩) ?_ ?_;rotate_left;(focus intro w';go_simp;with_reducible rfl);rotate_left;(simp only [Act.put,yay,yby,ycy,zY,za];rfl);refine zf (i:=11) (N:=some 23) (v:=?_) (a':=?_) #[true,true,true,true,true,true,true,true,true,true,true,true] rfl rfl (by kernel_rfl) (fun _ _ _ h=>h) (Or.inl ⟨by rfl,?_⟩) ?_ ?_;rotate_left;(focus intro w';go_simp;with_reducible rfl);rotate_left;(simp only [Act.put,yay,yby,ycy,zY,za];rfl);refine JG (by kernel_rfl) ?_;have aA:=zA.mk (zD HB.out);have bq:=zA.mk (zI BF.out);have br:=zA.mk (zI BI.out);clear HB aa q0 q1 BF BI;generalize wB.drew=wd at *;have d0:decide (wrap64 (wrap64 (4*f0)+xf)<wrap64 (wrap64 (4*(j:Int))+(f:Int)))=false:=by rw[wid (show -9223372036854775808≤4*f0 by omega) (by omega),wid (show -9223372036854775808≤4*(j:Int)by omega) (by omega),wid (by omega) (by omega),wid (by omega) (by omega)];exact yhy aH
 rw[d0];clear d0;have bs:zA (Kd.C (Kd.int .i64) (wd.alloc (.cells #[.int .i64 (f:Int)] 2)) (some ⟨wd.heap.size,0,none⟩) 1 [(f:Int)]):=⟨(Kd.zn (show Kd.R (Kd.int .i64) 2 (wd.alloc (.cells #[.int .i64 (f:Int)] 2)) wd.heap.size (fun _=>True) (.slice (some ⟨wd.heap.size,0,none⟩) 1 1) [(f:Int)]from
  Kd.zAy ⟨by simp [zBN],.inr ⟨wd.heap.size,1,#[.int .i64 (f:Int)],rfl,yry _,Qf rfl _,yry 1,by decide,rfl,rfl⟩⟩ (fun _ _=>trivial))).2.2⟩
 have aC:=zA.mk (zFg HF.out);have bt:=zA.mk (show ∀ c∈zCS [(f:Int)],sm c∧c≠(f:Int)from fun c hc=>zHN hc);generalize bu:zCS [(f:Int)]=L at HS aC bt;have bw:=zA.mk (show JN.f [(f:Int)]=some L by rw[← bu];rfl);clear bu;go_wp2_with (first|(go_at_call 53;refine(JN.calls (some ⟨wd.heap.size,0,none⟩) 1 [(f:Int)] L _ bs.out (yry 1) bw.out).mono ?_;rintro e w2 ⟨v0,rfl,ho,hb⟩;obtain⟨gO,cO,rfl,bx,bz,_⟩:=Kd.JV ho (by rw[aC.out];decide);have HO:=zA.mk ho;have aI:=zA.mk hb;have HG:=zA.mk (And.intro bx bz);clear ho hb bx bz bs))
 obtain⟨v,hM,hE⟩:=HI.out.ex;have bV:=HI.out.below.size;have bW:=aA.out.size;have bX:(wd.alloc (.cells #[.int .i64 (f:Int)] 2)).heap.size=wd.heap.size+1:=by simp
 have bY:=HG.out.1;have aJ:=zA.mk (zM (zC (show Below w.heap.size w wd by rw[bp];exact aA.out) (.cells #[.int .i64 (f:Int)] 2)) aI.out);have HM:=zA.mk (show MmL w0 gm gF gI gO cO gO cols f0 f1 x0 x1 x2 x3 L s.1 s.2 v v w2 from
  ⟨zM HI.out.below aJ.out,zN hM aJ.out,zN (zG bq.out _) aI.out,zN (zG br.out _) aI.out,
   Kd.zk (Kd.QX rfl (Kd.ZG HO.out (by omega))) (fun k_ aY=>by simpa [Value.ownBlock]using aY),
   Kd.qV (Kd.zk (Kd.Qc hE) (fun k hk=>by have:=hk.2.2.1;constructor <;> omega)) aJ.out,HI.out.own⟩)
 have bZ:=zA.mk (show w0.heap.size≤gO∧gO<w2.heap.size from⟨by omega,HG.out.2⟩);have ad:=zA.mk HI.out.len;have al:zA (JZ cols j f f0 [x0,x1,x2,x3] (L.drop 0) (s.1,s.2)=R):=⟨by rw[List.drop_zero];exact HS.out.symm⟩;have cf:=zA.mk (Kd.zGD (Kd.zn HO.out).2.2);clear hM hE bV bW bX bY aJ HO aI HG aA bq br HI bw HS;obtain⟨e1,e2⟩:=s;dsimp only at HM ad al HN;have cg:L.length≤3:=by have:=aC.out;omega
 go_loopg [28] L.length (fun gg v28 w' => ∃ (i:Nat) (s1:List Int) (s2:Int) (v:Value),i≤L.length∧L.length-i≤gg∧v28 = .int .i64 i∧zA (JZ cols j f f0 [x0,x1,x2,x3] (L.drop i) (s1,s2)=R)∧zA (MmL w0 gm gF gI gO cO gO cols f0 f1 x0 x1 x2 x3 L s1 s2 v v w')∧zA (s1.length≤60*s2.toNat∧0≤s2∧s2≤1000+i∧gO<w'.heap.size))
 case atStart=>exact⟨0,e1,e2,v,Nat.zero_le _,by omega,rfl,al,HM,⟨ad.out.1,ad.out.2,by have:=HN.out;have:=ad.out.2;omega,bZ.out.2⟩⟩
 case round=>
  clear HM al ad HN;obtain⟨i,s1,s2,vE,ch,cj,rfl,al,HM,ad⟩:=hrel;by_cases aZ:i<L.length
  case neg=>
   obtain rfl:i=L.length:=by omega
   have au:=al.out;rw[List.drop_length,JZ]at au;subst au;go_wp2;first|go_end0|((try simp only [Exit.inBlock,Exit.then]);refine bodyPost_ret (results_none rfl _ _ _) rfl ?_)
   refine⟨?_,⟨HM.out.below,⟨vE,HM.out.bM,Kd.zk HM.out.rE (fun _ _=>trivial)⟩,HM.out.own,⟨ad.out.1,ad.out.2.1⟩⟩⟩;first|rfl|(simp <;> rfl)
  have a1:(i:Int)<(L.length:Int):=by omega
  obtain⟨hc,_⟩:=Kd.ZZ 0 HM.out.rL (i:Int) (by omega) a1;replace hc:wr.cell? ⟨gO,i,none⟩=some (.int .i64 (rd L (i:Int))):=hc;have ex:rd L (i:Int)=L[i]:=by simp [rd,aZ]
  rw[ex]at hc;have HC:=zA.mk (bt.out L[i] (yoy aZ));have au:=al.out;rw[ypy aZ,JZ]at au;have a6:=zA.mk au;clear al au ex;generalize L[i]=c at hc HC a6;obtain⟨a7,a8⟩:=HC.out.1;have ck:c<4:=by omega
  obtain⟨k1,k2,k3⟩:=zEi HC.out.1 HF.out HC.out.2;have k4:=HP.out c HC.out.1;have k5:=HJ.out c (f:Int) HC.out.1 HF.out HC.out.2;rw[az.out]at k5;obtain⟨k6,k7,k8⟩:=zEi k4 (show sm xf from⟨aV,aW⟩) k5;have ab:zA (zEY cols (j:Int) (f:Int) f0 [x0,x1,x2,x3] c=zBS (zBS (zB7 (zB7 (List.replicate cols 0) (7*(j:Int)+c)) (7*(j:Int)+4+qd c (f:Int))) (7*f0+rd [x0,x1,x2,x3] c)) (7*f0+4+qd (rd [x0,x1,x2,x3] c) xf)):=⟨by unfold zEY;rw[az.out]⟩;have bA:=zA.mk k1;have a_:=zA.mk k6;clear k1 k6 k5;generalize qd c (f:Int)=q at bA ab k2 k3;have HD:zA (rd [x0,x1,x2,x3] c=rd [x0,x1,x2,x3] c∧True):=⟨rfl,trivial⟩;clear HD;generalize bB:rd [x0,x1,x2,x3] c=d at a_ ab k4 k7 k8;have HD:=zA.mk bB;clear bB;generalize qd d xf=q2 at a_ ab k7 k8;obtain⟨cl,cm⟩:=k4;generalize zEY cols (j:Int) (f:Int) f0 [x0,x1,x2,x3] c=rr at a6 ab;have b0:wr.cell? ⟨gm,1,none⟩=some (.int .i64 (cols:Int)):=(zK HM.out.bM 1).trans rfl;go_wp2_with (first
   | ((with_reducible refine zm (N:=34) rfl ?_);refine Kd.zBa (Kd.int .i64) (w0:=wr) wr.heap.size 2 rfl (N:=34) rfl 25 _ _ rfl (cols:Int) rfl rfl Try.underlying25 (.int .i64 0) 8 JL rfl (by decide) (by omega) 0 (ok:=fun _=>True) (okp:=fun _=>True) rfl (fun _ hk=>hk) trivial (by omega) (by omega) (ysy _ _) (yry _) ?_;intro v1 w3 ho hb _ ba;obtain⟨gR,bC,bD⟩:=ba;obtain⟨cR,rfl⟩:=zHM ho bC;rw[yny]at ho ⊢;rw[List.length_replicate]at ho ⊢;have aD:=zA.mk (show Kd.R (Kd.int .i64) 2 w3 w0.heap.size (fun k=>k=gR) (.slice (some ⟨gR,0,none⟩) cols cR) (List.replicate cols 0)from Kd.zk (Kd.QX rfl (Kd.ZG ho HM.out.below.size)) (fun k_ aY=>by simpa [Value.ownBlock]using aY));have bE:=zA.mk (HM.out.newrow hb bD);have ai:=zA.mk (show gR≠gO∧w0.heap.size≤gR from⟨by have:=ad.out.2.2.2;omega,by have:=HM.out.below.size;omega⟩);clear ho hb bC bD b0 hc HM;generalize (List.replicate cols 0:List Int)=r0 at aD ab;generalize bG:rd r0 (7*(j:Int)+c)=y6;have bb:=zA.mk bG;clear bG;obtain⟨p6,z6⟩:=zHp aD.out (show(0:Int)≤7*(j:Int)+c by omega) (show 7*(j:Int)+c<(cols:Int)by omega) bb.out)
   | ((with_reducible refine ZH (t:=2) (p:=43) rfl ?_);refine qt (t:=2) (p:=43) (v:=?vo43) (w1:=(w3.setCell ⟨gR,(7*(j:Int)+c).toNat,none⟩ (.int .i64 (wrap64 (y6+1))))) ?hg ?ho ?hn ?hr ?_;(case ho=>rfl);(case hg=>rfl);(case hn=>rfl);(case hr=>first|(go_simp;done)|(go_simp;rfl));intro w4 hw;have bH:=zA.mk (show MmL w0 gm gF gI gO cO gR cols f0 f1 x0 x1 x2 x3 L s1 s2 vE vE w4 by rw[hw];exact bE.out.put aD.out ai.out.1 ai.out.2 _ _);have bc:=zA.mk (show Kd.R (Kd.int .i64) 2 w4 w0.heap.size (fun k=>k=gR) (.slice (some ⟨gR,0,none⟩) cols cR) (zB7 r0 (7*(j:Int)+c))by rw[hw];exact zGU aD.out bb.out);clear bE aD bb hw p6 z6;generalize zB7 r0 (7*(j:Int)+c)=r1 at bc ab)
   | (go_at_call 74;(with_reducible refine(zAM.calls c (f:Int) q _ bA.out).mono ?_);rintro e w5 ⟨rfl,hd⟩;have bd:=zp.below hd;have bJ:=zA.mk (bH.out.stays bd);have aK:=zA.mk (Kd.qV bc.out bd);clear hd bd bH bc;generalize bK:rd r1 (7*(j:Int)+4+q)=y7;have bf:=zA.mk bK;clear bK;obtain⟨p7,z7⟩:=zHp aK.out (show(0:Int)≤7*(j:Int)+4+q by omega) (show 7*(j:Int)+4+q<(cols:Int)by omega) bf.out)
   | ((with_reducible refine ZH (t:=2) (p:=55) rfl ?_);refine qt (t:=2) (p:=55) (v:=?vo55) (w1:=(w5.setCell ⟨gR,(7*(j:Int)+4+q).toNat,none⟩ (.int .i64 (wrap64 (y7+1))))) ?hg ?ho ?hn ?hr ?_;(case ho=>rfl);(case hg=>rfl);(case hn=>rfl);(case hr=>first|(go_simp;done)|(go_simp;rfl));intro w6 hw;have aM:=zA.mk (show MmL w0 gm gF gI gO cO gR cols f0 f1 x0 x1 x2 x3 L s1 s2 vE vE w6 by rw[hw];exact bJ.out.put aK.out ai.out.1 ai.out.2 _ _);have aN:=zA.mk (show Kd.R (Kd.int .i64) 2 w6 w0.heap.size (fun k=>k=gR) (.slice (some ⟨gR,0,none⟩) cols cR) (zB7 r1 (7*(j:Int)+4+q))by rw[hw];exact zGU aK.out bf.out);clear bJ aK bf hw p7 z7;generalize zB7 r1 (7*(j:Int)+4+q)=r2 at aN ab))
  have av:=zA.mk (show wrap64 (wrap64 (7*f0)+d)=7*f0+d by rw[wid (show -9223372036854775808≤7*f0 by omega) (by omega),wid (by omega) (by omega)]);have an:=zA.mk (show wrap64 (wrap64 (wrap64 (7*f0)+4)+q2)=7*f0+4+q2 by rw[wid (show -9223372036854775808≤7*f0 by omega) (by omega),wid (show -9223372036854775808≤7*f0+4 by omega) (by omega),wid (by omega) (by omega)]);have aw:=zA.mk (show(0:Int)≤7*f0+d∧7*f0+d<(cols:Int)by omega);have aj:=zA.mk (show(0:Int)≤7*f0+4+q2∧7*f0+4+q2<(cols:Int)by omega);generalize bL:rd r2 (7*f0+d)=y8;have aP:=zA.mk bL;clear bL;refine QK (n:=13) (S:=fun w'=>w'.cell? ⟨gF,0,none⟩=some (.int .i64 f0)∧w'.cell? ⟨gI,c.toNat,none⟩=some (.int .i64 d)∧w'.cell? ⟨gR,(wrap64 (wrap64 (7*f0)+d)).toNat,none⟩=some (.int .i64 y8)) (ds := [12]) #[false,false,false,false,false,false,false,false,false,false,false,false,false] (by kernel_rfl) rfl rfl ⟨(zK aM.out.bF 0).trans rfl,zA0 aM.out.bI a7 a8 HD.out,(by rw[av.out];exact(zHp aN.out aw.out.1 aw.out.2 aP.out).1)⟩ (fun aa=>?_);have ao:=zA.mk (aM.out.stays (zD (ysy _ _)));have ah:=zA.mk (Kd.zT aN.out);clear aM aN;generalize w6.drew=w7 at ao ah aa ⊢;have b8:(0:Int)≤wrap64 (wrap64 (7*f0)+d):=by rw[av.out];exact aw.out.1
  have c8:wrap64 (wrap64 (7*f0)+d)<(cols:Int):=by rw[av.out];exact aw.out.2
  have z8:w7.frozen? ⟨gR,(wrap64 (wrap64 (7*f0)+d)).toNat,none⟩=false:=by rw[av.out];exact(zHp ah.out aw.out.1 aw.out.2 aP.out).2
  have p8:w7.cell? ⟨gR,(wrap64 (wrap64 (7*f0)+d)).toNat,none⟩=some (.int .i64 y8):=aa.2.2;refine zf (i:=0) (N:=some 56) (v:=?_) (a':=?_) #[true,false,false,false,false,false,false,false,false,false,false,false,false] rfl rfl (by kernel_rfl) (fun _ _ _ h=>h) (Or.inl ⟨by rfl,?_⟩) ?_ ?_;rotate_left;(focus intro w';go_simp;with_reducible rfl);rotate_left;(simp only [Act.put,yay,yby,ycy,zY,za];rfl);refine zf (i:=1) (N:=some 57) (v:=?_) (a':=?_) #[true,true,false,false,false,false,false,false,false,false,false,false,false] rfl rfl (by kernel_rfl) (fun _ _ _ h=>h) (Or.inl ⟨by rfl,?_⟩) ?_ ?_;rotate_left;(focus intro w';go_simp;with_reducible rfl);rotate_left;(simp only [Act.put,yay,yby,ycy,zY,za];rfl);refine ZY (i:=2) (N:=some 58) (v:=?_) (a':=?_) #[true,true,true,false,false,false,false,false,false,false,false,false,false] rfl rfl (by kernel_rfl) (fun _ _ _ h=>h) (Or.inl ⟨by rfl,?_⟩) aa ?_ ?_;rotate_left;(focus rintro w' ⟨s0,s1,s2⟩;go_simp;with_reducible rfl);rotate_left;(simp only [Act.put,yay,yby,ycy,zY,za];rfl);refine zf (i:=3) (N:=some 59) (v:=?_) (a':=?_) #[true,true,true,true,false,false,false,false,false,false,false,false,false] rfl rfl (by kernel_rfl) (fun _ _ _ h=>h) (Or.inl ⟨by rfl,?_⟩) ?_ ?_;rotate_left;(focus intro w';go_simp;with_reducible rfl);rotate_left;(simp only [Act.put,yay,yby,ycy,zY,za];rfl);refine zf (i:=4) (N:=some 60) (v:=?_) (a':=?_) #[true,true,true,true,true,false,false,false,false,false,false,false,false] rfl rfl (by kernel_rfl) (fun _ _ _ h=>h) (Or.inl ⟨by rfl,?_⟩) ?_ ?_;rotate_left;(focus intro w';go_simp;with_reducible rfl);rotate_left;(simp only [Act.put,yay,yby,ycy,zY,za];rfl);refine zf (i:=5) (N:=some 61) (v:=?_) (a':=?_) #[true,true,true,true,true,true,false,false,false,false,false,false,false] rfl rfl (by kernel_rfl) (fun _ _ _ h=>h) (Or.inl ⟨by rfl,?_⟩) ?_ ?_;rotate_left;(focus intro w';go_simp;with_reducible rfl);rotate_left;(simp only [Act.put,yay,yby,ycy,zY,za];rfl);refine ZY (i:=6) (N:=some 62) (v:=?_) (a':=?_) #[true,true,true,true,true,true,true,false,false,false,false,false,false] rfl rfl (by kernel_rfl) (fun _ _ _ h=>h) (Or.inl ⟨by rfl,?_⟩) aa ?_ ?_;rotate_left;(focus rintro w' ⟨s0,s1,s2⟩;go_simp;with_reducible rfl);rotate_left;(simp only [Act.put,yay,yby,ycy,zY,za];rfl)
  refine zf (i:=7) (N:=some 63) (v:=?_) (a':=?_) #[true,true,true,true,true,true,true,true,false,false,false,false,false] rfl rfl (by kernel_rfl) (fun _ _ _ h=>h) (Or.inl ⟨by rfl,?_⟩) ?_ ?_;rotate_left;(focus intro w';go_simp;with_reducible rfl);rotate_left;(simp only [Act.put,yay,yby,ycy,zY,za];rfl);refine zf (i:=8) (N:=some 64) (v:=?_) (a':=?_) #[true,true,true,true,true,true,true,true,true,false,false,false,false] rfl rfl (by kernel_rfl) (fun _ _ _ h=>h) (Or.inl ⟨by rfl,?_⟩) ?_ ?_;rotate_left;(focus intro w';go_simp;with_reducible rfl);rotate_left;(simp only [Act.put,yay,yby,ycy,zY,za];rfl);refine ZY (i:=9) (N:=some 65) (v:=?_) (a':=?_) #[true,true,true,true,true,true,true,true,true,true,false,false,false] rfl rfl (by kernel_rfl) (fun _ _ _ h=>h) (Or.inl ⟨by rfl,?_⟩) aa ?_ ?_;rotate_left;(focus rintro w' ⟨s0,s1,s2⟩;go_simp;with_reducible rfl);rotate_left;(simp only [Act.put,yay,yby,ycy,zY,za];rfl);refine zf (i:=10) (N:=some 66) (v:=?_) (a':=?_) #[true,true,true,true,true,true,true,true,true,true,true,false,false] rfl rfl (by kernel_rfl) (fun _ _ _ h=>h) (Or.inl ⟨by rfl,?_⟩) ?_ ?_;rotate_left;(focus intro w';go_simp;with_reducible rfl);rotate_left;(simp only [Act.put,yay,yby,ycy,zY,za];rfl);refine zf (i:=11) (N:=some 67) (v:=?_) (a':=?_) #[true,true,true,true,true,true,true,true,true,true,true,true,false] rfl rfl (by kernel_rfl) (fun _ _ _ h=>h) (Or.inl ⟨by rfl,?_⟩) ?_ ?_;rotate_left;(focus intro w';go_simp;with_reducible rfl);rotate_left;(simp only [Act.put,yay,yby,ycy,zY,za];rfl);refine zFZ (i:=12) (N:=none) #[true,true,true,true,true,true,true,true,true,true,true,true,true] rfl rfl (by kernel_rfl) (by decide) (fun K hK=>?_);refine zHD (w1:=?_) (by rfl) rfl ?_ ?_;rotate_left;(focus go_simp;rfl);refine hK.out _ _ ?_;clear hK K;refine JG (by kernel_rfl) ?_;clear b8 c8 z8 p8 aa;have af:=zA.mk (show MmL w0 gm gF gI gO cO gR cols f0 f1 x0 x1 x2 x3 L s1 s2 vE vE (w7.setCell ⟨gR,(wrap64 (wrap64 (7*f0)+d)).toNat,none⟩ (.int .i64 (wrap64 (y8-1))))from ao.out.put ah.out ai.out.1 ai.out.2 _ _);have ag:=zA.mk (show Kd.R (Kd.int .i64) 2 (w7.setCell ⟨gR,(wrap64 (wrap64 (7*f0)+d)).toNat,none⟩ (.int .i64 (wrap64 (y8-1)))) w0.heap.size (fun k=>k=gR) (.slice (some ⟨gR,0,none⟩) cols cR) (zBS r2 (7*f0+d))from by rw[av.out];exact zGV ah.out aP.out)
  clear ao ah aP av;generalize zBS r2 (7*f0+d)=r3 at ag ab;generalize World.setCell w7 _ _=w8 at *;try go_wp2
  generalize bN:rd r3 (7*f0+4+q2)=y9;have aE:=zA.mk bN;clear bN;refine QK (n:=18) (S:=fun w'=>w'.cell? ⟨gF,0,none⟩=some (.int .i64 f0)∧w'.cell? ⟨gI,c.toNat,none⟩=some (.int .i64 d)∧w'.cell? ⟨gI,f,none⟩=some (.int .i64 xf)∧w'.cell? ⟨gR,(wrap64 (wrap64 (wrap64 (7*f0)+4)+q2)).toNat,none⟩=some (.int .i64 y9)) (ds := [17]) #[false,false,false,false,false,false,false,false,false,false,false,false,false,false,false,false,false,false] (by kernel_rfl) rfl rfl ⟨(zK af.out.bF 0).trans rfl,zA0 af.out.bI a7 a8 HD.out,(by have q:=zA0 af.out.bI aX hf az.out;rwa [yny]at q),(by rw[an.out];exact(zHp ag.out aj.out.1 aj.out.2 aE.out).1)⟩ (fun aa=>?_);have ao:=zA.mk (af.out.stays (zD (ysy _ _)));have ah:=zA.mk (Kd.zT ag.out);clear af ag;generalize w8.drew=w9 at ao ah aa ⊢;refine zf (i:=0) (N:=some 68) (v:=?_) (a':=?_) #[true,false,false,false,false,false,false,false,false,false,false,false,false,false,false,false,false,false] rfl rfl (by kernel_rfl) (fun _ _ _ h=>h) (Or.inl ⟨by rfl,?_⟩) ?_ ?_;rotate_left;(focus intro w';go_simp;with_reducible rfl);rotate_left;(simp only [Act.put,yay,yby,ycy,zY,za];rfl);refine zf (i:=1) (N:=some 69) (v:=?_) (a':=?_) #[true,true,false,false,false,false,false,false,false,false,false,false,false,false,false,false,false,false] rfl rfl (by kernel_rfl) (fun _ _ _ h=>h) (Or.inl ⟨by rfl,?_⟩) ?_ ?_;rotate_left;(focus intro w';go_simp;with_reducible rfl);rotate_left;(simp only [Act.put,yay,yby,ycy,zY,za];rfl);refine ZY (i:=2) (N:=some 70) (v:=?_) (a':=?_) #[true,true,true,false,false,false,false,false,false,false,false,false,false,false,false,false,false,false] rfl rfl (by kernel_rfl) (fun _ _ _ h=>h) (Or.inl ⟨by rfl,?_⟩) aa ?_ ?_;rotate_left;(focus rintro w' ⟨s0,s1,s2,s3⟩;go_simp;with_reducible rfl);rotate_left;(simp only [Act.put,yay,yby,ycy,zY,za];rfl);refine zf (i:=3) (N:=some 71) (v:=?_) (a':=?_) #[true,true,true,true,false,false,false,false,false,false,false,false,false,false,false,false,false,false] rfl rfl (by kernel_rfl) (fun _ _ _ h=>h) (Or.inl ⟨by rfl,?_⟩) ?_ ?_;rotate_left;(focus intro w';go_simp;with_reducible rfl);rotate_left;(simp only [Act.put,yay,yby,ycy,zY,za];rfl);refine zf (i:=4) (N:=some 72) (v:=?_) (a':=?_) #[true,true,true,true,true,false,false,false,false,false,false,false,false,false,false,false,false,false] rfl rfl (by kernel_rfl) (fun _ _ _ h=>h) (Or.inl ⟨by rfl,?_⟩) ?_ ?_
  rotate_left;(focus intro w';go_simp;with_reducible rfl);rotate_left;(simp only [Act.put,yay,yby,ycy,zY,za];rfl);refine zf (i:=5) (N:=some 73) (v:=?_) (a':=?_) #[true,true,true,true,true,true,false,false,false,false,false,false,false,false,false,false,false,false] rfl rfl (by kernel_rfl) (fun _ _ _ h=>h) (Or.inl ⟨by rfl,?_⟩) ?_ ?_;rotate_left;(focus intro w';go_simp;with_reducible rfl);rotate_left;(simp only [Act.put,yay,yby,ycy,zY,za];rfl);refine zf (i:=6) (N:=some 74) (v:=?_) (a':=?_) #[true,true,true,true,true,true,true,false,false,false,false,false,false,false,false,false,false,false] rfl rfl (by kernel_rfl) (fun _ _ _ h=>h) (Or.inl ⟨by rfl,?_⟩) ?_ ?_;rotate_left;(focus intro w';go_simp;with_reducible rfl);rotate_left;(simp only [Act.put,yay,yby,ycy,zY,za];rfl);refine ZY (i:=7) (N:=some 75) (v:=?_) (a':=?_) #[true,true,true,true,true,true,true,true,false,false,false,false,false,false,false,false,false,false] rfl rfl (by kernel_rfl) (fun _ _ _ h=>h) (Or.inl ⟨by rfl,?_⟩) aa ?_ ?_;rotate_left;(focus rintro w' ⟨s0,s1,s2,s3⟩;go_simp;with_reducible rfl);rotate_left;(simp only [Act.put,yay,yby,ycy,zY,za];rfl);refine zf (i:=8) (N:=some 76) (v:=?_) (a':=?_) #[true,true,true,true,true,true,true,true,true,false,false,false,false,false,false,false,false,false] rfl rfl (by kernel_rfl) (fun _ _ _ h=>h) (Or.inl ⟨by rfl,?_⟩) ?_ ?_;rotate_left;(focus intro w';go_simp;with_reducible rfl);rotate_left;(simp only [Act.put,yay,yby,ycy,zY,za];rfl);refine zf (i:=9) (N:=some 77) (v:=?_) (a':=?_) #[true,true,true,true,true,true,true,true,true,true,false,false,false,false,false,false,false,false] rfl rfl (by kernel_rfl) (fun _ _ _ h=>h) (Or.inl ⟨by rfl,?_⟩) ?_ ?_;rotate_left;(focus intro w';go_simp;with_reducible rfl);rotate_left;(simp only [Act.put,yay,yby,ycy,zY,za];rfl);refine ZY (i:=10) (N:=some 78) (v:=?_) (a':=?_) #[true,true,true,true,true,true,true,true,true,true,true,false,false,false,false,false,false,false] rfl rfl (by kernel_rfl) (fun _ _ _ h=>h) (Or.inl ⟨by rfl,?_⟩) aa ?_ ?_;rotate_left;(focus rintro w' ⟨s0,s1,s2,s3⟩;go_simp;with_reducible rfl);rotate_left;(simp only [Act.put,yay,yby,ycy,zY,za];rfl);refine zAI (i:=11) (N:=some 79) #[true,true,true,true,true,true,true,true,true,true,true,true,false,false,false,false,false,false] rfl rfl (by kernel_rfl) (by decide) (fun K hK=>?_)
  refine JH Try.func74 (by kernel_rfl) rfl #[.int .i64 d,.int .i64 xf] (by rfl) rfl rfl (by(try simp only [yiy,yjy,yky]);first|done|rfl) ?_;refine(zAM.calls d xf q2 _ a_.out).mono ?_;rintro e ax ⟨rfl,hd⟩;refine⟨_,rfl,?_⟩;have bg:=zp.below hd;have af:=zA.mk (ao.out.stays bg);have ag:=zA.mk (Kd.qV ah.out bg);clear hd bg;refine hK.out _ _ ⟨(zK af.out.bF 0).trans rfl,zA0 af.out.bI a7 a8 HD.out,(by have q:=zA0 af.out.bI aX hf az.out;rwa [yny]at q),(by rw[an.out];exact(zHp ag.out aj.out.1 aj.out.2 aE.out).1)⟩ (fun aa=>?_);clear hK K;refine QV (a':=?_) ?_ ?_;rotate_left;(show Act.put _ (some 79) _=_;simp only [Act.put,yay,yby,ycy,zY,za];rfl);clear ao ah;have b9:(0:Int)≤wrap64 (wrap64 (wrap64 (7*f0)+4)+q2):=by rw[an.out];exact aj.out.1
  have c9:wrap64 (wrap64 (wrap64 (7*f0)+4)+q2)<(cols:Int):=by rw[an.out];exact aj.out.2
  have z9:ax.frozen? ⟨gR,(wrap64 (wrap64 (wrap64 (7*f0)+4)+q2)).toNat,none⟩=false:=by rw[an.out];exact(zHp ag.out aj.out.1 aj.out.2 aE.out).2
  have p9:ax.cell? ⟨gR,(wrap64 (wrap64 (wrap64 (7*f0)+4)+q2)).toNat,none⟩=some (.int .i64 y9):=aa.2.2.2;refine zf (i:=12) (N:=some 80) (v:=?_) (a':=?_) #[true,true,true,true,true,true,true,true,true,true,true,true,true,false,false,false,false,false] rfl rfl (by kernel_rfl) (fun _ _ _ h=>h) (Or.inl ⟨by rfl,?_⟩) ?_ ?_;rotate_left;(focus intro w';go_simp;with_reducible rfl);rotate_left;(simp only [Act.put,yay,yby,ycy,zY,za];rfl);refine zf (i:=13) (N:=some 81) (v:=?_) (a':=?_) #[true,true,true,true,true,true,true,true,true,true,true,true,true,true,false,false,false,false] rfl rfl (by kernel_rfl) (fun _ _ _ h=>h) (Or.inl ⟨by rfl,?_⟩) ?_ ?_;rotate_left;(focus intro w';go_simp;with_reducible rfl);rotate_left;(simp only [Act.put,yay,yby,ycy,zY,za];rfl);refine ZY (i:=14) (N:=some 82) (v:=?_) (a':=?_) #[true,true,true,true,true,true,true,true,true,true,true,true,true,true,true,false,false,false] rfl rfl (by kernel_rfl) (fun _ _ _ h=>h) (Or.inl ⟨by rfl,?_⟩) aa ?_ ?_;rotate_left;(focus rintro w' ⟨s0,s1,s2,s3⟩;go_simp;with_reducible rfl);rotate_left;(simp only [Act.put,yay,yby,ycy,zY,za];rfl);refine zf (i:=15) (N:=some 83) (v:=?_) (a':=?_) #[true,true,true,true,true,true,true,true,true,true,true,true,true,true,true,true,false,false] rfl rfl (by kernel_rfl) (fun _ _ _ h=>h) (Or.inl ⟨by rfl,?_⟩) ?_ ?_;rotate_left;(focus intro w';go_simp;with_reducible rfl);rotate_left;(simp only [Act.put,yay,yby,ycy,zY,za];rfl);refine zf (i:=16) (N:=some 84) (v:=?_) (a':=?_) #[true,true,true,true,true,true,true,true,true,true,true,true,true,true,true,true,true,false] rfl rfl (by kernel_rfl) (fun _ _ _ h=>h) (Or.inl ⟨by rfl,?_⟩) ?_ ?_;rotate_left;(focus intro w';go_simp;with_reducible rfl);rotate_left;(simp only [Act.put,yay,yby,ycy,zY,za];rfl);refine zFZ (i:=17) (N:=none) #[true,true,true,true,true,true,true,true,true,true,true,true,true,true,true,true,true,true] rfl rfl (by kernel_rfl) (by decide) (fun K hK=>?_);refine zHD (w1:=?_) (by rfl) rfl ?_ ?_;rotate_left;(focus go_simp;rfl);refine hK.out _ _ ?_;clear hK K;refine JG (by kernel_rfl) ?_;clear b9 c9 z9 p9 aa;have aq:=zA.mk (show MmL w0 gm gF gI gO cO gR cols f0 f1 x0 x1 x2 x3 L s1 s2 vE vE (ax.setCell ⟨gR,(wrap64 (wrap64 (wrap64 (7*f0)+4)+q2)).toNat,none⟩ (.int .i64 (wrap64 (y9-1))))from af.out.put ag.out ai.out.1 ai.out.2 _ _)
  have aG:=zA.mk (show Kd.R (Kd.int .i64) 2 (ax.setCell ⟨gR,(wrap64 (wrap64 (wrap64 (7*f0)+4)+q2)).toNat,none⟩ (.int .i64 (wrap64 (y9-1)))) w0.heap.size (fun k=>k=gR) (.slice (some ⟨gR,0,none⟩) cols cR) (zBS r3 (7*f0+4+q2))from by rw[an.out];exact zGV ag.out aE.out);clear af ag aE an;rw[← ab.out]at aG;have bO:=zA.mk (Kd.zn aG.out).1;have bP:=zA.mk (show Kd.C (Kd.int .i64) (ax.setCell ⟨gR,(wrap64 (wrap64 (wrap64 (7*f0)+4)+q2)).toNat,none⟩ (.int .i64 (wrap64 (y9-1)))) (some ⟨gR,0,none⟩) cols rr from by have q:=(Kd.zn aG.out).2.2;rwa [← bO.out]at q);have bh:=zA.mk (And.intro (Kd.Qt aq.out.rL gO (by simp [Value.ownBlock])) (Kd.Qt aG.out gR (by simp [Value.ownBlock])));clear aG ab;generalize World.setCell ax _ _=b1 at *;have bj:b1.cell? ⟨gm,2,none⟩=some vE:=(zK aq.out.bM 2).trans rfl;go_wp2_with (first
   | ((with_reducible refine ZX (b := .append) (xs:=#[.tmp 86,.tmp 87]) rfl ?_);at_builtin;refine Kd.zA4 (Kd.int .i64) (Rr:=fun x cs=>cs = [.int .i64 x]) (w0:=w0) w0.heap.size rfl (.tmp 86) (.tmp 87) 25 2 (.int .i64 0) 8 rfl Try.underlying25 JL rfl (by decide) (by omega) vE s1 rr (some ⟨gR,0,none⟩) cols cR (fun k=>k≠gO∧k≠gR) (fun _=>False) rfl rfl ?aO ?aR (fun _ _ h=>h) (fun _ hk=>hk.elim) ?aF ?aB ?aS ?aL ?_;(case aO=>exact aq.out.rE);(case aR=>exact bP.out);(case aF=>exact(fun k hk=>by have:=bh.out.1;have:=bh.out.2;constructor <;> omega));(case aB=>exact aq.out.below);(case aS=>exact zP aq.out.below);(case aL=>have:=ad.out.1;have:=ad.out.2;have:=aC.out;omega);intro v1 bQ ho hb hg b2;obtain⟨A1,c1,rfl⟩:=Kd.ZM ho;have aQ:=zA.mk (aq.out.grown ho hb hg);clear aq ho hb hg b2 bj bP bh;have bj:bQ.cell? ⟨gm,2,none⟩=some vE:=(zK aQ.out.bM 2).trans rfl;have b3:=zL aQ.out.bM 2)
   | ((with_reducible refine ZH (t:=25) (p:=89) rfl ?_);refine qt (t:=25) (p:=89) (v:=?vo89) (w1:=(bQ.setCell ⟨gm,2,none⟩ (.slice A1 (s1++rr).length c1))) ?hg ?ho ?hn ?hr ?_;(case ho=>rfl);(case hg=>rfl);(case hn=>rfl);(case hr=>first|(go_simp;done)|(go_simp;rfl));intro bk hw;have aT:=zA.mk (show MmL w0 gm gF gI gO cO gR cols f0 f1 x0 x1 x2 x3 L (s1++rr) s2 (.slice A1 (s1++rr).length c1) (.slice A1 (s1++rr).length c1) bk by rw[hw];exact aQ.out.ents);clear aQ hw bj b3;have b4:bk.cell? ⟨gm,0,none⟩=some (.int .i64 s2):=(zK aT.out.bM 0).trans rfl;have b5:=zL aT.out.bM 0;have b6:=ad.out.2.1;have b7:s2≤1010:=by have:=ad.out.2.2.1;have:=aC.out;omega)
   | ((with_reducible refine ZH (t:=2) (p:=93) rfl ?_);refine qt (t:=2) (p:=93) (v:=?vo93) (w1:=(bk.setCell ⟨gm,0,none⟩ (.int .i64 (s2+1)))) ?hg ?ho ?hn ?hr ?_;(case ho=>rfl);(case hg=>rfl);(case hn=>rfl);(case hr=>first|(go_simp;done)|(go_simp;rfl));intro b_ hw;have bR:=zA.mk (show MmL w0 gm gF gI gO cO gR cols f0 f1 x0 x1 x2 x3 L (s1++rr) (s2+1) (.slice A1 (s1++rr).length c1) (.slice A1 (s1++rr).length c1) b_ by rw[hw];exact aT.out.rows (s2+1));clear aT hw b4 b5))
  go_roundg (L.length-(i+1))
  case measure=>omega
  case rel=>exact⟨i+1,s1++rr,s2+1,_,by omega,by omega,by go_num,a6,⟨bR.out.again⟩,⟨by have:=ad.out.1;have:=ad.out.2.1;have:=bO.out;rw[List.length_append];omega,by omega,by have:=ad.out.2.2.1;omega,Kd.Qt bR.out.rL gO (by simp [Value.ownBlock])⟩⟩
def zIO (l:List (List zz)):Prop:=l.length≤8∧(∀ r∈l,r.length≤4) ∧ ∀ r∈l,∀ x∈r,¬ x.f0<0→x.f0<(l.length:Int)∧0≤x.f1∧x.f1≤23
instance (l:List (List zz)):Decidable (zIO l):=by unfold zIO;infer_instance
def zCX (l:List (List zz)):List Int × Int:=zB5 (zB8 (7*l.length)) l 0 ([],0)
def qH.f (l:List (List zz)):Option (Int × Int × List Int):=if zIO l then some ((zCX l).2,(7*(l.length:Int)),(zCX l).1)else none
theorem sum_le {l:List (List zz)} (h : ∀ r∈l,r.length≤4):(l.map List.length).sum≤4*l.length:=by
  induction l with
  | nil=>simp
  | cons r rs ih=>
    have h1:=h r (List.mem_cons_self ..);have h2:=ih (fun x hx=>h x (List.mem_cons_of_mem _ hx));simp only [yjy,List.sum_cons,List.length_cons];omega
theorem zFi {cols:Nat} (s:List Int × Int) (j f:Nat) (x:zz):(zB8 cols s j f x).2.toNat≤s.2.toNat+4:=by
  unfold zB8;split
  (omega);(have:=zC9 cols j f x.f0 (ZN x.f1) (zCS [(f:Int)]) s;have:=zFJ (f:Int);omega)
theorem zI9 {l:List (List zz)} (aa:zIO l) {w:World} {gm:Nat} (s:List Int × Int) (W:World) (j f:Nat) (x:zz) (hI:zDT w gm (7*l.length) s W) (hF:zB6 l j f x) (hb : ¬ x.f0<0) (hc:s.2.toNat+4≤200) :
    Calls Try.prog 73 (#[.int .i64 (j:Int),.int .i64 (f:Int),.agg #[.int .i64 x.f0,.int .i64 x.f1],.agg #[.int .i64 (zq x.f1 0),.int .i64 (zq x.f1 1),.int .i64 (zq x.f1 2),.int .i64 (zq x.f1 3)]] ++ #[.pointer (some ⟨gm,0,none⟩)]) W fun e W'=>e = .returned (.tuple #[])∧zDT w gm (7*l.length) (zB8 (7*l.length) s j f x) W':=by
  obtain⟨h1,h2,h3⟩:=hF;obtain⟨q0,q1,q2⟩:=aa;have q3:=q1 _ (yoy h1);have q4:=q2 _ (yoy h1) x (by rw[← h3];exact yoy h2) hb;have e:(#[.int .i64 (j:Int),.int .i64 (f:Int),.agg #[.int .i64 x.f0,.int .i64 x.f1],.agg #[.int .i64 (zq x.f1 0),.int .i64 (zq x.f1 1),.int .i64 (zq x.f1 2),.int .i64 (zq x.f1 3)]] ++ #[.pointer (some ⟨gm,0,none⟩)]:Array Value) = #[.int .i64 (j:Int),.int .i64 (f:Int),.agg #[.int .i64 x.f0,.int .i64 x.f1],.agg #[.int .i64 (zq x.f1 0),.int .i64 (zq x.f1 1),.int .i64 (zq x.f1 2),.int .i64 (zq x.f1 3)],.pointer (some ⟨gm,0,none⟩)]:=rfl;rw[e];exact zAN.calls w W gm (7*l.length) s j f x.f0 x.f1 hI (by omega) (by omega) (by omega) (by omega) (by omega) q4.2.1 q4.2.2 (by omega)
theorem qH.calls (ab:Option Addr) (ad:Nat) (aa:List (List zz)) (r1 r2:Int) (r3:List Int) (w:World) (af:Kd.C (Kd.slice 64 ZW) w ab aa.length aa) (ag:aa.length≤ad) (h:qH.f aa=some (r1,r2,r3)) :
    Calls Try.prog 48 #[.agg #[.slice ab aa.length ad]] w fun e w' => ∃ ak:Value,e = .returned (.agg #[.int .i64 r1,.int .i64 r2,ak])∧Kd.R (Kd.int .i64) 2 w' w.heap.size (fun _=>True) ak r3∧Below w.heap.size w w':=by
  unfold qH.f at h;by_cases ah:zIO aa
  case neg=>rw[if_neg ah]at h;cases h
  rw[if_pos ah]at h;have h':=yey h;simp only [Prod.mk.injEq]at h';obtain⟨q1,q2,q3⟩:=h';have HQ:=zA.mk (And.intro q1 (And.intro q2 q3));have ai:=zA.mk ah;have HR:=zA.mk af;have HC:=zA.mk ag;have ay:aa.length≤8:=ah.1;clear h ah af ag q1 q2 q3;go_enter Try.func48,Try.ntmps48
  have BT:=zA.mk (zG (Qf (W:=w) rfl (.cells #[.slice ab aa.length ad] 31)) (.cells #[.int .i64 0,.int .i64 0,.slice none 0 0] 77));have BR:=zA.mk (Qf (W:=w.alloc (.cells #[.slice ab aa.length ad] 31)) (n:=w.heap.size+1) (by simp) (.cells #[.int .i64 0,.int .i64 0,.slice none 0 0] 77));have HB:=zA.mk (zC (zC (ysy w.heap.size w) (.cells #[.slice ab aa.length ad] 31)) (.cells #[.int .i64 0,.int .i64 0,.slice none 0 0] 77));go_wp2_with (first
    | (go_at_call 50;refine(qw.calls ab ad aa (aa.length:Int) _ (Kd.qA HR.out HB.out) HC.out rfl).mono ?_;rintro e w2 ⟨rfl,hd⟩;have hb:=zp.below hd;clear hd;have al:=zA.mk (zN BT.out hb);have an:=zA.mk (zN BR.out hb);have aj:=zA.mk (zM HB.out hb);clear BT BR HB hb;have ao:w2.cell? ⟨w.heap.size,0,none⟩=some (.slice ab aa.length ad):=(zK al.out 0).trans rfl;have aq:w.heap.size<w2.heap.size:=qg al.out;have ar:w.heap.size≠w2.heap.size:=by omega)
    | (go_at_call 51;refine(zCl.calls 73 _ Try.func73 (by kernel_rfl) rfl #[.pointer (some ⟨w2.heap.size,0,none⟩)] aa ab ad w2 _ (zDT w2 w2.heap.size (7*aa.length)) (zB8 (7*aa.length)) ([],0) (fun s=>s.2.toNat) 200 zFi ?aN (fun _ _ _ h hb=>h.stays hb) (fun _ _ h=>h.below) (Kd.qA HR.out aj.out) (fun r hr x hx hb=>⟨(ai.out.2.2 r hr x hx hb).2.1,(ai.out.2.2 r hr x hx hb).2.2⟩) ?aS ?a0).mono ?_;(case aN=>have:=sum_le ai.out.2.1;have:=ai.out.1;show 0+_≤_;omega);(case aS=>exact zI9 ai.out);(case a0=>exact⟨zC (ysy _ _) _,⟨.slice none 0 0,Qf rfl _,Kd.zAZ _ _ _ _ _⟩,yry _,by simp⟩);rintro e w3 ⟨rfl,hI⟩;have HI:=zA.mk (show zDT w2 w2.heap.size (7*aa.length) (zCX aa) w3 from hI);clear hI ao aq ar;obtain⟨v,hM,hE⟩:=HI.out.ex;obtain⟨Av,cv,rfl⟩:=Kd.ZM hE;have HM:=zA.mk hM;have HE:=zA.mk hE;have ae:=zA.mk (zN an.out HI.out.below);have au:=zA.mk (zM aj.out HI.out.below);clear hM hE an;have az:w3.cell? ⟨w2.heap.size,0,none⟩=some (.int .i64 (zCX aa).2):=(zK HM.out 0).trans rfl;have aA:w3.cell? ⟨w2.heap.size,1,none⟩=some (.int .i64 ((7*aa.length:Nat):Int)):=(zK HM.out 1).trans rfl;have aB:w3.cell? ⟨w2.heap.size,2,none⟩=some (.slice Av (zCX aa).1.length cv):=(zK HM.out 2).trans rfl;have aC:=zL ae.out 0;have aD:=zL ae.out 1;have aE:=zL ae.out 2;have av:w3.cell? ⟨w.heap.size+1,0,none⟩=some (.int .i64 0):=(zK ae.out 0).trans rfl;have aw:w3.cell? ⟨w.heap.size+1,1,none⟩=some (.int .i64 0):=(zK ae.out 1).trans rfl;have ax:w3.cell? ⟨w.heap.size+1,2,none⟩=some (.slice none 0 0):=(zK ae.out 2).trans rfl))
  refine bodyPost_ret (results_cell_row rfl _ _ (w.heap.size+1) 77 #[.int .i64 (zCX aa).2,.int .i64 ((7*aa.length:Nat):Int),.slice Av (zCX aa).1.length cv] (0,0) _ rfl (by refine qc (cs:=#[.int .i64 (zCX aa).2,.int .i64 ((7*aa.length:Nat):Int),.slice none 0 0]) ?_ 2 _ rfl;refine qc (cs:=#[.int .i64 (zCX aa).2,.int .i64 0,.slice none 0 0]) ?_ 1 _ rfl;refine qc (cs:=#[.int .i64 0,.int .i64 0,.slice none 0 0]) ?_ 0 _ rfl;exact ae.out) Try.underlying77 rfl (by kernel_rfl)) rfl ?_;obtain⟨e1,e2,e3⟩:=HQ.out;refine⟨_,by rw[← e1,← e2];rfl,?_,?_⟩;(rw[← e3];exact Kd.zk (Kd.zEa (Kd.zEa (Kd.zEa (Kd.ZG HE.out aj.out.size) ae.out (by decide) 0 _) (qc ae.out 0 _ rfl) (by decide) 1 _) (qc (qc ae.out 0 _ rfl) 1 _ rfl) (by decide) 2 _) (fun _ _=>trivial));(exact zE (zE (zE au.out (by omega)) (by omega)) (by omega))
theorem zCA.calls (rows cols i:Int) (A0:Option Addr) (c0:Nat) (l:List Int) (w:World) (hr:Kd.C (Kd.int .i64) w A0 l.length l) (hc:l.length≤c0) (h0:0≤wrap64 (i*cols)) (h1:wrap64 (i*cols)≤wrap64 (wrap64 (i+1)*cols)) (h2:wrap64 (wrap64 (i+1)*cols)≤l.length) :
    Calls Try.prog 72 #[.agg #[.int .i64 rows,.int .i64 cols,.slice A0 l.length c0],.int .i64 i] w fun e w' => ∃ A1 c1,e = .returned (.slice A1 ((l.take (wrap64 (wrap64 (i+1)*cols)).toNat).drop (wrap64 (i*cols)).toNat).length c1) ∧
      Kd.C (Kd.int .i64) w' A1 ((l.take (wrap64 (wrap64 (i+1)*cols)).toNat).drop (wrap64 (i*cols)).toNat).length ((l.take (wrap64 (wrap64 (i+1)*cols)).toNat).drop (wrap64 (i*cols)).toNat)∧((l.take (wrap64 (wrap64 (i+1)*cols)).toNat).drop (wrap64 (i*cols)).toNat).length≤c1∧Below w.heap.size w w':=by
  obtain⟨i0,hi,ab,aa,ad⟩:=info_parts JL;obtain⟨A1,k1,k2,k3⟩:=zD9 (k := .i64) 25 2 Try.underlying25 hi aa A0 c0 l _ _ h0 h1 h2 hc;have HK:=zA.mk k2;have ae:=zA.mk k3;have HR:=zA.mk hr;have HB:=zA.mk (zC (ysy w.heap.size w) (.cells #[.int .i64 rows,.int .i64 cols,.slice A0 l.length c0] 77));clear hr hc h0 h1 h2 k2 k3 ab aa ad hi;generalize ((l.take (wrap64 (wrap64 (i+1)*cols)).toNat).drop (wrap64 (i*cols)).toNat)=rr at *;go_enter Try.func72,Try.ntmps72
  go_wp2;go_ret;exact⟨A1,_,rfl,Kd.zFY (HK.out _ (Kd.zCc (Kd.qA HR.out HB.out))),ae.out,HB.out⟩
def zFj:List Int→List Int→Int→Int
  | x :: xs,y :: ys,s=>zFj xs ys (wrap64 (s+wrap64 (x*y)))
  | _,_,s=>s
def rowAt (cols:Nat) (l:List Int) (i:Nat):List Int:=(l.take ((i+1)*cols)).drop (i*cols)
def zAO (cols:Nat) (l v:List Int):Nat→Nat→Bool
  | 0,_=>true
  | d+1,i=>if zFj (rowAt cols l i) v 0=0 then zAO cols l v d (i+1)else false
def zHO (rows cols:Int) (l v:List Int):Prop:=0≤rows∧rows≤100000∧0≤cols∧cols≤1000∧(l.length:Int)=rows*cols∧cols≤v.length
instance (rows cols:Int) (l v:List Int):Decidable (zHO rows cols l v):=by unfold zHO;infer_instance
def QD.f (a0_0 a0_1:Int) (l0_2 l1:List Int):Option Bool:=if zHO a0_0 a0_1 l0_2 l1 then some (zAO a0_1.toNat l0_2 l1 a0_0.toNat 0)else none
theorem wid9 {x:Int} (h0 : -9223372036854775808≤x) (h1:x≤9223372036854775807):wrap64 x=x:=by unfold wrap64;omega
theorem row_ix {n c i m:Nat} (hm:m=n*c) (hn:n≤100000) (hc:c≤1000) (hi:i<n):wrap64 ((i:Int)*(c:Int))=((i*c:Nat):Int)∧wrap64 (wrap64 ((i:Int)+1)*(c:Int))=(((i+1)*c:Nat):Int)∧i*c≤(i+1)*c∧(i+1)*c≤m:=by
  have h1:(i+1)*c≤n*c:=Nat.mul_le_mul_right c (by omega);have h2:n*c≤100000*1000:=Nat.mul_le_mul hn hc;have h3:(i+1)*c=i*c+c:=Nat.succ_mul i c;have e1:(i:Int)*(c:Int)=((i*c:Nat):Int):=by push_cast;rfl
  have e2:((i:Int)+1)*(c:Int)=(((i+1)*c:Nat):Int):=by push_cast;rfl
  refine⟨?_,?_,by omega,by omega⟩
  · rw[e1];exact wid9 (by omega) (by omega)
  · rw[wid9 (x:=(i:Int)+1) (by omega) (by omega),e2];exact wid9 (by omega) (by omega)
theorem QD.calls (aj ak:Int) (ab:Option Addr) (ad:Nat) (aa:List Int) (A1:Option Addr) (c1:Nat) (l1:List Int) (r:Bool) (w:World) (ag:Kd.C (Kd.int .i64) w ab aa.length aa) (ah:aa.length≤ad) (av:Kd.C (Kd.int .i64) w A1 l1.length l1) (az:l1.length≤c1) (h:QD.f aj ak aa l1=some r) :
    Calls Try.prog 47 #[.agg #[.int .i64 aj,.int .i64 ak,.slice ab aa.length ad],.slice A1 l1.length c1] w fun e w'=>e = .returned (.bool r)∧Below w.heap.size w w':=by
  unfold QD.f at h;by_cases aw:zHO aj ak aa l1
  case neg=>rw[if_neg aw]at h;cases h
  rw[if_pos aw]at h;obtain⟨h0,h1,h2,h3,h4,h5⟩:=aw;obtain⟨n,rfl⟩:=Int.eq_ofNat_of_zero_le h0;obtain⟨c,rfl⟩:=Int.eq_ofNat_of_zero_le h2;have hm:aa.length=n*c:=by
    have e1:((n:Int)*(c:Int))=((n*c:Nat):Int):=by push_cast;rfl
    rw[e1]at h4;omega
  rw[yny,yny]at h;have HA:zA (zAO c aa l1 (n-0) 0=r):=⟨yey h⟩;have HM:=zA.mk hm;have HR:=zA.mk ag;have HC:=zA.mk ah;have HV:=zA.mk av;have aP:=zA.mk az;have aQ:l1.length≤9223372036854775807:=av.2.1;have aG:n≤100000:=by omega
  have aH:c≤1000:=by omega
  have aI:c≤l1.length:=by omega
  clear h h0 h1 h2 h3 h4 h5 hm ag ah av az;have BM:=zA.mk (Qf (W:=w) rfl (.cells #[.int .i64 (n:Int),.int .i64 (c:Int),.slice ab aa.length ad] 77));have HB:=zA.mk (zC (ysy w.heap.size w) (.cells #[.int .i64 (n:Int),.int .i64 (c:Int),.slice ab aa.length ad] 77));go_enter Try.func47,Try.ntmps47
  go_wp2;go_loopg [11] n (fun gg v11 w' => ∃ i:Nat,i≤n∧n-i≤gg∧v11 = .int .i64 i∧zA (zAO c aa l1 (n-i) i=r)∧zA (w'.heap[w.heap.size]?=some (.cells #[.int .i64 (n:Int),.int .i64 (c:Int),.slice ab aa.length ad] 77 (0,0)))∧zA (Below w.heap.size w w'))
  case atStart=>exact⟨0,Nat.zero_le _,by omega,rfl,HA,BM,HB⟩
  case round=>
    clear HA BM HB;obtain⟨i,hi,hg,rfl,HA,BM,HB⟩:=hrel;by_cases aJ:i<n
    · have ax:(i:Int)<(n:Int):=by omega
      have ae:=zA.mk (row_ix HM.out aG aH aJ);have aK:wr.cell? ⟨w.heap.size,0,none⟩=some (.int .i64 (n:Int)):=(zK BM.out 0).trans rfl;have aL:wr.cell? ⟨w.heap.size,1,none⟩=some (.int .i64 (c:Int)):=(zK BM.out 1).trans rfl;have aM:wr.cell? ⟨w.heap.size,2,none⟩=some (.slice ab aa.length ad):=(zK BM.out 2).trans rfl;have al:=HA.out;rw[show n-i=(n-(i+1))+1 by omega,zAO]at al;have aA:(rowAt c aa i).length=c:=by
        have:=ae.out.2.2.2;have h3:(i+1)*c=i*c+c:=Nat.succ_mul i c;unfold rowAt;rw[yly,ymy];omega
      have aB:(aa.take (wrap64 (wrap64 ((i:Int)+1)*(c:Int))).toNat).drop (wrap64 ((i:Int)*(c:Int))).toNat=rowAt c aa i:=by
        rw[ae.out.1,ae.out.2.1,yny,yny];rfl
      have af:=zA.mk (zCA.calls (n:Int) (c:Int) (i:Int) ab ad aa wr (Kd.qA HR.out HB.out) HC.out (by rw[ae.out.1];omega) (by rw[ae.out.1,ae.out.2.1];have:=ae.out.2.2.1;omega) (by rw[ae.out.2.1];have:=ae.out.2.2.2;omega));rw[aB]at af;have HD:zA (zFj ((rowAt c aa i).drop 0) (l1.drop 0) 0=zFj (rowAt c aa i) l1 0):=⟨by rw[List.drop_zero,List.drop_zero]⟩;have aC:=zA.mk aA;generalize zFj (rowAt c aa i) l1 0=D at HD al;generalize rowAt c aa i=rr at af HD aC;have au:=zA.mk al;clear HA al aA aB ae;go_wp2_with (first|(go_at_call 72;refine af.out.mono ?_;rintro e w2 ⟨A2,c2,rfl,k1,k2,k3⟩;have ao:=zA.mk k1;have aD:=zA.mk (zN BM.out k3);have aE:=zA.mk (zM HB.out k3);have aR:rr.length≤9223372036854775807:=k1.2.1;clear k1 k2 k3 BM HB aK aL aM af))
      have aS:rr.length≤l1.length:=by rw[aC.out];exact aI
      go_loopg [6,18] rr.length (fun gg v6 aN w' => ∃ (j:Nat) (s:Int),j≤rr.length∧rr.length-j≤gg∧aN = .int .i64 j∧v6 = .int .i64 s∧zA (zFj (rr.drop j) (l1.drop j) s=D)∧zA (Kd.C (Kd.int .i64) w' A2 rr.length rr)∧zA (w'.heap[w.heap.size]?=some (.cells #[.int .i64 (n:Int),.int .i64 (c:Int),.slice ab aa.length ad] 77 (0,0)))∧zA (Below w.heap.size w w'))
      case atStart=>exact⟨0,0,Nat.zero_le _,by omega,rfl,rfl,HD,ao,aD,aE⟩
      case round=>
        clear HD ao aD aE;obtain⟨j,s,hj,aT,rfl,rfl,HD,ao,BM,HB⟩:=hrel;by_cases aF:j<rr.length
        · have aq:(j:Int)<(rr.length:Int):=by omega
          have ay:(j:Int)<(l1.length:Int):=by omega
          obtain⟨aU,e1,hx⟩:=Kd.ZA ao.out (j:Int) (by omega) aq;obtain⟨aV,e2,hy⟩:=Kd.ZA HV.out (j:Int) (by omega) ay;have ex:rd rr (j:Int)=rr[j]:=by simp [rd,aF]
          have ey:rd l1 (j:Int)=l1[j]:=by
            have:j<l1.length:=by omega
            simp [rd,this]
          rw[ex,yny]at hx;rw[ey,yny]at hy;replace hy:=(HB.out.cell (yqy w _ hy)).trans hy;have ai:=HD.out;rw[ypy aF,ypy (show j<l1.length by omega),zFj]at ai;have ar:=zA.mk ai;clear HD ai ex ey;generalize rr[j]=x at hx ar;generalize l1[j]=y at hy ar
          cases e1
          cases e2;go_wp2;go_roundg (rr.length-(j+1))
          case measure=>omega
          case rel=>exact⟨j+1,_,by omega,by omega,by go_num,rfl,ar,ao,BM,HB⟩
        · obtain rfl:j=rr.length:=by omega
          have aq : ¬ (rr.length:Int)<(rr.length:Int):=by omega
          have ai:=HD.out;rw[List.drop_length]at ai;have ar:s=D:=by rw[← ai];cases l1.drop rr.length <;> rfl
          subst ar;by_cases hz:s=0
          · have an:=au.out
            rw[if_pos hz]at an;have aO:=zA.mk an;subst hz;clear an au HD ai;go_wp2;go_roundg (n-(i+1))
            case measure=>omega
            case rel=>exact⟨i+1,by omega,by omega,by go_num,aO,BM,HB⟩
          (focus have an:=au.out;rw[if_neg hz]at an;subst an;have b1:(s==0)=false:=beq_eq_false_iff_ne.mpr hz;have b2:(s != 0)=true:=bne_iff_ne.mpr hz;clear au HD ai hz;go_wp2;go_ret;exact⟨rfl,HB.out⟩)
    · obtain rfl:i=n:=by omega
      have ax : ¬ (i:Int)<(i:Int):=by omega
      have al:=HA.out;rw[Nat.sub_self,zAO]at al;subst al;clear HA;go_wp2;go_ret;exact⟨rfl,HB.out⟩
def Zb.f (a0:Int) (a1:Int) (a2:Int):Option (Bool):=if a1≤a0 then(some (decide (a0≤a2)))else(some false)
theorem Zb.calls (a0:Int) (a1:Int) (a2:Int) (r:Bool) (w:World) (h:Zb.f a0 a1 a2=some r) :
    Calls Try.prog 46 #[.int .i64 a0,.int .i64 a1,.int .i64 a2] w fun e w'=>e = .returned (.bool r)∧zp w w':=by
  have H:(if a1≤a0 then(some (decide (a0≤a2)))else(some false))=some r:=h;clear h;by_cases c4:a1≤a0
  · rw[if_pos c4]at H
    have aa:decide (a1≤a0)=true:=ygy c4;clear c4;obtain rfl:=yey H;go_enter Try.func46,Try.ntmps46
    go_wp2;go_ret;exact⟨by first|rfl|(simp;done)|(simp [*];done),by repeat(first|exact zp.refl _|apply zp.step)⟩
  · rw[if_neg c4]at H
    have aa:decide (a1≤a0)=false:=yhy c4;clear c4;obtain rfl:=yey H;go_enter Try.func46,Try.ntmps46
    go_wp2;go_ret;exact⟨by first|rfl|(simp;done)|(simp [*];done),by repeat(first|exact zp.refl _|apply zp.step)⟩
def qe.f (a0:Int):Option (Bool):=(Zb.f a0 0 1000).bind fun t101=>(some (!t101))
theorem qe.calls (a0:Int) (r:Bool) (w:World) (h:qe.f a0=some r) :
    Calls Try.prog 45 #[.int .i64 a0] w fun e w'=>e = .returned (.bool r)∧zp w w':=by
  have H:((Zb.f a0 0 1000).bind fun t101=>(some (!t101)))=some r:=h;clear h;replace H:=ydy.mp H;obtain⟨t101,aa,H⟩:=H;replace H:(some (!t101))=some r:=H;have A2:=zA.mk aa;clear aa;obtain rfl:=yey H;go_enter Try.func45,Try.ntmps45
  go_wp2_with (first|((with_reducible refine zU (f:=46) rfl ?_);refine qD (some 4) rfl rfl Try.func46 (by kernel_rfl) rfl #[.int .i64 a0,.int .i64 0,.int .i64 1000] rfl (by(try simp only [yiy,yjy,yky]);first|done|rfl|(simp only [yly,ymy];rfl)) ?_;(with_reducible refine(Zb.calls a0 0 1000 t101 _ A2.out).mono ?_);rintro e w' ⟨rfl,⟨nd,rfl⟩⟩;refine⟨_,rfl,?_⟩))
  go_ret;exact⟨by first|rfl|(simp;done)|(simp [*];done),by repeat(first|exact zp.refl _|apply zp.step)⟩
end Go.Proofs.Ytbahbnhfhddlbaa.P
namespace Go.Proofs.Ytbahbnhfhddlbaa.Lib
open Go.RowKit Go.Proofs.YtbahbnhfhddlbaaW.PrintWords
def zFk {α:Type} (f : α→Option Bool):Nat→List α→Option Int
  | _,[]=>some (-1)
  | i,x :: xs=>(f x).bind fun b=>if b=true then some (i:Int)else zFk f (i+1) xs
theorem zCB {α:Type} (f : α→Option Bool) (i:Nat) (x : α) (xs:List α):zFk f i (x :: xs)=(f x).bind fun b=>if b=true then some (i:Int)else zFk f (i+1) xs:=rfl
end Go.Proofs.Ytbahbnhfhddlbaa.Lib
namespace Go.Proofs.Ytbahbnhfhddlbaa.P
open Go.RowKit Go.Proofs.YtbahbnhfhddlbaaW.PrintWords Go.Proofs.YtbahbnhfhddlbaaW.PrintLast Go.Proofs.YtbahbnhfhddlbaaW.PrintMore
attribute [local go_sem] Qj Qk JJ JK QO QP Ql Qm
set_option linter.unusedVariables false
set_option linter.unusedSimpArgs false
open Go.Proofs.Ytbahbnhfhddlbaa.Lib
def qL.f (l0:List Int):Option Int:=zFk (fun x=>qe.f x) 0 l0
theorem qL.calls (A0:Option Addr) (c0:Nat) (l0:List Int) (r:Int) (w:World) (af:Kd.C (Kd.int .i64) w A0 l0.length l0) (ai:l0.length≤c0) (h:qL.f l0=some r) :
    Calls Try.prog 71 #[.slice A0 l0.length c0,.func (.func 45) #[] #[]] w fun e w'=>e = .returned (.int .i64 r)∧Below w.heap.size w w':=by
  have ag:=zA.mk af;clear af ai;have aj:l0.length≤9223372036854775807:=ag.out.2.1;have HB:=zA.mk (ysy w.heap.size w);have H':=zA.mk (show zFk (fun x=>qe.f x) 0 l0=some r from h);clear h;go_enter Try.func71,Try.ntmps71
  go_wp2;go_loopg [5,8] l0.length (fun gg v5 v8 w' => ∃ kk:Nat,kk≤l0.length∧l0.length-kk≤gg∧v8 = .int .i64 kk∧zA (zFk (fun x=>qe.f x) kk (l0.drop kk)=some r)∧zA (Below w.heap.size w w'))
  case atStart=>exact⟨0,Nat.zero_le _,by omega,rfl,H',HB⟩
  case round=>
    clear H' HB;obtain⟨kk,ak,hg,rfl,HA,HB⟩:=hrel;by_cases ah:kk<l0.length
    · have aa:(kk:Int)<(l0.length:Int):=by omega
      have H:=HA.out;clear HA;rw[ypy ah,zCB]at H;replace H:=ydy.mp H;obtain⟨b,hb,H⟩:=H;obtain⟨ad,ab,hx⟩:=Kd.ZA ag.out (kk:Int) (by omega) (by omega);have ex:rd l0 (kk:Int)=l0[kk]:=by simp [rd,ah]
      rw[ex,yny]at hx;replace hx:=(HB.out.cell (yqy w _ hx)).trans hx;generalize l0[kk]=y at hx hb;clear ex
      cases ab;have HC:=zA.mk hb;clear hb
      cases b with
      | true=>
        have H2:=zA.mk H;clear H;go_wp2_with fail
        refine(qe.calls _ _ _ HC.out).mono ?_;rintro e w' ⟨rfl,hd⟩;have ae:=zA.mk (zM HB.out hd.below);clear hd HB;go_wp2;go_ret;exact⟨by rw[yey H2.out];rfl,ae.out⟩
      | false=>
        have H2:=zA.mk H;clear H;go_wp2_with fail
        refine(qe.calls _ _ _ HC.out).mono ?_;rintro e w' ⟨rfl,hd⟩;have ae:=zA.mk (zM HB.out hd.below);clear hd HB;go_wp2;go_roundg (l0.length-(kk+1))
        case measure=>omega
        case rel=>exact⟨kk+1,by omega,by omega,by go_num,H2,ae⟩
    · have aa : ¬ (kk:Int)<(l0.length:Int):=by omega
      have e:kk=l0.length:=by omega
      subst e;have H2:=zA.mk (yey (by simpa [zFk]using HA.out));clear HA;go_wp2;go_ret;exact⟨by rw[← H2.out];rfl,HB.out⟩
def zj.f (l0:List Int):Option Bool:=(qL.f l0).bind fun i=>some (decide (0≤i))
theorem zj.calls (A0:Option Addr) (c0:Nat) (l0:List Int) (r:Bool) (w:World) (aa:Kd.C (Kd.int .i64) w A0 l0.length l0) (ab:l0.length≤c0) (h:zj.f l0=some r) :
    Calls Try.prog 44 #[.slice A0 l0.length c0,.func (.func 45) #[] #[]] w fun e w'=>e = .returned (.bool r)∧Below w.heap.size w w':=by
  obtain⟨i,hi,h⟩:=ydy.mp h;have H:=zA.mk (yey h);clear h;have HI:=zA.mk hi;clear hi;have ad:=zA.mk aa;have ae:=zA.mk ab;clear aa ab;go_enter Try.func44,Try.ntmps44
  go_wp2_with fail
  refine(qL.calls _ _ _ _ _ ad.out ae.out HI.out).mono ?_;rintro e w' ⟨rfl,hd⟩;have HB:=zA.mk hd;clear hd;go_wp2;go_ret;exact⟨by rw[← H.out];rfl,HB.out⟩
end Go.Proofs.Ytbahbnhfhddlbaa.P
namespace Go.Proofs.Ytbahbnhfhddlbaa.P
open Go.RowKit Go.Proofs.YtbahbnhfhddlbaaW.PrintWords Go.Proofs.YtbahbnhfhddlbaaW.PrintLast Go.Proofs.YtbahbnhfhddlbaaW.PrintMore
attribute [local go_sem] Qj Qk JJ JK QO QP Ql Qm
set_option linter.unusedVariables false
set_option linter.unusedSimpArgs false
def qi.f (l0_0:List (List (zz))) (l1:List Int):Option (Bool):=if(l1.length:Int)=(wrap64 (7*(l0_0.length:Int)))then((zj.f l1).bind fun t102=>(if t102=true then(some false)else((qH.f l0_0).bind fun bt103=>((QD.f bt103.1 bt103.2.1 bt103.2.2 l1).bind fun t108=>(some t108)))))else(some false)
theorem qi.calls (af:Option Addr) (ag:Nat) (ab:List (List (zz))) (A1:Option Addr) (c1:Nat) (l1:List Int) (r:Bool) (w:World) (ao:Kd.C (Kd.slice 64 ZW) w af ab.length ab) (aq:ab.length≤ag) (aL:Kd.C (Kd.int .i64) w A1 l1.length l1) (aM:l1.length≤c1) (h:qi.f ab l1=some r) :
    Calls Try.prog 23 #[.agg #[.slice af ab.length ag],.slice A1 l1.length c1] w fun e w'=>e = .returned (.bool r)∧Below w.heap.size w w':=by
  have aQ:=Try.underlying31;have av:=zA.mk ao;have aw:=zA.mk aq;clear ao aq;have aE:=zA.mk aL;have aF:=zA.mk aM;clear aL aM;have HB:=zA.mk (ysy w.heap.size w);have H:(if(l1.length:Int)=(wrap64 (7*(ab.length:Int)))then((zj.f l1).bind fun t102=>(if t102=true then(some false)else((qH.f ab).bind fun ah=>((QD.f ah.1 ah.2.1 ah.2.2 l1).bind fun t108=>(some t108)))))else(some false))=some r:=h;clear h;by_cases c3:(l1.length:Int)=(wrap64 (7*(ab.length:Int)))
  · rw[if_pos c3]at H
    have aG:((l1.length:Int)==(wrap64 (7*(ab.length:Int))))=true:=beq_iff_eq.mpr c3;have aH:((l1.length:Int) != (wrap64 (7*(ab.length:Int))))=false:=bne_eq_false_iff_eq.mpr c3;clear c3;replace H:=ydy.mp H;obtain⟨t102,aN,H⟩:=H;replace H:(if t102=true then(some false)else((qH.f ab).bind fun ah=>((QD.f ah.1 ah.2.1 ah.2.2 l1).bind fun t108=>(some t108))))=some r:=H;have A4:=zA.mk aN;clear aN;by_cases c5:t102=true
    · subst c5
      rw[if_pos rfl]at H;obtain rfl:=yey H;go_enter Try.func23,Try.ntmps23
      go_wp2_with (first|((with_reducible refine zm (N:=2) rfl ?_);refine zt ?hg (N:=2) ?hd (cs:=#[.slice af ab.length ag]) (t:=31) ?hr ?_;(case hd=>rfl);(case hg=>rfl);(case hr=>first|(go_simp;done)|(go_simp;rfl));intro ad hg w6 al hb;have ai:=zA.mk (zM (by repeat(first|(with_reducible first|exact HB.out|apply zC|apply zB|apply zD)|exact HB.out)) hb);have aj:=zA.mk (al);have an:=zA.mk ((by rw[hg];exact(zP (by repeat(first|(with_reducible first|exact HB.out|apply zC|apply zB|apply zD)|exact HB.out))):w.heap.size≤ad));have ar:=zA.mk ((by rw[hg];exact(zP (by repeat(first|(with_reducible first|exact HB.out|apply zC|apply zB|apply zD)|exact HB.out))):w.heap.size≤ad));clear HB;have HB:=ai;have aa:=aj;have au:=an;have ae:=ar;clear ai aj an ar;clear hb al hg;have aI:w6.cell? ⟨ad,0,none⟩=some (.slice af ab.length ag):=(zK aa.out 0).trans rfl;have aJ:=zL aa.out 0)|(go_at_call 44;(with_reducible refine(zj.calls _ _ l1 true _ ?side1 ?side2 A4.out).mono ?_);(case side1=>repeat(first|exact(Kd.qA aE.out HB.out)|(with_reducible refine Kd.zu ?_ _)|(with_reducible refine Kd.zv ?_ _)|(with_reducible refine Kd.qK ?_)));(case side2=>exact aF.out);rintro e w8 ⟨rfl,hb⟩;have ai:=zA.mk (zN (g:=ad) (o := .cells #[.slice af ab.length ag] 31 (0,0)) (by(with_reducible repeat(first|refine zH ?_ _|refine zI ?_|refine zG ?_ _));exact aa.out) hb);have aj:=zA.mk (zM (by repeat(first|(with_reducible first|exact HB.out|apply zC|apply zB|apply zD|refine zE ?_ ae.out)|exact HB.out)) hb);clear aa;clear HB;have aa:=ai;have HB:=aj;clear ai aj;(try clear hb);(try clear hb2);(try clear hk);(try clear hi)))
      go_ret;exact⟨by first|rfl|(simp [zV,zW] <;> rfl)|(simp [*,zV,zW] <;> rfl),by repeat(first|(with_reducible first|exact HB.out|apply zC|apply zB|apply zD|refine zE ?_ ae.out)|exact HB.out)⟩
    · replace c5:=Bool.eq_false_iff.mpr c5
      subst c5;rw[if_neg (show ¬ (false=true)by decide)]at H;replace H:=ydy.mp H;obtain⟨⟨t103,t104,t105⟩,aO,H⟩:=H;replace H:((QD.f t103 t104 t105 l1).bind fun t108=>(some t108))=some r:=H;have A9:=zA.mk aO;clear aO;replace H:=ydy.mp H;obtain⟨t108,ax,H⟩:=H;replace H:(some t108)=some r:=H;have aR:=zA.mk ax;clear ax;obtain rfl:=yey H;go_enter Try.func23,Try.ntmps23
      go_wp2_with (first|((with_reducible refine zm (N:=2) rfl ?_);refine zt ?hg (N:=2) ?hd (cs:=#[.slice af ab.length ag]) (t:=31) ?hr ?_;(case hd=>rfl);(case hg=>rfl);(case hr=>first|(go_simp;done)|(go_simp;rfl));intro ad hg aS al hb;have ai:=zA.mk (zM (by repeat(first|(with_reducible first|exact HB.out|apply zC|apply zB|apply zD)|exact HB.out)) hb);have aj:=zA.mk (al);have an:=zA.mk ((by rw[hg];exact(zP (by repeat(first|(with_reducible first|exact HB.out|apply zC|apply zB|apply zD)|exact HB.out))):w.heap.size≤ad));have ar:=zA.mk ((by rw[hg];exact(zP (by repeat(first|(with_reducible first|exact HB.out|apply zC|apply zB|apply zD)|exact HB.out))):w.heap.size≤ad));clear HB;have HB:=ai;have aa:=aj;have au:=an;have ae:=ar;clear ai aj an ar;clear hb al hg;have ay:aS.cell? ⟨ad,0,none⟩=some (.slice af ab.length ag):=(zK aa.out 0).trans rfl;have az:=zL aa.out 0)|(go_at_call 44;(with_reducible refine(zj.calls _ _ l1 false _ ?side1 ?side2 A4.out).mono ?_);(case side1=>repeat(first|exact(Kd.qA aE.out HB.out)|(with_reducible refine Kd.zu ?_ _)|(with_reducible refine Kd.zv ?_ _)|(with_reducible refine Kd.qK ?_)));(case side2=>exact aF.out);rintro e aT ⟨rfl,hb⟩;have ai:=zA.mk (zN (g:=ad) (o := .cells #[.slice af ab.length ag] 31 (0,0)) (by(with_reducible repeat(first|refine zH ?_ _|refine zI ?_|refine zG ?_ _));exact aa.out) hb);have aj:=zA.mk (zM (by repeat(first|(with_reducible first|exact HB.out|apply zC|apply zB|apply zD|refine zE ?_ ae.out)|exact HB.out)) hb);clear aa;clear HB;have aa:=ai;have HB:=aj;clear ai aj;(try clear hb);(try clear hb2);(try clear hk);(try clear hi);have aA:aT.cell? ⟨ad,0,none⟩=some (.slice af ab.length ag):=(zK aa.out 0).trans rfl;have aB:=zL aa.out 0)|(go_at_call 48;(with_reducible refine(qH.calls _ _ ab t103 t104 t105 _ ?side1 ?side2 A9.out).mono ?_);(case side1=>repeat(first|exact(Kd.qA av.out HB.out)|(with_reducible refine Kd.zu ?_ _)|(with_reducible refine Kd.zv ?_ _)|(with_reducible refine Kd.qK ?_)));(case side2=>exact aw.out);rintro e aY ⟨aU,rfl,aP,hb⟩;have ai:=zA.mk (Kd.ZG aP (zP (by repeat(first|(with_reducible first|exact HB.out|apply zC|apply zB|apply zD|refine zE ?_ ae.out)|exact HB.out))));have aj:=zA.mk (zN (g:=ad) (o := .cells #[.slice af ab.length ag] 31 (0,0)) (by(with_reducible repeat(first|refine zH ?_ _|refine zI ?_|refine zG ?_ _));exact aa.out) hb);have an:=zA.mk (zM (by repeat(first|(with_reducible first|exact HB.out|apply zC|apply zB|apply zD|refine zE ?_ ae.out)|exact HB.out)) hb);clear aa;clear HB;have ak:=ai;have aa:=aj;have HB:=an;clear ai aj an;(try clear hb);(try clear hb2);(try clear hk);(try clear hi);(try clear aP);obtain⟨aV,aW,aK⟩:=Kd.ZM ak.out;subst aK)|(go_at_call 47;(with_reducible refine(QD.calls t103 t104 _ _ t105 _ _ l1 t108 _ ?side1 ?side2 ?side3 ?side4 aR.out).mono ?_);(case side1=>repeat(first|exact(Kd.zn ak.out).2.2|(with_reducible refine Kd.zu ?_ _)|(with_reducible refine Kd.zv ?_ _)|(with_reducible refine Kd.qK ?_)));(case side2=>exact(Kd.zn ak.out).2.1);(case side3=>repeat(first|exact(Kd.qA aE.out HB.out)|(with_reducible refine Kd.zu ?_ _)|(with_reducible refine Kd.zv ?_ _)|(with_reducible refine Kd.qK ?_)));(case side4=>exact aF.out);rintro e aZ ⟨rfl,hb⟩;have ai:=zA.mk (Kd.qV (by(with_reducible repeat(first|apply Kd.zR|apply Kd.zQ|apply Kd.zT));exact ak.out) hb);have aj:=zA.mk (zN (g:=ad) (o := .cells #[.slice af ab.length ag] 31 (0,0)) (by(with_reducible repeat(first|refine zH ?_ _|refine zI ?_|refine zG ?_ _));exact aa.out) hb);have an:=zA.mk (zM (by repeat(first|(with_reducible first|exact HB.out|apply zC|apply zB|apply zD|refine zE ?_ ae.out)|exact HB.out)) hb);clear ak;clear aa;clear HB;have ak:=ai;have aa:=aj;have HB:=an;clear ai aj an;(try clear hb);(try clear hb2);(try clear hk);(try clear hi)))
      go_ret;exact⟨by first|rfl|(simp [zV,zW] <;> rfl)|(simp [*,zV,zW] <;> rfl),by repeat(first|(with_reducible first|exact HB.out|apply zC|apply zB|apply zD|refine zE ?_ ae.out)|exact HB.out)⟩
  · rw[if_neg c3]at H
    have aG:((l1.length:Int)==(wrap64 (7*(ab.length:Int))))=false:=beq_eq_false_iff_ne.mpr c3;have aH:((l1.length:Int) != (wrap64 (7*(ab.length:Int))))=true:=bne_iff_ne.mpr c3;obtain rfl:=yey H;go_enter Try.func23,Try.ntmps23
    go_wp2_with (first|((with_reducible refine zm (N:=2) rfl ?_);refine zt ?hg (N:=2) ?hd (cs:=#[.slice af ab.length ag]) (t:=31) ?hr ?_;(case hd=>rfl);(case hg=>rfl);(case hr=>first|(go_simp;done)|(go_simp;rfl));intro ad hg aX al hb;have ai:=zA.mk (zM (by repeat(first|(with_reducible first|exact HB.out|apply zC|apply zB|apply zD)|exact HB.out)) hb);have aj:=zA.mk (al);have an:=zA.mk ((by rw[hg];exact(zP (by repeat(first|(with_reducible first|exact HB.out|apply zC|apply zB|apply zD)|exact HB.out))):w.heap.size≤ad));have ar:=zA.mk ((by rw[hg];exact(zP (by repeat(first|(with_reducible first|exact HB.out|apply zC|apply zB|apply zD)|exact HB.out))):w.heap.size≤ad));clear HB;have HB:=ai;have aa:=aj;have au:=an;have ae:=ar;clear ai aj an ar;clear hb al hg;have aC:aX.cell? ⟨ad,0,none⟩=some (.slice af ab.length ag):=(zK aa.out 0).trans rfl;have aD:=zL aa.out 0))
    go_ret;exact⟨by first|rfl|(simp [zV,zW] <;> rfl)|(simp [*,zV,zW] <;> rfl),by repeat(first|(with_reducible first|exact HB.out|apply zC|apply zB|apply zD|refine zE ?_ ae.out)|exact HB.out)⟩
end Go.Proofs.Ytbahbnhfhddlbaa.P
namespace Go.Proofs.Ytbahbnhfhddlbaa.Lib
set_option linter.unusedVariables false
open Go.RowKit Go.Proofs.YtbahbnhfhddlbaaW.PrintWords
theorem zEk {σ ρ:Type} (L:Nat → σ→Option ρ) (I : σ→Prop) (m : σ→Nat) (g : σ → ρ)
    (h : ∀ s,I s→(∃ K,∀ k,K≤k→L (k+1) s=some (g s))∨(∃ s' K,I s' ∧ m s' < m s∧g s' = g s ∧ ∀ k,K≤k→L (k+1) s=L k s')) :
    ∀ s,I s→Ev (fun k=>L k s) (g s):=by
  have key : ∀ (n:Nat) (s : σ),m s<n→I s→Ev (fun k=>L k s) (g s):=by
    intro n;induction n with
    | zero=>intro s hs;omega
    | succ n ih=>
      intro s hs hi;rcases h s hi with ⟨K,hK⟩|⟨s',K,aa,hm,hg,hK⟩
      · refine⟨K+1,fun k hk=>?_⟩
        obtain⟨j,rfl⟩ : ∃ j,k=j+1:=⟨k-1,by omega⟩
        exact hK j (by omega)
      · obtain⟨K',ab⟩:=ih s' (by omega) aa
        refine⟨max K K' + 1,fun k hk=>?_⟩;obtain⟨j,rfl⟩ : ∃ j,k=j+1:=⟨k-1,by omega⟩
        show L (j+1) s=some (g s);rw[hK j (by omega),← hg];exact ab j (by omega)
  intro s hi;exact key (m s+1) s (by omega) hi
theorem zA7 {σ ρ:Type} (L:Nat → σ→Option ρ) (I : σ→Prop) (m : σ→Nat) (g : σ → ρ)
    (h : ∀ s,I s→(∀ k,L (k+1) s=some (g s))∨(∃ s',I s' ∧ m s' < m s∧g s' = g s ∧ ∀ k,L (k+1) s=L k s')) :
    ∀ s,I s→Ev (fun k=>L k s) (g s):=
  zEk L I m g fun s hi=>by
    rcases h s hi with h1|⟨s',h1,h2,h3,h4⟩
    (exact .inl ⟨0,fun k _=>h1 k⟩);(exact .inr ⟨s',0,h1,h2,h3,fun k _=>h4 k⟩)
theorem qZ {x:Int} (h0 : -9223372036854775808≤x) (h1:x≤9223372036854775807):wrap64 x=x:=by
  unfold wrap64;omega
theorem ZK {n:Nat} (h:n≤4611686018427387904):wrap64 ((n:Int)+1)=((n+1:Nat):Int):=by
  rw[qZ (by omega) (by omega)];rfl
theorem zBA (xs:List Int) (n:Nat):rd xs (n:Int)=xs.getD n 0:=by simp [rd]
theorem zCC (xs:List Int) (n:Nat) (h:n<xs.length):rd xs (n:Int)=xs[n]:=by simp [rd,h]
theorem Zp {α:Type} {c:Prop} [Decidable c] {f g:Nat→Option α} {r : α} (h : ¬ c) (k:Ev g r):Ev (fun n=>if c then f n else g n) r:=Ev.congr (fun _=>if_neg h) k
theorem qu {α:Type} {c:Prop} [Decidable c] {f g:Nat→Option α} {r : α} (h:c) (k:Ev f r):Ev (fun n=>if c then f n else g n) r:=Ev.congr (fun _=>if_pos h) k
theorem Js {α:Type} {r r' : α} (h:r=r'):Ev (fun _=>some r) r':=h ▸ Ev.now r
theorem Qp {α:Type} {o:Option α} {r : α} (h:o=some r):Ev (fun _=>o) r:=⟨0,fun _ _=>h⟩
theorem zEC {α:Type} {g:Nat→Option α} {r : α} (h : ∀ k,g k=some r):Ev g r:=⟨0,fun k _=>h k⟩
theorem qU {α:Type} {g f:Nat→Option α} {r : α} (h : ∀ k,g (k+1)=f k) (k:Ev f r):Ev g r:=Ev.step h k
theorem zFK {α:Type} {f : α→Option Bool} {p : α→Bool} : ∀ (i:Nat) (l:List α),(∀ x∈l,f x=some (p x)) → ∃ r,zFk f i l=some r∧decide (0≤r)=l.any p
  | i,[],_=>⟨-1,rfl,rfl⟩
  | i,x :: xs,h=>by
    rw[zCB,h x (List.mem_cons_self ..),yfy]
    cases hp:p x with
    | true=>exact⟨i,by rw[if_pos rfl],by simp [hp]⟩
    | false=>
      obtain⟨r,h1,h2⟩:=zFK (i+1) xs (fun y hy=>h y (List.mem_cons_of_mem _ hy));exact⟨r,by rw[if_neg (by simp)];exact h1,by rw[h2];simp [hp]⟩
theorem contO {α:Type} {f : α→Option Bool} {p : α→Bool} (l:List α) (h : ∀ x∈l,f x=some (p x)):(zFk f 0 l).bind (fun i=>some (decide (0≤i)))=some (l.any p):=by
  obtain⟨r,h1,h2⟩:=zFK 0 l h;rw[h1,yfy,h2]
def ZQ (a:Int):Nat→List Int
  | 0 => []
  | n+1=>a :: ZQ (a+1) n
theorem Zm (a:Int) (n:Nat):(ZQ a n).length=n:=by
  induction n generalizing a with
  | zero=>rfl
  | succ n ih=>simp [ZQ,ih]
theorem zCn (a:Int) (n i:Nat) (h:i<n):(ZQ a n).getD i 0=a+i:=by
  induction n generalizing a i with
  | zero=>omega
  | succ n ih=>
    cases i with
    | zero=>simp [ZQ]
    | succ i=>simp only [ZQ,List.getD_cons_succ];rw[ih (a+1) i (by omega)];omega
theorem zEl (a:Int) (n:Nat):ZQ a (n+1)=ZQ a n ++ [a+n]:=by
  induction n generalizing a with
  | zero=>simp [ZQ]
  | succ n ih=>rw[ZQ,ih (a+1)];simp [ZQ];omega
end Go.Proofs.Ytbahbnhfhddlbaa.Lib
namespace Go.Proofs.Ytbahbnhfhddlbaa.Lib
open Go.RowKit Go.Proofs.YtbahbnhfhddlbaaW.PrintWords
set_option linter.unusedVariables false
def uni (s:List Int) (i k:Int):List Int:=s.map fun x=>if x=rd s k then rd s i else x
def joi (s:List Int) (i k:Int):List Int:=s.map fun x=>if x=max (rd s i) (rd s k)then min (rd s i) (rd s k)else x
def Ker (a b:List Int):Prop:=a.length=b.length ∧ ∀ i j:Nat,i<a.length→j<a.length→(a.getD i 0=a.getD j 0↔b.getD i 0=b.getD j 0)
theorem Ker.refl (a:List Int):Ker a a:=⟨rfl,fun _ _ _ _=>Iff.rfl⟩
theorem zCD {α β:Type} (f : α → β) (l:List α) (i:Nat) (d : β) (e : α) (h:i<l.length):(l.map f).getD i d=f (l.getD i e):=by
  simp [List.getD_eq_getElem?_getD,h]
theorem zA1 (s:List Int) (i k:Int):(uni s i k).length=s.length:=by simp [uni]
theorem Qq (s:List Int) (i k:Int):(joi s i k).length=s.length:=by simp [joi]
theorem zGW (s:List Int) (i k:Int) (n:Nat) (h:n<s.length):(uni s i k).getD n 0=if s.getD n 0=rd s k then rd s i else s.getD n 0:=zCD _ s n 0 0 h
theorem zEm (s:List Int) (i k:Int) (n:Nat) (h:n<s.length):(joi s i k).getD n 0=if s.getD n 0=max (rd s i) (rd s k)then min (rd s i) (rd s k)else s.getD n 0:=zCD _ s n 0 0 h
theorem zHP (s:List Int) (i k:Int) (m n:Nat) (hm:m<s.length) (hn:n<s.length) :
    (uni s i k).getD m 0=(uni s i k).getD n 0↔(s.getD m 0=s.getD n 0∨((s.getD m 0=rd s i∨s.getD m 0=rd s k)∧(s.getD n 0=rd s i∨s.getD n 0=rd s k))):=by
  rw[zGW s i k m hm,zGW s i k n hn];generalize s.getD m 0=x;generalize s.getD n 0=y;generalize rd s i=p;generalize rd s k=q;split <;> split <;> omega
theorem zHQ (s:List Int) (i k:Int) (m n:Nat) (hm:m<s.length) (hn:n<s.length) :
    (joi s i k).getD m 0=(joi s i k).getD n 0↔(s.getD m 0=s.getD n 0∨((s.getD m 0=rd s i∨s.getD m 0=rd s k)∧(s.getD n 0=rd s i∨s.getD n 0=rd s k))):=by
  rw[zEm s i k m hm,zEm s i k n hn];generalize s.getD m 0=x;generalize s.getD n 0=y;generalize rd s i=p;generalize rd s k=q;split <;> split <;> omega
theorem zGX (s:List Int) (i:Int):rd s i=s.getD i.toNat 0:=rfl
theorem Ker.zIA {a b:List Int} (h:Ker a b) {i k:Int} (ae:0≤i) (af:i<a.length) (ag:0≤k) (ah:k<a.length):Ker (uni a i k) (joi b i k):=by
  refine⟨by rw[zA1,Qq];exact h.1,fun m n hm hn=>?_⟩;rw[zA1]at hm hn;have ab:m<b.length:=by rw[← h.1];exact hm
  have ad:n<b.length:=by rw[← h.1];exact hn
  rw[zHP a i k m n hm hn,zHQ b i k m n ab ad];have hi2:i.toNat<a.length:=by omega
  have aa:k.toNat<a.length:=by omega
  simp only [zGX];rw[h.2 m n hm hn,h.2 m _ hm hi2,h.2 m _ hm aa,h.2 n _ hn hi2,h.2 n _ hn aa]
def zAa:List Int→List Int→List Int
  | _,[] => []
  | seen,x :: xs=>if x∈seen then(seen.idxOf x:Int) :: zAa seen xs else(seen.length:Int) :: zAa (seen ++ [x]) xs
def zED (l:List Int):List Int:=zAa [] l
theorem zBg : ∀ (l seen:List Int),(zAa seen l).length=l.length
  | [],_=>rfl
  | x :: xs,seen=>by
    rw[zAa];split <;> simp [zBg xs]
theorem zEn (l:List Int):(zED l).length=l.length:=zBg l []
def Cons2 (P:List (Int × Int)):Prop := ∀ p∈P,∀ q∈P,p.1=q.1↔p.2=q.2
theorem zIB (S:List (Int × Int)) (p:Int × Int) (h : ∀ q∈S,q.1=p.1↔q.2=p.2):p.1∈S.map (·.1)↔p.2∈S.map (·.2):=by
  simp only [List.mem_map];exact⟨fun⟨q,hq,e⟩=>⟨q,hq,(h q hq).1 e⟩,fun⟨q,hq,e⟩=>⟨q,hq,(h q hq).2 e⟩⟩
theorem zGY : ∀ (S:List (Int × Int)) (p:Int × Int),(∀ q∈S,q.1=p.1↔q.2=p.2)→(S.map (·.1)).idxOf p.1=(S.map (·.2)).idxOf p.2
  | [],_,_=>rfl
  | q :: S,p,h=>by
    have h0:=h q (List.mem_cons_self ..);have ih:=zGY S p (fun r hr=>h r (List.mem_cons_of_mem _ hr));simp only [yjy,List.idxOf_cons];by_cases e:q.1=p.1
    · have e2:=h0.1 e
      simp [e,e2]
    · have e2 : ¬ q.2=p.2:=fun e2=>e (h0.2 e2)
      have b1:(q.1==p.1)=false:=by simpa using e
      have b2:(q.2==p.2)=false:=by simpa using e2
      rw[b1,b2,ih]
theorem zAn : ∀ (L S:List (Int × Int)),Cons2 (S++L)→zAa (S.map (·.1)) (L.map (·.1))=zAa (S.map (·.2)) (L.map (·.2))
  | [],_,_=>rfl
  | p :: L,S,h=>by
    have hS : ∀ q∈S,q.1=p.1↔q.2=p.2:=fun q hq=>h q (List.mem_append_left _ hq) p (List.mem_append_right _ (List.mem_cons_self ..))
    have hm:=zIB S p hS;simp only [yjy,zAa];by_cases e:p.1∈S.map (·.1)
    (rw[if_pos e,if_pos (hm.1 e),zGY S p hS,zAn L S (fun a ha b hb=>h a (by simp only [List.mem_append,List.mem_cons]at ha ⊢;rcases ha with ha|ha <;> simp [ha]) b (by simp only [List.mem_append,List.mem_cons]at hb ⊢;rcases hb with hb|hb <;> simp [hb]))]);(rw[if_neg e,if_neg (fun e2=>e (hm.2 e2))];have ih:=zAn L (S ++ [p]) (by rw[List.append_assoc];exact h);simp only [List.map_append,yjy,yky]at ih;rw[ih,List.length_map,List.length_map])
theorem Ker.zED {a b:List Int} (h:Ker a b):zED a=zED b:=by
  have ad:(a.zip b).map (·.1)=a:=by
    rw[List.map_fst_zip];exact Nat.le_of_eq h.1
  have ae:(a.zip b).map (·.2)=b:=by
    rw[List.map_snd_zip];exact Nat.le_of_eq h.1.symm
  have hc:Cons2 (a.zip b):=by
    intro p hp q hq;obtain⟨i,hi,rfl⟩:=List.getElem_of_mem hp;obtain⟨j,hj,rfl⟩:=List.getElem_of_mem hq;rw[List.length_zip]at hi hj;have aa:i<a.length:=by omega
    have ab:j<a.length:=by omega
    have hi2:i<b.length:=by omega
    have af:j<b.length:=by omega
    have:=h.2 i j aa ab;simpa [List.getElem_zip,List.getD_eq_getElem?_getD,aa,ab,hi2,af]using this
  have:=zAn (a.zip b) [] (by rw[List.nil_append];exact hc);rw[ad,ae]at this;exact this
theorem zHr (a x:Int) (n:Nat):x∈ZQ a n↔a≤x∧x<a+n:=by
  induction n generalizing a with
  | zero=>simp [ZQ];try omega
  | succ n ih=>rw[ZQ,List.mem_cons,ih];omega
end Go.Proofs.Ytbahbnhfhddlbaa.Lib
namespace Go.Proofs.Ytbahbnhfhddlbaa.P
open Go.RowKit Go.Proofs.YtbahbnhfhddlbaaW.PrintWords Go.Proofs.YtbahbnhfhddlbaaW.PrintLast Go.Proofs.YtbahbnhfhddlbaaW.PrintMore
attribute [local go_sem] Qj Qk JJ JK QO QP Ql Qm
set_option linter.unusedVariables false
set_option linter.unusedSimpArgs false
structure zDU (seen:List Int) (D:DataW Unit):Prop where
  tidy:Maps.Tidy D
  size:Maps.size D=seen.length
  has : ∀ x,Maps.has D (.int .i64 x)=seen.contains x
  at_ : ∀ x,x∈seen→D.atKey (.int .i64 x) (.lit (.int .i64 0)) = .lit (.int .i64 (seen.idxOf x:Int))
theorem zDU.empty:zDU [] (.map []):=⟨Maps.tidy_empty,rfl,fun _=>rfl,fun _ h=>by cases h⟩
theorem zDU.put {seen:List Int} {D:DataW Unit} (h:zDU seen D) {x:Int} (hx:x ∉ seen):zDU (seen ++ [x]) (D.put (.int .i64 x) (.lit (.int .i64 (seen.length:Int)))):=by
  refine⟨h.tidy.put (show WideAt.IsKeyLit (.int .i64 x)from trivial) _,?_,fun y=>?_,fun y hy=>?_⟩
  · rw[Maps.size_put h.tidy,h.has,h.size]
    have:seen.contains x=false:=by simpa using hx
    rw[this];simp
  · by_cases e:y=x
    · subst e
      rw[Maps.has_put_same h.tidy.isMap (show WideAt.IsKeyLit (.int .i64 y)from trivial)];simp
    · rw[Maps.has_put_other (by simpa using e),h.has]
      simp [e]
  · by_cases e:y=x
    · subst e
      rw[Maps.atKey_put_same h.tidy.isMap (show WideAt.IsKeyLit (.int .i64 y)from trivial),List.idxOf_append];simp [hx]
    · rw[Maps.atKey_put_other (by simpa using e)]
      have hm:y∈seen:=by simpa [e]using hy
      rw[h.at_ y hm,List.idxOf_append,if_pos hm]
theorem zDU.get {seen:List Int} {D:DataW Unit} (h:zDU seen D) {x c:Int} (hx:x∈seen) (aa:D.atKey (.int .i64 x) (.lit (.int .i64 0)) = .lit (.int .i64 c)):c=(seen.idxOf x:Int):=by
  have:=(h.at_ x hx).symm.trans aa;simpa using this.symm
theorem zFL {a:Int} (h0:0≤a) (h1:a≤1000000):(Lit.int .i64 a).wf=true:=by
  unfold Lit.wf;rw[Bool.and_eq_true];exact⟨ygy (by show(-9223372036854775808:Int)≤a;omega),ygy (by show a≤(9223372036854775807:Int);omega)⟩
def zEo (l:List Int):Bool:=decide (l.length≤1000000)&&l.all fun x=>decide (0≤x∧x≤1000000)
def JC.f (l0:List Int):Option (List Int):=if zEo l0=true then some (Lib.zED l0)else none
theorem JC.calls (A0:Option Addr) (c0:Nat) (l0:List Int) (r:List Int) (w:World) (aG:Kd.C (Kd.int .i64) w A0 l0.length l0) (aH:l0.length≤c0) (h:JC.f l0=some r) :
    Calls Try.prog 55 #[.slice A0 l0.length c0] w fun e w' => ∃ aI:Value,e = .returned (aI)∧Kd.R (Kd.int .i64) 2 w' w.heap.size (fun _=>True) aI r∧Below w.heap.size w w':=by
  unfold JC.f at h;by_cases ao:zEo l0=true
  case neg=>rw[if_neg ao]at h;cases h
  rw[if_pos ao]at h;have hr:=yey h;subst hr;clear h;simp only [zEo,Bool.and_eq_true,decide_eq_true_eq,List.all_eq_true]at ao;obtain⟨hlen,ak⟩:=ao;have aq:=zA.mk ak;have HR:=zA.mk aG;have HC:=zA.mk aH;clear aG aH ak;have aU := @run_makeMap Try.prog;have HK:=zA.mk (Maps.int_keyed Try.underlying2:Maps.Keyed Try.prog 2);have HZ:=zA.mk (show ∀ w:World,(zeroValue 2).run Try.prog w = .ok (.int .i64 0) w from fun w=>by kernel_rfl);have HA:zA ([]++Lib.zAa [] (l0.drop 0)=Lib.zED l0):=⟨rfl⟩;generalize Lib.zED l0=R at HA ⊢;go_enter Try.func55,Try.ntmps55
  go_wp2;go_loopg [4,12] l0.length (fun gg v4 v12 w' => ∃ (i:Nat) (seen acc:List Int) (D:DataW Unit),i≤l0.length∧l0.length-i≤gg∧v12 = .int .i64 i∧zA (acc++Lib.zAa seen (l0.drop i)=R)∧zA (zDU seen D∧seen.length≤i∧acc.length=i)∧zA (w'.ownsMap Try.prog 2 (plainElem Try.prog 2) w.heap.size i D)∧zA (Kd.R (Kd.int .i64) 2 w' w.heap.size (fun k=>k≠w.heap.size) v4 acc)∧zA (Below w.heap.size w w' ∧ w.heap.size+1≤w'.heap.size))
  case atStart=>exact⟨0,[],[],.map [],Nat.zero_le _,by omega,rfl,HA,⟨zDU.empty,yry _,rfl⟩,⟨World.ownsMap_made _ _ _ _⟩,⟨Kd.zAZ _ _ _ _ _⟩,⟨zC (ysy _ _) _,by simp⟩⟩
  case round=>
    clear HA;obtain⟨i,seen,acc,D,hi,hg,rfl,HA,HM,HO,HV,HB⟩:=hrel;by_cases ar:i<l0.length
    · have aK:(i:Int)<(l0.length:Int):=by omega
      obtain⟨ad,e1,hx⟩:=Kd.ZA HR.out (i:Int) (by omega) (by omega);have ex:rd l0 (i:Int)=l0[i]:=by simp [rd,ar]
      rw[ex,yny]at hx;replace hx:=(HB.out.1.cell (yqy w _ hx)).trans hx;have hy:=aq.out l0[i] (yoy ar);have aj:=HA.out;rw[ypy ar,Lib.zAa]at aj;have al:=zA.mk aj;clear HA aj ex;generalize l0[i]=y at hx hy al
      cases e1;have ab:=zA.mk (Maps.keyOf_int_mk Try.underlying2 (zFL hy.1 hy.2));clear hy;by_cases hm:y∈seen
      · have au:Maps.has D (.int .i64 y)=true:=by rw[HM.out.1.has];simpa using hm
        have aM:=zA.mk hm;have av:zA (acc++(seen.idxOf y:Int) :: Lib.zAa seen (l0.drop (i+1))=R):=⟨by have h:=al.out;rwa [if_pos hm]at h⟩;clear hm al;go_wp2_with (first
          | (at_lookup;refine wpList_lookup_own_ok_int _ rfl _ _ 102 rfl 2 2 .i64 HK.out Try.underlying102 Try.underlying2 (HZ.out _) w.heap.size i D rfl HO.out _ _ rfl ab.out ?_;intro c1 ag ah;clear ag ah)
          | (at_lookup;refine wpList_lookup_own_int _ rfl _ _ 102 rfl 2 2 .i64 HK.out Try.underlying102 Try.underlying2 (HZ.out _) w.heap.size i D rfl HO.out _ _ rfl ab.out ?_;intro c ae aw;have ax:=zA.mk (HM.out.1.get aM.out ae);clear ae aw)
          | ((with_reducible refine ZX (b := .append) (xs:=#[.tmp 28,.tmp 32]) rfl ?_);at_builtin;refine Kd.Je (Kd.int .i64) (w0:=w) w.heap.size rfl (.tmp 28) (.tmp 32) 25 2 (.int .i64 0) 8 rfl Try.underlying25 JL rfl (by decide) (by omega) u4 acc c [.int .i64 c] (fun k=>k≠w.heap.size) (fun _=>False) rfl rfl ?aP (fun _ hk=>hk.elim) ?aF ?aO ?aB ?aS ?aL ?_;(case aP=>exact rfl);(case aB=>exact HB.out.1);(case aF=>exact(fun k hk e=>by have:=HB.out.2;omega));(case aO=>exact HV.out);(case aS=>exact HB.out.1.size);(case aL=>have:=HM.out.2.2;omega);intro ay w4 ho hb ai ae;have az:=zA.mk ((HO.out.kept ai (fun e=>HV.out.1 _ e.symm rfl)).mono (Nat.le_succ i));have aA:=zA.mk ho;have aC:=zA.mk (And.intro hb (Nat.le_trans HB.out.2 ai.size));clear HO HV HB ho hb ai ae))
        go_roundg (l0.length-(i+1))
        case measure=>omega
        case rel=>exact⟨i+1,seen,acc ++ [c],D,by omega,by omega,by go_num,⟨by have h:=av.out;rw[← ax.out]at h;rw[List.append_assoc];exact h⟩,⟨HM.out.1,by have:=HM.out.2.1;omega,by have:=HM.out.2.2;simp;omega⟩,az,aA,aC⟩
      · have au:Maps.has D (.int .i64 y)=false:=by rw[HM.out.1.has];simpa using hm
        have aJ:=zA.mk (HM.out.1.put hm);have av:zA (acc++(seen.length:Int) :: Lib.zAa (seen ++ [y]) (l0.drop (i+1))=R):=⟨by have h:=al.out;rwa [if_neg hm]at h⟩;have aN:zA ((seen ++ [y]).idxOf y=seen.length):=⟨by rw[List.idxOf_append,if_neg hm];simp⟩;have aQ:Maps.size D=seen.length:=HM.out.1.size;clear hm al;have aR:=zA.mk HM.out.2.1;have aT:=zA.mk (show(Lit.int .i64 ((seen.length:Nat):Int)).wf=true from zFL (by omega) (by have:=HM.out.2.1;omega));go_wp2_with (first
          | (at_lookup;refine wpList_lookup_own_ok_int _ rfl _ _ 102 rfl 2 2 .i64 HK.out Try.underlying102 Try.underlying2 (HZ.out _) w.heap.size i D rfl HO.out _ _ rfl ab.out ?_;intro c1 ag ah;clear ag ah)
          | (at_len;refine wpList_len_own _ rfl _ 102 rfl 2 2 Try.underlying102 _ w.heap.size i D rfl HO.out ?_;rw[aQ])
          | (at_mapUpdate;refine wpList_mapUpdate_own _ rfl _ _ _ 102 rfl 2 2 HK.out Try.underlying102 _ w.heap.size i D rfl HO.out (by unfold maxLen;omega) _ _ _ rfl rfl ab.out (.lit (.int .i64 (seen.length:Int))) [] (plainElem_int Try.underlying2 aT.out) ?_;intro w1 af aa;have aD:=zA.mk af;have aE:=zA.mk (Kd.zGA HV.out aa (fun k hk e=>hk (yey e)));have an:=zA.mk (And.intro (HB.out.1.grown aa HB.out.1.size (fun j hj=>by cases hj;exact yry _)) (Nat.le_trans HB.out.2 aa.size));clear HO HV HB af aa)
          | (at_lookup;refine wpList_lookup_own_int _ rfl _ _ 102 rfl 2 2 .i64 HK.out Try.underlying102 Try.underlying2 (HZ.out _) w.heap.size (i+1) _ rfl aD.out _ _ rfl ab.out ?_;intro c ae aw;have ax:=zA.mk (aJ.out.get (by simp) ae);clear ae aw)
          | ((with_reducible refine ZX (b := .append) (xs:=#[.tmp 28,.tmp 32]) rfl ?_);at_builtin;refine Kd.Je (Kd.int .i64) (w0:=w) w.heap.size rfl (.tmp 28) (.tmp 32) 25 2 (.int .i64 0) 8 rfl Try.underlying25 JL rfl (by decide) (by omega) u4 acc c [.int .i64 c] (fun k=>k≠w.heap.size) (fun _=>False) rfl rfl ?aP (fun _ hk=>hk.elim) ?aF ?aO ?aB ?aS ?aL ?_;(case aP=>exact rfl);(case aB=>exact an.out.1);(case aF=>exact(fun k hk e=>by have:=an.out.2;omega));(case aO=>exact aE.out);(case aS=>exact an.out.1.size);(case aL=>have:=HM.out.2.2;omega);intro ay w4 ho hb ai ae;have az:=zA.mk (aD.out.kept ai (fun e=>aE.out.1 _ e.symm rfl));have aA:=zA.mk ho;have aC:=zA.mk (And.intro hb (Nat.le_trans an.out.2 ai.size));clear aD aE an ho hb ai ae))
        go_roundg (l0.length-(i+1))
        case measure=>omega
        case rel=>exact⟨i+1,seen ++ [y],acc ++ [c],_,by omega,by omega,by go_num,⟨by have h:=av.out;rw[← aN.out,← ax.out]at h;rw[List.append_assoc];exact h⟩,⟨aJ.out,by have:=aR.out;simp;omega,by have:=HM.out.2.2;simp;omega⟩,az,aA,aC⟩
    · obtain rfl:i=l0.length:=by omega
      have aj:=HA.out;rw[List.drop_length,Lib.zAa,List.append_nil]at aj;subst aj;go_wp2;go_ret;exact⟨_,rfl,Kd.zk HV.out (fun _ _=>trivial),HB.out.1⟩
theorem zEp {f c:Int} (h:c∈zCS [f]):sm c∧c≠f:=by
  unfold zCS at h;obtain⟨h1,h2⟩:=List.mem_filter.1 h;refine⟨?_,fun e=>by simp [e]at h2⟩;simp only [List.mem_cons,List.not_mem_nil,or_false]at h1;unfold sm;omega
theorem zGZ {f:Int} (h:sm f):(zCS [f]).length=3:=by
  obtain⟨h0,h1⟩:=h;rcases(show f=0∨f=1∨f=2∨f=3 by omega)with rfl|rfl|rfl|rfl <;> decide
theorem wid_ {x:Int} (h0 : -9223372036854775808≤x) (h1:x≤9223372036854775807):wrap64 x=x:=by unfold wrap64;omega
theorem zHR {w:World} {g:Nat} {T:TypeId} {a b c d e f:Int} (h:w.heap[g]?=some (.cells #[.int .i64 a,.int .i64 b,.int .i64 c,.int .i64 d] T (0,0))) (h0:0≤f) (h1:f≤3) (he:rd [a,b,c,d] f=e):w.cell? ⟨g,f.toNat,none⟩=some (.int .i64 e):=by
  rw[JU h f h0 h1,he]
theorem zCE (n:Nat) (hn:n≤1000000) : ∀ (d i:Nat) (xs:List Int),i+d=n→xs.length=i→ZC.l0 (d+1) xs (n:Int) (i:Int)=some (xs++Lib.ZQ (i:Int) d)
  | 0,i,xs,h,hl=>by rw[ZC.l0,if_neg (by omega)];simp [Lib.ZQ]
  | d+1,i,xs,h,hl=>by
    have e1:wrap64 ((i:Int)+1)=((i+1:Nat):Int):=by rw[wid_ (by omega) (by omega)];rfl
    rw[ZC.l0,if_pos (by omega),if_pos (by omega),e1,zCE n hn d (i+1) _ (by omega) (by simp [hl]),Lib.ZQ,List.append_assoc];rfl
theorem zEq (n:Nat) (hn:n≤1000000):ZC.f (n+1) (n:Int)=some (Lib.ZQ 0 n):=by
  have h:=zCE n hn n 0 [] (by omega) rfl;exact h
def zFl (l:List (List zz)):Prop:=l.length≤8∧(∀ r∈l,r.length≤4) ∧ ∀ r∈l,∀ x∈r,¬ x.f0<0→x.f0<(l.length:Int)∧0≤x.f1∧x.f1≤23
instance (l:List (List zz)):Decidable (zFl l):=by unfold zFl;infer_instance
def Ji.f (l:List Int) (i k:Int):Option (List Int):=if 0≤i∧i<l.length∧0≤k∧k<l.length then some (Lib.uni l i k)else none
theorem zHS {G:Int→Int} {l cur:List Int} {n:Nat} (h:cur=(l.take n).map G++l.drop n) (hn:n<l.length):rd cur (n:Int)=l[n]:=by
  subst h;have h1:((l.take n).map G).length=n:=by simp;omega
  simp only [rd,yny,List.getD_eq_getElem?_getD];rw[List.getElem?_append_right (by omega),h1,Nat.sub_self,List.getElem?_drop];simp [hn]
theorem zGa {G:Int→Int} {l cur:List Int} {n:Nat} (h:cur=(l.take n).map G++l.drop n) (hn:n<l.length) (e:G l[n]=l[n]):cur=(l.take (n+1)).map G++l.drop (n+1):=by
  subst h;rw[ypy hn,List.take_succ_eq_append_getElem hn,List.map_append,yjy,yky,e,List.append_assoc];rfl
theorem zHT {G:Int→Int} {l cur:List Int} {n:Nat} (h:cur=(l.take n).map G++l.drop n) (hn:n<l.length):cur.set n (G l[n])=(l.take (n+1)).map G++l.drop (n+1):=by
  subst h;have h1:((l.take n).map G).length=n:=by simp;omega
  rw[List.set_append_right _ _ (by omega),h1,Nat.sub_self,ypy hn,yby,List.take_succ_eq_append_getElem hn,List.map_append,yjy,yky,List.append_assoc];rfl
theorem Ji.calls (ab:Nat→Prop) (v:Value) (l:List Int) (i k:Int) (r:List Int) (w0 w:World) (hB:Below w0.heap.size w0 w) (ad:Kd.R (Kd.int .i64) 2 w w0.heap.size ab v l) (h:Ji.f l i k=some r) :
    Calls Try.prog 54 #[v,.int .i64 i,.int .i64 k] w fun e w'=>e = .returned (.tuple #[])∧Kd.R (Kd.int .i64) 2 w' w0.heap.size ab v r∧Below w0.heap.size w0 w' ∧ Kept w w' ab:=by
  unfold Ji.f at h;by_cases ah:0≤i∧i<l.length∧0≤k∧k<l.length
  case neg=>rw[if_neg ah]at h;cases h
  rw[if_pos ah]at h;have hr:=yey h;obtain⟨al,an,ao,aq⟩:=ah;obtain⟨g,cap,rfl,ar,_,_⟩:=Kd.JV ad (by omega);have au:l.length≤9223372036854775807:=(Kd.zGD (Kd.zn ad).2.2);have q0:=(Kd.ZZ 0 ad k ao aq).1;have q1:=(Kd.ZZ 0 ad i al an).1;replace q0:w.cell? ⟨g,k.toNat,none⟩=some (.int .i64 (rd l k)):=q0;replace q1:w.cell? ⟨g,i.toNat,none⟩=some (.int .i64 (rd l i)):=q1;have hR:zA (l.map (fun x=>if x=rd l k then rd l i else x)=r):=⟨hr⟩;clear hr h;generalize rd l k=q at q0 hR;generalize rd l i=p at q1 hR;have HO:=zA.mk ad;have HB:=zA.mk hB;have HP:=zA.mk (ad.1 g rfl);clear ad hB;go_enter Try.func54,Try.ntmps54
  go_wp2;refine QK (n:=10) (S:=fun w'=>w'.cell? ⟨g,k.toNat,none⟩=some (.int .i64 q)∧w'.cell? ⟨g,i.toNat,none⟩=some (.int .i64 p)) (ds := []) #[false,false,false,false,false,false,false,false,false,false] (by kernel_rfl) rfl rfl ⟨q0,q1⟩ (fun aa=>?_);refine zf (i:=0) (N:=some 10) (v:=?_) (a':=?_) #[true,false,false,false,false,false,false,false,false,false] rfl rfl (by kernel_rfl) (fun _ _ _ h=>h) (Or.inl ⟨by rfl,?_⟩) ?_ ?_;rotate_left;(focus intro w';go_simp;with_reducible rfl);rotate_left;(simp only [Act.put,yay,yby,ycy,zY,za];rfl);refine zf (i:=1) (N:=some 11) (v:=?_) (a':=?_) #[true,true,false,false,false,false,false,false,false,false] rfl rfl (by kernel_rfl) (fun _ _ _ h=>h) (Or.inl ⟨by rfl,?_⟩) ?_ ?_;rotate_left;(focus intro w';go_simp;with_reducible rfl);rotate_left;(simp only [Act.put,yay,yby,ycy,zY,za];rfl);refine zf (i:=2) (N:=some 12) (v:=?_) (a':=?_) #[true,true,true,false,false,false,false,false,false,false] rfl rfl (by kernel_rfl) (fun _ _ _ h=>h) (Or.inl ⟨by rfl,?_⟩) ?_ ?_;rotate_left;(focus intro w';go_simp;with_reducible rfl);rotate_left;(simp only [Act.put,yay,yby,ycy,zY,za];rfl);refine ZY (i:=3) (N:=some 13) (v:=?_) (a':=?_) #[true,true,true,true,false,false,false,false,false,false] rfl rfl (by kernel_rfl) (fun _ _ _ h=>h) (Or.inl ⟨by rfl,?_⟩) aa ?_ ?_;rotate_left;(focus rintro w' ⟨s0,s1⟩;go_simp;with_reducible rfl);rotate_left;(simp only [Act.put,yay,yby,ycy,zY,za];rfl);refine zf (i:=4) (N:=some 14) (v:=?_) (a':=?_) #[true,true,true,true,true,false,false,false,false,false] rfl rfl (by kernel_rfl) (fun _ _ _ h=>h) (Or.inl ⟨by rfl,?_⟩) ?_ ?_;rotate_left;(focus intro w';go_simp;with_reducible rfl);rotate_left;(simp only [Act.put,yay,yby,ycy,zY,za];rfl);refine zf (i:=5) (N:=some 15) (v:=?_) (a':=?_) #[true,true,true,true,true,true,false,false,false,false] rfl rfl (by kernel_rfl) (fun _ _ _ h=>h) (Or.inl ⟨by rfl,?_⟩) ?_ ?_;rotate_left;(focus intro w';go_simp;with_reducible rfl);rotate_left;(simp only [Act.put,yay,yby,ycy,zY,za];rfl);refine zf (i:=6) (N:=some 16) (v:=?_) (a':=?_) #[true,true,true,true,true,true,true,false,false,false] rfl rfl (by kernel_rfl) (fun _ _ _ h=>h) (Or.inl ⟨by rfl,?_⟩) ?_ ?_;rotate_left;(focus intro w';go_simp;with_reducible rfl);rotate_left;(simp only [Act.put,yay,yby,ycy,zY,za];rfl)
  refine ZY (i:=7) (N:=some 17) (v:=?_) (a':=?_) #[true,true,true,true,true,true,true,true,false,false] rfl rfl (by kernel_rfl) (fun _ _ _ h=>h) (Or.inl ⟨by rfl,?_⟩) aa ?_ ?_;rotate_left;(focus rintro w' ⟨s0,s1⟩;go_simp;with_reducible rfl);rotate_left;(simp only [Act.put,yay,yby,ycy,zY,za];rfl);refine zf (i:=8) (N:=some 6) (v:=?_) (a':=?_) #[true,true,true,true,true,true,true,true,true,false] rfl rfl (by kernel_rfl) (fun _ _ _ h=>h) (Or.inl ⟨by rfl,?_⟩) ?_ ?_;rotate_left;(focus intro w';go_simp;with_reducible rfl);rotate_left;(simp only [Act.put,yay,yby,ycy,zY,za];rfl);refine zf (i:=9) (N:=some 7) (v:=?_) (a':=?_) #[true,true,true,true,true,true,true,true,true,true] rfl rfl (by kernel_rfl) (fun _ _ _ h=>h) (Or.inl ⟨by rfl,?_⟩) ?_ ?_;rotate_left;(focus intro w';go_simp;with_reducible rfl);rotate_left;(simp only [Act.put,yay,yby,ycy,zY,za];rfl);refine JG (by kernel_rfl) ?_;have af:=zA.mk (Kd.zT HO.out);have ag:=zA.mk (zD HB.out);have HK:=zA.mk (Kept.drew (Kept.refl w ab));have HC:zA (l=(l.take 0).map (fun x=>if x=q then p else x)++l.drop 0):=⟨by simp⟩;clear HO HB aa q0 q1;generalize w.drew=wd at *;go_wp2;go_loopg [20] l.length (fun gg v20 w' => ∃ (n:Nat) (cur:List Int),n≤l.length∧l.length-n≤gg∧v20 = .int .i64 n∧zA (cur=(l.take n).map (fun x=>if x=q then p else x)++l.drop n)∧zA (Kd.R (Kd.int .i64) 2 w' w0.heap.size ab (.slice (some ⟨g,0,none⟩) l.length cap) cur)∧zA (Below w0.heap.size w0 w')∧zA (Kept w w' ab))
  case atStart=>exact⟨0,l,Nat.zero_le _,by omega,rfl,HC,af,ag,HK⟩
  case round=>
    clear HC af ag HK;obtain⟨n,cur,hn,hg,rfl,HC,HO,HB,HK⟩:=hrel;by_cases ai:n<l.length
    · have aj:(n:Int)<(l.length:Int):=by omega
      obtain⟨hc,hf⟩:=Kd.ZZ 0 HO.out (n:Int) (by omega) aj;replace hc:wr.cell? ⟨g,n,none⟩=some (.int .i64 (rd cur (n:Int))):=hc;replace hf:wr.frozen? ⟨g,n,none⟩=false:=hf;rw[zHS HC.out ai]at hc;by_cases hy:l[n]=q
      · have ae:=zA.mk (zHT HC.out ai)
        rw[hy]at hc ae;have av:zA (cur.set n p=(l.take (n+1)).map (fun x=>if x=q then p else x)++l.drop (n+1)):=⟨by have h:=ae.out;rwa [if_pos rfl]at h⟩;have e1:(q==q)=true:=by simp
        clear hy ae HC;go_wp2_with (first
          | ((with_reducible refine ZH (t:=2) (p:=31) rfl ?_);refine qt (t:=2) (p:=31) (v:=?vo31) (w1:=(wr.setCell ⟨g,n,none⟩ (.int .i64 p))) ?hg ?ho ?hn ?hr ?_;(case ho=>rfl);(case hg=>rfl);(case hn=>rfl);(case hr=>first|(go_simp;done)|(go_simp;rfl));intro w4 hw;have af:=zA.mk (show Kd.R (Kd.int .i64) 2 w4 w0.heap.size ab (.slice (some ⟨g,0,none⟩) l.length cap) (cur.set n p)by rw[hw];exact(Kd.JE HO.out (n:Int) p).1);have ag:=zA.mk (show Below w0.heap.size w0 w4 by rw[hw];exact zE HB.out ar);have aw:=zA.mk (show Kept w w4 ab by rw[hw];exact HK.out.setCell (p:=⟨g,n,none⟩) (.inl HP.out) _);clear hw hc hf HO HB HK))
        go_roundg (l.length-(n+1))
        case measure=>omega
        case rel=>exact⟨n+1,cur.set n p,by omega,by omega,by go_num,av,af,ag,aw⟩
      · have ae:=zA.mk (zGa HC.out ai (if_neg hy))
        have e1:(l[n]==q)=false:=by simpa using hy
        generalize l[n]=y at hc e1;clear hy HC;go_wp2;go_roundg (l.length-(n+1))
        case measure=>omega
        case rel=>exact⟨n+1,cur,by omega,by omega,by go_num,ae,HO,HB,HK⟩
    · obtain rfl:n=l.length:=by omega
      have ak:cur=r:=by rw[HC.out,← hR.out];simp
      have ax:=zA.mk ak;clear ak HC;go_wp2;first|go_end0|((try simp only [Exit.inBlock,Exit.then]);refine bodyPost_ret (results_none rfl _ _ _) rfl ?_)
      refine⟨?_,by rw[← ax.out];exact HO.out,HB.out,HK.out⟩;first|rfl|(simp <;> rfl)
def Ja (j b:Int) (p:List Int):List Int→List Int→List Int
  | [],s=>s
  | c :: cs,s=>Ja j b p cs (Lib.uni s (4*j+c) (4*b+rd p c))
theorem zAe (j b:Int) (p:List Int) : ∀ (L s:List Int),(Ja j b p L s).length=s.length
  | [],_=>rfl
  | c :: cs,s=>by rw[Ja,zAe j b p cs,Lib.zA1]
def zBh (s:List Int) (j f:Nat) (x:zz):List Int:=Ja j x.f0 (ZN x.f1) (zCS [(f:Int)]) s
structure zDV (w0:World) (gs n:Nat) (s:List Int) (W:World):Prop where
  below:Below w0.heap.size w0 W
  ex : ∃ v,W.heap[gs]?=some (.cells #[v] 25 (0,0))∧Kd.R (Kd.int .i64) 2 W w0.heap.size (fun _=>True) v s
  own:w0.heap.size≤gs
  len:s.length=n
theorem zDV.stays {w0 W W1:World} {gs n:Nat} {s:List Int} (h:zDV w0 gs n s W) (hb:Below W.heap.size W W1):zDV w0 gs n s W1:=by
  obtain⟨v,h1,h2⟩:=h.ex;exact⟨zM h.below hb,⟨v,zN h1 hb,Kd.qV h2 hb⟩,h.own,h.len⟩
structure VcL (w0:World) (gs gF gI gO cO:Nat) (f0 f1 x0 x1 x2 x3:Int) (L s:List Int) (v:Value) (W:World):Prop where
  below:Below w0.heap.size w0 W
  bS:W.heap[gs]?=some (.cells #[v] 25 (0,0))
  bF:W.heap[gF]?=some (.cells #[.int .i64 f0,.int .i64 f1] 64 (0,0))
  bI:W.heap[gI]?=some (.cells #[.int .i64 x0,.int .i64 x1,.int .i64 x2,.int .i64 x3] 81 (0,0))
  rL:Kd.R (Kd.int .i64) 2 W w0.heap.size (fun k=>k=gO) (.slice (some ⟨gO,0,none⟩) L.length cO) L
  rE:Kd.R (Kd.int .i64) 2 W w0.heap.size (fun k=>k≠gO) v s
  own:w0.heap.size≤gs
section
variable {w0 W W1 : World} {gs gF gI gO cO : Nat} {f0 f1 x0 x1 x2 x3 : Int} {L s s1 : List Int} {v : Value}
theorem VcL.stays (h:VcL w0 gs gF gI gO cO f0 f1 x0 x1 x2 x3 L s v W) (hb:Below W.heap.size W W1):VcL w0 gs gF gI gO cO f0 f1 x0 x1 x2 x3 L s v W1:=
  ⟨zM h.below hb,zN h.bS hb,zN h.bF hb,zN h.bI hb,Kd.qV h.rL hb,Kd.qV h.rE hb,h.own⟩
theorem VcL.uni (h:VcL w0 gs gF gI gO cO f0 f1 x0 x1 x2 x3 L s v W) (hR:Kd.R (Kd.int .i64) 2 W1 w0.heap.size (fun k_=>some k_=v.ownBlock) v s1) (hB:Below w0.heap.size w0 W1) (hK:Kept W W1 (fun k_=>some k_=v.ownBlock)):VcL w0 gs gF gI gO cO f0 f1 x0 x1 x2 x3 L s1 v W1:=by
  have aa : ∀ (g:Nat) (T:TypeId) (c:Array Value),T≠2→W.heap[g]?=some (.cells c T (0,0)) → ¬ some g=v.ownBlock:=fun g T c hT hc e=>by
    obtain⟨cells,ab⟩:=Kd.zDD h.rE g e.symm;exact zAw hc ab hT rfl
  exact⟨hB,Zy h.bS hK (aa _ _ _ (by decide) h.bS),Zy h.bF hK (aa _ _ _ (by decide) h.bF),Zy h.bI hK (aa _ _ _ (by decide) h.bI),Kd.zGQ h.rL hK (fun k hk e=>h.rE.1 k e.symm hk),Kd.zk hR (fun k hk=>h.rE.1 k hk.symm),h.own⟩
end
theorem zAb.calls (w0 w:World) (gs n:Nat) (s:List Int) (j f:Nat) (f0 f1:Int) (hI:zDV w0 gs n s w) (hj:4*(j:Int)+4≤(n:Int)) (hf:(f:Int)≤3) (aR:0≤f0) (aS:4*f0+4≤(n:Int)) (aD:0≤f1) (aE:f1≤23) (hn:n≤64) :
    Calls Try.prog 52 #[.int .i64 (j:Int),.int .i64 (f:Int),.agg #[.int .i64 f0,.int .i64 f1],.agg #[.int .i64 (zq f1 0),.int .i64 (zq f1 1),.int .i64 (zq f1 2),.int .i64 (zq f1 3)],.pointer (some ⟨gs,0,none⟩)] w fun e w'=>e = .returned (.tuple #[])∧zDV w0 gs n (zBh s j f ⟨f0,f1⟩) w':=by
  obtain⟨y0,y1,y2,y3⟩:=zB9 f1 aD aE;have ab:zBh s j f ⟨f0,f1⟩=Ja j f0 (ZN f1) (zCS [(f:Int)]) s:=rfl;have aj:ZN f1 = [zq f1 0,zq f1 1,zq f1 2,zq f1 3]:=rfl;rw[aj]at ab;have aF:=zA.mk aj;generalize zq f1 0=x0 at *;generalize zq f1 1=x1 at *;generalize zq f1 2=x2 at *;generalize zq f1 3=x3 at *;clear aF aj;have HP:zA (∀ c,sm c→sm (rd [x0,x1,x2,x3] c)):=⟨fun c hc=>zBT y0 y1 y2 y3 c hc.1 hc.2⟩;have HF:=zA.mk (show sm (f:Int)from⟨by omega,hf⟩);have HS:=zA.mk ab;generalize zBh s j f ⟨f0,f1⟩=R at HS ⊢;have HI:=zA.mk hI;clear hI ab y0 y1 y2 y3;have ht:=Try.underlying81;have ar:zA (∀ (W:World) (g:Nat),W.heap.size=g→Kd.C (Kd.int .i64) (W.alloc (.cells #[.int .i64 (f:Int)] 2)) (some ⟨g,0,none⟩) 1 [(f:Int)]):=⟨fun W g hg=>by subst hg;exact(Kd.zn (show Kd.R (Kd.int .i64) 2 (W.alloc (.cells #[.int .i64 (f:Int)] 2)) W.heap.size (fun _=>True) (.slice (some ⟨W.heap.size,0,none⟩) 1 1) [(f:Int)]from
      Kd.zAy ⟨by simp [zBN],.inr ⟨W.heap.size,1,#[.int .i64 (f:Int)],rfl,yry _,Qf rfl _,yry 1,by decide,rfl,rfl⟩⟩ (fun _ _=>trivial))).2.2⟩
  have ak:=zA.mk (zGZ HF.out);have au:=zA.mk (show ∀ c∈zCS [(f:Int)],sm c∧c≠(f:Int)from fun c hc=>zEp hc);generalize av:zCS [(f:Int)]=L at HS ak au;have aw:=zA.mk (show JN.f [(f:Int)]=some L by rw[← av];rfl);clear av;have BF:=zA.mk (zG (Qf (W:=w) rfl (.cells #[.int .i64 f0,.int .i64 f1] 64)) (.cells #[.int .i64 x0,.int .i64 x1,.int .i64 x2,.int .i64 x3] 81));have BI:=zA.mk (Qf (W:=w.alloc (.cells #[.int .i64 f0,.int .i64 f1] 64)) (n:=w.heap.size+1) (by simp) (.cells #[.int .i64 x0,.int .i64 x1,.int .i64 x2,.int .i64 x3] 81));have HB:=zA.mk (zC (zC (ysy w.heap.size w) (.cells #[.int .i64 f0,.int .i64 f1] 64)) (.cells #[.int .i64 x0,.int .i64 x1,.int .i64 x2,.int .i64 x3] 81));have aG:zA (((w.alloc (.cells #[.int .i64 f0,.int .i64 f1] 64)).alloc (.cells #[.int .i64 x0,.int .i64 x1,.int .i64 x2,.int .i64 x3] 81)).heap.size=w.heap.size+1+1):=⟨by simp⟩;go_enter Try.func52,Try.ntmps52
  go_wp2_with fail
  generalize aH:World.alloc (World.alloc w _) _=wB at *;refine(JN.calls _ 1 [(f:Int)] L _ (ar.out _ _ aG.out) (yry 1) aw.out).mono ?_;rintro e w2 ⟨v0,rfl,ho,hb⟩;obtain⟨gO,cO,rfl,ax,ay,_⟩:=Kd.JV ho (by rw[ak.out];decide);have HO:=zA.mk ho;have ah:=zA.mk hb;have HG:=zA.mk (And.intro ax ay);clear ho hb ax ay ar;go_wp2;obtain⟨v,hM,hE⟩:=HI.out.ex;have aI:=HI.out.below.size;have aJ:=HB.out.size;have aK:(wB.alloc (.cells #[.int .i64 (f:Int)] 2)).heap.size=wB.heap.size+1:=by simp
  have aL:=HG.out.1;have ai:=zA.mk (zM (zC HB.out (.cells #[.int .i64 (f:Int)] 2)) ah.out);generalize aT:w.heap.size+1=gI at *;have HM:=zA.mk (show VcL w0 gs w.heap.size gI gO cO f0 f1 x0 x1 x2 x3 L s v w2 from
    ⟨zM HI.out.below ai.out,zN hM ai.out,zN (zG BF.out _) ah.out,zN (zG BI.out _) ah.out,
      Kd.zk (Kd.QX rfl (Kd.ZG HO.out (by omega))) (fun k_ aM=>by simpa [Value.ownBlock]using aM),
      Kd.qV (Kd.zk (Kd.Qc hE) (fun k hk=>by have:=hk.2.2.1;omega)) ai.out,HI.out.own⟩)
  have ad:=zA.mk HI.out.len;have ae:zA (Ja j f0 [x0,x1,x2,x3] (L.drop 0) s=R):=⟨by rw[List.drop_zero];exact HS.out.symm⟩;have aU:=zA.mk (Kd.zGD (Kd.zn HO.out).2.2);clear hM hE aI aJ aK aL ai HO ah HG HB BF BI HI aw HS aH;generalize aV:w.heap.size=gF at *;have aW:L.length≤3:=by have:=ak.out;omega
  go_loopg [15] L.length (fun gg aN w' => ∃ (i:Nat) (s1:List Int),i≤L.length∧L.length-i≤gg∧aN = .int .i64 i∧zA (Ja j f0 [x0,x1,x2,x3] (L.drop i) s1=R)∧zA (VcL w0 gs gF gI gO cO f0 f1 x0 x1 x2 x3 L s1 v w')∧zA (s1.length=n))
  case atStart=>exact⟨0,s,Nat.zero_le _,by omega,rfl,ae,HM,ad⟩
  case round=>
    clear HM ae ad;obtain⟨i,s1,aX,aY,rfl,ae,HM,ad⟩:=hrel;by_cases al:i<L.length
    · have an:(i:Int)<(L.length:Int):=by omega
      obtain⟨hc,_⟩:=Kd.ZZ 0 HM.out.rL (i:Int) (by omega) an;replace hc:wr.cell? ⟨gO,i,none⟩=some (.int .i64 (rd L (i:Int))):=hc;have ex:rd L (i:Int)=L[i]:=by simp [rd,al]
      rw[ex]at hc;have HC:=zA.mk (au.out L[i] (yoy al));have af:=ae.out;rw[ypy al,Ja]at af;have ao:=zA.mk af;clear ae af ex;generalize L[i]=c at hc HC ao;obtain⟨aO,aP⟩:=HC.out.1;have aZ:c<4:=by omega
      have k4:=HP.out c HC.out.1;generalize aq:rd [x0,x1,x2,x3] c=d at k4 ao;have HD:=zA.mk aq;obtain⟨a1,a6⟩:=k4;go_wp2;have az:zA (Ji.f s1 (wrap64 (wrap64 (4*(j:Int))+c)) (wrap64 (wrap64 (4*f0)+d))=some (Lib.uni s1 (4*(j:Int)+c) (4*f0+d))):=⟨by
        have hl:=ad.out;rw[wid_ (show -9223372036854775808≤4*(j:Int)by omega) (by omega),wid_ (show -9223372036854775808≤4*f0 by omega) (by omega),wid_ (show -9223372036854775808≤4*(j:Int)+c by omega) (by omega),wid_ (show -9223372036854775808≤4*f0+d by omega) (by omega)];unfold Ji.f;rw[if_pos (by omega)]⟩
      refine QK (n:=13) (S:=fun w'=>w'.cell? ⟨gs,0,none⟩=some v∧w'.cell? ⟨gF,0,none⟩=some (.int .i64 f0)∧w'.cell? ⟨gI,c.toNat,none⟩=some (.int .i64 d)) (ds := [12]) #[false,false,false,false,false,false,false,false,false,false,false,false,false] (by kernel_rfl) rfl rfl ⟨(zK HM.out.bS 0).trans rfl,(zK HM.out.bF 0).trans rfl,zHR HM.out.bI aO aP aq⟩ (fun aa=>?_);have ag:=zA.mk (HM.out.stays (zD (ysy _ _)));clear HM aq hc;generalize wr.drew=w7 at ag aa ⊢;refine ZY (i:=0) (N:=some 19) (v:=?_) (a':=?_) #[true,false,false,false,false,false,false,false,false,false,false,false,false] rfl rfl (by kernel_rfl) (fun _ _ _ h=>h) (Or.inl ⟨by rfl,?_⟩) aa ?_ ?_;rotate_left;(focus rintro w' ⟨s0,s1,s2⟩;go_simp;with_reducible rfl);rotate_left;(simp only [Act.put,yay,yby,ycy,zY,za];rfl);refine zf (i:=1) (N:=some 20) (v:=?_) (a':=?_) #[true,true,false,false,false,false,false,false,false,false,false,false,false] rfl rfl (by kernel_rfl) (fun _ _ _ h=>h) (Or.inl ⟨by rfl,?_⟩) ?_ ?_;rotate_left;(focus intro w';go_simp;with_reducible rfl);rotate_left;(simp only [Act.put,yay,yby,ycy,zY,za];rfl);refine zf (i:=2) (N:=some 21) (v:=?_) (a':=?_) #[true,true,true,false,false,false,false,false,false,false,false,false,false] rfl rfl (by kernel_rfl) (fun _ _ _ h=>h) (Or.inl ⟨by rfl,?_⟩) ?_ ?_;rotate_left;(focus intro w';go_simp;with_reducible rfl);rotate_left;(simp only [Act.put,yay,yby,ycy,zY,za];rfl);refine zf (i:=3) (N:=some 22) (v:=?_) (a':=?_) #[true,true,true,true,false,false,false,false,false,false,false,false,false] rfl rfl (by kernel_rfl) (fun _ _ _ h=>h) (Or.inl ⟨by rfl,?_⟩) ?_ ?_;rotate_left;(focus intro w';go_simp;with_reducible rfl);rotate_left;(simp only [Act.put,yay,yby,ycy,zY,za];rfl);refine zf (i:=4) (N:=some 23) (v:=?_) (a':=?_) #[true,true,true,true,true,false,false,false,false,false,false,false,false] rfl rfl (by kernel_rfl) (fun _ _ _ h=>h) (Or.inl ⟨by rfl,?_⟩) ?_ ?_;rotate_left;(focus intro w';go_simp;with_reducible rfl);rotate_left;(simp only [Act.put,yay,yby,ycy,zY,za];rfl);refine zf (i:=5) (N:=some 24) (v:=?_) (a':=?_) #[true,true,true,true,true,true,false,false,false,false,false,false,false] rfl rfl (by kernel_rfl) (fun _ _ _ h=>h) (Or.inl ⟨by rfl,?_⟩) ?_ ?_;rotate_left;(focus intro w';go_simp;with_reducible rfl)
      rotate_left;(simp only [Act.put,yay,yby,ycy,zY,za];rfl);refine ZY (i:=6) (N:=some 25) (v:=?_) (a':=?_) #[true,true,true,true,true,true,true,false,false,false,false,false,false] rfl rfl (by kernel_rfl) (fun _ _ _ h=>h) (Or.inl ⟨by rfl,?_⟩) aa ?_ ?_;rotate_left;(focus rintro w' ⟨s0,s1,s2⟩;go_simp;with_reducible rfl);rotate_left;(simp only [Act.put,yay,yby,ycy,zY,za];rfl);refine zf (i:=7) (N:=some 26) (v:=?_) (a':=?_) #[true,true,true,true,true,true,true,true,false,false,false,false,false] rfl rfl (by kernel_rfl) (fun _ _ _ h=>h) (Or.inl ⟨by rfl,?_⟩) ?_ ?_;rotate_left;(focus intro w';go_simp;with_reducible rfl);rotate_left;(simp only [Act.put,yay,yby,ycy,zY,za];rfl);refine zf (i:=8) (N:=some 27) (v:=?_) (a':=?_) #[true,true,true,true,true,true,true,true,true,false,false,false,false] rfl rfl (by kernel_rfl) (fun _ _ _ h=>h) (Or.inl ⟨by rfl,?_⟩) ?_ ?_;rotate_left;(focus intro w';go_simp;with_reducible rfl);rotate_left;(simp only [Act.put,yay,yby,ycy,zY,za];rfl);refine zf (i:=9) (N:=some 28) (v:=?_) (a':=?_) #[true,true,true,true,true,true,true,true,true,true,false,false,false] rfl rfl (by kernel_rfl) (fun _ _ _ h=>h) (Or.inl ⟨by rfl,?_⟩) ?_ ?_;rotate_left;(focus intro w';go_simp;with_reducible rfl);rotate_left;(simp only [Act.put,yay,yby,ycy,zY,za];rfl);refine ZY (i:=10) (N:=some 29) (v:=?_) (a':=?_) #[true,true,true,true,true,true,true,true,true,true,true,false,false] rfl rfl (by kernel_rfl) (fun _ _ _ h=>h) (Or.inl ⟨by rfl,?_⟩) aa ?_ ?_;rotate_left;(focus rintro w' ⟨s0,s1,s2⟩;go_simp;with_reducible rfl);rotate_left;(simp only [Act.put,yay,yby,ycy,zY,za];rfl);refine zf (i:=11) (N:=some 30) (v:=?_) (a':=?_) #[true,true,true,true,true,true,true,true,true,true,true,true,false] rfl rfl (by kernel_rfl) (fun _ _ _ h=>h) (Or.inl ⟨by rfl,?_⟩) ?_ ?_;rotate_left;(focus intro w';go_simp;with_reducible rfl);rotate_left;(simp only [Act.put,yay,yby,ycy,zY,za];rfl);refine zFZ (i:=12) (N:=some 31) #[true,true,true,true,true,true,true,true,true,true,true,true,true] rfl rfl (by kernel_rfl) (by decide) (fun K hK=>?_);refine JH Try.func54 (by kernel_rfl) rfl #[v,.int .i64 (wrap64 (wrap64 (4*(j:Int))+c)),.int .i64 (wrap64 (wrap64 (4*f0)+d))] (by rfl) rfl rfl (by(try simp only [yiy,yjy,yky]);first|done|rfl) ?_
      refine(Ji.calls (fun k_=>some k_=v.ownBlock) v s1 _ _ _ w0 _ ag.out.below (Kd.QX rfl ag.out.rE) az.out).mono ?_;rintro e w9 ⟨rfl,aA,aB,aC⟩;refine⟨_,rfl,?_⟩;have aQ:=zA.mk (ag.out.uni aA aB aC);clear aA aB aC ag az;refine hK.out _ _ ?_;clear hK K;refine QV (a':=?_) ?_ ?_;rotate_left;(show Act.put _ (some 31) _=_;simp only [Act.put,yay,yby,ycy,zY,za];rfl);refine JG (by kernel_rfl) ?_;go_wp2;go_roundg (L.length-(i+1))
      case measure=>omega
      case rel=>exact⟨i+1,_,by omega,by omega,by go_num,⟨ao.out⟩,aQ,⟨by rw[Lib.zA1];exact ad.out⟩⟩
    · obtain rfl:i=L.length:=by omega
      have af:=ae.out;rw[List.drop_length,Ja]at af;subst af;go_wp2;first|go_end0|((try simp only [Exit.inBlock,Exit.then]);refine bodyPost_ret (results_none rfl _ _ _) rfl ?_)
      refine⟨?_,⟨HM.out.below,⟨v,HM.out.bS,Kd.zk HM.out.rE (fun _ _=>trivial)⟩,HM.out.own,ad.out⟩⟩;first|rfl|(simp <;> rfl)
def zBm (l:List (List zz)):List Int:=zB5 zBh l 0 (Lib.ZQ 0 (4*l.length))
def qF.f (l:List (List zz)):Option (List Int):=if zFl l∧zEo (zBm l)=true then some (Lib.zED (zBm l))else none
theorem zIC {l:List (List zz)} (aa:zFl l) {w:World} {gs:Nat} (s:List Int) (W:World) (j f:Nat) (x:zz) (hI:zDV w gs (4*l.length) s W) (hF:zB6 l j f x) (hb : ¬ x.f0<0) :
    Calls Try.prog 52 (#[.int .i64 (j:Int),.int .i64 (f:Int),.agg #[.int .i64 x.f0,.int .i64 x.f1],.agg #[.int .i64 (zq x.f1 0),.int .i64 (zq x.f1 1),.int .i64 (zq x.f1 2),.int .i64 (zq x.f1 3)]] ++ #[.pointer (some ⟨gs,0,none⟩)]) W fun e W'=>e = .returned (.tuple #[])∧zDV w gs (4*l.length) (zBh s j f x) W':=by
  obtain⟨h1,h2,h3⟩:=hF;obtain⟨q0,q1,q2⟩:=aa;have q3:=q1 _ (yoy h1);have q4:=q2 _ (yoy h1) x (by rw[← h3];exact yoy h2) hb;have e:(#[.int .i64 (j:Int),.int .i64 (f:Int),.agg #[.int .i64 x.f0,.int .i64 x.f1],.agg #[.int .i64 (zq x.f1 0),.int .i64 (zq x.f1 1),.int .i64 (zq x.f1 2),.int .i64 (zq x.f1 3)]] ++ #[.pointer (some ⟨gs,0,none⟩)]:Array Value) = #[.int .i64 (j:Int),.int .i64 (f:Int),.agg #[.int .i64 x.f0,.int .i64 x.f1],.agg #[.int .i64 (zq x.f1 0),.int .i64 (zq x.f1 1),.int .i64 (zq x.f1 2),.int .i64 (zq x.f1 3)],.pointer (some ⟨gs,0,none⟩)]:=rfl;rw[e];exact zAb.calls w W gs (4*l.length) s j f x.f0 x.f1 hI (by omega) (by omega) (by omega) (by omega) q4.2.1 q4.2.2 (by omega)
theorem qF.calls (ab:Option Addr) (ad:Nat) (aa:List (List zz)) (r:List Int) (w:World) (ae:Kd.C (Kd.slice 64 ZW) w ab aa.length aa) (af:aa.length≤ad) (h:qF.f aa=some r) :
    Calls Try.prog 24 #[.agg #[.slice ab aa.length ad]] w fun e w' => ∃ aj:Value,e = .returned (aj)∧Kd.R (Kd.int .i64) 2 w' w.heap.size (fun _=>True) aj r∧Below w.heap.size w w':=by
  unfold qF.f at h;by_cases ag:zFl aa∧zEo (zBm aa)=true
  case neg=>rw[if_neg ag]at h;cases h
  rw[if_pos ag]at h;have hr:=yey h;subst hr;have ak:=zA.mk ag;have HR:=zA.mk ae;have HC:=zA.mk af;have aD:aa.length≤8:=ag.1.1;have au:=zA.mk (show ZC.f (4*aa.length+1) (4*(aa.length:Int))=some (Lib.ZQ 0 (4*aa.length))from zEq (4*aa.length) (by omega));have av:=zA.mk (show JC.f (zBm aa)=some (Lib.zED (zBm aa))from if_pos ag.2);clear h ag ae af;go_enter Try.func24,Try.ntmps24
  have BT:=zA.mk (Qf (W:=w) rfl (.cells #[.slice ab aa.length ad] 31));have HB:=zA.mk (zC (ysy w.heap.size w) (.cells #[.slice ab aa.length ad] 31));go_wp2_with (first
    | (go_at_call 50;refine(qw.calls ab ad aa (aa.length:Int) _ (Kd.qA HR.out HB.out) HC.out rfl).mono ?_;rintro e w2 ⟨rfl,hd⟩;have hb:=zp.below hd;clear hd;have ai:=zA.mk (zN BT.out hb);have al:=zA.mk (zM HB.out hb);clear BT HB hb;have aw:w2.cell? ⟨w.heap.size,0,none⟩=some (.slice ab aa.length ad):=(zK ai.out 0).trans rfl)
    | (go_at_call 49;refine(ZC.calls (4*aa.length+1) (4*(aa.length:Int)) _ _ au.out).mono ?_;rintro e w3 ⟨v3,rfl,ho,hb⟩;obtain⟨A3,c3,rfl⟩:=Kd.ZM ho;generalize (Lib.ZQ 0 (4*aa.length)).length=m3 at ho;have ah:=zA.mk hb;have an:=zA.mk (Kd.zk (Kd.Qc ho) (ok':=fun k=>k<w3.heap.size) (fun _ hk=>hk.2.2.1));have ao:=zA.mk (zN ai.out hb);clear ai ho hb aw;have ax:w3.cell? ⟨w.heap.size,0,none⟩=some (.slice ab aa.length ad):=(zK ao.out 0).trans rfl;have ay:w.heap.size<w3.heap.size:=qg ao.out;have az:w.heap.size≠w3.heap.size:=by omega)
    | (go_at_call 51;refine(zCl.calls 52 _ Try.func52 (by kernel_rfl) rfl #[.pointer (some ⟨w3.heap.size,0,none⟩)] aa ab ad w2 _ (zDV w2 w3.heap.size (4*aa.length)) zBh (Lib.ZQ 0 (4*aa.length)) (fun _=>0) (4*(aa.map List.length).sum) (fun _ _ _ _=>Nat.zero_le _) (Nat.le_of_eq (Nat.zero_add _)) (fun _ _ _ h hb=>h.stays hb) (fun _ _ h=>h.below) (Kd.qA HR.out al.out) (fun r hr x hx hb=>(ak.out.1.2.2 r hr x hx hb).2) ?aS ?a0).mono ?_;(case aS=>exact fun s W j f x hI hF hb _=>zIC ak.out.1 s W j f x hI hF hb);(case a0=>exact⟨zC ah.out _,⟨_,Qf rfl _,Kd.zk (Kd.zR an.out _) (fun _ _=>trivial)⟩,ah.out.size,Lib.Zm _ _⟩);rintro e w4 ⟨rfl,hI⟩;have HI:=zA.mk (show zDV w2 w3.heap.size (4*aa.length) (zBm aa) w4 from hI);clear hI ax ay az an;obtain⟨v4,hM,hE⟩:=HI.out.ex;obtain⟨A4,c4,rfl⟩:=Kd.ZM hE;have aA:w4.cell? ⟨w3.heap.size,0,none⟩=some (.slice A4 (zBm aa).length c4):=(zK hM 0).trans rfl;have aq:=zA.mk (Kd.zn hE);have ar:=zA.mk (zM al.out HI.out.below);clear hM hE)
    | (go_at_call 55;refine(JC.calls A4 c4 (zBm aa) _ _ aq.out.2.2 aq.out.2.1 av.out).mono ?_;rintro e w5 ⟨v5,rfl,ho,hb⟩;have aB:=zA.mk (Kd.ZG ho ar.out.size);have aC:=zA.mk (zM ar.out hb);clear ho hb aA))
  go_ret;exact⟨_,rfl,aB.out,aC.out⟩
def QB.f (l0:List Int):Option Int:=match l0 with
  | []=>none
  | x :: xs=>some (xs.foldl mx x)
theorem QB.calls (A0:Option Addr) (c0:Nat) (l0:List Int) (r:Int) (w:World) (ae:Kd.C (Kd.int .i64) w A0 l0.length l0) (aj:l0.length≤c0) (h:QB.f l0=some r) :
    Calls Try.prog 57 #[.slice A0 l0.length c0] w fun e w'=>e = .returned (.int .i64 r)∧zp w w':=by
  obtain⟨x0,xs,rfl⟩ : ∃ x xs,l0=x :: xs:=by
    cases l0 with
    | nil=>cases h
    | cons x xs=>exact⟨x,xs,rfl⟩
  have hr:xs.foldl mx x0=r:=yey h;have ak:(x0 :: xs).length≤9223372036854775807:=ae.2.1;have HR:=zA.mk ae;have HA:zA (((x0 :: xs).drop 1).foldl mx x0=r):=⟨hr⟩;obtain⟨ad,e1,hx⟩:=Kd.ZA ae 0 (by omega) (by simp);have hlen:1≤(x0 :: xs).length:=by simp
  have ex:rd (x0 :: xs) 0=x0:=by simp [rd]
  rw[ex]at hx;replace hx:w.cell? ad=some (.int .i64 x0):=by have h2:=hx;rwa [show ad.add (Int.toNat 0)=ad from by cases ad;rfl]at h2
  clear hr h ae aj ex;generalize x0 :: xs=l at *
  cases e1;go_enter Try.func57,Try.ntmps57
  have b1:decide ((l.length:Int)<1)=false:=yhy (by omega);go_wp2;go_loopg [3,4] l.length (fun gg v3 v4 w' => ∃ (i:Nat) (m:Int),1≤i∧i≤l.length∧l.length-i≤gg∧v3 = .int .i64 m∧v4 = .int .i64 i∧w' = w∧zA ((l.drop i).foldl mx m=r))
  case atStart=>exact⟨1,x0,yry _,hlen,by omega,rfl,rfl,rfl,HA⟩
  case round=>
    clear HA;obtain⟨i,m,h1,hi,hg,rfl,rfl,rfl,HA⟩:=hrel;by_cases ai:i<l.length
    · have af:(i:Int)<(l.length:Int):=by omega
      obtain⟨an,e2,hy⟩:=Kd.ZA HR.out (i:Int) (by omega) af;have ex:rd l (i:Int)=l[i]:=by simp [rd,ai]
      rw[ex,yny]at hy;have aa:=HA.out;rw[ypy ai,List.foldl_cons]at aa;have ab:=zA.mk aa;clear HA aa ex;generalize l[i]=y at hy ab
      cases e2;by_cases ag:m<y
      · have ah:zA ((l.drop (i+1)).foldl mx y=r):=⟨by have q:=ab.out;rwa [show mx m y=y from by unfold mx;exact if_pos ag]at q⟩
        clear ab;go_wp2;go_roundg (l.length-(i+1))
        case measure=>omega
        case rel=>exact⟨i+1,y,by omega,by omega,by omega,rfl,by go_num,rfl,ah⟩
      · have ah:zA ((l.drop (i+1)).foldl mx m=r):=⟨by have q:=ab.out;rwa [show mx m y=m from by unfold mx;exact if_neg ag]at q⟩
        clear ab;have al:y≤m:=by omega
        clear ag;go_wp2;go_roundg (l.length-(i+1))
        case measure=>omega
        case rel=>exact⟨i+1,m,by omega,by omega,by omega,rfl,by go_num,rfl,ah⟩
    · obtain rfl:i=l.length:=by omega
      have aa:=HA.out;rw[List.drop_length,List.foldl_nil]at aa;have HM:=zA.mk aa;clear HA aa;go_wp2;go_ret;exact⟨by rw[← HM.out];rfl,0,rfl⟩
def ZR.f (l0:List Int):Option (Int):=if(l0.length:Int)=0 then(some 0)else((QB.f l0).bind fun t101=>(some (wrap64 (t101+1))))
theorem ZR.calls (A0:Option Addr) (c0:Nat) (l0:List Int) (r:Int) (w:World) (ad:Kd.C (Kd.int .i64) w A0 l0.length l0) (ae:l0.length≤c0) (h:ZR.f l0=some r) :
    Calls Try.prog 26 #[.slice A0 l0.length c0] w fun e w'=>e = .returned (.int .i64 r)∧zp w w':=by
  have ag:=zA.mk ad;have ah:=zA.mk ae;clear ad ae;have H:(if(l0.length:Int)=0 then(some 0)else((QB.f l0).bind fun t101=>(some (wrap64 (t101+1)))))=some r:=h;clear h;by_cases c2:(l0.length:Int)=0
  · rw[if_pos c2]at H
    have aa:((l0.length:Int)==0)=true:=beq_iff_eq.mpr c2;have ab:((l0.length:Int) != 0)=false:=bne_eq_false_iff_eq.mpr c2;clear c2;obtain rfl:=yey H;go_enter Try.func26,Try.ntmps26
    go_wp2;go_ret;exact⟨by first|rfl|(simp;done)|(simp [*];done),by repeat(first|exact zp.refl _|apply zp.step)⟩
  · rw[if_neg c2]at H
    have aa:((l0.length:Int)==0)=false:=beq_eq_false_iff_ne.mpr c2;have ab:((l0.length:Int) != 0)=true:=bne_iff_ne.mpr c2;have ai : ¬ (l0 = []):=fun h_=>c2 (by rw[h_];rfl)
    replace H:=ydy.mp H;obtain⟨t101,af,H⟩:=H;replace H:(some (wrap64 (t101+1)))=some r:=H;have A3:=zA.mk af;clear af;obtain rfl:=yey H;go_enter Try.func26,Try.ntmps26
    go_wp2_with (first|((with_reducible refine zU (f:=57) rfl ?_);refine qD (some 7) rfl rfl Try.func57 (by kernel_rfl) rfl #[.slice A0 l0.length c0] rfl (by(try simp only [yiy,yjy,yky]);first|done|rfl|(simp only [yly,ymy];rfl)) ?_;(with_reducible refine(QB.calls _ _ l0 t101 _ ?side1 ?side2 A3.out).mono ?_);(case side1=>repeat(first|exact ag.out|(with_reducible refine Kd.zu ?_ _)|(with_reducible refine Kd.zv ?_ _)|(with_reducible refine Kd.qK ?_)));(case side2=>exact ah.out);rintro e w' ⟨rfl,⟨nd,rfl⟩⟩;refine⟨_,rfl,?_⟩))
    go_ret;exact⟨by first|rfl|(simp;done)|(simp [*];done),by repeat(first|exact zp.refl _|apply zp.step)⟩
theorem eqA64 (d:Nat) (w:World) (x0 y0:Int) (x1 y1:Int) :
    (Op.equalIn (d+2) 64 (.agg #[.int .i64 x0,.int .i64 x1]) (.agg #[.int .i64 y0,.int .i64 y1])).run Try.prog w = .ok (x0==y0&&(x1==y1)) w:=by
  refine eqA_of Try.underlying64 (by kernel_rfl) ?_;refine zHL (by rfl) (by go_simp;rfl) (by go_simp;rfl) (by go_simp) ?_;exact zHK (by rfl) (by go_simp;rfl) (by go_simp;rfl) (by go_simp)
end Go.Proofs.Ytbahbnhfhddlbaa.P
