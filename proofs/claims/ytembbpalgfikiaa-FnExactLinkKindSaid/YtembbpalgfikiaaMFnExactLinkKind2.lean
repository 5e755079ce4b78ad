/- The statement FnExactLinkKindSaid, proved: part 2 of 9 (texts of this session and of the kit's print, put together and cut to what is used by a program of it). -/
import Derived.Test.YtembbpalgfikiaaMFnExactLinkKind1
import Derived.Test.YtembbpalgfikiaaProg
import Derived.Below
import Derived.Deep.Draws
import Derived.Deep.AppendLies
import Derived.Maps.AppendAt
import Derived.OwnWalk
import Derived.Laws.BytesArg
import Derived.Laws.MakeOwn
import Derived.Laws.OwnMore
import Derived.Deep.OwnRows
import Derived.Tactics
import Derived.Lib.ConvBytes
import Derived.Laws.Slices
import Derived.WalkKit
import Derived.KernelRfl
import Derived.RowKit3
import Derived.Deep.LoopGhost
import Derived.Deep.QuietTactic
import Derived.BigQuiet
import Derived.WideLaws
import Derived.Deep.DeepCutAuto
import Derived.Deep.CutBlock
import Derived.Deep.RegionHeld3
import Derived.Laws.Rows
import Derived.Lib.AppendStr
import Derived.ArgAppend
import Derived.Laws.IdiomCopy
import Derived.OrdersHeld
import Derived.Laws.BitsLemmas
import Derived.RowKit
import Derived.Maps.OwnSet
import Derived.Shelf.SlicesG.Delete
import Derived.Ground.SlgnProg
import Derived.Sort.Row
import Derived.Lib.SliceRun
namespace Go.Proofs.Ytembbpalgfikiaa
abbrev yay := @List.setIfInBounds_toArray
abbrev yby := @List.set_cons_zero
abbrev ycy := @List.set_cons_succ
abbrev ydy := @Option.bind_eq_some_iff
abbrev yey := @Option.some.inj
abbrev yfy := @Option.bind_some
abbrev ygy := @decide_eq_true
abbrev yhy := @decide_eq_false
abbrev yiy := @List.map_toArray
abbrev yjy := @List.map_cons
abbrev yky := @List.map_nil
abbrev yly := @List.length_drop
abbrev ymy := @List.length_take
abbrev yny := @Int.toNat_natCast
abbrev yoy := @List.getElem_mem
abbrev ypy := @List.drop_eq_getElem_cons
abbrev yqy := @Go.World.block_lt_of_cell?
abbrev yry := @Nat.le_refl
abbrev ysy := @Go.RowKit.Below.refl
end Go.Proofs.Ytembbpalgfikiaa
namespace Go.Proofs.Ytembbpalgfikiaa.P
open Go.RowKit Go.Proofs.YtembbpalgfikiaaW.PrintWords Go.Proofs.YtembbpalgfikiaaW.PrintLast Go.Proofs.YtembbpalgfikiaaW.PrintMore
attribute [local go_sem] Ji Jj zAU zAV JK JL Jk Jl
set_option linter.unusedVariables false
set_option linter.unusedSimpArgs false
def errW:Option Int→Value
  | none => .nilIface
  | some c => .iface 0 (.int .i64 c)
theorem zU:errW none = .nilIface:=rfl
theorem zV (c:Int):errW (some c) = .iface 0 (.int .i64 c):=rfl
theorem Jp:(Try.prog.info? 2).map (fun i=>(i.zero,i.size,i.bytes))=some (some (.int .i64 0),1,8):=by kernel_rfl
theorem zFC:(Try.prog.info? 22).map (fun i=>(i.zero,i.size,i.bytes))=some (some (.slice none 0 0),1,24):=by kernel_rfl
theorem info75:(Try.prog.info? 75).map (fun i=>(i.zero,i.size,i.bytes))=some (some (.agg #[(.int .i64 0),(.int .i64 0)]),2,16):=by kernel_rfl
theorem info76:(Try.prog.info? 76).map (fun i=>(i.zero,i.size,i.bytes))=some (some (.slice none 0 0),1,24):=by kernel_rfl
def qQ (xs:List (List Int)) (i:Int):(List Int):=xs.getD i.toNat ([]:List Int)
theorem zAw {w:World} {A:Option Addr} {n:Nat} {xs:List (List Int)} (h:Kd.C (Kd.slice 2 (Kd.int .i64)) w A n xs) (i:Int) (h0:0≤i) (h1:i<n) : ∃ ad A0 c0,A=some ad∧w.cell? (ad.add i.toNat)=some (.slice A0 (qQ xs i).length c0)∧(qQ xs i).length≤c0∧(Kd.int .i64).C w A0 (qQ xs i).length (qQ xs i):=by
  obtain⟨ad,c,e,_,hK,aa⟩:=Kd.zGM h ([]:List Int) i h0 h1
  have hc : ∀ j u,c[j]?=some u→w.cell? (ad.add (i.toNat*1+j))=some u:=aa
  obtain⟨A0,c0,rfl,l0,g0⟩:=hK
  exact⟨ad,A0,c0,e,by have hq:=hc 0 _ rfl;rwa [Nat.mul_one,Nat.add_zero]at hq,l0,g0⟩
structure qZ where
  f0:Int
  f1:Int
def zFD:qZ:=⟨(0:Int),(0:Int)⟩
def Qd:Kd qZ:=Kd.iso (Kd.pair (Kd.int .i64) (Kd.int .i64)) (fun x:qZ=>(x.f0,x.f1))
theorem zDE {w:World} {x:qZ} {cs:List Value} (h:Qd.K w x cs):cs = [.int .i64 x.f0,.int .i64 x.f1]:=by
  obtain⟨_,_,rfl,rfl,rfl⟩:=h
  exact rfl
theorem zEf (w:World) (x:qZ)  : Qd.K w x [.int .i64 x.f0,.int .i64 x.f1]:=⟨[.int .i64 x.f0],[.int .i64 x.f1],rfl,rfl,rfl⟩
def QV (xs:List qZ) (i:Int):qZ:=xs.getD i.toNat zFD
theorem zFw {w:World} {A:Option Addr} {n:Nat} {xs:List qZ} (h:Kd.C Qd w A n xs) (i:Int) (h0:0≤i) (h1:i<n) : ∃ ad ,A=some ad∧w.cell? (ad.add (i.toNat*2))=some (.int .i64 (QV xs i).f0)∧w.cell? ⟨(ad.add (i.toNat*2)).block,(ad.add (i.toNat*2)).off+1,none⟩=some (.int .i64 (QV xs i).f1):=by
  obtain⟨ad,c,e,_,hK,aa⟩:=Kd.zGM h zFD i h0 h1
  have hc : ∀ j u,c[j]?=some u→w.cell? (ad.add (i.toNat*2+j))=some u:=aa
  obtain rfl:=zDE hK
  exact⟨ad,e,hc 0 _ rfl,by rw[← zDo _ _ 1 (by omega)];exact hc 1 _ rfl⟩
def Zb (xs:List (List qZ)) (i:Int):(List qZ):=xs.getD i.toNat ([]:List qZ)
theorem zAx {w:World} {A:Option Addr} {n:Nat} {xs:List (List qZ)} (h:Kd.C (Kd.slice 118 Qd) w A n xs) (i:Int) (h0:0≤i) (h1:i<n) : ∃ ad A0 c0,A=some ad∧w.cell? (ad.add i.toNat)=some (.slice A0 (Zb xs i).length c0)∧(Zb xs i).length≤c0∧Qd.C w A0 (Zb xs i).length (Zb xs i):=by
  obtain⟨ad,c,e,_,hK,aa⟩:=Kd.zGM h ([]:List qZ) i h0 h1
  have hc : ∀ j u,c[j]?=some u→w.cell? (ad.add (i.toNat*1+j))=some u:=aa
  obtain⟨A0,c0,rfl,l0,g0⟩:=hK
  exact⟨ad,A0,c0,e,by have hq:=hc 0 _ rfl;rwa [Nat.mul_one,Nat.add_zero]at hq,l0,g0⟩
structure zv where
  f0:Int
  f1:Int
def zB9:zv:=⟨(0:Int),(0:Int)⟩
def ZZ:Kd zv:=Kd.iso (Kd.pair (Kd.int .i64) (Kd.int .i64)) (fun x:zv=>(x.f0,x.f1))
theorem zFx {w:World} {x:zv} {cs:List Value} (h:ZZ.K w x cs):cs = [.int .i64 x.f0,.int .i64 x.f1]:=by
  obtain⟨_,_,rfl,rfl,rfl⟩:=h
  exact rfl
theorem zCH {w:World} {base:Nat} {ok:Nat→Prop} {x:zv} {cs:List Value} (h:ZZ.M w base ok x cs):cs = [.int .i64 x.f0,.int .i64 x.f1]:=by
  obtain⟨_,_,rfl,rfl,rfl⟩:=h
  exact rfl
theorem zE0 (w:World) (base:Nat) (ok:Nat→Prop) (x:zv)  : ZZ.M w base ok x [.int .i64 x.f0,.int .i64 x.f1]:=⟨[.int .i64 x.f0],[.int .i64 x.f1],rfl,rfl,rfl⟩
def zI (xs:List zv) (i:Int):zv:=xs.getD i.toNat zB9
theorem QF {w:World} {A:Option Addr} {n:Nat} {xs:List zv} (h:Kd.C ZZ w A n xs) (i:Int) (h0:0≤i) (h1:i<n) : ∃ ad ,A=some ad∧w.cell? (ad.add (i.toNat*2))=some (.int .i64 (zI xs i).f0)∧w.cell? ⟨(ad.add (i.toNat*2)).block,(ad.add (i.toNat*2)).off+1,none⟩=some (.int .i64 (zI xs i).f1):=by
  obtain⟨ad,c,e,_,hK,aa⟩:=Kd.zGM h zB9 i h0 h1
  have hc : ∀ j u,c[j]?=some u→w.cell? (ad.add (i.toNat*2+j))=some u:=aa
  obtain rfl:=zFx hK
  exact⟨ad,e,hc 0 _ rfl,by rw[← zDo _ _ 1 (by omega)];exact hc 1 _ rfl⟩
def zE (xs:List (List zv)) (i:Int):(List zv):=xs.getD i.toNat ([]:List zv)
theorem ZY {w:World} {A:Option Addr} {n:Nat} {xs:List (List zv)} (h:Kd.C (Kd.slice 75 ZZ) w A n xs) (i:Int) (h0:0≤i) (h1:i<n) : ∃ ad A0 c0,A=some ad∧w.cell? (ad.add i.toNat)=some (.slice A0 (zE xs i).length c0)∧(zE xs i).length≤c0∧ZZ.C w A0 (zE xs i).length (zE xs i):=by
  obtain⟨ad,c,e,_,hK,aa⟩:=Kd.zGM h ([]:List zv) i h0 h1
  have hc : ∀ j u,c[j]?=some u→w.cell? (ad.add (i.toNat*1+j))=some u:=aa
  obtain⟨A0,c0,rfl,l0,g0⟩:=hK
  exact⟨ad,A0,c0,e,by have hq:=hc 0 _ rfl;rwa [Nat.mul_one,Nat.add_zero]at hq,l0,g0⟩
def qg.l0:Nat→List Int→Int→Int→Option (List Int)
  | 0,_,_,_=>none
  | k+1,x3,x5,x6=>if x6<x5 then(if x3.length<17592186044416 then(qg.l0 k (x3 ++ [x6]) x5 (wrap64 (x6+1)))else(none))else(some x3)
def qg.f (k:Nat) (a0:Int):Option (List Int):=qg.l0 k ([]:List Int) a0 0
set_option maxHeartbeats 8000000 in
set_option maxRecDepth 100000 in
theorem qg.calls (k:Nat) (a0:Int) (r:List Int) (w:World) (h:qg.f k a0=some r) :
    Calls Try.prog 98 #[.int .i64 a0] w fun e w' => ∃ al:Value,e = .returned (al)∧Kd.R (Kd.int .i64) 2 w' w.heap.size (fun _=>True) al r∧Below w.heap.size w w':=by
  have HB:=zA.mk (ysy w.heap.size w)
  have H:(qg.l0 k ([]:List Int) a0 0)=some r:=h
  clear h;have H':=zA.mk H
  clear H;go_enter Try.func98,Try.ntmps98
  go_wp2;go_loopg [3,6] k (fun kq v3 v6 w' => ∃ (ad:List Int) (aa:Int),v6 = .int .i64 aa∧zA (qg.l0 kq ad a0 aa=some r)∧zA (kq≤k)∧zA (Kd.R (Kd.int .i64) 2 w' w.heap.size (fun _=>True) v3 ad)∧zA (Below w.heap.size w w'))
  case atStart=>exact⟨(([]:List Int)),(0),(by first|rfl|(simp;done)|(simp [*];done)),H',⟨yry _⟩,⟨by first|exact Kd.zD6 _ _ _ _ _|exact Kd.zHi _ _ _ _ _|exact Kd.zHl _ _ _ _ _|exact Kd.zHW _ _ _ _ _|exact Kd.zHe _ _ _ _ _⟩,⟨by repeat(first|(with_reducible first|exact HB.out|apply zC|apply zB|apply zD)|exact HB.out)⟩⟩
  case round=>
    clear H';obtain⟨ad,aa,rfl,HA,an,ae,HB⟩:=hrel
    cases gk with
    | zero=>exact absurd HA.out (by simp [qg.l0])
    | succ k1=>
      have H:=HA.out
      clear HA;simp only [qg.l0]at H
      by_cases c2:aa<a0
      · rw[if_pos c2]at H
        have ai:decide (aa<a0)=true:=ygy c2
        clear c2;by_cases c3:ad.length<17592186044416
        · rw[if_pos c3]at H
          have aj:=zA.mk c3
          clear c3;obtain⟨af,ab⟩ : ∃ y_:List Int,y_=(ad ++ [aa]):=⟨_,rfl⟩
          replace H:(qg.l0 k1 af a0 (wrap64 (aa+1)))=some r:=by first|(rw[ab];with_reducible exact H)|(have ak:=(yfy _ _).symm.trans H;rw[ab];with_reducible exact ak)|(have ak:=(yfy _ _).symm.trans H;with_reducible exact ak)|with_reducible exact H|(rw[ab];exact H)|exact H
          have ag:=zA.mk ab
          clear ab;have H':=zA.mk H
          clear H;go_wp2_with (first|((with_reducible refine ZN (b := .append) (xs:=#[.tmp 9,.tmp 11]) rfl ?_);at_builtin;refine Kd.Qn (Kd.int .i64) (w0:=w) w.heap.size rfl (.tmp 9) (.tmp 11) 22 2 (.int .i64 0) 8 rfl Try.underlying22 Jp rfl (by decide) (by omega) u3 ad aa [.int .i64 aa] (fun _=>True) (fun _=>False) rfl rfl ?aP (fun _ hk=>hk.elim) ?aF ?aO ?aB ?aS ?aL ?_;(case aP=>exact rfl);(case aB=>exact(by repeat(first|(with_reducible first|exact HB.out|apply zC|apply zB|apply zD)|exact HB.out)));(case aF=>exact(fun _ _=>trivial));(case aO=>exact(by(with_reducible repeat(first|apply Kd.zS|apply Kd.zT|apply Kd.zZ));exact ae.out));(case aS=>exact(zQ (by repeat(first|(with_reducible first|exact HB.out|apply zC|apply zB|apply zD)|exact HB.out))));(case aL=>have:=aj.out;omega);intro ar w4 ho hb hg hat;rw[← ag.out]at ho;have ao:=zA.mk (hb);have aq:=zA.mk (ho);clear HB;clear ae;have HB:=ao;have ah:=aq;clear ao aq;clear ho hb hg hat))
          go_roundg k1
          case measure=>have:=an.out;omega
          case rel=>exact⟨(af),(wrap64 (aa+1)),(by first|rfl|(simp;done)|(simp [*];done)),H',⟨by have:=an.out;omega⟩,⟨by(with_reducible repeat(first|apply Kd.zS|apply Kd.zT|apply Kd.zZ));exact ah.out⟩,⟨by repeat(first|(with_reducible first|exact HB.out|apply zC|apply zB|apply zD)|exact HB.out)⟩⟩
        · rw[if_neg c3]at H
          exact absurd H (by simp)
      · rw[if_neg c2]at H
        have ai:decide (aa<a0)=false:=yhy c2
        clear c2;obtain rfl:=yey H
        go_wp2;go_ret;exact⟨_,by first|rfl|(simp [zU,zV] <;> rfl)|(simp [*,zU,zV] <;> rfl),by(with_reducible repeat(first|apply Kd.zS|apply Kd.zT|apply Kd.zZ));exact ae.out,by repeat(first|(with_reducible first|exact HB.out|apply zC|apply zB|apply zD)|exact HB.out)⟩
end Go.Proofs.Ytembbpalgfikiaa.P
namespace Go.Proofs.Ytembbpalgfikiaa.Lib
open Go.RowKit Go.Proofs.YtembbpalgfikiaaW.PrintWords
def zHm {α:Type} (f : α→Option Bool):Nat→List α→Option Int
  | _,[]=>some (-1)
  | i,x :: xs=>(f x).bind fun b=>if b=true then some (i:Int)else zHm f (i+1) xs
theorem zE1 {α:Type} (f : α→Option Bool) (i:Nat) (x : α) (xs:List α):zHm f i (x :: xs)=(f x).bind fun b=>if b=true then some (i:Int)else zHm f (i+1) xs:=rfl
end Go.Proofs.Ytembbpalgfikiaa.Lib
namespace Go.Proofs.Ytembbpalgfikiaa.Lib
set_option linter.unusedVariables false
open Go.RowKit Go.Proofs.YtembbpalgfikiaaW.PrintWords
theorem zEg {σ ρ:Type} (L:Nat → σ→Option ρ) (I : σ→Prop) (m : σ→Nat) (g : σ → ρ)
    (h : ∀ s,I s→(∃ K,∀ k,K≤k→L (k+1) s=some (g s))∨(∃ s' K,I s' ∧ m s' < m s∧g s' = g s ∧ ∀ k,K≤k→L (k+1) s=L k s')) :
    ∀ s,I s→Ev (fun k=>L k s) (g s):=by
  have key : ∀ (n:Nat) (s : σ),m s<n→I s→Ev (fun k=>L k s) (g s):=by
    intro n;induction n with
    | zero=>intro s hs;omega
    | succ n ih=>
      intro s hs hi
      rcases h s hi with ⟨K,hK⟩|⟨s',K,hi',hm,hg,hK⟩
      · refine⟨K+1,fun k hk=>?_⟩
        obtain⟨j,rfl⟩ : ∃ j,k=j+1:=⟨k-1,by omega⟩
        exact hK j (by omega)
      · obtain⟨K',hK'⟩:=ih s' (by omega) hi'
        refine⟨max K K' + 1,fun k hk=>?_⟩
        obtain⟨j,rfl⟩ : ∃ j,k=j+1:=⟨k-1,by omega⟩
        show L (j+1) s=some (g s)
        rw[hK j (by omega),← hg]
        exact hK' j (by omega)
  intro s hi
  exact key (m s+1) s (by omega) hi
theorem zFE {σ ρ:Type} (L:Nat → σ→Option ρ) (I : σ→Prop) (m : σ→Nat) (g : σ → ρ)
    (h : ∀ s,I s→(∀ k,L (k+1) s=some (g s))∨(∃ s',I s' ∧ m s' < m s∧g s' = g s ∧ ∀ k,L (k+1) s=L k s')) :
    ∀ s,I s→Ev (fun k=>L k s) (g s):=
  zEg L I m g fun s hi=>by
    rcases h s hi with h1|⟨s',h1,h2,h3,h4⟩
    · exact .inl ⟨0,fun k _=>h1 k⟩
    · exact .inr ⟨s',0,h1,h2,h3,fun k _=>h4 k⟩
theorem ql {x:Int} (h0 : -9223372036854775808≤x) (h1:x≤9223372036854775807):wrap64 x=x:=by
  unfold wrap64;omega
theorem Zc {n:Nat} (h:n≤4611686018427387904):wrap64 ((n:Int)+1)=((n+1:Nat):Int):=by
  rw[ql (by omega) (by omega)];rfl
theorem JZ (xs:List Int) (n:Nat):rd xs (n:Int)=xs.getD n 0:=by simp [rd]
theorem zBA (xs:List Int) (n:Nat) (h:n<xs.length):rd xs (n:Int)=xs[n]:=by simp [rd,h]
theorem Qi {α:Type} {c:Prop} [Decidable c] {f g:Nat→Option α} {r : α} (h : ¬ c) (k:Ev g r):Ev (fun n=>if c then f n else g n) r:=Ev.congr (fun _=>if_neg h) k
theorem ZJ {α:Type} {c:Prop} [Decidable c] {f g:Nat→Option α} {r : α} (h:c) (k:Ev f r):Ev (fun n=>if c then f n else g n) r:=Ev.congr (fun _=>if_pos h) k
theorem zDF {α:Type} {r r' : α} (h:r=r'):Ev (fun _=>some r) r':=h ▸ Ev.now r
theorem Qw {α:Type} {o:Option α} {r : α} (h:o=some r):Ev (fun _=>o) r:=⟨0,fun _ _=>h⟩
theorem zE2 {α:Type} {g:Nat→Option α} {r : α} (h : ∀ k,g k=some r):Ev g r:=⟨0,fun k _=>h k⟩
theorem qW {α:Type} {g f:Nat→Option α} {r : α} (h : ∀ k,g (k+1)=f k) (k:Ev f r):Ev g r:=Ev.step h k
theorem zFF {α:Type} {f : α→Option Bool} {p : α→Bool} : ∀ (i:Nat) (l:List α),(∀ x∈l,f x=some (p x)) → ∃ r,zHm f i l=some r∧decide (0≤r)=l.any p
  | i,[],_=>⟨-1,rfl,rfl⟩
  | i,x :: xs,h=>by
    rw[zE1,h x (List.mem_cons_self ..),yfy]
    cases hp:p x with
    | true=>exact⟨i,by rw[if_pos rfl],by simp [hp]⟩
    | false=>
      obtain⟨r,h1,h2⟩:=zFF (i+1) xs (fun y hy=>h y (List.mem_cons_of_mem _ hy))
      exact⟨r,by rw[if_neg (by simp)];exact h1,by rw[h2];simp [hp]⟩
theorem contO {α:Type} {f : α→Option Bool} {p : α→Bool} (l:List α) (h : ∀ x∈l,f x=some (p x)):(zHm f 0 l).bind (fun i=>some (decide (0≤i)))=some (l.any p):=by
  obtain⟨r,h1,h2⟩:=zFF 0 l h
  rw[h1,yfy,h2]
def ZP (a:Int):Nat→List Int
  | 0 => []
  | n+1=>a :: ZP (a+1) n
theorem qU (a:Int) (n:Nat):(ZP a n).length=n:=by
  induction n generalizing a with
  | zero=>rfl
  | succ n ih=>simp [ZP,ih]
theorem zCk (a:Int) (n i:Nat) (h:i<n):(ZP a n).getD i 0=a+i:=by
  induction n generalizing a i with
  | zero=>omega
  | succ n ih=>
    cases i with
    | zero=>simp [ZP]
    | succ i=>simp only [ZP,List.getD_cons_succ];rw[ih (a+1) i (by omega)];omega
end Go.Proofs.Ytembbpalgfikiaa.Lib
namespace Go.Proofs.Ytembbpalgfikiaa.Lib
open Go.RowKit Go.Proofs.YtembbpalgfikiaaW.PrintWords
set_option linter.unusedVariables false
def uni (s:List Int) (i k:Int):List Int:=s.map fun x=>if x=rd s k then rd s i else x
def joi (s:List Int) (i k:Int):List Int:=s.map fun x=>if x=max (rd s i) (rd s k)then min (rd s i) (rd s k)else x
def Ker (a b:List Int):Prop:=a.length=b.length ∧ ∀ i j:Nat,i<a.length→j<a.length→(a.getD i 0=a.getD j 0↔b.getD i 0=b.getD j 0)
theorem Ker.refl (a:List Int):Ker a a:=⟨rfl,fun _ _ _ _=>Iff.rfl⟩
theorem zA6 {α β:Type} (f : α → β) (l:List α) (i:Nat) (d : β) (e : α) (h:i<l.length):(l.map f).getD i d=f (l.getD i e):=by
  simp [List.getD_eq_getElem?_getD,h]
theorem Zj (s:List Int) (i k:Int):(uni s i k).length=s.length:=by simp [uni]
theorem QC (s:List Int) (i k:Int):(joi s i k).length=s.length:=by simp [joi]
theorem zGd (s:List Int) (i k:Int) (n:Nat) (h:n<s.length):(uni s i k).getD n 0=if s.getD n 0=rd s k then rd s i else s.getD n 0:=zA6 _ s n 0 0 h
theorem zEh (s:List Int) (i k:Int) (n:Nat) (h:n<s.length):(joi s i k).getD n 0=if s.getD n 0=max (rd s i) (rd s k)then min (rd s i) (rd s k)else s.getD n 0:=zA6 _ s n 0 0 h
theorem zFG (s:List Int) (i k:Int) (m n:Nat) (hm:m<s.length) (hn:n<s.length) :
    (uni s i k).getD m 0=(uni s i k).getD n 0↔(s.getD m 0=s.getD n 0∨((s.getD m 0=rd s i∨s.getD m 0=rd s k)∧(s.getD n 0=rd s i∨s.getD n 0=rd s k))):=by
  rw[zGd s i k m hm,zGd s i k n hn]
  generalize s.getD m 0=x
  generalize s.getD n 0=y
  generalize rd s i=p
  generalize rd s k=q
  split <;> split <;> omega
theorem zFH (s:List Int) (i k:Int) (m n:Nat) (hm:m<s.length) (hn:n<s.length) :
    (joi s i k).getD m 0=(joi s i k).getD n 0↔(s.getD m 0=s.getD n 0∨((s.getD m 0=rd s i∨s.getD m 0=rd s k)∧(s.getD n 0=rd s i∨s.getD n 0=rd s k))):=by
  rw[zEh s i k m hm,zEh s i k n hn]
  generalize s.getD m 0=x
  generalize s.getD n 0=y
  generalize rd s i=p
  generalize rd s k=q
  split <;> split <;> omega
theorem zGe (s:List Int) (i:Int):rd s i=s.getD i.toNat 0:=rfl
theorem Ker.zIe {a b:List Int} (h:Ker a b) {i k:Int} (af:0≤i) (ag:i<a.length) (ah:0≤k) (ai:k<a.length):Ker (uni a i k) (joi b i k):=by
  refine⟨by rw[Zj,QC];exact h.1,fun m n hm hn=>?_⟩
  rw[Zj]at hm hn
  have ad:m<b.length:=by rw[← h.1];exact hm
  have ae:n<b.length:=by rw[← h.1];exact hn
  rw[zFG a i k m n hm hn,zFH b i k m n ad ae]
  have aa:i.toNat<a.length:=by omega
  have ab:k.toNat<a.length:=by omega
  simp only [zGe]
  rw[h.2 m n hm hn,h.2 m _ hm aa,h.2 m _ hm ab,h.2 n _ hn aa,h.2 n _ hn ab]
def zAi:List Int→List Int→List Int
  | _,[] => []
  | seen,x :: xs=>if x∈seen then(seen.idxOf x:Int) :: zAi seen xs else(seen.length:Int) :: zAi (seen ++ [x]) xs
def zDG (l:List Int):List Int:=zAi [] l
theorem zBf : ∀ (l seen:List Int),(zAi seen l).length=l.length
  | [],_=>rfl
  | x :: xs,seen=>by
    rw[zAi];split <;> simp [zBf xs]
theorem zEi (l:List Int):(zDG l).length=l.length:=zBf l []
def Cons2 (P:List (Int × Int)):Prop := ∀ p∈P,∀ q∈P,p.1=q.1↔p.2=q.2
theorem zIf (S:List (Int × Int)) (p:Int × Int) (h : ∀ q∈S,q.1=p.1↔q.2=p.2):p.1∈S.map (·.1)↔p.2∈S.map (·.2):=by
  simp only [List.mem_map]
  exact⟨fun⟨q,hq,e⟩=>⟨q,hq,(h q hq).1 e⟩,fun⟨q,hq,e⟩=>⟨q,hq,(h q hq).2 e⟩⟩
theorem zGf : ∀ (S:List (Int × Int)) (p:Int × Int),(∀ q∈S,q.1=p.1↔q.2=p.2)→(S.map (·.1)).idxOf p.1=(S.map (·.2)).idxOf p.2
  | [],_,_=>rfl
  | q :: S,p,h=>by
    have h0:=h q (List.mem_cons_self ..)
    have ih:=zGf S p (fun r hr=>h r (List.mem_cons_of_mem _ hr))
    simp only [yjy,List.idxOf_cons]
    by_cases e:q.1=p.1
    · have e2:=h0.1 e
      simp [e,e2]
    · have e2 : ¬ q.2=p.2:=fun e2=>e (h0.2 e2)
      have b1:(q.1==p.1)=false:=by simpa using e
      have b2:(q.2==p.2)=false:=by simpa using e2
      rw[b1,b2,ih]
theorem zAy : ∀ (L S:List (Int × Int)),Cons2 (S++L)→zAi (S.map (·.1)) (L.map (·.1))=zAi (S.map (·.2)) (L.map (·.2))
  | [],_,_=>rfl
  | p :: L,S,h=>by
    have hS : ∀ q∈S,q.1=p.1↔q.2=p.2:=fun q hq=>h q (List.mem_append_left _ hq) p (List.mem_append_right _ (List.mem_cons_self ..))
    have hm:=zIf S p hS
    simp only [yjy,zAi]
    by_cases e:p.1∈S.map (·.1)
    · rw[if_pos e,if_pos (hm.1 e),zGf S p hS,zAy L S (fun a ha b hb=>h a (by simp only [List.mem_append,List.mem_cons]at ha ⊢;rcases ha with ha|ha <;> simp [ha]) b (by simp only [List.mem_append,List.mem_cons]at hb ⊢;rcases hb with hb|hb <;> simp [hb]))]
    · rw[if_neg e,if_neg (fun e2=>e (hm.2 e2))]
      have ih:=zAy L (S ++ [p]) (by rw[List.append_assoc];exact h)
      simp only [List.map_append,yjy,yky]at ih
      rw[ih,List.length_map,List.length_map]
theorem Ker.zDG {a b:List Int} (h:Ker a b):zDG a=zDG b:=by
  have ad:(a.zip b).map (·.1)=a:=by
    rw[List.map_fst_zip];exact Nat.le_of_eq h.1
  have ae:(a.zip b).map (·.2)=b:=by
    rw[List.map_snd_zip];exact Nat.le_of_eq h.1.symm
  have hc:Cons2 (a.zip b):=by
    intro p hp q hq
    obtain⟨i,hi,rfl⟩:=List.getElem_of_mem hp
    obtain⟨j,hj,rfl⟩:=List.getElem_of_mem hq
    rw[List.length_zip]at hi hj
    have aa:i<a.length:=by omega
    have ab:j<a.length:=by omega
    have af:i<b.length:=by omega
    have ag:j<b.length:=by omega
    have:=h.2 i j aa ab
    simpa [List.getElem_zip,List.getD_eq_getElem?_getD,aa,ab,af,ag]using this
  have:=zAy (a.zip b) [] (by rw[List.nil_append];exact hc)
  rw[ad,ae]at this
  exact this
theorem zGg (a x:Int) (n:Nat):x∈ZP a n↔a≤x∧x<a+n:=by
  induction n generalizing a with
  | zero=>simp [ZP];try omega
  | succ n ih=>rw[ZP,List.mem_cons,ih];omega
end Go.Proofs.Ytembbpalgfikiaa.Lib
namespace Go.Proofs.Ytembbpalgfikiaa.P
open Go.RowKit Go.Proofs.YtembbpalgfikiaaW.PrintWords Go.Proofs.YtembbpalgfikiaaW.PrintLast Go.Proofs.YtembbpalgfikiaaW.PrintMore
attribute [local go_sem] Ji Jj zAU zAV JK JL Jk Jl
set_option linter.unusedVariables false
set_option linter.unusedSimpArgs false
structure zDH (seen:List Int) (D:DataW Unit):Prop where
  tidy:Maps.Tidy D
  size:Maps.size D=seen.length
  has : ∀ x,Maps.has D (.int .i64 x)=seen.contains x
  at_ : ∀ x,x∈seen→D.atKey (.int .i64 x) (.lit (.int .i64 0)) = .lit (.int .i64 (seen.idxOf x:Int))
theorem zDH.empty:zDH [] (.map []):=⟨Maps.tidy_empty,rfl,fun _=>rfl,fun _ h=>by cases h⟩
theorem zDH.put {seen:List Int} {D:DataW Unit} (h:zDH seen D) {x:Int} (hx:x ∉ seen):zDH (seen ++ [x]) (D.put (.int .i64 x) (.lit (.int .i64 (seen.length:Int)))):=by
  refine⟨h.tidy.put (show WideAt.IsKeyLit (.int .i64 x)from trivial) _,?_,fun y=>?_,fun y hy=>?_⟩
  · rw[Maps.size_put h.tidy,h.has,h.size]
    have:seen.contains x=false:=by simpa using hx
    rw[this];simp
  · by_cases e:y=x
    · subst e
      rw[Maps.has_put_same h.tidy.isMap (show WideAt.IsKeyLit (.int .i64 y)from trivial)];simp
    · rw[Maps.has_put_other (by simpa using e),h.has]
      simp [e]
  · by_cases e:y=x
    · subst e
      rw[Maps.atKey_put_same h.tidy.isMap (show WideAt.IsKeyLit (.int .i64 y)from trivial),List.idxOf_append];simp [hx]
    · rw[Maps.atKey_put_other (by simpa using e)]
      have hm:y∈seen:=by simpa [e]using hy
      rw[h.at_ y hm,List.idxOf_append,if_pos hm]
theorem zDH.get {seen:List Int} {D:DataW Unit} (h:zDH seen D) {x c:Int} (hx:x∈seen) (hat:D.atKey (.int .i64 x) (.lit (.int .i64 0)) = .lit (.int .i64 c)):c=(seen.idxOf x:Int):=by
  have:=(h.at_ x hx).symm.trans hat
  simpa using this.symm
theorem zBu {a:Int} (h0:0≤a) (h1:a≤1000000):(Lit.int .i64 a).wf=true:=by
  unfold Lit.wf
  rw[Bool.and_eq_true]
  exact⟨ygy (by show(-9223372036854775808:Int)≤a;omega),ygy (by show a≤(9223372036854775807:Int);omega)⟩
def zEj (l:List Int):Bool:=decide (l.length≤1000000)&&l.all fun x=>decide (0≤x∧x≤1000000)
def Qx.f (l0:List Int):Option (List Int):=if zEj l0=true then some (Lib.zDG l0)else none
set_option maxHeartbeats 8000000 in
set_option maxRecDepth 100000 in
theorem Qx.calls (A0:Option Addr) (c0:Nat) (l0:List Int) (r:List Int) (w:World) (av:Kd.C (Kd.int .i64) w A0 l0.length l0) (aw:l0.length≤c0) (h:Qx.f l0=some r) :
    Calls Try.prog 109 #[.slice A0 l0.length c0] w fun e w' => ∃ ax:Value,e = .returned (ax)∧Kd.R (Kd.int .i64) 2 w' w.heap.size (fun _=>True) ax r∧Below w.heap.size w w':=by
  unfold Qx.f at h
  by_cases hok:zEj l0=true
  case neg=>rw[if_neg hok]at h;cases h
  rw[if_pos hok]at h
  have hr:=yey h
  subst hr;clear h;simp only [zEj,Bool.and_eq_true,decide_eq_true_eq,List.all_eq_true]at hok
  obtain⟨hlen,hall⟩:=hok
  have HALL:=zA.mk hall
  have HR:=zA.mk av
  have HC:=zA.mk aw
  clear av aw hall;have hmm := @run_makeMap Try.prog
  have HK:=zA.mk (Maps.int_keyed Try.underlying2:Maps.Keyed Try.prog 2)
  have HZ:=zA.mk (show ∀ w:World,(zeroValue 2).run Try.prog w = .ok (.int .i64 0) w from fun w=>by kernel_rfl)
  have HA:zA ([]++Lib.zAi [] (l0.drop 0)=Lib.zDG l0):=⟨rfl⟩
  generalize Lib.zDG l0=R at HA ⊢
  go_enter Try.func109,Try.ntmps109
  go_wp2;go_loopg [4,12] l0.length (fun gg v4 az w' => ∃ (i:Nat) (seen acc:List Int) (D:DataW Unit),i≤l0.length∧l0.length-i≤gg∧az = .int .i64 i∧zA (acc++Lib.zAi seen (l0.drop i)=R)∧zA (zDH seen D∧seen.length≤i∧acc.length=i)∧zA (w'.ownsMap Try.prog 2 (plainElem Try.prog 2) w.heap.size i D)∧zA (Kd.R (Kd.int .i64) 2 w' w.heap.size (fun k=>k≠w.heap.size) v4 acc)∧zA (Below w.heap.size w w' ∧ w.heap.size+1≤w'.heap.size))
  case atStart=>exact⟨0,[],[],.map [],Nat.zero_le _,by omega,rfl,HA,⟨zDH.empty,yry _,rfl⟩,⟨World.ownsMap_made _ _ _ _⟩,⟨Kd.zD6 _ _ _ _ _⟩,⟨zC (ysy _ _) _,by simp⟩⟩
  case round=>
    clear HA;obtain⟨i,seen,acc,D,hi,hg,rfl,HA,HM,HO,HV,HB⟩:=hrel
    by_cases hlt:i<l0.length
    · have hltz:(i:Int)<(l0.length:Int):=by omega
      obtain⟨ad,e1,hx⟩:=Kd.qw HR.out (i:Int) (by omega) (by omega)
      have ex:rd l0 (i:Int)=l0[i]:=by simp [rd,hlt]
      rw[ex,yny]at hx
      replace hx:=(HB.out.1.cell (yqy w _ hx)).trans hx
      have hy:=HALL.out l0[i] (yoy hlt)
      have ah:=HA.out
      rw[ypy hlt,Lib.zAi]at ah
      have ai:=zA.mk ah
      clear HA ah ex;generalize l0[i]=y at hx hy ai
      cases e1
      have HKEY:=zA.mk (Maps.keyOf_int_mk Try.underlying2 (zBu hy.1 hy.2))
      clear hy;by_cases hm:y∈seen
      · have hhas:Maps.has D (.int .i64 y)=true:=by rw[HM.out.1.has];simpa using hm
        have HMS:=zA.mk hm
        have ak:zA (acc++(seen.idxOf y:Int) :: Lib.zAi seen (l0.drop (i+1))=R):=⟨by have h:=ai.out;rwa [if_pos hm]at h⟩
        clear hm ai;go_wp2_with (first
          | (at_lookup;refine wpList_lookup_own_ok_int _ rfl _ _ 126 rfl 2 2 .i64 HK.out Try.underlying126 Try.underlying2 (HZ.out _) w.heap.size i D rfl HO.out _ _ rfl HKEY.out ?_;intro c1 ae af;clear ae af)
          | (at_lookup;refine wpList_lookup_own_int _ rfl _ _ 126 rfl 2 2 .i64 HK.out Try.underlying126 Try.underlying2 (HZ.out _) w.heap.size i D rfl HO.out _ _ rfl HKEY.out ?_;intro c hat hwc;have HCC:=zA.mk (HM.out.1.get HMS.out hat);clear hat hwc)
          | ((with_reducible refine ZN (b := .append) (xs:=#[.tmp 28,.tmp 32]) rfl ?_);at_builtin;refine Kd.Qn (Kd.int .i64) (w0:=w) w.heap.size rfl (.tmp 28) (.tmp 32) 22 2 (.int .i64 0) 8 rfl Try.underlying22 Jp rfl (by decide) (by omega) u4 acc c [.int .i64 c] (fun k=>k≠w.heap.size) (fun _=>False) rfl rfl ?aP (fun _ hk=>hk.elim) ?aF ?aO ?aB ?aS ?aL ?_;(case aP=>exact rfl);(case aB=>exact HB.out.1);(case aF=>exact(fun k hk e=>by have:=HB.out.2;omega));(case aO=>exact HV.out);(case aS=>exact HB.out.1.size);(case aL=>have:=HM.out.2.2;omega);intro al w4 ho hb ag hat;have an:=zA.mk ((HO.out.kept ag (fun e=>HV.out.1 _ e.symm rfl)).mono (Nat.le_succ i));have ao:=zA.mk ho;have aq:=zA.mk (And.intro hb (Nat.le_trans HB.out.2 ag.size));clear HO HV HB ho hb ag hat))
        go_roundg (l0.length-(i+1))
        case measure=>omega
        case rel=>exact⟨i+1,seen,acc ++ [c],D,by omega,by omega,by go_num,⟨by have h:=ak.out;rw[← HCC.out]at h;rw[List.append_assoc];exact h⟩,⟨HM.out.1,by have:=HM.out.2.1;omega,by have:=HM.out.2.2;simp;omega⟩,an,ao,aq⟩
      · have hhas:Maps.has D (.int .i64 y)=false:=by rw[HM.out.1.has];simpa using hm
        have ay:=zA.mk (HM.out.1.put hm)
        have ak:zA (acc++(seen.length:Int) :: Lib.zAi (seen ++ [y]) (l0.drop (i+1))=R):=⟨by have h:=ai.out;rwa [if_neg hm]at h⟩
        have HIX:zA ((seen ++ [y]).idxOf y=seen.length):=⟨by rw[List.idxOf_append,if_neg hm];simp⟩
        have hsz:Maps.size D=seen.length:=HM.out.1.size
        clear hm ai;have HSL:=zA.mk HM.out.2.1
        have HWF:=zA.mk (show(Lit.int .i64 ((seen.length:Nat):Int)).wf=true from zBu (by omega) (by have:=HM.out.2.1;omega))
        go_wp2_with (first
          | (at_lookup;refine wpList_lookup_own_ok_int _ rfl _ _ 126 rfl 2 2 .i64 HK.out Try.underlying126 Try.underlying2 (HZ.out _) w.heap.size i D rfl HO.out _ _ rfl HKEY.out ?_;intro c1 ae af;clear ae af)
          | (at_len;refine wpList_len_own _ rfl _ 126 rfl 2 2 Try.underlying126 _ w.heap.size i D rfl HO.out ?_;rw[hsz])
          | (at_mapUpdate;refine wpList_mapUpdate_own _ rfl _ _ _ 126 rfl 2 2 HK.out Try.underlying126 _ w.heap.size i D rfl HO.out (by unfold maxLen;omega) _ _ _ rfl rfl HKEY.out (.lit (.int .i64 (seen.length:Int))) [] (plainElem_int Try.underlying2 HWF.out) ?_;intro w1 ab aa;have ar:=zA.mk ab;have au:=zA.mk (Kd.zBN HV.out aa (fun k hk e=>hk (yey e)));have aj:=zA.mk (And.intro (HB.out.1.grown aa HB.out.1.size (fun j hj=>by cases hj;exact yry _)) (Nat.le_trans HB.out.2 aa.size));clear HO HV HB ab aa)
          | (at_lookup;refine wpList_lookup_own_int _ rfl _ _ 126 rfl 2 2 .i64 HK.out Try.underlying126 Try.underlying2 (HZ.out _) w.heap.size (i+1) _ rfl ar.out _ _ rfl HKEY.out ?_;intro c hat hwc;have HCC:=zA.mk (ay.out.get (by simp) hat);clear hat hwc)
          | ((with_reducible refine ZN (b := .append) (xs:=#[.tmp 28,.tmp 32]) rfl ?_);at_builtin;refine Kd.Qn (Kd.int .i64) (w0:=w) w.heap.size rfl (.tmp 28) (.tmp 32) 22 2 (.int .i64 0) 8 rfl Try.underlying22 Jp rfl (by decide) (by omega) u4 acc c [.int .i64 c] (fun k=>k≠w.heap.size) (fun _=>False) rfl rfl ?aP (fun _ hk=>hk.elim) ?aF ?aO ?aB ?aS ?aL ?_;(case aP=>exact rfl);(case aB=>exact aj.out.1);(case aF=>exact(fun k hk e=>by have:=aj.out.2;omega));(case aO=>exact au.out);(case aS=>exact aj.out.1.size);(case aL=>have:=HM.out.2.2;omega);intro al w4 ho hb ag hat;have an:=zA.mk (ar.out.kept ag (fun e=>au.out.1 _ e.symm rfl));have ao:=zA.mk ho;have aq:=zA.mk (And.intro hb (Nat.le_trans aj.out.2 ag.size));clear ar au aj ho hb ag hat))
        go_roundg (l0.length-(i+1))
        case measure=>omega
        case rel=>exact⟨i+1,seen ++ [y],acc ++ [c],_,by omega,by omega,by go_num,⟨by have h:=ak.out;rw[← HIX.out,← HCC.out]at h;rw[List.append_assoc];exact h⟩,⟨ay.out,by have:=HSL.out;simp;omega,by have:=HM.out.2.2;simp;omega⟩,an,ao,aq⟩
    · obtain rfl:i=l0.length:=by omega
      have ah:=HA.out
      rw[List.drop_length,Lib.zAi,List.append_nil]at ah
      subst ah;go_wp2;go_ret;exact⟨_,rfl,Kd.qC HV.out (fun _ _=>trivial),HB.out.1⟩
def zEk:Go.Shelf.Ren:=⟨fun|45=>127|n=>n,fun|22=>22|23=>2|3=>3|4=>4|0=>0|n=>n,fun|n=>n⟩
theorem zIg:Go.Proofs.SlLaysN.n45 Try.prog zEk := {
  mixed:=by kernel_rfl
  f45:=⟨Try.f127.name,by decide,Try.func127.trans (congrArg some (by kernel_rfl))⟩
  t0:=Try.underlying0
  a0:=Try.isAgg0
  z0:=Try.sizeOf0
  v0:=Try.zeroValue0
  t3:=Try.underlying3
  a3:=Try.isAgg3
  z3:=Try.sizeOf3
  v3:=Try.zeroValue3
  t4:=Try.underlying4
  a4:=Try.isAgg4
  z4:=Try.sizeOf4
  v4:=Try.zeroValue4
  t22:=Try.underlying22
  a22:=Try.isAgg22
  z22:=Try.sizeOf22
  v22:=Try.zeroValue22
  t23:=Try.underlying2
  a23:=Try.isAgg2
  z23:=Try.sizeOf2
  v23:=Try.zeroValue2
  i23:=by kernel_rfl }
theorem erase_eq (xs:List Int) (i:Nat):xs.take i++xs.drop (i+1)=xs.eraseIdx i:=(List.eraseIdx_eq_take_drop_succ xs i).symm
theorem QQ.zFI (g cap i:Nat) (xs:List Int) (base:Nat) (ok:Nat→Prop) (w:World) (ho:Kd.R (Kd.int .i64) 2 w base ok (.slice (some ⟨g,0,none⟩) xs.length cap) xs) (hi:i<xs.length) :
    Calls Try.prog 127 #[.slice (some ⟨g,0,none⟩) xs.length cap,.int .i64 i,.int .i64 (i+1)] w fun e w'=>e = .returned (.slice (some ⟨g,0,none⟩) (xs.length-1) cap) ∧
      Kd.R (Kd.int .i64) 2 w' base ok (.slice (some ⟨g,0,none⟩) (xs.length-1) cap) (xs.eraseIdx i)∧w.grownBy w' (some g):=by
  have hown:=Kd.zD7 ho
  rcases hown.2 with ⟨hv,_⟩|⟨g',cap',cur,hv,hbase,hh,hle,hmax,hcs,htake⟩
  · cases hv
  injection hv with hv1 _ hv3
  injection hv1 with hv1
  injection hv1 with hv1 _ _
  subst hv1 hv3;rw[Nat.mul_one]at hcs htake
  have hcell : ∀ j,j<xs.length→w.cell? ⟨g,0+j,none⟩=some (.int .i64 xs[j]!):=by
    intro j hj
    rw[Nat.zero_add]
    have h1:cur.toList[j]?=some (.int .i64 xs[j]!):=by
      have h2:(cur.toList.take xs.length)[j]?=some (.int .i64 xs[j]!):=by
        rw[htake,zAo,List.getElem?_map,List.getElem?_eq_getElem hj]
        simp [getElem!_pos,hj]
      rw[List.getElem?_take,if_pos hj]at h2
      exact h2
    rw[zK hh j,← Array.getElem?_toList,h1]
  have hH:Go.Sort.Holds (Value.int .i64) w g 0 xs.toArray:=by
    intro j hj
    have hj' : j<xs.length:=by simpa using hj
    refine⟨?_,by rw[Nat.zero_add];exact zP hh j⟩
    rw[hcell j hj']
    simp [getElem!_pos,hj']
  have hc:=AnyG.slices_Delete_int zIg g 0 cap i (i+1) xs w hH hle (by unfold maxLen at hmax;omega) (by omega) (by omega)
  have aa:Calls Try.prog 127 #[.slice (some ⟨g,0,none⟩) xs.length cap,.int .i64 (i:Nat),.int .i64 ((i+1:Nat):Int)] w fun e w'=>e = .returned (.slice (some ⟨g,0,none⟩) (xs.length-(i+1-i)) cap) ∧ ∃ q,w' = Go.Sort.putRow (Value.int .i64) (Go.Sort.ahead w q) g 0 (xs.take i++xs.drop (i+1)++List.replicate (i+1-i) 0).toArray:=hc
  refine aa.mono ?_
  rintro e w' ⟨rfl,q,rfl⟩
  have hlen:(xs.eraseIdx i).length=xs.length-1:=by rw[List.length_eraseIdx];simp [hi]
  have hd:xs.take i++xs.drop (i+1)++List.replicate (i+1-i) 0=xs.eraseIdx i ++ [0]:=by
    rw[erase_eq,show i+1-i=1 by omega];rfl
  rw[hd,show i+1-i=1 by omega]
  have hheap:(Go.Sort.putRow (Value.int .i64) (Go.Sort.ahead w q) g 0 (xs.eraseIdx i ++ [0]).toArray).heap[g]?=some (.cells (Go.Sort.putCells (Value.int .i64) 0 (xs.eraseIdx i ++ [0]).toArray cur) 2 (0,0)):=by
    show(w.heap.modify g _)[g]?=_
    rw[Array.getElem?_modify,if_pos rfl,hh]
    rfl
  have hfar : ∀ k,k≠g→(Go.Sort.putRow (Value.int .i64) (Go.Sort.ahead w q) g 0 (xs.eraseIdx i ++ [0]).toArray).heap[k]?=w.heap[k]?:=by
    intro k hk
    show(w.heap.modify g _)[k]?=_
    rw[Array.getElem?_modify,if_neg (Ne.symm hk)]
  refine⟨rfl,?_,⟨rfl,rfl,rfl,?_,fun k _ hk=>hfar k (fun e=>hk (by rw[e]))⟩⟩
  · have e1:xs.length-1=(xs.eraseIdx i).length:=hlen.symm
    rw[e1]
    refine Kd.JG ⟨by simp [zAo],.inr ⟨g,cap,_,rfl,hbase,hheap,by omega,hmax,by simp [Go.Sort.putCells,hcs],?_⟩⟩ (fun k hk=>ho.1 k hk)
    rw[Nat.mul_one]
    apply List.ext_getElem?
    intro j;rw[List.getElem?_take]
    by_cases hj:j<(xs.eraseIdx i).length
    · rw[if_pos hj,Array.getElem?_toList,Go.Sort.putCells,Array.getElem?_mapIdx,Array.getElem?_eq_getElem (by omega),Option.map_some,if_pos ⟨by omega,by simp;omega⟩,Nat.sub_zero,zAo,List.getElem?_map,List.getElem?_eq_getElem hj,Option.map_some]
      congr 2
      rw[List.getElem!_toArray,getElem!_pos _ j (by simp;omega),List.getElem_append_left hj]
    · rw[if_neg hj,List.getElem?_eq_none (by simp [zAo];omega)]
  · show w.heap.size≤(w.heap.modify g _).size
    rw[Array.size_modify]
    omega
def zGh:Nat→Int
 | 0=>6
 | 1=>2
 | _=>1
def ZV (p:Int):Nat→Int
 | 0=>p
 | i+1=>ZV p i%zGh i
def QR (p:Int) (i:Nat):Int:=ZV p i/zGh i
def qE (p:Int):Nat→List Int
 | 0 => [0,1,2,3]
 | i+1=>(qE p i).eraseIdx (QR p i).toNat
def zp (p:Int) (i:Nat):Int:=(qE p i).getD (QR p i).toNat 0
def qP (p:Int):List Int := [zp p 0,zp p 1,zp p 2,zp p 3]
theorem zFJ (p:Int) (h0:0≤p) (h1:p≤23):(0≤ZV p 0∧ZV p 0≤23)∧(0≤ZV p 1∧ZV p 1≤5)∧(0≤ZV p 2∧ZV p 2≤1)∧(0≤ZV p 3∧ZV p 3≤0):=by
 simp only [ZV,zGh];omega
theorem zFK (p:Int) (h0:0≤p) (h1:p≤23):(0≤QR p 0∧QR p 0<4)∧(0≤QR p 1∧QR p 1<3)∧(0≤QR p 2∧QR p 2<2)∧(0≤QR p 3∧QR p 3<1):=by
 have:=zFJ p h0 h1
 simp only [QR,zGh];omega
theorem zE3 (p:Int) (h0:0≤p) (h1:p≤23):(qE p 0).length=4∧(qE p 1).length=3∧(qE p 2).length=2∧(qE p 3).length=1∧(qE p 4).length=0:=by
 obtain⟨a,b,c,d⟩:=zFK p h0 h1
 have e0:(qE p 0).length=4:=rfl
 have e1:(qE p 1).length=3:=by rw[qE,List.length_eraseIdx,e0,if_pos (by omega)]
 have e2:(qE p 2).length=2:=by rw[qE,List.length_eraseIdx,e1,if_pos (by omega)]
 have e3:(qE p 3).length=1:=by rw[qE,List.length_eraseIdx,e2,if_pos (by omega)]
 have e4:(qE p 4).length=0:=by rw[qE,List.length_eraseIdx,e3,if_pos (by omega)]
 exact⟨e0,e1,e2,e3,e4⟩
theorem zFL {W:World} {n:Nat} (h:W.heap.size=n) (o:Obj):(W.alloc o).heap[n]?=some o:=h ▸ zEZ W o
def QU (p:Int) (i j:Nat):Int:=if j<i then zp p j else 0
set_option maxHeartbeats 8000000 in
set_option maxRecDepth 100000 in
theorem zAW.calls (p:Int) (w:World) (h0:0≤p) (h1:p≤23) :
 Calls Try.prog 105 #[.int .i64 p] w fun e w'=>e = .returned (.agg #[.int .i64 (zp p 0),.int .i64 (zp p 1),.int .i64 (zp p 2),.int .i64 (zp p 3)])∧Below w.heap.size w w':=by
 have HP:=zA.mk (zFJ p h0 h1)
 have HK:=zA.mk (zFK p h0 h1)
 have HL:=zA.mk (zE3 p h0 h1)
 clear h0 h1;go_enter Try.func105,Try.ntmps105
 go_wp2_with fail
 go_loopg [0,4,11] 4 (fun gg v0 v4 v11 w' => ∃ i:Nat,i≤4∧4-i≤gg∧v11 = .int .i64 i∧v0 = .int .i64 (ZV p i)∧v4 = .slice (some ⟨w.heap.size+1+1,0,none⟩) (qE p i).length 4 ∧
  zA (Kd.R (Kd.int .i64) 2 w' w.heap.size (fun k=>k=w.heap.size+1+1) (.slice (some ⟨w.heap.size+1+1,0,none⟩) (qE p i).length 4) (qE p i)) ∧
  zA (w'.heap[w.heap.size+1]?=some (.cells #[.int .i64 (QU p i 0),.int .i64 (QU p i 1),.int .i64 (QU p i 2),.int .i64 (QU p i 3)] 101 (0,0))) ∧
  zA (w'.heap[w.heap.size]?=some (.cells #[.int .i64 0,.int .i64 0,.int .i64 0,.int .i64 0] 101 (0,0))) ∧
  zA (w'.heap[w.heap.size+1+1+1]?=some (.cells #[.int .i64 6,.int .i64 2,.int .i64 1,.int .i64 1] 2 (0,0)))∧zA (Below w.heap.size w w'))
 case atStart=>
  refine⟨0,by omega,by omega,rfl,rfl,rfl,⟨?_⟩,⟨?_⟩,⟨?_⟩,⟨?_⟩,⟨?_⟩⟩
  next=>
   refine Kd.JG ⟨by simp [zAo],.inr ⟨w.heap.size+1+1,4,#[.int .i64 0,.int .i64 1,.int .i64 2,.int .i64 3],rfl,by omega,?_,yry 4,by decide,rfl,rfl⟩⟩ (fun k hk=>by simpa [Value.ownBlock]using hk.symm)
   exact zG (zFL (by simp) _) _
  next=>
   exact zG (zG (zFL (by simp) _) _) _
  next=>
   exact zG (zG (zG (zFL rfl _) _) _) _
  next=>
   exact zFL (by simp) _
  exact zC (zC (zC (zC (ysy _ _) _) _) _) _
 case round=>
  obtain⟨i,hi,hg,rfl,rfl,rfl,HR,B3,B2,B9,HB⟩:=hrel
  rcases(show i=4∨i=3∨i=2∨i=1∨i=0 by omega)with rfl|rfl|rfl|rfl|rfl
  next=>
   have c0:wr.cell? ⟨w.heap.size+1,0,none⟩=some (.int .i64 (QU p 4 0)):=(zK B3.out 0).trans rfl
   have c1:wr.cell? ⟨w.heap.size+1,1,none⟩=some (.int .i64 (QU p 4 1)):=(zK B3.out 1).trans rfl
   have c2:wr.cell? ⟨w.heap.size+1,2,none⟩=some (.int .i64 (QU p 4 2)):=(zK B3.out 2).trans rfl
   have c3:wr.cell? ⟨w.heap.size+1,3,none⟩=some (.int .i64 (QU p 4 3)):=(zK B3.out 3).trans rfl
   have d0:wr.cell? ⟨w.heap.size,0,none⟩=some (.int .i64 0):=(zK B2.out 0).trans rfl
   have d1:wr.cell? ⟨w.heap.size,1,none⟩=some (.int .i64 0):=(zK B2.out 1).trans rfl
   have d2:wr.cell? ⟨w.heap.size,2,none⟩=some (.int .i64 0):=(zK B2.out 2).trans rfl
   have d3:wr.cell? ⟨w.heap.size,3,none⟩=some (.int .i64 0):=(zK B2.out 3).trans rfl
   have f0:=zP B2.out 0
   have f1:=zP B2.out 1
   have f2:=zP B2.out 2
   have f3:=zP B2.out 3
   have ht:=Try.underlying101
   go_wp2;refine bodyPost_ret (results_cell_row rfl _ _ w.heap.size 101 #[.int .i64 (QU p 4 0),.int .i64 (QU p 4 1),.int .i64 (QU p 4 2),.int .i64 (QU p 4 3)] (0,0) _ rfl (qf (cs:=#[.int .i64 (QU p 4 0),.int .i64 (QU p 4 1),.int .i64 (QU p 4 2),.int .i64 0]) (qf (cs:=#[.int .i64 (QU p 4 0),.int .i64 (QU p 4 1),.int .i64 0,.int .i64 0]) (qf (cs:=#[.int .i64 (QU p 4 0),.int .i64 0,.int .i64 0,.int .i64 0]) (qf B2.out 0 _ rfl) 1 _ rfl) 2 _ rfl) 3 _ rfl) ht rfl (by kernel_rfl)) rfl ⟨rfl,?_⟩
   exact zF (zF (zF (zF HB.out (yry _)) (yry _)) (yry _)) (yry _)
  next=>
   have hK:0≤QR p 3∧QR p 3<(qE p 3).length:=by have:=HK.out;have:=HL.out;omega
   have hP:0≤ZV p 3∧ZV p 3≤23:=by have:=HP.out;omega
   have HLN:=zA.mk (show(qE p 3).length=1 by have:=HL.out;omega)
   have ab:=zA.mk (show(qE p 4).length=(qE p 3).length-1 by have:=HL.out;omega)
   obtain⟨A1,q1,ae,ai,hC⟩:=Kd.zAR HR.out
   injection ae with ae hl1 hc1
   subst ae;clear hl1 hc1 ai;obtain⟨ad,had,hx⟩:=Kd.qw hC (QR p 3) hK.1 (by omega)
   injection had with had
   subst had;rw[add_plain]at hx
   have HAT:=zA.mk (show rd (qE p 3) (QR p 3)=zp p 3 from rfl)
   rw[HAT.out]at hx
   have HER:=zA.mk (show(qE p 3).eraseIdx (QR p 3).toNat=qE p 4 from rfl)
   have hX:QR p 3=ZV p 3:=by have e:QR p 3=ZV p 3/1:=rfl;rw[e];exact Int.ediv_one _
   have HY:=zA.mk (show 0=ZV p 4 by have e:ZV p 4=ZV p 3%1:=rfl;rw[e];omega)
   rw[hX]at hx hK
   have HX:=zA.mk hX
   clear hX hC;obtain⟨aj,aq⟩:=hK
   obtain⟨ar,au⟩:=hP
   have b9:wr.cell? ⟨w.heap.size+1+1+1,3,none⟩=some (.int .i64 1):=(zK B9.out 3).trans rfl
   have b3:wr.cell? ⟨w.heap.size+1,3,none⟩=some (.int .i64 (QU p 3 3)):=(zK B3.out 3).trans rfl
   have f3:=zP B3.out 3
   have av:ZV p 3<9223372036854775807:=by omega
   go_wp2_with fail
   have HRw:=zA.mk (show Kd.R (Kd.int .i64) 2 (wr.setCell ⟨w.heap.size+1,3,none⟩ (.int .i64 (zp p 3))) w.heap.size (fun k=>k=w.heap.size+1+1) (.slice (some ⟨w.heap.size+1+1,0,none⟩) (qE p 3).length 4) (qE p 3)from Kd.ZR (p:=⟨w.heap.size+1,3,none⟩) HR.out (fun k hk=>by rw[hk];show w.heap.size+1+1≠w.heap.size+1;omega) _)
   refine JR (args':=#[.slice (some ⟨w.heap.size+1+1,0,none⟩) (qE p 3).length 4,.int .i64 ((ZV p 3).toNat:Int),.int .i64 (((ZV p 3).toNat:Int)+1)]) (by rw[Int.toNat_of_nonneg aj]) ?_
   refine(QQ.zFI (w.heap.size+1+1) 4 (ZV p 3).toNat (qE p 3) w.heap.size (fun k=>k=w.heap.size+1+1) _ HRw.out (by omega)).mono ?_
   rintro e w1 ⟨rfl,af,aa⟩
   have ag:=ab.out
   have er:(qE p 3).eraseIdx (ZV p 3).toNat=qE p 4:=by rw[← HER.out,HX.out]
   rw[er,← ag]at af
   rw[← ag]
   have ak:=zA.mk af
   have ah:(wr.setCell ⟨w.heap.size+1,3,none⟩ (.int .i64 (zp p 3))).heap[w.heap.size+1]?=some (.cells #[.int .i64 (QU p 4 0),.int .i64 (QU p 4 1),.int .i64 (QU p 4 2),.int .i64 (QU p 4 3)] 101 (0,0)):=qf B3.out 3 _ rfl
   have al:=zA.mk (qj ah aa (by simp))
   have an:=zA.mk (qj (qJ (p:=⟨w.heap.size+1,3,none⟩) B2.out (by show w.heap.size≠w.heap.size+1;omega) (.int .i64 (zp p 3))) aa (by simp;omega))
   have ao:=zA.mk (qj (qJ (p:=⟨w.heap.size+1,3,none⟩) B9.out (by show w.heap.size+1+1+1≠w.heap.size+1;omega) (.int .i64 (zp p 3))) aa (by simp))
   have HBn:=zA.mk (JF (zF (j:=3) (v := .int .i64 (zp p 3)) HB.out (show w.heap.size≤w.heap.size+1 by omega)) (some (w.heap.size+1+1)) (by have:=HB.out.size;simp [World.setCell];omega) aa (fun k hk=>by injection hk with hk;omega))
   clear af aa ah HRw B3 B2 B9 HB HR er ag hx b9 b3 f3;go_wp2;go_roundg (4-4)
   case measure=>omega
   case rel=>exact⟨4,by omega,by omega,by first|rfl|go_num,by rw[← HY.out],rfl,ak,al,an,ao,HBn⟩
  next=>
   have hK:0≤QR p 2∧QR p 2<(qE p 2).length:=by have:=HK.out;have:=HL.out;omega
   have hP:0≤ZV p 2∧ZV p 2≤23:=by have:=HP.out;omega
   have HLN:=zA.mk (show(qE p 2).length=2 by have:=HL.out;omega)
   have ab:=zA.mk (show(qE p 3).length=(qE p 2).length-1 by have:=HL.out;omega)
   obtain⟨A1,q1,ae,ai,hC⟩:=Kd.zAR HR.out
   injection ae with ae hl1 hc1
   subst ae;clear hl1 hc1 ai;obtain⟨ad,had,hx⟩:=Kd.qw hC (QR p 2) hK.1 (by omega)
   injection had with had
   subst had;rw[add_plain]at hx
   have HAT:=zA.mk (show rd (qE p 2) (QR p 2)=zp p 2 from rfl)
   rw[HAT.out]at hx
   have HER:=zA.mk (show(qE p 2).eraseIdx (QR p 2).toNat=qE p 3 from rfl)
   have hX:QR p 2=ZV p 2:=by have e:QR p 2=ZV p 2/1:=rfl;rw[e];exact Int.ediv_one _
   have HY:=zA.mk (show 0=ZV p 3 by have e:ZV p 3=ZV p 2%1:=rfl;rw[e];omega)
   rw[hX]at hx hK
   have HX:=zA.mk hX
   clear hX hC;obtain⟨aj,aq⟩:=hK
   obtain⟨ar,au⟩:=hP
   have b9:wr.cell? ⟨w.heap.size+1+1+1,2,none⟩=some (.int .i64 1):=(zK B9.out 2).trans rfl
   have b3:wr.cell? ⟨w.heap.size+1,2,none⟩=some (.int .i64 (QU p 2 2)):=(zK B3.out 2).trans rfl
   have f3:=zP B3.out 2
   have av:ZV p 2<9223372036854775807:=by omega
   go_wp2_with fail
   have HRw:=zA.mk (show Kd.R (Kd.int .i64) 2 (wr.setCell ⟨w.heap.size+1,2,none⟩ (.int .i64 (zp p 2))) w.heap.size (fun k=>k=w.heap.size+1+1) (.slice (some ⟨w.heap.size+1+1,0,none⟩) (qE p 2).length 4) (qE p 2)from Kd.ZR (p:=⟨w.heap.size+1,2,none⟩) HR.out (fun k hk=>by rw[hk];show w.heap.size+1+1≠w.heap.size+1;omega) _)
   refine JR (args':=#[.slice (some ⟨w.heap.size+1+1,0,none⟩) (qE p 2).length 4,.int .i64 ((ZV p 2).toNat:Int),.int .i64 (((ZV p 2).toNat:Int)+1)]) (by rw[Int.toNat_of_nonneg aj]) ?_
   refine(QQ.zFI (w.heap.size+1+1) 4 (ZV p 2).toNat (qE p 2) w.heap.size (fun k=>k=w.heap.size+1+1) _ HRw.out (by omega)).mono ?_
   rintro e w1 ⟨rfl,af,aa⟩
   have ag:=ab.out
   have er:(qE p 2).eraseIdx (ZV p 2).toNat=qE p 3:=by rw[← HER.out,HX.out]
   rw[er,← ag]at af
   rw[← ag]
   have ak:=zA.mk af
   have ah:(wr.setCell ⟨w.heap.size+1,2,none⟩ (.int .i64 (zp p 2))).heap[w.heap.size+1]?=some (.cells #[.int .i64 (QU p 3 0),.int .i64 (QU p 3 1),.int .i64 (QU p 3 2),.int .i64 (QU p 3 3)] 101 (0,0)):=qf B3.out 2 _ rfl
   have al:=zA.mk (qj ah aa (by simp))
   have an:=zA.mk (qj (qJ (p:=⟨w.heap.size+1,2,none⟩) B2.out (by show w.heap.size≠w.heap.size+1;omega) (.int .i64 (zp p 2))) aa (by simp;omega))
   have ao:=zA.mk (qj (qJ (p:=⟨w.heap.size+1,2,none⟩) B9.out (by show w.heap.size+1+1+1≠w.heap.size+1;omega) (.int .i64 (zp p 2))) aa (by simp))
   have HBn:=zA.mk (JF (zF (j:=2) (v := .int .i64 (zp p 2)) HB.out (show w.heap.size≤w.heap.size+1 by omega)) (some (w.heap.size+1+1)) (by have:=HB.out.size;simp [World.setCell];omega) aa (fun k hk=>by injection hk with hk;omega))
   clear af aa ah HRw B3 B2 B9 HB HR er ag hx b9 b3 f3;go_wp2;go_roundg (4-3)
   case measure=>omega
   case rel=>exact⟨3,by omega,by omega,by first|rfl|go_num,by rw[← HY.out],rfl,ak,al,an,ao,HBn⟩
  next=>
   have hK:0≤QR p 1∧QR p 1<(qE p 1).length:=by have:=HK.out;have:=HL.out;omega
   have hP:0≤ZV p 1∧ZV p 1≤23:=by have:=HP.out;omega
   have HLN:=zA.mk (show(qE p 1).length=3 by have:=HL.out;omega)
   have ab:=zA.mk (show(qE p 2).length=(qE p 1).length-1 by have:=HL.out;omega)
   obtain⟨A1,q1,ae,ai,hC⟩:=Kd.zAR HR.out
   injection ae with ae hl1 hc1
   subst ae;clear hl1 hc1 ai;obtain⟨ad,had,hx⟩:=Kd.qw hC (QR p 1) hK.1 (by omega)
   injection had with had
   subst had;rw[add_plain]at hx
   have HAT:=zA.mk (show rd (qE p 1) (QR p 1)=zp p 1 from rfl)
   rw[HAT.out]at hx
   have HER:=zA.mk (show(qE p 1).eraseIdx (QR p 1).toNat=qE p 2 from rfl)
   have hX:QR p 1=ZV p 1/2:=by have e:QR p 1=ZV p 1/2:=rfl;rw[e]
   have HY:=zA.mk (show ZV p 1%2=ZV p 2 by have e:ZV p 2=ZV p 1%2:=rfl;rw[e])
   rw[hX]at hx hK
   have HX:=zA.mk hX
   clear hX hC;obtain⟨aj,aq⟩:=hK
   obtain⟨ar,au⟩:=hP
   have b9:wr.cell? ⟨w.heap.size+1+1+1,1,none⟩=some (.int .i64 2):=(zK B9.out 1).trans rfl
   have b3:wr.cell? ⟨w.heap.size+1,1,none⟩=some (.int .i64 (QU p 1 1)):=(zK B3.out 1).trans rfl
   have f3:=zP B3.out 1
   have av:ZV p 1/2<9223372036854775807:=by omega
   go_wp2_with fail
   have HRw:=zA.mk (show Kd.R (Kd.int .i64) 2 (wr.setCell ⟨w.heap.size+1,1,none⟩ (.int .i64 (zp p 1))) w.heap.size (fun k=>k=w.heap.size+1+1) (.slice (some ⟨w.heap.size+1+1,0,none⟩) (qE p 1).length 4) (qE p 1)from Kd.ZR (p:=⟨w.heap.size+1,1,none⟩) HR.out (fun k hk=>by rw[hk];show w.heap.size+1+1≠w.heap.size+1;omega) _)
   refine JR (args':=#[.slice (some ⟨w.heap.size+1+1,0,none⟩) (qE p 1).length 4,.int .i64 ((ZV p 1/2).toNat:Int),.int .i64 (((ZV p 1/2).toNat:Int)+1)]) (by rw[Int.toNat_of_nonneg aj]) ?_
   refine(QQ.zFI (w.heap.size+1+1) 4 (ZV p 1/2).toNat (qE p 1) w.heap.size (fun k=>k=w.heap.size+1+1) _ HRw.out (by omega)).mono ?_
   rintro e w1 ⟨rfl,af,aa⟩
   have ag:=ab.out
   have er:(qE p 1).eraseIdx (ZV p 1/2).toNat=qE p 2:=by rw[← HER.out,HX.out]
   rw[er,← ag]at af
   rw[← ag]
   have ak:=zA.mk af
   have ah:(wr.setCell ⟨w.heap.size+1,1,none⟩ (.int .i64 (zp p 1))).heap[w.heap.size+1]?=some (.cells #[.int .i64 (QU p 2 0),.int .i64 (QU p 2 1),.int .i64 (QU p 2 2),.int .i64 (QU p 2 3)] 101 (0,0)):=qf B3.out 1 _ rfl
   have al:=zA.mk (qj ah aa (by simp))
   have an:=zA.mk (qj (qJ (p:=⟨w.heap.size+1,1,none⟩) B2.out (by show w.heap.size≠w.heap.size+1;omega) (.int .i64 (zp p 1))) aa (by simp;omega))
   have ao:=zA.mk (qj (qJ (p:=⟨w.heap.size+1,1,none⟩) B9.out (by show w.heap.size+1+1+1≠w.heap.size+1;omega) (.int .i64 (zp p 1))) aa (by simp))
   have HBn:=zA.mk (JF (zF (j:=1) (v := .int .i64 (zp p 1)) HB.out (show w.heap.size≤w.heap.size+1 by omega)) (some (w.heap.size+1+1)) (by have:=HB.out.size;simp [World.setCell];omega) aa (fun k hk=>by injection hk with hk;omega))
   clear af aa ah HRw B3 B2 B9 HB HR er ag hx b9 b3 f3;go_wp2;go_roundg (4-2)
   case measure=>omega
   case rel=>exact⟨2,by omega,by omega,by first|rfl|go_num,by rw[← HY.out],rfl,ak,al,an,ao,HBn⟩
  have hK:0≤QR p 0∧QR p 0<(qE p 0).length:=by have:=HK.out;have:=HL.out;omega
  have hP:0≤ZV p 0∧ZV p 0≤23:=by have:=HP.out;omega
  have HLN:=zA.mk (show(qE p 0).length=4 by have:=HL.out;omega)
  have ab:=zA.mk (show(qE p 1).length=(qE p 0).length-1 by have:=HL.out;omega)
  obtain⟨A1,q1,ae,ai,hC⟩:=Kd.zAR HR.out
  injection ae with ae hl1 hc1
  subst ae;clear hl1 hc1 ai;obtain⟨ad,had,hx⟩:=Kd.qw hC (QR p 0) hK.1 (by omega)
  injection had with had
  subst had;rw[add_plain]at hx
  have HAT:=zA.mk (show rd (qE p 0) (QR p 0)=zp p 0 from rfl)
  rw[HAT.out]at hx
  have HER:=zA.mk (show(qE p 0).eraseIdx (QR p 0).toNat=qE p 1 from rfl)
  have hX:QR p 0=ZV p 0/6:=by have e:QR p 0=ZV p 0/6:=rfl;rw[e]
  have HY:=zA.mk (show ZV p 0%6=ZV p 1 by have e:ZV p 1=ZV p 0%6:=rfl;rw[e])
  rw[hX]at hx hK
  have HX:=zA.mk hX
  clear hX hC;obtain⟨aj,aq⟩:=hK
  obtain⟨ar,au⟩:=hP
  have b9:wr.cell? ⟨w.heap.size+1+1+1,0,none⟩=some (.int .i64 6):=(zK B9.out 0).trans rfl
  have b3:wr.cell? ⟨w.heap.size+1,0,none⟩=some (.int .i64 (QU p 0 0)):=(zK B3.out 0).trans rfl
  have f3:=zP B3.out 0
  have av:ZV p 0/6<9223372036854775807:=by omega
  go_wp2_with fail
  have HRw:=zA.mk (show Kd.R (Kd.int .i64) 2 (wr.setCell ⟨w.heap.size+1,0,none⟩ (.int .i64 (zp p 0))) w.heap.size (fun k=>k=w.heap.size+1+1) (.slice (some ⟨w.heap.size+1+1,0,none⟩) (qE p 0).length 4) (qE p 0)from Kd.ZR (p:=⟨w.heap.size+1,0,none⟩) HR.out (fun k hk=>by rw[hk];show w.heap.size+1+1≠w.heap.size+1;omega) _)
  refine JR (args':=#[.slice (some ⟨w.heap.size+1+1,0,none⟩) (qE p 0).length 4,.int .i64 ((ZV p 0/6).toNat:Int),.int .i64 (((ZV p 0/6).toNat:Int)+1)]) (by rw[Int.toNat_of_nonneg aj]) ?_
  refine(QQ.zFI (w.heap.size+1+1) 4 (ZV p 0/6).toNat (qE p 0) w.heap.size (fun k=>k=w.heap.size+1+1) _ HRw.out (by omega)).mono ?_
  rintro e w1 ⟨rfl,af,aa⟩
  have ag:=ab.out
  have er:(qE p 0).eraseIdx (ZV p 0/6).toNat=qE p 1:=by rw[← HER.out,HX.out]
  rw[er,← ag]at af
  rw[← ag]
  have ak:=zA.mk af
  have ah:(wr.setCell ⟨w.heap.size+1,0,none⟩ (.int .i64 (zp p 0))).heap[w.heap.size+1]?=some (.cells #[.int .i64 (QU p 1 0),.int .i64 (QU p 1 1),.int .i64 (QU p 1 2),.int .i64 (QU p 1 3)] 101 (0,0)):=qf B3.out 0 _ rfl
  have al:=zA.mk (qj ah aa (by simp))
  have an:=zA.mk (qj (qJ (p:=⟨w.heap.size+1,0,none⟩) B2.out (by show w.heap.size≠w.heap.size+1;omega) (.int .i64 (zp p 0))) aa (by simp;omega))
  have ao:=zA.mk (qj (qJ (p:=⟨w.heap.size+1,0,none⟩) B9.out (by show w.heap.size+1+1+1≠w.heap.size+1;omega) (.int .i64 (zp p 0))) aa (by simp))
  have HBn:=zA.mk (JF (zF (j:=0) (v := .int .i64 (zp p 0)) HB.out (show w.heap.size≤w.heap.size+1 by omega)) (some (w.heap.size+1+1)) (by have:=HB.out.size;simp [World.setCell];omega) aa (fun k hk=>by injection hk with hk;omega))
  clear af aa ah HRw B3 B2 B9 HB HR er ag hx b9 b3 f3;go_wp2;go_roundg (4-1)
  case measure=>omega
  case rel=>exact⟨1,by omega,by omega,by first|rfl|go_num,by rw[← HY.out],rfl,ak,al,an,ao,HBn⟩
def qX.f (l0:List (List (zv))):Option (Int):=some (l0.length:Int)
set_option maxHeartbeats 8000000 in
set_option maxRecDepth 100000 in
theorem qX.calls (A0:Option Addr) (c0:Nat) (l0:List (List (zv))) (r:Int) (w:World) (aa:Kd.C (Kd.slice 75 ZZ) w A0 l0.length l0) (ab:l0.length≤c0) (h:qX.f l0=some r) :
    Calls Try.prog 75 #[.slice A0 l0.length c0] w fun e w'=>e = .returned (.int .i64 r)∧qG w w':=by
  have ad:=zA.mk aa
  have ae:=zA.mk ab
  clear aa ab;have H:(some (l0.length:Int))=some r:=h
  clear h;obtain rfl:=yey H
  go_enter Try.func75,Try.ntmps75
  go_wp2;go_ret;exact⟨by first|rfl|(simp;done)|(simp [*];done),by repeat(first|exact qG.refl _|apply qG.step)⟩
theorem Qk (a b c d:Int) (f:Int) (h0:0≤f) (h1:f≤3) : ∀ w:World,(Instr.index 101 (.agg #[.int .i64 a,.int .i64 b,.int .i64 c,.int .i64 d]) (.int .i64 f)).run Try.prog w = .ok (.int .i64 (rd [a,b,c,d] f)) w:=by
  intro w;rcases(show f=0∨f=1∨f=2∨f=3 by omega)with rfl|rfl|rfl|rfl
  · kernel_rfl
  · kernel_rfl
  · kernel_rfl
  · kernel_rfl
theorem Qe {w:World} {g:Nat} {T:TypeId} {a b c d:Int} (h:w.heap[g]?=some (.cells #[.int .i64 a,.int .i64 b,.int .i64 c,.int .i64 d] T (0,0))) (f:Int) (h0:0≤f) (h1:f≤3):w.cell? ⟨g,f.toNat,none⟩=some (.int .i64 (rd [a,b,c,d] f)):=by
  rw[zK h]
  rcases(show f=0∨f=1∨f=2∨f=3 by omega)with rfl|rfl|rfl|rfl <;> rfl
theorem zDI {w:World} {g:Nat} {T:TypeId} {a b c d:Int} (h:w.heap[g]?=some (.cells #[.int .i64 a,.int .i64 b,.int .i64 c,.int .i64 d] T (0,0))) (f v:Int) (h0:0≤f) (h1:f≤3) :
    (w.setCell ⟨g,f.toNat,none⟩ (.int .i64 v)).heap[g]?=some (.cells #[.int .i64 (rd ([a,b,c,d].set f.toNat v) 0),.int .i64 (rd ([a,b,c,d].set f.toNat v) 1),.int .i64 (rd ([a,b,c,d].set f.toNat v) 2),.int .i64 (rd ([a,b,c,d].set f.toNat v) 3)] T (0,0)):=by
  rcases(show f=0∨f=1∨f=2∨f=3 by omega)with rfl|rfl|rfl|rfl
  · exact qf h 0 _ rfl
  · exact qf h 1 _ rfl
  · exact qf h 2 _ rfl
  · exact qf h 3 _ rfl
theorem ZL {W:World} {n:Nat} (h:W.heap.size=n) (o:Obj):(W.alloc o).heap[n]?=some o:=h ▸ zEZ W o
theorem zDJ {l:List Int} (h:l.length=4):l = [rd l 0,rd l 1,rd l 2,rd l 3]:=by
  match l,h with
  | [a,b,c,d],_=>rfl
def qe.f (a0_0:Int) (a0_1:Int):Option (Bool):=some (decide (a0_0<0))
set_option maxHeartbeats 8000000 in
set_option maxRecDepth 100000 in
theorem qe.calls (ad:Int) (ae:Int) (r:Bool) (w:World) (h:qe.f ad ae=some r) :
    Calls Try.prog 77 #[.agg #[.int .i64 ad,.int .i64 ae]] w fun e w'=>e = .returned (.bool r)∧Below w.heap.size w w':=by
  have ar:=Try.underlying75
  have HB:=zA.mk (ysy w.heap.size w)
  have H:(some (decide (ad<0)))=some r:=h
  clear h;obtain rfl:=yey H
  go_enter Try.func77,Try.ntmps77
  go_wp2_with (first|((with_reducible refine zw (N:=1) rfl ?_);refine zz ?hg (N:=1) ?hd (cs:=#[.int .i64 ad,.int .i64 ae]) (t:=75) ?hr ?_;(case hd=>rfl);(case hg=>rfl);(case hr=>first|(go_simp;done)|(go_simp;rfl));intro aa hg w2 hbox hb;have ak:=zA.mk (zM (by repeat(first|(with_reducible first|exact HB.out|apply zC|apply zB|apply zD)|exact HB.out)) hb);have al:=zA.mk (hbox);have an:=zA.mk ((by rw[hg];exact(zQ (by repeat(first|(with_reducible first|exact HB.out|apply zC|apply zB|apply zD)|exact HB.out))):w.heap.size≤aa));have ao:=zA.mk ((by rw[hg];exact(zQ (by repeat(first|(with_reducible first|exact HB.out|apply zC|apply zB|apply zD)|exact HB.out))):w.heap.size≤aa));clear HB;have HB:=ak;have ab:=al;have aq:=an;have af:=ao;clear ak al an ao;clear hb hbox hg;have ag:w2.cell? ⟨aa,0,none⟩=some (.int .i64 ad):=(zK ab.out 0).trans rfl;have ah:w2.cell? ⟨aa,1,none⟩=some (.int .i64 ae):=(zK ab.out 1).trans rfl;have ai:=zP ab.out 0;have aj:=zP ab.out 1))
  go_ret;exact⟨by first|rfl|(simp [zU,zV] <;> rfl)|(simp [*,zU,zV] <;> rfl),by repeat(first|(with_reducible first|exact HB.out|apply zC|apply zB|apply zD|refine zF ?_ af.out)|exact HB.out)⟩
theorem zIF {P:Program} {ops:Array Oper} {Q:Exit→Act→World→Prop} {oi:Oper} {N:Option Tmp} {a:Act} {w:World} {K:Act→World→Prop} {f:FuncId} {fn:Func} {t:Tmp} {as_:Array Operand} {ts:Array TypeId} {caps:Array Value} (hf:P.funcs[f]?=some fn) (hname:(fn.name == "runtime.NumGoroutine")=false) (hb:fn.body.isSome=true) (args all:Array Value)
    (hw:Region.wanted oi (yielded ops a.tmps)=true) (hN:oi.dst=N) (hop:oi.op = .call { callee := .value (.tmp t),args:=as_,argTypes:=ts }) (ht:a.eval (.tmp t) = .func (.func f) #[] caps) (hargs:as_.map a.eval=args) (hall:args++caps=all)
    (h:Calls P f all w fun e w' => ∃ v,e = .returned v∧K (a.put N v) w'):if Region.wanted oi (yielded ops a.tmps)=true then Oper.wp P oi a w K Q else K (a.put N undef) w:=by
  subst hall;refine call_ f (args++caps) hw hN ?_ h
  have he:=zEc hf hname hb (args++caps) w
  unfold execOp
  simp [hop,resolve,Deferred.ofValue,invoke,ht,hargs,he]
theorem zFM {α:Type} {w:World} {d:Kd α} {e base b:Nat} {ok:Nat→Prop} {v:Value} {xs:List α} (h:d.R e w base ok v xs) (hb:v.ownBlock=some b) : ∃ cap,v = .slice (some ⟨b,0,none⟩) xs.length cap:=by
  obtain⟨inner,ho⟩:=Kd.zFo h
  rcases ho.2 with ⟨rfl,_⟩|⟨g,cap,cur,rfl,_⟩
  · simp [Value.ownBlock]at hb
  · have:g=b:=by simpa [Value.ownBlock]using hb
    subst this;exact⟨cap,rfl⟩
def zEl {σ:Type} (step : σ→Nat→Nat→zv → σ) (tet:Nat):List zv→Nat → σ → σ
  | [],_,s=>s
  | x :: xs,f,s=>zEl step tet xs (f+1) (if x.f0<0 then s else step s tet f x)
def zBg {σ:Type} (step : σ→Nat→Nat→zv → σ):List (List zv)→Nat → σ → σ
  | [],_,s=>s
  | r :: rs,tet,s=>zBg step rs (tet+1) (zEl step tet r 0 s)
def Zq (l:List (List zv)) (j f:Nat) (x:zv):Prop := ∃ h1:j<l.length,∃ h2:f<l[j].length,l[j][f]=x
set_option maxHeartbeats 8000000 in
set_option maxRecDepth 100000 in
theorem zCl.calls {σ:Type} (F:FuncId) (fn:Func) (hf:Try.prog.funcs[F]?=some fn) (hname:(fn.name == "runtime.NumGoroutine")=false) (hbody:fn.body.isSome=true) (caps:Array Value)
    (l:List (List zv)) (A0:Option Addr) (c0:Nat) (w0 w:World) (Inv : σ→World→Prop) (step : σ→Nat→Nat→zv → σ) (ab : σ)
    (cnt : σ→Nat) (N:Nat) (hcnt : ∀ s j f x,cnt (step s j f x)≤cnt s+4) (hN:cnt ab+4*(l.map List.length).sum≤N)
    (hB : ∀ s W W',Inv s W→Below W.heap.size W W' → Inv s W')
    (hK : ∀ s W,Inv s W→Below w0.heap.size w0 W)
    (hT:Kd.C (Kd.slice 75 ZZ) w0 A0 l.length l)
    (hperm : ∀ r∈l,∀ x∈r,¬ x.f0<0→0≤x.f1∧x.f1≤23)
    (hstep : ∀ s W (j f:Nat) (x:zv),Inv s W→Zq l j f x → ¬ x.f0<0→cnt s+4≤N →
      Calls Try.prog F (#[.int .i64 (j:Int),.int .i64 (f:Int),.agg #[.int .i64 x.f0,.int .i64 x.f1],.agg #[.int .i64 (zp x.f1 0),.int .i64 (zp x.f1 1),.int .i64 (zp x.f1 2),.int .i64 (zp x.f1 3)]]++caps) W fun e W'=>e = .returned (.tuple #[])∧Inv (step s j f x) W')
    (h0:Inv ab w) :
    Calls Try.prog 99 #[.agg #[.slice A0 l.length c0],.func (.func F) #[] caps] w fun e w'=>e = .returned (.tuple #[])∧Inv (zBg step l 0 ab) w':=by
  have HB:=zA.mk hB
  have HK:=zA.mk hK
  have HT:=zA.mk hT
  have HPM:=zA.mk hperm
  have HST:=zA.mk hstep
  have HCN:=zA.mk hcnt
  have HN:zA (cnt ab+4*((l.drop 0).map List.length).sum≤N):=⟨by rw[List.drop_zero];exact hN⟩
  clear hcnt hN;have HS:=zA.mk (hB _ _ _ h0 (zC (ysy w.heap.size w) (.cells #[.slice A0 l.length c0] 35)))
  have hbig:l.length≤9223372036854775807:=hT.2.1
  clear hB hT hperm hstep h0 hK;have HA:zA (zBg step (l.drop 0) 0 ab=zBg step l 0 ab):=⟨by rw[List.drop_zero]⟩
  generalize zBg step l 0 ab=R at HA ⊢
  go_enter Try.func99,Try.ntmps99
  go_wp2;go_loopg [11] l.length (fun gg v11 w' => ∃ (j:Nat) (s : σ),j≤l.length∧l.length-j≤gg∧v11 = .int .i64 j∧zA (zBg step (l.drop j) j s=R)∧zA (Inv s w')∧zA (cnt s+4*((l.drop j).map List.length).sum≤N))
  case atStart=>exact⟨0,ab,Nat.zero_le _,by omega,rfl,HA,HS,HN⟩
  case round=>
    clear HS HA HN;obtain⟨j,st,hj,hg,rfl,HA,HS,HN⟩:=hrel
    by_cases hlt:j<l.length
    · have hltz:(j:Int)<(l.length:Int):=by omega
      obtain⟨aC,A1,c1,e1,af,ar,an⟩:=ZY HT.out (j:Int) (by omega) hltz
      subst e1;have ex:zE l (j:Int)=l[j]:=by simp [zE,hlt]
      rw[ex]at af ar an
      rw[yny]at af
      replace af:=((HK.out _ _ HS.out).cell (yqy w0 _ af)).trans af
      have ag:=HA.out
      rw[ypy hlt,zBg]at ag
      have HI:zA (zBg step (l.drop (j+1)) (j+1) (zEl step j (l[j].drop 0) 0 st)=R):=⟨by rw[List.drop_zero];exact ag⟩
      have ad:zA (cnt st+4*(l[j].length-0+((l.drop (j+1)).map List.length).sum)≤N):=⟨by have h:=HN.out;rw[ypy hlt,yjy,List.sum_cons]at h;omega⟩
      clear HN;have ax:=zA.mk (HPM.out l[j] (yoy hlt))
      have HX:=zA.mk (show ∀ (f:Nat) (x:zv) (h2:f<l[j].length),l[j][f]=x→Zq l j f x from fun f x h2 h=>⟨hlt,h2,h⟩)
      have au:l[j].length≤9223372036854775807:=an.2.1
      have ay:=zA.mk an
      clear HA ag ar an ex;generalize l[j]=row at *
      go_wp2;go_loopg [18] row.length (fun gg az w' => ∃ (f:Nat) (s : σ),f≤row.length∧row.length-f≤gg∧az = .int .i64 f∧zA (zBg step (l.drop (j+1)) (j+1) (zEl step j (row.drop f) f s)=R)∧zA (Inv s w')∧zA (cnt s+4*(row.length-f+((l.drop (j+1)).map List.length).sum)≤N))
      case atStart=>exact⟨0,st,Nat.zero_le _,by omega,rfl,HI,HS,ad⟩
      case round=>
        clear HI HS af ad;obtain⟨f,st,aD,hgf,rfl,HI,HS,ad⟩:=hrel
        by_cases hlf:f<row.length
        · have hlfz:(f:Int)<(row.length:Int):=by omega
          obtain⟨aE,e2,ah,ai⟩:=QF ay.out (f:Int) (by omega) hlfz
          subst e2;replace ah:=((HK.out _ _ HS.out).cell (yqy w0 _ ah)).trans ah
          replace ai:=((HK.out _ _ HS.out).cell (yqy w0 _ ai)).trans ai
          have HF:=zA.mk (HX.out f row[f] hlf rfl)
          have HY:=zA.mk (ax.out row[f] (yoy hlf))
          have ae:=HI.out
          rw[ypy hlf,zEl]at ae
          have aj:=zA.mk ae
          clear HI ae;have ex:zI row (f:Int)=row[f]:=by simp [zI,hlf]
          rw[ex,yny]at ah ai
          generalize row[f]=y at ah ai HY aj HF
          obtain⟨f0,f1⟩:=y
          clear ex;have BF:=zA.mk (ZL (W:=wr) rfl (.cells #[.int .i64 f0,.int .i64 f1] 75))
          have ao:=zA.mk (HB.out _ _ _ HS.out (zC (ysy _ _) (.cells #[.int .i64 f0,.int .i64 f1] 75)))
          clear HS;by_cases hb:f0<0
          · rw[if_pos hb]at aj
            have d0:decide (f0<0)=true:=ygy hb
            go_wp2_with (first|(go_at_call 77;(with_reducible refine(qe.calls f0 f1 true _ (by unfold qe.f;rw[d0])).mono ?_);rintro e w2 ⟨rfl,hnd⟩;have aa:=zA.mk (HB.out _ _ _ ao.out hnd);clear ao BF hnd))
            go_roundg (row.length-(f+1))
            case measure=>omega
            case rel=>exact⟨f+1,st,by omega,by omega,by go_num,aj,aa,⟨by have:=ad.out;omega⟩⟩
          · rw[if_neg hb]at aj
            have d0:decide (f0<0)=false:=yhy hb
            have HP:=zA.mk (show 0≤f1∧f1≤23 from HY.out (by first|exact hb|(show(0:Int)≤f0;omega)))
            have aA:=zA.mk hb
            clear HY;go_wp2_with (first|(go_at_call 77;(with_reducible refine(qe.calls f0 f1 false _ (by unfold qe.f;rw[d0])).mono ?_);rintro e w2 ⟨rfl,hnd⟩;have aa:=zA.mk (HB.out _ _ _ ao.out hnd);have av:=zA.mk (zO BF.out hnd);clear ao BF hnd;have BF:=av;clear av))
            refine Zv (n:=8) (S:=fun w'=>w'.cell? ⟨wr.heap.size,0,none⟩=some (.int .i64 f0)∧w'.cell? ⟨wr.heap.size,1,none⟩=some (.int .i64 f1)) (ds := [7]) #[false,false,false,false,false,false,false,false] (by kernel_rfl) rfl rfl ⟨(zK BF.out 0).trans rfl,(zK BF.out 1).trans rfl⟩ (fun hHeld=>?_)
            have ak:=zA.mk (HB.out _ _ _ aa.out (zD (ysy _ _)))
            have al:=zA.mk (zJ BF.out)
            clear aa BF;have aa:=ak;have BF:=al;clear ak al;generalize w2.drew=aF at aa BF hHeld ⊢
            refine zg (i:=0) (N:=some 26) (v:=?_) (a':=?_) #[true,false,false,false,false,false,false,false] rfl rfl (by kernel_rfl) (fun _ _ _ h=>h) (Or.inl ⟨by rfl,?_⟩) ?_ ?_
            rotate_left
            · intro w'
              go_simp;with_reducible rfl
            rotate_left
            · simp only [Act.put,yay,yby,ycy,zX,za]
              rfl
            refine zg (i:=1) (N:=some 27) (v:=?_) (a':=?_) #[true,true,false,false,false,false,false,false] rfl rfl (by kernel_rfl) (fun _ _ _ h=>h) (Or.inl ⟨by rfl,?_⟩) ?_ ?_
            rotate_left
            · intro w'
              go_simp;with_reducible rfl
            rotate_left
            · simp only [Act.put,yay,yby,ycy,zX,za]
              rfl
            refine zg (i:=2) (N:=some 28) (v:=?_) (a':=?_) #[true,true,true,false,false,false,false,false] rfl rfl (by kernel_rfl) (fun _ _ _ h=>h) (Or.inl ⟨by rfl,?_⟩) ?_ ?_
            rotate_left
            · intro w'
              go_simp;with_reducible rfl
            rotate_left
            · simp only [Act.put,yay,yby,ycy,zX,za]
              rfl
            refine ZA (i:=3) (N:=some 29) (v:=?_) (a':=?_) #[true,true,true,true,false,false,false,false] rfl rfl (by kernel_rfl) (fun _ _ _ h=>h) (Or.inl ⟨by rfl,?_⟩) hHeld ?_ ?_
            rotate_left
            · rintro w' ⟨s0,s1⟩
              go_simp;with_reducible rfl
            rotate_left
            · simp only [Act.put,yay,yby,ycy,zX,za]
              rfl
            refine zg (i:=4) (N:=some 30) (v:=?_) (a':=?_) #[true,true,true,true,true,false,false,false] rfl rfl (by kernel_rfl) (fun _ _ _ h=>h) (Or.inl ⟨by rfl,?_⟩) ?_ ?_
            rotate_left
            · intro w'
              go_simp;with_reducible rfl
            rotate_left
            · simp only [Act.put,yay,yby,ycy,zX,za]
              rfl
            refine ZA (i:=5) (N:=some 31) (v:=?_) (a':=?_) #[true,true,true,true,true,true,false,false] rfl rfl (by kernel_rfl) (fun _ _ _ h=>h) (Or.inl ⟨by rfl,?_⟩) hHeld ?_ ?_
            rotate_left
            · rintro w' ⟨s0,s1⟩
              go_simp;with_reducible rfl
            rotate_left
            · simp only [Act.put,yay,yby,ycy,zX,za]
              rfl
            refine zA4 (i:=6) (N:=some 32) #[true,true,true,true,true,true,true,false] rfl rfl (by kernel_rfl) (by decide) (fun K hK=>?_)
            refine QO Try.func105 (by kernel_rfl) rfl #[.int .i64 f1] (by rfl) rfl rfl (by(try simp only [yiy,yjy,yky]);first|done|rfl) ?_
            refine(zAW.calls f1 _ HP.out.1 HP.out.2).mono ?_
            rintro e w3 ⟨rfl,aq⟩
            refine⟨_,rfl,?_⟩
            have ak:=zA.mk (HB.out _ _ _ aa.out aq)
            have al:=zA.mk (zO BF.out aq)
            clear aa BF aq;have BF:=al;have aa:=ak;clear al ak;refine hK.out _ _ ⟨(zK BF.out 0).trans rfl,(zK BF.out 1).trans rfl⟩ (fun hHeld=>?_)
            clear hK K;refine QE (a':=?_) ?_ ?_
            rotate_left
            · show Act.put _ (some 32) _=_
              simp only [Act.put,yay,yby,ycy,zX,za]
              rfl
            refine zFs (i:=7) (N:=some 33) #[true,true,true,true,true,true,true,true] rfl rfl (by kernel_rfl) (by decide) (fun K hK=>?_)
            refine zIF (f:=F) (fn:=fn) hf hname hbody #[.int .i64 (j:Int),.int .i64 (f:Int),.agg #[.int .i64 f0,.int .i64 f1],.agg #[.int .i64 (zp f1 0),.int .i64 (zp f1 1),.int .i64 (zp f1 2),.int .i64 (zp f1 3)]] (#[.int .i64 (j:Int),.int .i64 (f:Int),.agg #[.int .i64 f0,.int .i64 f1],.agg #[.int .i64 (zp f1 0),.int .i64 (zp f1 1),.int .i64 (zp f1 2),.int .i64 (zp f1 3)]]++caps) (by rfl) rfl rfl rfl (by(try simp only [yiy,yjy,yky]);first|done|rfl) rfl ?_
            refine(HST.out st _ j f ⟨f0,f1⟩ aa.out HF.out aA.out (by have:=ad.out;omega)).mono ?_
            rintro e w4 ⟨rfl,aw⟩
            refine⟨_,rfl,?_⟩
            have aB:=zA.mk aw
            clear aw aa;refine hK.out _ _ ?_
            clear hK K;refine QE (a':=?_) ?_ ?_
            rotate_left
            · show Act.put _ (some 33) _=_
              simp only [Act.put,yay,yby,ycy,zX,za]
              rfl
            refine Qo (by kernel_rfl) ?_
            go_wp2;go_roundg (row.length-(f+1))
            case measure=>omega
            case rel=>exact⟨f+1,_,by omega,by omega,by go_num,aj,aB,⟨by have:=ad.out;have:=HCN.out st j f ⟨f0,f1⟩;omega⟩⟩
        · obtain rfl:f=row.length:=by omega
          have ae:=HI.out
          rw[List.drop_length,zEl]at ae
          have HA:=zA.mk ae
          clear HI ae;go_wp2;go_roundg (l.length-(j+1))
          case measure=>omega
          case rel=>exact⟨j+1,st,by omega,by omega,by go_num,HA,HS,⟨by have:=ad.out;omega⟩⟩
    · obtain rfl:j=l.length:=by omega
      have ag:=HA.out
      rw[List.drop_length,zBg]at ag
      subst ag;go_wp2;first|go_end0|((try simp only [Exit.inBlock,Exit.then]);refine bodyPost_ret (results_none rfl _ _ _) rfl ?_)
      refine⟨?_,HS.out⟩
      first|rfl|(simp <;> rfl)
def Zd (l:List Int) (i:Nat):Nat→Int
  | 0=>rd l i
  | j+1=>if rd l j<rd l i then Zd l i j-1 else Zd l i j
def zAP (l:List Int):Nat→Int
  | 0=>0
  | i+1=>zAP l i+Zd l i i*zGh i
def idxL (l:List Int):Int:=zAP l 4
def sm (x:Int):Prop:=0≤x∧x≤3
theorem zAX (l:List Int) (i:Nat) (h:sm (rd l i)) : ∀ j:Nat, -(j:Int)≤Zd l i j∧Zd l i j≤3
  | 0=>by have:=h.1;have:=h.2;unfold Zd;omega
  | j+1=>by
    have:=zAX l i h j
    unfold Zd
    split <;> omega
set_option maxHeartbeats 8000000 in
set_option maxRecDepth 100000 in
theorem zE4.calls (a b c d:Int) (w:World) (ha:sm a) (hb:sm b) (hc:sm c) (hd:sm d) :
    Calls Try.prog 134 #[.agg #[.int .i64 a,.int .i64 b,.int .i64 c,.int .i64 d]] w fun e w'=>e = .returned (.int .i64 (idxL [a,b,c,d]))∧Below w.heap.size w w':=by
  have ah:sm (rd [a,b,c,d] (0:Nat)):=ha
  have ai:sm (rd [a,b,c,d] (1:Nat)):=hb
  have aj:sm (rd [a,b,c,d] (2:Nat)):=hc
  have ak:sm (rd [a,b,c,d] (3:Nat)):=hd
  have HL:=zA.mk (And.intro (zAX _ 0 ah) (And.intro (zAX _ 1 ai) (And.intro (zAX _ 2 aj) (zAX _ 3 ak))))
  have HS:=zA.mk (And.intro ah (And.intro ai (And.intro aj ak)))
  clear ha hb hc hd ah ai aj ak;generalize hl : [a,b,c,d]=l at HL HS ⊢
  have HLL:=zA.mk hl
  clear hl;go_enter Try.func134,Try.ntmps134
  go_wp2_with fail
  go_loopg [3,11] 4 (fun gg v3 v11 w' => ∃ i:Nat,i≤4∧4-i≤gg∧v11 = .int .i64 i∧v3 = .int .i64 (zAP l i)∧zA (-24*(i:Int)≤zAP l i∧zAP l i≤24*i) ∧
    zA (w'.heap[w.heap.size]?=some (.cells #[.int .i64 a,.int .i64 b,.int .i64 c,.int .i64 d] 101 (0,0))) ∧
    zA (w'.heap[w.heap.size+1]?=some (.cells #[.int .i64 6,.int .i64 2,.int .i64 1,.int .i64 1] 2 (0,0)))∧zA (Below w.heap.size w w'))
  case atStart=>
    refine⟨0,by omega,by omega,rfl,rfl,⟨by simp [zAP]⟩,⟨?_⟩,⟨?_⟩,⟨?_⟩⟩
    · exact zG (ZL rfl _) _
    · exact ZL (by simp) _
    · exact zC (zC (ysy _ _) _) _
  case round=>
    obtain⟨i,hi,hg,rfl,rfl,HI,B1,B9,HB⟩:=hrel
    rcases(show i=4∨i=3∨i=2∨i=1∨i=0 by omega)with rfl|rfl|rfl|rfl|rfl
    · go_wp2
      go_ret;exact⟨rfl,HB.out⟩
    · have b9:wr.cell? ⟨w.heap.size+1,3,none⟩=some (.int .i64 1):=(zK B9.out 3).trans rfl
      have b1:wr.cell? ⟨w.heap.size,3,none⟩=some (.int .i64 (rd l (3:Nat))):=(zK B1.out 3).trans (by rw[← HLL.out];rfl)
      have hx:sm (rd l (3:Nat)):=by have:=HS.out;exact this.2.2.2
      have HD:=zA.mk (show ∀ j:Nat,Zd l 3 (j+1)=if rd l (j:Nat)<rd l (3:Nat)then Zd l 3 j-1 else Zd l 3 j from fun _=>rfl)
      have ad:=zA.mk (show rd l (3:Nat)=Zd l 3 0 from rfl)
      generalize rd l (3:Nat)=xi at b1 HD ad hx
      go_wp2_with fail
      go_loopg [6,22] 3 (fun gg v6 v22 w' => ∃ j:Nat,j≤3∧3-j≤gg∧v22 = .int .i64 j∧v6 = .int .i64 (Zd l 3 j)∧w' = wr)
      case atStart=>exact⟨0,by omega,by omega,rfl,by rw[ad.out],rfl⟩
      case round=>
        obtain⟨j,hj,al,rfl,rfl,rfl⟩:=hrel
        by_cases hlt:j<3
        · have hltz:(j:Int)<3:=by omega
          have bj:wr.cell? ⟨w.heap.size,j,none⟩=some (.int .i64 (rd l (j:Nat))):=by
            have:=Qe B1.out (j:Int) (by omega) (by omega)
            rw[HLL.out,yny]at this
            exact this
          have hbd:=(HL.out.2.2.2 j)
          obtain⟨aa,ab⟩:=hbd
          have HN:=zA.mk (HD.out j)
          generalize Zd l 3 j=lv at HN aa ab ⊢
          generalize rd l (j:Nat)=xj at bj HN
          by_cases hless:xj<xi
          · have ae:decide (xj<xi)=true:=ygy hless
            go_wp2;go_roundg (3-(j+1))
            case measure=>omega
            case rel=>exact⟨j+1,by omega,by omega,by go_num,by rw[HN.out,if_pos hless],rfl⟩
          · have ae:decide (xj<xi)=false:=yhy hless
            go_wp2;go_roundg (3-(j+1))
            case measure=>omega
            case rel=>exact⟨j+1,by omega,by omega,by go_num,by rw[HN.out,if_neg (by omega)],rfl⟩
        · have hltz : ¬ (j:Int)<3:=by omega
          obtain rfl:j=3:=by omega
          have hbd:=(HL.out.2.2.2 3)
          obtain⟨aa,ab⟩:=hbd
          obtain⟨af,ag⟩:=HI.out
          have HN:=zA.mk (show zAP l 4=zAP l 3+Zd l 3 3*1 from rfl)
          generalize Zd l 3 3=lv at HN aa ab ⊢
          generalize zAP l 3=iv at HN af ag ⊢
          go_wp2;go_roundg (4-4)
          case measure=>omega
          case rel=>exact⟨4,by omega,by omega,by first|rfl|go_num,by rw[HN.out];rw[Int.mul_one],⟨by rw[HN.out];omega⟩,B1,B9,HB⟩
    · have b9:wr.cell? ⟨w.heap.size+1,2,none⟩=some (.int .i64 1):=(zK B9.out 2).trans rfl
      have b1:wr.cell? ⟨w.heap.size,2,none⟩=some (.int .i64 (rd l (2:Nat))):=(zK B1.out 2).trans (by rw[← HLL.out];rfl)
      have hx:sm (rd l (2:Nat)):=by have:=HS.out;exact this.2.2.1
      have HD:=zA.mk (show ∀ j:Nat,Zd l 2 (j+1)=if rd l (j:Nat)<rd l (2:Nat)then Zd l 2 j-1 else Zd l 2 j from fun _=>rfl)
      have ad:=zA.mk (show rd l (2:Nat)=Zd l 2 0 from rfl)
      generalize rd l (2:Nat)=xi at b1 HD ad hx
      go_wp2_with fail
      go_loopg [6,22] 2 (fun gg v6 v22 w' => ∃ j:Nat,j≤2∧2-j≤gg∧v22 = .int .i64 j∧v6 = .int .i64 (Zd l 2 j)∧w' = wr)
      case atStart=>exact⟨0,by omega,by omega,rfl,by rw[ad.out],rfl⟩
      case round=>
        obtain⟨j,hj,al,rfl,rfl,rfl⟩:=hrel
        by_cases hlt:j<2
        · have hltz:(j:Int)<2:=by omega
          have bj:wr.cell? ⟨w.heap.size,j,none⟩=some (.int .i64 (rd l (j:Nat))):=by
            have:=Qe B1.out (j:Int) (by omega) (by omega)
            rw[HLL.out,yny]at this
            exact this
          have hbd:=(HL.out.2.2.1 j)
          obtain⟨aa,ab⟩:=hbd
          have HN:=zA.mk (HD.out j)
          generalize Zd l 2 j=lv at HN aa ab ⊢
          generalize rd l (j:Nat)=xj at bj HN
          by_cases hless:xj<xi
          · have ae:decide (xj<xi)=true:=ygy hless
            go_wp2;go_roundg (2-(j+1))
            case measure=>omega
            case rel=>exact⟨j+1,by omega,by omega,by go_num,by rw[HN.out,if_pos hless],rfl⟩
          · have ae:decide (xj<xi)=false:=yhy hless
            go_wp2;go_roundg (2-(j+1))
            case measure=>omega
            case rel=>exact⟨j+1,by omega,by omega,by go_num,by rw[HN.out,if_neg (by omega)],rfl⟩
        · have hltz : ¬ (j:Int)<2:=by omega
          obtain rfl:j=2:=by omega
          have hbd:=(HL.out.2.2.1 2)
          obtain⟨aa,ab⟩:=hbd
          obtain⟨af,ag⟩:=HI.out
          have HN:=zA.mk (show zAP l 3=zAP l 2+Zd l 2 2*1 from rfl)
          generalize Zd l 2 2=lv at HN aa ab ⊢
          generalize zAP l 2=iv at HN af ag ⊢
          go_wp2;go_roundg (4-3)
          case measure=>omega
          case rel=>exact⟨3,by omega,by omega,by first|rfl|go_num,by rw[HN.out];rw[Int.mul_one],⟨by rw[HN.out];omega⟩,B1,B9,HB⟩
    · have b9:wr.cell? ⟨w.heap.size+1,1,none⟩=some (.int .i64 2):=(zK B9.out 1).trans rfl
      have b1:wr.cell? ⟨w.heap.size,1,none⟩=some (.int .i64 (rd l (1:Nat))):=(zK B1.out 1).trans (by rw[← HLL.out];rfl)
      have hx:sm (rd l (1:Nat)):=by have:=HS.out;exact this.2.1
      have HD:=zA.mk (show ∀ j:Nat,Zd l 1 (j+1)=if rd l (j:Nat)<rd l (1:Nat)then Zd l 1 j-1 else Zd l 1 j from fun _=>rfl)
      have ad:=zA.mk (show rd l (1:Nat)=Zd l 1 0 from rfl)
      generalize rd l (1:Nat)=xi at b1 HD ad hx
      go_wp2_with fail
      go_loopg [6,22] 1 (fun gg v6 v22 w' => ∃ j:Nat,j≤1∧1-j≤gg∧v22 = .int .i64 j∧v6 = .int .i64 (Zd l 1 j)∧w' = wr)
      case atStart=>exact⟨0,by omega,by omega,rfl,by rw[ad.out],rfl⟩
      case round=>
        obtain⟨j,hj,al,rfl,rfl,rfl⟩:=hrel
        by_cases hlt:j<1
        · have hltz:(j:Int)<1:=by omega
          have bj:wr.cell? ⟨w.heap.size,j,none⟩=some (.int .i64 (rd l (j:Nat))):=by
            have:=Qe B1.out (j:Int) (by omega) (by omega)
            rw[HLL.out,yny]at this
            exact this
          have hbd:=(HL.out.2.1 j)
          obtain⟨aa,ab⟩:=hbd
          have HN:=zA.mk (HD.out j)
          generalize Zd l 1 j=lv at HN aa ab ⊢
          generalize rd l (j:Nat)=xj at bj HN
          by_cases hless:xj<xi
          · have ae:decide (xj<xi)=true:=ygy hless
            go_wp2;go_roundg (1-(j+1))
            case measure=>omega
            case rel=>exact⟨j+1,by omega,by omega,by go_num,by rw[HN.out,if_pos hless],rfl⟩
          · have ae:decide (xj<xi)=false:=yhy hless
            go_wp2;go_roundg (1-(j+1))
            case measure=>omega
            case rel=>exact⟨j+1,by omega,by omega,by go_num,by rw[HN.out,if_neg (by omega)],rfl⟩
        · have hltz : ¬ (j:Int)<1:=by omega
          obtain rfl:j=1:=by omega
          have hbd:=(HL.out.2.1 1)
          obtain⟨aa,ab⟩:=hbd
          obtain⟨af,ag⟩:=HI.out
          have HN:=zA.mk (show zAP l 2=zAP l 1+Zd l 1 1*2 from rfl)
          generalize Zd l 1 1=lv at HN aa ab ⊢
          generalize zAP l 1=iv at HN af ag ⊢
          go_wp2;go_roundg (4-2)
          case measure=>omega
          case rel=>exact⟨2,by omega,by omega,by first|rfl|go_num,by rw[HN.out],⟨by rw[HN.out];omega⟩,B1,B9,HB⟩
    · have b9:wr.cell? ⟨w.heap.size+1,0,none⟩=some (.int .i64 6):=(zK B9.out 0).trans rfl
      have b1:wr.cell? ⟨w.heap.size,0,none⟩=some (.int .i64 (rd l (0:Nat))):=(zK B1.out 0).trans (by rw[← HLL.out];rfl)
      have hx:sm (rd l (0:Nat)):=by have:=HS.out;exact this.1
      have HD:=zA.mk (show ∀ j:Nat,Zd l 0 (j+1)=if rd l (j:Nat)<rd l (0:Nat)then Zd l 0 j-1 else Zd l 0 j from fun _=>rfl)
      have ad:=zA.mk (show rd l (0:Nat)=Zd l 0 0 from rfl)
      generalize rd l (0:Nat)=xi at b1 HD ad hx
      go_wp2_with fail
      go_loopg [6,22] 0 (fun gg v6 v22 w' => ∃ j:Nat,j≤0∧0-j≤gg∧v22 = .int .i64 j∧v6 = .int .i64 (Zd l 0 j)∧w' = wr)
      case atStart=>exact⟨0,by omega,by omega,rfl,by rw[ad.out],rfl⟩
      case round=>
        obtain⟨j,hj,al,rfl,rfl,rfl⟩:=hrel
        by_cases hlt:j<0
        · have hltz:(j:Int)<0:=by omega
          have bj:wr.cell? ⟨w.heap.size,j,none⟩=some (.int .i64 (rd l (j:Nat))):=by
            have:=Qe B1.out (j:Int) (by omega) (by omega)
            rw[HLL.out,yny]at this
            exact this
          have hbd:=(HL.out.1 j)
          obtain⟨aa,ab⟩:=hbd
          have HN:=zA.mk (HD.out j)
          generalize Zd l 0 j=lv at HN aa ab ⊢
          generalize rd l (j:Nat)=xj at bj HN
          by_cases hless:xj<xi
          · have ae:decide (xj<xi)=true:=ygy hless
            go_wp2;go_roundg (0-(j+1))
            case measure=>omega
            case rel=>exact⟨j+1,by omega,by omega,by go_num,by rw[HN.out,if_pos hless],rfl⟩
          · have ae:decide (xj<xi)=false:=yhy hless
            go_wp2;go_roundg (0-(j+1))
            case measure=>omega
            case rel=>exact⟨j+1,by omega,by omega,by go_num,by rw[HN.out,if_neg (by omega)],rfl⟩
        · have hltz : ¬ (j:Int)<0:=by omega
          obtain rfl:j=0:=by omega
          have hbd:=(HL.out.1 0)
          obtain⟨aa,ab⟩:=hbd
          obtain⟨af,ag⟩:=HI.out
          have HN:=zA.mk (show zAP l 1=zAP l 0+Zd l 0 0*6 from rfl)
          generalize Zd l 0 0=lv at HN aa ab ⊢
          generalize zAP l 0=iv at HN af ag ⊢
          go_wp2;go_roundg (4-1)
          case measure=>omega
          case rel=>exact⟨1,by omega,by omega,by first|rfl|go_num,by rw[HN.out],⟨by rw[HN.out];omega⟩,B1,B9,HB⟩
def zFy (p:Int→Bool):Nat→List Int→Int
  | _,[] => -1
  | i,x :: xs=>if p x=true then(i:Int)else zFy p (i+1) xs
theorem zCm (p:Int→Bool) : ∀ (l:List Int) (i:Nat),(zFy p i l = -1 ∧ ∀ x∈l,p x=false) ∨ ∃ k,k<l.length∧zFy p i l=((i+k:Nat):Int)∧(∀ h:k<l.length,p l[k]=true) ∧ ∀ x∈l.take k,p x=false
  | [],_ => .inl ⟨rfl,fun x hx=>by cases hx⟩
  | x :: xs,i=>by
    cases hp:p x with
    | true=>exact .inr ⟨0,by simp,by rw[zFy,hp,if_pos rfl];rfl,fun _=>hp,fun y hy=>by simp at hy⟩
    | false=>
      rcases zCm p xs (i+1)with ⟨h1,h2⟩|⟨k,h1,h2,h3,h4⟩
      · refine .inl ⟨by rw[zFy,hp,if_neg (by simp)];exact h1,fun y hy=>?_⟩
        rcases List.mem_cons.1 hy with rfl|hy
        · exact hp
        · exact h2 y hy
      · refine .inr ⟨k+1,by simp;omega,by rw[zFy,hp,if_neg (by simp),h2];congr 1;omega,fun h=>h3 (by simpa using h),fun y hy=>?_⟩
        rw[List.take_succ_cons]at hy
        rcases List.mem_cons.1 hy with rfl|hy
        · exact hp
        · exact h4 y hy
theorem zE5 {e B g n cap:Nat} {ok:Nat→Prop} {w0:World} : ∀ (m i:Nat) (w:World) (dk:List Int),Kd.R (Kd.int .i64) e w B ok (.slice (some ⟨g,0,none⟩) n cap) dk→B≤g→Below B w0 w →
    ∃ dk',Kd.R (Kd.int .i64) e (w.setCells g i (List.replicate m (.int .i64 0))) B ok (.slice (some ⟨g,0,none⟩) n cap) dk' ∧ dk'.take i=dk.take i∧dk'.length=dk.length∧Below B w0 (w.setCells g i (List.replicate m (.int .i64 0)))
  | 0,i,w,dk,h,_,hb=>⟨dk,h,rfl,rfl,hb⟩
  | m+1,i,w,dk,h,hg,hb=>by
    have hn:n=dk.length:=(Kd.zq h).1
    subst hn;have h1:=(Kd.zAF h (i:Int) 0).1
    rw[yny]at h1
    have e1:(.slice (some ⟨g,0,none⟩) dk.length cap:Value) = .slice (some ⟨g,0,none⟩) (dk.set i 0).length cap:=by rw[List.length_set]
    rw[e1]at h1
    obtain⟨dk',h2,h3,h4,h5⟩:=zE5 m (i+1) _ _ h1 hg (hb.setCell (p:=⟨g,i,none⟩) hg (.int .i64 0))
    rw[← e1]at h2
    refine⟨dk',h2,?_,by rw[h4,List.length_set],h5⟩
    have:=congrArg (List.take i) h3
    rw[List.take_take,List.take_take,Nat.min_eq_left (by omega)]at this
    rw[this,List.take_set_of_le (yry i)]
structure zAK (p:Int→Bool) (xs dk:List Int) (i j:Nat):Prop where
  lt:i<j
  le:j≤xs.length
  len:dk.length=xs.length
  done:dk.take i=(xs.take j).filter fun x => !p x
  left:dk.drop j=xs.drop j
theorem zAK.start {p:Int→Bool} {xs:List Int} {k:Nat} (h1:k<xs.length) (h3:p xs[k]=true) (h4 : ∀ x∈xs.take k,p x=false):zAK p xs xs k (k+1):=by
  refine⟨by omega,by omega,rfl,?_,rfl⟩
  rw[List.take_succ_eq_append_getElem h1,List.filter_append]
  have e1:(xs.take k).filter (fun x => !p x)=xs.take k:=List.filter_eq_self.2 (fun x hx=>by rw[h4 x hx];rfl)
  rw[e1];simp [h3]
theorem zAK.get {p:Int→Bool} {xs dk:List Int} {i j:Nat} (h:zAK p xs dk i j) (hj:j<xs.length):rd dk (j:Int)=xs[j]:=by
  have h1:dk[j]?=xs[j]?:=by
    have:=congrArg (fun l=>l[0]?) h.left
    simpa [List.getElem?_drop]using this
  have h2:j<dk.length:=by rw[h.len];exact hj
  simp [rd,List.getD_eq_getElem?_getD,h1,hj]
theorem zAK.keep {p:Int→Bool} {xs dk:List Int} {i j:Nat} (h:zAK p xs dk i j) (hj:j<xs.length) (hp:p xs[j]=false):zAK p xs (dk.set i xs[j]) (i+1) (j+1):=by
  have hi:i<dk.length:=by have:=h.lt;have:=h.len;omega
  refine⟨by have:=h.lt;omega,by omega,by rw[List.length_set];exact h.len,?_,?_⟩
  · rw[List.take_succ_eq_append_getElem (by rw[List.length_set];exact hi),List.take_set_of_le (yry i),h.done,List.take_succ_eq_append_getElem hj,List.filter_append]
    simp [hp]
  · rw[List.drop_set_of_lt (by have:=h.lt;omega),← List.drop_drop,h.left,List.drop_drop]
theorem zAK.skip {p:Int→Bool} {xs dk:List Int} {i j:Nat} (h:zAK p xs dk i j) (hj:j<xs.length) (hp:p xs[j]=true):zAK p xs dk i (j+1):=by
  refine⟨by have:=h.lt;omega,by omega,h.len,?_,?_⟩
  · rw[h.done,List.take_succ_eq_append_getElem hj,List.filter_append]
    simp [hp]
  · rw[← List.drop_drop,h.left,List.drop_drop]
set_option maxHeartbeats 8000000 in
set_option maxRecDepth 100000 in
theorem zA7.calls (p:Int→Bool) (ae:Value) (A0:Option Addr) (c0:Nat) (l0:List Int) (w:World) (af:Kd.C (Kd.int .i64) w A0 l0.length l0)
    (hp : ∀ (W:World) (x:Int),x∈l0→Below w.heap.size w W→Calls Try.prog 124 #[.int .i64 x,ae] W fun e W'=>e = .returned (.bool (p x))∧Below W.heap.size W W') :
    Calls Try.prog 122 #[.slice A0 l0.length c0,.func (.func 124) #[] #[ae]] w fun e w'=>e = .returned (.int .i64 (zFy p 0 l0))∧Below w.heap.size w w':=by
  have ag:=zA.mk af
  have HP:=zA.mk hp
  clear af hp;have hbig:l0.length≤9223372036854775807:=ag.out.2.1
  have HB:=zA.mk (ysy w.heap.size w)
  have H' : zA (zFy p 0 (l0.drop 0)=zFy p 0 l0):=⟨by rw[List.drop_zero]⟩
  generalize zFy p 0 l0=r at H' ⊢
  go_enter Try.func122,Try.ntmps122
  go_wp2;go_loopg [5,8] l0.length (fun gg v5 v8 w' => ∃ kk:Nat,kk≤l0.length∧l0.length-kk≤gg∧v8 = .int .i64 kk∧zA (zFy p kk (l0.drop kk)=r)∧zA (Below w.heap.size w w'))
  case atStart=>exact⟨0,Nat.zero_le _,by omega,rfl,H',HB⟩
  case round=>
    clear H' HB;obtain⟨kk,hkk,hg,rfl,HA,HB⟩:=hrel
    by_cases hlt:kk<l0.length
    · have hltz:(kk:Int)<(l0.length:Int):=by omega
      have H:=HA.out
      clear HA;rw[ypy hlt,zFy]at H
      obtain⟨ad,aa,hx⟩:=Kd.qw ag.out (kk:Int) (by omega) (by omega)
      have ex:rd l0 (kk:Int)=l0[kk]:=by simp [rd,hlt]
      rw[ex,yny]at hx
      replace hx:=(HB.out.cell (yqy w _ hx)).trans hx
      have HC:=zA.mk (HP.out wr l0[kk] (yoy hlt) HB.out)
      generalize l0[kk]=y at hx H HC
      clear ex
      cases aa
      cases hq:p y with
      | true=>
        rw[hq]at HC H
        rw[if_pos rfl]at H
        have H2:=zA.mk H
        clear H;go_wp2_with fail
        refine HC.out.mono ?_
        rintro e w' ⟨rfl,hd⟩
        have ab:=zA.mk (zM HB.out hd)
        clear hd HB HC;go_wp2;go_ret;exact⟨by rw[← H2.out];rfl,ab.out⟩
      | false=>
        rw[hq]at HC H
        rw[if_neg (by simp)]at H
        have H2:=zA.mk H
        clear H;go_wp2_with fail
        refine HC.out.mono ?_
        rintro e w' ⟨rfl,hd⟩
        have ab:=zA.mk (zM HB.out hd)
        clear hd HB HC;go_wp2;go_roundg (l0.length-(kk+1))
        case measure=>omega
        case rel=>exact⟨kk+1,by omega,by omega,by go_num,H2,ab⟩
    · have hltz : ¬ (kk:Int)<(l0.length:Int):=by omega
      have e:kk=l0.length:=by omega
      subst e;have H2:=zA.mk (show(-1:Int)=r by have:=HA.out;rwa [List.drop_length,zFy]at this)
      clear HA;go_wp2;go_ret;exact⟨by rw[← H2.out];rfl,HB.out⟩
set_option maxHeartbeats 8000000 in
set_option maxRecDepth 100000 in
theorem Jy.calls (p:Int→Bool) (ae:Value) (g cap B:Nat) (ok:Nat→Prop) (xs:List Int) (w:World) (hR:Kd.R (Kd.int .i64) 2 w B ok (.slice (some ⟨g,0,none⟩) xs.length cap) xs)
    (hp : ∀ (W:World) (x:Int),x∈xs→Below B w W→Calls Try.prog 124 #[.int .i64 x,ae] W fun e W'=>e = .returned (.bool (p x))∧Below W.heap.size W W') :
    Calls Try.prog 123 #[.slice (some ⟨g,0,none⟩) xs.length cap,.func (.func 124) #[] #[ae]] w fun e w' => ∃ v',e = .returned v' ∧ Kd.R (Kd.int .i64) 2 w' B ok v' (xs.filter fun x => !p x)∧Below B w w':=by
  have hgB:B≤g:=Kd.Zw hR g (by simp [Value.ownBlock])
  have hgW:g<w.heap.size:=Kd.JO hR g (by simp [Value.ownBlock])
  have hcap:xs.length≤cap:=(Kd.zq hR).2.1
  have hbig:xs.length≤9223372036854775807:=Kd.zGN (Kd.zq hR).2.2
  have HIX:=zA.mk (zA7.calls p ae (some ⟨g,0,none⟩) cap xs w (Kd.zq hR).2.2 (fun W x hx hb=>hp W x hx (hb.mono (by omega))))
  have HR:=zA.mk hR
  have HP:=zA.mk hp
  have HG:=zA.mk (And.intro hgB hgW)
  clear hR hp hgB hgW;rcases zCm p xs 0 with ⟨h1,h2⟩|⟨k,h1,h2,h3,h4⟩
  · rw[h1]at HIX
    have e1:xs.filter (fun x => !p x)=xs:=List.filter_eq_self.2 (fun x hx=>by rw[h2 x hx];rfl)
    rw[e1]
    clear h1 h2 e1 HP;go_enter Try.func123,Try.ntmps123
    go_wp2_with fail
    refine HIX.out.mono ?_
    rintro e w' ⟨rfl,hd⟩
    have HB:=zA.mk (hd.mono (show B≤w.heap.size by have:=HG.out;omega))
    have ab:=zA.mk (Kd.qN HR.out hd)
    clear hd HIX HR;go_wp2;go_ret;exact⟨_,rfl,ab.out,HB.out⟩
  · rw[h2,Nat.zero_add]at HIX
    have ah:=zA.mk (zAK.start h1 (h3 h1) h4)
    have ai:k<xs.length:=h1
    have hne:((k:Int) == -1)=false:=beq_eq_false_iff_ne.2 (by omega)
    clear h2 h3 h4 h1;go_enter Try.func123,Try.ntmps123
    go_wp2_with fail
    refine HIX.out.mono ?_
    rintro e w1 ⟨rfl,hd⟩
    have HB:=zA.mk (hd.mono (show B≤w.heap.size by have:=HG.out;omega))
    have ab:=zA.mk (Kd.qN HR.out hd)
    clear hd HIX HR;go_wp2;clear hne;go_loopg [5,6,7] xs.length (fun gg s5 s6 _ wr => ∃ (i j:Nat) (dk:List Int),s5 = .int .i64 i∧s6 = .int .i64 j∧xs.length-j≤gg∧zA (zAK p xs dk i j)∧zA (Kd.R (Kd.int .i64) 2 wr B ok (.slice (some ⟨g,0,none⟩) xs.length cap) dk)∧zA (Below B w wr))
    case atStart=>exact⟨k,k+1,xs,rfl,by go_num,by omega,ah,ab,HB⟩
    case round=>
      clear ah ab HB ai;obtain⟨i,j,dk,rfl,rfl,hgg,HK,HR,HB⟩:=hrel
      have hij:=HK.out.lt
      have hjl:=HK.out.le
      have hdl:=HK.out.len
      by_cases hlt:j<xs.length
      · have hltz:(j:Int)<(xs.length:Int):=by omega
        have aa:=HR.out
        rw[← hdl]at aa
        obtain⟨cj,_⟩:=Kd.Zm 0 aa (j:Int) (by omega) (by omega)
        obtain⟨ci,fi⟩:=Kd.Zm 0 aa (i:Int) (by omega) (by omega)
        replace cj:wr.cell? ⟨g,j,none⟩=some (.int .i64 (rd dk (j:Int))):=cj
        replace ci:wr.cell? ⟨g,i,none⟩=some (.int .i64 (rd dk (i:Int))):=ci
        replace fi:wr.frozen? ⟨g,i,none⟩=false:=fi
        rw[HK.out.get hlt]at cj
        have HC:=zA.mk (HP.out wr xs[j] (yoy hlt) HB.out)
        generalize hu:xs[j]=u at cj HC
        have HU:=zA.mk hu
        generalize rd dk (i:Int)=old at ci
        clear hu aa
        cases hq:p u with
        | false=>
          rw[hq]at HC
          go_wp2_with fail
          refine HC.out.mono ?_
          rintro e w2 ⟨rfl,hd⟩
          have af:=zA.mk (HB.out.trans (hd.mono (show B≤wr.heap.size by have:=HB.out.size;have:=HG.out;omega)))
          have ag:=Kd.qN HR.out hd
          rw[← hdl]at ag
          have ad:=zA.mk (Kd.zAF ag (i:Int) u).1
          rw[yny]at ad
          have aj:=(hd.cell (yqy wr _ ci)).trans ci
          have ak:=(hd.frozen (yqy wr _ ci)).trans fi
          clear hd HB HC cj ci fi ag HR;go_wp2;go_roundg (xs.length-(j+1))
          case measure=>omega
          case rel=>exact⟨i+1,j+1,dk.set i u,by go_num,by go_num,by omega,⟨by have:=HK.out.keep hlt (by rw[HU.out];exact hq);rwa [HU.out]at this⟩,⟨by rw[← hdl];exact ad.out⟩,⟨af.out.setCell (p:=⟨g,i,none⟩) HG.out.1 _⟩⟩
        | true=>
          rw[hq]at HC
          go_wp2_with fail
          refine HC.out.mono ?_
          rintro e w2 ⟨rfl,hd⟩
          have af:=zA.mk (HB.out.trans (hd.mono (show B≤wr.heap.size by have:=HB.out.size;have:=HG.out;omega)))
          have ad:=zA.mk (Kd.qN HR.out hd)
          clear hd HB HC cj ci fi HR;go_wp2;go_roundg (xs.length-(j+1))
          case measure=>omega
          case rel=>exact⟨i,j+1,dk,rfl,by go_num,by omega,⟨HK.out.skip hlt (by rw[HU.out];exact hq)⟩,ad,af⟩
      · obtain rfl:j=xs.length:=by omega
        have hltz : ¬ (xs.length:Int)<(xs.length:Int):=by omega
        have aa:=HR.out
        rw[← hdl]at aa
        have hcl : ∀ ty,(Builtin.clear_ #[22] ty #[.slice (some ⟨g,i,none⟩) (xs.length-i) (cap-i)]).run Try.prog wr = .ok (.tuple #[]) (wr.setCells g i (List.replicate (xs.length-i) (.int .i64 0))):=
          fun ty=>Lib.run_clear_slice wr _ _ ty _ Try.underlying22 (fun w=>Try.zeroValue2 w) rfl rfl g i _ _ (by omega) (fun t ht=>by have q:wr.cell? ⟨g,i+t,none⟩=some (.int .i64 (rd dk ((i+t:Nat):Int))):=(Kd.Zm 0 aa ((i+t:Nat):Int) (by omega) (by omega)).1;rw[q];rfl) (fun t ht=>(Kd.Zm 0 aa ((i+t:Nat):Int) (by omega) (by omega)).2)
        obtain⟨dk',q1,q2,q3,q4⟩:=zE5 (xs.length-i) i wr dk HR.out HG.out.1 HB.out
        have q5:=Kd.R_take (m:=i) q1 (by omega)
        have q6:dk'.take i=xs.filter fun x => !p x:=by rw[q2,HK.out.done,List.take_length]
        rw[q6]at q5
        have Q5:=zA.mk q5
        have Q4:=zA.mk q4
        clear q1 q2 q3 q4 q5 q6 aa HR HB HP HK hdl;go_wp2;go_ret;exact⟨_,rfl,Q5.out,Q4.out⟩
def qS.l0:Nat→List Int→Int→Int→Int→Option (Int)
  | 0,_,_,_,_=>none
  | k+1,x0,x1,x7,x8=>if x8<x7 then(if 0≤x8 then(if x8<(x0.length:Int)then(if x1=(rd x0 x8)then(some x8)else(qS.l0 k x0 x1 x7 (wrap64 (x8+1))))else(none))else(none))else(some (-1))
def qS.f (k:Nat) (l0:List Int) (a1:Int):Option (Int):=qS.l0 k l0 a1 (l0.length:Int) 0
set_option maxHeartbeats 8000000 in
set_option maxRecDepth 100000 in
theorem qS.calls (k:Nat) (A0:Option Addr) (c0:Nat) (l0:List Int) (a1:Int) (r:Int) (w:World) (ak:Kd.C (Kd.int .i64) w A0 l0.length l0) (al:l0.length≤c0) (h:qS.f k l0 a1=some r) :
    Calls Try.prog 132 #[.slice A0 l0.length c0,.int .i64 a1] w fun e w'=>e = .returned (.int .i64 r)∧qG w w':=by
  have an:=zA.mk ak
  have au:=zA.mk al
  clear ak al;have H:(qS.l0 k l0 a1 (l0.length:Int) 0)=some r:=h
  clear h;have H':=zA.mk H
  clear H;go_enter Try.func132,Try.ntmps132
  go_wp2;go_loopg [8] k (fun kq v8 w' => ∃ (aa:Int),v8 = .int .i64 aa∧zA (qS.l0 kq l0 a1 (l0.length:Int) aa=some r)∧zA (kq≤k)∧qG w w')
  case atStart=>exact⟨(0),(by first|rfl|(simp;done)|(simp [*];done)),H',⟨yry _⟩,by repeat(first|exact qG.refl _|apply qG.step)⟩
  case round=>
    clear H';(try clear c1);(try clear p2);obtain⟨aa,rfl,HA,ao,⟨m1,rfl⟩⟩:=hrel
    cases gk with
    | zero=>exact absurd HA.out (by simp [qS.l0])
    | succ k1=>
      have H:=HA.out
      clear HA;simp only [qS.l0]at H
      by_cases c3:aa<(l0.length:Int)
      · rw[if_pos c3]at H
        have ah:decide (aa<(l0.length:Int))=true:=ygy c3
        clear c3;by_cases c4:0≤aa
        · rw[if_pos c4]at H
          have aq:decide (0≤aa)=true:=ygy c4
          clear c4;by_cases c5:aa<(l0.length:Int)
          · rw[if_pos c5]at H
            have ar:decide (aa<(l0.length:Int))=true:=ygy c5
            clear c5;by_cases c6:a1=(rd l0 aa)
            · rw[if_pos c6]at H
              have ai:(a1==(rd l0 aa))=true:=beq_iff_eq.mpr c6
              have aj:(a1 != (rd l0 aa))=false:=bne_eq_false_iff_eq.mpr c6
              clear c6;obtain rfl:=yey H
              have ab:0≤(aa:Int):=of_decide_eq_true (by first|(with_reducible assumption)|assumption)
              have ad:aa<(l0.length:Int):=of_decide_eq_true (by first|(with_reducible assumption)|assumption)
              obtain⟨ag,af,ae⟩:=Kd.qw an.out aa ab ad
              cases af
              replace ab:=eq_true ab
              replace ad:=eq_true ad
              go_wp2;go_ret;exact⟨by first|rfl|(simp;done)|(simp [*];done),by repeat(first|exact qG.refl _|apply qG.step)⟩
            · rw[if_neg c6]at H
              have ai:(a1==(rd l0 aa))=false:=beq_eq_false_iff_ne.mpr c6
              have aj:(a1 != (rd l0 aa))=true:=bne_iff_ne.mpr c6
              have H':=zA.mk H
              clear H;have ab:0≤(aa:Int):=of_decide_eq_true (by first|(with_reducible assumption)|assumption)
              have ad:aa<(l0.length:Int):=of_decide_eq_true (by first|(with_reducible assumption)|assumption)
              obtain⟨ag,af,ae⟩:=Kd.qw an.out aa ab ad
              cases af
              replace ab:=eq_true ab
              replace ad:=eq_true ad
              go_wp2;go_roundg k1
              case measure=>have:=ao.out;omega
              case rel=>exact⟨(wrap64 (aa+1)),(by first|rfl|(simp;done)|(simp [*];done)),H',⟨by have:=ao.out;omega⟩,by repeat(first|exact qG.refl _|apply qG.step)⟩
          · rw[if_neg c5]at H
            exact absurd H (by simp)
        · rw[if_neg c4]at H
          exact absurd H (by simp)
      · rw[if_neg c3]at H
        have ah:decide (aa<(l0.length:Int))=false:=yhy c3
        clear c3;obtain rfl:=yey H
        go_wp2;go_ret;exact⟨by first|rfl|(simp;done)|(simp [*];done),by repeat(first|exact qG.refl _|apply qG.step)⟩
def Zh.f (k:Nat) (l0:List Int) (a1:Int):Option (Bool):=(qS.f k l0 a1).bind fun t101=>(some (decide (t101≥0)))
set_option maxHeartbeats 8000000 in
set_option maxRecDepth 100000 in
theorem Zh.calls (k:Nat) (A0:Option Addr) (c0:Nat) (l0:List Int) (a1:Int) (r:Bool) (w:World) (aa:Kd.C (Kd.int .i64) w A0 l0.length l0) (ab:l0.length≤c0) (h:Zh.f k l0 a1=some r) :
    Calls Try.prog 125 #[.slice A0 l0.length c0,.int .i64 a1] w fun e w'=>e = .returned (.bool r)∧qG w w':=by
  have ae:=zA.mk aa
  have af:=zA.mk ab
  clear aa ab;have H:((qS.f k l0 a1).bind fun t101=>(some (decide (t101≥0))))=some r:=h
  clear h;replace H:=ydy.mp H
  obtain⟨t101,ad,H⟩:=H
  replace H:(some (decide (t101≥0)))=some r:=H
  have A3:=zA.mk ad
  clear ad;obtain rfl:=yey H
  go_enter Try.func125,Try.ntmps125
  go_wp2_with (first|((with_reducible refine zd (f:=132) rfl ?_);refine qV (some 7) rfl rfl Try.func132 (by kernel_rfl) rfl #[.slice A0 l0.length c0,.int .i64 a1] rfl (by(try simp only [yiy,yjy,yky]);first|done|rfl|(simp only [yly,ymy];rfl)) ?_;(with_reducible refine(qS.calls k _ _ l0 a1 t101 _ ?side1 ?side2 A3.out).mono ?_);(case side1=>repeat(first|exact ae.out|(with_reducible refine Kd.zy ?_ _)|(with_reducible refine Kd.qA ?_ _)|(with_reducible refine Kd.qR ?_)));(case side2=>exact af.out);rintro e w' ⟨rfl,⟨nd,rfl⟩⟩;refine⟨_,rfl,?_⟩))
  go_ret;exact⟨by first|rfl|(simp;done)|(simp [*];done),by repeat(first|exact qG.refl _|apply qG.step)⟩
def Qt (l0:List Int):List Int := [0,1,2,3].filter fun x => !l0.contains x
def Zk.f (l0:List Int):Option (List Int):=some (Qt l0)
theorem zFN (l:List Int) (x:Int) (hl:l.length≤9223372036854775807) : ∀ (d n:Nat),n+d=l.length → ∃ r,qS.l0 (d+1) l x (l.length:Int) (n:Int)=some r∧decide (r≥0)=(l.drop n).contains x
  | 0,n,h=>⟨-1,by rw[qS.l0,if_neg (by omega)],by rw[List.drop_eq_nil_of_le (by omega)];rfl⟩
  | d+1,n,h=>by
    have hlt:n<l.length:=by omega
    obtain⟨r,h1,h2⟩:=zFN l x hl d (n+1) (by omega)
    have ex:rd l (n:Int)=l[n]:=by simp [rd,hlt]
    rw[qS.l0,if_pos (by omega),if_pos (by omega),if_pos (by omega),ex,ypy hlt,List.contains_cons]
    by_cases c:x=l[n]
    · exact⟨n,by rw[if_pos c],by rw[← c];simp⟩
    · refine⟨r,?_,?_⟩
      · rw[if_neg c,← h1];congr 1;unfold wrap64;omega
      · rw[h2]
        have:(x==l[n])=false:=by simpa using c
        rw[this,Bool.false_or]
theorem contains_eq (l:List Int) (x:Int) (hl:l.length≤9223372036854775807):Zh.f (l.length+1) l x=some (l.contains x):=by
  obtain⟨r,h1,h2⟩:=zFN l x hl l.length 0 (by omega)
  have h3:qS.f (l.length+1) l x=some r:=h1
  unfold Zh.f
  rw[h3,yfy,h2,List.drop_zero]
set_option maxHeartbeats 8000000 in
set_option maxRecDepth 100000 in
theorem zDK.calls (A0:Option Addr) (c0 gb:Nat) (l0:List Int) (x:Int) (w:World) (hb:w.heap[gb]?=some (.cells #[.slice A0 l0.length c0] 22 (0,0))) (hC:Kd.C (Kd.int .i64) w A0 l0.length l0) (hc:l0.length≤c0) :
    Calls Try.prog 124 #[.int .i64 x,.pointer (some ⟨gb,0,none⟩)] w fun e w'=>e = .returned (.bool (l0.contains x))∧Below w.heap.size w w':=by
  have hx:w.cell? ⟨gb,0,none⟩=some (.slice A0 l0.length c0):=(zK hb 0).trans rfl
  have HCC:=zA.mk (contains_eq l0 x hC.2.1)
  have HC:=zA.mk hC
  have HL:=zA.mk hc
  clear hb hC hc;generalize l0.contains x=b at HCC ⊢
  go_enter Try.func124,Try.ntmps124
  go_wp2_with fail
  refine(Zh.calls _ A0 c0 l0 x b _ HC.out HL.out HCC.out).mono ?_
  rintro e w' ⟨rfl,hd⟩
  have HB:=zA.mk (qG.below hd)
  clear hd;go_wp2;go_ret;exact⟨rfl,HB.out⟩
theorem zDL:qg.f 10 4=some [0,1,2,3]:=by decide +kernel
set_option maxHeartbeats 8000000 in
set_option maxRecDepth 100000 in
theorem Zk.calls (A0:Option Addr) (c0:Nat) (l0:List Int) (r:List Int) (w:World) (ad:Kd.C (Kd.int .i64) w A0 l0.length l0) (ae:l0.length≤c0) (h:Zk.f l0=some r) :
    Calls Try.prog 96 #[.slice A0 l0.length c0] w fun e w' => ∃ af:Value,e = .returned (af)∧Kd.R (Kd.int .i64) 2 w' w.heap.size (fun _=>True) af r∧Below w.heap.size w w':=by
  have hr:Qt l0=r:=yey h
  subst hr;clear h;have HR:=zA.mk ad
  have HC:=zA.mk ae
  clear ad ae;go_enter Try.func96,Try.ntmps96
  have BB:=zA.mk (ZL (W:=w) rfl (.cells #[.slice A0 l0.length c0] 22))
  have HB:=zA.mk (zC (ysy w.heap.size w) (.cells #[.slice A0 l0.length c0] 22))
  have HS:=zA.mk (show(w.alloc (.cells #[.slice A0 l0.length c0] 22)).heap.size=w.heap.size+1 by simp)
  go_wp2_with fail
  refine(qg.calls 10 4 [0,1,2,3] _ zDL).mono ?_
  rintro e w1 ⟨v1,rfl,ho,hb⟩
  obtain⟨g,cap,rfl,aa,ah,_⟩:=Kd.Jw ho (by decide)
  have ag:=zA.mk (zO BB.out hb)
  have ab:=zA.mk (zM HB.out hb)
  rw[HS.out]at ho aa
  have HO:=zA.mk ho
  have HG:=zA.mk aa
  clear ho hb aa ah BB HB HS;go_wp2_with fail
  refine(Jy.calls (fun x=>l0.contains x) (.pointer (some ⟨w.heap.size,0,none⟩)) g cap (w.heap.size+1) (fun _=>True) [0,1,2,3] _ HO.out (fun W x _ hb=>zDK.calls A0 c0 w.heap.size l0 x W ((hb.block w.heap.size (by omega)).trans ag.out) (Kd.qD HR.out (ab.out.trans (hb.mono (by omega)))) HC.out)).mono ?_
  rintro e w2 ⟨v2,rfl,ho,hb⟩
  have ai:=zA.mk (Kd.qx ho (show w.heap.size≤w.heap.size+1 by omega))
  have aj:=zA.mk (ab.out.trans (hb.mono (show w.heap.size≤w.heap.size+1 by omega)))
  clear ho hb HO ab ag;go_wp2;go_ret;exact⟨_,rfl,ai.out,aj.out⟩
theorem QX {f c:Int} (h:c∈Qt [f]):sm c∧c≠f:=by
  unfold Qt at h
  obtain⟨h1,h2⟩:=List.mem_filter.1 h
  refine⟨?_,fun e=>by simp [e]at h2⟩
  simp only [List.mem_cons,List.not_mem_nil,or_false]at h1
  unfold sm;omega
theorem zE6 {f:Int} (h:sm f):(Qt [f]).length=3:=by
  obtain⟨h0,h1⟩:=h
  rcases(show f=0∨f=1∨f=2∨f=3 by omega)with rfl|rfl|rfl|rfl <;> decide
theorem wid_ {x:Int} (h0 : -9223372036854775808≤x) (h1:x≤9223372036854775807):wrap64 x=x:=by unfold wrap64;omega
theorem zBv {w:World} {g:Nat} {T:TypeId} {a b c d e f:Int} (h:w.heap[g]?=some (.cells #[.int .i64 a,.int .i64 b,.int .i64 c,.int .i64 d] T (0,0))) (h0:0≤f) (h1:f≤3) (he:rd [a,b,c,d] f=e):w.cell? ⟨g,f.toNat,none⟩=some (.int .i64 e):=by
  rw[Qe h f h0 h1,he]
theorem zCI (n:Nat) (hn:n≤1000000) : ∀ (d i:Nat) (xs:List Int),i+d=n→xs.length=i→qg.l0 (d+1) xs (n:Int) (i:Int)=some (xs++Lib.ZP (i:Int) d)
  | 0,i,xs,h,hl=>by rw[qg.l0,if_neg (by omega)];simp [Lib.ZP]
  | d+1,i,xs,h,hl=>by
    have e1:wrap64 ((i:Int)+1)=((i+1:Nat):Int):=by rw[wid_ (by omega) (by omega)];rfl
    rw[qg.l0,if_pos (by omega),if_pos (by omega),e1,zCI n hn d (i+1) _ (by omega) (by simp [hl]),Lib.ZP,List.append_assoc]
    rfl
theorem zCJ (n:Nat) (hn:n≤1000000):qg.f (n+1) (n:Int)=some (Lib.ZP 0 n):=by
  have h:=zCI n hn n 0 [] (by omega) rfl
  exact h
def zDM (l:List (List zv)):Prop:=l.length≤8∧(∀ r∈l,r.length≤4) ∧ ∀ r∈l,∀ x∈r,¬ x.f0<0→x.f0<(l.length:Int)∧0≤x.f1∧x.f1≤23
instance (l:List (List zv)):Decidable (zDM l):=by unfold zDM;infer_instance
def QW.f (l:List Int) (i k:Int):Option (List Int):=if 0≤i∧i<l.length∧0≤k∧k<l.length then some (Lib.uni l i k)else none
theorem zHn {G:Int→Int} {l cur:List Int} {n:Nat} (h:cur=(l.take n).map G++l.drop n) (hn:n<l.length):rd cur (n:Int)=l[n]:=by
  subst h;have h1:((l.take n).map G).length=n:=by simp;omega
  simp only [rd,yny,List.getD_eq_getElem?_getD]
  rw[List.getElem?_append_right (by omega),h1,Nat.sub_self,List.getElem?_drop]
  simp [hn]
theorem zGi {G:Int→Int} {l cur:List Int} {n:Nat} (h:cur=(l.take n).map G++l.drop n) (hn:n<l.length) (e:G l[n]=l[n]):cur=(l.take (n+1)).map G++l.drop (n+1):=by
  subst h;rw[ypy hn,List.take_succ_eq_append_getElem hn,List.map_append,yjy,yky,e,List.append_assoc]
  rfl
theorem zHo {G:Int→Int} {l cur:List Int} {n:Nat} (h:cur=(l.take n).map G++l.drop n) (hn:n<l.length):cur.set n (G l[n])=(l.take (n+1)).map G++l.drop (n+1):=by
  subst h;have h1:((l.take n).map G).length=n:=by simp;omega
  rw[List.set_append_right _ _ (by omega),h1,Nat.sub_self,ypy hn,yby,List.take_succ_eq_append_getElem hn,List.map_append,yjy,yky,List.append_assoc]
  rfl
set_option maxHeartbeats 8000000 in
set_option maxRecDepth 100000 in
theorem QW.calls (aa:Nat→Prop) (v:Value) (l:List Int) (i k:Int) (r:List Int) (w0 w:World) (hB:Below w0.heap.size w0 w) (ab:Kd.R (Kd.int .i64) 2 w w0.heap.size aa v l) (h:QW.f l i k=some r) :
    Calls Try.prog 101 #[v,.int .i64 i,.int .i64 k] w fun e w'=>e = .returned (.tuple #[])∧Kd.R (Kd.int .i64) 2 w' w0.heap.size aa v r∧Below w0.heap.size w0 w' ∧ Kept w w' aa:=by
  unfold QW.f at h
  by_cases hok:0≤i∧i<l.length∧0≤k∧k<l.length
  case neg=>rw[if_neg hok]at h;cases h
  rw[if_pos hok]at h
  have hr:=yey h
  obtain⟨ag,ah,ai,aj⟩:=hok
  obtain⟨g,cap,rfl,ak,_,_⟩:=Kd.Jw ab (by omega)
  have hbig:l.length≤9223372036854775807:=(Kd.zGN (Kd.zq ab).2.2)
  have q0:=(Kd.Zm 0 ab k ai aj).1
  have q1:=(Kd.Zm 0 ab i ag ah).1
  replace q0:w.cell? ⟨g,k.toNat,none⟩=some (.int .i64 (rd l k)):=q0
  replace q1:w.cell? ⟨g,i.toNat,none⟩=some (.int .i64 (rd l i)):=q1
  have hR:zA (l.map (fun x=>if x=rd l k then rd l i else x)=r):=⟨hr⟩
  clear hr h;generalize rd l k=q at q0 hR
  generalize rd l i=p at q1 hR
  have HO:=zA.mk ab
  have HB:=zA.mk hB
  have HP:=zA.mk (ab.1 g rfl)
  clear ab hB;go_enter Try.func101,Try.ntmps101
  go_wp2;refine Zv (n:=10) (S:=fun w'=>w'.cell? ⟨g,k.toNat,none⟩=some (.int .i64 q)∧w'.cell? ⟨g,i.toNat,none⟩=some (.int .i64 p)) (ds := []) #[false,false,false,false,false,false,false,false,false,false] (by kernel_rfl) rfl rfl ⟨q0,q1⟩ (fun hHeld=>?_)
  refine zg (i:=0) (N:=some 10) (v:=?_) (a':=?_) #[true,false,false,false,false,false,false,false,false,false] rfl rfl (by kernel_rfl) (fun _ _ _ h=>h) (Or.inl ⟨by rfl,?_⟩) ?_ ?_
  rotate_left
  · intro w'
    go_simp;with_reducible rfl
  rotate_left
  · simp only [Act.put,yay,yby,ycy,zX,za]
    rfl
  refine zg (i:=1) (N:=some 11) (v:=?_) (a':=?_) #[true,true,false,false,false,false,false,false,false,false] rfl rfl (by kernel_rfl) (fun _ _ _ h=>h) (Or.inl ⟨by rfl,?_⟩) ?_ ?_
  rotate_left
  · intro w'
    go_simp;with_reducible rfl
  rotate_left
  · simp only [Act.put,yay,yby,ycy,zX,za]
    rfl
  refine zg (i:=2) (N:=some 12) (v:=?_) (a':=?_) #[true,true,true,false,false,false,false,false,false,false] rfl rfl (by kernel_rfl) (fun _ _ _ h=>h) (Or.inl ⟨by rfl,?_⟩) ?_ ?_
  rotate_left
  · intro w'
    go_simp;with_reducible rfl
  rotate_left
  · simp only [Act.put,yay,yby,ycy,zX,za]
    rfl
  refine ZA (i:=3) (N:=some 13) (v:=?_) (a':=?_) #[true,true,true,true,false,false,false,false,false,false] rfl rfl (by kernel_rfl) (fun _ _ _ h=>h) (Or.inl ⟨by rfl,?_⟩) hHeld ?_ ?_
  rotate_left
  · rintro w' ⟨s0,s1⟩
    go_simp;with_reducible rfl
  rotate_left
  · simp only [Act.put,yay,yby,ycy,zX,za]
    rfl
  refine zg (i:=4) (N:=some 14) (v:=?_) (a':=?_) #[true,true,true,true,true,false,false,false,false,false] rfl rfl (by kernel_rfl) (fun _ _ _ h=>h) (Or.inl ⟨by rfl,?_⟩) ?_ ?_
  rotate_left
  · intro w'
    go_simp;with_reducible rfl
  rotate_left
  · simp only [Act.put,yay,yby,ycy,zX,za]
    rfl
  refine zg (i:=5) (N:=some 15) (v:=?_) (a':=?_) #[true,true,true,true,true,true,false,false,false,false] rfl rfl (by kernel_rfl) (fun _ _ _ h=>h) (Or.inl ⟨by rfl,?_⟩) ?_ ?_
  rotate_left
  · intro w'
    go_simp;with_reducible rfl
  rotate_left
  · simp only [Act.put,yay,yby,ycy,zX,za]
    rfl
  refine zg (i:=6) (N:=some 16) (v:=?_) (a':=?_) #[true,true,true,true,true,true,true,false,false,false] rfl rfl (by kernel_rfl) (fun _ _ _ h=>h) (Or.inl ⟨by rfl,?_⟩) ?_ ?_
  rotate_left
  · intro w'
    go_simp;with_reducible rfl
  rotate_left
  · simp only [Act.put,yay,yby,ycy,zX,za]
    rfl
  refine ZA (i:=7) (N:=some 17) (v:=?_) (a':=?_) #[true,true,true,true,true,true,true,true,false,false] rfl rfl (by kernel_rfl) (fun _ _ _ h=>h) (Or.inl ⟨by rfl,?_⟩) hHeld ?_ ?_
  rotate_left
  · rintro w' ⟨s0,s1⟩
    go_simp;with_reducible rfl
  rotate_left
  · simp only [Act.put,yay,yby,ycy,zX,za]
    rfl
  refine zg (i:=8) (N:=some 6) (v:=?_) (a':=?_) #[true,true,true,true,true,true,true,true,true,false] rfl rfl (by kernel_rfl) (fun _ _ _ h=>h) (Or.inl ⟨by rfl,?_⟩) ?_ ?_
  rotate_left
  · intro w'
    go_simp;with_reducible rfl
  rotate_left
  · simp only [Act.put,yay,yby,ycy,zX,za]
    rfl
  refine zg (i:=9) (N:=some 7) (v:=?_) (a':=?_) #[true,true,true,true,true,true,true,true,true,true] rfl rfl (by kernel_rfl) (fun _ _ _ h=>h) (Or.inl ⟨by rfl,?_⟩) ?_ ?_
  rotate_left
  · intro w'
    go_simp;with_reducible rfl
  rotate_left
  · simp only [Act.put,yay,yby,ycy,zX,za]
    rfl
  refine Qo (by kernel_rfl) ?_
  have ae:=zA.mk (Kd.zZ HO.out)
  have af:=zA.mk (zD HB.out)
  have HK:=zA.mk (Kept.drew (Kept.refl w aa))
  have HC:zA (l=(l.take 0).map (fun x=>if x=q then p else x)++l.drop 0):=⟨by simp⟩
  clear HO HB hHeld q0 q1;generalize w.drew=wd at *
  go_wp2;go_loopg [20] l.length (fun gg v20 w' => ∃ (n:Nat) (cur:List Int),n≤l.length∧l.length-n≤gg∧v20 = .int .i64 n∧zA (cur=(l.take n).map (fun x=>if x=q then p else x)++l.drop n)∧zA (Kd.R (Kd.int .i64) 2 w' w0.heap.size aa (.slice (some ⟨g,0,none⟩) l.length cap) cur)∧zA (Below w0.heap.size w0 w')∧zA (Kept w w' aa))
  case atStart=>exact⟨0,l,Nat.zero_le _,by omega,rfl,HC,ae,af,HK⟩
  case round=>
    clear HC ae af HK;obtain⟨n,cur,hn,hg,rfl,HC,HO,HB,HK⟩:=hrel
    by_cases hlt:n<l.length
    · have hltz:(n:Int)<(l.length:Int):=by omega
      obtain⟨hc,hf⟩:=Kd.Zm 0 HO.out (n:Int) (by omega) hltz
      replace hc:wr.cell? ⟨g,n,none⟩=some (.int .i64 (rd cur (n:Int))):=hc
      replace hf:wr.frozen? ⟨g,n,none⟩=false:=hf
      rw[zHn HC.out hlt]at hc
      by_cases hy:l[n]=q
      · have ad:=zA.mk (zHo HC.out hlt)
        rw[hy]at hc ad
        have al:zA (cur.set n p=(l.take (n+1)).map (fun x=>if x=q then p else x)++l.drop (n+1)):=⟨by have h:=ad.out;rwa [if_pos rfl]at h⟩
        have e1:(q==q)=true:=by simp
        clear hy ad HC;go_wp2_with (first
          | ((with_reducible refine Zi (t:=2) (p:=31) rfl ?_);refine ZU (t:=2) (p:=31) (v:=?vo31) (w1:=(wr.setCell ⟨g,n,none⟩ (.int .i64 p))) ?hg ?ho ?hn ?hr ?_;(case ho=>rfl);(case hg=>rfl);(case hn=>rfl);(case hr=>first|(go_simp;done)|(go_simp;rfl));intro w4 hw;have ae:=zA.mk (show Kd.R (Kd.int .i64) 2 w4 w0.heap.size aa (.slice (some ⟨g,0,none⟩) l.length cap) (cur.set n p)by rw[hw];exact(Kd.zAF HO.out (n:Int) p).1);have af:=zA.mk (show Below w0.heap.size w0 w4 by rw[hw];exact zF HB.out ak);have an:=zA.mk (show Kept w w4 aa by rw[hw];exact HK.out.setCell (p:=⟨g,n,none⟩) (.inl HP.out) _);clear hw hc hf HO HB HK))
        go_roundg (l.length-(n+1))
        case measure=>omega
        case rel=>exact⟨n+1,cur.set n p,by omega,by omega,by go_num,al,ae,af,an⟩
      · have ad:=zA.mk (zGi HC.out hlt (if_neg hy))
        have e1:(l[n]==q)=false:=by simpa using hy
        generalize l[n]=y at hc e1
        clear hy HC;go_wp2;go_roundg (l.length-(n+1))
        case measure=>omega
        case rel=>exact⟨n+1,cur,by omega,by omega,by go_num,ad,HO,HB,HK⟩
    · obtain rfl:n=l.length:=by omega
      have hcr:cur=r:=by rw[HC.out,← hR.out];simp
      have HCR:=zA.mk hcr
      clear hcr HC;go_wp2;first|go_end0|((try simp only [Exit.inBlock,Exit.then]);refine bodyPost_ret (results_none rfl _ _ _) rfl ?_)
      refine⟨?_,by rw[← HCR.out];exact HO.out,HB.out,HK.out⟩
      first|rfl|(simp <;> rfl)
theorem Ja (p:Int) (h0:0≤p) (h1:p≤23):sm (zp p 0)∧sm (zp p 1)∧sm (zp p 2)∧sm (zp p 3):=by
  obtain⟨n,rfl⟩:=Int.eq_ofNat_of_zero_le h0
  have hn:n<24:=by omega
  have key : ∀ m:Fin 24,(0≤zp (m.val:Int) 0∧zp (m.val:Int) 0≤3)∧(0≤zp (m.val:Int) 1∧zp (m.val:Int) 1≤3)∧(0≤zp (m.val:Int) 2∧zp (m.val:Int) 2≤3)∧(0≤zp (m.val:Int) 3∧zp (m.val:Int) 3≤3):=by decide
  exact key ⟨n,hn⟩
def Jb (l:List Int):Nat→List Int
  | 0 => [0,0,0,0]
  | i+1=>(Jb l i).set (rd l i).toNat i
theorem zCn (l:List Int) : ∀ i,i≤4 → ∀ x∈Jb l i,sm x
  | 0,_,x,hx=>by
    have:x=0:=by simp [Jb]at hx;exact hx
    subst this;exact⟨by omega,by omega⟩
  | i+1,hi,x,hx=>by
    rw[Jb]at hx
    rcases List.mem_or_eq_of_mem_set hx with h|rfl
    · exact zCn l i (by omega) x h
    · exact⟨by omega,by omega⟩
def zEm (p:Int):Int:=idxL (Jb (qP p) 4)
theorem JW {a b c d:Int} (ha:sm a) (hb:sm b) (hc:sm c) (hd:sm d) (f:Int) (h0:0≤f) (h1:f≤3):sm (rd [a,b,c,d] f):=by
  rcases(show f=0∨f=1∨f=2∨f=3 by omega)with rfl|rfl|rfl|rfl <;> assumption
def Qb (j b:Int) (p:List Int):List Int→List Int→List Int
  | [],s=>s
  | c :: cs,s=>Qb j b p cs (Lib.uni s (4*j+c) (4*b+rd p c))
theorem JH (j b:Int) (p:List Int) : ∀ (L s:List Int),(Qb j b p L s).length=s.length
  | [],_=>rfl
  | c :: cs,s=>by rw[Qb,JH j b p cs,Lib.Zj]
def zAL (s:List Int) (j f:Nat) (x:zv):List Int:=Qb j x.f0 (qP x.f1) (Qt [(f:Int)]) s
structure zDN (w0:World) (gs n:Nat) (s:List Int) (W:World):Prop where
  below:Below w0.heap.size w0 W
  ex : ∃ v,W.heap[gs]?=some (.cells #[v] 22 (0,0))∧Kd.R (Kd.int .i64) 2 W w0.heap.size (fun _=>True) v s
  own:w0.heap.size≤gs
  len:s.length=n
theorem zDN.stays {w0 W W1:World} {gs n:Nat} {s:List Int} (h:zDN w0 gs n s W) (hb:Below W.heap.size W W1):zDN w0 gs n s W1:=by
  obtain⟨v,h1,h2⟩:=h.ex
  exact⟨zM h.below hb,⟨v,zO h1 hb,Kd.qN h2 hb⟩,h.own,h.len⟩
structure VcL (w0:World) (gs gF gI gO cO:Nat) (f0 f1 x0 x1 x2 x3:Int) (L s:List Int) (v:Value) (W:World):Prop where
  below:Below w0.heap.size w0 W
  bS:W.heap[gs]?=some (.cells #[v] 22 (0,0))
  bF:W.heap[gF]?=some (.cells #[.int .i64 f0,.int .i64 f1] 75 (0,0))
  bI:W.heap[gI]?=some (.cells #[.int .i64 x0,.int .i64 x1,.int .i64 x2,.int .i64 x3] 101 (0,0))
  rL:Kd.R (Kd.int .i64) 2 W w0.heap.size (fun k=>k=gO) (.slice (some ⟨gO,0,none⟩) L.length cO) L
  rE:Kd.R (Kd.int .i64) 2 W w0.heap.size (fun k=>k≠gO) v s
  own:w0.heap.size≤gs
section
variable {w0 W W1 : World} {gs gF gI gO cO : Nat} {f0 f1 x0 x1 x2 x3 : Int} {L s s1 : List Int} {v : Value}
theorem VcL.stays (h:VcL w0 gs gF gI gO cO f0 f1 x0 x1 x2 x3 L s v W) (hb:Below W.heap.size W W1):VcL w0 gs gF gI gO cO f0 f1 x0 x1 x2 x3 L s v W1:=
  ⟨zM h.below hb,zO h.bS hb,zO h.bF hb,zO h.bI hb,Kd.qN h.rL hb,Kd.qN h.rE hb,h.own⟩
theorem VcL.uni (h:VcL w0 gs gF gI gO cO f0 f1 x0 x1 x2 x3 L s v W) (hR:Kd.R (Kd.int .i64) 2 W1 w0.heap.size (fun k_=>some k_=v.ownBlock) v s1) (hB:Below w0.heap.size w0 W1) (hK:Kept W W1 (fun k_=>some k_=v.ownBlock)):VcL w0 gs gF gI gO cO f0 f1 x0 x1 x2 x3 L s1 v W1:=by
  have hne : ∀ (g:Nat) (T:TypeId) (c:Array Value),T≠2→W.heap[g]?=some (.cells c T (0,0)) → ¬ some g=v.ownBlock:=fun g T c hT hc e=>by
    obtain⟨cells,aa⟩:=Kd.zAt h.rE g e.symm
    exact Qz hc aa hT rfl
  exact⟨hB,ZX h.bS hK (hne _ _ _ (by decide) h.bS),ZX h.bF hK (hne _ _ _ (by decide) h.bF),ZX h.bI hK (hne _ _ _ (by decide) h.bI),Kd.zAI h.rL hK (fun k hk e=>h.rE.1 k e.symm hk),Kd.qC hR (fun k hk=>h.rE.1 k hk.symm),h.own⟩
end
set_option maxHeartbeats 8000000 in
set_option maxRecDepth 100000 in
theorem zAj.calls (w0 w:World) (gs n:Nat) (s:List Int) (j f:Nat) (f0 f1:Int) (hI:zDN w0 gs n s w) (hj:4*(j:Int)+4≤(n:Int)) (hf:(f:Int)≤3) (az:0≤f0) (aA:4*f0+4≤(n:Int)) (an:0≤f1) (ao:f1≤23) (hn:n≤64) :
    Calls Try.prog 120 #[.int .i64 (j:Int),.int .i64 (f:Int),.agg #[.int .i64 f0,.int .i64 f1],.agg #[.int .i64 (zp f1 0),.int .i64 (zp f1 1),.int .i64 (zp f1 2),.int .i64 (zp f1 3)],.pointer (some ⟨gs,0,none⟩)] w fun e w'=>e = .returned (.tuple #[])∧zDN w0 gs n (zAL s j f ⟨f0,f1⟩) w':=by
  obtain⟨y0,y1,y2,y3⟩:=Ja f1 an ao
  have hstep:zAL s j f ⟨f0,f1⟩=Qb j f0 (qP f1) (Qt [(f:Int)]) s:=rfl
  have hpl:qP f1 = [zp f1 0,zp f1 1,zp f1 2,zp f1 3]:=rfl
  rw[hpl]at hstep
  have HPL:=zA.mk hpl
  generalize zp f1 0=x0 at *
  generalize zp f1 1=x1 at *
  generalize zp f1 2=x2 at *
  generalize zp f1 3=x3 at *
  clear HPL hpl;have HP:zA (∀ c,sm c→sm (rd [x0,x1,x2,x3] c)):=⟨fun c hc=>JW y0 y1 y2 y3 c hc.1 hc.2⟩
  have HF:=zA.mk (show sm (f:Int)from⟨by omega,hf⟩)
  have HS:=zA.mk hstep
  generalize zAL s j f ⟨f0,f1⟩=R at HS ⊢
  have HI:=zA.mk hI
  clear hI hstep y0 y1 y2 y3;have ht:=Try.underlying101
  have HCF:zA (∀ (W:World) (g:Nat),W.heap.size=g→Kd.C (Kd.int .i64) (W.alloc (.cells #[.int .i64 (f:Int)] 2)) (some ⟨g,0,none⟩) 1 [(f:Int)]):=⟨fun W g hg=>by subst hg;exact(Kd.zq (show Kd.R (Kd.int .i64) 2 (W.alloc (.cells #[.int .i64 (f:Int)] 2)) W.heap.size (fun _=>True) (.slice (some ⟨W.heap.size,0,none⟩) 1 1) [(f:Int)]from
      Kd.JG ⟨by simp [zAo],.inr ⟨W.heap.size,1,#[.int .i64 (f:Int)],rfl,yry _,ZL rfl _,yry 1,by decide,rfl,rfl⟩⟩ (fun _ _=>trivial))).2.2⟩
  have af:=zA.mk (zE6 HF.out)
  have HLM:=zA.mk (show ∀ c∈Qt [(f:Int)],sm c∧c≠(f:Int)from fun c hc=>QX hc)
  generalize hLe:Qt [(f:Int)]=L at HS af HLM
  have HLE:=zA.mk (show Zk.f [(f:Int)]=some L by rw[← hLe];rfl)
  clear hLe;have BF:=zA.mk (zG (ZL (W:=w) rfl (.cells #[.int .i64 f0,.int .i64 f1] 75)) (.cells #[.int .i64 x0,.int .i64 x1,.int .i64 x2,.int .i64 x3] 101))
  have BI:=zA.mk (ZL (W:=w.alloc (.cells #[.int .i64 f0,.int .i64 f1] 75)) (n:=w.heap.size+1) (by simp) (.cells #[.int .i64 x0,.int .i64 x1,.int .i64 x2,.int .i64 x3] 101))
  have HB:=zA.mk (zC (zC (ysy w.heap.size w) (.cells #[.int .i64 f0,.int .i64 f1] 75)) (.cells #[.int .i64 x0,.int .i64 x1,.int .i64 x2,.int .i64 x3] 101))
  have HWZ:zA (((w.alloc (.cells #[.int .i64 f0,.int .i64 f1] 75)).alloc (.cells #[.int .i64 x0,.int .i64 x1,.int .i64 x2,.int .i64 x3] 101)).heap.size=w.heap.size+1+1):=⟨by simp⟩
  go_enter Try.func120,Try.ntmps120
  go_wp2_with fail
  generalize hwB:World.alloc (World.alloc w _) _=wB at *
  refine(Zk.calls _ 1 [(f:Int)] L _ (HCF.out _ _ HWZ.out) (yry 1) HLE.out).mono ?_
  rintro e w2 ⟨v0,rfl,ho,hb⟩
  obtain⟨gO,cO,rfl,ah,ai,_⟩:=Kd.Jw ho (by rw[af.out];decide)
  have HO:=zA.mk ho
  have HBO:=zA.mk hb
  have HG:=zA.mk (And.intro ah ai)
  clear ho hb ah ai HCF;go_wp2;obtain⟨v,hM,hE⟩:=HI.out.ex
  have aq:=HI.out.below.size
  have ar:=HB.out.size
  have au:(wB.alloc (.cells #[.int .i64 (f:Int)] 2)).heap.size=wB.heap.size+1:=by simp
  have hgO:=HG.out.1
  have ae:=zA.mk (zM (zC HB.out (.cells #[.int .i64 (f:Int)] 2)) HBO.out)
  generalize hgI:w.heap.size+1=gI at *
  have HM:=zA.mk (show VcL w0 gs w.heap.size gI gO cO f0 f1 x0 x1 x2 x3 L s v w2 from
    ⟨zM HI.out.below ae.out,zO hM ae.out,zO (zG BF.out _) HBO.out,zO (zG BI.out _) HBO.out,
      Kd.qC (Kd.Qu rfl (Kd.qx HO.out (by omega))) (fun k_ hk_=>by simpa [Value.ownBlock]using hk_),
      Kd.qN (Kd.qC (Kd.Zy hE) (fun k hk=>by have:=hk.2.2.1;omega)) ae.out,HI.out.own⟩)
  have HLN:=zA.mk HI.out.len
  have aa:zA (Qb j f0 [x0,x1,x2,x3] (L.drop 0) s=R):=⟨by rw[List.drop_zero];exact HS.out.symm⟩
  have HLX:=zA.mk (Kd.zGN (Kd.zq HO.out).2.2)
  clear hM hE aq ar au hgO ae HO HBO HG HB BF BI HI HLE HS hwB;generalize hgF:w.heap.size=gF at *
  have hlb:L.length≤3:=by have:=af.out;omega
  go_loopg [15] L.length (fun gg av w' => ∃ (i:Nat) (s1:List Int),i≤L.length∧L.length-i≤gg∧av = .int .i64 i∧zA (Qb j f0 [x0,x1,x2,x3] (L.drop i) s1=R)∧zA (VcL w0 gs gF gI gO cO f0 f1 x0 x1 x2 x3 L s1 v w')∧zA (s1.length=n))
  case atStart=>exact⟨0,s,Nat.zero_le _,by omega,rfl,aa,HM,HLN⟩
  case round=>
    clear HM aa HLN;obtain⟨i,s1,aB,hgg,rfl,aa,HM,HLN⟩:=hrel
    by_cases hlt:i<L.length
    · have hltz:(i:Int)<(L.length:Int):=by omega
      obtain⟨hc,_⟩:=Kd.Zm 0 HM.out.rL (i:Int) (by omega) hltz
      replace hc:wr.cell? ⟨gO,i,none⟩=some (.int .i64 (rd L (i:Int))):=hc
      have ex:rd L (i:Int)=L[i]:=by simp [rd,hlt]
      rw[ex]at hc
      have HC:=zA.mk (HLM.out L[i] (yoy hlt))
      have ab:=aa.out
      rw[ypy hlt,Qb]at ab
      have ag:=zA.mk ab
      clear aa ab ex;generalize L[i]=c at hc HC ag
      obtain⟨aw,ax⟩:=HC.out.1
      have aC:c<4:=by omega
      have k4:=HP.out c HC.out.1
      generalize hde:rd [x0,x1,x2,x3] c=d at k4 ag
      have HD:=zA.mk hde
      obtain⟨aD,aE⟩:=k4
      go_wp2;have HUN:zA (QW.f s1 (wrap64 (wrap64 (4*(j:Int))+c)) (wrap64 (wrap64 (4*f0)+d))=some (Lib.uni s1 (4*(j:Int)+c) (4*f0+d))):=⟨by
        have hl:=HLN.out
        rw[wid_ (show -9223372036854775808≤4*(j:Int)by omega) (by omega),wid_ (show -9223372036854775808≤4*f0 by omega) (by omega),wid_ (show -9223372036854775808≤4*(j:Int)+c by omega) (by omega),wid_ (show -9223372036854775808≤4*f0+d by omega) (by omega)]
        unfold QW.f
        rw[if_pos (by omega)]⟩
      refine Zv (n:=13) (S:=fun w'=>w'.cell? ⟨gs,0,none⟩=some v∧w'.cell? ⟨gF,0,none⟩=some (.int .i64 f0)∧w'.cell? ⟨gI,c.toNat,none⟩=some (.int .i64 d)) (ds := [12]) #[false,false,false,false,false,false,false,false,false,false,false,false,false] (by kernel_rfl) rfl rfl ⟨(zK HM.out.bS 0).trans rfl,(zK HM.out.bF 0).trans rfl,zBv HM.out.bI aw ax hde⟩ (fun hHeld=>?_)
      have ad:=zA.mk (HM.out.stays (zD (ysy _ _)))
      clear HM hde hc;generalize wr.drew=w7 at ad hHeld ⊢
      refine ZA (i:=0) (N:=some 19) (v:=?_) (a':=?_) #[true,false,false,false,false,false,false,false,false,false,false,false,false] rfl rfl (by kernel_rfl) (fun _ _ _ h=>h) (Or.inl ⟨by rfl,?_⟩) hHeld ?_ ?_
      rotate_left
      · rintro w' ⟨s0,s1,s2⟩
        go_simp;with_reducible rfl
      rotate_left
      · simp only [Act.put,yay,yby,ycy,zX,za]
        rfl
      refine zg (i:=1) (N:=some 20) (v:=?_) (a':=?_) #[true,true,false,false,false,false,false,false,false,false,false,false,false] rfl rfl (by kernel_rfl) (fun _ _ _ h=>h) (Or.inl ⟨by rfl,?_⟩) ?_ ?_
      rotate_left
      · intro w'
        go_simp;with_reducible rfl
      rotate_left
      · simp only [Act.put,yay,yby,ycy,zX,za]
        rfl
      refine zg (i:=2) (N:=some 21) (v:=?_) (a':=?_) #[true,true,true,false,false,false,false,false,false,false,false,false,false] rfl rfl (by kernel_rfl) (fun _ _ _ h=>h) (Or.inl ⟨by rfl,?_⟩) ?_ ?_
      rotate_left
      · intro w'
        go_simp;with_reducible rfl
      rotate_left
      · simp only [Act.put,yay,yby,ycy,zX,za]
        rfl
      refine zg (i:=3) (N:=some 22) (v:=?_) (a':=?_) #[true,true,true,true,false,false,false,false,false,false,false,false,false] rfl rfl (by kernel_rfl) (fun _ _ _ h=>h) (Or.inl ⟨by rfl,?_⟩) ?_ ?_
      rotate_left
      · intro w'
        go_simp;with_reducible rfl
      rotate_left
      · simp only [Act.put,yay,yby,ycy,zX,za]
        rfl
      refine zg (i:=4) (N:=some 23) (v:=?_) (a':=?_) #[true,true,true,true,true,false,false,false,false,false,false,false,false] rfl rfl (by kernel_rfl) (fun _ _ _ h=>h) (Or.inl ⟨by rfl,?_⟩) ?_ ?_
      rotate_left
      · intro w'
        go_simp;with_reducible rfl
      rotate_left
      · simp only [Act.put,yay,yby,ycy,zX,za]
        rfl
      refine zg (i:=5) (N:=some 24) (v:=?_) (a':=?_) #[true,true,true,true,true,true,false,false,false,false,false,false,false] rfl rfl (by kernel_rfl) (fun _ _ _ h=>h) (Or.inl ⟨by rfl,?_⟩) ?_ ?_
      rotate_left
      · intro w'
        go_simp;with_reducible rfl
      rotate_left
      · simp only [Act.put,yay,yby,ycy,zX,za]
        rfl
      refine ZA (i:=6) (N:=some 25) (v:=?_) (a':=?_) #[true,true,true,true,true,true,true,false,false,false,false,false,false] rfl rfl (by kernel_rfl) (fun _ _ _ h=>h) (Or.inl ⟨by rfl,?_⟩) hHeld ?_ ?_
      rotate_left
      · rintro w' ⟨s0,s1,s2⟩
        go_simp;with_reducible rfl
      rotate_left
      · simp only [Act.put,yay,yby,ycy,zX,za]
        rfl
      refine zg (i:=7) (N:=some 26) (v:=?_) (a':=?_) #[true,true,true,true,true,true,true,true,false,false,false,false,false] rfl rfl (by kernel_rfl) (fun _ _ _ h=>h) (Or.inl ⟨by rfl,?_⟩) ?_ ?_
      rotate_left
      · intro w'
        go_simp;with_reducible rfl
      rotate_left
      · simp only [Act.put,yay,yby,ycy,zX,za]
        rfl
      refine zg (i:=8) (N:=some 27) (v:=?_) (a':=?_) #[true,true,true,true,true,true,true,true,true,false,false,false,false] rfl rfl (by kernel_rfl) (fun _ _ _ h=>h) (Or.inl ⟨by rfl,?_⟩) ?_ ?_
      rotate_left
      · intro w'
        go_simp;with_reducible rfl
      rotate_left
      · simp only [Act.put,yay,yby,ycy,zX,za]
        rfl
      refine zg (i:=9) (N:=some 28) (v:=?_) (a':=?_) #[true,true,true,true,true,true,true,true,true,true,false,false,false] rfl rfl (by kernel_rfl) (fun _ _ _ h=>h) (Or.inl ⟨by rfl,?_⟩) ?_ ?_
      rotate_left
      · intro w'
        go_simp;with_reducible rfl
      rotate_left
      · simp only [Act.put,yay,yby,ycy,zX,za]
        rfl
      refine ZA (i:=10) (N:=some 29) (v:=?_) (a':=?_) #[true,true,true,true,true,true,true,true,true,true,true,false,false] rfl rfl (by kernel_rfl) (fun _ _ _ h=>h) (Or.inl ⟨by rfl,?_⟩) hHeld ?_ ?_
      rotate_left
      · rintro w' ⟨s0,s1,s2⟩
        go_simp;with_reducible rfl
      rotate_left
      · simp only [Act.put,yay,yby,ycy,zX,za]
        rfl
      refine zg (i:=11) (N:=some 30) (v:=?_) (a':=?_) #[true,true,true,true,true,true,true,true,true,true,true,true,false] rfl rfl (by kernel_rfl) (fun _ _ _ h=>h) (Or.inl ⟨by rfl,?_⟩) ?_ ?_
      rotate_left
      · intro w'
        go_simp;with_reducible rfl
      rotate_left
      · simp only [Act.put,yay,yby,ycy,zX,za]
        rfl
      refine zFs (i:=12) (N:=some 31) #[true,true,true,true,true,true,true,true,true,true,true,true,true] rfl rfl (by kernel_rfl) (by decide) (fun K hK=>?_)
      refine QO Try.func101 (by kernel_rfl) rfl #[v,.int .i64 (wrap64 (wrap64 (4*(j:Int))+c)),.int .i64 (wrap64 (wrap64 (4*f0)+d))] (by rfl) rfl rfl (by(try simp only [yiy,yjy,yky]);first|done|rfl) ?_
      refine(QW.calls (fun k_=>some k_=v.ownBlock) v s1 _ _ _ w0 _ ad.out.below (Kd.Qu rfl ad.out.rE) HUN.out).mono ?_
      rintro e w9 ⟨rfl,aj,ak,al⟩
      refine⟨_,rfl,?_⟩
      have ay:=zA.mk (ad.out.uni aj ak al)
      clear aj ak al ad HUN;refine hK.out _ _ ?_
      clear hK K;refine QE (a':=?_) ?_ ?_
      rotate_left
      · show Act.put _ (some 31) _=_
        simp only [Act.put,yay,yby,ycy,zX,za]
        rfl
      refine Qo (by kernel_rfl) ?_
      go_wp2;go_roundg (L.length-(i+1))
      case measure=>omega
      case rel=>exact⟨i+1,_,by omega,by omega,by go_num,⟨ag.out⟩,ay,⟨by rw[Lib.Zj];exact HLN.out⟩⟩
    · obtain rfl:i=L.length:=by omega
      have ab:=aa.out
      rw[List.drop_length,Qb]at ab
      subst ab;go_wp2;first|go_end0|((try simp only [Exit.inBlock,Exit.then]);refine bodyPost_ret (results_none rfl _ _ _) rfl ?_)
      refine⟨?_,⟨HM.out.below,⟨v,HM.out.bS,Kd.qC HM.out.rE (fun _ _=>trivial)⟩,HM.out.own,HLN.out⟩⟩
      first|rfl|(simp <;> rfl)
def zA8 (l:List (List zv)):List Int:=zBg zAL l 0 (Lib.ZP 0 (4*l.length))
def zk.f (l:List (List zv)):Option (List Int):=if zDM l∧zEj (zA8 l)=true then some (Lib.zDG (zA8 l))else none
theorem zIh {l:List (List zv)} (hok:zDM l) {w:World} {gs:Nat} (s:List Int) (W:World) (j f:Nat) (x:zv) (hI:zDN w gs (4*l.length) s W) (hF:Zq l j f x) (hb : ¬ x.f0<0) :
    Calls Try.prog 120 (#[.int .i64 (j:Int),.int .i64 (f:Int),.agg #[.int .i64 x.f0,.int .i64 x.f1],.agg #[.int .i64 (zp x.f1 0),.int .i64 (zp x.f1 1),.int .i64 (zp x.f1 2),.int .i64 (zp x.f1 3)]] ++ #[.pointer (some ⟨gs,0,none⟩)]) W fun e W'=>e = .returned (.tuple #[])∧zDN w gs (4*l.length) (zAL s j f x) W':=by
  obtain⟨h1,h2,h3⟩:=hF
  obtain⟨q0,q1,q2⟩:=hok
  have q3:=q1 _ (yoy h1)
  have q4:=q2 _ (yoy h1) x (by rw[← h3];exact yoy h2) hb
  have e:(#[.int .i64 (j:Int),.int .i64 (f:Int),.agg #[.int .i64 x.f0,.int .i64 x.f1],.agg #[.int .i64 (zp x.f1 0),.int .i64 (zp x.f1 1),.int .i64 (zp x.f1 2),.int .i64 (zp x.f1 3)]] ++ #[.pointer (some ⟨gs,0,none⟩)]:Array Value) = #[.int .i64 (j:Int),.int .i64 (f:Int),.agg #[.int .i64 x.f0,.int .i64 x.f1],.agg #[.int .i64 (zp x.f1 0),.int .i64 (zp x.f1 1),.int .i64 (zp x.f1 2),.int .i64 (zp x.f1 3)],.pointer (some ⟨gs,0,none⟩)]:=rfl
  rw[e]
  exact zAj.calls w W gs (4*l.length) s j f x.f0 x.f1 hI (by omega) (by omega) (by omega) (by omega) q4.2.1 q4.2.2 (by omega)
set_option maxHeartbeats 8000000 in
set_option maxRecDepth 100000 in
theorem zk.calls (ab:Option Addr) (ad:Nat) (aa:List (List zv)) (r:List Int) (w:World) (ae:Kd.C (Kd.slice 75 ZZ) w ab aa.length aa) (af:aa.length≤ad) (h:zk.f aa=some r) :
    Calls Try.prog 88 #[.agg #[.slice ab aa.length ad]] w fun e w' => ∃ ai:Value,e = .returned (ai)∧Kd.R (Kd.int .i64) 2 w' w.heap.size (fun _=>True) ai r∧Below w.heap.size w w':=by
  unfold zk.f at h
  by_cases hok:zDM aa∧zEj (zA8 aa)=true
  case neg=>rw[if_neg hok]at h;cases h
  rw[if_pos hok]at h
  have hr:=yey h
  subst hr;have HOK:=zA.mk hok
  have HR:=zA.mk ae
  have HC:=zA.mk af
  have ax:aa.length≤8:=hok.1.1
  have HCN:=zA.mk (show qg.f (4*aa.length+1) (4*(aa.length:Int))=some (Lib.ZP 0 (4*aa.length))from zCJ (4*aa.length) (by omega))
  have HNB:=zA.mk (show Qx.f (zA8 aa)=some (Lib.zDG (zA8 aa))from if_pos hok.2)
  clear h hok ae af;go_enter Try.func88,Try.ntmps88
  have BT:=zA.mk (ZL (W:=w) rfl (.cells #[.slice ab aa.length ad] 35))
  have HB:=zA.mk (zC (ysy w.heap.size w) (.cells #[.slice ab aa.length ad] 35))
  go_wp2_with (first
    | (go_at_call 75;refine(qX.calls ab ad aa (aa.length:Int) _ (Kd.qD HR.out HB.out) HC.out rfl).mono ?_;rintro e w2 ⟨rfl,hd⟩;have hb:=qG.below hd;clear hd;have ah:=zA.mk (zO BT.out hb);have aj:=zA.mk (zM HB.out hb);clear BT HB hb;have ao:w2.cell? ⟨w.heap.size,0,none⟩=some (.slice ab aa.length ad):=(zK ah.out 0).trans rfl)
    | (go_at_call 98;refine(qg.calls (4*aa.length+1) (4*(aa.length:Int)) _ _ HCN.out).mono ?_;rintro e w3 ⟨v3,rfl,ho,hb⟩;obtain⟨A3,c3,rfl⟩:=Kd.ZE ho;generalize (Lib.ZP 0 (4*aa.length)).length=m3 at ho;have ag:=zA.mk hb;have ak:=zA.mk (Kd.qC (Kd.Zy ho) (ok':=fun k=>k<w3.heap.size) (fun _ hk=>hk.2.2.1));have al:=zA.mk (zO ah.out hb);clear ah ho hb ao;have aq:w3.cell? ⟨w.heap.size,0,none⟩=some (.slice ab aa.length ad):=(zK al.out 0).trans rfl;have ar:w.heap.size<w3.heap.size:=qT al.out;have hzn:w.heap.size≠w3.heap.size:=by omega)
    | (go_at_call 99;refine(zCl.calls 120 _ Try.func120 (by kernel_rfl) rfl #[.pointer (some ⟨w3.heap.size,0,none⟩)] aa ab ad w2 _ (zDN w2 w3.heap.size (4*aa.length)) zAL (Lib.ZP 0 (4*aa.length)) (fun _=>0) (4*(aa.map List.length).sum) (fun _ _ _ _=>Nat.zero_le _) (Nat.le_of_eq (Nat.zero_add _)) (fun _ _ _ h hb=>h.stays hb) (fun _ _ h=>h.below) (Kd.qD HR.out aj.out) (fun r hr x hx hb=>(HOK.out.1.2.2 r hr x hx hb).2) ?aS ?a0).mono ?_;(case aS=>exact fun s W j f x hI hF hb _=>zIh HOK.out.1 s W j f x hI hF hb);(case a0=>exact⟨zC ag.out _,⟨_,ZL rfl _,Kd.qC (Kd.zS ak.out _) (fun _ _=>trivial)⟩,ag.out.size,Lib.qU _ _⟩);rintro e w4 ⟨rfl,hI⟩;have HI:=zA.mk (show zDN w2 w3.heap.size (4*aa.length) (zA8 aa) w4 from hI);clear hI aq ar hzn ak;obtain⟨v4,hM,hE⟩:=HI.out.ex;obtain⟨A4,c4,rfl⟩:=Kd.ZE hE;have au:w4.cell? ⟨w3.heap.size,0,none⟩=some (.slice A4 (zA8 aa).length c4):=(zK hM 0).trans rfl;have HRD:=zA.mk (Kd.zq hE);have an:=zA.mk (zM aj.out HI.out.below);clear hM hE)
    | (go_at_call 109;refine(Qx.calls A4 c4 (zA8 aa) _ _ HRD.out.2.2 HRD.out.2.1 HNB.out).mono ?_;rintro e w5 ⟨v5,rfl,ho,hb⟩;have av:=zA.mk (Kd.qx ho an.out.size);have aw:=zA.mk (zM an.out hb);clear ho hb au))
  go_ret;exact⟨_,rfl,av.out,aw.out⟩
def ze.l0:Nat→Int→List (List Int)→List Int→Int→Int→Option ((List (List Int)))
  | 0,_,_,_,_,_=>none
  | k+1,x1,x5,x9,x10,x11=>if x11<x10 then(if 0≤x11 then(if x11<(x9.length:Int)then(if(rd x9 x11)=x1 then(if x5.length<5864062014805 then(ze.l0 k x1 (x5 ++ [(([wrap64 (Int.tdiv x11 4),Int.tmod x11 4]:List Int))]) x9 x10 (wrap64 (x11+1)))else(none))else(ze.l0 k x1 x5 x9 x10 (wrap64 (x11+1))))else(none))else(none))else(some x5)
def ze.f (k:Nat) (l0_0:List (List (zv))) (a1:Int):Option ((List (List Int))):=(zk.f l0_0).bind fun t102=>(ze.l0 k a1 ([]:List (List Int)) t102 (t102.length:Int) 0)
set_option maxHeartbeats 8000000 in
set_option maxRecDepth 100000 in
theorem ze.calls (k:Nat) (ai:Option Addr) (aj:Nat) (ae:List (List (zv))) (a1:Int) (r:List (List Int)) (w:World) (aC:Kd.C (Kd.slice 75 ZZ) w ai ae.length ae) (aD:ae.length≤aj) (h:ze.f k ae a1=some r) :
    Calls Try.prog 51 #[.agg #[.slice ai ae.length aj],.int .i64 a1] w fun e w' => ∃ bb:Value,e = .returned (bb)∧Kd.S (Kd.slice 2 (Kd.int .i64)) 22 w' w.heap.size (fun _=>True) bb r∧Below w.heap.size w w':=by
  have bk:=Try.underlying35
  have aQ:=zA.mk aC
  have aR:=zA.mk aD
  clear aC aD;have HB:=zA.mk (ysy w.heap.size w)
  have H:((zk.f ae).bind fun t102=>(ze.l0 k a1 ([]:List (List Int)) t102 (t102.length:Int) 0))=some r:=h
  clear h;replace H:=ydy.mp H
  obtain⟨t102,bc,H⟩:=H
  replace H:(ze.l0 k a1 ([]:List (List Int)) t102 (t102.length:Int) 0)=some r:=H
  have A3:=zA.mk bc
  clear bc;have H':=zA.mk H
  clear H;go_enter Try.func51,Try.ntmps51
  go_wp2_with (first|((with_reducible refine zw (N:=2) rfl ?_);refine zz ?hg (N:=2) ?hd (cs:=#[.slice ai ae.length aj]) (t:=35) ?hr ?_;(case hd=>rfl);(case hg=>rfl);(case hr=>first|(go_simp;done)|(go_simp;rfl));intro ag hg w4 hbox hb;have aw:=zA.mk (zM (by repeat(first|(with_reducible first|exact HB.out|apply zC|apply zB|apply zD)|exact HB.out)) hb);have ax:=zA.mk (hbox);have ay:=zA.mk ((by rw[hg];exact(zQ (by repeat(first|(with_reducible first|exact HB.out|apply zC|apply zB|apply zD)|exact HB.out))):w.heap.size≤ag));have aE:=zA.mk ((by rw[hg];exact(zQ (by repeat(first|(with_reducible first|exact HB.out|apply zC|apply zB|apply zD)|exact HB.out))):w.heap.size≤ag));clear HB;have HB:=aw;have ab:=ax;have bd:=ay;have ad:=aE;clear aw ax ay aE;clear hb hbox hg;have aI:w4.cell? ⟨ag,0,none⟩=some (.slice ai ae.length aj):=(zK ab.out 0).trans rfl;have aJ:=zP ab.out 0)|((with_reducible refine zd (f:=88) rfl ?_);refine qV (some 9) rfl rfl Try.func88 (by kernel_rfl) rfl #[.agg #[.slice ai ae.length aj]] rfl (by(try simp only [yiy,yjy,yky]);first|done|rfl|(simp only [yly,ymy];rfl)) ?_;(with_reducible refine(zk.calls _ _ ae t102 _ ?side1 ?side2 A3.out).mono ?_);(case side1=>repeat(first|exact(Kd.qD aQ.out HB.out)|(with_reducible refine Kd.zy ?_ _)|(with_reducible refine Kd.qA ?_ _)|(with_reducible refine Kd.qR ?_)));(case side2=>exact aR.out);rintro e w6 ⟨bl,rfl,bf,hb⟩;refine⟨_,rfl,?_⟩;have aw:=zA.mk (Kd.qx bf (zQ (by repeat(first|(with_reducible first|exact HB.out|apply zC|apply zB|apply zD|refine zF ?_ ad.out)|exact HB.out))));have ax:=zA.mk (zO (g:=ag) (o := .cells #[.slice ai ae.length aj] 35 (0,0)) (by(with_reducible repeat(first|refine zH ?_ _|refine zJ ?_|refine zG ?_ _));exact ab.out) hb);have ay:=zA.mk (zM (by repeat(first|(with_reducible first|exact HB.out|apply zC|apply zB|apply zD|refine zF ?_ ad.out)|exact HB.out)) hb);clear ab;clear HB;have aG:=aw;have ab:=ax;have HB:=ay;clear aw ax ay;(try clear hb);(try clear hb2);(try clear hk);(try clear hi);(try clear bf);obtain⟨bg,aT,bm⟩:=Kd.ZE aG.out;subst bm))
  go_loopg [5,11] k (fun kq v5 v11 w' => ∃ (ak:List (List Int)) (aa:Int),v11 = .int .i64 aa∧zA (ze.l0 kq a1 ak t102 (t102.length:Int) aa=some r)∧zA (kq≤k)∧zA (Kd.S (Kd.slice 2 (Kd.int .i64)) 22 w' w.heap.size (fun k_=>some k_≠((.slice bg t102.length aT):Value).ownBlock) v5 ak)∧zA (Kd.R (Kd.int .i64) 2 w' w.heap.size (fun _=>True) (.slice bg t102.length aT) t102)∧zA (w'.heap[ag]?=some (.cells #[(.slice ai ae.length aj)] 35 (0,0)))∧zA (Below w.heap.size w w'))
  case atStart=>exact⟨(([]:List (List Int))),(0),(by first|rfl|(simp;done)|(simp [*];done)),H',⟨yry _⟩,⟨by first|exact Kd.zHe _ _ _ _ _|exact Kd.zHi _ _ _ _ _|exact Kd.zHl _ _ _ _ _|exact Kd.zHW _ _ _ _ _|exact Kd.zD6 _ _ _ _ _⟩,⟨by(with_reducible repeat(first|apply Kd.zS|apply Kd.zT|apply Kd.zZ));exact aG.out⟩,⟨by(with_reducible repeat(first|refine zH ?_ _|refine zJ ?_|refine zG ?_ _));exact ab.out⟩,⟨by repeat(first|(with_reducible first|exact HB.out|apply zC|apply zB|apply zD|refine zF ?_ ad.out)|exact HB.out)⟩⟩
  case round=>
    clear H';(try clear p2);(try clear c5);(try clear aI);(try clear aJ);obtain⟨ak,aa,rfl,HA,a6,ah,af,ab,HB⟩:=hrel
    cases gk with
    | zero=>exact absurd HA.out (by simp [ze.l0])
    | succ k1=>
      have H:=HA.out
      clear HA;simp only [ze.l0]at H
      by_cases c8:aa<(t102.length:Int)
      · rw[if_pos c8]at H
        have a_:decide (aa<(t102.length:Int))=true:=ygy c8
        clear c8;by_cases c9:0≤aa
        · rw[if_pos c9]at H
          have bn:decide (0≤aa)=true:=ygy c9
          clear c9;by_cases a7:aa<(t102.length:Int)
          · rw[if_pos a7]at H
            have bh:decide (aa<(t102.length:Int))=true:=ygy a7
            clear a7;by_cases aK:(rd t102 aa)=a1
            · rw[if_pos aK]at H
              have aU:((rd t102 aa)==a1)=true:=beq_iff_eq.mpr aK
              have aV:((rd t102 aa) != a1)=false:=bne_eq_false_iff_eq.mpr aK
              clear aK;obtain⟨az,al⟩ : ∃ y_:List Int,y_=(([wrap64 (Int.tdiv aa 4),Int.tmod aa 4]:List Int)):=⟨_,rfl⟩
              replace H:(if ak.length<5864062014805 then(ze.l0 k1 a1 (ak ++ [az]) t102 (t102.length:Int) (wrap64 (aa+1)))else(none))=some r:=by first|(rw[al];with_reducible exact H)|(have aM:=(yfy _ _).symm.trans H;rw[al];with_reducible exact aM)|(have aM:=(yfy _ _).symm.trans H;with_reducible exact aM)|with_reducible exact H|(rw[al];exact H)|exact H
              have aH:=zA.mk al
              clear al;by_cases a8:ak.length<5864062014805
              · rw[if_pos a8]at H
                have aW:=zA.mk a8
                clear a8;obtain⟨aX,an⟩ : ∃ y_:List (List Int),y_=(ak ++ [az]):=⟨_,rfl⟩
                replace H:(ze.l0 k1 a1 aX t102 (t102.length:Int) (wrap64 (aa+1)))=some r:=by first|(rw[an];with_reducible exact H)|(have aM:=(yfy _ _).symm.trans H;rw[an];with_reducible exact aM)|(have aM:=(yfy _ _).symm.trans H;with_reducible exact aM)|with_reducible exact H|(rw[an];exact H)|exact H
                have aY:=zA.mk an
                clear an;have H':=zA.mk H
                clear H;have ao:0≤(aa:Int):=of_decide_eq_true (by first|(with_reducible assumption)|assumption)
                have aq:aa<(t102.length:Int):=of_decide_eq_true (by first|(with_reducible assumption)|assumption)
                obtain⟨au,aN,aA⟩:=Kd.qw (Kd.zq af.out).2.2 aa ao aq
                cases aN
                replace ao:=eq_true ao
                replace aq:=eq_true aq
                go_wp2_with (first|((with_reducible refine zw (N:=24) rfl ?_);refine Kd.zBO (Kd.int .i64) _ 2 ?hg (N:=24) ?hd (xs:=([wrap64 (Int.tdiv aa 4),Int.tmod aa 4]:List Int)) (inner := [.int .i64 (wrap64 (Int.tdiv aa 4)),.int .i64 (Int.tmod aa 4)]) (ok:=fun _=>True) (okp:=fun _=>True) ?hr ?hp (fun _ hk=>hk) trivial (ysy _ _) (yry _) (by simp) ?_;(case hd=>rfl);(case hg=>rfl);(case hr=>first|(go_simp;done)|(go_simp;rfl));(case hp=>exact(QN.one (show Kd.M (Kd.int .i64) _ _ _ (wrap64 (Int.tdiv aa 4)) [.int .i64 (wrap64 (Int.tdiv aa 4))]from rfl) (QN.one (show Kd.M (Kd.int .i64) _ _ _ (Int.tmod aa 4) [.int .i64 (Int.tmod aa 4)]from rfl) (QN.none _ _))));intro bo bq ar hb hg_ hnew_;clear hg_ hnew_;(first|rw[← aH.out]at ar|(simp only [Int.reduceToNat]at ar;rw[← aH.out]at ar));have aw:=zA.mk (Kd.Zt (by(with_reducible repeat(first|apply Kd.zh|apply Kd.zi|apply Kd.zx));exact ah.out) (Kd.Zw ar) hb);have ax:=zA.mk (Kd.Zs (by(with_reducible repeat(first|apply Kd.zS|apply Kd.zT|apply Kd.zZ));exact af.out) (Kd.Zw ar) hb);have ay:=zA.mk (Kd.qx (Kd.JP ar (Kd.JO (by(with_reducible repeat(first|apply Kd.zS|apply Kd.zT|apply Kd.zZ));exact af.out))) (zQ (by repeat(first|(with_reducible first|exact HB.out|apply zC|apply zB|apply zD|refine zF ?_ ad.out)|exact HB.out))));have aE:=zA.mk (zO (g:=ag) (o := .cells #[.slice ai ae.length aj] 35 (0,0)) (by(with_reducible repeat(first|refine zH ?_ _|refine zJ ?_|refine zG ?_ _));exact ab.out) hb);have bj:=zA.mk (zM (by repeat(first|(with_reducible first|exact HB.out|apply zC|apply zB|apply zD|refine zF ?_ ad.out)|exact HB.out)) hb);clear ah;clear af;clear ab;clear HB;have ah:=aw;have af:=ax;have av:=ay;have ab:=aE;have HB:=bj;clear aw ax ay aE bj;clear hb ar;obtain⟨aZ,a2,ba⟩:=Kd.ZE av.out;subst ba)|((with_reducible refine ZN (b := .append) (xs:=#[.tmp 19,.tmp 25]) rfl ?_);at_builtin;refine Kd.zDB (Kd.slice 2 (Kd.int .i64)) (w0:=w) w.heap.size rfl (.tmp 19) (.tmp 25) 30 22 (.slice none 0 0) 24 rfl Try.underlying30 zFC rfl (by decide) (by omega) u5 ak az [.slice aZ az.length a2] (fun k_=>some k_≠(.slice (some au) t102.length aT:Value).ownBlock) (fun k_=>some k_=(.slice aZ az.length a2:Value).ownBlock) rfl rfl ?aP (fun k_ hk_=>((Kd.qC (ok':=fun k_=>((fun k_=>some k_≠(.slice (some au) t102.length aT:Value).ownBlock)) k_∧some k_≠(u5:Value).ownBlock) (Kd.QY (av.out) (Kd.Qj ah.out) (by decide)) (fun k_ hk=>⟨hk.1.2,hk.2⟩))).1 k_ hk_.symm) ?aF ?aO ?aB ?aS ?aL ?_;(case aP=>exact Kd.zHT (Kd.qC (Kd.Qu rfl (Kd.qC (ok':=fun k_=>((fun k_=>some k_≠(.slice (some au) t102.length aT:Value).ownBlock)) k_∧some k_≠(u5:Value).ownBlock) (Kd.QY (av.out) (Kd.Qj ah.out) (by decide)) (fun k_ hk=>⟨hk.1.2,hk.2⟩))) (fun _ h_=>h_)));(case aB=>exact(by repeat(first|(with_reducible first|exact HB.out|apply zC|apply zB|apply zD|refine zF ?_ ad.out)|exact HB.out)));(case aF=>exact(fun k_ hk=>Kd.JQ (Kd.JO (by(with_reducible repeat(first|apply Kd.zS|apply Kd.zT|apply Kd.zZ));exact af.out)) k_ hk));(case aO=>exact(by(with_reducible repeat(first|apply Kd.zh|apply Kd.zi|apply Kd.zx));exact Kd.ZC ah.out (fun k_ hk=>⟨hk.1,fun e_=>hk.2 e_⟩)));(case aS=>exact(zQ (by repeat(first|(with_reducible first|exact HB.out|apply zC|apply zB|apply zD|refine zF ?_ ad.out)|exact HB.out))));(case aL=>have:=aW.out;omega);intro bp br ho hb hg hat;rw[← aY.out]at ho;have aw:=zA.mk (Kd.zGQ (by(with_reducible repeat(first|apply Kd.zS|apply Kd.zT|apply Kd.zZ));exact af.out) (Kd.Qj (by(with_reducible repeat(first|apply Kd.zh|apply Kd.zi|apply Kd.zx));exact ah.out)) (by decide) hg);have ax:=zA.mk (qj (g:=ag) (o := .cells #[.slice ai ae.length aj] 35 (0,0)) (by(with_reducible repeat(first|refine zH ?_ _|refine zJ ?_|refine zG ?_ _));exact ab.out) hg (Kd.S_ne ah.out ab.out (by decide)));have ay:=zA.mk (hb);have aE:=zA.mk (ho);clear af;clear ab;clear HB;clear ah;clear av;have af:=aw;have ab:=ax;have HB:=ay;have a5:=aE;clear aw ax ay aE;clear ho hb hg hat))
                go_roundg k1
                case measure=>have:=a6.out;omega
                case rel=>exact⟨(aX),(wrap64 (aa+1)),(by first|rfl|(simp;done)|(simp [*];done)),H',⟨by have:=a6.out;omega⟩,⟨by(with_reducible repeat(first|apply Kd.zh|apply Kd.zi|apply Kd.zx));exact a5.out⟩,⟨by(with_reducible repeat(first|apply Kd.zS|apply Kd.zT|apply Kd.zZ));exact Kd.qC af.out (fun _ hk=>trivial)⟩,⟨by(with_reducible repeat(first|refine zH ?_ _|refine zJ ?_|refine zG ?_ _));exact ab.out⟩,⟨by repeat(first|(with_reducible first|exact HB.out|apply zC|apply zB|apply zD|refine zF ?_ ad.out)|exact HB.out)⟩⟩
              · rw[if_neg a8]at H
                exact absurd H (by simp)
            · rw[if_neg aK]at H
              have aU:((rd t102 aa)==a1)=false:=beq_eq_false_iff_ne.mpr aK
              have aV:((rd t102 aa) != a1)=true:=bne_iff_ne.mpr aK
              have H':=zA.mk H
              clear H;have ao:0≤(aa:Int):=of_decide_eq_true (by first|(with_reducible assumption)|assumption)
              have aq:aa<(t102.length:Int):=of_decide_eq_true (by first|(with_reducible assumption)|assumption)
              obtain⟨au,aN,aA⟩:=Kd.qw (Kd.zq af.out).2.2 aa ao aq
              cases aN
              replace ao:=eq_true ao
              replace aq:=eq_true aq
              go_wp2;go_roundg k1
              case measure=>have:=a6.out;omega
              case rel=>exact⟨(ak),(wrap64 (aa+1)),(by first|rfl|(simp;done)|(simp [*];done)),H',⟨by have:=a6.out;omega⟩,⟨by(with_reducible repeat(first|apply Kd.zh|apply Kd.zi|apply Kd.zx));exact ah.out⟩,⟨by(with_reducible repeat(first|apply Kd.zS|apply Kd.zT|apply Kd.zZ));exact af.out⟩,⟨by(with_reducible repeat(first|refine zH ?_ _|refine zJ ?_|refine zG ?_ _));exact ab.out⟩,⟨by repeat(first|(with_reducible first|exact HB.out|apply zC|apply zB|apply zD|refine zF ?_ ad.out)|exact HB.out)⟩⟩
          · rw[if_neg a7]at H
            exact absurd H (by simp)
        · rw[if_neg c9]at H
          exact absurd H (by simp)
      · rw[if_neg c8]at H
        have a_:decide (aa<(t102.length:Int))=false:=yhy c8
        clear c8;obtain rfl:=yey H
        go_wp2;go_ret;exact⟨_,by first|rfl|(simp [zU,zV] <;> rfl)|(simp [*,zU,zV] <;> rfl),by(with_reducible repeat(first|apply Kd.zh|apply Kd.zi|apply Kd.zx));exact Kd.ZC ah.out (fun _ hk=>trivial),by repeat(first|(with_reducible first|exact HB.out|apply zC|apply zB|apply zD|refine zF ?_ ad.out)|exact HB.out)⟩
def JN.f (l0:List (List Int)):Option (Int):=some (l0.length:Int)
set_option maxHeartbeats 8000000 in
set_option maxRecDepth 100000 in
theorem JN.calls (A0:Option Addr) (c0:Nat) (l0:List (List Int)) (r:Int) (w:World) (aa:Kd.C (Kd.slice 2 (Kd.int .i64)) w A0 l0.length l0) (ab:l0.length≤c0) (h:JN.f l0=some r) :
    Calls Try.prog 102 #[.slice A0 l0.length c0] w fun e w'=>e = .returned (.int .i64 r)∧qG w w':=by
  have ad:=zA.mk aa
  have ae:=zA.mk ab
  clear aa ab;have H:(some (l0.length:Int))=some r:=h
  clear h;obtain rfl:=yey H
  go_enter Try.func102,Try.ntmps102
  go_wp2;go_ret;exact⟨by first|rfl|(simp;done)|(simp [*];done),by repeat(first|exact qG.refl _|apply qG.step)⟩
def leP (b to_:Int) (p:List Int):List Int→List Int→List Int
 | [],x=>x
 | w :: ws,x=>leP b to_ p ws (Lib.uni x (b+w) (to_+rd p w))
theorem Qf (b to_:Int) (p:List Int) : ∀ (L x:List Int),(leP b to_ p L x).length=x.length
 | [],_=>rfl
 | c :: cs,x=>by rw[leP,Qf b to_ p cs,Lib.Zj]
def QB (j f b:Int) (p:List Int):List Int→List Int × List Int→List Int × List Int
 | [],s=>s
 | v :: vs,s=>QB j f b p vs (leP (16*j+4*v) (16*b+4*rd p v) p (Qt [f,v]) s.1,Lib.uni s.2 (16*j+4*v+f) (16*b+4*rd p v+rd p f))
theorem JI (j f b:Int) (p:List Int) : ∀ (L:List Int) (s:List Int × List Int),(QB j f b p L s).1.length=s.1.length∧(QB j f b p L s).2.length=s.2.length
 | [],_=>⟨rfl,rfl⟩
 | c :: cs,s=>by rw[QB,(JI j f b p cs _).1,(JI j f b p cs _).2,Qf,Lib.Zj];exact⟨rfl,rfl⟩
def Jz (s:List Int × List Int) (j f:Nat) (x:zv):List Int × List Int:=QB j f x.f0 (qP x.f1) (Qt [(f:Int)]) s
theorem Qy {f v c:Int} (h:c∈Qt [f,v]):sm c∧c≠f∧c≠v:=by
 have h1:=(List.mem_filter.1 h).1
 have h2:=(List.mem_filter.1 h).2
 simp only [List.mem_cons,List.not_mem_nil,or_false]at h1
 refine⟨by constructor <;> omega,fun e=>?_,fun e=>?_⟩
 next=>
  subst e;simp at h2
 subst e;simp at h2
structure zAQ (w0:World) (gt:Nat) (cT:Array Value) (gp gs m2 n:Nat) (vP vS:Value) (s:List Int × List Int) (W:World):Prop where
 below:Below w0.heap.size w0 W
 bP:W.heap[gp]?=some (.cells #[vP] 22 (0,0))
 bS:W.heap[gs]?=some (.cells #[vS] 22 (0,0))
 bT:W.heap[gt]?=some (.cells cT 35 (0,0))
 rP:Kd.R (Kd.int .i64) 2 W w0.heap.size (fun k=>some k=vP.ownBlock) vP s.1
 rS:Kd.R (Kd.int .i64) 2 W w0.heap.size (fun k=>some k=vS.ownBlock) vS s.2
 own:m2≤W.heap.size
 ltP : ∀ k,some k=vP.ownBlock→k<m2
 ltS : ∀ k,some k=vS.ownBlock→k<m2
 nPS : ∀ k,some k=vP.ownBlock→some k≠vS.ownBlock
 lenP:s.1.length=n
 lenS:s.2.length=n
section
variable {w0 W W1 : World} {gt : Nat} {cT : Array Value} {gp gs m2 n : Nat} {vP vS : Value} {s : List Int × List Int}
theorem zAQ.stays (h:zAQ w0 gt cT gp gs m2 n vP vS s W) (hb:Below W.heap.size W W1):zAQ w0 gt cT gp gs m2 n vP vS s W1:=
 ⟨zM h.below hb,zO h.bP hb,zO h.bS hb,zO h.bT hb,Kd.qN h.rP hb,Kd.qN h.rS hb,Nat.le_trans h.own hb.size,h.ltP,h.ltS,h.nPS,h.lenP,h.lenS⟩
theorem zCc {v:Value} {l:List Int} {ok:Nat→Prop} {b g:Nat} {cs:Array Value} {T:TypeId} (h:Kd.R (Kd.int .i64) 2 W b ok v l) (hc:W.heap[g]?=some (.cells cs T (0,0))) (hT:T≠2:=by decide) : ¬ some g=v.ownBlock:=fun e=>by
 obtain⟨cells,aa⟩:=Kd.zAt h g e.symm
 exact Qz hc aa hT rfl
theorem zAQ.uniP (h:zAQ w0 gt cT gp gs m2 n vP vS s W) {p:List Int} (h1:Kd.R (Kd.int .i64) 2 W1 w0.heap.size (fun k=>some k=vP.ownBlock) vP p) (h2:Below w0.heap.size w0 W1) (h3:Kept W W1 (fun k=>some k=vP.ownBlock)) (hl:p.length=n):zAQ w0 gt cT gp gs m2 n vP vS (p,s.2) W1:=
 ⟨h2,ZX h.bP h3 (zCc h.rP h.bP),ZX h.bS h3 (zCc h.rP h.bS),ZX h.bT h3 (zCc h.rP h.bT),h1,Kd.zAI h.rS h3 (fun k hk e=>h.nPS k e hk),Nat.le_trans h.own h3.1,h.ltP,h.ltS,h.nPS,hl,h.lenS⟩
theorem zAQ.uniS (h:zAQ w0 gt cT gp gs m2 n vP vS s W) {q:List Int} (h1:Kd.R (Kd.int .i64) 2 W1 w0.heap.size (fun k=>some k=vS.ownBlock) vS q) (h2:Below w0.heap.size w0 W1) (h3:Kept W W1 (fun k=>some k=vS.ownBlock)) (hl:q.length=n):zAQ w0 gt cT gp gs m2 n vP vS (s.1,q) W1:=
 ⟨h2,ZX h.bP h3 (zCc h.rS h.bP),ZX h.bS h3 (zCc h.rS h.bS),ZX h.bT h3 (zCc h.rS h.bT),Kd.zAI h.rP h3 (fun k hk e=>h.nPS k hk e),h1,Nat.le_trans h.own h3.1,h.ltP,h.ltS,h.nPS,h.lenP,hl⟩
end
structure LeK (w0 W:World) (m2 gF gI gO cO:Nat) (f0 f1 x0 x1 x2 x3:Int) (L:List Int):Prop where
 bF:W.heap[gF]?=some (.cells #[.int .i64 f0,.int .i64 f1] 75 (0,0))
 bI:W.heap[gI]?=some (.cells #[.int .i64 x0,.int .i64 x1,.int .i64 x2,.int .i64 x3] 101 (0,0))
 rL:Kd.R (Kd.int .i64) 2 W w0.heap.size (fun k=>m2≤k) (.slice (some ⟨gO,0,none⟩) L.length cO) L
 own:m2≤gF∧m2≤gI
section
variable {w0 W W1 : World} {m2 gF gI gO cO : Nat} {f0 f1 x0 x1 x2 x3 : Int} {L : List Int}
theorem LeK.stays (h:LeK w0 W m2 gF gI gO cO f0 f1 x0 x1 x2 x3 L) (hb:Below W.heap.size W W1):LeK w0 W1 m2 gF gI gO cO f0 f1 x0 x1 x2 x3 L:=⟨zO h.bF hb,zO h.bI hb,Kd.qN h.rL hb,h.own⟩
theorem LeK.kept (h:LeK w0 W m2 gF gI gO cO f0 f1 x0 x1 x2 x3 L) {S:Nat→Prop} (hk:Kept W W1 S) (hS : ∀ k,S k→k<m2):LeK w0 W1 m2 gF gI gO cO f0 f1 x0 x1 x2 x3 L:=
 ⟨ZX h.bF hk (fun e=>by have:=hS _ e;have:=h.own;omega),ZX h.bI hk (fun e=>by have:=hS _ e;have:=h.own;omega),Kd.zAI h.rL hk (fun k h1 e=>by have:=hS _ e;omega),h.own⟩
end
theorem le_bd {n:Nat} {a v f x pv pf:Int} (a0:0≤a) (a1:16*a+16≤(n:Int)) (v0:0≤v) (v1:v≤3) (f0:0≤f) (f1:f≤3) (x0:0≤x) (x1:16*x+16≤(n:Int)) (p0:0≤pv) (p1:pv≤3) (q0:0≤pf) (q1:pf≤3):0≤16*a+4*v+f∧16*a+4*v+f<(n:Int)∧0≤16*x+4*pv+pf∧16*x+4*pv+pf<(n:Int):=by
 refine⟨by omega,by omega,by omega,by omega⟩
theorem zFO {x pv pf:Int} (x0:0≤x) (x1:x≤1000) (p0:0≤pv) (p1:pv≤3) (q0:0≤pf) (q1:pf≤3):wrap64 (16*x+4*pv+pf)=16*x+4*pv+pf:=Lib.ql (by omega) (by omega)
set_option maxHeartbeats 8000000 in
set_option maxRecDepth 100000 in
theorem zBq.calls (w0 w:World) (gt:Nat) (cT:Array Value) (gp gs m2 n:Nat) (vP vS:Value) (s:List Int × List Int) (j f:Nat) (f0 f1:Int) (hI:zAQ w0 gt cT gp gs m2 n vP vS s w) (hj:16*(j:Int)+16≤(n:Int)) (hf:(f:Int)≤3) (av:0≤f0) (aD:16*f0+16≤(n:Int)) (aK:0≤f1) (aL:f1≤23) (hn:n≤128) :
 Calls Try.prog 100 #[.int .i64 (j:Int),.int .i64 (f:Int),.agg #[.int .i64 f0,.int .i64 f1],.agg #[.int .i64 (zp f1 0),.int .i64 (zp f1 1),.int .i64 (zp f1 2),.int .i64 (zp f1 3)],.pointer (some ⟨gs,0,none⟩),.pointer (some ⟨gp,0,none⟩)] w fun e w'=>e = .returned (.tuple #[])∧zAQ w0 gt cT gp gs m2 n vP vS (Jz s j f ⟨f0,f1⟩) w':=by
 obtain⟨y0,y1,y2,y3⟩:=Ja f1 aK aL
 have hstep:Jz s j f ⟨f0,f1⟩=QB j f f0 (qP f1) (Qt [(f:Int)]) s:=rfl
 have hpl:qP f1 = [zp f1 0,zp f1 1,zp f1 2,zp f1 3]:=rfl
 rw[hpl]at hstep
 have HPL:=zA.mk hpl
 generalize zp f1 0=x0 at *
 generalize zp f1 1=x1 at *
 generalize zp f1 2=x2 at *
 generalize zp f1 3=x3 at *
 clear HPL hpl;have HP:zA (∀ c,sm c→sm (rd [x0,x1,x2,x3] c)):=⟨fun c hc=>JW y0 y1 y2 y3 c hc.1 hc.2⟩
 have HF:=zA.mk (show sm (f:Int)from⟨by omega,hf⟩)
 have HS:=zA.mk hstep
 generalize Jz s j f ⟨f0,f1⟩=R at HS ⊢
 have HI:=zA.mk hI
 clear hI hstep y0 y1 y2 y3;have ht:=Try.underlying101
 have HCF:zA (∀ (W:World) (g:Nat),W.heap.size=g→Kd.C (Kd.int .i64) (W.alloc (.cells #[.int .i64 (f:Int)] 2)) (some ⟨g,0,none⟩) 1 [(f:Int)]):=⟨fun W g hg=>by subst hg;exact(Kd.zq (show Kd.R (Kd.int .i64) 2 (W.alloc (.cells #[.int .i64 (f:Int)] 2)) W.heap.size (fun _=>True) (.slice (some ⟨W.heap.size,0,none⟩) 1 1) [(f:Int)]from
  Kd.JG ⟨by simp [zAo],.inr ⟨W.heap.size,1,#[.int .i64 (f:Int)],rfl,yry _,ZL rfl _,yry 1,by decide,rfl,rfl⟩⟩ (fun _ _=>trivial))).2.2⟩
 have az:=zA.mk (zE6 HF.out)
 have HLM:=zA.mk (show ∀ c∈Qt [(f:Int)],sm c∧c≠(f:Int)from fun c hc=>QX hc)
 generalize hLe:Qt [(f:Int)]=L at HS az HLM
 have HLE:=zA.mk (show Zk.f [(f:Int)]=some L by rw[← hLe];rfl)
 clear hLe;have BF:=zA.mk (zG (ZL (W:=w) rfl (.cells #[.int .i64 f0,.int .i64 f1] 75)) (.cells #[.int .i64 x0,.int .i64 x1,.int .i64 x2,.int .i64 x3] 101))
 have BI:=zA.mk (ZL (W:=w.alloc (.cells #[.int .i64 f0,.int .i64 f1] 75)) (n:=w.heap.size+1) (by simp) (.cells #[.int .i64 x0,.int .i64 x1,.int .i64 x2,.int .i64 x3] 101))
 have HB:=zA.mk (zC (zC (ysy w.heap.size w) (.cells #[.int .i64 f0,.int .i64 f1] 75)) (.cells #[.int .i64 x0,.int .i64 x1,.int .i64 x2,.int .i64 x3] 101))
 have HWZ:zA (((w.alloc (.cells #[.int .i64 f0,.int .i64 f1] 75)).alloc (.cells #[.int .i64 x0,.int .i64 x1,.int .i64 x2,.int .i64 x3] 101)).heap.size=w.heap.size+1+1):=⟨by simp⟩
 go_enter Try.func100,Try.ntmps100
 go_wp2_with fail
 generalize hwB:World.alloc (World.alloc w _) _=wB at *
 refine(Zk.calls _ 1 [(f:Int)] L _ (HCF.out _ _ HWZ.out) (yry 1) HLE.out).mono ?_
 rintro e w2 ⟨v0,rfl,ho,hb⟩
 obtain⟨gO,cO,rfl,an,aM,_⟩:=Kd.Jw ho (by rw[az.out];decide)
 have ak:=zA.mk (zM (zC HB.out (.cells #[.int .i64 (f:Int)] 2)) hb)
 generalize hgI:w.heap.size+1=gI at *
 have HIS:=HI.out.own
 have HM:=zA.mk (HI.out.stays ak.out)
 have HK:=zA.mk (show LeK w0 w2 m2 w.heap.size gI gO cO f0 f1 x0 x1 x2 x3 L from
  ⟨zO (zG BF.out _) hb,zO (zG BI.out _) hb,Kd.qx (Kd.qC (Kd.Zy ho) (ok':=fun k=>m2≤k) (fun k hk=>by
   have h1:=hk.2.1
   have h2:=HB.out.size
   rw[World.size_alloc]at h1
   omega)) (by have h2:=HB.out.size;have:=HI.out.below.size;rw[World.size_alloc];omega),by omega⟩)
 have ag:zA (QB j f f0 [x0,x1,x2,x3] (L.drop 0) s=R):=⟨by rw[List.drop_zero];exact HS.out.symm⟩
 have HLX:=zA.mk (Kd.zGN (Kd.zq ho).2.2)
 clear ho hb an aM ak HIS HB BF BI HI HLE HS hwB HCF HWZ;generalize w.heap.size=gF at *
 go_wp2;have hlb:L.length≤3:=by have:=az.out;omega
 go_loopg [20] L.length (fun gg v20 w' => ∃ (i:Nat) (s1:List Int × List Int),i≤L.length∧L.length-i≤gg∧v20 = .int .i64 i∧zA (QB j f f0 [x0,x1,x2,x3] (L.drop i) s1=R)∧zA (zAQ w0 gt cT gp gs m2 n vP vS s1 w')∧zA (LeK w0 w' m2 gF gI gO cO f0 f1 x0 x1 x2 x3 L))
 case atStart=>exact⟨0,s,Nat.zero_le _,by omega,rfl,ag,HM,HK⟩
 case round=>
  clear HM ag HK;obtain⟨i,s1,aW,hgg,rfl,ag,HM,HK⟩:=hrel
  by_cases hlt:i<L.length
  case neg=>
   obtain rfl:i=L.length:=by omega
   have hx:s1=R:=by have:=ag.out;rwa [List.drop_length,QB]at this
   subst hx;clear ag;go_wp2;first|go_end0|((try simp only [Exit.inBlock,Exit.then]);refine bodyPost_ret (results_none rfl _ _ _) rfl ?_)
   refine⟨?_,HM.out⟩
   first|rfl|(simp <;> rfl)
  have hltz:(i:Int)<(L.length:Int):=by omega
  obtain⟨hc,_⟩:=Kd.Zm 0 HK.out.rL (i:Int) (by omega) hltz
  replace hc:wr.cell? ⟨gO,i,none⟩=some (.int .i64 (rd L (i:Int))):=hc
  have ex:rd L (i:Int)=L[i]:=by simp [rd,hlt]
  rw[ex]at hc
  have HC:=zA.mk (HLM.out L[i] (yoy hlt))
  have ah:=ag.out
  rw[ypy hlt,QB]at ah
  have al:=zA.mk ah
  clear ag ah ex;generalize L[i]=c at hc HC al
  obtain⟨ao,aq⟩:=HC.out.1
  have aX:c<4:=by omega
  have k4:=HP.out c HC.out.1
  have k5:=HP.out (f:Int) HF.out
  generalize hde:rd [x0,x1,x2,x3] c=d at k4 al
  generalize hee:rd [x0,x1,x2,x3] (f:Int)=e at k5 al
  obtain⟨aw,ax⟩:=k4
  obtain⟨aE,aF⟩:=k5
  have HEE:=zA.mk hee
  have aN:wr.cell? ⟨gF,0,none⟩=some (.int .i64 f0):=(zK HK.out.bF 0).trans rfl
  have hIc:=zBv HK.out.bI ao aq hde
  have ay:(0:Int)≤(j:Int):=Int.natCast_nonneg j
  have hjb:(j:Int)≤1000:=by omega
  have hfb:f0≤1000:=by omega
  clear hee hde;go_wp2;go_quiet (fail)
  have aa:=zA.mk (HM.out.stays (zB (ysy _ _) nq))
  have ab:=zA.mk (HK.out.stays (zB (ysy _ _) nq))
  clear HM HK aN hIc hc;have aY:(f:Int)<4:=by omega
  have aO:(0:Int)≤(f:Int):=by omega
  generalize wr.drewN nq=w3 at aa ab ⊢
  have HUN:zA (QW.f s1.2 (wrap64 (16*(j:Int)+4*c+(f:Int))) (wrap64 (16*f0+4*d+e))=some (Lib.uni s1.2 (16*(j:Int)+4*c+(f:Int)) (16*f0+4*d+e))):=⟨by
   rw[zFO ay hjb ao aq HF.out.1 HF.out.2,zFO av hfb aw ax aE aF]
   exact if_pos (by rw[aa.out.lenS];exact le_bd ay hj ao aq HF.out.1 HF.out.2 av aD aw ax aE aF)⟩
  try go_wp2
  refine Zv (n:=10) (S:=fun w'=>w'.cell? ⟨gs,0,none⟩=some vS∧w'.cell? ⟨gI,f,none⟩=some (.int .i64 e)) (ds := [9]) #[false,false,false,false,false,false,false,false,false,false] (by kernel_rfl) rfl rfl ⟨(zK aa.out.bS 0).trans rfl,(by have q:=zBv ab.out.bI HF.out.1 HF.out.2 HEE.out;rwa [yny]at q)⟩ (fun hHeld=>?_)
  have HM:=zA.mk (aa.out.stays (zD (ysy _ _)))
  have HK:=zA.mk (ab.out.stays (zD (ysy _ _)))
  clear aa ab;generalize w3.drew=w4 at HM HK hHeld ⊢
  refine ZA (i:=0) (N:=some 37) (v:=?_) (a':=?_) #[true,false,false,false,false,false,false,false,false,false] rfl rfl (by kernel_rfl) (fun _ _ _ h=>h) (Or.inl ⟨by rfl,?_⟩) hHeld ?_ ?_
  rotate_left
  next=>
   rintro w' ⟨s0,s1⟩
   go_simp;with_reducible rfl
  rotate_left
  next=>
   simp only [Act.put,yay,yby,ycy,zX,za]
   rfl
  refine zg (i:=1) (N:=some 38) (v:=?_) (a':=?_) #[true,true,false,false,false,false,false,false,false,false] rfl rfl (by kernel_rfl) (fun _ _ _ h=>h) (Or.inl ⟨by rfl,?_⟩) ?_ ?_
  rotate_left
  next=>
   intro w';go_simp;with_reducible rfl
  rotate_left
  next=>
   simp only [Act.put,yay,yby,ycy,zX,za]
   rfl
  refine zg (i:=2) (N:=some 39) (v:=?_) (a':=?_) #[true,true,true,false,false,false,false,false,false,false] rfl rfl (by kernel_rfl) (fun _ _ _ h=>h) (Or.inl ⟨by rfl,?_⟩) ?_ ?_
  rotate_left
  next=>
   intro w';go_simp;with_reducible rfl
  rotate_left
  next=>
   simp only [Act.put,yay,yby,ycy,zX,za]
   rfl
  refine zg (i:=3) (N:=some 40) (v:=?_) (a':=?_) #[true,true,true,true,false,false,false,false,false,false] rfl rfl (by kernel_rfl) (fun _ _ _ h=>h) (Or.inl ⟨by rfl,?_⟩) ?_ ?_
  rotate_left
  next=>
   intro w';go_simp;with_reducible rfl
  rotate_left
  next=>
   simp only [Act.put,yay,yby,ycy,zX,za]
   rfl
  refine zg (i:=4) (N:=some 41) (v:=?_) (a':=?_) #[true,true,true,true,true,false,false,false,false,false] rfl rfl (by kernel_rfl) (fun _ _ _ h=>h) (Or.inl ⟨by rfl,?_⟩) ?_ ?_
  rotate_left
  next=>
   intro w';go_simp;with_reducible rfl
  rotate_left
  next=>
   simp only [Act.put,yay,yby,ycy,zX,za]
   rfl
  refine zg (i:=5) (N:=some 42) (v:=?_) (a':=?_) #[true,true,true,true,true,true,false,false,false,false] rfl rfl (by kernel_rfl) (fun _ _ _ h=>h) (Or.inl ⟨by rfl,?_⟩) ?_ ?_
  rotate_left
  next=>
   intro w';go_simp;with_reducible rfl
  rotate_left
  next=>
   simp only [Act.put,yay,yby,ycy,zX,za]
   rfl
  refine zg (i:=6) (N:=some 43) (v:=?_) (a':=?_) #[true,true,true,true,true,true,true,false,false,false] rfl rfl (by kernel_rfl) (fun _ _ _ h=>h) (Or.inl ⟨by rfl,?_⟩) ?_ ?_
  rotate_left
  next=>
   intro w';go_simp;with_reducible rfl
  rotate_left
  next=>
   simp only [Act.put,yay,yby,ycy,zX,za]
   rfl
  refine ZA (i:=7) (N:=some 44) (v:=?_) (a':=?_) #[true,true,true,true,true,true,true,true,false,false] rfl rfl (by kernel_rfl) (fun _ _ _ h=>h) (Or.inl ⟨by rfl,?_⟩) hHeld ?_ ?_
  rotate_left
  next=>
   rintro w' ⟨s0,s1⟩
   go_simp;with_reducible rfl
  rotate_left
  next=>
   simp only [Act.put,yay,yby,ycy,zX,za]
   rfl
  refine zg (i:=8) (N:=some 45) (v:=?_) (a':=?_) #[true,true,true,true,true,true,true,true,true,false] rfl rfl (by kernel_rfl) (fun _ _ _ h=>h) (Or.inl ⟨by rfl,?_⟩) ?_ ?_
  rotate_left
  next=>
   intro w';go_simp;with_reducible rfl
  rotate_left
  next=>
   simp only [Act.put,yay,yby,ycy,zX,za]
   rfl
  refine zFs (i:=9) (N:=some 46) #[true,true,true,true,true,true,true,true,true,true] rfl rfl (by kernel_rfl) (by decide) (fun K hK=>?_)
  refine QO Try.func101 (by kernel_rfl) rfl #[vS,.int .i64 (wrap64 (16*(j:Int)+4*c+(f:Int))),.int .i64 (wrap64 (16*f0+4*d+e))] (by rfl) rfl rfl (by(try simp only [yiy,yjy,yky]);first|done|rfl) ?_
  refine(QW.calls (fun k=>some k=vS.ownBlock) vS s1.2 _ _ _ w0 _ HM.out.below HM.out.rS HUN.out).mono ?_
  rintro ed w5 ⟨rfl,h1,h2,h3⟩
  refine⟨_,rfl,?_⟩
  have aa:=zA.mk (HM.out.uniS h1 h2 h3 (by rw[Lib.Zj];exact HM.out.lenS))
  have ab:=zA.mk (HK.out.kept h3 (fun k hk=>HM.out.ltS k hk))
  clear HM HK h1 h2 h3;have HM:=aa;have HK:=ab;clear aa ab;refine hK.out _ _ ?_
  clear hK K;refine QE (a':=?_) ?_ ?_
  rotate_left
  next=>
   show Act.put _ (some 46) _=_
   simp only [Act.put,yay,yby,ycy,zX,za]
   rfl
  refine Qo (by kernel_rfl) ?_
  clear hHeld HUN;have HCF:zA (∀ (W:World) (g:Nat),W.heap.size=g→Kd.C (Kd.int .i64) (W.alloc (.cells #[.int .i64 (f:Int),.int .i64 c] 2)) (some ⟨g,0,none⟩) 2 [(f:Int),c]):=⟨fun W g hg=>by subst hg;exact(Kd.zq (show Kd.R (Kd.int .i64) 2 (W.alloc (.cells #[.int .i64 (f:Int),.int .i64 c] 2)) W.heap.size (fun _=>True) (.slice (some ⟨W.heap.size,0,none⟩) 2 2) [(f:Int),c]from
   Kd.JG ⟨by simp [zAo],.inr ⟨W.heap.size,2,#[.int .i64 (f:Int),.int .i64 c],rfl,yry _,ZL rfl _,yry 2,by decide,rfl,rfl⟩⟩ (fun _ _=>trivial))).2.2⟩
  have ar:=zA.mk (show ∀ q∈Qt [(f:Int),c],sm q from fun q hq=>(Qy hq).1)
  have aP:(Qt [(f:Int),c]).length≤4:=List.length_filter_le _ _
  generalize hLe:Qt [(f:Int),c]=L2 at al ar aP
  have HLE:=zA.mk (show Zk.f [(f:Int),c]=some L2 by rw[← hLe];rfl)
  clear hLe;go_wp2_with fail
  refine(Zk.calls _ 2 [(f:Int),c] L2 _ (HCF.out _ _ rfl) (yry 2) HLE.out).mono ?_
  rintro ed w6 ⟨v0,rfl,ho,hb⟩
  have ak:=zA.mk (zM (zC (ysy _ _) (.cells #[.int .i64 (f:Int),.int .i64 c] 2)) hb)
  have hsz:w5.heap.size≤(w5.alloc (.cells #[.int .i64 (f:Int),.int .i64 c] 2)).heap.size:=by rw[World.size_alloc];omega
  have aG:=HM.out.own
  have aH:=HM.out.below.size
  have ae:zA (Kd.R (Kd.int .i64) 2 w6 w0.heap.size (fun k=>m2≤k) v0 L2):=⟨Kd.qx (Kd.qC (Kd.Zy ho) (ok':=fun k=>m2≤k) (fun k hk=>Nat.le_trans aG (Nat.le_trans hsz hk.2.1))) (Nat.le_trans aH hsz)⟩
  have aa:=zA.mk (HM.out.stays ak.out)
  have ab:=zA.mk (HK.out.stays ak.out)
  clear HM HK ho hb ak hsz aG aH HCF HLE;obtain⟨A2,aQ,ev⟩:=Kd.ZE ae.out
  subst ev;go_wp2;have af:zA (leP (16*(j:Int)+4*c) (16*f0+4*d) [x0,x1,x2,x3] (L2.drop 0) s1.1=leP (16*(j:Int)+4*c) (16*f0+4*d) [x0,x1,x2,x3] L2 s1.1):=⟨by rw[List.drop_zero]⟩
  generalize aR:Lib.uni s1.2 (16*(j:Int)+4*c+(f:Int)) (16*f0+4*d+e)=S2 at *
  generalize aS:leP (16*(j:Int)+4*c) (16*f0+4*d) [x0,x1,x2,x3] L2 s1.1=R2 at af al
  clear aS aR;go_loopg [52] L2.length (fun gg aT w' => ∃ (i2:Nat) (x:List Int),i2≤L2.length∧L2.length-i2≤gg∧aT = .int .i64 i2∧zA (leP (16*(j:Int)+4*c) (16*f0+4*d) [x0,x1,x2,x3] (L2.drop i2) x=R2)∧zA (zAQ w0 gt cT gp gs m2 n vP vS (x,S2) w')∧zA (LeK w0 w' m2 gF gI gO cO f0 f1 x0 x1 x2 x3 L)∧zA (Kd.R (Kd.int .i64) 2 w' w0.heap.size (fun k=>m2≤k) (.slice A2 L2.length aQ) L2))
  case atStart=>exact⟨0,s1.1,Nat.zero_le _,by omega,rfl,af,aa,ab,ae⟩
  case round=>
   clear aa ab ae af;obtain⟨i2,x,aU,aV,rfl,af,HM,HK,ae⟩:=hrel
   by_cases ai:i2<L2.length
   case neg=>
    obtain rfl:i2=L2.length:=by omega
    have hx:x=R2:=by have:=af.out;rwa [List.drop_length,leP]at this
    subst hx;clear af;go_wp2;go_roundg (L.length-(i+1))
    case measure=>omega
    case rel=>exact⟨i+1,_,by omega,by omega,by go_num,al,HM,HK⟩
   have au:(i2:Int)<(L2.length:Int):=by omega
   obtain⟨ad,ee,hcx⟩:=Kd.qw (Kd.zq ae.out).2.2 (i2:Int) (by omega) au
   have ex:rd L2 (i2:Int)=L2[i2]:=by simp [rd,ai]
   rw[ex,yny]at hcx
   have aA:=zA.mk (ar.out L2[i2] (yoy ai))
   have ah:=af.out
   rw[ypy ai,leP]at ah
   have aB:=zA.mk ah
   clear af ah ex;generalize L2[i2]=g at hcx aA aB
   obtain⟨aC,an⟩:=aA.out
   have k6:=HP.out g aA.out
   have aZ:g<4:=by omega
   generalize hge:rd [x0,x1,x2,x3] g=h at k6 aB
   obtain⟨aI,aJ⟩:=k6
   have HGE:=zA.mk hge
   clear hge;subst ee;have HUN:zA (QW.f x (wrap64 (16*(j:Int)+4*c+g)) (wrap64 (16*f0+4*d+h))=some (Lib.uni x (16*(j:Int)+4*c+g) (16*f0+4*d+h))):=⟨by
    rw[zFO ay hjb ao aq aC an,zFO av hfb aw ax aI aJ]
    exact if_pos (by rw[show x.length=n from HM.out.lenP];exact le_bd ay hj ao aq aC an av aD aw ax aI aJ)⟩
   go_wp2;clear hcx;refine Zv (n:=10) (S:=fun w'=>w'.cell? ⟨gp,0,none⟩=some vP∧w'.cell? ⟨gI,g.toNat,none⟩=some (.int .i64 h)) (ds := [9]) #[false,false,false,false,false,false,false,false,false,false] (by kernel_rfl) rfl rfl ⟨(zK HM.out.bP 0).trans rfl,zBv HK.out.bI aC an HGE.out⟩ (fun hHeld=>?_)
   have aa:=zA.mk (HM.out.stays (zD (ysy _ _)))
   have ab:=zA.mk (HK.out.stays (zD (ysy _ _)))
   have aj:=zA.mk (Kd.zZ ae.out)
   clear HM HK ae;generalize wr.drew=w4 at aa ab aj hHeld ⊢
   refine ZA (i:=0) (N:=some 56) (v:=?_) (a':=?_) #[true,false,false,false,false,false,false,false,false,false] rfl rfl (by kernel_rfl) (fun _ _ _ h=>h) (Or.inl ⟨by rfl,?_⟩) hHeld ?_ ?_
   rotate_left
   next=>
    rintro w' ⟨s0,s1⟩
    go_simp;with_reducible rfl
   rotate_left
   next=>
    simp only [Act.put,yay,yby,ycy,zX,za]
    rfl
   refine zg (i:=1) (N:=some 57) (v:=?_) (a':=?_) #[true,true,false,false,false,false,false,false,false,false] rfl rfl (by kernel_rfl) (fun _ _ _ h=>h) (Or.inl ⟨by rfl,?_⟩) ?_ ?_
   rotate_left
   next=>
    intro w';go_simp;with_reducible rfl
   rotate_left
   next=>
    simp only [Act.put,yay,yby,ycy,zX,za]
    rfl
   refine zg (i:=2) (N:=some 58) (v:=?_) (a':=?_) #[true,true,true,false,false,false,false,false,false,false] rfl rfl (by kernel_rfl) (fun _ _ _ h=>h) (Or.inl ⟨by rfl,?_⟩) ?_ ?_
   rotate_left
   next=>
    intro w';go_simp;with_reducible rfl
   rotate_left
   next=>
    simp only [Act.put,yay,yby,ycy,zX,za]
    rfl
   refine zg (i:=3) (N:=some 59) (v:=?_) (a':=?_) #[true,true,true,true,false,false,false,false,false,false] rfl rfl (by kernel_rfl) (fun _ _ _ h=>h) (Or.inl ⟨by rfl,?_⟩) ?_ ?_
   rotate_left
   next=>
    intro w';go_simp;with_reducible rfl
   rotate_left
   next=>
    simp only [Act.put,yay,yby,ycy,zX,za]
    rfl
   refine zg (i:=4) (N:=some 60) (v:=?_) (a':=?_) #[true,true,true,true,true,false,false,false,false,false] rfl rfl (by kernel_rfl) (fun _ _ _ h=>h) (Or.inl ⟨by rfl,?_⟩) ?_ ?_
   rotate_left
   next=>
    intro w';go_simp;with_reducible rfl
   rotate_left
   next=>
    simp only [Act.put,yay,yby,ycy,zX,za]
    rfl
   refine zg (i:=5) (N:=some 61) (v:=?_) (a':=?_) #[true,true,true,true,true,true,false,false,false,false] rfl rfl (by kernel_rfl) (fun _ _ _ h=>h) (Or.inl ⟨by rfl,?_⟩) ?_ ?_
   rotate_left
   next=>
    intro w';go_simp;with_reducible rfl
   rotate_left
   next=>
    simp only [Act.put,yay,yby,ycy,zX,za]
    rfl
   refine zg (i:=6) (N:=some 62) (v:=?_) (a':=?_) #[true,true,true,true,true,true,true,false,false,false] rfl rfl (by kernel_rfl) (fun _ _ _ h=>h) (Or.inl ⟨by rfl,?_⟩) ?_ ?_
   rotate_left
   next=>
    intro w';go_simp;with_reducible rfl
   rotate_left
   next=>
    simp only [Act.put,yay,yby,ycy,zX,za]
    rfl
   refine ZA (i:=7) (N:=some 63) (v:=?_) (a':=?_) #[true,true,true,true,true,true,true,true,false,false] rfl rfl (by kernel_rfl) (fun _ _ _ h=>h) (Or.inl ⟨by rfl,?_⟩) hHeld ?_ ?_
   rotate_left
   next=>
    rintro w' ⟨s0,s1⟩
    go_simp;with_reducible rfl
   rotate_left
   next=>
    simp only [Act.put,yay,yby,ycy,zX,za]
    rfl
   refine zg (i:=8) (N:=some 64) (v:=?_) (a':=?_) #[true,true,true,true,true,true,true,true,true,false] rfl rfl (by kernel_rfl) (fun _ _ _ h=>h) (Or.inl ⟨by rfl,?_⟩) ?_ ?_
   rotate_left
   next=>
    intro w';go_simp;with_reducible rfl
   rotate_left
   next=>
    simp only [Act.put,yay,yby,ycy,zX,za]
    rfl
   refine zFs (i:=9) (N:=some 65) #[true,true,true,true,true,true,true,true,true,true] rfl rfl (by kernel_rfl) (by decide) (fun K hK=>?_)
   refine QO Try.func101 (by kernel_rfl) rfl #[vP,.int .i64 (wrap64 (16*(j:Int)+4*c+g)),.int .i64 (wrap64 (16*f0+4*d+h))] (by rfl) rfl rfl (by(try simp only [yiy,yjy,yky]);first|done|rfl) ?_
   refine(QW.calls (fun k=>some k=vP.ownBlock) vP x _ _ _ w0 _ aa.out.below aa.out.rP HUN.out).mono ?_
   rintro ed w5 ⟨rfl,h1,h2,h3⟩
   refine⟨_,rfl,?_⟩
   have hmm:=aa.out.ltP
   have HM:=zA.mk (aa.out.uniP h1 h2 h3 (by rw[Lib.Zj];exact aa.out.lenP))
   have HK:=zA.mk (ab.out.kept h3 hmm)
   have ae:=zA.mk (Kd.zAI aj.out h3 (fun k h1 e=>Nat.lt_irrefl _ (Nat.lt_of_lt_of_le (hmm k e) h1)))
   clear aa ab aj h1 h2 h3 hmm;refine hK.out _ _ ?_
   clear hK K;refine QE (a':=?_) ?_ ?_
   rotate_left
   next=>
    show Act.put _ (some 65) _=_
    simp only [Act.put,yay,yby,ycy,zX,za]
    rfl
   refine Qo (by kernel_rfl) ?_
   clear hHeld HUN;go_wp2;go_roundg (L2.length-(i2+1))
   case measure=>omega
   case rel=>exact⟨i2+1,_,by omega,by omega,by go_num,aB,HM,HK,ae⟩
def JB (l:List (List zv)):List Int × List Int:=zBg Jz l 0 (Lib.ZP 0 (16*l.length),Lib.ZP 0 (16*l.length))
def zFP (ks:List Int) (x:Int):List Int:=if x∈ks then ks else ks ++ [x]
def zAk (mk:List Int) (b:Int):List Int→List Int→List Int
 | [],ks=>ks
 | v :: vs,ks=>zAk mk b vs (zFP ks (rd mk (b+v)))
def Jq (mk:List Int):List (List Int)→List Int→List Int
 | [],ks=>ks
 | c :: cs,ks=>Jq mk cs (zAk mk (16*rd c 0+4*rd c 1) (Qt [rd c 1]) ks)
def zBh (l:List Int):Bool:=l.all fun x=>decide (0≤x)&&decide (x≤1000000)
def zJ1 (n:Nat) (cs:List (List Int)):Bool:=decide (cs.length≤32)&&cs.all (fun x=>decide (x.length=2)&&((decide (0≤rd x 0)&&decide (rd x 0<(n:Int)))&&(decide (0≤rd x 1)&&decide (rd x 1≤3))))
theorem leOk_h {n:Nat} {cs:List (List Int)} (h:zJ1 n cs=true):cs.length≤32 ∧ ∀ x∈cs,x.length=2∧0≤rd x 0∧rd x 0<(n:Int)∧0≤rd x 1∧rd x 1≤3:=by
 unfold zJ1 at h
 simp only [Bool.and_eq_true,decide_eq_true_eq,List.all_eq_true]at h
 exact⟨h.1,fun x hx=>⟨(h.2 x hx).1,(h.2 x hx).2.1.1,(h.2 x hx).2.1.2,(h.2 x hx).2.2.1,(h.2 x hx).2.2.2⟩⟩
theorem zFQ {l:List Int} (h:zBh l=true) : ∀ i:Nat,i<l.length→0≤rd l (i:Int)∧rd l (i:Int)≤1000000:=fun i hi=>by
 unfold zBh at h
 have h2:=List.all_eq_true.1 h l[i] (yoy hi)
 rw[Bool.and_eq_true,decide_eq_true_eq,decide_eq_true_eq]at h2
 have e:rd l (i:Int)=l[i]:=by simp [rd,hi]
 rw[e];exact h2
structure KeysOf (ks:List Int) (D:DataW Unit):Prop where
 tidy:Maps.Tidy D
 size:Maps.size D=ks.length
 has : ∀ x,Maps.has D (.int .i64 x)=ks.contains x
theorem KeysOf.empty:KeysOf [] (.map []):=⟨Maps.tidy_empty,rfl,fun _=>rfl⟩
theorem KeysOf.put {ks:List Int} {D:DataW Unit} (h:KeysOf ks D) (x:Int):KeysOf (zFP ks x) (D.put (.int .i64 x) (.lit (.bool true))):=by
 refine⟨h.tidy.put (show WideAt.IsKeyLit (.int .i64 x)from trivial) _,?_,fun y=>?_⟩
 next=>
  rw[Maps.size_put h.tidy,h.has,h.size]
  unfold zFP
  by_cases e:x∈ks
  next=>
   rw[if_pos e,if_pos (by simpa using e)]
  rw[if_neg e,if_neg (by simpa using e)];simp
 by_cases e:y=x
 case neg=>
  rw[Maps.has_put_other (by simpa using e),h.has]
  unfold zFP
  split
  next=>
   rfl
  simp [e]
 subst e;rw[Maps.has_put_same h.tidy.isMap (show WideAt.IsKeyLit (.int .i64 y)from trivial)]
 unfold zFP
 split
 next=>
  simp [*]
 simp
theorem zA0 {P:Program} {k:TypeId} {R:Value→Option (DataW Unit × List MemPlace)} {b n:Nat} {D:DataW Unit} {W W1:World} (h:W.ownsMap P k R b n D) (hb:Below W.heap.size W W1):W1.ownsMap P k R b n D:=by
 obtain⟨es,clock,h1,h2⟩:=h
 exact⟨es,clock,zO h1 hb,h2⟩
theorem zAe {W W1:World} {S:Nat→Prop} {a:Addr} {v:Value} (hc:W.cell? a=some v) (hk:Kept W W1 S) (hS : ∀ k,S k → ∃ es cl,W.heap[k]?=some (.map es cl)):W1.cell? a=some v:=zGa hc hk (fun e=>by
 obtain⟨es,cl,h⟩:=hS _ e
 simp [World.cell?,h]at hc)
theorem zCo {P:Program} {k:TypeId} {R:Value→Option (DataW Unit × List MemPlace)} {b n:Nat} {D:DataW Unit} {W:World} (h:W.ownsMap P k R b n D) : ∃ es cl,W.heap[b]?=some (.map es cl):=by
 obtain⟨es,clock,h1,h2⟩:=h
 exact⟨es,clock,h1⟩
theorem le_step {l:List (List zv)} (hok:zDM l) {w:World} {gt:Nat} {cT:Array Value} {gp gs m2:Nat} {vP vS:Value} (s:List Int × List Int) (W:World) (j f:Nat) (x:zv) (hI:zAQ w gt cT gp gs m2 (16*l.length) vP vS s W) (hF:Zq l j f x) (hb : ¬ x.f0<0) :
 Calls Try.prog 100 (#[.int .i64 (j:Int),.int .i64 (f:Int),.agg #[.int .i64 x.f0,.int .i64 x.f1],.agg #[.int .i64 (zp x.f1 0),.int .i64 (zp x.f1 1),.int .i64 (zp x.f1 2),.int .i64 (zp x.f1 3)]] ++ #[.pointer (some ⟨gs,0,none⟩),.pointer (some ⟨gp,0,none⟩)]) W fun e W'=>e = .returned (.tuple #[])∧zAQ w gt cT gp gs m2 (16*l.length) vP vS (Jz s j f x) W':=by
 obtain⟨h1,h2,h3⟩:=hF
 obtain⟨q0,q1,q2⟩:=hok
 have q3:=q1 _ (yoy h1)
 have q4:=q2 _ (yoy h1) x (by rw[← h3];exact yoy h2) hb
 have e:(#[.int .i64 (j:Int),.int .i64 (f:Int),.agg #[.int .i64 x.f0,.int .i64 x.f1],.agg #[.int .i64 (zp x.f1 0),.int .i64 (zp x.f1 1),.int .i64 (zp x.f1 2),.int .i64 (zp x.f1 3)]] ++ #[.pointer (some ⟨gs,0,none⟩),.pointer (some ⟨gp,0,none⟩)]:Array Value) = #[.int .i64 (j:Int),.int .i64 (f:Int),.agg #[.int .i64 x.f0,.int .i64 x.f1],.agg #[.int .i64 (zp x.f1 0),.int .i64 (zp x.f1 1),.int .i64 (zp x.f1 2),.int .i64 (zp x.f1 3)],.pointer (some ⟨gs,0,none⟩),.pointer (some ⟨gp,0,none⟩)]:=rfl
 rw[e]
 exact zBq.calls w W gt cT gp gs m2 (16*l.length) vP vS s j f x.f0 x.f1 hI (by omega) (by omega) (by omega) (by omega) q4.2.1 q4.2.2 (by omega)
def zu.f (k:Nat) (t:List (List zv)) (c:Int):Option Int:=if zDM t∧zBh (JB t).1=true∧zBh (JB t).2=true then((ze.f k t c).bind fun cs=>if zJ1 t.length cs=true then some (((Jq (JB t).1 cs []).length:Int)-((Jq (JB t).2 cs []).length:Int)+(cs.length:Int))else none)else none
def zu.T1:Bool × List (List Nat × List Nat):=(true,[([],[]),([0],[0]),([1],[1]),([2],[2]),([3,2],[3]),([],[]),([5],[5]),([6,4],[6]),([7],[7]),([8,7],[8]),([],[]),([],[]),([10,4,9,0,1,2,3,4,10,11],[4,10]),([11,9,12,0,1,2,3,4,5,6,7,8,9,10,11,12],[9,11])])
def zu.B1:List Nat := [0,1,3,7,15,0,32,127,255,511,0,0,4095,8191]
theorem zu.tab1:Jg .any (opsOf Try.f56 1)=zu.T1:=by kernel_rfl
theorem zu.zGj:QK zu.T1.2 zu.B1=true:=by kernel_rfl
set_option maxHeartbeats 8000000 in
set_option maxRecDepth 100000 in
theorem zu.calls (k:Nat) (ah:Option Addr) (ai:Nat) (aa:List (List zv)) (a1:Int) (r:Int) (w:World) (aP:Kd.C (Kd.slice 75 ZZ) w ah aa.length aa) (aQ:aa.length≤ai) (h:zu.f k aa a1=some r) :
 Calls Try.prog 56 #[.agg #[.slice ah aa.length ai],.int .i64 a1] w fun e w'=>e = .returned (.int .i64 r)∧Below w.heap.size w w':=by
 unfold zu.f at h
 by_cases aV:zDM aa∧zBh (JB aa).1=true∧zBh (JB aa).2=true
 case neg=>rw[if_neg aV]at h;cases h
 rw[if_pos aV]at h
 obtain⟨hok,a6,aR⟩:=aV
 have bQ:=zA.mk (zFQ a6)
 have bR:=zA.mk (zFQ aR)
 clear a6 aR;obtain⟨cs,hcs,h⟩:=ydy.mp h
 by_cases hle:zJ1 aa.length cs=true
 case neg=>rw[if_neg hle]at h;cases h
 rw[if_pos hle]at h
 have hr:=yey h
 obtain⟨bG,hcc⟩:=leOk_h hle
 have HOK:=zA.mk hok
 have HR:=zA.mk aP
 have HC:=zA.mk aQ
 have HRR:=zA.mk hr
 have HCS:=zA.mk hcc
 have HCR:=zA.mk hcs
 have ca:aa.length≤8:=hok.1
 obtain⟨ax,aC⟩ : ∃ L,L=Lib.ZP 0 (16*aa.length):=⟨_,rfl⟩
 have aK:=zA.mk aC
 have HCN:=zA.mk (show qg.f (16*aa.length+1) (16*(aa.length:Int))=some ax by rw[aC];exact zCJ (16*aa.length) (by omega))
 have aB:=zA.mk (show wrap64 (16*(aa.length:Int))=16*(aa.length:Int)from Lib.ql (by omega) (by omega))
 clear aC;clear h hok hr hle hcc hcs aP aQ;have BT:=zA.mk (ZL (W:=w) rfl (.cells #[.slice ah aa.length ai] 35))
 have HB:=zA.mk (zC (ysy w.heap.size w) (.cells #[.slice ah aa.length ai] 35))
 go_enter Try.func56,Try.ntmps56
 go_wp2;have aA:True:=trivial
 refine Zv (n:=14) (S:=fun w'=>True) (ds := []) #[false,false,false,false,false,false,false,false,false,false,false,false,false,false] (by kernel_rfl) rfl rfl trivial (fun hHeld=>?_)
 refine Zn zu.tab1 zu.zGj (fun HT_ HW_=>?_)
 refine zg (i:=0) (N:=some 15) (v:=?_) (a':=?_) #[true,false,false,false,false,false,false,false,false,false,false,false,false,false] rfl rfl (by kernel_rfl) (fun _ _ _ h=>h) (Or.inl ⟨by rfl,?_⟩) ?_ ?_
 rotate_left
 next=>
  intro w';go_simp;with_reducible rfl
 rotate_left
 next=>
  simp only [Act.put,yay,yby,ycy,zX,za]
  rfl
 refine zg (i:=5) (N:=some 20) (v:=?_) (a':=?_) #[true,false,false,false,false,true,false,false,false,false,false,false,false,false] rfl rfl (by kernel_rfl) (fun _ _ _ h=>h) (Or.inl ⟨by rfl,?_⟩) ?_ ?_
 rotate_left
 next=>
  intro w';go_simp;with_reducible rfl
 rotate_left
 next=>
  simp only [Act.put,yay,yby,ycy,zX,za]
  rfl
 refine zIE [1,2,3,4,6,7,8,9,10,11,12,13] (fun bU b a w' => ∃ (AP:Option Addr) (cP:Nat) (AS:Option Addr) (cS:Nat) (g5:Nat) (g6:Nat) (ay:Value) (az:Value) (aj:Value) (ak:Value),a=QP bU b [(1,16,.slice ah aa.length ai),(2,17,.int .i64 (aa.length:Int)),(3,18,.int .i64 (16*(aa.length:Int))),(4,19,ay),(6,21,.slice ah aa.length ai),(7,22,.int .i64 (aa.length:Int)),(8,23,.int .i64 (16*(aa.length:Int))),(9,24,az),(10,5,aj),(11,6,ak)]∧(w'.heap[w.heap.size]?=some (.cells #[.slice ah aa.length ai] 35 (0,0)))∧(Below w.heap.size w w')∧(b 4=true→Kd.R (Kd.int .i64) 2 w' w.heap.size (fun k=>some k=((.slice AP ax.length cP):Value).ownBlock) (.slice AP ax.length cP) ax)∧(b 9=true→Kd.R (Kd.int .i64) 2 w' w.heap.size (fun k=>some k=((.slice AS ax.length cS):Value).ownBlock) (.slice AS ax.length cS) ax)∧(b 9=true → ∀ k,some k=((.slice AP ax.length cP):Value).ownBlock→some k≠((.slice AS ax.length cS):Value).ownBlock)∧(b 10=true→w.heap.size≤g5)∧(b 11=true→w.heap.size≤g6)∧(b 10=true→b 12=false→w'.heap[g5]?=some (.cells #[.slice none 0 0] 22 (0,0)))∧(b 12=true→w'.heap[g5]?=some (.cells #[(.slice AP ax.length cP)] 22 (0,0)))∧(b 11=true→b 13=false→w'.heap[g6]?=some (.cells #[.slice none 0 0] 22 (0,0)))∧(b 13=true→w'.heap[g6]?=some (.cells #[(.slice AS ax.length cS)] 22 (0,0)))∧(b 10=true→b 11=true→g5≠g6)∧(b 4=true→(ay:Value) = .slice AP ax.length cP)∧(b 9=true→(az:Value) = .slice AS ax.length cS)∧(b 10=true→(aj:Value) = .pointer (some ⟨g5,0,none⟩))∧(b 11=true→(ak:Value) = .pointer (some ⟨g6,0,none⟩))) HT_.out HW_.out (by kernel_rfl) (by kernel_rfl) ?_ ?_ ?_
 next=>
  exact⟨none,0,none,0,0,0,.bool false,.bool false,.bool false,.bool false,by simp only [QP,Bool.false_eq_true,if_false],(zJ BT.out),(zD HB.out),fun h_=>absurd h_ (by decide),fun h_=>absurd h_ (by decide),fun h_=>absurd h_ (by decide),fun h_=>absurd h_ (by decide),fun h_=>absurd h_ (by decide),fun h_=>absurd h_ (by decide),fun h_=>absurd h_ (by decide),fun h_=>absurd h_ (by decide),fun h_=>absurd h_ (by decide),(fun h_=>absurd h_ (by decide)),fun h_=>absurd h_ (by decide),fun h_=>absurd h_ (by decide),fun h_=>absurd h_ (by decide),fun h_=>absurd h_ (by decide)⟩
 next=>
  skip
  clear BT HB aA;refine ZI ?_ ?_
  next=>
   rintro b a w' ⟨AP,cP,AS,cS,g5,g6,ay,az,aj,ak,ha,Q_BT,Q_HB,Q_RP,Q_RS,Q_NPS,an,ao,ar,au,aq,av,ad,ag,al,ae,af⟩ hb_ hon hoff
   refine⟨_,rfl,fun K hK=>?_⟩
   have cb:a.tmps[15]?=some (.pointer (some ⟨w.heap.size,0,none⟩)):=by rw[ha];exact(JA rfl).trans rfl
   replace ha:=zA.mk ha
   have BT:=zA.mk Q_BT
   have HB:=zA.mk Q_HB
   have aA:=zA.mk ad
   have hcT:w'.cell? ⟨w.heap.size,0,none⟩=some (.slice ah aa.length ai):=(zK BT.out 0).trans rfl
   refine zAH (w1:=w') (v := .slice ah aa.length ai) (by rfl) rfl ?_ ?_
   next=>
    go_simp
    (try simp only [zX])
    try rfl
   refine hK.out _ _ ⟨AP,cP,AS,cS,g5,g6,ay,az,aj,ak,(by rw[ha.out];exact ZO 0 hb_ rfl rfl rfl),Q_BT,Q_HB,fun ab=>absurd ((hoff 4 (by kernel_rfl)).symm.trans ab) (by decide),fun ab=>absurd ((hoff 9 (by kernel_rfl)).symm.trans ab) (by decide),fun ab=>absurd ((hoff 9 (by kernel_rfl)).symm.trans ab) (by decide),an,ao,ar,fun ab=>absurd ((hoff 12 (by kernel_rfl)).symm.trans ab) (by decide),aq,fun ab=>absurd ((hoff 13 (by kernel_rfl)).symm.trans ab) (by decide),ad,fun ab=>absurd ((hoff 4 (by kernel_rfl)).symm.trans ab) (by decide),fun ab=>absurd ((hoff 9 (by kernel_rfl)).symm.trans ab) (by decide),ae,af⟩
  refine ZI ?_ ?_
  next=>
   rintro b a w' ⟨AP,cP,AS,cS,g5,g6,ay,az,aj,ak,ha,Q_BT,Q_HB,Q_RP,Q_RS,Q_NPS,an,ao,ar,au,aq,av,ad,ag,al,ae,af⟩ hb_ hon hoff
   refine⟨_,rfl,fun K hK=>?_⟩
   have bH:a.tmps[16]?=some (.slice ah aa.length ai):=by rw[ha];exact Zp (e:=(1,16,.slice ah aa.length ai)) 0 rfl rfl (hon 1 (by kernel_rfl)) rfl
   replace ha:=zA.mk ha
   have BT:=zA.mk Q_BT
   have HB:=zA.mk Q_HB
   have aA:=zA.mk ad
   refine QO Try.func75 (by kernel_rfl) rfl #[.slice ah aa.length ai] (by rfl) rfl rfl (by first|(simp only [yiy,yjy,yky,Act.eval,Array.getD_eq_getD_getElem?,Option.getD_some,bH];done)|(simp only [yiy,yjy,yky,Act.eval,Array.getD_eq_getD_getElem?,Option.getD_some,bH];rfl)) ?_
   refine(qX.calls ah ai aa (aa.length:Int) _ (Kd.qD HR.out HB.out) HC.out rfl).mono ?_
   rintro ed w2 ⟨rfl,hd⟩
   have hb:=qG.below hd
   refine⟨_,rfl,?_⟩
   refine hK.out _ _ ⟨AP,cP,AS,cS,g5,g6,ay,az,aj,ak,(by rw[ha.out];exact ZO 1 hb_ rfl rfl rfl),zO BT.out hb,zM HB.out hb,fun ab=>absurd ((hoff 4 (by kernel_rfl)).symm.trans ab) (by decide),fun ab=>absurd ((hoff 9 (by kernel_rfl)).symm.trans ab) (by decide),fun ab=>absurd ((hoff 9 (by kernel_rfl)).symm.trans ab) (by decide),an,ao,fun ab aw=>zO (ar ab aw) hb,fun ab=>absurd ((hoff 12 (by kernel_rfl)).symm.trans ab) (by decide),fun ab aw=>zO (aq ab aw) hb,fun ab=>absurd ((hoff 13 (by kernel_rfl)).symm.trans ab) (by decide),ad,fun ab=>absurd ((hoff 4 (by kernel_rfl)).symm.trans ab) (by decide),fun ab=>absurd ((hoff 9 (by kernel_rfl)).symm.trans ab) (by decide),ae,af⟩
  refine ZI ?_ ?_
  next=>
   rintro b a w' ⟨AP,cP,AS,cS,g5,g6,ay,az,aj,ak,ha,Q_BT,Q_HB,Q_RP,Q_RS,Q_NPS,an,ao,ar,au,aq,av,ad,ag,al,ae,af⟩ hb_ hon hoff
   refine⟨_,rfl,fun K hK=>?_⟩
   have cc:a.tmps[17]?=some (.int .i64 (aa.length:Int)):=by rw[ha];exact Zp (e:=(2,17,.int .i64 (aa.length:Int))) 1 rfl rfl (hon 2 (by kernel_rfl)) rfl
   replace ha:=zA.mk ha
   have BT:=zA.mk Q_BT
   have HB:=zA.mk Q_HB
   have aA:=zA.mk ad
   refine zAH (w1:=w') (v := .int .i64 (16*(aa.length:Int))) (by rfl) rfl ?_ ?_
   next=>
    go_simp
    (try simp only [zX])
    first|exact aB.out|(rw[aB.out];done)|(simp only [aB.out];done)|(simp [aB.out];done)
   refine hK.out _ _ ⟨AP,cP,AS,cS,g5,g6,ay,az,aj,ak,(by rw[ha.out];exact ZO 2 hb_ rfl rfl rfl),BT.out,HB.out,fun ab=>absurd ((hoff 4 (by kernel_rfl)).symm.trans ab) (by decide),fun ab=>absurd ((hoff 9 (by kernel_rfl)).symm.trans ab) (by decide),fun ab=>absurd ((hoff 9 (by kernel_rfl)).symm.trans ab) (by decide),an,ao,fun ab aw=>(ar ab aw),fun ab=>absurd ((hoff 12 (by kernel_rfl)).symm.trans ab) (by decide),fun ab aw=>(aq ab aw),fun ab=>absurd ((hoff 13 (by kernel_rfl)).symm.trans ab) (by decide),ad,fun ab=>absurd ((hoff 4 (by kernel_rfl)).symm.trans ab) (by decide),fun ab=>absurd ((hoff 9 (by kernel_rfl)).symm.trans ab) (by decide),ae,af⟩
  refine ZI ?_ ?_
  next=>
   rintro b a w' ⟨AP,cP,AS,cS,g5,g6,ay,az,aj,ak,ha,Q_BT,Q_HB,Q_RP,Q_RS,Q_NPS,an,ao,ar,au,aq,av,ad,ag,al,ae,af⟩ hb_ hon hoff
   refine⟨_,rfl,fun K hK=>?_⟩
   have bI:a.tmps[18]?=some (.int .i64 (16*(aa.length:Int))):=by rw[ha];exact Zp (e:=(3,18,.int .i64 (16*(aa.length:Int)))) 2 rfl rfl (hon 3 (by kernel_rfl)) rfl
   replace ha:=zA.mk ha
   have BT:=zA.mk Q_BT
   have HB:=zA.mk Q_HB
   have aA:=zA.mk ad
   refine QO Try.func98 (by kernel_rfl) rfl #[.int .i64 (16*(aa.length:Int))] (by rfl) rfl rfl (by first|(simp only [yiy,yjy,yky,Act.eval,Array.getD_eq_getD_getElem?,Option.getD_some,bI];done)|(simp only [yiy,yjy,yky,Act.eval,Array.getD_eq_getD_getElem?,Option.getD_some,bI];rfl)) ?_
   refine(qg.calls (16*aa.length+1) (16*(aa.length:Int)) _ _ HCN.out).mono ?_
   rintro ed w2 ⟨v2,rfl,ho,hb⟩
   obtain⟨A2,c2,rfl⟩:=Kd.ZE ho
   refine⟨_,rfl,?_⟩
   refine hK.out _ _ ⟨A2,c2,AS,cS,g5,g6,(.slice A2 ax.length c2),az,aj,ak,(by rw[ha.out];exact ZO 3 hb_ rfl rfl rfl),zO BT.out hb,zM HB.out hb,fun _=>Kd.qx (Kd.Qu rfl ho) HB.out.size,fun ab=>absurd ((hoff 9 (by kernel_rfl)).symm.trans ab) (by decide),fun ab=>absurd ((hoff 9 (by kernel_rfl)).symm.trans ab) (by decide),an,ao,fun ab aw=>zO (ar ab aw) hb,fun ab=>absurd ((hoff 12 (by kernel_rfl)).symm.trans ab) (by decide),fun ab aw=>zO (aq ab aw) hb,fun ab=>absurd ((hoff 13 (by kernel_rfl)).symm.trans ab) (by decide),ad,fun _=>rfl,fun ab=>absurd ((hoff 9 (by kernel_rfl)).symm.trans ab) (by decide),ae,af⟩
  refine ZI ?_ ?_
  next=>
   rintro b a w' ⟨AP,cP,AS,cS,g5,g6,ay,az,aj,ak,ha,Q_BT,Q_HB,Q_RP,Q_RS,Q_NPS,an,ao,ar,au,aq,av,ad,ag,al,ae,af⟩ hb_ hon hoff
   refine⟨_,rfl,fun K hK=>?_⟩
   have cd:a.tmps[20]?=some (.pointer (some ⟨w.heap.size,0,none⟩)):=by rw[ha];exact(JA rfl).trans rfl
   replace ha:=zA.mk ha
   have BT:=zA.mk Q_BT
   have HB:=zA.mk Q_HB
   have aA:=zA.mk ad
   have hcT:w'.cell? ⟨w.heap.size,0,none⟩=some (.slice ah aa.length ai):=(zK BT.out 0).trans rfl
   refine zAH (w1:=w') (v := .slice ah aa.length ai) (by rfl) rfl ?_ ?_
   next=>
    go_simp
    (try simp only [zX])
    try rfl
   refine hK.out _ _ ⟨AP,cP,AS,cS,g5,g6,ay,az,aj,ak,(by rw[ha.out];exact ZO 4 hb_ rfl rfl rfl),Q_BT,Q_HB,Q_RP,fun ab=>absurd ((hoff 9 (by kernel_rfl)).symm.trans ab) (by decide),fun ab=>absurd ((hoff 9 (by kernel_rfl)).symm.trans ab) (by decide),an,ao,ar,fun ab=>absurd ((hoff 12 (by kernel_rfl)).symm.trans ab) (by decide),aq,fun ab=>absurd ((hoff 13 (by kernel_rfl)).symm.trans ab) (by decide),ad,ag,fun ab=>absurd ((hoff 9 (by kernel_rfl)).symm.trans ab) (by decide),ae,af⟩
  refine ZI ?_ ?_
  next=>
   rintro b a w' ⟨AP,cP,AS,cS,g5,g6,ay,az,aj,ak,ha,Q_BT,Q_HB,Q_RP,Q_RS,Q_NPS,an,ao,ar,au,aq,av,ad,ag,al,ae,af⟩ hb_ hon hoff
   refine⟨_,rfl,fun K hK=>?_⟩
   have bJ:a.tmps[21]?=some (.slice ah aa.length ai):=by rw[ha];exact Zp (e:=(6,21,.slice ah aa.length ai)) 4 rfl rfl (hon 6 (by kernel_rfl)) rfl
   replace ha:=zA.mk ha
   have BT:=zA.mk Q_BT
   have HB:=zA.mk Q_HB
   have RP:=zA.mk (Q_RP (hon 4 (by kernel_rfl)))
   have aA:=zA.mk ad
   refine QO Try.func75 (by kernel_rfl) rfl #[.slice ah aa.length ai] (by rfl) rfl rfl (by first|(simp only [yiy,yjy,yky,Act.eval,Array.getD_eq_getD_getElem?,Option.getD_some,bJ];done)|(simp only [yiy,yjy,yky,Act.eval,Array.getD_eq_getD_getElem?,Option.getD_some,bJ];rfl)) ?_
   refine(qX.calls ah ai aa (aa.length:Int) _ (Kd.qD HR.out HB.out) HC.out rfl).mono ?_
   rintro ed w2 ⟨rfl,hd⟩
   have hb:=qG.below hd
   refine⟨_,rfl,?_⟩
   refine hK.out _ _ ⟨AP,cP,AS,cS,g5,g6,ay,az,aj,ak,(by rw[ha.out];exact ZO 5 hb_ rfl rfl rfl),zO BT.out hb,zM HB.out hb,fun _=>Kd.qN RP.out hb,fun ab=>absurd ((hoff 9 (by kernel_rfl)).symm.trans ab) (by decide),fun ab=>absurd ((hoff 9 (by kernel_rfl)).symm.trans ab) (by decide),an,ao,fun ab aw=>zO (ar ab aw) hb,fun ab=>absurd ((hoff 12 (by kernel_rfl)).symm.trans ab) (by decide),fun ab aw=>zO (aq ab aw) hb,fun ab=>absurd ((hoff 13 (by kernel_rfl)).symm.trans ab) (by decide),ad,ag,fun ab=>absurd ((hoff 9 (by kernel_rfl)).symm.trans ab) (by decide),ae,af⟩
  refine ZI ?_ ?_
  next=>
   rintro b a w' ⟨AP,cP,AS,cS,g5,g6,ay,az,aj,ak,ha,Q_BT,Q_HB,Q_RP,Q_RS,Q_NPS,an,ao,ar,au,aq,av,ad,ag,al,ae,af⟩ hb_ hon hoff
   refine⟨_,rfl,fun K hK=>?_⟩
   have cf:a.tmps[22]?=some (.int .i64 (aa.length:Int)):=by rw[ha];exact Zp (e:=(7,22,.int .i64 (aa.length:Int))) 5 rfl rfl (hon 7 (by kernel_rfl)) rfl
   replace ha:=zA.mk ha
   have BT:=zA.mk Q_BT
   have HB:=zA.mk Q_HB
   have RP:=zA.mk (Q_RP (hon 4 (by kernel_rfl)))
   have aA:=zA.mk ad
   refine zAH (w1:=w') (v := .int .i64 (16*(aa.length:Int))) (by rfl) rfl ?_ ?_
   next=>
    go_simp
    (try simp only [zX])
    first|exact aB.out|(rw[aB.out];done)|(simp only [aB.out];done)|(simp [aB.out];done)
   refine hK.out _ _ ⟨AP,cP,AS,cS,g5,g6,ay,az,aj,ak,(by rw[ha.out];exact ZO 6 hb_ rfl rfl rfl),BT.out,HB.out,fun _=>RP.out,fun ab=>absurd ((hoff 9 (by kernel_rfl)).symm.trans ab) (by decide),fun ab=>absurd ((hoff 9 (by kernel_rfl)).symm.trans ab) (by decide),an,ao,fun ab aw=>(ar ab aw),fun ab=>absurd ((hoff 12 (by kernel_rfl)).symm.trans ab) (by decide),fun ab aw=>(aq ab aw),fun ab=>absurd ((hoff 13 (by kernel_rfl)).symm.trans ab) (by decide),ad,ag,fun ab=>absurd ((hoff 9 (by kernel_rfl)).symm.trans ab) (by decide),ae,af⟩
  refine ZI ?_ ?_
  next=>
   rintro b a w' ⟨AP,cP,AS,cS,g5,g6,ay,az,aj,ak,ha,Q_BT,Q_HB,Q_RP,Q_RS,Q_NPS,an,ao,ar,au,aq,av,ad,ag,al,ae,af⟩ hb_ hon hoff
   refine⟨_,rfl,fun K hK=>?_⟩
   have bK:a.tmps[23]?=some (.int .i64 (16*(aa.length:Int))):=by rw[ha];exact Zp (e:=(8,23,.int .i64 (16*(aa.length:Int)))) 6 rfl rfl (hon 8 (by kernel_rfl)) rfl
   replace ha:=zA.mk ha
   have BT:=zA.mk Q_BT
   have HB:=zA.mk Q_HB
   have RP:=zA.mk (Q_RP (hon 4 (by kernel_rfl)))
   have aA:=zA.mk ad
   refine QO Try.func98 (by kernel_rfl) rfl #[.int .i64 (16*(aa.length:Int))] (by rfl) rfl rfl (by first|(simp only [yiy,yjy,yky,Act.eval,Array.getD_eq_getD_getElem?,Option.getD_some,bK];done)|(simp only [yiy,yjy,yky,Act.eval,Array.getD_eq_getD_getElem?,Option.getD_some,bK];rfl)) ?_
   refine(qg.calls (16*aa.length+1) (16*(aa.length:Int)) _ _ HCN.out).mono ?_
   rintro ed w2 ⟨v2,rfl,ho,hb⟩
   obtain⟨A2,c2,rfl⟩:=Kd.ZE ho
   refine⟨_,rfl,?_⟩
   refine hK.out _ _ ⟨AP,cP,A2,c2,g5,g6,ay,(.slice A2 ax.length c2),aj,ak,(by rw[ha.out];exact ZO 7 hb_ rfl rfl rfl),zO BT.out hb,zM HB.out hb,fun _=>Kd.qN RP.out hb,fun _=>Kd.qx (Kd.Qu rfl ho) HB.out.size,fun _=>fun k h1 h2=>by have q1:=Kd.JO RP.out k h1.symm;have q2:=Kd.Zw ho k h2.symm;omega,an,ao,fun ab aw=>zO (ar ab aw) hb,fun ab=>absurd ((hoff 12 (by kernel_rfl)).symm.trans ab) (by decide),fun ab aw=>zO (aq ab aw) hb,fun ab=>absurd ((hoff 13 (by kernel_rfl)).symm.trans ab) (by decide),ad,ag,fun _=>rfl,ae,af⟩
  refine ZI ?_ ?_
  next=>
   rintro b a w' ⟨AP,cP,AS,cS,g5,g6,ay,az,aj,ak,ha,Q_BT,Q_HB,Q_RP,Q_RS,Q_NPS,an,ao,ar,au,aq,av,ad,ag,al,ae,af⟩ hb_ hon hoff
   refine⟨_,rfl,fun K hK=>?_⟩
   replace ha:=zA.mk ha
   have BT:=zA.mk Q_BT
   have HB:=zA.mk Q_HB
   have aA:=zA.mk ad
   refine zAH (w1:=w'.alloc (.cells #[.slice none 0 0] 22)) (v := .pointer (some ⟨w'.heap.size,0,none⟩)) (by rfl) rfl ?_ ?_
   next=>
    go_simp;try rfl
   refine hK.out _ _ ⟨AP,cP,AS,cS,w'.heap.size,g6,ay,az,(.pointer (some ⟨w'.heap.size,0,none⟩)),ak,(by rw[ha.out];exact ZO 8 hb_ rfl rfl rfl),zG BT.out _,zC HB.out _,fun ab=>Kd.zS (Q_RP ab) _,fun ab=>Kd.zS (Q_RS ab) _,Q_NPS,fun _=>HB.out.size,ao,fun _ _=>ZL rfl _,fun ab=>absurd ((hoff 12 (by kernel_rfl)).symm.trans ab) (by decide),fun ab aw=>zG (aq ab aw) _,fun ab=>absurd ((hoff 13 (by kernel_rfl)).symm.trans ab) (by decide),fun _ bq e_=>absurd (qT (aq bq (hoff 13 (by kernel_rfl)))) (by rw[← e_];exact Nat.lt_irrefl _),ag,al,fun _=>rfl,af⟩
  refine ZI ?_ ?_
  next=>
   rintro b a w' ⟨AP,cP,AS,cS,g5,g6,ay,az,aj,ak,ha,Q_BT,Q_HB,Q_RP,Q_RS,Q_NPS,an,ao,ar,au,aq,av,ad,ag,al,ae,af⟩ hb_ hon hoff
   refine⟨_,rfl,fun K hK=>?_⟩
   replace ha:=zA.mk ha
   have BT:=zA.mk Q_BT
   have HB:=zA.mk Q_HB
   have aA:=zA.mk ad
   refine zAH (w1:=w'.alloc (.cells #[.slice none 0 0] 22)) (v := .pointer (some ⟨w'.heap.size,0,none⟩)) (by rfl) rfl ?_ ?_
   next=>
    go_simp;try rfl
   refine hK.out _ _ ⟨AP,cP,AS,cS,g5,w'.heap.size,ay,az,aj,(.pointer (some ⟨w'.heap.size,0,none⟩)),(by rw[ha.out];exact ZO 9 hb_ rfl rfl rfl),zG BT.out _,zC HB.out _,fun ab=>Kd.zS (Q_RP ab) _,fun ab=>Kd.zS (Q_RS ab) _,Q_NPS,an,fun _=>HB.out.size,fun ab aw=>zG (ar ab aw) _,fun ab=>absurd ((hoff 12 (by kernel_rfl)).symm.trans ab) (by decide),fun _ _=>ZL rfl _,fun ab=>absurd ((hoff 13 (by kernel_rfl)).symm.trans ab) (by decide),fun br _ e_=>absurd (qT (ar br (hoff 12 (by kernel_rfl)))) (by rw[e_];exact Nat.lt_irrefl _),ag,al,ae,fun _=>rfl⟩
  refine ZI ?_ ?_
  next=>
   rintro b a w' ⟨AP,cP,AS,cS,g5,g6,ay,az,aj,ak,ha,Q_BT,Q_HB,Q_RP,Q_RS,Q_NPS,an,ao,ar,au,aq,av,ad,ag,al,ae,af⟩ hb_ hon hoff
   refine⟨_,rfl,fun K hK=>?_⟩
   have e5:a.tmps[5]?=some (aj):=by rw[ha];exact Zp (e:=(10,5,aj)) 8 rfl rfl (hon 10 (by kernel_rfl)) rfl
   rw[ae (hon 10 (by kernel_rfl))]at e5
   have bV:a.tmps[19]?=some (ay):=by rw[ha];exact Zp (e:=(4,19,ay)) 3 rfl rfl (hon 4 (by kernel_rfl)) rfl
   rw[ag (hon 4 (by kernel_rfl))]at bV
   replace ha:=zA.mk ha
   have BT:=zA.mk Q_BT
   have HB:=zA.mk Q_HB
   have RP:=zA.mk (Q_RP (hon 4 (by kernel_rfl)))
   have RS:=zA.mk (Q_RS (hon 9 (by kernel_rfl)))
   have NPS:=zA.mk (Q_NPS (hon 9 (by kernel_rfl)))
   have G5:=zA.mk (an (hon 10 (by kernel_rfl)))
   have G6:=zA.mk (ao (hon 11 (by kernel_rfl)))
   have B5:=zA.mk (ar (hon 10 (by kernel_rfl)) hb_)
   have B6:=zA.mk (aq (hon 11 (by kernel_rfl)) (hoff 13 (by kernel_rfl)))
   have aA:=zA.mk ad
   have cg:w'.cell? ⟨g5,0,none⟩=some (.slice none 0 0):=(zK B5.out 0).trans rfl
   have ch:=zP B5.out 0
   refine zIX (w1:=w'.setCell ⟨g5,0,none⟩ (.slice AP ax.length cP)) (by rfl) rfl ?_ ?_
   next=>
    go_simp;try rfl
   refine hK.out _ _ ⟨AP,cP,AS,cS,g5,g6,ay,az,aj,ak,(by rw[ha.out];exact zCG (v:=undef) rfl),qJ (p:=⟨g5,0,none⟩) BT.out (Qz BT.out B5.out (by decide)) _,zF HB.out G5.out,fun _=>Kd.ZR (p:=⟨g5,0,none⟩) RP.out (fun k hk e=>zCc RP.out B5.out (by decide) (by have q_:k=g5:=e;rw[← q_];exact hk)) _,fun _=>Kd.ZR (p:=⟨g5,0,none⟩) RS.out (fun k hk e=>zCc RS.out B5.out (by decide) (by have q_:k=g5:=e;rw[← q_];exact hk)) _,Q_NPS,an,ao,fun _ aw=>absurd ((zBQ b 12).symm.trans aw) (by decide),fun _=>qf B5.out 0 _ rfl,fun _ _=>qJ (p:=⟨g5,0,none⟩) B6.out (fun e=>aA.out (hon 10 (by kernel_rfl)) (hon 11 (by kernel_rfl)) e.symm) _,fun ab=>absurd ((hoff 13 (by kernel_rfl)).symm.trans ab) (by decide),ad,ag,al,ae,af⟩
  refine ZI ?_ ?_
  next=>
   rintro b a w' ⟨AP,cP,AS,cS,g5,g6,ay,az,aj,ak,ha,Q_BT,Q_HB,Q_RP,Q_RS,Q_NPS,an,ao,ar,au,aq,av,ad,ag,al,ae,af⟩ hb_ hon hoff
   refine⟨_,rfl,fun K hK=>?_⟩
   have e6:a.tmps[6]?=some (ak):=by rw[ha];exact Zp (e:=(11,6,ak)) 9 rfl rfl (hon 11 (by kernel_rfl)) rfl
   rw[af (hon 11 (by kernel_rfl))]at e6
   have bW:a.tmps[24]?=some (az):=by rw[ha];exact Zp (e:=(9,24,az)) 7 rfl rfl (hon 9 (by kernel_rfl)) rfl
   rw[al (hon 9 (by kernel_rfl))]at bW
   replace ha:=zA.mk ha
   have BT:=zA.mk Q_BT
   have HB:=zA.mk Q_HB
   have RP:=zA.mk (Q_RP (hon 4 (by kernel_rfl)))
   have RS:=zA.mk (Q_RS (hon 9 (by kernel_rfl)))
   have NPS:=zA.mk (Q_NPS (hon 9 (by kernel_rfl)))
   have G5:=zA.mk (an (hon 10 (by kernel_rfl)))
   have G6:=zA.mk (ao (hon 11 (by kernel_rfl)))
   have a_:=zA.mk (au (hon 12 (by kernel_rfl)))
   have B6:=zA.mk (aq (hon 11 (by kernel_rfl)) hb_)
   have aA:=zA.mk ad
   have cj:w'.cell? ⟨g6,0,none⟩=some (.slice none 0 0):=(zK B6.out 0).trans rfl
   have ck:=zP B6.out 0
   refine zIX (w1:=w'.setCell ⟨g6,0,none⟩ (.slice AS ax.length cS)) (by rfl) rfl ?_ ?_
   next=>
    go_simp;try rfl
   refine hK.out _ _ ⟨AP,cP,AS,cS,g5,g6,ay,az,aj,ak,(by rw[ha.out];exact zCG (v:=undef) rfl),qJ (p:=⟨g6,0,none⟩) BT.out (Qz BT.out B6.out (by decide)) _,zF HB.out G6.out,fun _=>Kd.ZR (p:=⟨g6,0,none⟩) RP.out (fun k hk e=>zCc RP.out B6.out (by decide) (by have q_:k=g6:=e;rw[← q_];exact hk)) _,fun _=>Kd.ZR (p:=⟨g6,0,none⟩) RS.out (fun k hk e=>zCc RS.out B6.out (by decide) (by have q_:k=g6:=e;rw[← q_];exact hk)) _,Q_NPS,an,ao,fun _ aw=>absurd ((hon 12 (by kernel_rfl)).symm.trans aw) (by decide),fun _=>qJ (p:=⟨g6,0,none⟩) a_.out (aA.out (hon 10 (by kernel_rfl)) (hon 11 (by kernel_rfl))) _,fun _ aw=>absurd ((zBQ b 13).symm.trans aw) (by decide),fun _=>qf B6.out 0 _ rfl,ad,ag,al,ae,af⟩
  exact zDw
 rintro b a w' hall ⟨AP,cP,AS,cS,g5,g6,ay,az,aj,ak,ha,Q_BT,Q_HB,Q_RP,Q_RS,Q_NPS,an,ao,ar,au,aq,av,ad,ag,al,ae,af⟩
 clear BT HB aA;have ba:=hall 1 (by kernel_rfl)
 have bb:=hall 2 (by kernel_rfl)
 have bc:=hall 3 (by kernel_rfl)
 have aL:=hall 4 (by kernel_rfl)
 have bd:=hall 6 (by kernel_rfl)
 have bf:=hall 7 (by kernel_rfl)
 have bg:=hall 8 (by kernel_rfl)
 have aH:=hall 9 (by kernel_rfl)
 have aD:=hall 10 (by kernel_rfl)
 have aE:=hall 11 (by kernel_rfl)
 have aI:=hall 12 (by kernel_rfl)
 have aJ:=hall 13 (by kernel_rfl)
 subst ha;obtain rfl:=ag aL
 obtain rfl:=al aH
 obtain rfl:=ae aD
 obtain rfl:=af aE
 simp only [QP,ba,bb,bc,aL,bd,bf,bg,aH,aD,aE,aI,aJ,if_true,Act.put,yay,yby,ycy]
 have BT:=zA.mk Q_BT
 clear Q_BT;have HB:=zA.mk Q_HB
 clear Q_HB;have RP:=zA.mk (Q_RP aL)
 clear Q_RP;have RS:=zA.mk (Q_RS aH)
 clear Q_RS;have NPS:=zA.mk (Q_NPS aH)
 clear Q_NPS;have G5:=zA.mk (an aD)
 clear an;have G6:=zA.mk (ao aE)
 clear ao;clear ar;have a_:=zA.mk (au aI)
 clear au;clear aq;have bs:=zA.mk (av aJ)
 clear av;have aA:=zA.mk ad
 clear ad;clear hall ba bb bc aL bd bf bg aH aD aE aI aJ;have HMZ:zA (g5<w'.heap.size∧g6<w'.heap.size):=⟨qT a_.out,qT bs.out⟩
 have bp:zA (zAQ w w.heap.size #[.slice ah aa.length ai] g5 g6 w'.heap.size (16*aa.length) (.slice AP ax.length cP) (.slice AS ax.length cS) (ax,ax) w'):=⟨⟨HB.out,a_.out,bs.out,BT.out,RP.out,RS.out,yry _,fun k hk=>Kd.JO RP.out k hk.symm,fun k hk=>Kd.JO RS.out k hk.symm,NPS.out,by rw[aK.out];exact Lib.qU _ _,by rw[aK.out];exact Lib.qU _ _⟩⟩
 have hT:w'.cell? ⟨w.heap.size,0,none⟩=some (.slice ah aa.length ai):=(zK BT.out 0).trans rfl
 clear BT RP RS NPS G5 G6 a_ bs aA hHeld HB hT;generalize aR:w'.heap.size=m2 at bp HMZ
 clear aR;have hT:w'.cell? ⟨w.heap.size,0,none⟩=some (.slice ah aa.length ai):=(zK bp.out.bT 0).trans rfl
 go_wp2_with fail
 refine(zCl.calls 100 _ Try.func100 (by kernel_rfl) rfl #[.pointer (some ⟨g6,0,none⟩),.pointer (some ⟨g5,0,none⟩)] aa ah ai w _ (zAQ w w.heap.size #[.slice ah aa.length ai] g5 g6 m2 (16*aa.length) (.slice AP ax.length cP) (.slice AS ax.length cS)) Jz (ax,ax) (fun _=>0) (4*(aa.map List.length).sum) (fun _ _ _ _=>Nat.zero_le _) (Nat.le_of_eq (Nat.zero_add _)) (fun _ _ _ h hb=>h.stays hb) (fun _ _ h=>h.below) HR.out (fun r hr x hx hb=>(HOK.out.2.2 r hr x hx hb).2) ?aS ?a0).mono ?_
 case aS=>exact fun s W j f x hI hF hb _=>le_step HOK.out s W j f x hI hF hb
 case a0=>exact bp.out
 rintro ed w4 ⟨rfl,hI⟩
 have HI:=zA.mk (show zAQ w w.heap.size #[.slice ah aa.length ai] g5 g6 m2 (16*aa.length) (.slice AP ax.length cP) (.slice AS ax.length cS) (JB aa) w4 by rw[aK.out]at hI ⊢;exact hI)
 have bt:w4.cell? ⟨w.heap.size,0,none⟩=some (.slice ah aa.length ai):=(zK HI.out.bT 0).trans rfl
 clear hI hT bp;have hmm := @run_makeMap Try.prog
 have bX:((w4.alloc (.map #[] 0)).alloc (.map #[] 0)).cell? ⟨w.heap.size,0,none⟩=some (.slice ah aa.length ai):=((zC (zC (ysy w4.heap.size w4) _) _).cell (yqy w4 _ bt)).trans bt
 go_wp2_with fail
 refine(ze.calls k ah ai aa a1 cs _ (Kd.qD HR.out (zC (zC HI.out.below _) _)) HC.out HCR.out).mono ?_
 rintro ed w6 ⟨v7,rfl,ho,hb⟩
 have aF:zA (w6.ownsMap Try.prog 2 (plainElem Try.prog 4) w4.heap.size 0 (.map [])):=⟨zA0 ((World.ownsMap_made w4 _ _ _).alloc _) hb⟩
 have aG:zA (w6.ownsMap Try.prog 2 (plainElem Try.prog 4) (w4.heap.size+1) 0 (.map [])):=⟨zA0 (by have q:=World.ownsMap_made (H:=Unit) (w4.alloc (.map #[] 0)) Try.prog 2 (plainElem Try.prog 4);rw[World.size_alloc]at q;exact q) hb⟩
 have bY:=zA.mk (zM (zC (zC (ysy w4.heap.size w4) (.map #[] 0)) (.map #[] 0)) hb)
 have bu:=zA.mk (Kd.ZC (Kd.zGY ho) (ok':=fun k=>w4.heap.size+2≤k) (fun k hk=>by have:=hk.2.1;rw[World.size_alloc,World.size_alloc]at this;omega))
 obtain⟨A7,c7,ev⟩:=Kd.QM ho
 subst ev;clear ho hb bt bX hmm;have cm:=zA.mk (show g5<w4.heap.size∧g6<w4.heap.size from⟨qT HI.out.bP,qT HI.out.bS⟩)
 generalize World.heap (World.alloc (World.alloc w4 _) _)=cn at bu
 generalize hgm:w4.heap.size=gm at *
 have bw:=HRR;have HLP:=zA.mk HI.out.lenP
 have HLS:=zA.mk HI.out.lenS
 generalize JB aa=M at *
 obtain⟨mP,mS⟩:=M
 have bx:=zA.mk (show((Jq mP cs []).length:Int)-((Jq mS cs []).length:Int)+(cs.length:Int)=r from HRR.out)
 clear HRR bw;have HQ:zA (Jq mP (cs.drop 0) []=Jq mP cs []∧Jq mS (cs.drop 0) []=Jq mS cs []):=⟨by rw[List.drop_zero];exact⟨rfl,rfl⟩⟩
 generalize Jq mP cs []=KP at HQ bx
 generalize Jq mS cs []=KS at HQ bx
 have HKY:=zA.mk (Maps.int_keyed Try.underlying2:Maps.Keyed Try.prog 2)
 go_wp2;go_loopg [35] cs.length (fun gg bZ w' => ∃ (i:Nat) (kP kS:List Int) (D1 D2:DataW Unit),i≤cs.length∧cs.length-i≤gg∧bZ = .int .i64 i∧zA (Jq mP (cs.drop i) kP=KP∧Jq mS (cs.drop i) kS=KS)∧zA (KeysOf kP D1∧KeysOf kS D2)∧zA (w'.ownsMap Try.prog 2 (plainElem Try.prog 4) gm (4*i) D1)∧zA (w'.ownsMap Try.prog 2 (plainElem Try.prog 4) (gm+1) (4*i) D2)∧zA (Below gm w4 w' ∧ Kept w6 w' (fun k=>k=gm∨k=gm+1)))
 case atStart=>exact⟨0,[],[],.map [],.map [],Nat.zero_le _,by omega,rfl,HQ,⟨KeysOf.empty,KeysOf.empty⟩,aF,aG,⟨bY.out,Kept.refl _ _⟩⟩
 case round=>
  clear HQ aF aG;obtain⟨i,kP,kS,D1,D2,hi,hg,rfl,HQ,HKS,aF,aG,HB⟩:=hrel
  by_cases hlt:i<cs.length
  case neg=>
   obtain rfl:i=cs.length:=by omega
   have a7:=HQ.out
   rw[List.drop_length,Jq,Jq]at a7
   obtain⟨rfl,rfl⟩:=a7
   clear HQ;have bL:Maps.size D1=kP.length:=HKS.out.1.size
   have bM:Maps.size D2=kS.length:=HKS.out.2.size
   have cp:kP.length≤128:=by rw[← bL];exact Nat.le_trans aF.out.size_le (by omega)
   have cq:kS.length≤128:=by rw[← bM];exact Nat.le_trans aG.out.size_le (by omega)
   have bN:=zA.mk (Kd.ZF (Kd.zIC bu.out HB.out.2 (fun k hk e=>by omega)))
   go_wp2_with (first
    | (at_len;refine wpList_len_own _ rfl _ 103 rfl 2 4 Try.underlying103 _ gm (4*cs.length) D1 rfl aF.out ?_;rw[bL])
    | (at_len;refine wpList_len_own _ rfl _ 103 rfl 2 4 Try.underlying103 _ (gm+1) (4*cs.length) D2 rfl aG.out ?_;rw[bM]))
   refine(JN.calls _ _ cs (cs.length:Int) _ bN.out.2.2 bN.out.2.1 rfl).mono ?_
   rintro ed w9 ⟨rfl,hd⟩
   have b0:=zA.mk (zM (zM HI.out.below (by rw[hgm];exact HB.out.1)) (qG.below hd))
   have bG:cs.length≤32:=bG
   clear hd;go_wp2;go_ret;exact⟨by rw[← bx.out];rfl,b0.out⟩
  have hltz:(i:Int)<(cs.length:Int):=by omega
  obtain⟨cr,A3,c3,e4,hy,b1,bz⟩:=zAw (Kd.ZF (Kd.zIC bu.out HB.out.2 (fun k hk e=>by omega))).2.2 (i:Int) (by omega) hltz
  subst e4;rw[yny]at hy
  have ex:qQ cs (i:Int)=cs[i]:=by simp [qQ,hlt]
  have hcc:=HCS.out cs[i] (yoy hlt)
  have a7:=HQ.out
  rw[ypy hlt,Jq,Jq,← ex]at a7
  rw[← ex]at hcc
  obtain⟨bO,ct,cu,cv,cw⟩:=hcc
  obtain⟨ada,ea,hya⟩:=Kd.qw bz 0 (by omega) (by omega)
  obtain⟨adv,ev,hyv⟩:=Kd.qw bz 1 (by omega) (by omega)
  subst ea;obtain rfl:ada=adv:=by injection ev
  clear ev b1 bz ex HQ;rw[bO]at hy
  replace hya:wr.cell? ada=some (.int .i64 (rd (qQ cs (i:Int)) 0)):=hya
  replace hyv:wr.cell? ⟨ada.block,ada.off+1,none⟩=some (.int .i64 (rd (qQ cs (i:Int)) 1)):=hyv
  have HQ:=zA.mk a7
  clear a7 bO;generalize rd (qQ cs (i:Int)) 0=a at *
  generalize rd (qQ cs (i:Int)) 1=v at *
  have cx:(1:Nat)<2:=by omega
  have HCF:zA (∀ (W:World) (g:Nat),W.heap.size=g→Kd.C (Kd.int .i64) (W.alloc (.cells #[.int .i64 v] 2)) (some ⟨g,0,none⟩) 1 [v]):=⟨fun W g hg=>by subst hg;exact(Kd.zq (show Kd.R (Kd.int .i64) 2 (W.alloc (.cells #[.int .i64 v] 2)) W.heap.size (fun _=>True) (.slice (some ⟨W.heap.size,0,none⟩) 1 1) [v]from
   Kd.JG ⟨by simp [zAo],.inr ⟨W.heap.size,1,#[.int .i64 v],rfl,yry _,ZL rfl _,yry 1,by decide,rfl,rfl⟩⟩ (fun _ _=>trivial))).2.2⟩
  have HLM:=zA.mk (show ∀ q∈Qt [v],sm q from fun q hq=>(QX hq).1)
  have b2:(Qt [v]).length≤4:=List.length_filter_le _ _
  generalize hLe:Qt [v]=L at HQ HLM b2
  have HLE:=zA.mk (show Zk.f [v]=some L by rw[← hLe];rfl)
  clear hLe;go_wp2_with fail
  refine(Zk.calls _ 1 [v] L _ (HCF.out _ _ rfl) (yry 1) HLE.out).mono ?_
  rintro ed w7 ⟨v0,rfl,ho,hb⟩
  have aW:Below wr.heap.size wr w7:=zM (zC (ysy _ _) _) hb
  have hsz:wr.heap.size≤(wr.alloc (.cells #[.int .i64 v] 2)).heap.size:=by rw[World.size_alloc];omega
  have bh:gm+2≤wr.heap.size:=by
   obtain⟨es,cl,h1⟩:=zCo aG.out
   have:=(Array.getElem?_eq_some_iff.1 h1).1
   omega
  have HL:zA (Kd.R (Kd.int .i64) 2 w7 gm (fun k=>gm+2≤k) v0 L):=⟨Kd.qx (Kd.qC (Kd.Zy ho) (ok':=fun k=>gm+2≤k) (fun k hk=>Nat.le_trans bh (Nat.le_trans hsz hk.2.1))) (by omega)⟩
  have b3:=zA.mk (HB.out.1.trans (aW.mono (show gm≤wr.heap.size by omega)))
  have b4:=zA.mk (HB.out.2.below aW)
  have aX:=zA.mk (zA0 aF.out aW)
  have aY:=zA.mk (zA0 aG.out aW)
  replace hya:=(aW.cell (yqy wr _ hya)).trans hya
  replace hyv:=(aW.cell (yqy wr _ hyv)).trans hyv
  have HYA:=zA.mk hya
  have HYV:=zA.mk hyv
  have HMS:zA (∀ k,(k=gm∨k=gm+1) → ∃ es cl,w7.heap[k]?=some (.map es cl)):=⟨fun k hk=>by rcases hk with rfl|rfl;exact zCo aX.out;exact zCo aY.out⟩
  clear hy hya hyv ho hb aW hsz bh HB aF aG HCF HLE;obtain⟨A8,c8,ev⟩:=Kd.ZE HL.out
  subst ev;have HV:zA (zAk mP (16*a+4*v) (L.drop 0) kP=zAk mP (16*a+4*v) L kP∧zAk mS (16*a+4*v) (L.drop 0) kS=zAk mS (16*a+4*v) L kS):=⟨by rw[List.drop_zero];exact⟨rfl,rfl⟩⟩
  generalize zAk mP (16*a+4*v) L kP=b5 at HV HQ
  generalize zAk mS (16*a+4*v) L kS=b6 at HV HQ
  go_wp2;go_loopg [45] L.length (fun gg b7 w' => ∃ (j:Nat) (kP kS:List Int) (D1 D2:DataW Unit),j≤L.length∧L.length-j≤gg∧b7 = .int .i64 j∧zA (zAk mP (16*a+4*v) (L.drop j) kP=b5∧zAk mS (16*a+4*v) (L.drop j) kS=b6)∧zA (KeysOf kP D1∧KeysOf kS D2)∧zA (w'.ownsMap Try.prog 2 (plainElem Try.prog 4) gm (4*i+j) D1)∧zA (w'.ownsMap Try.prog 2 (plainElem Try.prog 4) (gm+1) (4*i+j) D2)∧zA (Below gm w4 w' ∧ Kept w7 w' (fun k=>k=gm∨k=gm+1)))
  case atStart=>exact⟨0,kP,kS,D1,D2,Nat.zero_le _,by omega,rfl,HV,HKS,aX,aY,⟨b3.out,Kept.refl _ _⟩⟩
  case round=>
   clear HV HKS aX aY;obtain⟨j,kP,kS,D1,D2,hj,hgj,rfl,HV,HKS,aF,aG,HB⟩:=hrel
   by_cases aZ:j<L.length
   case neg=>
    obtain rfl:j=L.length:=by omega
    have a8:=HV.out
    rw[List.drop_length,zAk,zAk]at a8
    obtain⟨rfl,rfl⟩:=a8
    clear HV;go_wp2;go_roundg (cs.length-(i+1))
    case measure=>omega
    case rel=>exact⟨i+1,kP,kS,D1,D2,by omega,by omega,by go_num,HQ,HKS,⟨aF.out.mono (by omega)⟩,⟨aG.out.mono (by omega)⟩,⟨HB.out.1,b4.out.zFu HB.out.2 (fun k hk => .inl hk)⟩⟩
   have bj:(j:Int)<(L.length:Int):=by omega
   obtain⟨cy,e8,bA⟩:=Kd.qw (Kd.zq (Kd.zAI HL.out HB.out.2 (fun k hk e=>by omega))).2.2 (j:Int) (by omega) bj
   have ex:rd L (j:Int)=L[j]:=by simp [rd,aZ]
   rw[ex,yny]at bA
   have hqm:=HLM.out L[j] (yoy aZ)
   have a8:=HV.out
   rw[ypy aZ,zAk,zAk]at a8
   have HV:=zA.mk a8
   clear a8 ex;generalize L[j]=q at bA hqm HV
   obtain⟨cz,cA⟩:=hqm
   have hya:=zAe HYA.out HB.out.2 HMS.out
   have hyv:=zAe HYV.out HB.out.2 HMS.out
   subst e8;go_wp2;go_quiet (fail)
   clear hya hyv bA;have hdr:=zB (ysy wr.heap.size wr) nq
   have a2:gm≤wr.heap.size:=by
    obtain⟨es,cl,h1⟩:=zCo aF.out
    exact Nat.le_of_lt (Array.getElem?_eq_some_iff.1 h1).1
   have aM:=zA.mk (zA0 aF.out hdr)
   have aN:=zA.mk (zA0 aG.out hdr)
   have bk:=zA.mk (And.intro (HB.out.1.trans (hdr.mono a2)) (HB.out.2.below hdr))
   have hgs:=Nat.le_trans a2 hdr.size
   clear aF aG HB hdr a2;generalize wr.drewN nq=w3 at aM aN bk hgs ⊢
   have a5:zA (∀ k,(k=gm∨k=gm+1) → ∃ es cl,w3.heap[k]?=some (.map es cl)):=⟨fun k hk=>by rcases hk with rfl|rfl;exact zCo aM.out;exact zCo aN.out⟩
   have bl:=HI.out.stays (by rw[hgm];exact bk.out.1)
   have h0:0≤16*a+4*v+q:=by omega
   have h1:16*a+4*v+q<((16*aa.length:Nat):Int):=by omega
   obtain⟨id,hid⟩:=Int.eq_ofNat_of_zero_le h0
   rw[hid]at h1
   have hidn:id<16*aa.length:=by omega
   have aC:ax.length=16*aa.length:=by rw[aK.out];exact Lib.qU _ _
   obtain⟨adP,eP,hxP⟩:=Kd.qw (Kd.zq bl.rP).2.2 (id:Int) (by omega) (by rw[show mP.length=16*aa.length from HLP.out];exact h1)
   obtain⟨adS,eS,hxS⟩:=Kd.qw (Kd.zq bl.rS).2.2 (id:Int) (by omega) (by rw[show mS.length=16*aa.length from HLS.out];exact h1)
   rw[yny]at hxP hxS
   have b8:w3.cell? ⟨g5,0,none⟩=some (.slice AP ax.length cP):=(zK bl.bP 0).trans rfl
   have bB:w3.cell? ⟨g6,0,none⟩=some (.slice AS ax.length cS):=(zK bl.bS 0).trans rfl
   subst eP;subst eS;rw[hid]at HV ⊢
   have a6:=bQ.out id (by rw[show mP.length=16*aa.length from HLP.out];exact hidn)
   have aR:=bR.out id (by rw[show mS.length=16*aa.length from HLS.out];exact hidn)
   have aT:=zA.mk (Maps.keyOf_int_mk Try.underlying2 (zBu a6.1 a6.2))
   have aU:=zA.mk (Maps.keyOf_int_mk Try.underlying2 (zBu aR.1 aR.2))
   replace hxP:w3.cell? (adP.add id)=some (.int .i64 (rd mP (id:Int))):=hxP
   replace hxS:w3.cell? (adS.add id)=some (.int .i64 (rd mS (id:Int))):=hxS
   generalize rd mP (id:Int)=x1 at hxP aT HV
   generalize rd mS (id:Int)=x2 at hxS aU HV
   have q1:=eq_true (show(id:Int)<(ax.length:Int)by rw[aC];exact h1)
   have cB:=eq_true (show id<ax.length by rw[aC];exact hidn)
   have b9:i<32:=by omega
   have cC:j<4:=by omega
   clear bl h0 h1 hid hidn a6 aR aC;go_wp2_with (first|(at_mapUpdate;refine wpList_mapUpdate_own _ rfl _ _ _ 103 rfl 2 4 HKY.out Try.underlying103 _ gm (4*i+j) D1 rfl aM.out (by unfold maxLen;omega) _ _ _ rfl rfl aT.out (.lit (.bool true)) [] (plainElem_bool Try.underlying4 true) ?_;intro w5 hown hgrow;have bm:=zA.mk hown;have bn:=zA.mk (aN.out.kept hgrow (by simp));have aO:=Kept.zDC hgrow (Kept.refl w3 (fun k=>k=gm∨k=gm+1)) (fun e he=>by cases he;exact .inl (.inl rfl));have bC:=zA.mk (And.intro (bk.out.1.grown hgrow hgs (fun e he=>by cases he;exact yry _)) (bk.out.2.zFu aO (fun e he => .inl he)));have bD:=Nat.le_trans hgs hgrow.size;replace bB:=zAe bB aO a5.out;replace hxS:=zAe hxS aO a5.out;clear hown hgrow aO aM aN bk a5 b8 hxP)|(at_mapUpdate;refine wpList_mapUpdate_own _ rfl _ _ _ 103 rfl 2 4 HKY.out Try.underlying103 _ (gm+1) (4*i+j) D2 rfl bn.out (by unfold maxLen;omega) _ _ _ rfl rfl aU.out (.lit (.bool true)) [] (plainElem_bool Try.underlying4 true) ?_;intro w8 hown hgrow;have bE:=zA.mk hown;have bF:=zA.mk (bm.out.kept hgrow (by simp));have bo:=Kept.zDC hgrow (Kept.refl w5 (fun k=>k=gm∨k=gm+1)) (fun e he=>by cases he;exact .inl (.inr rfl));have b_:=zA.mk (And.intro (bC.out.1.grown hgrow bD (fun e he=>by cases he;exact Nat.le_succ _)) (bC.out.2.zFu bo (fun e he => .inl he)));clear hown hgrow bo bm bn bC bB hxS))
   go_roundg (L.length-(j+1))
   case measure=>omega
   case rel=>exact⟨j+1,zFP kP x1,zFP kS x2,_,_,by omega,by omega,by go_num,HV,⟨HKS.out.1.put x1,HKS.out.2.put x2⟩,bF,bE,b_⟩
def Ze (p:List Int→Bool):Nat→List (List Int)→Int
  | _,[] => -1
  | i,x :: xs=>if p x=true then(i:Int)else Ze p (i+1) xs
theorem zA1 (p:List Int→Bool) : ∀ (l:List (List Int)) (i:Nat),decide (0≤Ze p i l)=l.any p
  | [],_=>rfl
  | x :: xs,i=>by
    rw[Ze,List.any_cons,← zA1 p xs (i+1)]
    cases p x with
    | true=>rw[if_pos rfl];simp
    | false=>rw[if_neg (by simp)];simp
set_option maxHeartbeats 8000000 in
set_option maxRecDepth 100000 in
theorem Jc.calls (p:List Int→Bool) (ag:Value) (A0:Option Addr) (c0:Nat) (l0:List (List Int)) (w:World) (ah:Kd.C (Kd.slice 2 (Kd.int .i64)) w A0 l0.length l0)
    (hp : ∀ (W:World) (x:List Int) (A1:Option Addr) (c1:Nat),x∈l0→Below w.heap.size w W→Kd.C (Kd.int .i64) W A1 x.length x→x.length≤c1→Calls Try.prog 94 #[.slice A1 x.length c1,ag] W fun e W'=>e = .returned (.bool (p x))∧Below W.heap.size W W') :
    Calls Try.prog 111 #[.slice A0 l0.length c0,.func (.func 94) #[] #[ag]] w fun e w'=>e = .returned (.int .i64 (Ze p 0 l0))∧Below w.heap.size w w':=by
  have ai:=zA.mk ah
  have HP:=zA.mk hp
  clear ah hp;have hbig:l0.length≤9223372036854775807:=ai.out.2.1
  have HB:=zA.mk (ysy w.heap.size w)
  have H' : zA (Ze p 0 (l0.drop 0)=Ze p 0 l0):=⟨by rw[List.drop_zero]⟩
  generalize Ze p 0 l0=r at H' ⊢
  go_enter Try.func111,Try.ntmps111
  go_wp2;go_loopg [5,8] l0.length (fun gg v5 v8 w' => ∃ kk:Nat,kk≤l0.length∧l0.length-kk≤gg∧v8 = .int .i64 kk∧zA (Ze p kk (l0.drop kk)=r)∧zA (Below w.heap.size w w'))
  case atStart=>exact⟨0,Nat.zero_le _,by omega,rfl,H',HB⟩
  case round=>
    clear H' HB;obtain⟨kk,hkk,hg,rfl,HA,HB⟩:=hrel
    by_cases hlt:kk<l0.length
    · have hltz:(kk:Int)<(l0.length:Int):=by omega
      have H:=HA.out
      clear HA;rw[ypy hlt,Ze]at H
      obtain⟨ad,A1,c1,ab,hx,ae,aa⟩:=zAw ai.out (kk:Int) (by omega) (by omega)
      have ex:qQ l0 (kk:Int)=l0[kk]:=by simp [qQ,hlt]
      rw[ex]at hx ae aa
      rw[yny]at hx
      replace hx:=(HB.out.cell (yqy w _ hx)).trans hx
      replace aa:=Kd.qD aa HB.out
      have HC:=zA.mk (HP.out wr l0[kk] A1 c1 (yoy hlt) HB.out aa ae)
      generalize l0[kk]=y at hx H HC
      clear ex ae aa
      cases ab
      cases hq:p y with
      | true=>
        rw[hq]at HC H
        rw[if_pos rfl]at H
        have H2:=zA.mk H
        clear H;go_wp2_with fail
        refine HC.out.mono ?_
        rintro e w' ⟨rfl,hd⟩
        have af:=zA.mk (zM HB.out hd)
        clear hd HB HC;go_wp2;go_ret;exact⟨by rw[← H2.out];rfl,af.out⟩
      | false=>
        rw[hq]at HC H
        rw[if_neg (by simp)]at H
        have H2:=zA.mk H
        clear H;go_wp2_with fail
        refine HC.out.mono ?_
        rintro e w' ⟨rfl,hd⟩
        have af:=zA.mk (zM HB.out hd)
        clear hd HB HC;go_wp2;go_roundg (l0.length-(kk+1))
        case measure=>omega
        case rel=>exact⟨kk+1,by omega,by omega,by go_num,H2,af⟩
    · have hltz : ¬ (kk:Int)<(l0.length:Int):=by omega
      have e:kk=l0.length:=by omega
      subst e;have H2:=zA.mk (show(-1:Int)=r by have:=HA.out;rwa [List.drop_length,Ze]at this)
      clear HA;go_wp2;go_ret;exact⟨by rw[← H2.out];rfl,HB.out⟩
set_option maxHeartbeats 8000000 in
set_option maxRecDepth 100000 in
theorem JM.calls (p:List Int→Bool) (aa:Value) (A0:Option Addr) (c0:Nat) (l0:List (List Int)) (w:World) (ab:Kd.C (Kd.slice 2 (Kd.int .i64)) w A0 l0.length l0)
    (hp : ∀ (W:World) (x:List Int) (A1:Option Addr) (c1:Nat),x∈l0→Below w.heap.size w W→Kd.C (Kd.int .i64) W A1 x.length x→x.length≤c1→Calls Try.prog 94 #[.slice A1 x.length c1,aa] W fun e W'=>e = .returned (.bool (p x))∧Below W.heap.size W W') :
    Calls Try.prog 68 #[.slice A0 l0.length c0,.func (.func 94) #[] #[aa]] w fun e w'=>e = .returned (.bool (l0.any p))∧Below w.heap.size w w':=by
  have ad:=zA.mk ab
  have HP:=zA.mk hp
  have HA:=zA.mk (zA1 p l0 0)
  clear ab hp;generalize l0.any p=b at HA ⊢
  go_enter Try.func68,Try.ntmps68
  go_wp2_with fail
  refine(Jc.calls p aa A0 c0 l0 w ad.out HP.out).mono ?_
  rintro e w' ⟨rfl,hd⟩
  have HB:=zA.mk hd
  generalize Ze p 0 l0=q at HA
  clear hd;go_wp2;go_ret;exact⟨by rw[← HA.out];rfl,HB.out⟩
def ZQ (p:Int→Bool):Nat→List (Int)→Int
  | _,[] => -1
  | i,x :: xs=>if p x=true then(i:Int)else ZQ p (i+1) xs
theorem Jm (p:Int→Bool) : ∀ (l:List (Int)) (i:Nat),decide (0≤ZQ p i l)=l.any p
  | [],_=>rfl
  | x :: xs,i=>by
    rw[ZQ,List.any_cons,← Jm p xs (i+1)]
    cases p x with
    | true=>rw[if_pos rfl];simp
    | false=>rw[if_neg (by simp)];simp
set_option maxHeartbeats 8000000 in
set_option maxRecDepth 100000 in
theorem JS.calls (p:Int→Bool) (ae af:Value) (A0:Option Addr) (c0:Nat) (l0:List (Int)) (w:World) (ag:Kd.C (Kd.int .i64) w A0 l0.length l0)
    (hp : ∀ (W:World) (x:Int),x∈l0→Below w.heap.size w W→Calls Try.prog 97 #[.int .i64 x,ae,af] W fun e W'=>e = .returned (.bool (p x))∧Below W.heap.size W W') :
    Calls Try.prog 122 #[.slice A0 l0.length c0,.func (.func 97) #[] #[ae,af]] w fun e w'=>e = .returned (.int .i64 (ZQ p 0 l0))∧Below w.heap.size w w':=by
  have ah:=zA.mk ag
  have HP:=zA.mk hp
  clear ag hp;have hbig:l0.length≤9223372036854775807:=ah.out.2.1
  have HB:=zA.mk (ysy w.heap.size w)
  have H' : zA (ZQ p 0 (l0.drop 0)=ZQ p 0 l0):=⟨by rw[List.drop_zero]⟩
  generalize ZQ p 0 l0=r at H' ⊢
  go_enter Try.func122,Try.ntmps122
  go_wp2;go_loopg [5,8] l0.length (fun gg v5 v8 w' => ∃ kk:Nat,kk≤l0.length∧l0.length-kk≤gg∧v8 = .int .i64 kk∧zA (ZQ p kk (l0.drop kk)=r)∧zA (Below w.heap.size w w'))
  case atStart=>exact⟨0,Nat.zero_le _,by omega,rfl,H',HB⟩
  case round=>
    clear H' HB;obtain⟨kk,hkk,hg,rfl,HA,HB⟩:=hrel
    by_cases hlt:kk<l0.length
    · have hltz:(kk:Int)<(l0.length:Int):=by omega
      have H:=HA.out
      clear HA;rw[ypy hlt,ZQ]at H
      obtain⟨ad,aa,hx⟩:=Kd.qw ah.out (kk:Int) (by omega) (by omega)
      have ex:rd l0 (kk:Int)=l0[kk]:=by simp [rd,hlt]
      rw[ex,yny]at hx
      replace hx:=(HB.out.cell (yqy w _ hx)).trans hx
      have HC:=zA.mk (HP.out wr l0[kk] (yoy hlt) HB.out)
      generalize l0[kk]=y at hx H HC
      clear ex
      cases aa
      cases hq:p y with
      | true=>
        rw[hq]at HC H
        rw[if_pos rfl]at H
        have H2:=zA.mk H
        clear H;go_wp2_with fail
        refine HC.out.mono ?_
        rintro e w' ⟨rfl,hd⟩
        have ab:=zA.mk (zM HB.out hd)
        clear hd HB HC;go_wp2;go_ret;exact⟨by rw[← H2.out];rfl,ab.out⟩
      | false=>
        rw[hq]at HC H
        rw[if_neg (by simp)]at H
        have H2:=zA.mk H
        clear H;go_wp2_with fail
        refine HC.out.mono ?_
        rintro e w' ⟨rfl,hd⟩
        have ab:=zA.mk (zM HB.out hd)
        clear hd HB HC;go_wp2;go_roundg (l0.length-(kk+1))
        case measure=>omega
        case rel=>exact⟨kk+1,by omega,by omega,by go_num,H2,ab⟩
    · have hltz : ¬ (kk:Int)<(l0.length:Int):=by omega
      have e:kk=l0.length:=by omega
      subst e;have H2:=zA.mk (show(-1:Int)=r by have:=HA.out;rwa [List.drop_length,ZQ]at this)
      clear HA;go_wp2;go_ret;exact⟨by rw[← H2.out];rfl,HB.out⟩
set_option maxHeartbeats 8000000 in
set_option maxRecDepth 100000 in
theorem JC.calls (p:Int→Bool) (aa ab:Value) (A0:Option Addr) (c0:Nat) (l0:List (Int)) (w:World) (ad:Kd.C (Kd.int .i64) w A0 l0.length l0)
    (hp : ∀ (W:World) (x:Int),x∈l0→Below w.heap.size w W→Calls Try.prog 97 #[.int .i64 x,aa,ab] W fun e W'=>e = .returned (.bool (p x))∧Below W.heap.size W W') :
    Calls Try.prog 95 #[.slice A0 l0.length c0,.func (.func 97) #[] #[aa,ab]] w fun e w'=>e = .returned (.bool (l0.any p))∧Below w.heap.size w w':=by
  have ae:=zA.mk ad
  have HP:=zA.mk hp
  have HA:=zA.mk (Jm p l0 0)
  clear ad hp;generalize l0.any p=b at HA ⊢
  go_enter Try.func95,Try.ntmps95
  go_wp2_with fail
  refine(JS.calls p aa ab A0 c0 l0 w ae.out HP.out).mono ?_
  rintro e w' ⟨rfl,hd⟩
  have HB:=zA.mk hd
  generalize ZQ p 0 l0=q at HA
  clear hd;go_wp2;go_ret;exact⟨by rw[← HA.out];rfl,HB.out⟩
end Go.Proofs.Ytembbpalgfikiaa.P
