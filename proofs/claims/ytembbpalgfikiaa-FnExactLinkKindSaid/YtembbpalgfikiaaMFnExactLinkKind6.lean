/- The statement FnExactLinkKindSaid, proved: part 6 of 9 (texts of this session and of the kit's print, put together and cut to what is used by a program of it). -/
import Derived.Test.YtembbpalgfikiaaMFnExactLinkKind5
namespace Go.Proofs.Ytembbpalgfikiaa.P
open Go.RowKit Go.Proofs.YtembbpalgfikiaaW.PrintWords Go.Proofs.YtembbpalgfikiaaW.PrintLast Go.Proofs.YtembbpalgfikiaaW.PrintMore
attribute [local go_sem] Ji Jj zAU zAV JK JL Jk Jl
set_option linter.unusedVariables false
set_option linter.unusedSimpArgs false
mutual
def zR.l0:Nat→Int→List Int→List Int→List Int→Int→List (List (zv))→Option ((List (List Int)) × (List (List Int)) × (List (List Int)) × List Int)
 | 0,_,_,_,_,_,_=>none
 | k+1,x4,x5,x6,x7,x8,x102000=>if x8<x4 then(zR.l1 k x4 x5 x6 x7 x8 0 x102000)else((some (([0,0,0,x4]:List Int):List Int)).bind fun y114=>((zf.f k x5 4).bind fun bt117=>(if 0<(y114.length:Int)then((zf.f k x6 6).bind fun bt122=>(if 1<(y114.length:Int)then((zf.f k x7 4).bind fun bt127=>(if 2<(y114.length:Int)then(some (bt117.1,bt122.1,bt127.1,(((y114.set (0:Int).toNat bt117.2).set (1:Int).toNat bt122.2).set (2:Int).toNat bt127.2)))else(none)))else(none)))else(none))))
def zR.l1:Nat→Int→List Int→List Int→List Int→Int→Int→List (List (zv))→Option ((List (List Int)) × (List (List Int)) × (List (List Int)) × List Int)
 | 0,_,_,_,_,_,_,_=>none
 | k+1,x4,x5,x6,x7,x8,x9,x102000=>if x9<4 then(if 0≤x8 then(if x8<(x102000.length:Int)then(if 0≤x9 then(if x9<((zE x102000 x8).length:Int)then(if((zI (zE x102000 x8) x9).f0)<0 then(zR.l1 k x4 x5 x6 x7 x8 (wrap64 (x9+1)) x102000)else((qi.f k ((zI (zE x102000 x8) x9).f1) x9).bind fun t135=>((qz.f x7 (wrap64 ((wrap64 (4*x8))+x9)) (wrap64 ((wrap64 (4*((zI (zE x102000 x8) x9).f0)))+t135))).bind fun t136=>(zR.l2 k x4 x5 x6 t136 x8 x9 0 x102000 ((zI (zE x102000 x8) x9).f0) ((zI (zE x102000 x8) x9).f1)))))else(none))else(none))else(none))else(none))else(zR.l0 k x4 x5 x6 x7 (wrap64 (x8+1)) x102000)
def zR.l2:Nat→Int→List Int→List Int→List Int→Int→Int→Int→List (List (zv))→Int→Int→Option ((List (List Int)) × (List (List Int)) × (List (List Int)) × List Int)
 | 0,_,_,_,_,_,_,_,_,_,_=>none
 | k+1,x4,x5,x6,x7,x8,x9,x11,x102000,x135000,x135001=>if x11<4 then(if x11=x9 then(zR.l2 k x4 x5 x6 x7 x8 x9 (wrap64 (x11+1)) x102000 x135000 x135001)else((qi.f k x135001 x11).bind fun t137=>((qz.f x5 (wrap64 ((wrap64 (4*x8))+x11)) (wrap64 ((wrap64 (4*x135000))+t137))).bind fun t138=>(zR.l2 k x4 t138 x6 x7 x8 x9 (wrap64 (x11+1)) x102000 x135000 x135001))))else(zR.l3 k x4 x5 x6 x7 x8 x9 0 x102000 x135000 x135001)
def zR.l3:Nat→Int→List Int→List Int→List Int→Int→Int→Int→List (List (zv))→Int→Int→Option ((List (List Int)) × (List (List Int)) × (List (List Int)) × List Int)
 | 0,_,_,_,_,_,_,_,_,_,_=>none
 | k+1,x4,x5,x6,x7,x8,x9,x12,x102000,x135000,x135001=>if x12<6 then((qy.f x12).bind fun bt139=>(if bt139.1=x9 then(zR.j4 k x4 x5 x6 x7 x8 x9 x12 bt139.1 bt139.2 false x102000 x135000 x135001)else(zR.j4 k x4 x5 x6 x7 x8 x9 x12 bt139.1 bt139.2 (bt139.2 != x9) x102000 x135000 x135001)))else(zR.l1 k x4 x5 x6 x7 x8 (wrap64 (x9+1)) x102000)
def zR.j4:Nat→Int→List Int→List Int→List Int→Int→Int→Int→Int→Int→Bool→List (List (zv))→Int→Int→Option ((List (List Int)) × (List (List Int)) × (List (List Int)) × List Int)
 | 0,_,_,_,_,_,_,_,_,_,_,_,_,_=>none
 | k+1,x4,x5,x6,x7,x8,x9,x12,x13,x14,x99,x102000,x135000,x135001=>if x99=true then((qi.f k x135001 x13).bind fun t141=>((qi.f k x135001 x14).bind fun t142=>((qI.f k t141 t142).bind fun t143=>((qz.f x6 (wrap64 ((wrap64 (6*x8))+x12)) (wrap64 ((wrap64 (6*x135000))+t143))).bind fun t144=>(zR.l3 k x4 x5 t144 x7 x8 x9 (wrap64 (x12+1)) x102000 x135000 x135001)))))else(zR.l3 k x4 x5 x6 x7 x8 x9 (wrap64 (x12+1)) x102000 x135000 x135001)
end
def zR.f (k:Nat) (l0_0:List (List (zv))):Option ((List (List Int)) × (List (List Int)) × (List (List Int)) × List Int):=(qb.f l0_0).bind fun t103=>((qF.f k (wrap64 (4*t103))).bind fun t104=>((qF.f k (wrap64 (6*t103))).bind fun t107=>((qF.f k (wrap64 (4*t103))).bind fun t110=>(zR.l0 k t103 t104 t107 t110 0 l0_0))))
def zR.T13:Bool × List (List Nat × List Nat):=(true,[([],[]),([],[]),([1],[1]),([],[]),([2,3],[2,3]),([],[]),([5],[5]),([6],[6]),([],[]),([8],[8]),([],[]),([9,10],[9,10]),([7,11],[7,11]),([0,4,12,11],[0,4,12])])
def zR.B13:List Nat := [0,0,2,0,14,0,32,96,0,256,0,1792,4064,8191]
theorem zR.tab13:Jg .any (opsOf Try.f84 13)=zR.T13:=by kernel_rfl
theorem zR.bits13:QK zR.T13.2 zR.B13=true:=by kernel_rfl
def zR.T18:Bool × List (List Nat × List Nat):=(true,[([],[]),([],[]),([1],[1]),([],[]),([2,3],[2,3]),([],[]),([5],[5]),([6],[6]),([],[]),([8],[8]),([],[]),([9,10],[9,10]),([7,11],[7,11]),([0,4,12,11],[0,4,12])])
def zR.B18:List Nat := [0,0,2,0,14,0,32,96,0,256,0,1792,4064,8191]
theorem zR.tab18:Jg .any (opsOf Try.f84 18)=zR.T18:=by kernel_rfl
theorem zR.bits18:QK zR.T18.2 zR.B18=true:=by kernel_rfl
def zR.T24:Bool × List (List Nat × List Nat):=(true,[([],[]),([],[]),([1],[1]),([],[]),([2,3],[2,3]),([],[]),([5],[5]),([6],[6]),([],[]),([8],[8]),([],[]),([9,10],[9,10]),([],[]),([12],[12]),([],[]),([13,14,11],[13,14]),([11,15,15],[11,15]),([7,16],[7,16]),([0,4,17,16],[0,4,17])])
def zR.B24:List Nat := [0,0,2,0,14,0,32,96,0,256,0,1792,0,4096,0,32512,65280,131040,262143]
theorem zR.tab24:Jg .any (opsOf Try.f84 24)=zR.T24:=by kernel_rfl
theorem zR.bits24:QK zR.T24.2 zR.B24=true:=by kernel_rfl
set_option maxHeartbeats 8000000 in
set_option maxRecDepth 100000 in
theorem zR.calls (k:Nat) (aS:Option Addr) (aE:Nat) (ad:List (List (zv))) (r1:List (List Int)) (r2:List (List Int)) (r3:List (List Int)) (r4:List Int) (w:World) (cV:Kd.C (Kd.slice 75 ZZ) w aS ad.length ad) (cW:ad.length≤aE) (h:zR.f k ad=some (r1,r2,r3,r4)) :
 Calls Try.prog 84 #[.agg #[.slice aS ad.length aE]] w fun e w' => ∃ eo ep er dy:Value,e = .returned (.tuple #[.agg #[eo,ep,er],dy])∧Kd.S (Kd.slice 2 (Kd.int .i64)) 22 w' w.heap.size (fun k_=>some k_≠(ep:Value).ownBlock∧some k_≠(er:Value).ownBlock∧some k_≠(dy:Value).ownBlock) eo r1∧Kd.S (Kd.slice 2 (Kd.int .i64)) 22 w' w.heap.size (fun k_=>some k_≠(eo:Value).ownBlock∧some k_≠(er:Value).ownBlock∧some k_≠(dy:Value).ownBlock) ep r2∧Kd.S (Kd.slice 2 (Kd.int .i64)) 22 w' w.heap.size (fun k_=>some k_≠(eo:Value).ownBlock∧some k_≠(ep:Value).ownBlock∧some k_≠(dy:Value).ownBlock) er r3∧Kd.R (Kd.int .i64) 2 w' w.heap.size (fun _=>True) dy r4∧Below w.heap.size w w':=by
 have fO:=Try.underlying35
 have fP:=Try.underlying88
 have fQ:=Try.underlying75
 have cq:=zA.mk cV
 have dz:=zA.mk cW
 clear cV cW;have HB:=zA.mk (ysy w.heap.size w)
 have H:((qb.f ad).bind fun t103=>((qF.f k (wrap64 (4*t103))).bind fun t104=>((qF.f k (wrap64 (6*t103))).bind fun t107=>((qF.f k (wrap64 (4*t103))).bind fun t110=>(zR.l0 k t103 t104 t107 t110 0 ad)))))=some (r1,r2,r3,r4):=h
 clear h;replace H:=ydy.mp H
 obtain⟨t103,fj,H⟩:=H
 replace H:((qF.f k (wrap64 (4*t103))).bind fun t104=>((qF.f k (wrap64 (6*t103))).bind fun t107=>((qF.f k (wrap64 (4*t103))).bind fun t110=>(zR.l0 k t103 t104 t107 t110 0 ad))))=some (r1,r2,r3,r4):=H
 have A2:=zA.mk fj
 clear fj;replace H:=ydy.mp H
 obtain⟨t104,fk,H⟩:=H
 replace H:((qF.f k (wrap64 (6*t103))).bind fun t107=>((qF.f k (wrap64 (4*t103))).bind fun t110=>(zR.l0 k t103 t104 t107 t110 0 ad)))=some (r1,r2,r3,r4):=H
 have A3:=zA.mk fk
 clear fk;replace H:=ydy.mp H
 obtain⟨t107,fl,H⟩:=H
 replace H:((qF.f k (wrap64 (4*t103))).bind fun t110=>(zR.l0 k t103 t104 t107 t110 0 ad))=some (r1,r2,r3,r4):=H
 have A4:=zA.mk fl
 clear fl;replace H:=ydy.mp H
 obtain⟨t110,fm,H⟩:=H
 replace H:(zR.l0 k t103 t104 t107 t110 0 ad)=some (r1,r2,r3,r4):=H
 have A5:=zA.mk fm
 clear fm;have H':=zA.mk H
 clear H;go_enter Try.func84,Try.ntmps84
 go_wp2_with (first|((with_reducible refine zw (N:=1) rfl ?_);refine zz ?hg (N:=1) ?hd (cs:=#[.slice aS ad.length aE]) (t:=35) ?hr ?_;(case hd=>rfl);(case hg=>rfl);(case hr=>first|(go_simp;done)|(go_simp;rfl));intro au hg w6 hbox hb;have az:=zA.mk (zM (by repeat(first|(with_reducible first|exact HB.out|apply zC|apply zB|apply zD)|exact HB.out)) hb);have aA:=zA.mk (hbox);have aB:=zA.mk ((by rw[hg];exact(zQ (by repeat(first|(with_reducible first|exact HB.out|apply zC|apply zB|apply zD)|exact HB.out))):w.heap.size≤au));have aC:=zA.mk ((by rw[hg];exact(zQ (by repeat(first|(with_reducible first|exact HB.out|apply zC|apply zB|apply zD)|exact HB.out))):w.heap.size≤au));clear HB;have HB:=az;have aa:=aA;have fo:=aB;have ar:=aC;clear az aA aB aC;clear hb hbox hg)|((with_reducible refine zw (N:=2) rfl ?_);refine zz ?hg (N:=2) ?hd (cs:=#[.slice none 0 0,.slice none 0 0,.slice none 0 0]) (t:=88) ?hr ?_;(case hd=>rfl);(case hg=>rfl);(case hr=>first|(go_simp;done)|(go_simp;rfl));intro an hg w7 hbox hb;have az:=zA.mk (zO (g:=au) (o := .cells #[.slice aS ad.length aE] 35 (0,0)) (by(with_reducible repeat(first|refine zH ?_ _|refine zJ ?_|refine zG ?_ _));exact aa.out) hb);have aA:=zA.mk (zM (by repeat(first|(with_reducible first|exact HB.out|apply zC|apply zB|apply zD|refine zF ?_ ar.out)|exact HB.out)) hb);have aB:=zA.mk (hbox);have aC:=zA.mk ((by rw[hg];exact(zQ (by repeat(first|(with_reducible first|exact HB.out|apply zC|apply zB|apply zD|refine zF ?_ ar.out)|exact HB.out))):w.heap.size≤an));have aF:=zA.mk ((by rw[hg];exact(zQ (by repeat(first|(with_reducible first|exact HB.out|apply zC|apply zB|apply zD|refine zF ?_ ar.out)|exact HB.out))):w.heap.size≤an));have aI:=zA.mk ((by rw[hg];exact Nat.ne_of_lt (qT (g:=au) (o := .cells #[.slice aS ad.length aE] 35 (0,0)) (by(with_reducible repeat(first|refine zH ?_ _|refine zJ ?_|refine zG ?_ _));exact aa.out)):au≠an));have aJ:=zA.mk ((by rw[hg];exact Nat.ne_of_gt (qT (g:=au) (o := .cells #[.slice aS ad.length aE] 35 (0,0)) (by(with_reducible repeat(first|refine zH ?_ _|refine zJ ?_|refine zG ?_ _));exact aa.out)):an≠au));clear aa;clear HB;have aa:=az;have HB:=aA;have ab:=aB;have fp:=aC;have av:=aF;have bo:=aI;have bp:=aJ;clear az aA aB aC aF aI aJ;clear hb hbox hg;have fR:=bo.out;have fS:=bp.out;have bH:w7.cell? ⟨au,0,none⟩=some (.slice aS ad.length aE):=(zK aa.out 0).trans rfl;have bI:=zP aa.out 0)|((with_reducible refine zd (f:=66) rfl ?_);refine qV (some 18) rfl rfl Try.func66 (by kernel_rfl) rfl #[.agg #[.slice aS ad.length aE]] rfl (by(try simp only [yiy,yjy,yky]);first|done|rfl|(simp only [yly,ymy];rfl)) ?_;(with_reducible refine(qb.calls _ _ ad t103 _ ?side1 ?side2 A2.out).mono ?_);(case side1=>repeat(first|exact(Kd.qD cq.out HB.out)|(with_reducible refine Kd.zy ?_ _)|(with_reducible refine Kd.qA ?_ _)|(with_reducible refine Kd.qR ?_)));(case side2=>exact dz.out);rintro e gw ⟨rfl,hb⟩;refine⟨_,rfl,?_⟩;have az:=zA.mk (zO (g:=au) (o := .cells #[.slice aS ad.length aE] 35 (0,0)) (by(with_reducible repeat(first|refine zH ?_ _|refine zJ ?_|refine zG ?_ _));exact aa.out) hb);have aA:=zA.mk (zO (g:=an) (o := .cells #[.slice none 0 0,.slice none 0 0,.slice none 0 0] 88 (0,0)) (by(with_reducible repeat(first|refine zH ?_ _|refine zJ ?_|refine zG ?_ _));exact ab.out) hb);have aB:=zA.mk (zM (by repeat(first|(with_reducible first|exact HB.out|apply zC|apply zB|apply zD|refine zF ?_ ar.out|refine zF ?_ av.out)|exact HB.out)) hb);clear aa;clear ab;clear HB;have aa:=az;have ab:=aA;have HB:=aB;clear az aA aB;(try clear hb);(try clear hb2);(try clear hk);(try clear hi))|((with_reducible refine zd (f:=91) rfl ?_);refine qV (some 21) rfl rfl Try.func91 (by kernel_rfl) rfl #[.int .i64 (wrap64 (4*t103))] rfl (by(try simp only [yiy,yjy,yky]);first|done|rfl|(simp only [yly,ymy];rfl)) ?_;(with_reducible refine(qF.calls k (wrap64 (4*t103)) t104 _ A3.out).mono ?_);rintro e gx ⟨bh,rfl,bJ,hb⟩;refine⟨_,rfl,?_⟩;have az:=zA.mk (Kd.qx bJ (zQ (by repeat(first|(with_reducible first|exact HB.out|apply zC|apply zB|apply zD|refine zF ?_ ar.out|refine zF ?_ av.out)|exact HB.out))));have aA:=zA.mk (zO (g:=au) (o := .cells #[.slice aS ad.length aE] 35 (0,0)) (by(with_reducible repeat(first|refine zH ?_ _|refine zJ ?_|refine zG ?_ _));exact aa.out) hb);have aB:=zA.mk (zO (g:=an) (o := .cells #[.slice none 0 0,.slice none 0 0,.slice none 0 0] 88 (0,0)) (by(with_reducible repeat(first|refine zH ?_ _|refine zJ ?_|refine zG ?_ _));exact ab.out) hb);have aC:=zA.mk (zM (by repeat(first|(with_reducible first|exact HB.out|apply zC|apply zB|apply zD|refine zF ?_ ar.out|refine zF ?_ av.out)|exact HB.out)) hb);clear aa;clear ab;clear HB;have bt:=az;have aa:=aA;have ab:=aB;have HB:=aC;clear az aA aB aC;(try clear hb);(try clear hb2);(try clear hk);(try clear hi);(try clear bJ))|((with_reducible refine zd (f:=91) rfl ?_);refine qV (some 24) rfl rfl Try.func91 (by kernel_rfl) rfl #[.int .i64 (wrap64 (6*t103))] rfl (by(try simp only [yiy,yjy,yky]);first|done|rfl|(simp only [yly,ymy];rfl)) ?_;(with_reducible refine(qF.calls k (wrap64 (6*t103)) t107 _ A4.out).mono ?_);rintro e gy ⟨aT,rfl,bJ,hb⟩;refine⟨_,rfl,?_⟩;have az:=zA.mk (Kd.Zs (by(with_reducible repeat(first|apply Kd.zS|apply Kd.zT|apply Kd.zZ));exact bt.out) (Kd.Zw bJ) hb);have aA:=zA.mk (Kd.qx (Kd.JP bJ (Kd.JO (by(with_reducible repeat(first|apply Kd.zS|apply Kd.zT|apply Kd.zZ));exact bt.out))) (zQ (by repeat(first|(with_reducible first|exact HB.out|apply zC|apply zB|apply zD|refine zF ?_ ar.out|refine zF ?_ av.out)|exact HB.out))));have aB:=zA.mk (zO (g:=au) (o := .cells #[.slice aS ad.length aE] 35 (0,0)) (by(with_reducible repeat(first|refine zH ?_ _|refine zJ ?_|refine zG ?_ _));exact aa.out) hb);have aC:=zA.mk (zO (g:=an) (o := .cells #[.slice none 0 0,.slice none 0 0,.slice none 0 0] 88 (0,0)) (by(with_reducible repeat(first|refine zH ?_ _|refine zJ ?_|refine zG ?_ _));exact ab.out) hb);have aF:=zA.mk (zM (by repeat(first|(with_reducible first|exact HB.out|apply zC|apply zB|apply zD|refine zF ?_ ar.out|refine zF ?_ av.out)|exact HB.out)) hb);clear bt;clear aa;clear ab;clear HB;have bt:=az;have b4:=aA;have aa:=aB;have ab:=aC;have HB:=aF;clear az aA aB aC aF;(try clear hb);(try clear hb2);(try clear hk);(try clear hi);(try clear bJ))|((with_reducible refine zd (f:=91) rfl ?_);refine qV (some 27) rfl rfl Try.func91 (by kernel_rfl) rfl #[.int .i64 (wrap64 (4*t103))] rfl (by(try simp only [yiy,yjy,yky]);first|done|rfl|(simp only [yly,ymy];rfl)) ?_;(with_reducible refine(qF.calls k (wrap64 (4*t103)) t110 _ A5.out).mono ?_);rintro e gz ⟨aU,rfl,bJ,hb⟩;refine⟨_,rfl,?_⟩;have az:=zA.mk (Kd.Zs (by(with_reducible repeat(first|apply Kd.zS|apply Kd.zT|apply Kd.zZ));exact bt.out) (Kd.Zw bJ) hb);have aA:=zA.mk (Kd.Zs (by(with_reducible repeat(first|apply Kd.zS|apply Kd.zT|apply Kd.zZ));exact b4.out) (Kd.Zw bJ) hb);have aB:=zA.mk (Kd.qx (Kd.JP (Kd.JP bJ (Kd.JO (by(with_reducible repeat(first|apply Kd.zS|apply Kd.zT|apply Kd.zZ));exact bt.out))) (Kd.JO (by(with_reducible repeat(first|apply Kd.zS|apply Kd.zT|apply Kd.zZ));exact b4.out))) (zQ (by repeat(first|(with_reducible first|exact HB.out|apply zC|apply zB|apply zD|refine zF ?_ ar.out|refine zF ?_ av.out)|exact HB.out))));have aC:=zA.mk (zO (g:=au) (o := .cells #[.slice aS ad.length aE] 35 (0,0)) (by(with_reducible repeat(first|refine zH ?_ _|refine zJ ?_|refine zG ?_ _));exact aa.out) hb);have aF:=zA.mk (zO (g:=an) (o := .cells #[.slice none 0 0,.slice none 0 0,.slice none 0 0] 88 (0,0)) (by(with_reducible repeat(first|refine zH ?_ _|refine zJ ?_|refine zG ?_ _));exact ab.out) hb);have aI:=zA.mk (zM (by repeat(first|(with_reducible first|exact HB.out|apply zC|apply zB|apply zD|refine zF ?_ ar.out|refine zF ?_ av.out)|exact HB.out)) hb);clear bt;clear b4;clear aa;clear ab;clear HB;have bt:=az;have b4:=aA;have dA:=aB;have aa:=aC;have ab:=aF;have HB:=aI;clear az aA aB aC aF aI;(try clear hb);(try clear hb2);(try clear hk);(try clear hi);(try clear bJ)))
 go_loopg [8] k (fun kq v8 w' => ∃ (aG:List Int) (aK:List Int) (aY:List Int) (af:Int),v8 = .int .i64 af∧zA (zR.l0 kq t103 aG aK aY af ad=some (r1,r2,r3,r4))∧zA (kq≤k)∧zA (Kd.R (Kd.int .i64) 2 w' w.heap.size (fun k_=>some k_≠(aT:Value).ownBlock∧some k_≠(aU:Value).ownBlock) bh aG)∧zA (Kd.R (Kd.int .i64) 2 w' w.heap.size (fun k_=>some k_≠(bh:Value).ownBlock∧some k_≠(aU:Value).ownBlock) aT aK)∧zA (Kd.R (Kd.int .i64) 2 w' w.heap.size (fun k_=>some k_≠(bh:Value).ownBlock∧some k_≠(aT:Value).ownBlock) aU aY)∧zA (w'.heap[au]?=some (.cells #[(.slice aS ad.length aE)] 35 (0,0)))∧zA (w'.heap[an]?=some (.cells #[(.slice none 0 0),(.slice none 0 0),(.slice none 0 0)] 88 (0,0)))∧zA (Below w.heap.size w w'))
 case atStart=>exact⟨(t104),(t107),(t110),(0),(by first|rfl|(simp;done)|(simp [*];done)),H',⟨yry _⟩,⟨by(with_reducible repeat(first|apply Kd.zS|apply Kd.zT|apply Kd.zZ));exact Kd.qC bt.out (fun _ hk=>⟨hk.1.2,hk.2⟩)⟩,⟨by(with_reducible repeat(first|apply Kd.zS|apply Kd.zT|apply Kd.zZ));exact Kd.qC b4.out (fun _ hk=>⟨hk.1.2,hk.2⟩)⟩,⟨by(with_reducible repeat(first|apply Kd.zS|apply Kd.zT|apply Kd.zZ));exact Kd.qC dA.out (fun _ hk=>⟨hk.1.2,hk.2⟩)⟩,⟨by(with_reducible repeat(first|refine zH ?_ _|refine zJ ?_|refine zG ?_ _));exact aa.out⟩,⟨by(with_reducible repeat(first|refine zH ?_ _|refine zJ ?_|refine zG ?_ _));exact ab.out⟩,⟨by repeat(first|(with_reducible first|exact HB.out|apply zC|apply zB|apply zD|refine zF ?_ ar.out|refine zF ?_ av.out)|exact HB.out)⟩⟩
 case round=>
  clear H';(try clear p2);(try clear c6);(try clear p6);(try clear c8);(try clear c9);(try clear bH);(try clear bI);obtain⟨aG,aK,aY,af,rfl,HA,cc,aj,ak,ai,aa,ab,HB⟩:=hrel
  cases gk with
  | zero=>exact absurd HA.out (by simp [zR.l0])
  | succ k1=>
   have H:=HA.out
   clear HA;simp only [zR.l0]at H
   by_cases cN:af<t103
   case neg=>
    rw[if_neg cN]at H
    have b5:decide (af<t103)=false:=yhy cN
    clear cN;obtain⟨aw,b6⟩ : ∃ y_:List Int,y_=(([0,0,0,t103]:List Int)):=⟨_,rfl⟩
    replace H:((zf.f k1 aG 4).bind fun cX=>(if 0<(aw.length:Int)then((zf.f k1 aK 6).bind fun bD=>(if 1<(aw.length:Int)then((zf.f k1 aY 4).bind fun bd=>(if 2<(aw.length:Int)then(some (cX.1,bD.1,bd.1,(((aw.set (0:Int).toNat cX.2).set (1:Int).toNat bD.2).set (2:Int).toNat bd.2)))else(none)))else(none)))else(none)))=some (r1,r2,r3,r4):=by first|(rw[b6];with_reducible exact H)|(have cf:=(yfy _ _).symm.trans H;rw[b6];with_reducible exact cf)|(have cf:=(yfy _ _).symm.trans H;with_reducible exact cf)|with_reducible exact H|(rw[b6];exact H)|exact H
    have cY:=zA.mk b6
    clear b6;replace H:=ydy.mp H
    obtain⟨⟨t117,t118⟩,dB,H⟩:=H
    replace H:(if 0<(aw.length:Int)then((zf.f k1 aK 6).bind fun bD=>(if 1<(aw.length:Int)then((zf.f k1 aY 4).bind fun bd=>(if 2<(aw.length:Int)then(some (t117,bD.1,bd.1,(((aw.set (0:Int).toNat t118).set (1:Int).toNat bD.2).set (2:Int).toNat bd.2)))else(none)))else(none)))else(none))=some (r1,r2,r3,r4):=H
    have fT:=zA.mk dB
    clear dB;by_cases et:0<(aw.length:Int)
    case neg=>
     rw[if_neg et]at H
     exact absurd H (by simp)
    rw[if_pos et]at H
    have fq:decide (0<(aw.length:Int))=true:=ygy et
    have fr:decide (0<aw.length)=true:=ygy (by omega)
    clear et;obtain⟨cr,b7⟩ : ∃ y_:List Int,y_=(aw.set (0:Int).toNat t118):=⟨_,rfl⟩
    replace H:((zf.f k1 aK 6).bind fun bD=>(if 1<(aw.length:Int)then((zf.f k1 aY 4).bind fun bd=>(if 2<(aw.length:Int)then(some (t117,bD.1,bd.1,((cr.set (1:Int).toNat bD.2).set (2:Int).toNat bd.2)))else(none)))else(none)))=some (r1,r2,r3,r4):=by first|(rw[b7];with_reducible exact H)|(have cf:=(yfy _ _).symm.trans H;rw[b7];with_reducible exact cf)|(have cf:=(yfy _ _).symm.trans H;with_reducible exact cf)|with_reducible exact H|(rw[b7];exact H)|exact H
    have dC:=zA.mk b7
    clear b7;replace H:=ydy.mp H
    obtain⟨⟨t122,t123⟩,dD,H⟩:=H
    replace H:(if 1<(aw.length:Int)then((zf.f k1 aY 4).bind fun bd=>(if 2<(aw.length:Int)then(some (t117,t122,bd.1,((cr.set (1:Int).toNat t123).set (2:Int).toNat bd.2)))else(none)))else(none))=some (r1,r2,r3,r4):=H
    have fU:=zA.mk dD
    clear dD;by_cases eu:1<(aw.length:Int)
    case neg=>
     rw[if_neg eu]at H
     exact absurd H (by simp)
    rw[if_pos eu]at H
    have fs:decide (1<(aw.length:Int))=true:=ygy eu
    have ft:decide (1<aw.length)=true:=ygy (by omega)
    clear eu;obtain⟨ct,b8⟩ : ∃ y_:List Int,y_=(cr.set (1:Int).toNat t123):=⟨_,rfl⟩
    replace H:((zf.f k1 aY 4).bind fun bd=>(if 2<(aw.length:Int)then(some (t117,t122,bd.1,(ct.set (2:Int).toNat bd.2)))else(none)))=some (r1,r2,r3,r4):=by first|(rw[b8];with_reducible exact H)|(have cf:=(yfy _ _).symm.trans H;rw[b8];with_reducible exact cf)|(have cf:=(yfy _ _).symm.trans H;with_reducible exact cf)|with_reducible exact H|(rw[b8];exact H)|exact H
    have dE:=zA.mk b8
    clear b8;replace H:=ydy.mp H
    obtain⟨⟨t127,t128⟩,dF,H⟩:=H
    replace H:(if 2<(aw.length:Int)then(some (t117,t122,t127,(ct.set (2:Int).toNat t128)))else(none))=some (r1,r2,r3,r4):=H
    have fV:=zA.mk dF
    clear dF;by_cases ev:2<(aw.length:Int)
    case neg=>
     rw[if_neg ev]at H
     exact absurd H (by simp)
    rw[if_pos ev]at H
    have fu:decide (2<(aw.length:Int))=true:=ygy ev
    have fv:decide (2<aw.length)=true:=ygy (by omega)
    clear ev;obtain⟨dG,b9⟩ : ∃ y_:List Int,y_=(ct.set (2:Int).toNat t128):=⟨_,rfl⟩
    replace H:(some (t117,t122,t127,dG))=some (r1,r2,r3,r4):=by first|(rw[b9];with_reducible exact H)|(have cf:=(yfy _ _).symm.trans H;rw[b9];with_reducible exact cf)|(have cf:=(yfy _ _).symm.trans H;with_reducible exact cf)|with_reducible exact H|(rw[b9];exact H)|exact H
    have dH:=zA.mk b9
    clear b9;simp only [Option.some.injEq,Prod.mk.injEq]at H
    obtain⟨rfl,rfl,rfl,rfl⟩:=H
    go_wp2_with (first|((with_reducible refine zw (N:=15) rfl ?_);refine zz ?hg (N:=15) ?hd (cs:=#[.slice none 0 0,.slice none 0 0,.slice none 0 0]) (t:=88) ?hr ?_;(case hd=>rfl);(case hg=>rfl);(case hr=>first|(go_simp;done)|(go_simp;rfl));intro al hg eZ hbox hb;have az:=zA.mk (Kd.qN (by(with_reducible repeat(first|apply Kd.zS|apply Kd.zT|apply Kd.zZ));exact aj.out) hb);have aA:=zA.mk (Kd.qN (by(with_reducible repeat(first|apply Kd.zS|apply Kd.zT|apply Kd.zZ));exact ak.out) hb);have aB:=zA.mk (Kd.qN (by(with_reducible repeat(first|apply Kd.zS|apply Kd.zT|apply Kd.zZ));exact ai.out) hb);have aC:=zA.mk (zO (g:=au) (o := .cells #[.slice aS ad.length aE] 35 (0,0)) (by(with_reducible repeat(first|refine zH ?_ _|refine zJ ?_|refine zG ?_ _));exact aa.out) hb);have aF:=zA.mk (zO (g:=an) (o := .cells #[.slice none 0 0,.slice none 0 0,.slice none 0 0] 88 (0,0)) (by(with_reducible repeat(first|refine zH ?_ _|refine zJ ?_|refine zG ?_ _));exact ab.out) hb);have aI:=zA.mk (zM (by repeat(first|(with_reducible first|exact HB.out|apply zC|apply zB|apply zD|refine zF ?_ ar.out|refine zF ?_ av.out)|exact HB.out)) hb);have aJ:=zA.mk (hbox);have bj:=zA.mk ((by rw[hg];exact(zQ (by repeat(first|(with_reducible first|exact HB.out|apply zC|apply zB|apply zD|refine zF ?_ ar.out|refine zF ?_ av.out)|exact HB.out))):w.heap.size≤al));have bm:=zA.mk ((by rw[hg];exact(zQ (by repeat(first|(with_reducible first|exact HB.out|apply zC|apply zB|apply zD|refine zF ?_ ar.out|refine zF ?_ av.out)|exact HB.out))):w.heap.size≤al));have bE:=zA.mk ((by rw[hg];exact Nat.ne_of_lt (qT (g:=au) (o := .cells #[.slice aS ad.length aE] 35 (0,0)) (by(with_reducible repeat(first|refine zH ?_ _|refine zJ ?_|refine zG ?_ _));exact aa.out)):au≠al));have bn:=zA.mk ((by rw[hg];exact Nat.ne_of_gt (qT (g:=au) (o := .cells #[.slice aS ad.length aE] 35 (0,0)) (by(with_reducible repeat(first|refine zH ?_ _|refine zJ ?_|refine zG ?_ _));exact aa.out)):al≠au));have b_:=zA.mk ((by rw[hg];exact Nat.ne_of_lt (qT (g:=an) (o := .cells #[.slice none 0 0,.slice none 0 0,.slice none 0 0] 88 (0,0)) (by(with_reducible repeat(first|refine zH ?_ _|refine zJ ?_|refine zG ?_ _));exact ab.out)):an≠al));have ca:=zA.mk ((by rw[hg];exact Nat.ne_of_gt (qT (g:=an) (o := .cells #[.slice none 0 0,.slice none 0 0,.slice none 0 0] 88 (0,0)) (by(with_reducible repeat(first|refine zH ?_ _|refine zJ ?_|refine zG ?_ _));exact ab.out)):al≠an));clear aj;clear ak;clear ai;clear aa;clear ab;clear HB;have aj:=az;have ak:=aA;have ai:=aB;have aa:=aC;have ab:=aF;have HB:=aI;have ah:=aJ;have fw:=bj;have bk:=bm;have aZ:=bE;have ck:=bn;have a1:=b_;have cl:=ca;clear az aA aB aC aF aI aJ bj bm bE bn b_ ca;clear hb hbox hg;have fx:=ck.out;have fy:=aZ.out;have fz:=cl.out;have fA:=a1.out;have ew:eZ.cell? ⟨al,0,none⟩=some (.slice none 0 0):=(zK ah.out 0).trans rfl;have ey:eZ.cell? ⟨al,1,none⟩=some (.slice none 0 0):=(zK ah.out 1).trans rfl;have ez:eZ.cell? ⟨al,2,none⟩=some (.slice none 0 0):=(zK ah.out 2).trans rfl;have eA:=zP ah.out 0;have eB:=zP ah.out 1;have eC:=zP ah.out 2)|((with_reducible refine zw (N:=121) rfl ?_);refine Kd.zBO (Kd.int .i64) _ 2 ?hg (N:=121) ?hd (xs:=([0,0,0,t103]:List Int)) (inner := [.int .i64 0,.int .i64 0,.int .i64 0,.int .i64 t103]) (ok:=fun _=>True) (okp:=fun _=>True) ?hr ?hp (fun _ hk=>hk) trivial (ysy _ _) (yry _) (by simp) ?_;(case hd=>rfl);(case hg=>rfl);(case hr=>first|(go_simp;done)|(go_simp;rfl));(case hp=>exact(QN.one (show Kd.M (Kd.int .i64) _ _ _ 0 [.int .i64 0]from rfl) (QN.one (show Kd.M (Kd.int .i64) _ _ _ 0 [.int .i64 0]from rfl) (QN.one (show Kd.M (Kd.int .i64) _ _ _ 0 [.int .i64 0]from rfl) (QN.one (show Kd.M (Kd.int .i64) _ _ _ t103 [.int .i64 t103]from rfl) (QN.none _ _))))));intro cu gA cb hb hg_ hnew_;clear hg_ hnew_;(first|rw[← cY.out]at cb|(simp only [Int.reduceToNat]at cb;rw[← cY.out]at cb));have az:=zA.mk (Kd.Zs (by(with_reducible repeat(first|apply Kd.zS|apply Kd.zT|apply Kd.zZ));exact(Kd.qC (Kd.ZR (p:=⟨al,2,none⟩) (Kd.ZR (p:=⟨al,1,none⟩) (Kd.ZR (p:=⟨al,0,none⟩) (Kd.Za aj.out ah.out (by decide)) (fun _ hk=>hk.2) (.slice none 0 0)) (fun _ hk=>hk.2) (.slice none 0 0)) (fun _ hk=>hk.2) (.slice none 0 0)) (fun _ h_=>h_.1))) (Kd.Zw cb) hb);have aA:=zA.mk (Kd.Zs (by(with_reducible repeat(first|apply Kd.zS|apply Kd.zT|apply Kd.zZ));exact(Kd.qC (Kd.ZR (p:=⟨al,2,none⟩) (Kd.ZR (p:=⟨al,1,none⟩) (Kd.ZR (p:=⟨al,0,none⟩) (Kd.Za ak.out ah.out (by decide)) (fun _ hk=>hk.2) (.slice none 0 0)) (fun _ hk=>hk.2) (.slice none 0 0)) (fun _ hk=>hk.2) (.slice none 0 0)) (fun _ h_=>h_.1))) (Kd.Zw cb) hb);have aB:=zA.mk (Kd.Zs (by(with_reducible repeat(first|apply Kd.zS|apply Kd.zT|apply Kd.zZ));exact(Kd.qC (Kd.ZR (p:=⟨al,2,none⟩) (Kd.ZR (p:=⟨al,1,none⟩) (Kd.ZR (p:=⟨al,0,none⟩) (Kd.Za ai.out ah.out (by decide)) (fun _ hk=>hk.2) (.slice none 0 0)) (fun _ hk=>hk.2) (.slice none 0 0)) (fun _ hk=>hk.2) (.slice none 0 0)) (fun _ h_=>h_.1))) (Kd.Zw cb) hb);have aC:=zA.mk (Kd.qx (Kd.JP (Kd.JP (Kd.JP cb (Kd.JO (by(with_reducible repeat(first|apply Kd.zS|apply Kd.zT|apply Kd.zZ));exact(Kd.qC (Kd.ZR (p:=⟨al,2,none⟩) (Kd.ZR (p:=⟨al,1,none⟩) (Kd.ZR (p:=⟨al,0,none⟩) (Kd.Za aj.out ah.out (by decide)) (fun _ hk=>hk.2) (.slice none 0 0)) (fun _ hk=>hk.2) (.slice none 0 0)) (fun _ hk=>hk.2) (.slice none 0 0)) (fun _ h_=>h_.1))))) (Kd.JO (by(with_reducible repeat(first|apply Kd.zS|apply Kd.zT|apply Kd.zZ));exact(Kd.qC (Kd.ZR (p:=⟨al,2,none⟩) (Kd.ZR (p:=⟨al,1,none⟩) (Kd.ZR (p:=⟨al,0,none⟩) (Kd.Za ak.out ah.out (by decide)) (fun _ hk=>hk.2) (.slice none 0 0)) (fun _ hk=>hk.2) (.slice none 0 0)) (fun _ hk=>hk.2) (.slice none 0 0)) (fun _ h_=>h_.1))))) (Kd.JO (by(with_reducible repeat(first|apply Kd.zS|apply Kd.zT|apply Kd.zZ));exact(Kd.qC (Kd.ZR (p:=⟨al,2,none⟩) (Kd.ZR (p:=⟨al,1,none⟩) (Kd.ZR (p:=⟨al,0,none⟩) (Kd.Za ai.out ah.out (by decide)) (fun _ hk=>hk.2) (.slice none 0 0)) (fun _ hk=>hk.2) (.slice none 0 0)) (fun _ hk=>hk.2) (.slice none 0 0)) (fun _ h_=>h_.1))))) (zQ (by repeat(first|(with_reducible first|exact HB.out|apply zC|apply zB|apply zD|refine zF ?_ ar.out|refine zF ?_ av.out|refine zF ?_ bk.out)|exact HB.out))));have aF:=zA.mk (zO (g:=au) (o := .cells #[.slice aS ad.length aE] 35 (0,0)) (by(with_reducible repeat(first|refine zH ?_ _|refine zJ ?_|refine zG ?_ _));refine qJ ?_ aZ.out _;(with_reducible repeat(first|refine zH ?_ _|refine zJ ?_|refine zG ?_ _));refine qJ ?_ aZ.out _;(with_reducible repeat(first|refine zH ?_ _|refine zJ ?_|refine zG ?_ _));refine qJ ?_ aZ.out _;(with_reducible repeat(first|refine zH ?_ _|refine zJ ?_|refine zG ?_ _));exact aa.out) hb);have aI:=zA.mk (zO (g:=an) (o := .cells #[.slice none 0 0,.slice none 0 0,.slice none 0 0] 88 (0,0)) (by(with_reducible repeat(first|refine zH ?_ _|refine zJ ?_|refine zG ?_ _));refine qJ ?_ a1.out _;(with_reducible repeat(first|refine zH ?_ _|refine zJ ?_|refine zG ?_ _));refine qJ ?_ a1.out _;(with_reducible repeat(first|refine zH ?_ _|refine zJ ?_|refine zG ?_ _));refine qJ ?_ a1.out _;(with_reducible repeat(first|refine zH ?_ _|refine zJ ?_|refine zG ?_ _));exact ab.out) hb);have aJ:=zA.mk (zO (g:=al) (o := .cells #[.slice none 0 0,.slice none 0 0,.slice none 0 0] 88 (0,0)) (by(with_reducible repeat(first|refine zH ?_ _|refine zJ ?_|refine zG ?_ _));refine qf (cs:=#[.slice none 0 0,.slice none 0 0,.slice none 0 0]) ?_ 2 _ rfl;(with_reducible repeat(first|refine zH ?_ _|refine zJ ?_|refine zG ?_ _));refine qf (cs:=#[.slice none 0 0,.slice none 0 0,.slice none 0 0]) ?_ 1 _ rfl;(with_reducible repeat(first|refine zH ?_ _|refine zJ ?_|refine zG ?_ _));refine qf (cs:=#[.slice none 0 0,.slice none 0 0,.slice none 0 0]) ?_ 0 _ rfl;(with_reducible repeat(first|refine zH ?_ _|refine zJ ?_|refine zG ?_ _));exact ah.out) hb);have bj:=zA.mk (zM (by repeat(first|(with_reducible first|exact HB.out|apply zC|apply zB|apply zD|refine zF ?_ ar.out|refine zF ?_ av.out|refine zF ?_ bk.out)|exact HB.out)) hb);clear aj;clear ak;clear ai;clear aa;clear ab;clear ah;clear HB;have aj:=az;have ak:=aA;have ai:=aB;have ax:=aC;have aa:=aF;have ab:=aI;have ah:=aJ;have HB:=bj;clear az aA aB aC aF aI aJ bj;clear hb cb;obtain⟨aN,aO,e0⟩:=Kd.ZE aj.out;subst e0)|((with_reducible refine zd (f:=117) rfl ?_);refine qV (some 125) rfl rfl Try.func117 (by kernel_rfl) rfl #[.slice aN aG.length aO,.int .i64 4] rfl (by(try simp only [yiy,yjy,yky]);first|done|rfl|(simp only [yly,ymy];rfl)) ?_;(with_reducible refine(zf.calls k1 _ _ aG 4 t117 t118 _ ?side1 ?side2 fT.out).mono ?_);(case side1=>repeat(first|exact(Kd.zq aj.out).2.2|(with_reducible refine Kd.zy ?_ _)|(with_reducible refine Kd.qA ?_ _)|(with_reducible refine Kd.qR ?_)));(case side2=>exact(Kd.zq aj.out).2.1);rintro e eD ⟨fW,rfl,bJ,hb⟩;refine⟨_,rfl,?_⟩;have az:=zA.mk (Kd.qN (by(with_reducible repeat(first|apply Kd.zS|apply Kd.zT|apply Kd.zZ));exact aj.out) hb);have aA:=zA.mk (Kd.qN (by(with_reducible repeat(first|apply Kd.zS|apply Kd.zT|apply Kd.zZ));exact ak.out) hb);have aB:=zA.mk (Kd.qN (by(with_reducible repeat(first|apply Kd.zS|apply Kd.zT|apply Kd.zZ));exact ai.out) hb);have aC:=zA.mk (Kd.qN (by(with_reducible repeat(first|apply Kd.zS|apply Kd.zT|apply Kd.zZ));exact ax.out) hb);have aF:=zA.mk (Kd.QA (Kd.QL (Kd.QL (Kd.QL (Kd.QL bJ (Kd.JO (by(with_reducible repeat(first|apply Kd.zS|apply Kd.zT|apply Kd.zZ));exact aj.out))) (Kd.JO (by(with_reducible repeat(first|apply Kd.zS|apply Kd.zT|apply Kd.zZ));exact ak.out))) (Kd.JO (by(with_reducible repeat(first|apply Kd.zS|apply Kd.zT|apply Kd.zZ));exact ai.out))) (Kd.JO (by(with_reducible repeat(first|apply Kd.zS|apply Kd.zT|apply Kd.zZ));exact ax.out))) (zQ (by repeat(first|(with_reducible first|exact HB.out|apply zC|apply zB|apply zD|refine zF ?_ ar.out|refine zF ?_ av.out|refine zF ?_ bk.out)|exact HB.out))));have aI:=zA.mk (zO (g:=au) (o := .cells #[.slice aS ad.length aE] 35 (0,0)) (by(with_reducible repeat(first|refine zH ?_ _|refine zJ ?_|refine zG ?_ _));exact aa.out) hb);have aJ:=zA.mk (zO (g:=an) (o := .cells #[.slice none 0 0,.slice none 0 0,.slice none 0 0] 88 (0,0)) (by(with_reducible repeat(first|refine zH ?_ _|refine zJ ?_|refine zG ?_ _));exact ab.out) hb);have bj:=zA.mk (zO (g:=al) (o := .cells #[.slice none 0 0,.slice none 0 0,.slice none 0 0] 88 (0,0)) (by(with_reducible repeat(first|refine zH ?_ _|refine zJ ?_|refine zG ?_ _));exact ah.out) hb);have bm:=zA.mk (zM (by repeat(first|(with_reducible first|exact HB.out|apply zC|apply zB|apply zD|refine zF ?_ ar.out|refine zF ?_ av.out|refine zF ?_ bk.out)|exact HB.out)) hb);clear aj;clear ak;clear ai;clear ax;clear aa;clear ab;clear ah;clear HB;have aj:=az;have ak:=aA;have ai:=aB;have ax:=aC;have aH:=aF;have aa:=aI;have ab:=aJ;have ah:=bj;have HB:=bm;clear az aA aB aC aF aI aJ bj bm;(try clear hb);(try clear hb2);(try clear hk);(try clear hi);(try clear bJ);obtain⟨aL,aM,e1⟩:=Kd.QM aH.out;subst e1;have eE:eD.cell? ⟨al,0,none⟩=some (.slice none 0 0):=(zK ah.out 0).trans rfl;have eF:eD.cell? ⟨al,1,none⟩=some (.slice none 0 0):=(zK ah.out 1).trans rfl;have eG:eD.cell? ⟨al,2,none⟩=some (.slice none 0 0):=(zK ah.out 2).trans rfl;have eH:=zP ah.out 0;have eI:=zP ah.out 1;have eJ:=zP ah.out 2)|((with_reducible refine Zi (t:=30) (p:=128) rfl ?_);refine ZU (t:=30) (p:=128) (v:=?vo_w83) (w1:=(eD.setCell ⟨al,0,none⟩ (.slice aL t117.length aM))) ?hg ?ho ?hn ?hr ?_;(case ho=>rfl);(case hg=>rfl);(case hn=>rfl);(case hr=>first|(go_simp;done)|(go_simp;rfl));intro cv hw;have az:zA (Kd.R (Kd.int .i64) 2 cv w.heap.size (fun k_=>some k_≠(aT:Value).ownBlock∧some k_≠(aU:Value).ownBlock∧some k_≠(cu:Value).ownBlock) (.slice aN aG.length aO) aG):=⟨(by rw[hw];exact(by(with_reducible repeat(first|apply Kd.zS|apply Kd.zT|apply Kd.zZ));exact Kd.qC (Kd.ZR (p:=⟨al,0,none⟩) (Kd.Za aj.out ah.out (by decide)) (fun _ hk=>hk.2) (.slice aL t117.length aM)) (fun _ hk=>⟨hk.1.1.1,⟨hk.1.1.2,hk.1.2⟩⟩)))⟩;have aA:zA (Kd.R (Kd.int .i64) 2 cv w.heap.size (fun k_=>some k_≠(.slice aN aG.length aO:Value).ownBlock∧some k_≠(aU:Value).ownBlock∧some k_≠(cu:Value).ownBlock) aT aK):=⟨(by rw[hw];exact(by(with_reducible repeat(first|apply Kd.zS|apply Kd.zT|apply Kd.zZ));exact Kd.qC (Kd.ZR (p:=⟨al,0,none⟩) (Kd.Za ak.out ah.out (by decide)) (fun _ hk=>hk.2) (.slice aL t117.length aM)) (fun _ hk=>⟨hk.1.1.1,⟨hk.1.1.2,hk.1.2⟩⟩)))⟩;have aB:zA (Kd.R (Kd.int .i64) 2 cv w.heap.size (fun k_=>some k_≠(.slice aN aG.length aO:Value).ownBlock∧some k_≠(aT:Value).ownBlock∧some k_≠(cu:Value).ownBlock) aU aY):=⟨(by rw[hw];exact(by(with_reducible repeat(first|apply Kd.zS|apply Kd.zT|apply Kd.zZ));exact Kd.qC (Kd.ZR (p:=⟨al,0,none⟩) (Kd.Za ai.out ah.out (by decide)) (fun _ hk=>hk.2) (.slice aL t117.length aM)) (fun _ hk=>⟨hk.1.1.1,⟨hk.1.1.2,hk.1.2⟩⟩)))⟩;have aC:zA (Kd.R (Kd.int .i64) 2 cv w.heap.size (fun k_=>some k_≠(.slice aN aG.length aO:Value).ownBlock∧some k_≠(aT:Value).ownBlock∧some k_≠(aU:Value).ownBlock) cu aw):=⟨(by rw[hw];exact(by(with_reducible repeat(first|apply Kd.zS|apply Kd.zT|apply Kd.zZ));exact Kd.qC (Kd.ZR (p:=⟨al,0,none⟩) (Kd.Za ax.out ah.out (by decide)) (fun _ hk=>hk.2) (.slice aL t117.length aM)) (fun _ hk=>⟨hk.1.1.1.2,⟨hk.1.1.2,hk.1.2⟩⟩)))⟩;have aF:zA (Kd.S (Kd.slice 2 (Kd.int .i64)) 22 cv w.heap.size (fun k_=>some k_≠(.slice aN aG.length aO:Value).ownBlock∧some k_≠(aT:Value).ownBlock∧some k_≠(aU:Value).ownBlock∧some k_≠(cu:Value).ownBlock) (.slice aL t117.length aM) t117):=⟨(by rw[hw];exact(by(with_reducible repeat(first|apply Kd.zh|apply Kd.zi|apply Kd.zx));exact Kd.ZC (Kd.QD (p:=⟨al,0,none⟩) (Kd.Zo aH.out ah.out (by decide)) (fun _ hk=>hk.2) (.slice aL t117.length aM)) (fun _ hk=>⟨hk.1.1.1.1.2,⟨hk.1.1.1.2,⟨hk.1.1.2,hk.1.2⟩⟩⟩)))⟩;have aI:zA (cv.heap[au]?=some (.cells #[.slice aS ad.length aE] 35 (0,0))):=⟨(by rw[hw];exact(by(with_reducible repeat(first|refine zH ?_ _|refine zJ ?_|refine zG ?_ _));refine qJ ?_ aZ.out _;(with_reducible repeat(first|refine zH ?_ _|refine zJ ?_|refine zG ?_ _));exact aa.out))⟩;have aJ:zA (cv.heap[an]?=some (.cells #[.slice none 0 0,.slice none 0 0,.slice none 0 0] 88 (0,0))):=⟨(by rw[hw];exact(by(with_reducible repeat(first|refine zH ?_ _|refine zJ ?_|refine zG ?_ _));refine qJ ?_ a1.out _;(with_reducible repeat(first|refine zH ?_ _|refine zJ ?_|refine zG ?_ _));exact ab.out))⟩;have bj:zA (cv.heap[al]?=some (.cells #[.slice aL t117.length aM,.slice none 0 0,.slice none 0 0] 88 (0,0))):=⟨(by rw[hw];exact(by(with_reducible repeat(first|refine zH ?_ _|refine zJ ?_|refine zG ?_ _));refine qf (cs:=#[.slice none 0 0,.slice none 0 0,.slice none 0 0]) ?_ 0 _ rfl;(with_reducible repeat(first|refine zH ?_ _|refine zJ ?_|refine zG ?_ _));exact ah.out))⟩;have bm:zA (Below w.heap.size w cv):=⟨(by rw[hw];exact(by repeat(first|(with_reducible first|exact HB.out|apply zC|apply zB|apply zD|refine zF ?_ ar.out|refine zF ?_ av.out|refine zF ?_ bk.out)|exact HB.out)))⟩;clear hw;clear aj;clear ak;clear ai;clear ax;clear aH;clear aa;clear ab;clear ah;clear HB;have aj:=az;have ak:=aA;have ai:=aB;have ax:=aC;have aH:=aF;have aa:=aI;have ab:=aJ;have ah:=bj;have HB:=bm;clear az aA aB aC aF aI aJ bj bm;have e2:0≤(0:Int):=(by omega);have e3:(0:Int)<((aw.length:Int):Int):=of_decide_eq_true (by first|(with_reducible assumption)|assumption);have fX:(0<aw.length)=True:=eq_true (by omega);obtain⟨ay,aD,dI,dJ,e4,fY,dK⟩:=Kd.Jw ax.out (by omega);(first|cases dI|(injection dI with ea_ en_ ec_;(first|subst ea_|(injection ea_ with ea_;subst ea_));subst ec_;clear en_));have dh:=zA.mk dJ;have fZ:=zA.mk dK;clear dJ e4 dK;obtain⟨cw,cx⟩:=Kd.Zm 0 ax.out (0:Int) e2 e3;(try rw[show((0:Int)).toNat=0 from rfl]at cw);(try simp only [Nat.reduceMul,Nat.zero_mul,Nat.zero_add,Nat.reduceAdd]at cw);(try rw[show((0:Int)).toNat=0 from rfl]at cx);(try simp only [Nat.reduceMul,Nat.zero_mul,Nat.zero_add,Nat.reduceAdd]at cx);replace e2:=eq_true e2;replace e3:=eq_true e3;obtain⟨cZ,c0⟩:=Kd.Zm 0 ax.out (0:Int) (by omega) (of_decide_eq_true (by first|(with_reducible assumption)|assumption));(try simp only [Int.reduceToNat,Int.toNat_zero,Int.toNat_ofNat,Nat.reduceMul,Nat.zero_mul,Nat.zero_add]at cZ c0);(try rw[show((0:Int)).toNat=0 from rfl]at cZ);(try rw[show((0:Int)).toNat=0 from rfl]at c0);have di:=Kd.zAF ax.out (0:Int) t118)|((with_reducible refine Zi (t:=2) (p:=129) rfl ?_);refine ZU (t:=2) (p:=129) (v:=?vo_w85) (w1:=(cv.setCell ⟨ay,(0:Int).toNat,none⟩ (.int .i64 t118))) ?hg ?ho ?hn ?hr ?_;(case ho=>rfl);(case hg=>rfl);(case hn=>rfl);(case hr=>first|(go_simp;done)|(go_simp;rfl));intro e5 hw;have hg:cv.grownBy e5 (some ay):=(by rw[hw];exact di.2);have hp_:Kd.R (Kd.int .i64) 2 e5 w.heap.size (fun k_=>some k_≠(.slice aN aG.length aO:Value).ownBlock∧some k_≠(aT:Value).ownBlock∧some k_≠(aU:Value).ownBlock) (.slice (some ⟨ay,0,none⟩) aw.length aD) cr:=(by rw[hw,dC.out];exact di.1);clear di;have az:=zA.mk (Kd.ZK (v:=(.slice (some ⟨ay,0,none⟩) aw.length aD)) (v1:=(.slice (some ⟨ay,0,none⟩) aw.length aD)) (ok:=(fun k_=>some k_≠(aT:Value).ownBlock∧some k_≠(aU:Value).ownBlock)) (by(with_reducible repeat(first|apply Kd.zS|apply Kd.zT|apply Kd.zZ));exact Kd.qC aj.out (fun _ hk=>⟨⟨hk.1,hk.2.1⟩,hk.2.2⟩)) hg (.inl rfl));have aA:=zA.mk (Kd.ZK (v:=(.slice (some ⟨ay,0,none⟩) aw.length aD)) (v1:=(.slice (some ⟨ay,0,none⟩) aw.length aD)) (ok:=(fun k_=>some k_≠(.slice aN aG.length aO:Value).ownBlock∧some k_≠(aU:Value).ownBlock)) (by(with_reducible repeat(first|apply Kd.zS|apply Kd.zT|apply Kd.zZ));exact Kd.qC ak.out (fun _ hk=>⟨⟨hk.1,hk.2.1⟩,hk.2.2⟩)) hg (.inl rfl));have aB:=zA.mk (Kd.ZK (v:=(.slice (some ⟨ay,0,none⟩) aw.length aD)) (v1:=(.slice (some ⟨ay,0,none⟩) aw.length aD)) (ok:=(fun k_=>some k_≠(.slice aN aG.length aO:Value).ownBlock∧some k_≠(aT:Value).ownBlock)) (by(with_reducible repeat(first|apply Kd.zS|apply Kd.zT|apply Kd.zZ));exact Kd.qC ai.out (fun _ hk=>⟨⟨hk.1,hk.2.1⟩,hk.2.2⟩)) hg (.inl rfl));have aC:=zA.mk (qj (g:=au) (o := .cells #[.slice aS ad.length aE] 35 (0,0)) (by(with_reducible repeat(first|refine zH ?_ _|refine zJ ?_|refine zG ?_ _));exact aa.out) hg (Kd.zCU ax.out aa.out (by decide)));have aF:=zA.mk (qj (g:=an) (o := .cells #[.slice none 0 0,.slice none 0 0,.slice none 0 0] 88 (0,0)) (by(with_reducible repeat(first|refine zH ?_ _|refine zJ ?_|refine zG ?_ _));exact ab.out) hg (Kd.zCU ax.out ab.out (by decide)));have aI:=zA.mk (qj (g:=al) (o := .cells #[.slice aL t117.length aM,.slice none 0 0,.slice none 0 0] 88 (0,0)) (by(with_reducible repeat(first|refine zH ?_ _|refine zJ ?_|refine zG ?_ _));exact ah.out) hg (Kd.zCU ax.out ah.out (by decide)));have aJ:=zA.mk (hp_);have bj:=zA.mk (Kd.JY (v:=(.slice (some ⟨ay,0,none⟩) aw.length aD)) (v1:=(.slice (some ⟨ay,0,none⟩) aw.length aD)) (ok:=(fun k_=>some k_≠(.slice aN aG.length aO:Value).ownBlock∧some k_≠(aT:Value).ownBlock∧some k_≠(aU:Value).ownBlock)) (by(with_reducible repeat(first|apply Kd.zh|apply Kd.zi|apply Kd.zx));exact Kd.ZC aH.out (fun _ hk=>⟨⟨hk.1,⟨hk.2.1,hk.2.2.1⟩⟩,hk.2.2.2⟩)) hg (.inl rfl));have bm:=zA.mk ((by rw[hw];exact zF (HB.out) dh.out:Below w.heap.size w e5));clear aj;clear ak;clear ai;clear aa;clear ab;clear ah;clear ax;clear aH;clear HB;have aj:=az;have ak:=aA;have ai:=aB;have aa:=aC;have ab:=aF;have ah:=aI;have ax:=aJ;have aH:=bj;have HB:=bm;clear az aA aB aC aF aI aJ bj bm;clear hg hw hp_;obtain⟨ba,bb,e6⟩:=Kd.ZE ak.out;subst e6)|((with_reducible refine zd (f:=117) rfl ?_);refine qV (some 133) rfl rfl Try.func117 (by kernel_rfl) rfl #[.slice ba aK.length bb,.int .i64 6] rfl (by(try simp only [yiy,yjy,yky]);first|done|rfl|(simp only [yly,ymy];rfl)) ?_;(with_reducible refine(zf.calls k1 _ _ aK 6 t122 t123 _ ?side1 ?side2 fU.out).mono ?_);(case side1=>repeat(first|exact(Kd.zq ak.out).2.2|(with_reducible refine Kd.zy ?_ _)|(with_reducible refine Kd.qA ?_ _)|(with_reducible refine Kd.qR ?_)));(case side2=>exact(Kd.zq ak.out).2.1);rintro e eK ⟨f_,rfl,bJ,hb⟩;refine⟨_,rfl,?_⟩;have az:=zA.mk (Kd.qN (by(with_reducible repeat(first|apply Kd.zS|apply Kd.zT|apply Kd.zZ));exact aj.out) hb);have aA:=zA.mk (Kd.qN (by(with_reducible repeat(first|apply Kd.zS|apply Kd.zT|apply Kd.zZ));exact ak.out) hb);have aB:=zA.mk (Kd.qN (by(with_reducible repeat(first|apply Kd.zS|apply Kd.zT|apply Kd.zZ));exact ai.out) hb);have aC:=zA.mk (Kd.qN (by(with_reducible repeat(first|apply Kd.zS|apply Kd.zT|apply Kd.zZ));exact ax.out) hb);have aF:=zA.mk (Kd.Zt (by(with_reducible repeat(first|apply Kd.zh|apply Kd.zi|apply Kd.zx));exact aH.out) (Kd.Jx bJ) hb);have aI:=zA.mk (Kd.QA (Kd.QL (Kd.QL (Kd.QL (Kd.QL (Kd.QL bJ (Kd.JO (by(with_reducible repeat(first|apply Kd.zS|apply Kd.zT|apply Kd.zZ));exact aj.out))) (Kd.JO (by(with_reducible repeat(first|apply Kd.zS|apply Kd.zT|apply Kd.zZ));exact ak.out))) (Kd.JO (by(with_reducible repeat(first|apply Kd.zS|apply Kd.zT|apply Kd.zZ));exact ai.out))) (Kd.JO (by(with_reducible repeat(first|apply Kd.zS|apply Kd.zT|apply Kd.zZ));exact ax.out))) (Kd.zEX (by(with_reducible repeat(first|apply Kd.zh|apply Kd.zi|apply Kd.zx));exact aH.out))) (zQ (by repeat(first|(with_reducible first|exact HB.out|apply zC|apply zB|apply zD|refine zF ?_ ar.out|refine zF ?_ av.out|refine zF ?_ bk.out)|exact HB.out))));have aJ:=zA.mk (zO (g:=au) (o := .cells #[.slice aS ad.length aE] 35 (0,0)) (by(with_reducible repeat(first|refine zH ?_ _|refine zJ ?_|refine zG ?_ _));exact aa.out) hb);have bj:=zA.mk (zO (g:=an) (o := .cells #[.slice none 0 0,.slice none 0 0,.slice none 0 0] 88 (0,0)) (by(with_reducible repeat(first|refine zH ?_ _|refine zJ ?_|refine zG ?_ _));exact ab.out) hb);have bm:=zA.mk (zO (g:=al) (o := .cells #[.slice aL t117.length aM,.slice none 0 0,.slice none 0 0] 88 (0,0)) (by(with_reducible repeat(first|refine zH ?_ _|refine zJ ?_|refine zG ?_ _));exact ah.out) hb);have bE:=zA.mk (zM (by repeat(first|(with_reducible first|exact HB.out|apply zC|apply zB|apply zD|refine zF ?_ ar.out|refine zF ?_ av.out|refine zF ?_ bk.out)|exact HB.out)) hb);clear aj;clear ak;clear ai;clear ax;clear aH;clear aa;clear ab;clear ah;clear HB;have aj:=az;have ak:=aA;have ai:=aB;have ax:=aC;have aH:=aF;have aX:=aI;have aa:=aJ;have ab:=bj;have ah:=bm;have HB:=bE;clear az aA aB aC aF aI aJ bj bm bE;(try clear hb);(try clear hb2);(try clear hk);(try clear hi);(try clear bJ);obtain⟨aV,aW,e7⟩:=Kd.QM aX.out;subst e7;have eL:eK.cell? ⟨al,0,none⟩=some (.slice aL t117.length aM):=(zK ah.out 0).trans rfl;have eM:eK.cell? ⟨al,1,none⟩=some (.slice none 0 0):=(zK ah.out 1).trans rfl;have eN:eK.cell? ⟨al,2,none⟩=some (.slice none 0 0):=(zK ah.out 2).trans rfl;have eO:=zP ah.out 0;have eP:=zP ah.out 1;have eQ:=zP ah.out 2)|((with_reducible refine Zi (t:=30) (p:=136) rfl ?_);refine ZU (t:=30) (p:=136) (v:=?vo_w90) (w1:=(eK.setCell ⟨al,1,none⟩ (.slice aV t122.length aW))) ?hg ?ho ?hn ?hr ?_;(case ho=>rfl);(case hg=>rfl);(case hn=>rfl);(case hr=>first|(go_simp;done)|(go_simp;rfl));intro cn hw;have az:zA (Kd.R (Kd.int .i64) 2 cn w.heap.size (fun k_=>some k_≠(.slice ba aK.length bb:Value).ownBlock∧some k_≠(aU:Value).ownBlock∧some k_≠(.slice (some ⟨ay,0,none⟩) aw.length aD:Value).ownBlock) (.slice aN aG.length aO) aG):=⟨(by rw[hw];exact(by(with_reducible repeat(first|apply Kd.zS|apply Kd.zT|apply Kd.zZ));exact Kd.qC (Kd.ZR (p:=⟨al,1,none⟩) (Kd.Za aj.out ah.out (by decide)) (fun _ hk=>hk.2) (.slice aV t122.length aW)) (fun _ hk=>⟨hk.1.1.1,⟨hk.1.1.2,hk.1.2⟩⟩)))⟩;have aA:zA (Kd.R (Kd.int .i64) 2 cn w.heap.size (fun k_=>some k_≠(.slice aN aG.length aO:Value).ownBlock∧some k_≠(aU:Value).ownBlock∧some k_≠(.slice (some ⟨ay,0,none⟩) aw.length aD:Value).ownBlock) (.slice ba aK.length bb) aK):=⟨(by rw[hw];exact(by(with_reducible repeat(first|apply Kd.zS|apply Kd.zT|apply Kd.zZ));exact Kd.qC (Kd.ZR (p:=⟨al,1,none⟩) (Kd.Za ak.out ah.out (by decide)) (fun _ hk=>hk.2) (.slice aV t122.length aW)) (fun _ hk=>⟨hk.1.1.1,⟨hk.1.1.2,hk.1.2⟩⟩)))⟩;have aB:zA (Kd.R (Kd.int .i64) 2 cn w.heap.size (fun k_=>some k_≠(.slice aN aG.length aO:Value).ownBlock∧some k_≠(.slice ba aK.length bb:Value).ownBlock∧some k_≠(.slice (some ⟨ay,0,none⟩) aw.length aD:Value).ownBlock) aU aY):=⟨(by rw[hw];exact(by(with_reducible repeat(first|apply Kd.zS|apply Kd.zT|apply Kd.zZ));exact Kd.qC (Kd.ZR (p:=⟨al,1,none⟩) (Kd.Za ai.out ah.out (by decide)) (fun _ hk=>hk.2) (.slice aV t122.length aW)) (fun _ hk=>⟨hk.1.1.1,⟨hk.1.1.2,hk.1.2⟩⟩)))⟩;have aC:zA (Kd.R (Kd.int .i64) 2 cn w.heap.size (fun k_=>some k_≠(.slice aN aG.length aO:Value).ownBlock∧some k_≠(.slice ba aK.length bb:Value).ownBlock∧some k_≠(aU:Value).ownBlock) (.slice (some ⟨ay,0,none⟩) aw.length aD) cr):=⟨(by rw[hw];exact(by(with_reducible repeat(first|apply Kd.zS|apply Kd.zT|apply Kd.zZ));exact Kd.qC (Kd.ZR (p:=⟨al,1,none⟩) (Kd.Za ax.out ah.out (by decide)) (fun _ hk=>hk.2) (.slice aV t122.length aW)) (fun _ hk=>⟨hk.1.1,⟨hk.1.2.1,hk.1.2.2⟩⟩)))⟩;have aF:zA (Kd.S (Kd.slice 2 (Kd.int .i64)) 22 cn w.heap.size (fun k_=>some k_≠(.slice aN aG.length aO:Value).ownBlock∧some k_≠(.slice ba aK.length bb:Value).ownBlock∧some k_≠(aU:Value).ownBlock∧some k_≠(.slice (some ⟨ay,0,none⟩) aw.length aD:Value).ownBlock∧some k_≠(.slice aV t122.length aW:Value).ownBlock) (.slice aL t117.length aM) t117):=⟨(by rw[hw];exact(by(with_reducible repeat(first|apply Kd.zh|apply Kd.zi|apply Kd.zx));exact Kd.ZC (Kd.QD (p:=⟨al,1,none⟩) (Kd.Zo aH.out ah.out (by decide)) (fun _ hk=>hk.2) (.slice aV t122.length aW)) (fun _ hk=>⟨hk.1.1.1.1,⟨hk.1.1.1.2.1,⟨hk.1.1.1.2.2,⟨hk.1.1.2,hk.1.2⟩⟩⟩⟩)))⟩;have aI:zA (Kd.S (Kd.slice 2 (Kd.int .i64)) 22 cn w.heap.size (fun k_=>some k_≠(.slice aN aG.length aO:Value).ownBlock∧some k_≠(.slice ba aK.length bb:Value).ownBlock∧some k_≠(aU:Value).ownBlock∧some k_≠(.slice (some ⟨ay,0,none⟩) aw.length aD:Value).ownBlock∧some k_≠(.slice aL t117.length aM:Value).ownBlock) (.slice aV t122.length aW) t122):=⟨(by rw[hw];exact(by(with_reducible repeat(first|apply Kd.zh|apply Kd.zi|apply Kd.zx));exact Kd.ZC (Kd.QD (p:=⟨al,1,none⟩) (Kd.Zo aX.out ah.out (by decide)) (fun _ hk=>hk.2) (.slice aV t122.length aW)) (fun _ hk=>⟨hk.1.1.1.1.1.2,⟨hk.1.1.1.1.2,⟨hk.1.1.1.2,⟨hk.1.1.2,hk.1.2⟩⟩⟩⟩)))⟩;have aJ:zA (cn.heap[au]?=some (.cells #[.slice aS ad.length aE] 35 (0,0))):=⟨(by rw[hw];exact(by(with_reducible repeat(first|refine zH ?_ _|refine zJ ?_|refine zG ?_ _));refine qJ ?_ aZ.out _;(with_reducible repeat(first|refine zH ?_ _|refine zJ ?_|refine zG ?_ _));exact aa.out))⟩;have bj:zA (cn.heap[an]?=some (.cells #[.slice none 0 0,.slice none 0 0,.slice none 0 0] 88 (0,0))):=⟨(by rw[hw];exact(by(with_reducible repeat(first|refine zH ?_ _|refine zJ ?_|refine zG ?_ _));refine qJ ?_ a1.out _;(with_reducible repeat(first|refine zH ?_ _|refine zJ ?_|refine zG ?_ _));exact ab.out))⟩;have bm:zA (cn.heap[al]?=some (.cells #[.slice aL t117.length aM,.slice aV t122.length aW,.slice none 0 0] 88 (0,0))):=⟨(by rw[hw];exact(by(with_reducible repeat(first|refine zH ?_ _|refine zJ ?_|refine zG ?_ _));refine qf (cs:=#[.slice aL t117.length aM,.slice none 0 0,.slice none 0 0]) ?_ 1 _ rfl;(with_reducible repeat(first|refine zH ?_ _|refine zJ ?_|refine zG ?_ _));exact ah.out))⟩;have bE:zA (Below w.heap.size w cn):=⟨(by rw[hw];exact(by repeat(first|(with_reducible first|exact HB.out|apply zC|apply zB|apply zD|refine zF ?_ ar.out|refine zF ?_ av.out|refine zF ?_ bk.out)|exact HB.out)))⟩;clear hw;clear aj;clear ak;clear ai;clear ax;clear aH;clear aX;clear aa;clear ab;clear ah;clear HB;have aj:=az;have ak:=aA;have ai:=aB;have ax:=aC;have aH:=aF;have aX:=aI;have aa:=aJ;have ab:=bj;have ah:=bm;have HB:=bE;clear az aA aB aC aF aI aJ bj bm bE;have e8:0≤(1:Int):=(by omega);have e9:(1:Int)<((aw.length:Int):Int):=of_decide_eq_true (by first|(with_reducible assumption)|assumption);have ga:(1<aw.length)=True:=eq_true (by omega);obtain⟨cy,cz⟩:=Kd.Zm 0 ax.out (1:Int) e8 e9;(try rw[show((1:Int)).toNat=1 from rfl]at cy);(try simp only [Nat.reduceMul,Nat.zero_mul,Nat.zero_add,Nat.reduceAdd]at cy);(try rw[show((1:Int)).toNat=1 from rfl]at cz);(try simp only [Nat.reduceMul,Nat.zero_mul,Nat.zero_add,Nat.reduceAdd]at cz);replace e8:=eq_true e8;replace e9:=eq_true e9;obtain⟨c7,c_⟩:=Kd.Zm 0 ax.out (1:Int) (by omega) (of_decide_eq_true (by first|(with_reducible assumption)|assumption));(try simp only [Int.reduceToNat,Int.toNat_zero,Int.toNat_ofNat,Nat.reduceMul,Nat.zero_mul,Nat.zero_add]at c7 c_);(try rw[show((1:Int)).toNat=1 from rfl]at c7);(try rw[show((1:Int)).toNat=1 from rfl]at c_);have dj:=Kd.zAF ax.out (1:Int) t123)|((with_reducible refine Zi (t:=2) (p:=137) rfl ?_);refine ZU (t:=2) (p:=137) (v:=?vo_w92) (w1:=(cn.setCell ⟨ay,(1:Int).toNat,none⟩ (.int .i64 t123))) ?hg ?ho ?hn ?hr ?_;(case ho=>rfl);(case hg=>rfl);(case hn=>rfl);(case hr=>first|(go_simp;done)|(go_simp;rfl));intro fa hw;have hg:cn.grownBy fa (some ay):=(by rw[hw];exact dj.2);have hp_:Kd.R (Kd.int .i64) 2 fa w.heap.size (fun k_=>some k_≠(.slice aN aG.length aO:Value).ownBlock∧some k_≠(.slice ba aK.length bb:Value).ownBlock∧some k_≠(aU:Value).ownBlock) (.slice (some ⟨ay,0,none⟩) aw.length aD) ct:=(by rw[hw,dE.out];exact dj.1);clear dj;have az:=zA.mk (Kd.ZK (v:=(.slice (some ⟨ay,0,none⟩) aw.length aD)) (v1:=(.slice (some ⟨ay,0,none⟩) aw.length aD)) (ok:=(fun k_=>some k_≠(.slice ba aK.length bb:Value).ownBlock∧some k_≠(aU:Value).ownBlock)) (by(with_reducible repeat(first|apply Kd.zS|apply Kd.zT|apply Kd.zZ));exact Kd.qC aj.out (fun _ hk=>⟨⟨hk.1,hk.2.1⟩,hk.2.2⟩)) hg (.inl rfl));have aA:=zA.mk (Kd.ZK (v:=(.slice (some ⟨ay,0,none⟩) aw.length aD)) (v1:=(.slice (some ⟨ay,0,none⟩) aw.length aD)) (ok:=(fun k_=>some k_≠(.slice aN aG.length aO:Value).ownBlock∧some k_≠(aU:Value).ownBlock)) (by(with_reducible repeat(first|apply Kd.zS|apply Kd.zT|apply Kd.zZ));exact Kd.qC ak.out (fun _ hk=>⟨⟨hk.1,hk.2.1⟩,hk.2.2⟩)) hg (.inl rfl));have aB:=zA.mk (Kd.ZK (v:=(.slice (some ⟨ay,0,none⟩) aw.length aD)) (v1:=(.slice (some ⟨ay,0,none⟩) aw.length aD)) (ok:=(fun k_=>some k_≠(.slice aN aG.length aO:Value).ownBlock∧some k_≠(.slice ba aK.length bb:Value).ownBlock)) (by(with_reducible repeat(first|apply Kd.zS|apply Kd.zT|apply Kd.zZ));exact Kd.qC ai.out (fun _ hk=>⟨⟨hk.1,hk.2.1⟩,hk.2.2⟩)) hg (.inl rfl));have aC:=zA.mk (qj (g:=au) (o := .cells #[.slice aS ad.length aE] 35 (0,0)) (by(with_reducible repeat(first|refine zH ?_ _|refine zJ ?_|refine zG ?_ _));exact aa.out) hg (Kd.zCU ax.out aa.out (by decide)));have aF:=zA.mk (qj (g:=an) (o := .cells #[.slice none 0 0,.slice none 0 0,.slice none 0 0] 88 (0,0)) (by(with_reducible repeat(first|refine zH ?_ _|refine zJ ?_|refine zG ?_ _));exact ab.out) hg (Kd.zCU ax.out ab.out (by decide)));have aI:=zA.mk (qj (g:=al) (o := .cells #[.slice aL t117.length aM,.slice aV t122.length aW,.slice none 0 0] 88 (0,0)) (by(with_reducible repeat(first|refine zH ?_ _|refine zJ ?_|refine zG ?_ _));exact ah.out) hg (Kd.zCU ax.out ah.out (by decide)));have aJ:=zA.mk (hp_);have bj:=zA.mk (Kd.JY (v:=(.slice (some ⟨ay,0,none⟩) aw.length aD)) (v1:=(.slice (some ⟨ay,0,none⟩) aw.length aD)) (ok:=(fun k_=>some k_≠(.slice aN aG.length aO:Value).ownBlock∧some k_≠(.slice ba aK.length bb:Value).ownBlock∧some k_≠(aU:Value).ownBlock∧some k_≠(.slice aV t122.length aW:Value).ownBlock)) (by(with_reducible repeat(first|apply Kd.zh|apply Kd.zi|apply Kd.zx));exact Kd.ZC aH.out (fun _ hk=>⟨⟨hk.1,⟨hk.2.1,⟨hk.2.2.1,hk.2.2.2.2⟩⟩⟩,hk.2.2.2.1⟩)) hg (.inl rfl));have bm:=zA.mk (Kd.JY (v:=(.slice (some ⟨ay,0,none⟩) aw.length aD)) (v1:=(.slice (some ⟨ay,0,none⟩) aw.length aD)) (ok:=(fun k_=>some k_≠(.slice aN aG.length aO:Value).ownBlock∧some k_≠(.slice ba aK.length bb:Value).ownBlock∧some k_≠(aU:Value).ownBlock∧some k_≠(.slice aL t117.length aM:Value).ownBlock)) (by(with_reducible repeat(first|apply Kd.zh|apply Kd.zi|apply Kd.zx));exact Kd.ZC aX.out (fun _ hk=>⟨⟨hk.1,⟨hk.2.1,⟨hk.2.2.1,hk.2.2.2.2⟩⟩⟩,hk.2.2.2.1⟩)) hg (.inl rfl));have bE:=zA.mk ((by rw[hw];exact zF (HB.out) dh.out:Below w.heap.size w fa));clear aj;clear ak;clear ai;clear aa;clear ab;clear ah;clear ax;clear aH;clear aX;clear HB;have aj:=az;have ak:=aA;have ai:=aB;have aa:=aC;have ab:=aF;have ah:=aI;have ax:=aJ;have aH:=bj;have aX:=bm;have HB:=bE;clear az aA aB aC aF aI aJ bj bm bE;clear hg hw hp_;obtain⟨bu,bw,fb⟩:=Kd.ZE ai.out;subst fb)|((with_reducible refine zd (f:=117) rfl ?_);refine qV (some 141) rfl rfl Try.func117 (by kernel_rfl) rfl #[.slice bu aY.length bw,.int .i64 4] rfl (by(try simp only [yiy,yjy,yky]);first|done|rfl|(simp only [yly,ymy];rfl)) ?_;(with_reducible refine(zf.calls k1 _ _ aY 4 t127 t128 _ ?side1 ?side2 fV.out).mono ?_);(case side1=>repeat(first|exact(Kd.zq ai.out).2.2|(with_reducible refine Kd.zy ?_ _)|(with_reducible refine Kd.qA ?_ _)|(with_reducible refine Kd.qR ?_)));(case side2=>exact(Kd.zq ai.out).2.1);rintro e eR ⟨gb,rfl,bJ,hb⟩;refine⟨_,rfl,?_⟩;have az:=zA.mk (Kd.qN (by(with_reducible repeat(first|apply Kd.zS|apply Kd.zT|apply Kd.zZ));exact aj.out) hb);have aA:=zA.mk (Kd.qN (by(with_reducible repeat(first|apply Kd.zS|apply Kd.zT|apply Kd.zZ));exact ak.out) hb);have aB:=zA.mk (Kd.qN (by(with_reducible repeat(first|apply Kd.zS|apply Kd.zT|apply Kd.zZ));exact ai.out) hb);have aC:=zA.mk (Kd.qN (by(with_reducible repeat(first|apply Kd.zS|apply Kd.zT|apply Kd.zZ));exact ax.out) hb);have aF:=zA.mk (Kd.Zt (by(with_reducible repeat(first|apply Kd.zh|apply Kd.zi|apply Kd.zx));exact aH.out) (Kd.Jx bJ) hb);have aI:=zA.mk (Kd.Zt (by(with_reducible repeat(first|apply Kd.zh|apply Kd.zi|apply Kd.zx));exact aX.out) (Kd.Jx bJ) hb);have aJ:=zA.mk (Kd.QA (Kd.QL (Kd.QL (Kd.QL (Kd.QL (Kd.QL (Kd.QL bJ (Kd.JO (by(with_reducible repeat(first|apply Kd.zS|apply Kd.zT|apply Kd.zZ));exact aj.out))) (Kd.JO (by(with_reducible repeat(first|apply Kd.zS|apply Kd.zT|apply Kd.zZ));exact ak.out))) (Kd.JO (by(with_reducible repeat(first|apply Kd.zS|apply Kd.zT|apply Kd.zZ));exact ai.out))) (Kd.JO (by(with_reducible repeat(first|apply Kd.zS|apply Kd.zT|apply Kd.zZ));exact ax.out))) (Kd.zEX (by(with_reducible repeat(first|apply Kd.zh|apply Kd.zi|apply Kd.zx));exact aH.out))) (Kd.zEX (by(with_reducible repeat(first|apply Kd.zh|apply Kd.zi|apply Kd.zx));exact aX.out))) (zQ (by repeat(first|(with_reducible first|exact HB.out|apply zC|apply zB|apply zD|refine zF ?_ ar.out|refine zF ?_ av.out|refine zF ?_ bk.out)|exact HB.out))));have bj:=zA.mk (zO (g:=au) (o := .cells #[.slice aS ad.length aE] 35 (0,0)) (by(with_reducible repeat(first|refine zH ?_ _|refine zJ ?_|refine zG ?_ _));exact aa.out) hb);have bm:=zA.mk (zO (g:=an) (o := .cells #[.slice none 0 0,.slice none 0 0,.slice none 0 0] 88 (0,0)) (by(with_reducible repeat(first|refine zH ?_ _|refine zJ ?_|refine zG ?_ _));exact ab.out) hb);have bE:=zA.mk (zO (g:=al) (o := .cells #[.slice aL t117.length aM,.slice aV t122.length aW,.slice none 0 0] 88 (0,0)) (by(with_reducible repeat(first|refine zH ?_ _|refine zJ ?_|refine zG ?_ _));exact ah.out) hb);have bn:=zA.mk (zM (by repeat(first|(with_reducible first|exact HB.out|apply zC|apply zB|apply zD|refine zF ?_ ar.out|refine zF ?_ av.out|refine zF ?_ bk.out)|exact HB.out)) hb);clear aj;clear ak;clear ai;clear ax;clear aH;clear aX;clear aa;clear ab;clear ah;clear HB;have aj:=az;have ak:=aA;have ai:=aB;have ax:=aC;have aH:=aF;have aX:=aI;have bF:=aJ;have aa:=bj;have ab:=bm;have ah:=bE;have HB:=bn;clear az aA aB aC aF aI aJ bj bm bE bn;(try clear hb);(try clear hb2);(try clear hk);(try clear hi);(try clear bJ);obtain⟨bf,bg,fe⟩:=Kd.QM bF.out;subst fe;have eS:eR.cell? ⟨al,0,none⟩=some (.slice aL t117.length aM):=(zK ah.out 0).trans rfl;have eT:eR.cell? ⟨al,1,none⟩=some (.slice aV t122.length aW):=(zK ah.out 1).trans rfl;have eU:eR.cell? ⟨al,2,none⟩=some (.slice none 0 0):=(zK ah.out 2).trans rfl;have eV:=zP ah.out 0;have eW:=zP ah.out 1;have eX:=zP ah.out 2)|((with_reducible refine Zi (t:=30) (p:=144) rfl ?_);refine ZU (t:=30) (p:=144) (v:=?vo_w97) (w1:=(eR.setCell ⟨al,2,none⟩ (.slice bf t127.length bg))) ?hg ?ho ?hn ?hr ?_;(case ho=>rfl);(case hg=>rfl);(case hn=>rfl);(case hr=>first|(go_simp;done)|(go_simp;rfl));intro cm hw;have az:zA (Kd.R (Kd.int .i64) 2 cm w.heap.size (fun k_=>some k_≠(.slice ba aK.length bb:Value).ownBlock∧some k_≠(.slice bu aY.length bw:Value).ownBlock∧some k_≠(.slice (some ⟨ay,0,none⟩) aw.length aD:Value).ownBlock) (.slice aN aG.length aO) aG):=⟨(by rw[hw];exact(by(with_reducible repeat(first|apply Kd.zS|apply Kd.zT|apply Kd.zZ));exact Kd.qC (Kd.ZR (p:=⟨al,2,none⟩) (Kd.Za aj.out ah.out (by decide)) (fun _ hk=>hk.2) (.slice bf t127.length bg)) (fun _ hk=>⟨hk.1.1.1,⟨hk.1.1.2,hk.1.2⟩⟩)))⟩;have aA:zA (Kd.R (Kd.int .i64) 2 cm w.heap.size (fun k_=>some k_≠(.slice aN aG.length aO:Value).ownBlock∧some k_≠(.slice bu aY.length bw:Value).ownBlock∧some k_≠(.slice (some ⟨ay,0,none⟩) aw.length aD:Value).ownBlock) (.slice ba aK.length bb) aK):=⟨(by rw[hw];exact(by(with_reducible repeat(first|apply Kd.zS|apply Kd.zT|apply Kd.zZ));exact Kd.qC (Kd.ZR (p:=⟨al,2,none⟩) (Kd.Za ak.out ah.out (by decide)) (fun _ hk=>hk.2) (.slice bf t127.length bg)) (fun _ hk=>⟨hk.1.1.1,⟨hk.1.1.2,hk.1.2⟩⟩)))⟩;have aB:zA (Kd.R (Kd.int .i64) 2 cm w.heap.size (fun k_=>some k_≠(.slice aN aG.length aO:Value).ownBlock∧some k_≠(.slice ba aK.length bb:Value).ownBlock∧some k_≠(.slice (some ⟨ay,0,none⟩) aw.length aD:Value).ownBlock) (.slice bu aY.length bw) aY):=⟨(by rw[hw];exact(by(with_reducible repeat(first|apply Kd.zS|apply Kd.zT|apply Kd.zZ));exact Kd.qC (Kd.ZR (p:=⟨al,2,none⟩) (Kd.Za ai.out ah.out (by decide)) (fun _ hk=>hk.2) (.slice bf t127.length bg)) (fun _ hk=>⟨hk.1.1.1,⟨hk.1.1.2,hk.1.2⟩⟩)))⟩;have aC:zA (Kd.R (Kd.int .i64) 2 cm w.heap.size (fun k_=>some k_≠(.slice aN aG.length aO:Value).ownBlock∧some k_≠(.slice ba aK.length bb:Value).ownBlock∧some k_≠(.slice bu aY.length bw:Value).ownBlock) (.slice (some ⟨ay,0,none⟩) aw.length aD) ct):=⟨(by rw[hw];exact(by(with_reducible repeat(first|apply Kd.zS|apply Kd.zT|apply Kd.zZ));exact Kd.qC (Kd.ZR (p:=⟨al,2,none⟩) (Kd.Za ax.out ah.out (by decide)) (fun _ hk=>hk.2) (.slice bf t127.length bg)) (fun _ hk=>⟨hk.1.1,⟨hk.1.2.1,hk.1.2.2⟩⟩)))⟩;have aF:zA (Kd.S (Kd.slice 2 (Kd.int .i64)) 22 cm w.heap.size (fun k_=>some k_≠(.slice aN aG.length aO:Value).ownBlock∧some k_≠(.slice ba aK.length bb:Value).ownBlock∧some k_≠(.slice bu aY.length bw:Value).ownBlock∧some k_≠(.slice (some ⟨ay,0,none⟩) aw.length aD:Value).ownBlock∧some k_≠(.slice aV t122.length aW:Value).ownBlock∧some k_≠(.slice bf t127.length bg:Value).ownBlock) (.slice aL t117.length aM) t117):=⟨(by rw[hw];exact(by(with_reducible repeat(first|apply Kd.zh|apply Kd.zi|apply Kd.zx));exact Kd.ZC (Kd.QD (p:=⟨al,2,none⟩) (Kd.Zo aH.out ah.out (by decide)) (fun _ hk=>hk.2) (.slice bf t127.length bg)) (fun _ hk=>⟨hk.1.1.1.1,⟨hk.1.1.1.2.1,⟨hk.1.1.1.2.2.1,⟨hk.1.1.2,⟨hk.1.1.1.2.2.2,hk.1.2⟩⟩⟩⟩⟩)))⟩;have aI:zA (Kd.S (Kd.slice 2 (Kd.int .i64)) 22 cm w.heap.size (fun k_=>some k_≠(.slice aN aG.length aO:Value).ownBlock∧some k_≠(.slice ba aK.length bb:Value).ownBlock∧some k_≠(.slice bu aY.length bw:Value).ownBlock∧some k_≠(.slice (some ⟨ay,0,none⟩) aw.length aD:Value).ownBlock∧some k_≠(.slice aL t117.length aM:Value).ownBlock∧some k_≠(.slice bf t127.length bg:Value).ownBlock) (.slice aV t122.length aW) t122):=⟨(by rw[hw];exact(by(with_reducible repeat(first|apply Kd.zh|apply Kd.zi|apply Kd.zx));exact Kd.ZC (Kd.QD (p:=⟨al,2,none⟩) (Kd.Zo aX.out ah.out (by decide)) (fun _ hk=>hk.2) (.slice bf t127.length bg)) (fun _ hk=>⟨hk.1.1.1.1,⟨hk.1.1.1.2.1,⟨hk.1.1.1.2.2.1,⟨hk.1.1.2,⟨hk.1.1.1.2.2.2,hk.1.2⟩⟩⟩⟩⟩)))⟩;have aJ:zA (Kd.S (Kd.slice 2 (Kd.int .i64)) 22 cm w.heap.size (fun k_=>some k_≠(.slice aN aG.length aO:Value).ownBlock∧some k_≠(.slice ba aK.length bb:Value).ownBlock∧some k_≠(.slice bu aY.length bw:Value).ownBlock∧some k_≠(.slice (some ⟨ay,0,none⟩) aw.length aD:Value).ownBlock∧some k_≠(.slice aL t117.length aM:Value).ownBlock∧some k_≠(.slice aV t122.length aW:Value).ownBlock) (.slice bf t127.length bg) t127):=⟨(by rw[hw];exact(by(with_reducible repeat(first|apply Kd.zh|apply Kd.zi|apply Kd.zx));exact Kd.ZC (Kd.QD (p:=⟨al,2,none⟩) (Kd.Zo bF.out ah.out (by decide)) (fun _ hk=>hk.2) (.slice bf t127.length bg)) (fun _ hk=>⟨hk.1.1.1.1.1.1.2,⟨hk.1.1.1.1.1.2,⟨hk.1.1.1.1.2,⟨hk.1.1.1.2,⟨hk.1.1.2,hk.1.2⟩⟩⟩⟩⟩)))⟩;have bj:zA (cm.heap[au]?=some (.cells #[.slice aS ad.length aE] 35 (0,0))):=⟨(by rw[hw];exact(by(with_reducible repeat(first|refine zH ?_ _|refine zJ ?_|refine zG ?_ _));refine qJ ?_ aZ.out _;(with_reducible repeat(first|refine zH ?_ _|refine zJ ?_|refine zG ?_ _));exact aa.out))⟩;have bm:zA (cm.heap[an]?=some (.cells #[.slice none 0 0,.slice none 0 0,.slice none 0 0] 88 (0,0))):=⟨(by rw[hw];exact(by(with_reducible repeat(first|refine zH ?_ _|refine zJ ?_|refine zG ?_ _));refine qJ ?_ a1.out _;(with_reducible repeat(first|refine zH ?_ _|refine zJ ?_|refine zG ?_ _));exact ab.out))⟩;have bE:zA (cm.heap[al]?=some (.cells #[.slice aL t117.length aM,.slice aV t122.length aW,.slice bf t127.length bg] 88 (0,0))):=⟨(by rw[hw];exact(by(with_reducible repeat(first|refine zH ?_ _|refine zJ ?_|refine zG ?_ _));refine qf (cs:=#[.slice aL t117.length aM,.slice aV t122.length aW,.slice none 0 0]) ?_ 2 _ rfl;(with_reducible repeat(first|refine zH ?_ _|refine zJ ?_|refine zG ?_ _));exact ah.out))⟩;have bn:zA (Below w.heap.size w cm):=⟨(by rw[hw];exact(by repeat(first|(with_reducible first|exact HB.out|apply zC|apply zB|apply zD|refine zF ?_ ar.out|refine zF ?_ av.out|refine zF ?_ bk.out)|exact HB.out)))⟩;clear hw;clear aj;clear ak;clear ai;clear ax;clear aH;clear aX;clear bF;clear aa;clear ab;clear ah;clear HB;have aj:=az;have ak:=aA;have ai:=aB;have ax:=aC;have aH:=aF;have aX:=aI;have bF:=aJ;have aa:=bj;have ab:=bm;have ah:=bE;have HB:=bn;clear az aA aB aC aF aI aJ bj bm bE bn;have ff:0≤(2:Int):=(by omega);have fg:(2:Int)<((aw.length:Int):Int):=of_decide_eq_true (by first|(with_reducible assumption)|assumption);have gf:(2<aw.length)=True:=eq_true (by omega);obtain⟨cA,cB⟩:=Kd.Zm 0 ax.out (2:Int) ff fg;(try rw[show((2:Int)).toNat=2 from rfl]at cA);(try simp only [Nat.reduceMul,Nat.zero_mul,Nat.zero_add,Nat.reduceAdd]at cA);(try rw[show((2:Int)).toNat=2 from rfl]at cB);(try simp only [Nat.reduceMul,Nat.zero_mul,Nat.zero_add,Nat.reduceAdd]at cB);replace ff:=eq_true ff;replace fg:=eq_true fg;obtain⟨da,db⟩:=Kd.Zm 0 ax.out (2:Int) (by omega) (of_decide_eq_true (by first|(with_reducible assumption)|assumption));(try simp only [Int.reduceToNat,Int.toNat_zero,Int.toNat_ofNat,Nat.reduceMul,Nat.zero_mul,Nat.zero_add]at da db);(try rw[show((2:Int)).toNat=2 from rfl]at da);(try rw[show((2:Int)).toNat=2 from rfl]at db);have dk:=Kd.zAF ax.out (2:Int) t128)|((with_reducible refine Zi (t:=2) (p:=145) rfl ?_);refine ZU (t:=2) (p:=145) (v:=?vo_w99) (w1:=(cm.setCell ⟨ay,(2:Int).toNat,none⟩ (.int .i64 t128))) ?hg ?ho ?hn ?hr ?_;(case ho=>rfl);(case hg=>rfl);(case hn=>rfl);(case hr=>first|(go_simp;done)|(go_simp;rfl));intro cP hw;have hg:cm.grownBy cP (some ay):=(by rw[hw];exact dk.2);have hp_:Kd.R (Kd.int .i64) 2 cP w.heap.size (fun k_=>some k_≠(.slice aN aG.length aO:Value).ownBlock∧some k_≠(.slice ba aK.length bb:Value).ownBlock∧some k_≠(.slice bu aY.length bw:Value).ownBlock) (.slice (some ⟨ay,0,none⟩) aw.length aD) dG:=(by rw[hw,dH.out];exact dk.1);clear dk;have az:=zA.mk (Kd.ZK (v:=(.slice (some ⟨ay,0,none⟩) aw.length aD)) (v1:=(.slice (some ⟨ay,0,none⟩) aw.length aD)) (ok:=(fun k_=>some k_≠(.slice ba aK.length bb:Value).ownBlock∧some k_≠(.slice bu aY.length bw:Value).ownBlock)) (by(with_reducible repeat(first|apply Kd.zS|apply Kd.zT|apply Kd.zZ));exact Kd.qC aj.out (fun _ hk=>⟨⟨hk.1,hk.2.1⟩,hk.2.2⟩)) hg (.inl rfl));have aA:=zA.mk (Kd.ZK (v:=(.slice (some ⟨ay,0,none⟩) aw.length aD)) (v1:=(.slice (some ⟨ay,0,none⟩) aw.length aD)) (ok:=(fun k_=>some k_≠(.slice aN aG.length aO:Value).ownBlock∧some k_≠(.slice bu aY.length bw:Value).ownBlock)) (by(with_reducible repeat(first|apply Kd.zS|apply Kd.zT|apply Kd.zZ));exact Kd.qC ak.out (fun _ hk=>⟨⟨hk.1,hk.2.1⟩,hk.2.2⟩)) hg (.inl rfl));have aB:=zA.mk (Kd.ZK (v:=(.slice (some ⟨ay,0,none⟩) aw.length aD)) (v1:=(.slice (some ⟨ay,0,none⟩) aw.length aD)) (ok:=(fun k_=>some k_≠(.slice aN aG.length aO:Value).ownBlock∧some k_≠(.slice ba aK.length bb:Value).ownBlock)) (by(with_reducible repeat(first|apply Kd.zS|apply Kd.zT|apply Kd.zZ));exact Kd.qC ai.out (fun _ hk=>⟨⟨hk.1,hk.2.1⟩,hk.2.2⟩)) hg (.inl rfl));have aC:=zA.mk (qj (g:=au) (o := .cells #[.slice aS ad.length aE] 35 (0,0)) (by(with_reducible repeat(first|refine zH ?_ _|refine zJ ?_|refine zG ?_ _));exact aa.out) hg (Kd.zCU ax.out aa.out (by decide)));have aF:=zA.mk (qj (g:=an) (o := .cells #[.slice none 0 0,.slice none 0 0,.slice none 0 0] 88 (0,0)) (by(with_reducible repeat(first|refine zH ?_ _|refine zJ ?_|refine zG ?_ _));exact ab.out) hg (Kd.zCU ax.out ab.out (by decide)));have aI:=zA.mk (qj (g:=al) (o := .cells #[.slice aL t117.length aM,.slice aV t122.length aW,.slice bf t127.length bg] 88 (0,0)) (by(with_reducible repeat(first|refine zH ?_ _|refine zJ ?_|refine zG ?_ _));exact ah.out) hg (Kd.zCU ax.out ah.out (by decide)));have aJ:=zA.mk (hp_);have bj:=zA.mk (Kd.JY (v:=(.slice (some ⟨ay,0,none⟩) aw.length aD)) (v1:=(.slice (some ⟨ay,0,none⟩) aw.length aD)) (ok:=(fun k_=>some k_≠(.slice aN aG.length aO:Value).ownBlock∧some k_≠(.slice ba aK.length bb:Value).ownBlock∧some k_≠(.slice bu aY.length bw:Value).ownBlock∧some k_≠(.slice aV t122.length aW:Value).ownBlock∧some k_≠(.slice bf t127.length bg:Value).ownBlock)) (by(with_reducible repeat(first|apply Kd.zh|apply Kd.zi|apply Kd.zx));exact Kd.ZC aH.out (fun _ hk=>⟨⟨hk.1,⟨hk.2.1,⟨hk.2.2.1,⟨hk.2.2.2.2.1,hk.2.2.2.2.2⟩⟩⟩⟩,hk.2.2.2.1⟩)) hg (.inl rfl));have bm:=zA.mk (Kd.JY (v:=(.slice (some ⟨ay,0,none⟩) aw.length aD)) (v1:=(.slice (some ⟨ay,0,none⟩) aw.length aD)) (ok:=(fun k_=>some k_≠(.slice aN aG.length aO:Value).ownBlock∧some k_≠(.slice ba aK.length bb:Value).ownBlock∧some k_≠(.slice bu aY.length bw:Value).ownBlock∧some k_≠(.slice aL t117.length aM:Value).ownBlock∧some k_≠(.slice bf t127.length bg:Value).ownBlock)) (by(with_reducible repeat(first|apply Kd.zh|apply Kd.zi|apply Kd.zx));exact Kd.ZC aX.out (fun _ hk=>⟨⟨hk.1,⟨hk.2.1,⟨hk.2.2.1,⟨hk.2.2.2.2.1,hk.2.2.2.2.2⟩⟩⟩⟩,hk.2.2.2.1⟩)) hg (.inl rfl));have bE:=zA.mk (Kd.JY (v:=(.slice (some ⟨ay,0,none⟩) aw.length aD)) (v1:=(.slice (some ⟨ay,0,none⟩) aw.length aD)) (ok:=(fun k_=>some k_≠(.slice aN aG.length aO:Value).ownBlock∧some k_≠(.slice ba aK.length bb:Value).ownBlock∧some k_≠(.slice bu aY.length bw:Value).ownBlock∧some k_≠(.slice aL t117.length aM:Value).ownBlock∧some k_≠(.slice aV t122.length aW:Value).ownBlock)) (by(with_reducible repeat(first|apply Kd.zh|apply Kd.zi|apply Kd.zx));exact Kd.ZC bF.out (fun _ hk=>⟨⟨hk.1,⟨hk.2.1,⟨hk.2.2.1,⟨hk.2.2.2.2.1,hk.2.2.2.2.2⟩⟩⟩⟩,hk.2.2.2.1⟩)) hg (.inl rfl));have bn:=zA.mk ((by rw[hw];exact zF (HB.out) dh.out:Below w.heap.size w cP));clear aj;clear ak;clear ai;clear aa;clear ab;clear ah;clear ax;clear aH;clear aX;clear bF;clear HB;have aj:=az;have ak:=aA;have ai:=aB;have aa:=aC;have ab:=aF;have ah:=aI;have ax:=aJ;have aH:=bj;have aX:=bm;have bF:=bE;have HB:=bn;clear az aA aB aC aF aI aJ bj bm bE bn;clear hg hw hp_;have dL:cP.cell? ⟨al,0,none⟩=some (.slice aL t117.length aM):=(zK ah.out 0).trans rfl;have dM:cP.cell? ⟨al,1,none⟩=some (.slice aV t122.length aW):=(zK ah.out 1).trans rfl;have dN:cP.cell? ⟨al,2,none⟩=some (.slice bf t127.length bg):=(zK ah.out 2).trans rfl;have dO:=zP ah.out 0;have dP:=zP ah.out 1;have dQ:=zP ah.out 2;have fh:=bp.out;have fi:=bo.out;have dR:cP.cell? ⟨an,0,none⟩=some (.slice none 0 0):=(zK ab.out 0).trans rfl;have dS:cP.cell? ⟨an,1,none⟩=some (.slice none 0 0):=(zK ab.out 1).trans rfl;have dT:cP.cell? ⟨an,2,none⟩=some (.slice none 0 0):=(zK ab.out 2).trans rfl;have dU:=zP ab.out 0;have dV:=zP ab.out 1;have dW:=zP ab.out 2))
    refine bodyPost_ret (zFn rfl _ _ an 88 #[.slice aL t117.length aM,.slice aV t122.length aW,.slice bf t127.length bg] (0,0) _ rfl (by(with_reducible repeat(first|refine zH ?_ _|refine zJ ?_|refine zG ?_ _));refine qf (cs:=#[.slice aL t117.length aM,.slice aV t122.length aW,.slice none 0 0]) ?_ 2 _ rfl;(with_reducible repeat(first|refine zH ?_ _|refine zJ ?_|refine zG ?_ _));refine qf (cs:=#[.slice aL t117.length aM,.slice none 0 0,.slice none 0 0]) ?_ 1 _ rfl;(with_reducible repeat(first|refine zH ?_ _|refine zJ ?_|refine zG ?_ _));refine qf (cs:=#[.slice none 0 0,.slice none 0 0,.slice none 0 0]) ?_ 0 _ rfl;(with_reducible repeat(first|refine zH ?_ _|refine zJ ?_|refine zG ?_ _));exact ab.out) Try.underlying88 rfl (by kernel_rfl)) rfl ?_
    exact⟨_,_,_,_,by first|rfl|(simp [zU,zV] <;> rfl)|(simp [*,zU,zV] <;> rfl),by(with_reducible repeat(first|apply Kd.zh|apply Kd.zi|apply Kd.zx));exact Kd.ZC (Kd.QD (p:=⟨an,2,none⟩) (Kd.QD (p:=⟨an,1,none⟩) (Kd.QD (p:=⟨an,0,none⟩) (Kd.Zo aH.out ab.out (by decide)) (fun _ hk=>hk.2) (.slice aL t117.length aM)) (fun _ hk=>hk.2) (.slice aV t122.length aW)) (fun _ hk=>hk.2) (.slice bf t127.length bg)) (fun _ hk=>⟨hk.1.1.2.2.2.1,⟨hk.1.1.2.2.2.2,hk.1.2⟩⟩),by(with_reducible repeat(first|apply Kd.zh|apply Kd.zi|apply Kd.zx));exact Kd.ZC (Kd.QD (p:=⟨an,2,none⟩) (Kd.QD (p:=⟨an,1,none⟩) (Kd.QD (p:=⟨an,0,none⟩) (Kd.Zo aX.out ab.out (by decide)) (fun _ hk=>hk.2) (.slice aL t117.length aM)) (fun _ hk=>hk.2) (.slice aV t122.length aW)) (fun _ hk=>hk.2) (.slice bf t127.length bg)) (fun _ hk=>⟨hk.1.1.2.2.2.1,⟨hk.1.1.2.2.2.2,hk.1.2⟩⟩),by(with_reducible repeat(first|apply Kd.zh|apply Kd.zi|apply Kd.zx));exact Kd.ZC (Kd.QD (p:=⟨an,2,none⟩) (Kd.QD (p:=⟨an,1,none⟩) (Kd.QD (p:=⟨an,0,none⟩) (Kd.Zo bF.out ab.out (by decide)) (fun _ hk=>hk.2) (.slice aL t117.length aM)) (fun _ hk=>hk.2) (.slice aV t122.length aW)) (fun _ hk=>hk.2) (.slice bf t127.length bg)) (fun _ hk=>⟨hk.1.1.2.2.2.1,⟨hk.1.1.2.2.2.2,hk.1.2⟩⟩),by(with_reducible repeat(first|apply Kd.zS|apply Kd.zT|apply Kd.zZ));exact Kd.qC (Kd.ZR (p:=⟨an,2,none⟩) (Kd.ZR (p:=⟨an,1,none⟩) (Kd.ZR (p:=⟨an,0,none⟩) (Kd.Za ax.out ab.out (by decide)) (fun _ hk=>hk.2) (.slice aL t117.length aM)) (fun _ hk=>hk.2) (.slice aV t122.length aW)) (fun _ hk=>hk.2) (.slice bf t127.length bg)) (fun _ hk=>trivial),by repeat(first|(with_reducible first|exact HB.out|apply zC|apply zB|apply zD|refine zF ?_ ar.out|refine zF ?_ av.out|refine zF ?_ bk.out)|exact HB.out)⟩
   rw[if_pos cN]at H
   have b5:decide (af<t103)=true:=ygy cN
   clear cN;have H':=zA.mk H
   clear H;go_wp2;go_loopg [9] k1 (fun kq v9 w' => ∃ (bP:List Int) (bA:List Int) (bq:List Int) (ae:Int),v9 = .int .i64 ae∧zA (zR.l1 kq t103 bP bA bq af ae ad=some (r1,r2,r3,r4))∧zA (kq≤k1)∧zA (Kd.R (Kd.int .i64) 2 w' w.heap.size (fun k_=>some k_≠(aT:Value).ownBlock∧some k_≠(aU:Value).ownBlock) bh bP)∧zA (Kd.R (Kd.int .i64) 2 w' w.heap.size (fun k_=>some k_≠(bh:Value).ownBlock∧some k_≠(aU:Value).ownBlock) aT bA)∧zA (Kd.R (Kd.int .i64) 2 w' w.heap.size (fun k_=>some k_≠(bh:Value).ownBlock∧some k_≠(aT:Value).ownBlock) aU bq)∧zA (w'.heap[au]?=some (.cells #[(.slice aS ad.length aE)] 35 (0,0)))∧zA (w'.heap[an]?=some (.cells #[(.slice none 0 0),(.slice none 0 0),(.slice none 0 0)] 88 (0,0)))∧zA (Below w.heap.size w w'))
   case atStart=>exact⟨(aG),(aK),(aY),(0),(by first|rfl|(simp;done)|(simp [*];done)),H',⟨yry _⟩,⟨by(with_reducible repeat(first|apply Kd.zS|apply Kd.zT|apply Kd.zZ));exact aj.out⟩,⟨by(with_reducible repeat(first|apply Kd.zS|apply Kd.zT|apply Kd.zZ));exact ak.out⟩,⟨by(with_reducible repeat(first|apply Kd.zS|apply Kd.zT|apply Kd.zZ));exact ai.out⟩,⟨by(with_reducible repeat(first|refine zH ?_ _|refine zJ ?_|refine zG ?_ _));exact aa.out⟩,⟨by(with_reducible repeat(first|refine zH ?_ _|refine zJ ?_|refine zG ?_ _));exact ab.out⟩,⟨by repeat(first|(with_reducible first|exact HB.out|apply zC|apply zB|apply zD|refine zF ?_ ar.out|refine zF ?_ av.out)|exact HB.out)⟩⟩
   case round=>
    clear H';(try clear c1);(try clear p2);(try clear c6);(try clear p6);(try clear c8);(try clear c9);(try clear cN);(try clear b5);(try clear bH);(try clear bI);(try clear p2);(try clear p6);obtain⟨bP,bA,bq,ae,rfl,HA,cd,aj,ak,ai,aa,ab,HB⟩:=hrel
    cases gk with
    | zero=>exact absurd HA.out (by simp [zR.l1])
    | succ k2=>
     have H:=HA.out
     clear HA;simp only [zR.l1]at H
     by_cases cQ:ae<4
     case neg=>
      rw[if_neg cQ]at H
      have cg:decide (ae<4)=false:=yhy cQ
      clear cQ;have H':=zA.mk H
      clear H;go_wp2;go_roundg k2
      case measure=>have:=cc.out;have:=cd.out;omega
      case rel=>exact⟨(bP),(bA),(bq),(wrap64 (af+1)),(by first|rfl|(simp;done)|(simp [*];done)),H',⟨by have:=cc.out;have:=cd.out;omega⟩,⟨by(with_reducible repeat(first|apply Kd.zS|apply Kd.zT|apply Kd.zZ));exact aj.out⟩,⟨by(with_reducible repeat(first|apply Kd.zS|apply Kd.zT|apply Kd.zZ));exact ak.out⟩,⟨by(with_reducible repeat(first|apply Kd.zS|apply Kd.zT|apply Kd.zZ));exact ai.out⟩,⟨by(with_reducible repeat(first|refine zH ?_ _|refine zJ ?_|refine zG ?_ _));exact aa.out⟩,⟨by(with_reducible repeat(first|refine zH ?_ _|refine zJ ?_|refine zG ?_ _));exact ab.out⟩,⟨by repeat(first|(with_reducible first|exact HB.out|apply zC|apply zB|apply zD|refine zF ?_ ar.out|refine zF ?_ av.out)|exact HB.out)⟩⟩
     rw[if_pos cQ]at H
     have cg:decide (ae<4)=true:=ygy cQ
     clear cQ;by_cases dm:0≤af
     case neg=>
      rw[if_neg dm]at H
      exact absurd H (by simp)
     rw[if_pos dm]at H
     have cC:decide (0≤af)=true:=ygy dm
     clear dm;by_cases dn:af<(ad.length:Int)
     case neg=>
      rw[if_neg dn]at H
      exact absurd H (by simp)
     rw[if_pos dn]at H
     have cD:decide (af<(ad.length:Int))=true:=ygy dn
     clear dn;by_cases dp:0≤ae
     case neg=>
      rw[if_neg dp]at H
      exact absurd H (by simp)
     rw[if_pos dp]at H
     have cE:decide (0≤ae)=true:=ygy dp
     clear dp;by_cases dq:ae<((zE ad af).length:Int)
     case neg=>
      rw[if_neg dq]at H
      exact absurd H (by simp)
     rw[if_pos dq]at H
     have cF:decide (ae<((zE ad af).length:Int))=true:=ygy dq
     clear dq;by_cases cR:((zI (zE ad af) ae).f0)<0
     next=>
      rw[if_pos cR]at H
      have ch:decide (((zI (zE ad af) ae).f0)<0)=true:=ygy cR
      clear cR;have H':=zA.mk H
      clear H;have fB:=bo.out
      have fC:=bp.out
      have bQ:wr.cell? ⟨au,0,none⟩=some (.slice aS ad.length aE):=(zK aa.out 0).trans rfl
      have bR:=zP aa.out 0
      have bK:0≤(af:Int):=of_decide_eq_true (by first|(with_reducible assumption)|assumption)
      have bL:af<(ad.length:Int):=of_decide_eq_true (by first|(with_reducible assumption)|assumption)
      obtain⟨a_,dr,dt,du,a6,bx,bz⟩:=ZY cq.out af bK bL
      cases du
      replace a6:=(HB.out.cell (yqy w _ a6)).trans a6
      have bS:=zA.mk bz
      have cS:=zA.mk bx
      clear bz bx;replace bK:=eq_true bK
      replace bL:=eq_true bL
      have bM:0≤(ae:Int):=of_decide_eq_true (by first|(with_reducible assumption)|assumption)
      have bN:ae<((zE ad af).length:Int):=of_decide_eq_true (by first|(with_reducible assumption)|assumption)
      obtain⟨dX,dv,a7,a8⟩:=QF bS.out ae bM bN
      cases dv
      replace a7:=(HB.out.cell (yqy w _ a7)).trans a7
      replace a8:=(HB.out.cell (yqy w _ a8)).trans a8
      replace bM:=eq_true bM
      replace bN:=eq_true bN
      go_wp2_with (first|((with_reducible refine zw (N:=10) rfl ?_);refine zz ?hg (N:=10) ?hd (cs:=#[.int .i64 0,.int .i64 0]) (t:=75) ?hr ?_;(case hd=>rfl);(case hg=>rfl);(case hr=>first|(go_simp;done)|(go_simp;rfl));intro ao hg fD hbox hb;have az:=zA.mk (Kd.qN (by(with_reducible repeat(first|apply Kd.zS|apply Kd.zT|apply Kd.zZ));exact aj.out) hb);have aA:=zA.mk (Kd.qN (by(with_reducible repeat(first|apply Kd.zS|apply Kd.zT|apply Kd.zZ));exact ak.out) hb);have aB:=zA.mk (Kd.qN (by(with_reducible repeat(first|apply Kd.zS|apply Kd.zT|apply Kd.zZ));exact ai.out) hb);have aC:=zA.mk (zO (g:=au) (o := .cells #[.slice (some a_) ad.length aE] 35 (0,0)) (by(with_reducible repeat(first|refine zH ?_ _|refine zJ ?_|refine zG ?_ _));exact aa.out) hb);have aF:=zA.mk (zO (g:=an) (o := .cells #[.slice none 0 0,.slice none 0 0,.slice none 0 0] 88 (0,0)) (by(with_reducible repeat(first|refine zH ?_ _|refine zJ ?_|refine zG ?_ _));exact ab.out) hb);have aI:=zA.mk (zM (by repeat(first|(with_reducible first|exact HB.out|apply zC|apply zB|apply zD|refine zF ?_ ar.out|refine zF ?_ av.out)|exact HB.out)) hb);have aJ:=zA.mk (hbox);have bj:=zA.mk ((by rw[hg];exact(zQ (by repeat(first|(with_reducible first|exact HB.out|apply zC|apply zB|apply zD|refine zF ?_ ar.out|refine zF ?_ av.out)|exact HB.out))):w.heap.size≤ao));have bm:=zA.mk ((by rw[hg];exact(zQ (by repeat(first|(with_reducible first|exact HB.out|apply zC|apply zB|apply zD|refine zF ?_ ar.out|refine zF ?_ av.out)|exact HB.out))):w.heap.size≤ao));have bE:=zA.mk ((by rw[hg];exact Nat.ne_of_lt (qT (g:=au) (o := .cells #[.slice (some a_) ad.length aE] 35 (0,0)) (by(with_reducible repeat(first|refine zH ?_ _|refine zJ ?_|refine zG ?_ _));exact aa.out)):au≠ao));have bn:=zA.mk ((by rw[hg];exact Nat.ne_of_gt (qT (g:=au) (o := .cells #[.slice (some a_) ad.length aE] 35 (0,0)) (by(with_reducible repeat(first|refine zH ?_ _|refine zJ ?_|refine zG ?_ _));exact aa.out)):ao≠au));have b_:=zA.mk ((by rw[hg];exact Nat.ne_of_lt (qT (g:=an) (o := .cells #[.slice none 0 0,.slice none 0 0,.slice none 0 0] 88 (0,0)) (by(with_reducible repeat(first|refine zH ?_ _|refine zJ ?_|refine zG ?_ _));exact ab.out)):an≠ao));have ca:=zA.mk ((by rw[hg];exact Nat.ne_of_gt (qT (g:=an) (o := .cells #[.slice none 0 0,.slice none 0 0,.slice none 0 0] 88 (0,0)) (by(with_reducible repeat(first|refine zH ?_ _|refine zJ ?_|refine zG ?_ _));exact ab.out)):ao≠an));clear aj;clear ak;clear ai;clear aa;clear ab;clear HB;have aj:=az;have ak:=aA;have ai:=aB;have aa:=aC;have ab:=aF;have HB:=aI;have ag:=aJ;have dY:=bj;have aQ:=bm;have a2:=bE;have bB:=bn;have a5:=b_;have bC:=ca;clear az aA aB aC aF aI aJ bj bm bE bn b_ ca;clear hb hbox hg;have fE:=bB.out;have fF:=a2.out;have fG:=bC.out;have fH:=a5.out;have bT:fD.cell? ⟨ao,0,none⟩=some (.int .i64 0):=(zK ag.out 0).trans rfl;have bU:fD.cell? ⟨ao,1,none⟩=some (.int .i64 0):=(zK ag.out 1).trans rfl;have bV:=zP ag.out 0;have bW:=zP ag.out 1))
      go_roundg k2
      case measure=>have:=cc.out;have:=cd.out;omega
      case rel=>exact⟨(bP),(bA),(bq),(wrap64 (ae+1)),(by first|rfl|(simp;done)|(simp [*];done)),H',⟨by have:=cc.out;have:=cd.out;omega⟩,⟨by(with_reducible repeat(first|apply Kd.zS|apply Kd.zT|apply Kd.zZ));exact Kd.qC (Kd.ZR (p:=⟨ao,1,none⟩) (Kd.ZR (p:=⟨ao,0,none⟩) (Kd.Za aj.out ag.out (by decide)) (fun _ hk=>hk.2) (.int .i64 ((zI (zE ad af) ae).f0))) (fun _ hk=>hk.2) (.int .i64 ((zI (zE ad af) ae).f1))) (fun _ hk=>⟨hk.1.1,hk.1.2⟩)⟩,⟨by(with_reducible repeat(first|apply Kd.zS|apply Kd.zT|apply Kd.zZ));exact Kd.qC (Kd.ZR (p:=⟨ao,1,none⟩) (Kd.ZR (p:=⟨ao,0,none⟩) (Kd.Za ak.out ag.out (by decide)) (fun _ hk=>hk.2) (.int .i64 ((zI (zE ad af) ae).f0))) (fun _ hk=>hk.2) (.int .i64 ((zI (zE ad af) ae).f1))) (fun _ hk=>⟨hk.1.1,hk.1.2⟩)⟩,⟨by(with_reducible repeat(first|apply Kd.zS|apply Kd.zT|apply Kd.zZ));exact Kd.qC (Kd.ZR (p:=⟨ao,1,none⟩) (Kd.ZR (p:=⟨ao,0,none⟩) (Kd.Za ai.out ag.out (by decide)) (fun _ hk=>hk.2) (.int .i64 ((zI (zE ad af) ae).f0))) (fun _ hk=>hk.2) (.int .i64 ((zI (zE ad af) ae).f1))) (fun _ hk=>⟨hk.1.1,hk.1.2⟩)⟩,⟨by(with_reducible repeat(first|refine zH ?_ _|refine zJ ?_|refine zG ?_ _));refine qJ ?_ a2.out _;(with_reducible repeat(first|refine zH ?_ _|refine zJ ?_|refine zG ?_ _));refine qJ ?_ a2.out _;(with_reducible repeat(first|refine zH ?_ _|refine zJ ?_|refine zG ?_ _));exact aa.out⟩,⟨by(with_reducible repeat(first|refine zH ?_ _|refine zJ ?_|refine zG ?_ _));refine qJ ?_ a5.out _;(with_reducible repeat(first|refine zH ?_ _|refine zJ ?_|refine zG ?_ _));refine qJ ?_ a5.out _;(with_reducible repeat(first|refine zH ?_ _|refine zJ ?_|refine zG ?_ _));exact ab.out⟩,⟨by repeat(first|(with_reducible first|exact HB.out|apply zC|apply zB|apply zD|refine zF ?_ ar.out|refine zF ?_ av.out|refine zF ?_ aQ.out)|exact HB.out)⟩⟩
     rw[if_neg cR]at H
     have ch:decide (((zI (zE ad af) ae).f0)<0)=false:=yhy cR
     clear cR;replace H:=ydy.mp H
     obtain⟨t135,dZ,H⟩:=H
     replace H:((qz.f bq (wrap64 ((wrap64 (4*af))+ae)) (wrap64 ((wrap64 (4*((zI (zE ad af) ae).f0)))+t135))).bind fun t136=>(zR.l2 k2 t103 bP bA t136 af ae 0 ad ((zI (zE ad af) ae).f0) ((zI (zE ad af) ae).f1)))=some (r1,r2,r3,r4):=H
     have gg:=zA.mk dZ
     clear dZ;replace H:=ydy.mp H
     obtain⟨t136,d_,H⟩:=H
     replace H:(zR.l2 k2 t103 bP bA t136 af ae 0 ad ((zI (zE ad af) ae).f0) ((zI (zE ad af) ae).f1))=some (r1,r2,r3,r4):=H
     have gh:=zA.mk d_
     clear d_;have H':=zA.mk H
     clear H;have fI:=bo.out
     have fJ:=bp.out
     have bX:wr.cell? ⟨au,0,none⟩=some (.slice aS ad.length aE):=(zK aa.out 0).trans rfl
     have bY:=zP aa.out 0
     have bK:0≤(af:Int):=of_decide_eq_true (by first|(with_reducible assumption)|assumption)
     have bL:af<(ad.length:Int):=of_decide_eq_true (by first|(with_reducible assumption)|assumption)
     obtain⟨a_,dr,dt,du,a6,bx,bz⟩:=ZY cq.out af bK bL
     cases du
     replace a6:=(HB.out.cell (yqy w _ a6)).trans a6
     have bS:=zA.mk bz
     have cS:=zA.mk bx
     clear bz bx;replace bK:=eq_true bK
     replace bL:=eq_true bL
     have bM:0≤(ae:Int):=of_decide_eq_true (by first|(with_reducible assumption)|assumption)
     have bN:ae<((zE ad af).length:Int):=of_decide_eq_true (by first|(with_reducible assumption)|assumption)
     obtain⟨dX,dv,a7,a8⟩:=QF bS.out ae bM bN
     cases dv
     replace a7:=(HB.out.cell (yqy w _ a7)).trans a7
     replace a8:=(HB.out.cell (yqy w _ a8)).trans a8
     replace bM:=eq_true bM
     replace bN:=eq_true bN
     try go_wp2_with (first|((with_reducible refine zw (N:=10) rfl ?_);refine zz ?hg (N:=10) ?hd (cs:=#[.int .i64 0,.int .i64 0]) (t:=75) ?hr ?_;(case hd=>rfl);(case hg=>rfl);(case hr=>first|(go_simp;done)|(go_simp;rfl));intro ao hg cO hbox hb;have az:=zA.mk (Kd.qN (by(with_reducible repeat(first|apply Kd.zS|apply Kd.zT|apply Kd.zZ));exact aj.out) hb);have aA:=zA.mk (Kd.qN (by(with_reducible repeat(first|apply Kd.zS|apply Kd.zT|apply Kd.zZ));exact ak.out) hb);have aB:=zA.mk (Kd.qN (by(with_reducible repeat(first|apply Kd.zS|apply Kd.zT|apply Kd.zZ));exact ai.out) hb);have aC:=zA.mk (zO (g:=au) (o := .cells #[.slice (some a_) ad.length aE] 35 (0,0)) (by(with_reducible repeat(first|refine zH ?_ _|refine zJ ?_|refine zG ?_ _));exact aa.out) hb);have aF:=zA.mk (zO (g:=an) (o := .cells #[.slice none 0 0,.slice none 0 0,.slice none 0 0] 88 (0,0)) (by(with_reducible repeat(first|refine zH ?_ _|refine zJ ?_|refine zG ?_ _));exact ab.out) hb);have aI:=zA.mk (zM (by repeat(first|(with_reducible first|exact HB.out|apply zC|apply zB|apply zD|refine zF ?_ ar.out|refine zF ?_ av.out)|exact HB.out)) hb);have aJ:=zA.mk (hbox);have bj:=zA.mk ((by rw[hg];exact(zQ (by repeat(first|(with_reducible first|exact HB.out|apply zC|apply zB|apply zD|refine zF ?_ ar.out|refine zF ?_ av.out)|exact HB.out))):w.heap.size≤ao));have bm:=zA.mk ((by rw[hg];exact(zQ (by repeat(first|(with_reducible first|exact HB.out|apply zC|apply zB|apply zD|refine zF ?_ ar.out|refine zF ?_ av.out)|exact HB.out))):w.heap.size≤ao));have bE:=zA.mk ((by rw[hg];exact Nat.ne_of_lt (qT (g:=au) (o := .cells #[.slice (some a_) ad.length aE] 35 (0,0)) (by(with_reducible repeat(first|refine zH ?_ _|refine zJ ?_|refine zG ?_ _));exact aa.out)):au≠ao));have bn:=zA.mk ((by rw[hg];exact Nat.ne_of_gt (qT (g:=au) (o := .cells #[.slice (some a_) ad.length aE] 35 (0,0)) (by(with_reducible repeat(first|refine zH ?_ _|refine zJ ?_|refine zG ?_ _));exact aa.out)):ao≠au));have b_:=zA.mk ((by rw[hg];exact Nat.ne_of_lt (qT (g:=an) (o := .cells #[.slice none 0 0,.slice none 0 0,.slice none 0 0] 88 (0,0)) (by(with_reducible repeat(first|refine zH ?_ _|refine zJ ?_|refine zG ?_ _));exact ab.out)):an≠ao));have ca:=zA.mk ((by rw[hg];exact Nat.ne_of_gt (qT (g:=an) (o := .cells #[.slice none 0 0,.slice none 0 0,.slice none 0 0] 88 (0,0)) (by(with_reducible repeat(first|refine zH ?_ _|refine zJ ?_|refine zG ?_ _));exact ab.out)):ao≠an));clear aj;clear ak;clear ai;clear aa;clear ab;clear HB;have aj:=az;have ak:=aA;have ai:=aB;have aa:=aC;have ab:=aF;have HB:=aI;have ag:=aJ;have dY:=bj;have aQ:=bm;have a2:=bE;have bB:=bn;have a5:=b_;have bC:=ca;clear az aA aB aC aF aI aJ bj bm bE bn b_ ca;clear hb hbox hg;have fK:=bB.out;have fL:=a2.out;have fM:=bC.out;have fN:=a5.out;have bZ:cO.cell? ⟨ao,0,none⟩=some (.int .i64 0):=(zK ag.out 0).trans rfl;have b0:cO.cell? ⟨ao,1,none⟩=some (.int .i64 0):=(zK ag.out 1).trans rfl;have b1:=zP ag.out 0;have b2:=zP ag.out 1))
     have az:zA (Kd.R (Kd.int .i64) 2 ((cO.setCell ⟨ao,0,none⟩ (.int .i64 ((zI (zE ad af) ae).f0))).setCell ⟨ao,1,none⟩ (.int .i64 ((zI (zE ad af) ae).f1))) w.heap.size (fun k_=>some k_≠(aT:Value).ownBlock∧some k_≠(aU:Value).ownBlock) bh bP):=⟨by(with_reducible repeat(first|apply Kd.zS|apply Kd.zT|apply Kd.zZ));exact Kd.qC (Kd.ZR (p:=⟨ao,1,none⟩) (Kd.ZR (p:=⟨ao,0,none⟩) (Kd.Za aj.out ag.out (by decide)) (fun _ hk=>hk.2) (.int .i64 ((zI (zE ad af) ae).f0))) (fun _ hk=>hk.2) (.int .i64 ((zI (zE ad af) ae).f1))) (fun _ hk=>⟨hk.1.1,hk.1.2⟩)⟩
     have aA:zA (Kd.R (Kd.int .i64) 2 ((cO.setCell ⟨ao,0,none⟩ (.int .i64 ((zI (zE ad af) ae).f0))).setCell ⟨ao,1,none⟩ (.int .i64 ((zI (zE ad af) ae).f1))) w.heap.size (fun k_=>some k_≠(bh:Value).ownBlock∧some k_≠(aU:Value).ownBlock) aT bA):=⟨by(with_reducible repeat(first|apply Kd.zS|apply Kd.zT|apply Kd.zZ));exact Kd.qC (Kd.ZR (p:=⟨ao,1,none⟩) (Kd.ZR (p:=⟨ao,0,none⟩) (Kd.Za ak.out ag.out (by decide)) (fun _ hk=>hk.2) (.int .i64 ((zI (zE ad af) ae).f0))) (fun _ hk=>hk.2) (.int .i64 ((zI (zE ad af) ae).f1))) (fun _ hk=>⟨hk.1.1,hk.1.2⟩)⟩
     have aB:zA (Kd.R (Kd.int .i64) 2 ((cO.setCell ⟨ao,0,none⟩ (.int .i64 ((zI (zE ad af) ae).f0))).setCell ⟨ao,1,none⟩ (.int .i64 ((zI (zE ad af) ae).f1))) w.heap.size (fun k_=>some k_≠(bh:Value).ownBlock∧some k_≠(aT:Value).ownBlock) aU bq):=⟨by(with_reducible repeat(first|apply Kd.zS|apply Kd.zT|apply Kd.zZ));exact Kd.qC (Kd.ZR (p:=⟨ao,1,none⟩) (Kd.ZR (p:=⟨ao,0,none⟩) (Kd.Za ai.out ag.out (by decide)) (fun _ hk=>hk.2) (.int .i64 ((zI (zE ad af) ae).f0))) (fun _ hk=>hk.2) (.int .i64 ((zI (zE ad af) ae).f1))) (fun _ hk=>⟨hk.1.1,hk.1.2⟩)⟩
     have aC:zA (((cO.setCell ⟨ao,0,none⟩ (.int .i64 ((zI (zE ad af) ae).f0))).setCell ⟨ao,1,none⟩ (.int .i64 ((zI (zE ad af) ae).f1))).heap[au]?=some (.cells #[.slice (some a_) ad.length aE] 35 (0,0))):=⟨by(with_reducible repeat(first|refine zH ?_ _|refine zJ ?_|refine zG ?_ _));refine qJ ?_ a2.out _;(with_reducible repeat(first|refine zH ?_ _|refine zJ ?_|refine zG ?_ _));refine qJ ?_ a2.out _;(with_reducible repeat(first|refine zH ?_ _|refine zJ ?_|refine zG ?_ _));exact aa.out⟩
     have aF:zA (((cO.setCell ⟨ao,0,none⟩ (.int .i64 ((zI (zE ad af) ae).f0))).setCell ⟨ao,1,none⟩ (.int .i64 ((zI (zE ad af) ae).f1))).heap[an]?=some (.cells #[.slice none 0 0,.slice none 0 0,.slice none 0 0] 88 (0,0))):=⟨by(with_reducible repeat(first|refine zH ?_ _|refine zJ ?_|refine zG ?_ _));refine qJ ?_ a5.out _;(with_reducible repeat(first|refine zH ?_ _|refine zJ ?_|refine zG ?_ _));refine qJ ?_ a5.out _;(with_reducible repeat(first|refine zH ?_ _|refine zJ ?_|refine zG ?_ _));exact ab.out⟩
     have aI:zA (((cO.setCell ⟨ao,0,none⟩ (.int .i64 ((zI (zE ad af) ae).f0))).setCell ⟨ao,1,none⟩ (.int .i64 ((zI (zE ad af) ae).f1))).heap[ao]?=some (.cells #[.int .i64 ((zI (zE ad af) ae).f0),.int .i64 ((zI (zE ad af) ae).f1)] 75 (0,0))):=⟨by(with_reducible repeat(first|refine zH ?_ _|refine zJ ?_|refine zG ?_ _));refine qf (cs:=#[.int .i64 ((zI (zE ad af) ae).f0),.int .i64 0]) ?_ 1 _ rfl;(with_reducible repeat(first|refine zH ?_ _|refine zJ ?_|refine zG ?_ _));refine qf (cs:=#[.int .i64 0,.int .i64 0]) ?_ 0 _ rfl;(with_reducible repeat(first|refine zH ?_ _|refine zJ ?_|refine zG ?_ _));exact ag.out⟩
     have aJ:zA (Below w.heap.size w ((cO.setCell ⟨ao,0,none⟩ (.int .i64 ((zI (zE ad af) ae).f0))).setCell ⟨ao,1,none⟩ (.int .i64 ((zI (zE ad af) ae).f1)))):=⟨by repeat(first|(with_reducible first|exact HB.out|apply zC|apply zB|apply zD|refine zF ?_ ar.out|refine zF ?_ av.out|refine zF ?_ aQ.out)|exact HB.out)⟩
     (try clear aj)
     (try clear ak)
     (try clear ai)
     (try clear aa)
     (try clear ab)
     (try clear ag)
     (try clear HB)
     generalize ((cO.setCell ⟨ao,0,none⟩ (.int .i64 ((zI (zE ad af) ae).f0))).setCell ⟨ao,1,none⟩ (.int .i64 ((zI (zE ad af) ae).f1)))=gi at az aA aB aC aF aI aJ ⊢
     have aj:=az;have ak:=aA;have ai:=aB;have aa:=aC;have ab:=aF;have ag:=aI;have HB:=aJ;clear az aA aB aC aF aI aJ;have az:=zA.mk (Kd.zZ aj.out)
     have aA:=zA.mk (Kd.zZ ak.out)
     have aB:=zA.mk (Kd.zZ ai.out)
     have aC:=zA.mk (zJ aa.out)
     have aF:=zA.mk (zJ ab.out)
     have aI:=zA.mk (zJ ag.out)
     have aJ:=zA.mk (zD HB.out)
     clear aj;clear ak;clear ai;clear aa;clear ab;clear ag;clear HB;have aj:=az;have ak:=aA;have ai:=aB;have aa:=aC;have ab:=aF;have ag:=aI;have HB:=aJ;clear az aA aB aC aF aI aJ;refine Zv (n:=14) (S:=fun w'=>w'.cell? ⟨ao,0,none⟩=some (.int .i64 ((zI (zE ad af) ae).f0))∧w'.cell? ⟨ao,1,none⟩=some (.int .i64 ((zI (zE ad af) ae).f1))) (ds := []) #[false,false,false,false,false,false,false,false,false,false,false,false,false,false] (by kernel_rfl) rfl rfl ⟨(zK ag.out 0).trans rfl,(zK ag.out 1).trans rfl⟩ (fun hHeld=>?_);refine Zn zR.tab13 zR.bits13 (fun HT_ HW_=>?_)
     generalize gi.drew=gB at aj ak ai aa ab ag HB hHeld ⊢
     refine zg (i:=0) (N:=some 48) (v:=?_) (a':=?_) #[true,false,false,false,false,false,false,false,false,false,false,false,false,false] rfl rfl (zm HT_.out (by kernel_rfl)) (fun _ _ _ h=>h) (Or.inl ⟨by rfl,?_⟩) ?_ ?_
     rotate_left
     next=>
      intro w';go_simp;with_reducible rfl
     rotate_left
     next=>
      simp only [Act.put,yay,yby,ycy,zX,za]
      rfl
     refine zg (i:=1) (N:=some 49) (v:=?_) (a':=?_) #[true,true,false,false,false,false,false,false,false,false,false,false,false,false] rfl rfl (zm HT_.out (by kernel_rfl)) (fun _ _ _ h=>h) (Or.inl ⟨by rfl,?_⟩) ?_ ?_
     rotate_left
     next=>
      intro w';go_simp;with_reducible rfl
     rotate_left
     next=>
      simp only [Act.put,yay,yby,ycy,zX,za]
      rfl
     refine zg (i:=2) (N:=some 50) (v:=?_) (a':=?_) #[true,true,true,false,false,false,false,false,false,false,false,false,false,false] rfl rfl (zm HT_.out (by kernel_rfl)) (fun _ _ _ h=>h) (Or.inl ⟨by rfl,?_⟩) ?_ ?_
     rotate_left
     next=>
      intro w';go_simp;with_reducible rfl
     rotate_left
     next=>
      simp only [Act.put,yay,yby,ycy,zX,za]
      rfl
     refine zg (i:=3) (N:=some 51) (v:=?_) (a':=?_) #[true,true,true,true,false,false,false,false,false,false,false,false,false,false] rfl rfl (zm HT_.out (by kernel_rfl)) (fun _ _ _ h=>h) (Or.inl ⟨by rfl,?_⟩) ?_ ?_
     rotate_left
     next=>
      intro w';go_simp;with_reducible rfl
     rotate_left
     next=>
      simp only [Act.put,yay,yby,ycy,zX,za]
      rfl
     refine zg (i:=4) (N:=some 52) (v:=?_) (a':=?_) #[true,true,true,true,true,false,false,false,false,false,false,false,false,false] rfl rfl (zm HT_.out (by kernel_rfl)) (fun _ _ _ h=>h) (Or.inl ⟨by rfl,?_⟩) ?_ ?_
     rotate_left
     next=>
      intro w';go_simp;with_reducible rfl
     rotate_left
     next=>
      simp only [Act.put,yay,yby,ycy,zX,za]
      rfl
     refine zg (i:=5) (N:=some 53) (v:=?_) (a':=?_) #[true,true,true,true,true,true,false,false,false,false,false,false,false,false] rfl rfl (zm HT_.out (by kernel_rfl)) (fun _ _ _ h=>h) (Or.inl ⟨by rfl,?_⟩) ?_ ?_
     rotate_left
     next=>
      intro w';go_simp;with_reducible rfl
     rotate_left
     next=>
      simp only [Act.put,yay,yby,ycy,zX,za]
      rfl
     refine zg (i:=8) (N:=some 56) (v:=?_) (a':=?_) #[true,true,true,true,true,true,false,false,true,false,false,false,false,false] rfl rfl (zm HT_.out (by kernel_rfl)) (fun _ _ _ h=>h) (Or.inl ⟨by rfl,?_⟩) ?_ ?_
     rotate_left
     next=>
      intro w';go_simp;with_reducible rfl
     rotate_left
     next=>
      simp only [Act.put,yay,yby,ycy,zX,za]
      rfl
     refine zg (i:=10) (N:=some 58) (v:=?_) (a':=?_) #[true,true,true,true,true,true,false,false,true,false,true,false,false,false] rfl rfl (zm HT_.out (by kernel_rfl)) (fun _ _ _ h=>h) (Or.inl ⟨by rfl,?_⟩) ?_ ?_
     rotate_left
     next=>
      intro w';go_simp;with_reducible rfl
     rotate_left
     next=>
      simp only [Act.put,yay,yby,ycy,zX,za]
      rfl
     refine ZA (i:=6) (N:=some 54) (v:=?_) (a':=?_) #[true,true,true,true,true,true,true,false,true,false,true,false,false,false] rfl rfl (qm HT_.out HW_.out (by kernel_rfl)) (fun _ _ _ h=>h) (Or.inl ⟨by rfl,?_⟩) hHeld ?_ ?_
     rotate_left
     next=>
      rintro w' ⟨s0,s1⟩
      go_simp;with_reducible rfl
     rotate_left
     next=>
      simp only [Act.put,yay,yby,ycy,zX,za]
      rfl
     refine zg (i:=7) (N:=some 55) (v:=?_) (a':=?_) #[true,true,true,true,true,true,true,true,true,false,true,false,false,false] rfl rfl (zm HT_.out (by kernel_rfl)) (fun _ _ _ h=>h) (Or.inl ⟨by rfl,?_⟩) ?_ ?_
     rotate_left
     next=>
      intro w';go_simp;with_reducible rfl
     rotate_left
     next=>
      simp only [Act.put,yay,yby,ycy,zX,za]
      rfl
     refine ZA (i:=9) (N:=some 57) (v:=?_) (a':=?_) #[true,true,true,true,true,true,true,true,true,true,true,false,false,false] rfl rfl (qm HT_.out HW_.out (by kernel_rfl)) (fun _ _ _ h=>h) (Or.inl ⟨by rfl,?_⟩) hHeld ?_ ?_
     rotate_left
     next=>
      rintro w' ⟨s0,s1⟩
      go_simp;with_reducible rfl
     rotate_left
     next=>
      simp only [Act.put,yay,yby,ycy,zX,za]
      rfl
     refine zA4 (i:=11) (N:=some 59) #[true,true,true,true,true,true,true,true,true,true,true,true,false,false] rfl rfl (QG HT_.out (by kernel_rfl)) (by decide) (fun K hK=>?_)
     refine QO Try.func82 (by kernel_rfl) rfl #[.int .i64 ((zI (zE ad af) ae).f1),.int .i64 ae] (by rfl) rfl rfl (by(try simp only [yiy,yjy,yky]);first|done|rfl|(simp only [yly,ymy];rfl)) ?_
     with_reducible refine(qi.calls k2 ((zI (zE ad af) ae).f1) ae t135 _ gg.out).mono ?_
     rintro e gC ⟨rfl,hb⟩
     refine⟨_,rfl,?_⟩
     have az:=zA.mk (Kd.qN (by(with_reducible repeat(first|apply Kd.zS|apply Kd.zT|apply Kd.zZ));exact aj.out) hb)
     have aA:=zA.mk (Kd.qN (by(with_reducible repeat(first|apply Kd.zS|apply Kd.zT|apply Kd.zZ));exact ak.out) hb)
     have aB:=zA.mk (Kd.qN (by(with_reducible repeat(first|apply Kd.zS|apply Kd.zT|apply Kd.zZ));exact ai.out) hb)
     have aC:=zA.mk (zO (g:=au) (o := .cells #[.slice (some a_) ad.length aE] 35 (0,0)) (by(with_reducible repeat(first|refine zH ?_ _|refine zJ ?_|refine zG ?_ _));exact aa.out) hb)
     have aF:=zA.mk (zO (g:=an) (o := .cells #[.slice none 0 0,.slice none 0 0,.slice none 0 0] 88 (0,0)) (by(with_reducible repeat(first|refine zH ?_ _|refine zJ ?_|refine zG ?_ _));exact ab.out) hb)
     have aI:=zA.mk (zO (g:=ao) (o := .cells #[.int .i64 ((zI (zE ad af) ae).f0),.int .i64 ((zI (zE ad af) ae).f1)] 75 (0,0)) (by(with_reducible repeat(first|refine zH ?_ _|refine zJ ?_|refine zG ?_ _));exact ag.out) hb)
     have aJ:=zA.mk (zM (by repeat(first|(with_reducible first|exact HB.out|apply zC|apply zB|apply zD|refine zF ?_ ar.out|refine zF ?_ av.out|refine zF ?_ aQ.out)|exact HB.out)) hb)
     clear aj;clear ak;clear ai;clear aa;clear ab;clear ag;clear HB;have aj:=az;have ak:=aA;have ai:=aB;have aa:=aC;have ab:=aF;have ag:=aI;have HB:=aJ;clear az aA aB aC aF aI aJ
     (try clear hb)
     (try clear hb2)
     (try clear hk)
     (try clear hi)
     obtain⟨br,bs,ea⟩:=Kd.ZE ai.out
     (first|subst ea|(injection ea with f1_ f2_ f3_;have eb:=f1_.symm;have ec:=f3_.symm;clear f1_ f2_ f3_;subst eb;subst ec))
     refine hK.out _ _ ⟨(zK ag.out 0).trans rfl,(zK ag.out 1).trans rfl⟩ (fun hHeld=>?_)
     clear hK K;refine QE (a':=?_) ?_ ?_
     rotate_left
     next=>
      show Act.put _ (some 59) _=_
      simp only [Act.put,yay,yby,ycy,zX,za]
      rfl
     refine zg (i:=12) (N:=some 60) (v:=?_) (a':=?_) #[true,true,true,true,true,true,true,true,true,true,true,true,true,false] rfl rfl (zm HT_.out (by kernel_rfl)) (fun _ _ _ h=>h) (Or.inl ⟨by rfl,?_⟩) ?_ ?_
     rotate_left
     next=>
      intro w';go_simp;with_reducible rfl
     rotate_left
     next=>
      simp only [Act.put,yay,yby,ycy,zX,za]
      rfl
     refine zA4 (i:=13) (N:=some 61) #[true,true,true,true,true,true,true,true,true,true,true,true,true,true] rfl rfl (QG HT_.out (by kernel_rfl)) (by decide) (fun K hK=>?_)
     refine QO Try.func92 (by kernel_rfl) rfl #[.slice br bq.length bs,.int .i64 (wrap64 ((wrap64 (4*af))+ae)),.int .i64 (wrap64 ((wrap64 (4*((zI (zE ad af) ae).f0)))+t135))] (by rfl) rfl rfl (by(try simp only [yiy,yjy,yky]);first|done|rfl|(simp only [yly,ymy];rfl)) ?_
     with_reducible refine(qz.calls (fun k_=>some k_=(.slice br bq.length bs:Value).ownBlock) (.slice br bq.length bs) bq (wrap64 ((wrap64 (4*af))+ae)) (wrap64 ((wrap64 (4*((zI (zE ad af) ae).f0)))+t135)) t136 w _ ?side1 ?side2 gh.out).mono ?_
     (case side1=>repeat(first|(with_reducible first|exact HB.out|apply zC|apply zB|apply zD|refine zF ?_ ar.out|refine zF ?_ av.out|refine zF ?_ aQ.out)|exact HB.out))
     (case side2=>exact Kd.Qu rfl ai.out)
     rintro e gD ⟨rfl,dc,hb,hkp⟩
     refine⟨_,rfl,?_⟩
     have az:=zA.mk (Kd.qC (ok':=fun k_=>some k_≠(aT:Value).ownBlock∧some k_≠(.slice br bq.length bs:Value).ownBlock) (Kd.zBS (aj.out) hkp (fun k_ hk_ hs_=>(hk_.2) hs_)) (fun k_ hk_=>⟨hk_.1.1,hk_.1.2⟩))
     have aA:=zA.mk (Kd.qC (ok':=fun k_=>some k_≠(bh:Value).ownBlock∧some k_≠(.slice br bq.length bs:Value).ownBlock) (Kd.zBS (ak.out) hkp (fun k_ hk_ hs_=>(hk_.2) hs_)) (fun k_ hk_=>⟨hk_.1.1,hk_.1.2⟩))
     have aB:=zA.mk (Kd.zGc rfl dc (fun k_ e_=>ai.out.1 k_ e_))
     have aC:=zA.mk (ZX (by(with_reducible repeat(first|refine zH ?_ _|refine zJ ?_|refine zG ?_ _));exact aa.out) hkp (fun hs_=>(fun e_=>(Kd.zCU ai.out aa.out (by decide)) e_) hs_))
     have aF:=zA.mk (ZX (by(with_reducible repeat(first|refine zH ?_ _|refine zJ ?_|refine zG ?_ _));exact ab.out) hkp (fun hs_=>(fun e_=>(Kd.zCU ai.out ab.out (by decide)) e_) hs_))
     have aI:=zA.mk (ZX (by(with_reducible repeat(first|refine zH ?_ _|refine zJ ?_|refine zG ?_ _));exact ag.out) hkp (fun hs_=>(fun e_=>(Kd.zCU ai.out ag.out (by decide)) e_) hs_))
     have aJ:=zA.mk (hb)
     clear aj;clear ak;clear ai;clear aa;clear ab;clear ag;clear HB;have aj:=az;have ak:=aA;have ai:=aB;have aa:=aC;have ab:=aF;have ag:=aI;have HB:=aJ;clear az aA aB aC aF aI aJ
     (try clear hb)
     (try clear hkp)
     (try clear dc)
     refine hK.out _ _ ⟨(zK ag.out 0).trans rfl,(zK ag.out 1).trans rfl⟩ (fun hHeld=>?_)
     clear hK K;refine QE (a':=?_) ?_ ?_
     rotate_left
     next=>
      show Act.put _ (some 61) _=_
      simp only [Act.put,yay,yby,ycy,zX,za]
      rfl
     refine Qo (Qp HT_.out (by kernel_rfl)) ?_
     try go_wp2
     go_loopg [11] k2 (fun kq v11 w' => ∃ (bc:List Int) (aR:Int),v11 = .int .i64 aR∧zA (zR.l2 kq t103 bc bA t136 af ae aR ad ((zI (zE ad af) ae).f0) ((zI (zE ad af) ae).f1)=some (r1,r2,r3,r4))∧zA (kq≤k2)∧zA (Kd.R (Kd.int .i64) 2 w' w.heap.size (fun k_=>some k_≠(aT:Value).ownBlock∧some k_≠((.slice br bq.length bs):Value).ownBlock) bh bc)∧zA (Kd.R (Kd.int .i64) 2 w' w.heap.size (fun k_=>some k_≠(bh:Value).ownBlock∧some k_≠((.slice br bq.length bs):Value).ownBlock) aT bA)∧zA (Kd.R (Kd.int .i64) 2 w' w.heap.size (fun k_=>some k_≠(bh:Value).ownBlock∧some k_≠(aT:Value).ownBlock) (.slice br bq.length bs) t136)∧zA (w'.heap[au]?=some (.cells #[(.slice (some a_) ad.length aE)] 35 (0,0)))∧zA (w'.heap[an]?=some (.cells #[(.slice none 0 0),(.slice none 0 0),(.slice none 0 0)] 88 (0,0)))∧zA (w'.heap[ao]?=some (.cells #[.int .i64 ((zI (zE ad af) ae).f0),.int .i64 ((zI (zE ad af) ae).f1)] 75 (0,0)))∧zA (Below w.heap.size w w'))
     case atStart=>exact⟨(bP),(0),(by first|rfl|(simp;done)|(simp [*];done)),H',⟨yry _⟩,⟨by(with_reducible repeat(first|apply Kd.zS|apply Kd.zT|apply Kd.zZ));exact aj.out⟩,⟨by(with_reducible repeat(first|apply Kd.zS|apply Kd.zT|apply Kd.zZ));exact ak.out⟩,⟨by(with_reducible repeat(first|apply Kd.zS|apply Kd.zT|apply Kd.zZ));exact ai.out⟩,⟨by(with_reducible repeat(first|refine zH ?_ _|refine zJ ?_|refine zG ?_ _));exact aa.out⟩,⟨by(with_reducible repeat(first|refine zH ?_ _|refine zJ ?_|refine zG ?_ _));exact ab.out⟩,⟨by(with_reducible repeat(first|refine zH ?_ _|refine zJ ?_|refine zG ?_ _));exact ag.out⟩,⟨by repeat(first|(with_reducible first|exact HB.out|apply zC|apply zB|apply zD|refine zF ?_ ar.out|refine zF ?_ av.out|refine zF ?_ aQ.out)|exact HB.out)⟩⟩
     case round=>
      clear H';(try clear c1);(try clear p1);(try clear q1);(try clear hx1);(try clear c2);(try clear p2);(try clear c3);(try clear c6);(try clear p6);(try clear c8);(try clear c9);(try clear c13);(try clear p13);(try clear q13);(try clear hx13);(try clear cN);(try clear b5);(try clear cQ);(try clear cg);(try clear dm);(try clear cC);(try clear dn);(try clear cD);(try clear dp);(try clear cE);(try clear dq);(try clear cF);(try clear cR);(try clear ch);(try clear c21);(try clear c24);(try clear c25);(try clear c29);(try clear c32);(try clear c33);(try clear bQ);(try clear bT);(try clear bU);(try clear bX);(try clear bZ);(try clear b0);(try clear bH);(try clear bR);(try clear bV);(try clear bW);(try clear bY);(try clear b1);(try clear b2);(try clear bI);(try clear a6);(try clear a7);(try clear a8);(try clear bK);(try clear bM);(try clear p2);(try clear p6);(try clear bL);(try clear bN);obtain⟨bc,aR,rfl,HA,cp,aj,ak,ai,aa,ab,ag,HB⟩:=hrel
      have aq:=(Kd.zq ai.out).1
      rw[aq]at ai
      (try simp only [aq])
      (try simp only [aq]at aa)
      (try simp only [aq]at ab)
      (try simp only [aq]at ag)
      (try simp only [aq]at aj)
      (try simp only [aq]at ak)
      cases gk with
      | zero=>exact absurd HA.out (by simp [zR.l2])
      | succ k3=>
       have H:=HA.out
       clear HA;simp only [zR.l2]at H
       by_cases dd:aR<4
       next=>
        rw[if_pos dd]at H
        have cj:decide (aR<4)=true:=ygy dd
        clear dd;by_cases cT:aR=ae
        next=>
         rw[if_pos cT]at H
         have cG:(aR==ae)=true:=beq_iff_eq.mpr cT
         have cH:(aR != ae)=false:=bne_eq_false_iff_eq.mpr cT
         clear cT;have H':=zA.mk H
         clear H;go_wp2
         (try simp only [← aq])
         go_roundg k3
         case measure=>have:=cc.out;have:=cd.out;have:=cp.out;omega
         case rel=>exact⟨(bc),(wrap64 (aR+1)),(by first|rfl|(simp;done)|(simp [*];done)),H',⟨by have:=cc.out;have:=cd.out;have:=cp.out;omega⟩,⟨by(try simp only [aq]);(with_reducible repeat(first|apply Kd.zS|apply Kd.zT|apply Kd.zZ));exact aj.out⟩,⟨by(try simp only [aq]);(with_reducible repeat(first|apply Kd.zS|apply Kd.zT|apply Kd.zZ));exact ak.out⟩,⟨by(try simp only [aq]);(with_reducible repeat(first|apply Kd.zS|apply Kd.zT|apply Kd.zZ));exact ai.out⟩,⟨by(try simp only [aq]);(with_reducible repeat(first|refine zH ?_ _|refine zJ ?_|refine zG ?_ _));exact aa.out⟩,⟨by(try simp only [aq]);(with_reducible repeat(first|refine zH ?_ _|refine zJ ?_|refine zG ?_ _));exact ab.out⟩,⟨by(try simp only [aq]);(with_reducible repeat(first|refine zH ?_ _|refine zJ ?_|refine zG ?_ _));exact ag.out⟩,⟨by repeat(first|(with_reducible first|exact HB.out|apply zC|apply zB|apply zD|refine zF ?_ ar.out|refine zF ?_ av.out|refine zF ?_ aQ.out)|exact HB.out)⟩⟩
        rw[if_neg cT]at H
        have cG:(aR==ae)=false:=beq_eq_false_iff_ne.mpr cT
        have cH:(aR != ae)=true:=bne_iff_ne.mpr cT
        replace H:=ydy.mp H
        obtain⟨t137,ed,H⟩:=H
        replace H:((qz.f bc (wrap64 ((wrap64 (4*af))+aR)) (wrap64 ((wrap64 (4*((zI (zE ad af) ae).f0)))+t137))).bind fun t138=>(zR.l2 k3 t103 t138 bA t136 af ae (wrap64 (aR+1)) ad ((zI (zE ad af) ae).f0) ((zI (zE ad af) ae).f1)))=some (r1,r2,r3,r4):=H
        have gj:=zA.mk ed
        clear ed;replace H:=ydy.mp H
        obtain⟨t138,ee,H⟩:=H
        replace H:(zR.l2 k3 t103 t138 bA t136 af ae (wrap64 (aR+1)) ad ((zI (zE ad af) ae).f0) ((zI (zE ad af) ae).f1))=some (r1,r2,r3,r4):=H
        have gl:=zA.mk ee
        clear ee;have H':=zA.mk H
        clear H;try go_wp2
        have az:=zA.mk (Kd.zZ aj.out)
        have aA:=zA.mk (Kd.zZ ak.out)
        have aB:=zA.mk (Kd.zZ ai.out)
        have aC:=zA.mk (zJ aa.out)
        have aF:=zA.mk (zJ ab.out)
        have aI:=zA.mk (zJ ag.out)
        have aJ:=zA.mk (zD HB.out)
        clear aj;clear ak;clear ai;clear aa;clear ab;clear ag;clear HB;have aj:=az;have ak:=aA;have ai:=aB;have aa:=aC;have ab:=aF;have ag:=aI;have HB:=aJ;clear az aA aB aC aF aI aJ;refine Zv (n:=14) (S:=fun w'=>w'.cell? ⟨ao,0,none⟩=some (.int .i64 ((zI (zE ad af) ae).f0))∧w'.cell? ⟨ao,1,none⟩=some (.int .i64 ((zI (zE ad af) ae).f1))) (ds := []) #[false,false,false,false,false,false,false,false,false,false,false,false,false,false] (by kernel_rfl) rfl rfl ⟨(zK ag.out 0).trans rfl,(zK ag.out 1).trans rfl⟩ (fun hHeld=>?_);refine Zn zR.tab18 zR.bits18 (fun HT_ HW_=>?_)
        generalize wr.drew=gE at aj ak ai aa ab ag HB hHeld ⊢
        refine zg (i:=0) (N:=some 69) (v:=?_) (a':=?_) #[true,false,false,false,false,false,false,false,false,false,false,false,false,false] rfl rfl (zm HT_.out (by kernel_rfl)) (fun _ _ _ h=>h) (Or.inl ⟨by rfl,?_⟩) ?_ ?_
        rotate_left
        next=>
         intro w';go_simp;with_reducible rfl
        rotate_left
        next=>
         simp only [Act.put,yay,yby,ycy,zX,za]
         rfl
        refine zg (i:=1) (N:=some 70) (v:=?_) (a':=?_) #[true,true,false,false,false,false,false,false,false,false,false,false,false,false] rfl rfl (zm HT_.out (by kernel_rfl)) (fun _ _ _ h=>h) (Or.inl ⟨by rfl,?_⟩) ?_ ?_
        rotate_left
        next=>
         intro w';go_simp;with_reducible rfl
        rotate_left
        next=>
         simp only [Act.put,yay,yby,ycy,zX,za]
         rfl
        refine zg (i:=2) (N:=some 71) (v:=?_) (a':=?_) #[true,true,true,false,false,false,false,false,false,false,false,false,false,false] rfl rfl (zm HT_.out (by kernel_rfl)) (fun _ _ _ h=>h) (Or.inl ⟨by rfl,?_⟩) ?_ ?_
        rotate_left
        next=>
         intro w';go_simp;with_reducible rfl
        rotate_left
        next=>
         simp only [Act.put,yay,yby,ycy,zX,za]
         rfl
        refine zg (i:=3) (N:=some 72) (v:=?_) (a':=?_) #[true,true,true,true,false,false,false,false,false,false,false,false,false,false] rfl rfl (zm HT_.out (by kernel_rfl)) (fun _ _ _ h=>h) (Or.inl ⟨by rfl,?_⟩) ?_ ?_
        rotate_left
        next=>
         intro w';go_simp;with_reducible rfl
        rotate_left
        next=>
         simp only [Act.put,yay,yby,ycy,zX,za]
         rfl
        refine zg (i:=4) (N:=some 73) (v:=?_) (a':=?_) #[true,true,true,true,true,false,false,false,false,false,false,false,false,false] rfl rfl (zm HT_.out (by kernel_rfl)) (fun _ _ _ h=>h) (Or.inl ⟨by rfl,?_⟩) ?_ ?_
        rotate_left
        next=>
         intro w';go_simp;with_reducible rfl
        rotate_left
        next=>
         simp only [Act.put,yay,yby,ycy,zX,za]
         rfl
        refine zg (i:=5) (N:=some 74) (v:=?_) (a':=?_) #[true,true,true,true,true,true,false,false,false,false,false,false,false,false] rfl rfl (zm HT_.out (by kernel_rfl)) (fun _ _ _ h=>h) (Or.inl ⟨by rfl,?_⟩) ?_ ?_
        rotate_left
        next=>
         intro w';go_simp;with_reducible rfl
        rotate_left
        next=>
         simp only [Act.put,yay,yby,ycy,zX,za]
         rfl
        refine zg (i:=8) (N:=some 77) (v:=?_) (a':=?_) #[true,true,true,true,true,true,false,false,true,false,false,false,false,false] rfl rfl (zm HT_.out (by kernel_rfl)) (fun _ _ _ h=>h) (Or.inl ⟨by rfl,?_⟩) ?_ ?_
        rotate_left
        next=>
         intro w';go_simp;with_reducible rfl
        rotate_left
        next=>
         simp only [Act.put,yay,yby,ycy,zX,za]
         rfl
        refine zg (i:=10) (N:=some 79) (v:=?_) (a':=?_) #[true,true,true,true,true,true,false,false,true,false,true,false,false,false] rfl rfl (zm HT_.out (by kernel_rfl)) (fun _ _ _ h=>h) (Or.inl ⟨by rfl,?_⟩) ?_ ?_
        rotate_left
        next=>
         intro w';go_simp;with_reducible rfl
        rotate_left
        next=>
         simp only [Act.put,yay,yby,ycy,zX,za]
         rfl
        refine ZA (i:=6) (N:=some 75) (v:=?_) (a':=?_) #[true,true,true,true,true,true,true,false,true,false,true,false,false,false] rfl rfl (qm HT_.out HW_.out (by kernel_rfl)) (fun _ _ _ h=>h) (Or.inl ⟨by rfl,?_⟩) hHeld ?_ ?_
        rotate_left
        next=>
         rintro w' ⟨s0,s1⟩
         go_simp;with_reducible rfl
        rotate_left
        next=>
         simp only [Act.put,yay,yby,ycy,zX,za]
         rfl
        refine zg (i:=7) (N:=some 76) (v:=?_) (a':=?_) #[true,true,true,true,true,true,true,true,true,false,true,false,false,false] rfl rfl (zm HT_.out (by kernel_rfl)) (fun _ _ _ h=>h) (Or.inl ⟨by rfl,?_⟩) ?_ ?_
        rotate_left
        next=>
         intro w';go_simp;with_reducible rfl
        rotate_left
        next=>
         simp only [Act.put,yay,yby,ycy,zX,za]
         rfl
        refine ZA (i:=9) (N:=some 78) (v:=?_) (a':=?_) #[true,true,true,true,true,true,true,true,true,true,true,false,false,false] rfl rfl (qm HT_.out HW_.out (by kernel_rfl)) (fun _ _ _ h=>h) (Or.inl ⟨by rfl,?_⟩) hHeld ?_ ?_
        rotate_left
        next=>
         rintro w' ⟨s0,s1⟩
         go_simp;with_reducible rfl
        rotate_left
        next=>
         simp only [Act.put,yay,yby,ycy,zX,za]
         rfl
        refine zA4 (i:=11) (N:=some 80) #[true,true,true,true,true,true,true,true,true,true,true,true,false,false] rfl rfl (QG HT_.out (by kernel_rfl)) (by decide) (fun K hK=>?_)
        refine QO Try.func82 (by kernel_rfl) rfl #[.int .i64 ((zI (zE ad af) ae).f1),.int .i64 aR] (by rfl) rfl rfl (by(try simp only [yiy,yjy,yky]);first|done|rfl|(simp only [yly,ymy];rfl)) ?_
        with_reducible refine(qi.calls k3 ((zI (zE ad af) ae).f1) aR t137 _ gj.out).mono ?_
        rintro e gF ⟨rfl,hb⟩
        refine⟨_,rfl,?_⟩
        have az:=zA.mk (Kd.qN (by(with_reducible repeat(first|apply Kd.zS|apply Kd.zT|apply Kd.zZ));exact aj.out) hb)
        have aA:=zA.mk (Kd.qN (by(with_reducible repeat(first|apply Kd.zS|apply Kd.zT|apply Kd.zZ));exact ak.out) hb)
        have aB:=zA.mk (Kd.qN (by(with_reducible repeat(first|apply Kd.zS|apply Kd.zT|apply Kd.zZ));exact ai.out) hb)
        have aC:=zA.mk (zO (g:=au) (o := .cells #[.slice (some a_) ad.length aE] 35 (0,0)) (by(with_reducible repeat(first|refine zH ?_ _|refine zJ ?_|refine zG ?_ _));exact aa.out) hb)
        have aF:=zA.mk (zO (g:=an) (o := .cells #[.slice none 0 0,.slice none 0 0,.slice none 0 0] 88 (0,0)) (by(with_reducible repeat(first|refine zH ?_ _|refine zJ ?_|refine zG ?_ _));exact ab.out) hb)
        have aI:=zA.mk (zO (g:=ao) (o := .cells #[.int .i64 ((zI (zE ad af) ae).f0),.int .i64 ((zI (zE ad af) ae).f1)] 75 (0,0)) (by(with_reducible repeat(first|refine zH ?_ _|refine zJ ?_|refine zG ?_ _));exact ag.out) hb)
        have aJ:=zA.mk (zM (by repeat(first|(with_reducible first|exact HB.out|apply zC|apply zB|apply zD|refine zF ?_ ar.out|refine zF ?_ av.out|refine zF ?_ aQ.out)|exact HB.out)) hb)
        clear aj;clear ak;clear ai;clear aa;clear ab;clear ag;clear HB;have aj:=az;have ak:=aA;have ai:=aB;have aa:=aC;have ab:=aF;have ag:=aI;have HB:=aJ;clear az aA aB aC aF aI aJ
        (try clear hb)
        (try clear hb2)
        (try clear hk)
        (try clear hi)
        obtain⟨cI,cJ,ef⟩:=Kd.ZE aj.out
        (first|subst ef|(injection ef with f1_ f2_ f3_;have eb:=f1_.symm;have ec:=f3_.symm;clear f1_ f2_ f3_;subst eb;subst ec))
        refine hK.out _ _ ⟨(zK ag.out 0).trans rfl,(zK ag.out 1).trans rfl⟩ (fun hHeld=>?_)
        clear hK K;refine QE (a':=?_) ?_ ?_
        rotate_left
        next=>
         show Act.put _ (some 80) _=_
         simp only [Act.put,yay,yby,ycy,zX,za]
         rfl
        refine zg (i:=12) (N:=some 81) (v:=?_) (a':=?_) #[true,true,true,true,true,true,true,true,true,true,true,true,true,false] rfl rfl (zm HT_.out (by kernel_rfl)) (fun _ _ _ h=>h) (Or.inl ⟨by rfl,?_⟩) ?_ ?_
        rotate_left
        next=>
         intro w';go_simp;with_reducible rfl
        rotate_left
        next=>
         simp only [Act.put,yay,yby,ycy,zX,za]
         rfl
        refine zA4 (i:=13) (N:=some 82) #[true,true,true,true,true,true,true,true,true,true,true,true,true,true] rfl rfl (QG HT_.out (by kernel_rfl)) (by decide) (fun K hK=>?_)
        refine QO Try.func92 (by kernel_rfl) rfl #[.slice cI bc.length cJ,.int .i64 (wrap64 ((wrap64 (4*af))+aR)),.int .i64 (wrap64 ((wrap64 (4*((zI (zE ad af) ae).f0)))+t137))] (by rfl) rfl rfl (by(try simp only [yiy,yjy,yky]);first|done|rfl|(simp only [yly,ymy];rfl)) ?_
        with_reducible refine(qz.calls (fun k_=>some k_=(.slice cI bc.length cJ:Value).ownBlock) (.slice cI bc.length cJ) bc (wrap64 ((wrap64 (4*af))+aR)) (wrap64 ((wrap64 (4*((zI (zE ad af) ae).f0)))+t137)) t138 w _ ?side1 ?side2 gl.out).mono ?_
        (case side1=>repeat(first|(with_reducible first|exact HB.out|apply zC|apply zB|apply zD|refine zF ?_ ar.out|refine zF ?_ av.out|refine zF ?_ aQ.out)|exact HB.out))
        (case side2=>exact Kd.Qu rfl aj.out)
        rintro e gG ⟨rfl,dc,hb,hkp⟩
        refine⟨_,rfl,?_⟩
        have az:=zA.mk (Kd.zGc rfl dc (fun k_ e_=>aj.out.1 k_ e_))
        have aA:=zA.mk (Kd.qC (ok':=fun k_=>some k_≠(.slice cI bc.length cJ:Value).ownBlock∧some k_≠(.slice br t136.length bs:Value).ownBlock) (Kd.zBS (ak.out) hkp (fun k_ hk_ hs_=>(hk_.1) hs_)) (fun k_ hk_=>⟨hk_.1.1,hk_.1.2⟩))
        have aB:=zA.mk (Kd.qC (ok':=fun k_=>some k_≠(.slice cI bc.length cJ:Value).ownBlock∧some k_≠(aT:Value).ownBlock) (Kd.zBS (ai.out) hkp (fun k_ hk_ hs_=>(hk_.1) hs_)) (fun k_ hk_=>⟨hk_.1.1,hk_.1.2⟩))
        have aC:=zA.mk (ZX (by(with_reducible repeat(first|refine zH ?_ _|refine zJ ?_|refine zG ?_ _));exact aa.out) hkp (fun hs_=>(fun e_=>(Kd.zCU aj.out aa.out (by decide)) e_) hs_))
        have aF:=zA.mk (ZX (by(with_reducible repeat(first|refine zH ?_ _|refine zJ ?_|refine zG ?_ _));exact ab.out) hkp (fun hs_=>(fun e_=>(Kd.zCU aj.out ab.out (by decide)) e_) hs_))
        have aI:=zA.mk (ZX (by(with_reducible repeat(first|refine zH ?_ _|refine zJ ?_|refine zG ?_ _));exact ag.out) hkp (fun hs_=>(fun e_=>(Kd.zCU aj.out ag.out (by decide)) e_) hs_))
        have aJ:=zA.mk (hb)
        clear aj;clear ak;clear ai;clear aa;clear ab;clear ag;clear HB;have aj:=az;have ak:=aA;have ai:=aB;have aa:=aC;have ab:=aF;have ag:=aI;have HB:=aJ;clear az aA aB aC aF aI aJ
        (try clear hb)
        (try clear hkp)
        (try clear dc)
        refine hK.out _ _ ⟨(zK ag.out 0).trans rfl,(zK ag.out 1).trans rfl⟩ (fun hHeld=>?_)
        clear hK K;refine QE (a':=?_) ?_ ?_
        rotate_left
        next=>
         show Act.put _ (some 82) _=_
         simp only [Act.put,yay,yby,ycy,zX,za]
         rfl
        refine Qo (Qp HT_.out (by kernel_rfl)) ?_
        try go_wp2
        (try simp only [← aq])
        go_roundg k3
        case measure=>have:=cc.out;have:=cd.out;have:=cp.out;omega
        case rel=>exact⟨(t138),(wrap64 (aR+1)),(by first|rfl|(simp;done)|(simp [*];done)),H',⟨by have:=cc.out;have:=cd.out;have:=cp.out;omega⟩,⟨by(try simp only [aq]);(with_reducible repeat(first|apply Kd.zS|apply Kd.zT|apply Kd.zZ));exact aj.out⟩,⟨by(try simp only [aq]);(with_reducible repeat(first|apply Kd.zS|apply Kd.zT|apply Kd.zZ));exact ak.out⟩,⟨by(try simp only [aq]);(with_reducible repeat(first|apply Kd.zS|apply Kd.zT|apply Kd.zZ));exact ai.out⟩,⟨by(try simp only [aq]);(with_reducible repeat(first|refine zH ?_ _|refine zJ ?_|refine zG ?_ _));exact aa.out⟩,⟨by(try simp only [aq]);(with_reducible repeat(first|refine zH ?_ _|refine zJ ?_|refine zG ?_ _));exact ab.out⟩,⟨by(try simp only [aq]);(with_reducible repeat(first|refine zH ?_ _|refine zJ ?_|refine zG ?_ _));exact ag.out⟩,⟨by repeat(first|(with_reducible first|exact HB.out|apply zC|apply zB|apply zD|refine zF ?_ ar.out|refine zF ?_ av.out|refine zF ?_ aQ.out)|exact HB.out)⟩⟩
       rw[if_neg dd]at H
       have cj:decide (aR<4)=false:=yhy dd
       (try simp only [aq]at cj)
       clear dd;have H':=zA.mk H
       clear H;go_wp2;go_loopg [12] k3 (fun kq gm w' => ∃ (bl:List Int) (aP:Int),gm = .int .i64 aP∧zA (zR.l3 kq t103 bc bl t136 af ae aP ad ((zI (zE ad af) ae).f0) ((zI (zE ad af) ae).f1)=some (r1,r2,r3,r4))∧zA (kq≤k3)∧zA (Kd.R (Kd.int .i64) 2 w' w.heap.size (fun k_=>some k_≠(aT:Value).ownBlock∧some k_≠((.slice br t136.length bs):Value).ownBlock) bh bc)∧zA (Kd.R (Kd.int .i64) 2 w' w.heap.size (fun k_=>some k_≠(bh:Value).ownBlock∧some k_≠((.slice br t136.length bs):Value).ownBlock) aT bl)∧zA (Kd.R (Kd.int .i64) 2 w' w.heap.size (fun k_=>some k_≠(bh:Value).ownBlock∧some k_≠(aT:Value).ownBlock) (.slice br t136.length bs) t136)∧zA (w'.heap[au]?=some (.cells #[(.slice (some a_) ad.length aE)] 35 (0,0)))∧zA (w'.heap[an]?=some (.cells #[(.slice none 0 0),(.slice none 0 0),(.slice none 0 0)] 88 (0,0)))∧zA (w'.heap[ao]?=some (.cells #[.int .i64 ((zI (zE ad af) ae).f0),.int .i64 ((zI (zE ad af) ae).f1)] 75 (0,0)))∧zA (Below w.heap.size w w'))
       case atStart=>exact⟨(bA),(0),(by first|rfl|(simp;done)|(simp [*];done)),H',⟨yry _⟩,⟨by(try simp only [aq]);(with_reducible repeat(first|apply Kd.zS|apply Kd.zT|apply Kd.zZ));exact aj.out⟩,⟨by(try simp only [aq]);(with_reducible repeat(first|apply Kd.zS|apply Kd.zT|apply Kd.zZ));exact ak.out⟩,⟨by(try simp only [aq]);(with_reducible repeat(first|apply Kd.zS|apply Kd.zT|apply Kd.zZ));exact ai.out⟩,⟨by(try simp only [aq]);(with_reducible repeat(first|refine zH ?_ _|refine zJ ?_|refine zG ?_ _));exact aa.out⟩,⟨by(try simp only [aq]);(with_reducible repeat(first|refine zH ?_ _|refine zJ ?_|refine zG ?_ _));exact ab.out⟩,⟨by(try simp only [aq]);(with_reducible repeat(first|refine zH ?_ _|refine zJ ?_|refine zG ?_ _));exact ag.out⟩,⟨by repeat(first|(with_reducible first|exact HB.out|apply zC|apply zB|apply zD|refine zF ?_ ar.out|refine zF ?_ av.out|refine zF ?_ aQ.out)|exact HB.out)⟩⟩
       case round=>
        clear H';(try clear c1);(try clear p1);(try clear q1);(try clear hx1);(try clear c2);(try clear p2);(try clear c3);(try clear c4);(try clear c6);(try clear p6);(try clear c8);(try clear c9);(try clear c13);(try clear p13);(try clear q13);(try clear hx13);(try clear cN);(try clear b5);(try clear cQ);(try clear cg);(try clear dm);(try clear cC);(try clear dn);(try clear cD);(try clear dp);(try clear cE);(try clear dq);(try clear cF);(try clear cR);(try clear ch);(try clear c21);(try clear c24);(try clear c25);(try clear c29);(try clear c32);(try clear c33);(try clear dd);(try clear cj);(try clear cT);(try clear cG);(try clear cH);(try clear bQ);(try clear bT);(try clear bU);(try clear bX);(try clear bZ);(try clear b0);(try clear bH);(try clear bR);(try clear bV);(try clear bW);(try clear bY);(try clear b1);(try clear b2);(try clear bI);(try clear a6);(try clear a7);(try clear a8);(try clear p1);(try clear p13);(try clear bK);(try clear bM);(try clear p2);(try clear p6);(try clear q1);(try clear q13);(try clear bL);(try clear bN);obtain⟨bl,aP,rfl,HA,de,aj,ak,ai,aa,ab,ag,HB⟩:=hrel
        cases gk with
        | zero=>exact absurd HA.out (by simp [zR.l3])
        | succ k4=>
         have H:=HA.out
         clear HA;simp only [zR.l3]at H
         by_cases dw:aP<6
         case neg=>
          rw[if_neg dw]at H
          have cK:decide (aP<6)=false:=yhy dw
          (try simp only [aq]at cK)
          clear dw;have H':=zA.mk H
          clear H;go_wp2
          (try simp only [← aq])
          go_roundg k4
          case measure=>have:=cc.out;have:=cd.out;have:=cp.out;have:=de.out;omega
          case rel=>exact⟨(bc),(bl),(t136),(wrap64 (ae+1)),(by first|rfl|(simp;done)|(simp [*];done)),H',⟨by have:=cc.out;have:=cd.out;have:=cp.out;have:=de.out;omega⟩,⟨by(try simp only [aq]);(with_reducible repeat(first|apply Kd.zS|apply Kd.zT|apply Kd.zZ));exact aj.out⟩,⟨by(try simp only [aq]);(with_reducible repeat(first|apply Kd.zS|apply Kd.zT|apply Kd.zZ));exact ak.out⟩,⟨by(try simp only [aq]);(with_reducible repeat(first|apply Kd.zS|apply Kd.zT|apply Kd.zZ));exact ai.out⟩,⟨by(try simp only [aq]);(with_reducible repeat(first|refine zH ?_ _|refine zJ ?_|refine zG ?_ _));exact aa.out⟩,⟨by(try simp only [aq]);(with_reducible repeat(first|refine zH ?_ _|refine zJ ?_|refine zG ?_ _));exact ab.out⟩,⟨by repeat(first|(with_reducible first|exact HB.out|apply zC|apply zB|apply zD|refine zF ?_ ar.out|refine zF ?_ av.out|refine zF ?_ aQ.out)|exact HB.out)⟩⟩
         rw[if_pos dw]at H
         have cK:decide (aP<6)=true:=ygy dw
         clear dw;replace H:=ydy.mp H
         obtain⟨⟨t139,t140⟩,eg,H⟩:=H
         replace H:(if t139=ae then(zR.j4 k4 t103 bc bl t136 af ae aP t139 t140 false ad ((zI (zE ad af) ae).f0) ((zI (zE ad af) ae).f1))else(zR.j4 k4 t103 bc bl t136 af ae aP t139 t140 (t140 != ae) ad ((zI (zE ad af) ae).f0) ((zI (zE ad af) ae).f1)))=some (r1,r2,r3,r4):=H
         have gn:=zA.mk eg
         clear eg;have dx:=zA.mk H
         clear H;go_upto_region 23 with (first|((with_reducible refine zd (f:=115) rfl ?_);refine qV (some 89) rfl rfl Try.func115 (by kernel_rfl) rfl #[.int .i64 aP] rfl (by(try simp only [yiy,yjy,yky]);first|done|rfl|(simp only [yly,ymy];rfl)) ?_;(with_reducible refine(qy.calls aP t139 t140 _ gn.out).mono ?_);rintro e gH ⟨rfl,hb⟩;refine⟨_,rfl,?_⟩;have az:=zA.mk (Kd.qN (by(with_reducible repeat(first|apply Kd.zS|apply Kd.zT|apply Kd.zZ));exact aj.out) hb);have aA:=zA.mk (Kd.qN (by(with_reducible repeat(first|apply Kd.zS|apply Kd.zT|apply Kd.zZ));exact ak.out) hb);have aB:=zA.mk (Kd.qN (by(with_reducible repeat(first|apply Kd.zS|apply Kd.zT|apply Kd.zZ));exact ai.out) hb);have aC:=zA.mk (zO (g:=au) (o := .cells #[.slice (some a_) ad.length aE] 35 (0,0)) (by(with_reducible repeat(first|refine zH ?_ _|refine zJ ?_|refine zG ?_ _));exact aa.out) hb);have aF:=zA.mk (zO (g:=an) (o := .cells #[.slice none 0 0,.slice none 0 0,.slice none 0 0] 88 (0,0)) (by(with_reducible repeat(first|refine zH ?_ _|refine zJ ?_|refine zG ?_ _));exact ab.out) hb);have aI:=zA.mk (zO (g:=ao) (o := .cells #[.int .i64 ((zI (zE ad af) ae).f0),.int .i64 ((zI (zE ad af) ae).f1)] 75 (0,0)) (by(with_reducible repeat(first|refine zH ?_ _|refine zJ ?_|refine zG ?_ _));exact ag.out) hb);have aJ:=zA.mk (zM (by repeat(first|(with_reducible first|exact HB.out|apply zC|apply zB|apply zD|refine zF ?_ ar.out|refine zF ?_ av.out|refine zF ?_ aQ.out)|exact HB.out)) hb);clear aj;clear ak;clear ai;clear aa;clear ab;clear ag;clear HB;have aj:=az;have ak:=aA;have ai:=aB;have aa:=aC;have ab:=aF;have ag:=aI;have HB:=aJ;clear az aA aB aC aF aI aJ;(try clear hb);(try clear hb2);(try clear hk);(try clear hi)))
         (try simp only [Act.put,yay,yby,ycy])
         go_cut [99] (fun gp wc => ∃ (kq:Nat) (b3:Bool),gp = .bool b3∧zA (zR.j4 kq t103 bc bl t136 af ae aP t139 t140 b3 ad ((zI (zE ad af) ae).f0) ((zI (zE ad af) ae).f1)=some (r1,r2,r3,r4))∧zA (kq≤k4)∧zA (Kd.R (Kd.int .i64) 2 wc w.heap.size (fun k_=>some k_≠(aT:Value).ownBlock∧some k_≠((.slice br t136.length bs):Value).ownBlock) bh bc)∧zA (Kd.R (Kd.int .i64) 2 wc w.heap.size (fun k_=>some k_≠(bh:Value).ownBlock∧some k_≠((.slice br t136.length bs):Value).ownBlock) aT bl)∧zA (Kd.R (Kd.int .i64) 2 wc w.heap.size (fun k_=>some k_≠(bh:Value).ownBlock∧some k_≠(aT:Value).ownBlock) (.slice br t136.length bs) t136)∧zA (wc.heap[au]?=some (.cells #[(.slice (some a_) ad.length aE)] 35 (0,0)))∧zA (wc.heap[an]?=some (.cells #[(.slice none 0 0),(.slice none 0 0),(.slice none 0 0)] 88 (0,0)))∧zA (wc.heap[ao]?=some (.cells #[.int .i64 ((zI (zE ad af) ae).f0),.int .i64 ((zI (zE ad af) ae).f1)] 75 (0,0)))∧zA (Below w.heap.size w wc))
         case first=>
          have H:=dx.out
          clear dx;by_cases df:t139=ae
          case neg=>
           rw[if_neg df]at H
           have bO:(t139==ae)=false:=beq_eq_false_iff_ne.mpr df
           have dg:(t139 != ae)=true:=bne_iff_ne.mpr df
           (first|rw[bO]|(simp only [zX,za];rw[bO])|skip)
           have H':=zA.mk H
           clear H;go_wp2;go_meet
           case rel=>exact⟨_,((t140 != ae)),(by first|rfl|(simp;done)|(simp [*];done)),H',⟨by have:=cc.out;have:=cd.out;have:=cp.out;have:=de.out;first|omega|exact yry _⟩,⟨by(try simp only [aq]);(with_reducible repeat(first|apply Kd.zS|apply Kd.zT|apply Kd.zZ));exact aj.out⟩,⟨by(try simp only [aq]);(with_reducible repeat(first|apply Kd.zS|apply Kd.zT|apply Kd.zZ));exact ak.out⟩,⟨by(try simp only [aq]);(with_reducible repeat(first|apply Kd.zS|apply Kd.zT|apply Kd.zZ));exact ai.out⟩,⟨by(try simp only [aq]);(with_reducible repeat(first|refine zH ?_ _|refine zJ ?_|refine zG ?_ _));exact aa.out⟩,⟨by(try simp only [aq]);(with_reducible repeat(first|refine zH ?_ _|refine zJ ?_|refine zG ?_ _));exact ab.out⟩,⟨by(try simp only [aq]);(with_reducible repeat(first|refine zH ?_ _|refine zJ ?_|refine zG ?_ _));exact ag.out⟩,⟨by repeat(first|(with_reducible first|exact HB.out|apply zC|apply zB|apply zD|refine zF ?_ ar.out|refine zF ?_ av.out|refine zF ?_ aQ.out)|exact HB.out)⟩⟩
          rw[if_pos df]at H
          have bO:(t139==ae)=true:=beq_iff_eq.mpr df
          have dg:(t139 != ae)=false:=bne_eq_false_iff_eq.mpr df
          clear df
          (first|rw[bO]|(simp only [zX,za];rw[bO])|skip)
          have H':=zA.mk H
          clear H;go_wp2;go_meet
          case rel=>exact⟨_,(false),(by first|rfl|(simp;done)|(simp [*];done)),H',⟨by have:=cc.out;have:=cd.out;have:=cp.out;have:=de.out;first|omega|exact yry _⟩,⟨by(try simp only [aq]);(with_reducible repeat(first|apply Kd.zS|apply Kd.zT|apply Kd.zZ));exact aj.out⟩,⟨by(try simp only [aq]);(with_reducible repeat(first|apply Kd.zS|apply Kd.zT|apply Kd.zZ));exact ak.out⟩,⟨by(try simp only [aq]);(with_reducible repeat(first|apply Kd.zS|apply Kd.zT|apply Kd.zZ));exact ai.out⟩,⟨by(try simp only [aq]);(with_reducible repeat(first|refine zH ?_ _|refine zJ ?_|refine zG ?_ _));exact aa.out⟩,⟨by(try simp only [aq]);(with_reducible repeat(first|refine zH ?_ _|refine zJ ?_|refine zG ?_ _));exact ab.out⟩,⟨by(try simp only [aq]);(with_reducible repeat(first|refine zH ?_ _|refine zJ ?_|refine zG ?_ _));exact ag.out⟩,⟨by repeat(first|(with_reducible first|exact HB.out|apply zC|apply zB|apply zD|refine zF ?_ ar.out|refine zF ?_ av.out|refine zF ?_ aQ.out)|exact HB.out)⟩⟩
         case rest=>
          clear dx;(try clear c1);(try clear p1);(try clear q1);(try clear hx1);(try clear c2);(try clear p2);(try clear c3);(try clear c4);(try clear c5);(try clear c6);(try clear p6);(try clear c8);(try clear c9);(try clear c11);(try clear c13);(try clear p13);(try clear q13);(try clear hx13);(try clear cN);(try clear b5);(try clear cQ);(try clear cg);(try clear dm);(try clear cC);(try clear dn);(try clear cD);(try clear dp);(try clear cE);(try clear dq);(try clear cF);(try clear cR);(try clear ch);(try clear c21);(try clear c24);(try clear c25);(try clear c29);(try clear c32);(try clear c33);(try clear dd);(try clear cj);(try clear cT);(try clear cG);(try clear cH);(try clear dw);(try clear cK);(try clear df);(try clear bO);(try clear dg);(try clear bQ);(try clear bT);(try clear bU);(try clear bX);(try clear bZ);(try clear b0);(try clear bH);(try clear bR);(try clear bV);(try clear bW);(try clear bY);(try clear b1);(try clear b2);(try clear bI);(try clear a6);(try clear a7);(try clear a8);(try clear p1);(try clear p13);(try clear bK);(try clear bM);(try clear p2);(try clear p6);(try clear q1);(try clear q13);(try clear bL);(try clear bN);obtain⟨kq,b3,rfl,HA,cU,aj,ak,ai,aa,ab,ag,HB⟩:=hcut
          cases kq with
          | zero=>exact absurd HA.out (by simp [zR.j4])
          | succ bG=>
           have H:=HA.out
           clear HA;simp only [zR.j4]at H
           by_cases eY:b3=true
           case neg=>
            replace eY:=Bool.eq_false_iff.mpr eY
            subst eY;rw[if_neg (show ¬ (false=true)by decide)]at H
            have H':=zA.mk H
            clear H;go_wp2;go_roundg bG
            case measure=>have:=cc.out;have:=cd.out;have:=cp.out;have:=de.out;have:=cU.out;omega
            case rel=>exact⟨(bl),(wrap64 (aP+1)),(by first|rfl|(simp;done)|(simp [*];done)),H',⟨by have:=cc.out;have:=cd.out;have:=cp.out;have:=de.out;have:=cU.out;omega⟩,⟨by(try simp only [aq]);(with_reducible repeat(first|apply Kd.zS|apply Kd.zT|apply Kd.zZ));exact aj.out⟩,⟨by(try simp only [aq]);(with_reducible repeat(first|apply Kd.zS|apply Kd.zT|apply Kd.zZ));exact ak.out⟩,⟨by(try simp only [aq]);(with_reducible repeat(first|apply Kd.zS|apply Kd.zT|apply Kd.zZ));exact ai.out⟩,⟨by(try simp only [aq]);(with_reducible repeat(first|refine zH ?_ _|refine zJ ?_|refine zG ?_ _));exact aa.out⟩,⟨by(try simp only [aq]);(with_reducible repeat(first|refine zH ?_ _|refine zJ ?_|refine zG ?_ _));exact ab.out⟩,⟨by(try simp only [aq]);(with_reducible repeat(first|refine zH ?_ _|refine zJ ?_|refine zG ?_ _));exact ag.out⟩,⟨by repeat(first|(with_reducible first|exact HB.out|apply zC|apply zB|apply zD|refine zF ?_ ar.out|refine zF ?_ av.out|refine zF ?_ aQ.out)|exact HB.out)⟩⟩
           subst eY;rw[if_pos rfl]at H
           replace H:=ydy.mp H
           obtain⟨t141,eh,H⟩:=H
           replace H:((qi.f bG ((zI (zE ad af) ae).f1) t140).bind fun t142=>((qI.f bG t141 t142).bind fun t143=>((qz.f bl (wrap64 ((wrap64 (6*af))+aP)) (wrap64 ((wrap64 (6*((zI (zE ad af) ae).f0)))+t143))).bind fun t144=>(zR.l3 bG t103 bc t144 t136 af ae (wrap64 (aP+1)) ad ((zI (zE ad af) ae).f0) ((zI (zE ad af) ae).f1)))))=some (r1,r2,r3,r4):=H
           have gq:=zA.mk eh
           clear eh;replace H:=ydy.mp H
           obtain⟨t142,ei,H⟩:=H
           replace H:((qI.f bG t141 t142).bind fun t143=>((qz.f bl (wrap64 ((wrap64 (6*af))+aP)) (wrap64 ((wrap64 (6*((zI (zE ad af) ae).f0)))+t143))).bind fun t144=>(zR.l3 bG t103 bc t144 t136 af ae (wrap64 (aP+1)) ad ((zI (zE ad af) ae).f0) ((zI (zE ad af) ae).f1))))=some (r1,r2,r3,r4):=H
           have gr:=zA.mk ei
           clear ei;replace H:=ydy.mp H
           obtain⟨t143,ej,H⟩:=H
           replace H:((qz.f bl (wrap64 ((wrap64 (6*af))+aP)) (wrap64 ((wrap64 (6*((zI (zE ad af) ae).f0)))+t143))).bind fun t144=>(zR.l3 bG t103 bc t144 t136 af ae (wrap64 (aP+1)) ad ((zI (zE ad af) ae).f0) ((zI (zE ad af) ae).f1)))=some (r1,r2,r3,r4):=H
           have gu:=zA.mk ej
           clear ej;replace H:=ydy.mp H
           obtain⟨t144,ek,H⟩:=H
           replace H:(zR.l3 bG t103 bc t144 t136 af ae (wrap64 (aP+1)) ad ((zI (zE ad af) ae).f0) ((zI (zE ad af) ae).f1))=some (r1,r2,r3,r4):=H
           have gv:=zA.mk ek
           clear ek;have H':=zA.mk H
           clear H;try go_wp2
           have az:=zA.mk (Kd.zZ aj.out)
           have aA:=zA.mk (Kd.zZ ak.out)
           have aB:=zA.mk (Kd.zZ ai.out)
           have aC:=zA.mk (zJ aa.out)
           have aF:=zA.mk (zJ ab.out)
           have aI:=zA.mk (zJ ag.out)
           have aJ:=zA.mk (zD HB.out)
           clear aj;clear ak;clear ai;clear aa;clear ab;clear ag;clear HB;have aj:=az;have ak:=aA;have ai:=aB;have aa:=aC;have ab:=aF;have ag:=aI;have HB:=aJ;clear az aA aB aC aF aI aJ;refine Zv (n:=19) (S:=fun w'=>w'.cell? ⟨ao,0,none⟩=some (.int .i64 ((zI (zE ad af) ae).f0))∧w'.cell? ⟨ao,1,none⟩=some (.int .i64 ((zI (zE ad af) ae).f1))) (ds := []) #[false,false,false,false,false,false,false,false,false,false,false,false,false,false,false,false,false,false,false] (by kernel_rfl) rfl rfl ⟨(zK ag.out 0).trans rfl,(zK ag.out 1).trans rfl⟩ (fun hHeld=>?_);refine Zn zR.tab24 zR.bits24 (fun HT_ HW_=>?_)
           generalize wc.drew=gI at aj ak ai aa ab ag HB hHeld ⊢
           refine zg (i:=0) (N:=some 100) (v:=?_) (a':=?_) #[true,false,false,false,false,false,false,false,false,false,false,false,false,false,false,false,false,false,false] rfl rfl (zm HT_.out (by kernel_rfl)) (fun _ _ _ h=>h) (Or.inl ⟨by rfl,?_⟩) ?_ ?_
           rotate_left
           next=>
            intro w';go_simp;with_reducible rfl
           rotate_left
           next=>
            simp only [Act.put,yay,yby,ycy,zX,za]
            rfl
           refine zg (i:=1) (N:=some 101) (v:=?_) (a':=?_) #[true,true,false,false,false,false,false,false,false,false,false,false,false,false,false,false,false,false,false] rfl rfl (zm HT_.out (by kernel_rfl)) (fun _ _ _ h=>h) (Or.inl ⟨by rfl,?_⟩) ?_ ?_
           rotate_left
           next=>
            intro w';go_simp;with_reducible rfl
           rotate_left
           next=>
            simp only [Act.put,yay,yby,ycy,zX,za]
            rfl
           refine zg (i:=2) (N:=some 102) (v:=?_) (a':=?_) #[true,true,true,false,false,false,false,false,false,false,false,false,false,false,false,false,false,false,false] rfl rfl (zm HT_.out (by kernel_rfl)) (fun _ _ _ h=>h) (Or.inl ⟨by rfl,?_⟩) ?_ ?_
           rotate_left
           next=>
            intro w';go_simp;with_reducible rfl
           rotate_left
           next=>
            simp only [Act.put,yay,yby,ycy,zX,za]
            rfl
           refine zg (i:=3) (N:=some 103) (v:=?_) (a':=?_) #[true,true,true,true,false,false,false,false,false,false,false,false,false,false,false,false,false,false,false] rfl rfl (zm HT_.out (by kernel_rfl)) (fun _ _ _ h=>h) (Or.inl ⟨by rfl,?_⟩) ?_ ?_
           rotate_left
           next=>
            intro w';go_simp;with_reducible rfl
           rotate_left
           next=>
            simp only [Act.put,yay,yby,ycy,zX,za]
            rfl
           refine zg (i:=4) (N:=some 104) (v:=?_) (a':=?_) #[true,true,true,true,true,false,false,false,false,false,false,false,false,false,false,false,false,false,false] rfl rfl (zm HT_.out (by kernel_rfl)) (fun _ _ _ h=>h) (Or.inl ⟨by rfl,?_⟩) ?_ ?_
           rotate_left
           next=>
            intro w';go_simp;with_reducible rfl
           rotate_left
           next=>
            simp only [Act.put,yay,yby,ycy,zX,za]
            rfl
           refine zg (i:=5) (N:=some 105) (v:=?_) (a':=?_) #[true,true,true,true,true,true,false,false,false,false,false,false,false,false,false,false,false,false,false] rfl rfl (zm HT_.out (by kernel_rfl)) (fun _ _ _ h=>h) (Or.inl ⟨by rfl,?_⟩) ?_ ?_
           rotate_left
           next=>
            intro w';go_simp;with_reducible rfl
           rotate_left
           next=>
            simp only [Act.put,yay,yby,ycy,zX,za]
            rfl
           refine zg (i:=8) (N:=some 108) (v:=?_) (a':=?_) #[true,true,true,true,true,true,false,false,true,false,false,false,false,false,false,false,false,false,false] rfl rfl (zm HT_.out (by kernel_rfl)) (fun _ _ _ h=>h) (Or.inl ⟨by rfl,?_⟩) ?_ ?_
           rotate_left
           next=>
            intro w';go_simp;with_reducible rfl
           rotate_left
           next=>
            simp only [Act.put,yay,yby,ycy,zX,za]
            rfl
           refine zg (i:=10) (N:=some 110) (v:=?_) (a':=?_) #[true,true,true,true,true,true,false,false,true,false,true,false,false,false,false,false,false,false,false] rfl rfl (zm HT_.out (by kernel_rfl)) (fun _ _ _ h=>h) (Or.inl ⟨by rfl,?_⟩) ?_ ?_
           rotate_left
           next=>
            intro w';go_simp;with_reducible rfl
           rotate_left
           next=>
            simp only [Act.put,yay,yby,ycy,zX,za]
            rfl
           refine zg (i:=12) (N:=some 112) (v:=?_) (a':=?_) #[true,true,true,true,true,true,false,false,true,false,true,false,true,false,false,false,false,false,false] rfl rfl (zm HT_.out (by kernel_rfl)) (fun _ _ _ h=>h) (Or.inl ⟨by rfl,?_⟩) ?_ ?_
           rotate_left
           next=>
            intro w';go_simp;with_reducible rfl
           rotate_left
           next=>
            simp only [Act.put,yay,yby,ycy,zX,za]
            rfl
           refine zg (i:=14) (N:=some 114) (v:=?_) (a':=?_) #[true,true,true,true,true,true,false,false,true,false,true,false,true,false,true,false,false,false,false] rfl rfl (zm HT_.out (by kernel_rfl)) (fun _ _ _ h=>h) (Or.inl ⟨by rfl,?_⟩) ?_ ?_
           rotate_left
           next=>
            intro w';go_simp;with_reducible rfl
           rotate_left
           next=>
            simp only [Act.put,yay,yby,ycy,zX,za]
            rfl
           refine ZA (i:=6) (N:=some 106) (v:=?_) (a':=?_) #[true,true,true,true,true,true,true,false,true,false,true,false,true,false,true,false,false,false,false] rfl rfl (qm HT_.out HW_.out (by kernel_rfl)) (fun _ _ _ h=>h) (Or.inl ⟨by rfl,?_⟩) hHeld ?_ ?_
           rotate_left
           next=>
            rintro w' ⟨s0,s1⟩
            go_simp;with_reducible rfl
           rotate_left
           next=>
            simp only [Act.put,yay,yby,ycy,zX,za]
            rfl
           refine zg (i:=7) (N:=some 107) (v:=?_) (a':=?_) #[true,true,true,true,true,true,true,true,true,false,true,false,true,false,true,false,false,false,false] rfl rfl (zm HT_.out (by kernel_rfl)) (fun _ _ _ h=>h) (Or.inl ⟨by rfl,?_⟩) ?_ ?_
           rotate_left
           next=>
            intro w';go_simp;with_reducible rfl
           rotate_left
           next=>
            simp only [Act.put,yay,yby,ycy,zX,za]
            rfl
           refine ZA (i:=9) (N:=some 109) (v:=?_) (a':=?_) #[true,true,true,true,true,true,true,true,true,true,true,false,true,false,true,false,false,false,false] rfl rfl (qm HT_.out HW_.out (by kernel_rfl)) (fun _ _ _ h=>h) (Or.inl ⟨by rfl,?_⟩) hHeld ?_ ?_
           rotate_left
           next=>
            rintro w' ⟨s0,s1⟩
            go_simp;with_reducible rfl
           rotate_left
           next=>
            simp only [Act.put,yay,yby,ycy,zX,za]
            rfl
           refine ZA (i:=13) (N:=some 113) (v:=?_) (a':=?_) #[true,true,true,true,true,true,true,true,true,true,true,false,true,true,true,false,false,false,false] rfl rfl (qm HT_.out HW_.out (by kernel_rfl)) (fun _ _ _ h=>h) (Or.inl ⟨by rfl,?_⟩) hHeld ?_ ?_
           rotate_left
           next=>
            rintro w' ⟨s0,s1⟩
            go_simp;with_reducible rfl
           rotate_left
           next=>
            simp only [Act.put,yay,yby,ycy,zX,za]
            rfl
           refine zA4 (i:=11) (N:=some 111) #[true,true,true,true,true,true,true,true,true,true,true,true,true,true,true,false,false,false,false] rfl rfl (QG HT_.out (by kernel_rfl)) (by decide) (fun K hK=>?_)
           refine QO Try.func82 (by kernel_rfl) rfl #[.int .i64 ((zI (zE ad af) ae).f1),.int .i64 t139] (by rfl) rfl rfl (by(try simp only [yiy,yjy,yky]);first|done|rfl|(simp only [yly,ymy];rfl)) ?_
           with_reducible refine(qi.calls bG ((zI (zE ad af) ae).f1) t139 t141 _ gq.out).mono ?_
           rintro e gJ ⟨rfl,hb⟩
           refine⟨_,rfl,?_⟩
           have az:=zA.mk (Kd.qN (by(with_reducible repeat(first|apply Kd.zS|apply Kd.zT|apply Kd.zZ));exact aj.out) hb)
           have aA:=zA.mk (Kd.qN (by(with_reducible repeat(first|apply Kd.zS|apply Kd.zT|apply Kd.zZ));exact ak.out) hb)
           have aB:=zA.mk (Kd.qN (by(with_reducible repeat(first|apply Kd.zS|apply Kd.zT|apply Kd.zZ));exact ai.out) hb)
           have aC:=zA.mk (zO (g:=au) (o := .cells #[.slice (some a_) ad.length aE] 35 (0,0)) (by(with_reducible repeat(first|refine zH ?_ _|refine zJ ?_|refine zG ?_ _));exact aa.out) hb)
           have aF:=zA.mk (zO (g:=an) (o := .cells #[.slice none 0 0,.slice none 0 0,.slice none 0 0] 88 (0,0)) (by(with_reducible repeat(first|refine zH ?_ _|refine zJ ?_|refine zG ?_ _));exact ab.out) hb)
           have aI:=zA.mk (zO (g:=ao) (o := .cells #[.int .i64 ((zI (zE ad af) ae).f0),.int .i64 ((zI (zE ad af) ae).f1)] 75 (0,0)) (by(with_reducible repeat(first|refine zH ?_ _|refine zJ ?_|refine zG ?_ _));exact ag.out) hb)
           have aJ:=zA.mk (zM (by repeat(first|(with_reducible first|exact HB.out|apply zC|apply zB|apply zD|refine zF ?_ ar.out|refine zF ?_ av.out|refine zF ?_ aQ.out)|exact HB.out)) hb)
           clear aj;clear ak;clear ai;clear aa;clear ab;clear ag;clear HB;have aj:=az;have ak:=aA;have ai:=aB;have aa:=aC;have ab:=aF;have ag:=aI;have HB:=aJ;clear az aA aB aC aF aI aJ
           (try clear hb)
           (try clear hb2)
           (try clear hk)
           (try clear hi)
           refine hK.out _ _ ⟨(zK ag.out 0).trans rfl,(zK ag.out 1).trans rfl⟩ (fun hHeld=>?_)
           clear hK K;refine QE (a':=?_) ?_ ?_
           rotate_left
           next=>
            show Act.put _ (some 111) _=_
            simp only [Act.put,yay,yby,ycy,zX,za]
            rfl
           refine zA4 (i:=15) (N:=some 115) #[true,true,true,true,true,true,true,true,true,true,true,true,true,true,true,true,false,false,false] rfl rfl (QG HT_.out (by kernel_rfl)) (by decide) (fun K hK=>?_)
           refine QO Try.func82 (by kernel_rfl) rfl #[.int .i64 ((zI (zE ad af) ae).f1),.int .i64 t140] (by rfl) rfl rfl (by(try simp only [yiy,yjy,yky]);first|done|rfl|(simp only [yly,ymy];rfl)) ?_
           with_reducible refine(qi.calls bG ((zI (zE ad af) ae).f1) t140 t142 _ gr.out).mono ?_
           rintro e gK ⟨rfl,hb⟩
           refine⟨_,rfl,?_⟩
           have az:=zA.mk (Kd.qN (by(with_reducible repeat(first|apply Kd.zS|apply Kd.zT|apply Kd.zZ));exact aj.out) hb)
           have aA:=zA.mk (Kd.qN (by(with_reducible repeat(first|apply Kd.zS|apply Kd.zT|apply Kd.zZ));exact ak.out) hb)
           have aB:=zA.mk (Kd.qN (by(with_reducible repeat(first|apply Kd.zS|apply Kd.zT|apply Kd.zZ));exact ai.out) hb)
           have aC:=zA.mk (zO (g:=au) (o := .cells #[.slice (some a_) ad.length aE] 35 (0,0)) (by(with_reducible repeat(first|refine zH ?_ _|refine zJ ?_|refine zG ?_ _));exact aa.out) hb)
           have aF:=zA.mk (zO (g:=an) (o := .cells #[.slice none 0 0,.slice none 0 0,.slice none 0 0] 88 (0,0)) (by(with_reducible repeat(first|refine zH ?_ _|refine zJ ?_|refine zG ?_ _));exact ab.out) hb)
           have aI:=zA.mk (zO (g:=ao) (o := .cells #[.int .i64 ((zI (zE ad af) ae).f0),.int .i64 ((zI (zE ad af) ae).f1)] 75 (0,0)) (by(with_reducible repeat(first|refine zH ?_ _|refine zJ ?_|refine zG ?_ _));exact ag.out) hb)
           have aJ:=zA.mk (zM (by repeat(first|(with_reducible first|exact HB.out|apply zC|apply zB|apply zD|refine zF ?_ ar.out|refine zF ?_ av.out|refine zF ?_ aQ.out)|exact HB.out)) hb)
           clear aj;clear ak;clear ai;clear aa;clear ab;clear ag;clear HB;have aj:=az;have ak:=aA;have ai:=aB;have aa:=aC;have ab:=aF;have ag:=aI;have HB:=aJ;clear az aA aB aC aF aI aJ
           (try clear hb)
           (try clear hb2)
           (try clear hk)
           (try clear hi)
           refine hK.out _ _ ⟨(zK ag.out 0).trans rfl,(zK ag.out 1).trans rfl⟩ (fun hHeld=>?_)
           clear hK K;refine QE (a':=?_) ?_ ?_
           rotate_left
           next=>
            show Act.put _ (some 115) _=_
            simp only [Act.put,yay,yby,ycy,zX,za]
            rfl
           refine zA4 (i:=16) (N:=some 116) #[true,true,true,true,true,true,true,true,true,true,true,true,true,true,true,true,true,false,false] rfl rfl (QG HT_.out (by kernel_rfl)) (by decide) (fun K hK=>?_)
           refine QO Try.func116 (by kernel_rfl) rfl #[.int .i64 t141,.int .i64 t142] (by rfl) rfl rfl (by(try simp only [yiy,yjy,yky]);first|done|rfl|(simp only [yly,ymy];rfl)) ?_
           with_reducible refine(qI.calls bG t141 t142 t143 _ gu.out).mono ?_
           rintro e gL ⟨rfl,hb⟩
           refine⟨_,rfl,?_⟩
           have az:=zA.mk (Kd.qN (by(with_reducible repeat(first|apply Kd.zS|apply Kd.zT|apply Kd.zZ));exact aj.out) hb)
           have aA:=zA.mk (Kd.qN (by(with_reducible repeat(first|apply Kd.zS|apply Kd.zT|apply Kd.zZ));exact ak.out) hb)
           have aB:=zA.mk (Kd.qN (by(with_reducible repeat(first|apply Kd.zS|apply Kd.zT|apply Kd.zZ));exact ai.out) hb)
           have aC:=zA.mk (zO (g:=au) (o := .cells #[.slice (some a_) ad.length aE] 35 (0,0)) (by(with_reducible repeat(first|refine zH ?_ _|refine zJ ?_|refine zG ?_ _));exact aa.out) hb)
           have aF:=zA.mk (zO (g:=an) (o := .cells #[.slice none 0 0,.slice none 0 0,.slice none 0 0] 88 (0,0)) (by(with_reducible repeat(first|refine zH ?_ _|refine zJ ?_|refine zG ?_ _));exact ab.out) hb)
           have aI:=zA.mk (zO (g:=ao) (o := .cells #[.int .i64 ((zI (zE ad af) ae).f0),.int .i64 ((zI (zE ad af) ae).f1)] 75 (0,0)) (by(with_reducible repeat(first|refine zH ?_ _|refine zJ ?_|refine zG ?_ _));exact ag.out) hb)
           have aJ:=zA.mk (zM (by repeat(first|(with_reducible first|exact HB.out|apply zC|apply zB|apply zD|refine zF ?_ ar.out|refine zF ?_ av.out|refine zF ?_ aQ.out)|exact HB.out)) hb)
           clear aj;clear ak;clear ai;clear aa;clear ab;clear ag;clear HB;have aj:=az;have ak:=aA;have ai:=aB;have aa:=aC;have ab:=aF;have ag:=aI;have HB:=aJ;clear az aA aB aC aF aI aJ
           (try clear hb)
           (try clear hb2)
           (try clear hk)
           (try clear hi)
           obtain⟨cL,cM,en⟩:=Kd.ZE ak.out
           (first|subst en|(injection en with f1_ f2_ f3_;have eb:=f1_.symm;have ec:=f3_.symm;clear f1_ f2_ f3_;subst eb;subst ec))
           refine hK.out _ _ ⟨(zK ag.out 0).trans rfl,(zK ag.out 1).trans rfl⟩ (fun hHeld=>?_)
           clear hK K;refine QE (a':=?_) ?_ ?_
           rotate_left
           next=>
            show Act.put _ (some 116) _=_
            simp only [Act.put,yay,yby,ycy,zX,za]
            rfl
           refine zg (i:=17) (N:=some 117) (v:=?_) (a':=?_) #[true,true,true,true,true,true,true,true,true,true,true,true,true,true,true,true,true,true,false] rfl rfl (zm HT_.out (by kernel_rfl)) (fun _ _ _ h=>h) (Or.inl ⟨by rfl,?_⟩) ?_ ?_
           rotate_left
           next=>
            intro w';go_simp;with_reducible rfl
           rotate_left
           next=>
            simp only [Act.put,yay,yby,ycy,zX,za]
            rfl
           refine zA4 (i:=18) (N:=some 118) #[true,true,true,true,true,true,true,true,true,true,true,true,true,true,true,true,true,true,true] rfl rfl (QG HT_.out (by kernel_rfl)) (by decide) (fun K hK=>?_)
           refine QO Try.func92 (by kernel_rfl) rfl #[.slice cL bl.length cM,.int .i64 (wrap64 ((wrap64 (6*af))+aP)),.int .i64 (wrap64 ((wrap64 (6*((zI (zE ad af) ae).f0)))+t143))] (by rfl) rfl rfl (by(try simp only [yiy,yjy,yky]);first|done|rfl|(simp only [yly,ymy];rfl)) ?_
           with_reducible refine(qz.calls (fun k_=>some k_=(.slice cL bl.length cM:Value).ownBlock) (.slice cL bl.length cM) bl (wrap64 ((wrap64 (6*af))+aP)) (wrap64 ((wrap64 (6*((zI (zE ad af) ae).f0)))+t143)) t144 w _ ?side1 ?side2 gv.out).mono ?_
           (case side1=>repeat(first|(with_reducible first|exact HB.out|apply zC|apply zB|apply zD|refine zF ?_ ar.out|refine zF ?_ av.out|refine zF ?_ aQ.out)|exact HB.out))
           (case side2=>exact Kd.Qu rfl ak.out)
           rintro e gM ⟨rfl,dc,hb,hkp⟩
           refine⟨_,rfl,?_⟩
           have az:=zA.mk (Kd.qC (ok':=fun k_=>some k_≠(.slice cL bl.length cM:Value).ownBlock∧some k_≠(.slice br t136.length bs:Value).ownBlock) (Kd.zBS (aj.out) hkp (fun k_ hk_ hs_=>(hk_.1) hs_)) (fun k_ hk_=>⟨hk_.1.1,hk_.1.2⟩))
           have aA:=zA.mk (Kd.zGc rfl dc (fun k_ e_=>ak.out.1 k_ e_))
           have aB:=zA.mk (Kd.qC (ok':=fun k_=>some k_≠(bh:Value).ownBlock∧some k_≠(.slice cL bl.length cM:Value).ownBlock) (Kd.zBS (ai.out) hkp (fun k_ hk_ hs_=>(hk_.2) hs_)) (fun k_ hk_=>⟨hk_.1.1,hk_.1.2⟩))
           have aC:=zA.mk (ZX (by(with_reducible repeat(first|refine zH ?_ _|refine zJ ?_|refine zG ?_ _));exact aa.out) hkp (fun hs_=>(fun e_=>(Kd.zCU ak.out aa.out (by decide)) e_) hs_))
           have aF:=zA.mk (ZX (by(with_reducible repeat(first|refine zH ?_ _|refine zJ ?_|refine zG ?_ _));exact ab.out) hkp (fun hs_=>(fun e_=>(Kd.zCU ak.out ab.out (by decide)) e_) hs_))
           have aI:=zA.mk (ZX (by(with_reducible repeat(first|refine zH ?_ _|refine zJ ?_|refine zG ?_ _));exact ag.out) hkp (fun hs_=>(fun e_=>(Kd.zCU ak.out ag.out (by decide)) e_) hs_))
           have aJ:=zA.mk (hb)
           clear aj;clear ak;clear ai;clear aa;clear ab;clear ag;clear HB;have aj:=az;have ak:=aA;have ai:=aB;have aa:=aC;have ab:=aF;have ag:=aI;have HB:=aJ;clear az aA aB aC aF aI aJ
           (try clear hb)
           (try clear hkp)
           (try clear dc)
           refine hK.out _ _ ⟨(zK ag.out 0).trans rfl,(zK ag.out 1).trans rfl⟩ (fun hHeld=>?_)
           clear hK K;refine QE (a':=?_) ?_ ?_
           rotate_left
           next=>
            show Act.put _ (some 118) _=_
            simp only [Act.put,yay,yby,ycy,zX,za]
            rfl
           refine Qo (Qp HT_.out (by kernel_rfl)) ?_
           try go_wp2
           go_roundg bG
           case measure=>have:=cc.out;have:=cd.out;have:=cp.out;have:=de.out;have:=cU.out;omega
           case rel=>exact⟨(t144),(wrap64 (aP+1)),(by first|rfl|(simp;done)|(simp [*];done)),H',⟨by have:=cc.out;have:=cd.out;have:=cp.out;have:=de.out;have:=cU.out;omega⟩,⟨by(try simp only [aq]);(with_reducible repeat(first|apply Kd.zS|apply Kd.zT|apply Kd.zZ));exact aj.out⟩,⟨by(try simp only [aq]);(with_reducible repeat(first|apply Kd.zS|apply Kd.zT|apply Kd.zZ));exact ak.out⟩,⟨by(try simp only [aq]);(with_reducible repeat(first|apply Kd.zS|apply Kd.zT|apply Kd.zZ));exact ai.out⟩,⟨by(try simp only [aq]);(with_reducible repeat(first|refine zH ?_ _|refine zJ ?_|refine zG ?_ _));exact aa.out⟩,⟨by(try simp only [aq]);(with_reducible repeat(first|refine zH ?_ _|refine zJ ?_|refine zG ?_ _));exact ab.out⟩,⟨by(try simp only [aq]);(with_reducible repeat(first|refine zH ?_ _|refine zJ ?_|refine zG ?_ _));exact ag.out⟩,⟨by repeat(first|(with_reducible first|exact HB.out|apply zC|apply zB|apply zD|refine zF ?_ ar.out|refine zF ?_ av.out|refine zF ?_ aQ.out)|exact HB.out)⟩⟩
mutual
def zt.l0:Nat→Int→List (List Int)→Int→List (List Int)→List (List Int)→List (List Int)→Option ((List (List Int)))
 | 0,_,_,_,_,_,_=>none
 | k+1,x1,x7,x8,x115000,x115001,x115002=>if x8<(x115000.length:Int)then(zt.l1 k x1 x7 x8 0 x115000 x115001 x115002)else(some x7)
def zt.l1:Nat→Int→List (List Int)→Int→Int→List (List Int)→List (List Int)→List (List Int)→Option ((List (List Int)))
 | 0,_,_,_,_,_,_,_=>none
 | k+1,x1,x7,x8,x9,x115000,x115001,x115002=>if x9<4 then(if 0≤x8 then(if x8<(x115000.length:Int)then(if 0≤x9 then(if x9<((qQ x115000 x8).length:Int)then(if(rd (qQ x115000 x8) x9)=x1 then(if x7.length<5864062014805 then(zt.l1 k x1 (x7 ++ [(([x8,x9]:List Int))]) x8 (wrap64 (x9+1)) x115000 x115001 x115002)else(none))else(zt.l1 k x1 x7 x8 (wrap64 (x9+1)) x115000 x115001 x115002))else(none))else(none))else(none))else(none))else(zt.l0 k x1 x7 (wrap64 (x8+1)) x115000 x115001 x115002)
end
def zt.f (k:Nat) (l0_0:List (List (zv))) (a1:Int):Option ((List (List Int))):=(zR.f k l0_0).bind fun bt102=>(zt.l0 k a1 (([]:List (List Int))) 0 bt102.1 bt102.2.1 bt102.2.2.1)
set_option maxHeartbeats 8000000 in
set_option maxRecDepth 100000 in
theorem zt.calls (k:Nat) (aD:Option Addr) (aE:Nat) (ay:List (List (zv))) (a1:Int) (r:List (List Int)) (w:World) (bL:Kd.C (Kd.slice 75 ZZ) w aD ay.length ay) (bM:ay.length≤aE) (h:zt.f k ay a1=some r) :
 Calls Try.prog 48 #[.agg #[.slice aD ay.length aE],.int .i64 a1] w fun e w' => ∃ cI:Value,e = .returned (cI)∧Kd.S (Kd.slice 2 (Kd.int .i64)) 22 w' w.heap.size (fun _=>True) cI r∧Below w.heap.size w w':=by
 have c3:=Try.underlying35
 have c5:=Try.underlying88
 have bZ:=zA.mk bL
 have b0:=zA.mk bM
 clear bL bM;have HB:=zA.mk (ysy w.heap.size w)
 have H:((zR.f k ay).bind fun bt=>(zt.l0 k a1 (([]:List (List Int))) 0 bt.1 bt.2.1 bt.2.2.1))=some r:=h
 clear h;replace H:=ydy.mp H
 obtain⟨⟨t102,t105,t108,t111⟩,cJ,H⟩:=H
 replace H:(zt.l0 k a1 (([]:List (List Int))) 0 t102 t105 t108)=some r:=H
 have A3:=zA.mk cJ
 clear cJ;obtain⟨b1,a2⟩ : ∃ y_:List (List Int),y_=(([]:List (List Int))):=⟨_,rfl⟩
 replace H:(zt.l0 k a1 b1 0 t102 t105 t108)=some r:=by first|(rw[a2];with_reducible exact H)|(have bu:=(yfy _ _).symm.trans H;rw[a2];with_reducible exact bu)|(have bu:=(yfy _ _).symm.trans H;with_reducible exact bu)|with_reducible exact H|(rw[a2];exact H)|exact H
 have bN:=zA.mk a2
 clear a2;have H':=zA.mk H
 clear H;go_enter Try.func48,Try.ntmps48
 go_wp2_with (first|((with_reducible refine zw (N:=2) rfl ?_);refine zz ?hg (N:=2) ?hd (cs:=#[.slice aD ay.length aE]) (t:=35) ?hr ?_;(case hd=>rfl);(case hg=>rfl);(case hr=>first|(go_simp;done)|(go_simp;rfl));intro av hg w4 hbox hb;have a5:=zA.mk (zM (by repeat(first|(with_reducible first|exact HB.out|apply zC|apply zB|apply zD)|exact HB.out)) hb);have a6:=zA.mk (hbox);have a7:=zA.mk ((by rw[hg];exact(zQ (by repeat(first|(with_reducible first|exact HB.out|apply zC|apply zB|apply zD)|exact HB.out))):w.heap.size≤av));have a8:=zA.mk ((by rw[hg];exact(zQ (by repeat(first|(with_reducible first|exact HB.out|apply zC|apply zB|apply zD)|exact HB.out))):w.heap.size≤av));clear HB;have HB:=a5;have ag:=a6;have cK:=a7;have an:=a8;clear a5 a6 a7 a8;clear hb hbox hg;have bw:w4.cell? ⟨av,0,none⟩=some (.slice aD ay.length aE):=(zK ag.out 0).trans rfl;have bx:=zP ag.out 0)|((with_reducible refine zd (f:=84) rfl ?_);refine qV (some 12) rfl rfl Try.func84 (by kernel_rfl) rfl #[.agg #[.slice aD ay.length aE]] rfl (by(try simp only [yiy,yjy,yky]);first|done|rfl|(simp only [yly,ymy];rfl)) ?_;(with_reducible refine(zR.calls k _ _ ay t102 t105 t108 t111 _ ?side1 ?side2 A3.out).mono ?_);(case side1=>repeat(first|exact(Kd.qD bZ.out HB.out)|(with_reducible refine Kd.zy ?_ _)|(with_reducible refine Kd.qA ?_ _)|(with_reducible refine Kd.qR ?_)));(case side2=>exact b0.out);rintro e w6 ⟨c6,c7,c_,da,rfl,cL,cM,cN,cO,hb⟩;refine⟨_,rfl,?_⟩;have a5:=zA.mk (Kd.QA cL (zQ (by repeat(first|(with_reducible first|exact HB.out|apply zC|apply zB|apply zD|refine zF ?_ an.out)|exact HB.out))));have a6:=zA.mk (Kd.QA cM (zQ (by repeat(first|(with_reducible first|exact HB.out|apply zC|apply zB|apply zD|refine zF ?_ an.out)|exact HB.out))));have a7:=zA.mk (Kd.QA cN (zQ (by repeat(first|(with_reducible first|exact HB.out|apply zC|apply zB|apply zD|refine zF ?_ an.out)|exact HB.out))));have a8:=zA.mk (Kd.qx cO (zQ (by repeat(first|(with_reducible first|exact HB.out|apply zC|apply zB|apply zD|refine zF ?_ an.out)|exact HB.out))));have bh:=zA.mk (zO (g:=av) (o := .cells #[.slice aD ay.length aE] 35 (0,0)) (by(with_reducible repeat(first|refine zH ?_ _|refine zJ ?_|refine zG ?_ _));exact ag.out) hb);have bj:=zA.mk (zM (by repeat(first|(with_reducible first|exact HB.out|apply zC|apply zB|apply zD|refine zF ?_ an.out)|exact HB.out)) hb);clear ag;clear HB;have aG:=a5;have aH:=a6;have aI:=a7;have aR:=a8;have ag:=bh;have HB:=bj;clear a5 a6 a7 a8 bh bj;(try clear hb);(try clear hb2);(try clear hk);(try clear hi);(try clear cL);(try clear cM);(try clear cN);(try clear cO))|((with_reducible refine zw (N:=5) rfl ?_);refine zz ?hg (N:=5) ?hd (cs:=#[.slice none 0 0,.slice none 0 0,.slice none 0 0]) (t:=88) ?hr ?_;(case hd=>rfl);(case hg=>rfl);(case hr=>first|(go_simp;done)|(go_simp;rfl));intro ab hg w7 hbox hb;have a5:=zA.mk (Kd.Zf (by(with_reducible repeat(first|apply Kd.zh|apply Kd.zi|apply Kd.zx));exact aG.out) hb);have a6:=zA.mk (Kd.Zf (by(with_reducible repeat(first|apply Kd.zh|apply Kd.zi|apply Kd.zx));exact aH.out) hb);have a7:=zA.mk (Kd.Zf (by(with_reducible repeat(first|apply Kd.zh|apply Kd.zi|apply Kd.zx));exact aI.out) hb);have a8:=zA.mk (Kd.qN (by(with_reducible repeat(first|apply Kd.zS|apply Kd.zT|apply Kd.zZ));exact aR.out) hb);have bh:=zA.mk (zO (g:=av) (o := .cells #[.slice aD ay.length aE] 35 (0,0)) (by(with_reducible repeat(first|refine zH ?_ _|refine zJ ?_|refine zG ?_ _));exact ag.out) hb);have bj:=zA.mk (zM (by repeat(first|(with_reducible first|exact HB.out|apply zC|apply zB|apply zD|refine zF ?_ an.out)|exact HB.out)) hb);have bz:=zA.mk (hbox);have bA:=zA.mk ((by rw[hg];exact(zQ (by repeat(first|(with_reducible first|exact HB.out|apply zC|apply zB|apply zD|refine zF ?_ an.out)|exact HB.out))):w.heap.size≤ab));have b2:=zA.mk ((by rw[hg];exact(zQ (by repeat(first|(with_reducible first|exact HB.out|apply zC|apply zB|apply zD|refine zF ?_ an.out)|exact HB.out))):w.heap.size≤ab));have b3:=zA.mk ((by rw[hg];exact Nat.ne_of_lt (qT (g:=av) (o := .cells #[.slice aD ay.length aE] 35 (0,0)) (by(with_reducible repeat(first|refine zH ?_ _|refine zJ ?_|refine zG ?_ _));exact ag.out)):av≠ab));have b4:=zA.mk ((by rw[hg];exact Nat.ne_of_gt (qT (g:=av) (o := .cells #[.slice aD ay.length aE] 35 (0,0)) (by(with_reducible repeat(first|refine zH ?_ _|refine zJ ?_|refine zG ?_ _));exact ag.out)):ab≠av));clear aG;clear aH;clear aI;clear aR;clear ag;clear HB;have aG:=a5;have aH:=a6;have aI:=a7;have aR:=a8;have ag:=bh;have HB:=bj;have aa:=bz;have cP:=bA;have aA:=b2;have ao:=b3;have ax:=b4;clear a5 a6 a7 a8 bh bj bz bA b2 b3 b4;clear hb hbox hg;obtain⟨aQ,aC,db⟩:=Kd.QM aG.out;subst db;have dc:=ax.out;have dd:=ao.out;have bk:w7.cell? ⟨ab,0,none⟩=some (.slice none 0 0):=(zK aa.out 0).trans rfl;have bl:w7.cell? ⟨ab,1,none⟩=some (.slice none 0 0):=(zK aa.out 1).trans rfl;have bm:w7.cell? ⟨ab,2,none⟩=some (.slice none 0 0):=(zK aa.out 2).trans rfl;have bn:=zP aa.out 0;have bo:=zP aa.out 1;have bp:=zP aa.out 2;obtain⟨ai,aj,cF⟩:=Kd.QM aH.out;subst cF;obtain⟨ak,al,cG⟩:=Kd.QM aI.out;subst cG)|((with_reducible refine zw (N:=15) rfl ?_);refine Kd.S_lit (Kd.slice 2 (Kd.int .i64)) _ 22 ?hg (N:=15) ?hd (xs:=([]:List (List Int))) (inner := []) (ok:=fun _=>True) (okp:=fun _=>True) ?hr ?hp (fun _ hk=>hk) trivial (ysy _ _) (yry _) (by simp) ?_;(case hd=>rfl);(case hg=>rfl);(case hr=>first|(go_simp;done)|(go_simp;rfl));(case hp=>exact(QN.none _ _));intro de dh a_ hb hg_ hnew_;clear hg_ hnew_;(first|rw[← bN.out]at a_|(simp only [Int.reduceToNat]at a_;rw[← bN.out]at a_));have a5:=zA.mk (Kd.Zt (by(with_reducible repeat(first|apply Kd.zh|apply Kd.zi|apply Kd.zx));exact(Kd.ZC (Kd.QD (p:=⟨ab,2,none⟩) (Kd.QD (p:=⟨ab,1,none⟩) (Kd.QD (p:=⟨ab,0,none⟩) (Kd.Zo aG.out aa.out (by decide)) (fun _ hk=>hk.2) (.slice aQ t102.length aC)) (fun _ hk=>hk.2) (.slice ai t105.length aj)) (fun _ hk=>hk.2) (.slice ak t108.length al)) (fun _ h_=>h_.1))) (Kd.Jx a_) hb);have a6:=zA.mk (Kd.Zt (by(with_reducible repeat(first|apply Kd.zh|apply Kd.zi|apply Kd.zx));exact(Kd.ZC (Kd.QD (p:=⟨ab,2,none⟩) (Kd.QD (p:=⟨ab,1,none⟩) (Kd.QD (p:=⟨ab,0,none⟩) (Kd.Zo aH.out aa.out (by decide)) (fun _ hk=>hk.2) (.slice aQ t102.length aC)) (fun _ hk=>hk.2) (.slice ai t105.length aj)) (fun _ hk=>hk.2) (.slice ak t108.length al)) (fun _ h_=>h_.1))) (Kd.Jx a_) hb);have a7:=zA.mk (Kd.Zt (by(with_reducible repeat(first|apply Kd.zh|apply Kd.zi|apply Kd.zx));exact(Kd.ZC (Kd.QD (p:=⟨ab,2,none⟩) (Kd.QD (p:=⟨ab,1,none⟩) (Kd.QD (p:=⟨ab,0,none⟩) (Kd.Zo aI.out aa.out (by decide)) (fun _ hk=>hk.2) (.slice aQ t102.length aC)) (fun _ hk=>hk.2) (.slice ai t105.length aj)) (fun _ hk=>hk.2) (.slice ak t108.length al)) (fun _ h_=>h_.1))) (Kd.Jx a_) hb);have a8:=zA.mk (Kd.qN (by(with_reducible repeat(first|apply Kd.zS|apply Kd.zT|apply Kd.zZ));exact(Kd.qC (Kd.ZR (p:=⟨ab,2,none⟩) (Kd.ZR (p:=⟨ab,1,none⟩) (Kd.ZR (p:=⟨ab,0,none⟩) (Kd.Za aR.out aa.out (by decide)) (fun _ hk=>hk.2) (.slice aQ t102.length aC)) (fun _ hk=>hk.2) (.slice ai t105.length aj)) (fun _ hk=>hk.2) (.slice ak t108.length al)) (fun _ h_=>h_.1))) hb);have bh:=zA.mk (Kd.QA (Kd.QL (Kd.QL (Kd.QL (Kd.QL a_ (Kd.zEX (by(with_reducible repeat(first|apply Kd.zh|apply Kd.zi|apply Kd.zx));exact(Kd.ZC (Kd.QD (p:=⟨ab,2,none⟩) (Kd.QD (p:=⟨ab,1,none⟩) (Kd.QD (p:=⟨ab,0,none⟩) (Kd.Zo aG.out aa.out (by decide)) (fun _ hk=>hk.2) (.slice aQ t102.length aC)) (fun _ hk=>hk.2) (.slice ai t105.length aj)) (fun _ hk=>hk.2) (.slice ak t108.length al)) (fun _ h_=>h_.1))))) (Kd.zEX (by(with_reducible repeat(first|apply Kd.zh|apply Kd.zi|apply Kd.zx));exact(Kd.ZC (Kd.QD (p:=⟨ab,2,none⟩) (Kd.QD (p:=⟨ab,1,none⟩) (Kd.QD (p:=⟨ab,0,none⟩) (Kd.Zo aH.out aa.out (by decide)) (fun _ hk=>hk.2) (.slice aQ t102.length aC)) (fun _ hk=>hk.2) (.slice ai t105.length aj)) (fun _ hk=>hk.2) (.slice ak t108.length al)) (fun _ h_=>h_.1))))) (Kd.zEX (by(with_reducible repeat(first|apply Kd.zh|apply Kd.zi|apply Kd.zx));exact(Kd.ZC (Kd.QD (p:=⟨ab,2,none⟩) (Kd.QD (p:=⟨ab,1,none⟩) (Kd.QD (p:=⟨ab,0,none⟩) (Kd.Zo aI.out aa.out (by decide)) (fun _ hk=>hk.2) (.slice aQ t102.length aC)) (fun _ hk=>hk.2) (.slice ai t105.length aj)) (fun _ hk=>hk.2) (.slice ak t108.length al)) (fun _ h_=>h_.1))))) (Kd.JO (by(with_reducible repeat(first|apply Kd.zS|apply Kd.zT|apply Kd.zZ));exact(Kd.qC (Kd.ZR (p:=⟨ab,2,none⟩) (Kd.ZR (p:=⟨ab,1,none⟩) (Kd.ZR (p:=⟨ab,0,none⟩) (Kd.Za aR.out aa.out (by decide)) (fun _ hk=>hk.2) (.slice aQ t102.length aC)) (fun _ hk=>hk.2) (.slice ai t105.length aj)) (fun _ hk=>hk.2) (.slice ak t108.length al)) (fun _ h_=>h_.1))))) (zQ (by repeat(first|(with_reducible first|exact HB.out|apply zC|apply zB|apply zD|refine zF ?_ an.out|refine zF ?_ aA.out)|exact HB.out))));have bj:=zA.mk (zO (g:=av) (o := .cells #[.slice aD ay.length aE] 35 (0,0)) (by(with_reducible repeat(first|refine zH ?_ _|refine zJ ?_|refine zG ?_ _));refine qJ ?_ ao.out _;(with_reducible repeat(first|refine zH ?_ _|refine zJ ?_|refine zG ?_ _));refine qJ ?_ ao.out _;(with_reducible repeat(first|refine zH ?_ _|refine zJ ?_|refine zG ?_ _));refine qJ ?_ ao.out _;(with_reducible repeat(first|refine zH ?_ _|refine zJ ?_|refine zG ?_ _));exact ag.out) hb);have bz:=zA.mk (zO (g:=ab) (o := .cells #[.slice aQ t102.length aC,.slice ai t105.length aj,.slice ak t108.length al] 88 (0,0)) (by(with_reducible repeat(first|refine zH ?_ _|refine zJ ?_|refine zG ?_ _));refine qf (cs:=#[.slice aQ t102.length aC,.slice ai t105.length aj,.slice none 0 0]) ?_ 2 _ rfl;(with_reducible repeat(first|refine zH ?_ _|refine zJ ?_|refine zG ?_ _));refine qf (cs:=#[.slice aQ t102.length aC,.slice none 0 0,.slice none 0 0]) ?_ 1 _ rfl;(with_reducible repeat(first|refine zH ?_ _|refine zJ ?_|refine zG ?_ _));refine qf (cs:=#[.slice none 0 0,.slice none 0 0,.slice none 0 0]) ?_ 0 _ rfl;(with_reducible repeat(first|refine zH ?_ _|refine zJ ?_|refine zG ?_ _));exact aa.out) hb);have bA:=zA.mk (zM (by repeat(first|(with_reducible first|exact HB.out|apply zC|apply zB|apply zD|refine zF ?_ an.out|refine zF ?_ aA.out)|exact HB.out)) hb);clear aG;clear aH;clear aI;clear aR;clear ag;clear aa;clear HB;have aG:=a5;have aH:=a6;have aI:=a7;have aR:=a8;have b5:=bh;have ag:=bj;have aa:=bz;have HB:=bA;clear a5 a6 a7 a8 bh bj bz bA;clear hb a_))
 go_loopg [7,8] k (fun kq v7 v8 w' => ∃ (bB:List (List Int)) (ah:Int),v8 = .int .i64 ah∧zA (zt.l0 kq a1 bB ah t102 t105 t108=some r)∧zA (kq≤k)∧zA (Kd.S (Kd.slice 2 (Kd.int .i64)) 22 w' w.heap.size (fun k_=>some k_≠((.slice aQ t102.length aC):Value).ownBlock∧some k_≠((.slice ai t105.length aj):Value).ownBlock∧some k_≠((.slice ak t108.length al):Value).ownBlock) v7 bB)∧zA (Kd.S (Kd.slice 2 (Kd.int .i64)) 22 w' w.heap.size (fun k_=>some k_≠(v7:Value).ownBlock∧some k_≠((.slice ai t105.length aj):Value).ownBlock∧some k_≠((.slice ak t108.length al):Value).ownBlock) (.slice aQ t102.length aC) t102)∧zA (Kd.S (Kd.slice 2 (Kd.int .i64)) 22 w' w.heap.size (fun k_=>some k_≠(v7:Value).ownBlock∧some k_≠((.slice aQ t102.length aC):Value).ownBlock∧some k_≠((.slice ak t108.length al):Value).ownBlock) (.slice ai t105.length aj) t105)∧zA (Kd.S (Kd.slice 2 (Kd.int .i64)) 22 w' w.heap.size (fun k_=>some k_≠(v7:Value).ownBlock∧some k_≠((.slice aQ t102.length aC):Value).ownBlock∧some k_≠((.slice ai t105.length aj):Value).ownBlock) (.slice ak t108.length al) t108)∧zA (w'.heap[av]?=some (.cells #[(.slice aD ay.length aE)] 35 (0,0)))∧zA (w'.heap[ab]?=some (.cells #[(.slice aQ t102.length aC),(.slice ai t105.length aj),(.slice ak t108.length al)] 88 (0,0)))∧zA (Below w.heap.size w w'))
 case atStart=>exact⟨(b1),(0),(by first|rfl|(simp;done)|(simp [*];done)),H',⟨yry _⟩,⟨by(with_reducible repeat(first|apply Kd.zh|apply Kd.zi|apply Kd.zx));exact Kd.ZC b5.out (fun _ hk=>⟨hk.1.1.1.2,⟨hk.1.1.2,hk.1.2⟩⟩)⟩,⟨by(with_reducible repeat(first|apply Kd.zh|apply Kd.zi|apply Kd.zx));exact Kd.ZC aG.out (fun _ hk=>⟨hk.2,⟨hk.1.1,hk.1.2.1⟩⟩)⟩,⟨by(with_reducible repeat(first|apply Kd.zh|apply Kd.zi|apply Kd.zx));exact Kd.ZC aH.out (fun _ hk=>⟨hk.2,⟨hk.1.1,hk.1.2.1⟩⟩)⟩,⟨by(with_reducible repeat(first|apply Kd.zh|apply Kd.zi|apply Kd.zx));exact Kd.ZC aI.out (fun _ hk=>⟨hk.2,⟨hk.1.1,hk.1.2.1⟩⟩)⟩,⟨by(with_reducible repeat(first|refine zH ?_ _|refine zJ ?_|refine zG ?_ _));exact ag.out⟩,⟨by(with_reducible repeat(first|refine zH ?_ _|refine zJ ?_|refine zG ?_ _));exact aa.out⟩,⟨by repeat(first|(with_reducible first|exact HB.out|apply zC|apply zB|apply zD|refine zF ?_ an.out|refine zF ?_ aA.out)|exact HB.out)⟩⟩
 case round=>
  clear H';(try clear p2);(try clear c4);(try clear c8);(try clear c9);(try clear bk);(try clear bl);(try clear bm);(try clear bw);(try clear bn);(try clear bo);(try clear bp);(try clear bx);obtain⟨bB,ah,rfl,HA,bW,aJ,ad,ae,af,ag,aa,HB⟩:=hrel
  cases gk with
  | zero=>exact absurd HA.out (by simp [zt.l0])
  | succ k1=>
   have H:=HA.out
   clear HA;simp only [zt.l0]at H
   by_cases bQ:ah<(t102.length:Int)
   case neg=>
    rw[if_neg bQ]at H
    have bO:decide (ah<(t102.length:Int))=false:=yhy bQ
    clear bQ;obtain rfl:=yey H
    have cQ:=ax.out
    have cR:=ao.out
    have cf:wr.cell? ⟨ab,0,none⟩=some (.slice aQ t102.length aC):=(zK aa.out 0).trans rfl
    have cg:wr.cell? ⟨ab,1,none⟩=some (.slice ai t105.length aj):=(zK aa.out 1).trans rfl
    have ch:wr.cell? ⟨ab,2,none⟩=some (.slice ak t108.length al):=(zK aa.out 2).trans rfl
    have cj:=zP aa.out 0
    have ck:=zP aa.out 1
    have cl:=zP aa.out 2
    go_wp2;go_ret;exact⟨_,by first|rfl|(simp [zU,zV] <;> rfl)|(simp [*,zU,zV] <;> rfl),by(with_reducible repeat(first|apply Kd.zh|apply Kd.zi|apply Kd.zx));exact Kd.ZC aJ.out (fun _ hk=>trivial),by repeat(first|(with_reducible first|exact HB.out|apply zC|apply zB|apply zD|refine zF ?_ an.out|refine zF ?_ aA.out)|exact HB.out)⟩
   rw[if_pos bQ]at H
   have bO:decide (ah<(t102.length:Int))=true:=ygy bQ
   clear bQ;have H':=zA.mk H
   clear H;have cS:=ax.out
   have cT:=ao.out
   have bC:wr.cell? ⟨ab,0,none⟩=some (.slice aQ t102.length aC):=(zK aa.out 0).trans rfl
   have bD:wr.cell? ⟨ab,1,none⟩=some (.slice ai t105.length aj):=(zK aa.out 1).trans rfl
   have bE:wr.cell? ⟨ab,2,none⟩=some (.slice ak t108.length al):=(zK aa.out 2).trans rfl
   have bF:=zP aa.out 0
   have bG:=zP aa.out 1
   have bH:=zP aa.out 2
   go_wp2;go_loopg [7,9] k1 (fun kq v7 v9 w' => ∃ (aU:List (List Int)) (aq:Int),v9 = .int .i64 aq∧zA (zt.l1 kq a1 aU ah aq t102 t105 t108=some r)∧zA (kq≤k1)∧zA (Kd.S (Kd.slice 2 (Kd.int .i64)) 22 w' w.heap.size (fun k_=>some k_≠((.slice aQ t102.length aC):Value).ownBlock∧some k_≠((.slice ai t105.length aj):Value).ownBlock∧some k_≠((.slice ak t108.length al):Value).ownBlock) v7 aU)∧zA (Kd.S (Kd.slice 2 (Kd.int .i64)) 22 w' w.heap.size (fun k_=>some k_≠(v7:Value).ownBlock∧some k_≠((.slice ai t105.length aj):Value).ownBlock∧some k_≠((.slice ak t108.length al):Value).ownBlock) (.slice aQ t102.length aC) t102)∧zA (Kd.S (Kd.slice 2 (Kd.int .i64)) 22 w' w.heap.size (fun k_=>some k_≠(v7:Value).ownBlock∧some k_≠((.slice aQ t102.length aC):Value).ownBlock∧some k_≠((.slice ak t108.length al):Value).ownBlock) (.slice ai t105.length aj) t105)∧zA (Kd.S (Kd.slice 2 (Kd.int .i64)) 22 w' w.heap.size (fun k_=>some k_≠(v7:Value).ownBlock∧some k_≠((.slice aQ t102.length aC):Value).ownBlock∧some k_≠((.slice ai t105.length aj):Value).ownBlock) (.slice ak t108.length al) t108)∧zA (w'.heap[av]?=some (.cells #[(.slice aD ay.length aE)] 35 (0,0)))∧zA (w'.heap[ab]?=some (.cells #[(.slice aQ t102.length aC),(.slice ai t105.length aj),(.slice ak t108.length al)] 88 (0,0)))∧zA (Below w.heap.size w w'))
   case atStart=>exact⟨(bB),(0),(by first|rfl|(simp;done)|(simp [*];done)),H',⟨yry _⟩,⟨by(with_reducible repeat(first|apply Kd.zh|apply Kd.zi|apply Kd.zx));exact aJ.out⟩,⟨by(with_reducible repeat(first|apply Kd.zh|apply Kd.zi|apply Kd.zx));exact ad.out⟩,⟨by(with_reducible repeat(first|apply Kd.zh|apply Kd.zi|apply Kd.zx));exact ae.out⟩,⟨by(with_reducible repeat(first|apply Kd.zh|apply Kd.zi|apply Kd.zx));exact af.out⟩,⟨by(with_reducible repeat(first|refine zH ?_ _|refine zJ ?_|refine zG ?_ _));exact ag.out⟩,⟨by(with_reducible repeat(first|refine zH ?_ _|refine zJ ?_|refine zG ?_ _));exact aa.out⟩,⟨by repeat(first|(with_reducible first|exact HB.out|apply zC|apply zB|apply zD|refine zF ?_ an.out|refine zF ?_ aA.out)|exact HB.out)⟩⟩
   case round=>
    clear H';(try clear c1);(try clear p2);(try clear c4);(try clear c8);(try clear c9);(try clear bQ);(try clear bO);(try clear c16);(try clear bk);(try clear bl);(try clear bm);(try clear bC);(try clear bD);(try clear bE);(try clear bw);(try clear bn);(try clear bo);(try clear bp);(try clear bF);(try clear bG);(try clear bH);(try clear bx);(try clear p2);obtain⟨aU,aq,rfl,HA,bX,aJ,ad,ae,af,ag,aa,HB⟩:=hrel
    cases gk with
    | zero=>exact absurd HA.out (by simp [zt.l1])
    | succ k2=>
     have H:=HA.out
     clear HA;simp only [zt.l1]at H
     by_cases bY:aq<4
     case neg=>
      rw[if_neg bY]at H
      have b6:decide (aq<4)=false:=yhy bY
      clear bY;have H':=zA.mk H
      clear H;go_wp2;go_roundg k2
      case measure=>have:=bW.out;have:=bX.out;omega
      case rel=>exact⟨(aU),(wrap64 (ah+1)),(by first|rfl|(simp;done)|(simp [*];done)),H',⟨by have:=bW.out;have:=bX.out;omega⟩,⟨by(with_reducible repeat(first|apply Kd.zh|apply Kd.zi|apply Kd.zx));exact aJ.out⟩,⟨by(with_reducible repeat(first|apply Kd.zh|apply Kd.zi|apply Kd.zx));exact ad.out⟩,⟨by(with_reducible repeat(first|apply Kd.zh|apply Kd.zi|apply Kd.zx));exact ae.out⟩,⟨by(with_reducible repeat(first|apply Kd.zh|apply Kd.zi|apply Kd.zx));exact af.out⟩,⟨by(with_reducible repeat(first|refine zH ?_ _|refine zJ ?_|refine zG ?_ _));exact ag.out⟩,⟨by(with_reducible repeat(first|refine zH ?_ _|refine zJ ?_|refine zG ?_ _));exact aa.out⟩,⟨by repeat(first|(with_reducible first|exact HB.out|apply zC|apply zB|apply zD|refine zF ?_ an.out|refine zF ?_ aA.out)|exact HB.out)⟩⟩
     rw[if_pos bY]at H
     have b6:decide (aq<4)=true:=ygy bY
     clear bY;by_cases cm:0≤ah
     case neg=>
      rw[if_neg cm]at H
      exact absurd H (by simp)
     rw[if_pos cm]at H
     have cU:decide (0≤ah)=true:=ygy cm
     clear cm;by_cases cn:ah<(t102.length:Int)
     case neg=>
      rw[if_neg cn]at H
      exact absurd H (by simp)
     rw[if_pos cn]at H
     have cV:decide (ah<(t102.length:Int))=true:=ygy cn
     clear cn;by_cases cp:0≤aq
     case neg=>
      rw[if_neg cp]at H
      exact absurd H (by simp)
     rw[if_pos cp]at H
     have cW:decide (0≤aq)=true:=ygy cp
     clear cp;by_cases cq:aq<((qQ t102 ah).length:Int)
     case neg=>
      rw[if_neg cq]at H
      exact absurd H (by simp)
     rw[if_pos cq]at H
     have cX:decide (aq<((qQ t102 ah).length:Int))=true:=ygy cq
     clear cq;by_cases bR:(rd (qQ t102 ah) aq)=a1
     case neg=>
      rw[if_neg bR]at H
      have b7:((rd (qQ t102 ah) aq)==a1)=false:=beq_eq_false_iff_ne.mpr bR
      have b8:((rd (qQ t102 ah) aq) != a1)=true:=bne_iff_ne.mpr bR
      have H':=zA.mk H
      clear H;have cY:=ax.out
      have cZ:=ao.out
      have cr:wr.cell? ⟨ab,0,none⟩=some (.slice aQ t102.length aC):=(zK aa.out 0).trans rfl
      have ct:wr.cell? ⟨ab,1,none⟩=some (.slice ai t105.length aj):=(zK aa.out 1).trans rfl
      have cu:wr.cell? ⟨ab,2,none⟩=some (.slice ak t108.length al):=(zK aa.out 2).trans rfl
      have cv:=zP aa.out 0
      have cw:=zP aa.out 1
      have cx:=zP aa.out 2
      have aW:0≤(ah:Int):=of_decide_eq_true (by first|(with_reducible assumption)|assumption)
      have aX:ah<(t102.length:Int):=of_decide_eq_true (by first|(with_reducible assumption)|assumption)
      obtain⟨aK,bS,bT,bU,aY,aM,aN⟩:=zAw (Kd.ZF ad.out).2.2 ah aW aX
      cases bU
      obtain⟨b9,bc,bd,aT⟩:=Kd.S_get ad.out [] ah aW (by first|exact aX|exact of_decide_eq_true (by first|(with_reducible assumption)|assumption)|(have e_:=(Kd.ZF ad.out).1;omega))
      obtain⟨bI,rfl,az⟩:=bd
      have ar:=aT 0 _ rfl
      rw[Nat.add_zero,show((Kd.slice 2 (Kd.int .i64))).sz=1 from rfl,Nat.mul_one]at ar
      replace ar:=yey (ar.symm.trans aY)
      rw[ar]at az
      have aw:=zA.mk (show Kd.R (Kd.int .i64) 2 _ _ _ _ (qQ t102 ah)from az)
      clear ar az;clear aT bc;have au:=zA.mk aN
      have bJ:=zA.mk aM
      clear aN aM;replace aW:=eq_true aW
      replace aX:=eq_true aX
      have bf:0≤(aq:Int):=of_decide_eq_true (by first|(with_reducible assumption)|assumption)
      have bg:aq<((qQ t102 ah).length:Int):=of_decide_eq_true (by first|(with_reducible assumption)|assumption)
      obtain⟨b_,bV,bK⟩:=Kd.qw (by repeat(first|(with_reducible exact au.out)|(with_reducible refine Kd.zy ?_ _)|(with_reducible refine Kd.qA ?_ _)|(with_reducible refine Kd.qR ?_)|exact au.out)) aq bf bg
      cases bV
      replace bf:=eq_true bf
      replace bg:=eq_true bg
      go_wp2;go_roundg k2
      case measure=>have:=bW.out;have:=bX.out;omega
      case rel=>exact⟨(aU),(wrap64 (aq+1)),(by first|rfl|(simp;done)|(simp [*];done)),H',⟨by have:=bW.out;have:=bX.out;omega⟩,⟨by(with_reducible repeat(first|apply Kd.zh|apply Kd.zi|apply Kd.zx));exact aJ.out⟩,⟨by(with_reducible repeat(first|apply Kd.zh|apply Kd.zi|apply Kd.zx));exact ad.out⟩,⟨by(with_reducible repeat(first|apply Kd.zh|apply Kd.zi|apply Kd.zx));exact ae.out⟩,⟨by(with_reducible repeat(first|apply Kd.zh|apply Kd.zi|apply Kd.zx));exact af.out⟩,⟨by(with_reducible repeat(first|refine zH ?_ _|refine zJ ?_|refine zG ?_ _));exact ag.out⟩,⟨by(with_reducible repeat(first|refine zH ?_ _|refine zJ ?_|refine zG ?_ _));exact aa.out⟩,⟨by repeat(first|(with_reducible first|exact HB.out|apply zC|apply zB|apply zD|refine zF ?_ an.out|refine zF ?_ aA.out)|exact HB.out)⟩⟩
     rw[if_pos bR]at H
     have b7:((rd (qQ t102 ah) aq)==a1)=true:=beq_iff_eq.mpr bR
     have b8:((rd (qQ t102 ah) aq) != a1)=false:=bne_eq_false_iff_eq.mpr bR
     clear bR;obtain⟨aZ,ba⟩ : ∃ y_:List Int,y_=(([ah,aq]:List Int)):=⟨_,rfl⟩
     replace H:(if aU.length<5864062014805 then(zt.l1 k2 a1 (aU ++ [aZ]) ah (wrap64 (aq+1)) t102 t105 t108)else(none))=some r:=by first|(rw[ba];with_reducible exact H)|(have bu:=(yfy _ _).symm.trans H;rw[ba];with_reducible exact bu)|(have bu:=(yfy _ _).symm.trans H;with_reducible exact bu)|with_reducible exact H|(rw[ba];exact H)|exact H
     have bP:=zA.mk ba
     clear ba;by_cases cy:aU.length<5864062014805
     case neg=>
      rw[if_neg cy]at H
      exact absurd H (by simp)
     rw[if_pos cy]at H
     have ca:=zA.mk cy
     clear cy;obtain⟨cb,bb⟩ : ∃ y_:List (List Int),y_=(aU ++ [aZ]):=⟨_,rfl⟩
     replace H:(zt.l1 k2 a1 cb ah (wrap64 (aq+1)) t102 t105 t108)=some r:=by first|(rw[bb];with_reducible exact H)|(have bu:=(yfy _ _).symm.trans H;rw[bb];with_reducible exact bu)|(have bu:=(yfy _ _).symm.trans H;with_reducible exact bu)|with_reducible exact H|(rw[bb];exact H)|exact H
     have cc:=zA.mk bb
     clear bb;have H':=zA.mk H
     clear H;have c0:=ax.out
     have c2:=ao.out
     have cz:wr.cell? ⟨ab,0,none⟩=some (.slice aQ t102.length aC):=(zK aa.out 0).trans rfl
     have cA:wr.cell? ⟨ab,1,none⟩=some (.slice ai t105.length aj):=(zK aa.out 1).trans rfl
     have cB:wr.cell? ⟨ab,2,none⟩=some (.slice ak t108.length al):=(zK aa.out 2).trans rfl
     have cC:=zP aa.out 0
     have cD:=zP aa.out 1
     have cE:=zP aa.out 2
     have aW:0≤(ah:Int):=of_decide_eq_true (by first|(with_reducible assumption)|assumption)
     have aX:ah<(t102.length:Int):=of_decide_eq_true (by first|(with_reducible assumption)|assumption)
     obtain⟨aK,bS,bT,bU,aY,aM,aN⟩:=zAw (Kd.ZF ad.out).2.2 ah aW aX
     cases bU
     obtain⟨b9,bc,bd,aT⟩:=Kd.S_get ad.out [] ah aW (by first|exact aX|exact of_decide_eq_true (by first|(with_reducible assumption)|assumption)|(have e_:=(Kd.ZF ad.out).1;omega))
     obtain⟨bI,rfl,az⟩:=bd
     have ar:=aT 0 _ rfl
     rw[Nat.add_zero,show((Kd.slice 2 (Kd.int .i64))).sz=1 from rfl,Nat.mul_one]at ar
     replace ar:=yey (ar.symm.trans aY)
     rw[ar]at az
     have aw:=zA.mk (show Kd.R (Kd.int .i64) 2 _ _ _ _ (qQ t102 ah)from az)
     clear ar az;clear aT bc;have au:=zA.mk aN
     have bJ:=zA.mk aM
     clear aN aM;replace aW:=eq_true aW
     replace aX:=eq_true aX
     have bf:0≤(aq:Int):=of_decide_eq_true (by first|(with_reducible assumption)|assumption)
     have bg:aq<((qQ t102 ah).length:Int):=of_decide_eq_true (by first|(with_reducible assumption)|assumption)
     obtain⟨b_,bV,bK⟩:=Kd.qw (by repeat(first|(with_reducible exact au.out)|(with_reducible refine Kd.zy ?_ _)|(with_reducible refine Kd.qA ?_ _)|(with_reducible refine Kd.qR ?_)|exact au.out)) aq bf bg
     cases bV
     replace bf:=eq_true bf
     replace bg:=eq_true bg
     go_wp2_with (first|((with_reducible refine zw (N:=40) rfl ?_);refine Kd.zBO (Kd.int .i64) _ 2 ?hg (N:=40) ?hd (xs:=([ah,aq]:List Int)) (inner := [.int .i64 ah,.int .i64 aq]) (ok:=fun _=>True) (okp:=fun _=>True) ?hr ?hp (fun _ hk=>hk) trivial (ysy _ _) (yry _) (by simp) ?_;(case hd=>rfl);(case hg=>rfl);(case hr=>first|(go_simp;done)|(go_simp;rfl));(case hp=>exact(QN.one (show Kd.M (Kd.int .i64) _ _ _ ah [.int .i64 ah]from rfl) (QN.one (show Kd.M (Kd.int .i64) _ _ _ aq [.int .i64 aq]from rfl) (QN.none _ _))));intro df di aV hb hg_ hnew_;clear hg_ hnew_;(first|rw[← bP.out]at aV|(simp only [Int.reduceToNat]at aV;rw[← bP.out]at aV));have a5:=zA.mk (Kd.Zt (by(with_reducible repeat(first|apply Kd.zh|apply Kd.zi|apply Kd.zx));exact aJ.out) (Kd.Zw aV) hb);have a6:=zA.mk (Kd.Zt (by(with_reducible repeat(first|apply Kd.zh|apply Kd.zi|apply Kd.zx));exact ad.out) (Kd.Zw aV) hb);have a7:=zA.mk (Kd.Zt (by(with_reducible repeat(first|apply Kd.zh|apply Kd.zi|apply Kd.zx));exact ae.out) (Kd.Zw aV) hb);have a8:=zA.mk (Kd.Zt (by(with_reducible repeat(first|apply Kd.zh|apply Kd.zi|apply Kd.zx));exact af.out) (Kd.Zw aV) hb);have bh:=zA.mk (Kd.Zs (by(with_reducible repeat(first|apply Kd.zS|apply Kd.zT|apply Kd.zZ));exact aw.out) (Kd.Zw aV) hb);have bj:=zA.mk (Kd.qx (Kd.JP aV (Kd.JO (by(with_reducible repeat(first|apply Kd.zS|apply Kd.zT|apply Kd.zZ));exact aw.out))) (zQ (by repeat(first|(with_reducible first|exact HB.out|apply zC|apply zB|apply zD|refine zF ?_ an.out|refine zF ?_ aA.out)|exact HB.out))));have bz:=zA.mk (zO (g:=av) (o := .cells #[.slice aD ay.length aE] 35 (0,0)) (by(with_reducible repeat(first|refine zH ?_ _|refine zJ ?_|refine zG ?_ _));exact ag.out) hb);have bA:=zA.mk (zO (g:=ab) (o := .cells #[.slice (some aK) t102.length aC,.slice ai t105.length aj,.slice ak t108.length al] 88 (0,0)) (by(with_reducible repeat(first|refine zH ?_ _|refine zJ ?_|refine zG ?_ _));exact aa.out) hb);have b2:=zA.mk (Kd.qD (by repeat(first|(with_reducible exact au.out)|(with_reducible refine Kd.zy ?_ _)|(with_reducible refine Kd.qA ?_ _)|(with_reducible refine Kd.qR ?_)|exact au.out)) hb);have b3:=zA.mk (zM (by repeat(first|(with_reducible first|exact HB.out|apply zC|apply zB|apply zD|refine zF ?_ an.out|refine zF ?_ aA.out)|exact HB.out)) hb);clear aJ;clear ad;clear ae;clear af;clear aw;clear ag;clear aa;clear au;clear HB;have aJ:=a5;have ad:=a6;have ae:=a7;have af:=a8;have aw:=bh;have bq:=bj;have ag:=bz;have aa:=bA;have au:=b2;have HB:=b3;clear a5 a6 a7 a8 bh bj bz bA b2 b3;clear hb aV;obtain⟨br,bs,cH⟩:=Kd.ZE bq.out;subst cH)|((with_reducible refine ZN (b := .append) (xs:=#[.tmp 37,.tmp 41]) rfl ?_);at_builtin;refine Kd.zDB (Kd.slice 2 (Kd.int .i64)) (w0:=w) w.heap.size rfl (.tmp 37) (.tmp 41) 30 22 (.slice none 0 0) 24 rfl Try.underlying30 zFC rfl (by decide) (by omega) u7 aU aZ [.slice br aZ.length bs] (fun k_=>some k_≠(.slice (some aK) t102.length aC:Value).ownBlock∧some k_≠(.slice ai t105.length aj:Value).ownBlock∧some k_≠(.slice ak t108.length al:Value).ownBlock) (fun k_=>some k_=(.slice br aZ.length bs:Value).ownBlock) rfl rfl ?aP (fun k_ hk_=>((Kd.qC (ok':=fun k_=>((fun k_=>some k_≠(.slice (some aK) t102.length aC:Value).ownBlock∧some k_≠(.slice ai t105.length aj:Value).ownBlock∧some k_≠(.slice ak t108.length al:Value).ownBlock)) k_∧some k_≠(u7:Value).ownBlock) (Kd.QY (Kd.QY (Kd.QY (Kd.QY (bq.out) (Kd.Qj ad.out) (by decide)) (Kd.Qj ae.out) (by decide)) (Kd.Qj af.out) (by decide)) (Kd.Qj aJ.out) (by decide)) (fun k_ hk=>⟨⟨hk.1.1.1.2,⟨hk.1.1.2,hk.1.2⟩⟩,hk.2⟩))).1 k_ hk_.symm) ?aF ?aO ?aB ?aS ?aL ?_;(case aP=>exact Kd.zHT (Kd.qC (Kd.Qu rfl (Kd.qC (ok':=fun k_=>((fun k_=>some k_≠(.slice (some aK) t102.length aC:Value).ownBlock∧some k_≠(.slice ai t105.length aj:Value).ownBlock∧some k_≠(.slice ak t108.length al:Value).ownBlock)) k_∧some k_≠(u7:Value).ownBlock) (Kd.QY (Kd.QY (Kd.QY (Kd.QY (bq.out) (Kd.Qj ad.out) (by decide)) (Kd.Qj ae.out) (by decide)) (Kd.Qj af.out) (by decide)) (Kd.Qj aJ.out) (by decide)) (fun k_ hk=>⟨⟨hk.1.1.1.2,⟨hk.1.1.2,hk.1.2⟩⟩,hk.2⟩))) (fun _ h_=>h_)));(case aB=>exact(by repeat(first|(with_reducible first|exact HB.out|apply zC|apply zB|apply zD|refine zF ?_ an.out|refine zF ?_ aA.out)|exact HB.out)));(case aF=>exact(fun k_ hk=>⟨Kd.JQ (Kd.zEX (by(with_reducible repeat(first|apply Kd.zh|apply Kd.zi|apply Kd.zx));exact ad.out)) k_ hk,Kd.JQ (Kd.zEX (by(with_reducible repeat(first|apply Kd.zh|apply Kd.zi|apply Kd.zx));exact ae.out)) k_ hk,Kd.JQ (Kd.zEX (by(with_reducible repeat(first|apply Kd.zh|apply Kd.zi|apply Kd.zx));exact af.out)) k_ hk⟩));(case aO=>exact(by(with_reducible repeat(first|apply Kd.zh|apply Kd.zi|apply Kd.zx));exact Kd.ZC aJ.out (fun k_ hk=>⟨⟨hk.1.1,⟨hk.1.2.1,hk.1.2.2⟩⟩,fun e_=>hk.2 e_⟩)));(case aS=>exact(zQ (by repeat(first|(with_reducible first|exact HB.out|apply zC|apply zB|apply zD|refine zF ?_ an.out|refine zF ?_ aA.out)|exact HB.out))));(case aL=>have:=ca.out;omega);intro dg dj ho hb hg hat;rw[← cc.out]at ho;have a5:=zA.mk (Kd.JY (ok:=(fun k_=>some k_≠(.slice ai t105.length aj:Value).ownBlock∧some k_≠(.slice ak t108.length al:Value).ownBlock∧some k_≠(.slice br aZ.length bs:Value).ownBlock)) (by(with_reducible repeat(first|apply Kd.zh|apply Kd.zi|apply Kd.zx));exact Kd.ZC ad.out (fun _ hk=>⟨⟨hk.1.2.1,⟨hk.1.2.2,hk.2⟩⟩,hk.1.1⟩)) hg hat);have a6:=zA.mk (Kd.JY (ok:=(fun k_=>some k_≠(.slice (some aK) t102.length aC:Value).ownBlock∧some k_≠(.slice ak t108.length al:Value).ownBlock∧some k_≠(.slice br aZ.length bs:Value).ownBlock)) (by(with_reducible repeat(first|apply Kd.zh|apply Kd.zi|apply Kd.zx));exact Kd.ZC ae.out (fun _ hk=>⟨⟨hk.1.2.1,⟨hk.1.2.2,hk.2⟩⟩,hk.1.1⟩)) hg hat);have a7:=zA.mk (Kd.JY (ok:=(fun k_=>some k_≠(.slice (some aK) t102.length aC:Value).ownBlock∧some k_≠(.slice ai t105.length aj:Value).ownBlock∧some k_≠(.slice br aZ.length bs:Value).ownBlock)) (by(with_reducible repeat(first|apply Kd.zh|apply Kd.zi|apply Kd.zx));exact Kd.ZC af.out (fun _ hk=>⟨⟨hk.1.2.1,⟨hk.1.2.2,hk.2⟩⟩,hk.1.1⟩)) hg hat);have a8:=zA.mk (qj (g:=av) (o := .cells #[.slice aD ay.length aE] 35 (0,0)) (by(with_reducible repeat(first|refine zH ?_ _|refine zJ ?_|refine zG ?_ _));exact ag.out) hg (Kd.S_ne aJ.out ag.out (by decide)));have bh:=zA.mk (qj (g:=ab) (o := .cells #[.slice (some aK) t102.length aC,.slice ai t105.length aj,.slice ak t108.length al] 88 (0,0)) (by(with_reducible repeat(first|refine zH ?_ _|refine zJ ?_|refine zG ?_ _));exact aa.out) hg (Kd.S_ne aJ.out aa.out (by decide)));have bj:=zA.mk (Kd.ZK (ok:=(fun k_=>some k_≠(.slice (some aK) t102.length aC:Value).ownBlock∧some k_≠(.slice ai t105.length aj:Value).ownBlock∧some k_≠(.slice ak t108.length al:Value).ownBlock∧some k_≠(.slice br aZ.length bs:Value).ownBlock)) (by(with_reducible repeat(first|apply Kd.zS|apply Kd.zT|apply Kd.zZ));exact Kd.qC aw.out (fun _ hk=>⟨⟨hk.1.2,⟨hk.1.1.2.1,⟨hk.1.1.2.2,hk.2⟩⟩⟩,hk.1.1.1⟩)) hg hat);have bz:=zA.mk (hb);have bA:=zA.mk (ho);clear ad;clear ae;clear af;clear ag;clear aa;clear aw;clear HB;clear aJ;clear bq;have ad:=a5;have ae:=a6;have af:=a7;have ag:=a8;have aa:=bh;have aw:=bj;have HB:=bz;have cd:=bA;clear a5 a6 a7 a8 bh bj bz bA;clear ho hb hg hat))
     go_roundg k2
     case measure=>have:=bW.out;have:=bX.out;omega
     case rel=>exact⟨(cb),(wrap64 (aq+1)),(by first|rfl|(simp;done)|(simp [*];done)),H',⟨by have:=bW.out;have:=bX.out;omega⟩,⟨by(with_reducible repeat(first|apply Kd.zh|apply Kd.zi|apply Kd.zx));exact cd.out⟩,⟨by(with_reducible repeat(first|apply Kd.zh|apply Kd.zi|apply Kd.zx));exact Kd.ZC ad.out (fun _ hk=>⟨hk.2,⟨hk.1.1,hk.1.2.1⟩⟩)⟩,⟨by(with_reducible repeat(first|apply Kd.zh|apply Kd.zi|apply Kd.zx));exact Kd.ZC ae.out (fun _ hk=>⟨hk.2,⟨hk.1.1,hk.1.2.1⟩⟩)⟩,⟨by(with_reducible repeat(first|apply Kd.zh|apply Kd.zi|apply Kd.zx));exact Kd.ZC af.out (fun _ hk=>⟨hk.2,⟨hk.1.1,hk.1.2.1⟩⟩)⟩,⟨by(with_reducible repeat(first|refine zH ?_ _|refine zJ ?_|refine zG ?_ _));exact ag.out⟩,⟨by(with_reducible repeat(first|refine zH ?_ _|refine zJ ?_|refine zG ?_ _));exact aa.out⟩,⟨by repeat(first|(with_reducible first|exact HB.out|apply zC|apply zB|apply zD|refine zF ?_ an.out|refine zF ?_ aA.out)|exact HB.out)⟩⟩
def Zu.f (k:Nat) (l0_0:List (List (zv))) (a1:Int):Option ((List (List Int)) × Int):=(zN.f k l0_0).bind fun t102=>(if t102=true then((zt.f k l0_0 a1).bind fun t103=>(if(t103.length:Int)=0 then(some (([]:List (List Int)),2))else(some (t103,0))))else(some (([]:List (List Int)),1)))
set_option maxHeartbeats 8000000 in
set_option maxRecDepth 100000 in
theorem Zu.calls (k:Nat) (ae:Option Addr) (af:Nat) (ab:List (List (zv))) (a1:Int) (r1:List (List Int)) (r2:Int) (w:World) (ao:Kd.C (Kd.slice 75 ZZ) w ae ab.length ab) (aq:ab.length≤af) (h:Zu.f k ab a1=some (r1,r2)) :
    Calls Try.prog 17 #[.agg #[.slice ae ab.length af],.int .i64 a1] w fun e w' => ∃ aL:Value,e = .returned (.tuple #[aL,.int .i64 r2])∧Kd.S (Kd.slice 2 (Kd.int .i64)) 22 w' w.heap.size (fun _=>True) aL r1∧Below w.heap.size w w':=by
  have aO:=Try.underlying35
  have aj:=zA.mk ao
  have ak:=zA.mk aq
  clear ao aq;have HB:=zA.mk (ysy w.heap.size w)
  have H:((zN.f k ab).bind fun t102=>(if t102=true then((zt.f k ab a1).bind fun t103=>(if(t103.length:Int)=0 then(some (([]:List (List Int)),2))else(some (t103,0))))else(some (([]:List (List Int)),1))))=some (r1,r2):=h
  clear h;replace H:=ydy.mp H
  obtain⟨t102,aM,H⟩:=H
  replace H:(if t102=true then((zt.f k ab a1).bind fun t103=>(if(t103.length:Int)=0 then(some (([]:List (List Int)),2))else(some (t103,0))))else(some (([]:List (List Int)),1)))=some (r1,r2):=H
  have A3:=zA.mk aM
  clear aM;by_cases c4:t102=true
  · subst c4
    rw[if_pos rfl]at H
    replace H:=ydy.mp H
    obtain⟨t103,aN,H⟩:=H
    replace H:(if(t103.length:Int)=0 then(some (([]:List (List Int)),2))else(some (t103,0)))=some (r1,r2):=H
    have A5:=zA.mk aN
    clear aN;by_cases c6:(t103.length:Int)=0
    · rw[if_pos c6]at H
      have aE:((t103.length:Int)==0)=true:=beq_iff_eq.mpr c6
      have aF:((t103.length:Int) != 0)=false:=bne_eq_false_iff_eq.mpr c6
      clear c6;simp only [Option.some.injEq,Prod.mk.injEq]at H
      obtain⟨rfl,rfl⟩:=H
      go_enter Try.func17,Try.ntmps17
      go_wp2_with (first|((with_reducible refine zw (N:=2) rfl ?_);refine zz ?hg (N:=2) ?hd (cs:=#[.slice ae ab.length af]) (t:=35) ?hr ?_;(case hd=>rfl);(case hg=>rfl);(case hr=>first|(go_simp;done)|(go_simp;rfl));intro ad hg w7 hbox hb;have ah:=zA.mk (zM (by repeat(first|(with_reducible first|exact HB.out|apply zC|apply zB|apply zD)|exact HB.out)) hb);have ai:=zA.mk (hbox);have al:=zA.mk ((by rw[hg];exact(zQ (by repeat(first|(with_reducible first|exact HB.out|apply zC|apply zB|apply zD)|exact HB.out))):w.heap.size≤ad));have ar:=zA.mk ((by rw[hg];exact(zQ (by repeat(first|(with_reducible first|exact HB.out|apply zC|apply zB|apply zD)|exact HB.out))):w.heap.size≤ad));clear HB;have HB:=ah;have aa:=ai;have au:=al;have ag:=ar;clear ah ai al ar;clear hb hbox hg;have aG:w7.cell? ⟨ad,0,none⟩=some (.slice ae ab.length af):=(zK aa.out 0).trans rfl;have aH:=zP aa.out 0)|((with_reducible refine zd (f:=47) rfl ?_);refine qV (some 8) rfl rfl Try.func47 (by kernel_rfl) rfl #[.agg #[.slice ae ab.length af]] rfl (by(try simp only [yiy,yjy,yky]);first|done|rfl|(simp only [yly,ymy];rfl)) ?_;(with_reducible refine(zN.calls k _ _ ab true _ ?side1 ?side2 A3.out).mono ?_);(case side1=>repeat(first|exact(Kd.qD aj.out HB.out)|(with_reducible refine Kd.zy ?_ _)|(with_reducible refine Kd.qA ?_ _)|(with_reducible refine Kd.qR ?_)));(case side2=>exact ak.out);rintro e w9 ⟨rfl,hb⟩;refine⟨_,rfl,?_⟩;have ah:=zA.mk (zO (g:=ad) (o := .cells #[.slice ae ab.length af] 35 (0,0)) (by(with_reducible repeat(first|refine zH ?_ _|refine zJ ?_|refine zG ?_ _));exact aa.out) hb);have ai:=zA.mk (zM (by repeat(first|(with_reducible first|exact HB.out|apply zC|apply zB|apply zD|refine zF ?_ ag.out)|exact HB.out)) hb);clear aa;clear HB;have aa:=ah;have HB:=ai;clear ah ai;(try clear hb);(try clear hb2);(try clear hk);(try clear hi);have aw:w9.cell? ⟨ad,0,none⟩=some (.slice ae ab.length af):=(zK aa.out 0).trans rfl;have ax:=zP aa.out 0)|((with_reducible refine zd (f:=48) rfl ?_);refine qV (some 12) rfl rfl Try.func48 (by kernel_rfl) rfl #[.agg #[.slice ae ab.length af],.int .i64 a1] rfl (by(try simp only [yiy,yjy,yky]);first|done|rfl|(simp only [yly,ymy];rfl)) ?_;(with_reducible refine(zt.calls k _ _ ab a1 t103 _ ?side1 ?side2 A5.out).mono ?_);(case side1=>repeat(first|exact(Kd.qD aj.out HB.out)|(with_reducible refine Kd.zy ?_ _)|(with_reducible refine Kd.qA ?_ _)|(with_reducible refine Kd.qR ?_)));(case side2=>exact ak.out);rintro e aX ⟨aI,rfl,av,hb⟩;refine⟨_,rfl,?_⟩;have ah:=zA.mk (Kd.QA av (zQ (by repeat(first|(with_reducible first|exact HB.out|apply zC|apply zB|apply zD|refine zF ?_ ag.out)|exact HB.out))));have ai:=zA.mk (zO (g:=ad) (o := .cells #[.slice ae ab.length af] 35 (0,0)) (by(with_reducible repeat(first|refine zH ?_ _|refine zJ ?_|refine zG ?_ _));exact aa.out) hb);have al:=zA.mk (zM (by repeat(first|(with_reducible first|exact HB.out|apply zC|apply zB|apply zD|refine zF ?_ ag.out)|exact HB.out)) hb);clear aa;clear HB;have an:=ah;have aa:=ai;have HB:=al;clear ah ai al;(try clear hb);(try clear hb2);(try clear hk);(try clear hi);(try clear av);obtain⟨aP,aQ,aJ⟩:=Kd.QM an.out;subst aJ))
      go_ret2
      exact⟨_,by first|rfl|(simp [zU,zV] <;> rfl)|(simp [*,zU,zV] <;> rfl),by first|exact Kd.zHe _ _ _ _ _|exact Kd.zHi _ _ _ _ _|exact Kd.zHl _ _ _ _ _|exact Kd.zHW _ _ _ _ _|exact Kd.zD6 _ _ _ _ _,by repeat(first|(with_reducible first|exact HB.out|apply zC|apply zB|apply zD|refine zF ?_ ag.out)|exact HB.out)⟩
    · rw[if_neg c6]at H
      have aE:((t103.length:Int)==0)=false:=beq_eq_false_iff_ne.mpr c6
      have aF:((t103.length:Int) != 0)=true:=bne_iff_ne.mpr c6
      have aR : ¬ (t103 = []):=fun h_=>c6 (by rw[h_];rfl)
      simp only [Option.some.injEq,Prod.mk.injEq]at H
      obtain⟨rfl,rfl⟩:=H
      go_enter Try.func17,Try.ntmps17
      go_wp2_with (first|((with_reducible refine zw (N:=2) rfl ?_);refine zz ?hg (N:=2) ?hd (cs:=#[.slice ae ab.length af]) (t:=35) ?hr ?_;(case hd=>rfl);(case hg=>rfl);(case hr=>first|(go_simp;done)|(go_simp;rfl));intro ad hg aS hbox hb;have ah:=zA.mk (zM (by repeat(first|(with_reducible first|exact HB.out|apply zC|apply zB|apply zD)|exact HB.out)) hb);have ai:=zA.mk (hbox);have al:=zA.mk ((by rw[hg];exact(zQ (by repeat(first|(with_reducible first|exact HB.out|apply zC|apply zB|apply zD)|exact HB.out))):w.heap.size≤ad));have ar:=zA.mk ((by rw[hg];exact(zQ (by repeat(first|(with_reducible first|exact HB.out|apply zC|apply zB|apply zD)|exact HB.out))):w.heap.size≤ad));clear HB;have HB:=ah;have aa:=ai;have au:=al;have ag:=ar;clear ah ai al ar;clear hb hbox hg;have ay:aS.cell? ⟨ad,0,none⟩=some (.slice ae ab.length af):=(zK aa.out 0).trans rfl;have az:=zP aa.out 0)|((with_reducible refine zd (f:=47) rfl ?_);refine qV (some 8) rfl rfl Try.func47 (by kernel_rfl) rfl #[.agg #[.slice ae ab.length af]] rfl (by(try simp only [yiy,yjy,yky]);first|done|rfl|(simp only [yly,ymy];rfl)) ?_;(with_reducible refine(zN.calls k _ _ ab true _ ?side1 ?side2 A3.out).mono ?_);(case side1=>repeat(first|exact(Kd.qD aj.out HB.out)|(with_reducible refine Kd.zy ?_ _)|(with_reducible refine Kd.qA ?_ _)|(with_reducible refine Kd.qR ?_)));(case side2=>exact ak.out);rintro e aT ⟨rfl,hb⟩;refine⟨_,rfl,?_⟩;have ah:=zA.mk (zO (g:=ad) (o := .cells #[.slice ae ab.length af] 35 (0,0)) (by(with_reducible repeat(first|refine zH ?_ _|refine zJ ?_|refine zG ?_ _));exact aa.out) hb);have ai:=zA.mk (zM (by repeat(first|(with_reducible first|exact HB.out|apply zC|apply zB|apply zD|refine zF ?_ ag.out)|exact HB.out)) hb);clear aa;clear HB;have aa:=ah;have HB:=ai;clear ah ai;(try clear hb);(try clear hb2);(try clear hk);(try clear hi);have aA:aT.cell? ⟨ad,0,none⟩=some (.slice ae ab.length af):=(zK aa.out 0).trans rfl;have aB:=zP aa.out 0)|((with_reducible refine zd (f:=48) rfl ?_);refine qV (some 12) rfl rfl Try.func48 (by kernel_rfl) rfl #[.agg #[.slice ae ab.length af],.int .i64 a1] rfl (by(try simp only [yiy,yjy,yky]);first|done|rfl|(simp only [yly,ymy];rfl)) ?_;(with_reducible refine(zt.calls k _ _ ab a1 t103 _ ?side1 ?side2 A5.out).mono ?_);(case side1=>repeat(first|exact(Kd.qD aj.out HB.out)|(with_reducible refine Kd.zy ?_ _)|(with_reducible refine Kd.qA ?_ _)|(with_reducible refine Kd.qR ?_)));(case side2=>exact ak.out);rintro e aY ⟨aI,rfl,av,hb⟩;refine⟨_,rfl,?_⟩;have ah:=zA.mk (Kd.QA av (zQ (by repeat(first|(with_reducible first|exact HB.out|apply zC|apply zB|apply zD|refine zF ?_ ag.out)|exact HB.out))));have ai:=zA.mk (zO (g:=ad) (o := .cells #[.slice ae ab.length af] 35 (0,0)) (by(with_reducible repeat(first|refine zH ?_ _|refine zJ ?_|refine zG ?_ _));exact aa.out) hb);have al:=zA.mk (zM (by repeat(first|(with_reducible first|exact HB.out|apply zC|apply zB|apply zD|refine zF ?_ ag.out)|exact HB.out)) hb);clear aa;clear HB;have an:=ah;have aa:=ai;have HB:=al;clear ah ai al;(try clear hb);(try clear hb2);(try clear hk);(try clear hi);(try clear av);obtain⟨aU,aV,aK⟩:=Kd.QM an.out;subst aK))
      go_ret2
      exact⟨_,by first|rfl|(simp [zU,zV] <;> rfl)|(simp [*,zU,zV] <;> rfl),by(with_reducible repeat(first|apply Kd.zh|apply Kd.zi|apply Kd.zx));exact an.out,by repeat(first|(with_reducible first|exact HB.out|apply zC|apply zB|apply zD|refine zF ?_ ag.out)|exact HB.out)⟩
  · replace c4:=Bool.eq_false_iff.mpr c4
    subst c4;rw[if_neg (show ¬ (false=true)by decide)]at H
    simp only [Option.some.injEq,Prod.mk.injEq]at H
    obtain⟨rfl,rfl⟩:=H
    go_enter Try.func17,Try.ntmps17
    go_wp2_with (first|((with_reducible refine zw (N:=2) rfl ?_);refine zz ?hg (N:=2) ?hd (cs:=#[.slice ae ab.length af]) (t:=35) ?hr ?_;(case hd=>rfl);(case hg=>rfl);(case hr=>first|(go_simp;done)|(go_simp;rfl));intro ad hg aW hbox hb;have ah:=zA.mk (zM (by repeat(first|(with_reducible first|exact HB.out|apply zC|apply zB|apply zD)|exact HB.out)) hb);have ai:=zA.mk (hbox);have al:=zA.mk ((by rw[hg];exact(zQ (by repeat(first|(with_reducible first|exact HB.out|apply zC|apply zB|apply zD)|exact HB.out))):w.heap.size≤ad));have ar:=zA.mk ((by rw[hg];exact(zQ (by repeat(first|(with_reducible first|exact HB.out|apply zC|apply zB|apply zD)|exact HB.out))):w.heap.size≤ad));clear HB;have HB:=ah;have aa:=ai;have au:=al;have ag:=ar;clear ah ai al ar;clear hb hbox hg;have aC:aW.cell? ⟨ad,0,none⟩=some (.slice ae ab.length af):=(zK aa.out 0).trans rfl;have aD:=zP aa.out 0)|((with_reducible refine zd (f:=47) rfl ?_);refine qV (some 8) rfl rfl Try.func47 (by kernel_rfl) rfl #[.agg #[.slice ae ab.length af]] rfl (by(try simp only [yiy,yjy,yky]);first|done|rfl|(simp only [yly,ymy];rfl)) ?_;(with_reducible refine(zN.calls k _ _ ab false _ ?side1 ?side2 A3.out).mono ?_);(case side1=>repeat(first|exact(Kd.qD aj.out HB.out)|(with_reducible refine Kd.zy ?_ _)|(with_reducible refine Kd.qA ?_ _)|(with_reducible refine Kd.qR ?_)));(case side2=>exact ak.out);rintro e aZ ⟨rfl,hb⟩;refine⟨_,rfl,?_⟩;have ah:=zA.mk (zO (g:=ad) (o := .cells #[.slice ae ab.length af] 35 (0,0)) (by(with_reducible repeat(first|refine zH ?_ _|refine zJ ?_|refine zG ?_ _));exact aa.out) hb);have ai:=zA.mk (zM (by repeat(first|(with_reducible first|exact HB.out|apply zC|apply zB|apply zD|refine zF ?_ ag.out)|exact HB.out)) hb);clear aa;clear HB;have aa:=ah;have HB:=ai;clear ah ai;(try clear hb);(try clear hb2);(try clear hk);(try clear hi)))
    go_ret2
    exact⟨_,by first|rfl|(simp [zU,zV] <;> rfl)|(simp [*,zU,zV] <;> rfl),by first|exact Kd.zHe _ _ _ _ _|exact Kd.zHi _ _ _ _ _|exact Kd.zHl _ _ _ _ _|exact Kd.zHW _ _ _ _ _|exact Kd.zD6 _ _ _ _ _,by repeat(first|(with_reducible first|exact HB.out|apply zC|apply zB|apply zD|refine zF ?_ ag.out)|exact HB.out)⟩
mutual
def zj.l0:Nat→List Int→List Int→Int→Int→Option (Int)
  | 0,_,_,_,_=>none
  | k+1,x0,x1,x5,x6=>if x6<(x1.length:Int)then(zj.l1 k x0 x1 x5 x6 true 0)else(some x5)
def zj.l1:Nat→List Int→List Int→Int→Int→Bool→Int→Option (Int)
  | 0,_,_,_,_,_,_=>none
  | k+1,x0,x1,x5,x6,x7,x8=>if x8<x6 then(if x7=true then(if 0≤x8 then(if x8<(x1.length:Int)then(if 0≤(rd x1 x8)then(if(rd x1 x8)<(x0.length:Int)then(if 0≤x6 then(if x6<(x1.length:Int)then(if 0≤(rd x1 x6)then(if(rd x1 x6)<(x0.length:Int)then(zj.l1 k x0 x1 x5 x6 ((rd x0 (rd x1 x8)) != (rd x0 (rd x1 x6))) (wrap64 (x8+1)))else(none))else(none))else(none))else(none))else(none))else(none))else(none))else(none))else(zj.l1 k x0 x1 x5 x6 false (wrap64 (x8+1))))else(if x7=true then(zj.l0 k x0 x1 (wrap64 (x5+1)) (wrap64 (x6+1)))else(zj.l0 k x0 x1 x5 (wrap64 (x6+1))))
end
def zj.f (k:Nat) (l0:List Int) (l1:List Int):Option (Int):=zj.l0 k l0 l1 0 0
set_option maxHeartbeats 8000000 in
set_option maxRecDepth 100000 in
theorem zj.calls (k:Nat) (A0:Option Addr) (c0:Nat) (l0:List Int) (A1:Option Addr) (c1:Nat) (l1:List Int) (r:Int) (w:World) (aM:Kd.C (Kd.int .i64) w A0 l0.length l0) (aN:l0.length≤c0) (aO:Kd.C (Kd.int .i64) w A1 l1.length l1) (aP:l1.length≤c1) (h:zj.f k l0 l1=some r) :
    Calls Try.prog 93 #[.slice A0 l0.length c0,.slice A1 l1.length c1] w fun e w'=>e = .returned (.int .i64 r)∧qG w w':=by
  have aQ:=zA.mk aM
  have a1:=zA.mk aN
  clear aM aN;have aR:=zA.mk aO
  have a2:=zA.mk aP
  clear aO aP;have H:(zj.l0 k l0 l1 0 0)=some r:=h
  clear h;have H':=zA.mk H
  clear H;go_enter Try.func93,Try.ntmps93
  go_wp2;repeat(go_quiet (fail);try go_wp2)
  go_loopg [5,6] k (fun kq v5 v6 w' => ∃ (ad:Int) (aa:Int),v5 = .int .i64 ad∧v6 = .int .i64 aa∧zA (zj.l0 kq l0 l1 ad aa=some r)∧zA (kq≤k)∧qG w w')
  case atStart=>exact⟨(0),(0),(by first|rfl|(simp;done)|(simp [*];done)),(by first|rfl|(simp;done)|(simp [*];done)),H',⟨yry _⟩,by repeat(first|exact qG.refl _|apply qG.step)⟩
  case round=>
    clear H';(try clear c1);(try clear p2);obtain⟨ad,aa,rfl,rfl,HA,af,⟨m1,rfl⟩⟩:=hrel
    cases gk with
    | zero=>exact absurd HA.out (by simp [zj.l0])
    | succ k1=>
      have H:=HA.out
      clear HA;simp only [zj.l0]at H
      by_cases c3:aa<(l1.length:Int)
      · rw[if_pos c3]at H
        have ar:decide (aa<(l1.length:Int))=true:=ygy c3
        clear c3;have H':=zA.mk H
        clear H;go_wp2;repeat(go_quiet (fail);try go_wp2)
        go_loopg [7,8] k1 (fun kq v7 v8 w' => ∃ (ae:Bool) (ab:Int),v7 = .bool ae∧v8 = .int .i64 ab∧zA (zj.l1 kq l0 l1 ad aa ae ab=some r)∧zA (kq≤k1)∧qG w w')
        case atStart=>exact⟨(true),(0),(by first|rfl|(simp;done)|(simp [*];done)),(by first|rfl|(simp;done)|(simp [*];done)),H',⟨yry _⟩,by repeat(first|exact qG.refl _|apply qG.step)⟩
        case round=>
          clear H';(try clear c1);(try clear p2);(try clear c3);(try clear ar);(try clear p2);obtain⟨ae,ab,rfl,rfl,HA,ag,⟨m2,rfl⟩⟩:=hrel
          cases gk with
          | zero=>exact absurd HA.out (by simp [zj.l1])
          | succ k2=>
            have H:=HA.out
            clear HA;simp only [zj.l1]at H
            by_cases c4:ab<aa
            · rw[if_pos c4]at H
              have aH:decide (ab<aa)=true:=ygy c4
              clear c4;by_cases c5:ae=true
              · subst c5
                rw[if_pos rfl]at H
                by_cases c6:0≤ab
                · rw[if_pos c6]at H
                  have aW:decide (0≤ab)=true:=ygy c6
                  clear c6;by_cases c7:ab<(l1.length:Int)
                  · rw[if_pos c7]at H
                    have aX:decide (ab<(l1.length:Int))=true:=ygy c7
                    clear c7;by_cases c8:0≤(rd l1 ab)
                    · rw[if_pos c8]at H
                      have aY:decide (0≤(rd l1 ab))=true:=ygy c8
                      clear c8;by_cases c9:(rd l1 ab)<(l0.length:Int)
                      · rw[if_pos c9]at H
                        have aZ:decide ((rd l1 ab)<(l0.length:Int))=true:=ygy c9
                        clear c9;by_cases ay:0≤aa
                        · rw[if_pos ay]at H
                          have aS:decide (0≤aa)=true:=ygy ay
                          clear ay;by_cases az:aa<(l1.length:Int)
                          · rw[if_pos az]at H
                            have aT:decide (aa<(l1.length:Int))=true:=ygy az
                            clear az;by_cases aA:0≤(rd l1 aa)
                            · rw[if_pos aA]at H
                              have aU:decide (0≤(rd l1 aa))=true:=ygy aA
                              clear aA;by_cases aB:(rd l1 aa)<(l0.length:Int)
                              · rw[if_pos aB]at H
                                have aV:decide ((rd l1 aa)<(l0.length:Int))=true:=ygy aB
                                clear aB;have H':=zA.mk H
                                clear H;have ah:0≤(ab:Int):=of_decide_eq_true (by first|(with_reducible assumption)|assumption)
                                have ai:ab<(l1.length:Int):=of_decide_eq_true (by first|(with_reducible assumption)|assumption)
                                obtain⟨au,aI,aC⟩:=Kd.qw aR.out ab ah ai
                                cases aI
                                replace ah:=eq_true ah
                                replace ai:=eq_true ai
                                have aj:0≤((rd l1 ab):Int):=of_decide_eq_true (by first|(with_reducible assumption)|assumption)
                                have ak:(rd l1 ab)<(l0.length:Int):=of_decide_eq_true (by first|(with_reducible assumption)|assumption)
                                obtain⟨av,aJ,aD⟩:=Kd.qw aQ.out (rd l1 ab) aj ak
                                cases aJ
                                replace aj:=eq_true aj
                                replace ak:=eq_true ak
                                have al:0≤(aa:Int):=of_decide_eq_true (by first|(with_reducible assumption)|assumption)
                                have an:aa<(l1.length:Int):=of_decide_eq_true (by first|(with_reducible assumption)|assumption)
                                obtain⟨aw,aK,aE⟩:=Kd.qw aR.out aa al an
                                obtain rfl:au=aw:=(by injection aK)
                                replace al:=eq_true al
                                replace an:=eq_true an
                                have ao:0≤((rd l1 aa):Int):=of_decide_eq_true (by first|(with_reducible assumption)|assumption)
                                have aq:(rd l1 aa)<(l0.length:Int):=of_decide_eq_true (by first|(with_reducible assumption)|assumption)
                                obtain⟨ax,aL,aF⟩:=Kd.qw aQ.out (rd l1 aa) ao aq
                                obtain rfl:av=ax:=(by injection aL)
                                replace ao:=eq_true ao
                                replace aq:=eq_true aq
                                go_wp2;repeat(go_quiet (fail);try go_wp2)
                                go_roundg k2
                                case measure=>have:=af.out;have:=ag.out;omega
                                case rel=>exact⟨(((rd l0 (rd l1 ab)) != (rd l0 (rd l1 aa)))),(wrap64 (ab+1)),(by first|rfl|(simp;done)|(simp [*];done)),(by first|rfl|(simp;done)|(simp [*];done)),H',⟨by have:=af.out;have:=ag.out;omega⟩,by repeat(first|exact qG.refl _|apply qG.step)⟩
                              · rw[if_neg aB]at H
                                exact absurd H (by simp)
                            · rw[if_neg aA]at H
                              exact absurd H (by simp)
                          · rw[if_neg az]at H
                            exact absurd H (by simp)
                        · rw[if_neg ay]at H
                          exact absurd H (by simp)
                      · rw[if_neg c9]at H
                        exact absurd H (by simp)
                    · rw[if_neg c8]at H
                      exact absurd H (by simp)
                  · rw[if_neg c7]at H
                    exact absurd H (by simp)
                · rw[if_neg c6]at H
                  exact absurd H (by simp)
              · replace c5:=Bool.eq_false_iff.mpr c5
                subst c5;rw[if_neg (show ¬ (false=true)by decide)]at H
                have H':=zA.mk H
                clear H;go_wp2;repeat(go_quiet (fail);try go_wp2)
                go_roundg k2
                case measure=>have:=af.out;have:=ag.out;omega
                case rel=>exact⟨(false),(wrap64 (ab+1)),(by first|rfl|(simp;done)|(simp [*];done)),(by first|rfl|(simp;done)|(simp [*];done)),H',⟨by have:=af.out;have:=ag.out;omega⟩,by repeat(first|exact qG.refl _|apply qG.step)⟩
            · rw[if_neg c4]at H
              have aH:decide (ab<aa)=false:=yhy c4
              clear c4;by_cases aG:ae=true
              · subst aG
                rw[if_pos rfl]at H
                have H':=zA.mk H
                clear H;go_wp2;repeat(go_quiet (fail);try go_wp2)
                go_roundg k2
                case measure=>have:=af.out;have:=ag.out;omega
                case rel=>exact⟨(wrap64 (ad+1)),(wrap64 (aa+1)),(by first|rfl|(simp;done)|(simp [*];done)),(by first|rfl|(simp;done)|(simp [*];done)),H',⟨by have:=af.out;have:=ag.out;omega⟩,by repeat(first|exact qG.refl _|apply qG.step)⟩
              · replace aG:=Bool.eq_false_iff.mpr aG
                subst aG;rw[if_neg (show ¬ (false=true)by decide)]at H
                have H':=zA.mk H
                clear H;go_wp2;repeat(go_quiet (fail);try go_wp2)
                go_roundg k2
                case measure=>have:=af.out;have:=ag.out;omega
                case rel=>exact⟨(ad),(wrap64 (aa+1)),(by first|rfl|(simp;done)|(simp [*];done)),(by first|rfl|(simp;done)|(simp [*];done)),H',⟨by have:=af.out;have:=ag.out;omega⟩,by repeat(first|exact qG.refl _|apply qG.step)⟩
      · rw[if_neg c3]at H
        have ar:decide (aa<(l1.length:Int))=false:=yhy c3
        clear c3;obtain rfl:=yey H
        go_wp2;repeat(go_quiet (fail);try go_wp2)
        go_ret;exact⟨by first|rfl|(simp;done)|(simp [*];done),by repeat(first|exact qG.refl _|apply qG.step)⟩
end Go.Proofs.Ytembbpalgfikiaa.P
