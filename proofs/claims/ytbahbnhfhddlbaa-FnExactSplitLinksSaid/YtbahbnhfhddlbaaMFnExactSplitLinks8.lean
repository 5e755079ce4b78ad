/- The statement FnExactSplitLinksSaid, proved: part 8 of 10 (texts of this session and of the kit's print, put together and cut to what is used by a program of it). -/
import Derived.Test.YtbahbnhfhddlbaaMFnExactSplitLinks7
set_option maxHeartbeats 8000000
set_option maxRecDepth 100000
namespace Go.Proofs.Ytbahbnhfhddlbaa.P
open Go.RowKit Go.Proofs.YtbahbnhfhddlbaaW.PrintWords Go.Proofs.YtbahbnhfhddlbaaW.PrintLast Go.Proofs.YtbahbnhfhddlbaaW.PrintMore
attribute [local go_sem] Qj Qk JJ JK QO QP Ql Qm
set_option linter.unusedVariables false
set_option linter.unusedSimpArgs false
def qG.l0:Nat→List Int→List Int→List Int→List Int→Int→List (List (zz))→List (List Int)→List (List Int)→List (List Int)→Option (List Int × List Int × Int)
 | 0,_,_,_,_,_,_,_,_,_=>none
 | k+1,x1,x9,x10,x11,x12,x102000,x117000,x117001,x117002=>if 0<(x9.length:Int)then(if x12<(rd x9 0)then((qN.f k x102000 x117000 x117001 x117002 x12).bind fun t127=>((qy.f k x1 t127).bind fun t130=>(if x10.length<17592186044416 then((qW.f k x11 t127 (wrap64 (-t130))).bind fun t134=>(qG.l0 k x1 x9 (x10 ++ [t130]) t134 (wrap64 (x12+1)) x102000 x117000 x117001 x117002))else(none))))else(some (x10,x11,0)))else(none)
def qG.f (k:Nat) (l0_0:List (List (zz))) (l1:List Int):Option (List Int × List Int × Int):=(Zq.f k l0_0).bind fun t102=>(if t102=0 then((zl.f k l0_0 l1).bind fun t103=>(if t103=true then((zS.f k l0_0).bind fun bt104=>((some (([]:List Int):List Int)).bind fun y120=>(if y120.length+l1.length<17592186044416 then(qG.l0 k l1 bt104.2.2.2 (([]:List Int)) (y120++l1) 0 l0_0 bt104.1 bt104.2.1 bt104.2.2.1)else(none))))else(some (([]:List Int),([]:List Int),5))))else(some (([]:List Int),([]:List Int),t102)))
theorem qG.calls (k:Nat) (ak:Option Addr) (al:Nat) (ad:List (List (zz))) (A1:Option Addr) (c1:Nat) (l1:List Int) (r1:List Int) (r2:List Int) (r3:Int) (w:World) (bP:Kd.C (Kd.slice 64 ZW) w ak ad.length ad) (bQ:ad.length≤al) (cL:Kd.C (Kd.int .i64) w A1 l1.length l1) (cM:l1.length≤c1) (h:qG.f k ad l1=some (r1,r2,r3)) :
 Calls Try.prog 5 #[.agg #[.slice ak ad.length al],.slice A1 l1.length c1] w fun e w' => ∃ cv cw:Value,e = .returned (.tuple #[cv,cw,.int .i64 r3])∧Kd.R (Kd.int .i64) 2 w' w.heap.size (fun k_=>some k_≠(cw:Value).ownBlock) cv r1∧Kd.R (Kd.int .i64) 2 w' w.heap.size (fun k_=>some k_≠(cv:Value).ownBlock) cw r2∧Below w.heap.size w w':=by
 have c0:=Try.underlying31;have c2:=Try.underlying44;have a1:=zA.mk bP;have a6:=zA.mk bQ;clear bP bQ;have b_:=zA.mk cL;have cx:=zA.mk cM;clear cL cM;have HB:=zA.mk (ysy w.heap.size w);have H:((Zq.f k ad).bind fun t102=>(if t102=0 then((zl.f k ad l1).bind fun t103=>(if t103=true then((zS.f k ad).bind fun aD=>((some (([]:List Int):List Int)).bind fun aI=>(if aI.length+l1.length<17592186044416 then(qG.l0 k l1 aD.2.2.2 (([]:List Int)) (aI++l1) 0 ad aD.1 aD.2.1 aD.2.2.1)else(none))))else(some (([]:List Int),([]:List Int),5))))else(some (([]:List Int),([]:List Int),t102))))=some (r1,r2,r3):=h;clear h;replace H:=ydy.mp H;obtain⟨t102,ca,H⟩:=H;replace H:(if t102=0 then((zl.f k ad l1).bind fun t103=>(if t103=true then((zS.f k ad).bind fun aD=>((some (([]:List Int):List Int)).bind fun aI=>(if aI.length+l1.length<17592186044416 then(qG.l0 k l1 aD.2.2.2 (([]:List Int)) (aI++l1) 0 ad aD.1 aD.2.1 aD.2.2.1)else(none))))else(some (([]:List Int),([]:List Int),5))))else(some (([]:List Int),([]:List Int),t102)))=some (r1,r2,r3):=H;have A3:=zA.mk ca;clear ca;by_cases c4:t102=0
 case neg=>
  rw[if_neg c4]at H;have bX:(t102==0)=false:=beq_eq_false_iff_ne.mpr c4;have bY:(t102 != 0)=true:=bne_iff_ne.mpr c4;simp only [Option.some.injEq,Prod.mk.injEq]at H;obtain⟨rfl,rfl,rfl⟩:=H;go_enter Try.func5,Try.ntmps5
  go_wp2_with (first|((with_reducible refine zm (N:=2) rfl ?_);refine zt ?hg (N:=2) ?hd (cs:=#[.slice ak ad.length al]) (t:=31) ?hr ?_;(case hd=>rfl);(case hg=>rfl);(case hr=>first|(go_simp;done)|(go_simp;rfl));intro ah hg c3 a7 hb;have ao:=zA.mk (zM (by repeat(first|(with_reducible first|exact HB.out|apply zC|apply zB|apply zD)|exact HB.out)) hb);have aq:=zA.mk (a7);have aQ:=zA.mk ((by rw[hg];exact(zP (by repeat(first|(with_reducible first|exact HB.out|apply zC|apply zB|apply zD)|exact HB.out))):w.heap.size≤ah));have aT:=zA.mk ((by rw[hg];exact(zP (by repeat(first|(with_reducible first|exact HB.out|apply zC|apply zB|apply zD)|exact HB.out))):w.heap.size≤ah));clear HB;have HB:=ao;have aa:=aq;have bR:=aQ;have ai:=aT;clear ao aq aQ aT;clear hb a7 hg;have cb:c3.cell? ⟨ah,0,none⟩=some (.slice ak ad.length al):=(zK aa.out 0).trans rfl;have cc:=zL aa.out 0)|((with_reducible refine zU (f:=15) rfl ?_);refine qD (some 16) rfl rfl Try.func15 (by kernel_rfl) rfl #[.agg #[.slice ak ad.length al]] rfl (by(try simp only [yiy,yjy,yky]);first|done|rfl|(simp only [yly,ymy];rfl)) ?_;(with_reducible refine(Zq.calls k _ _ ad t102 _ ?side1 ?side2 A3.out).mono ?_);(case side1=>repeat(first|exact(Kd.qA a1.out HB.out)|(with_reducible refine Kd.zu ?_ _)|(with_reducible refine Kd.zv ?_ _)|(with_reducible refine Kd.qK ?_)));(case side2=>exact a6.out);rintro e dm ⟨rfl,hb⟩;refine⟨_,rfl,?_⟩;have ao:=zA.mk (zN (g:=ah) (o := .cells #[.slice ak ad.length al] 31 (0,0)) (by(with_reducible repeat(first|refine zH ?_ _|refine zI ?_|refine zG ?_ _));exact aa.out) hb);have aq:=zA.mk (zM (by repeat(first|(with_reducible first|exact HB.out|apply zC|apply zB|apply zD|refine zE ?_ ai.out)|exact HB.out)) hb);clear aa;clear HB;have aa:=ao;have HB:=aq;clear ao aq;(try clear hb);(try clear hb2);(try clear hk);(try clear hi)))
  go_ret3
  exact⟨_,_,by first|rfl|(simp [zV,zW] <;> rfl)|(simp [*,zV,zW] <;> rfl),by first|exact Kd.zAZ _ _ _ _ _|exact Kd.zDJ _ _ _ _ _|exact Kd.zDM _ _ _ _ _|exact Kd.zDC _ _ _ _ _|exact Kd.zDH _ _ _ _ _,by first|exact Kd.zAZ _ _ _ _ _|exact Kd.zDJ _ _ _ _ _|exact Kd.zDM _ _ _ _ _|exact Kd.zDC _ _ _ _ _|exact Kd.zDH _ _ _ _ _,by repeat(first|(with_reducible first|exact HB.out|apply zC|apply zB|apply zD|refine zE ?_ ai.out)|exact HB.out)⟩
 rw[if_pos c4]at H;have bX:(t102==0)=true:=beq_iff_eq.mpr c4;have bY:(t102 != 0)=false:=bne_eq_false_iff_eq.mpr c4;clear c4;replace H:=ydy.mp H;obtain⟨t103,cN,H⟩:=H;replace H:(if t103=true then((zS.f k ad).bind fun aD=>((some (([]:List Int):List Int)).bind fun aI=>(if aI.length+l1.length<17592186044416 then(qG.l0 k l1 aD.2.2.2 (([]:List Int)) (aI++l1) 0 ad aD.1 aD.2.1 aD.2.2.1)else(none))))else(some (([]:List Int),([]:List Int),5)))=some (r1,r2,r3):=H;have A5:=zA.mk cN;clear cN;by_cases c6:t103=true
 case neg=>
  replace c6:=Bool.eq_false_iff.mpr c6;subst c6;rw[if_neg (show ¬ (false=true)by decide)]at H;simp only [Option.some.injEq,Prod.mk.injEq]at H;obtain⟨rfl,rfl,rfl⟩:=H;go_enter Try.func5,Try.ntmps5
  go_wp2_with (first|((with_reducible refine zm (N:=2) rfl ?_);refine zt ?hg (N:=2) ?hd (cs:=#[.slice ak ad.length al]) (t:=31) ?hr ?_;(case hd=>rfl);(case hg=>rfl);(case hr=>first|(go_simp;done)|(go_simp;rfl));intro ah hg c7 a7 hb;have ao:=zA.mk (zM (by repeat(first|(with_reducible first|exact HB.out|apply zC|apply zB|apply zD)|exact HB.out)) hb);have aq:=zA.mk (a7);have aQ:=zA.mk ((by rw[hg];exact(zP (by repeat(first|(with_reducible first|exact HB.out|apply zC|apply zB|apply zD)|exact HB.out))):w.heap.size≤ah));have aT:=zA.mk ((by rw[hg];exact(zP (by repeat(first|(with_reducible first|exact HB.out|apply zC|apply zB|apply zD)|exact HB.out))):w.heap.size≤ah));clear HB;have HB:=ao;have aa:=aq;have bR:=aQ;have ai:=aT;clear ao aq aQ aT;clear hb a7 hg;have cd:c7.cell? ⟨ah,0,none⟩=some (.slice ak ad.length al):=(zK aa.out 0).trans rfl;have cf:=zL aa.out 0)|((with_reducible refine zU (f:=15) rfl ?_);refine qD (some 16) rfl rfl Try.func15 (by kernel_rfl) rfl #[.agg #[.slice ak ad.length al]] rfl (by(try simp only [yiy,yjy,yky]);first|done|rfl|(simp only [yly,ymy];rfl)) ?_;(with_reducible refine(Zq.calls k _ _ ad t102 _ ?side1 ?side2 A3.out).mono ?_);(case side1=>repeat(first|exact(Kd.qA a1.out HB.out)|(with_reducible refine Kd.zu ?_ _)|(with_reducible refine Kd.zv ?_ _)|(with_reducible refine Kd.qK ?_)));(case side2=>exact a6.out);rintro e c9 ⟨rfl,hb⟩;refine⟨_,rfl,?_⟩;have ao:=zA.mk (zN (g:=ah) (o := .cells #[.slice ak ad.length al] 31 (0,0)) (by(with_reducible repeat(first|refine zH ?_ _|refine zI ?_|refine zG ?_ _));exact aa.out) hb);have aq:=zA.mk (zM (by repeat(first|(with_reducible first|exact HB.out|apply zC|apply zB|apply zD|refine zE ?_ ai.out)|exact HB.out)) hb);clear aa;clear HB;have aa:=ao;have HB:=aq;clear ao aq;(try clear hb);(try clear hb2);(try clear hk);(try clear hi);have cg:c9.cell? ⟨ah,0,none⟩=some (.slice ak ad.length al):=(zK aa.out 0).trans rfl;have ch:=zL aa.out 0)|((with_reducible refine zU (f:=16) rfl ?_);refine qD (some 22) rfl rfl Try.func16 (by kernel_rfl) rfl #[.agg #[.slice ak ad.length al],.slice A1 l1.length c1] rfl (by(try simp only [yiy,yjy,yky]);first|done|rfl|(simp only [yly,ymy];rfl)) ?_;(with_reducible refine(zl.calls k _ _ ad _ _ l1 false _ ?side1 ?side2 ?side3 ?side4 A5.out).mono ?_);(case side1=>repeat(first|exact(Kd.qA a1.out HB.out)|(with_reducible refine Kd.zu ?_ _)|(with_reducible refine Kd.zv ?_ _)|(with_reducible refine Kd.qK ?_)));(case side2=>exact a6.out);(case side3=>repeat(first|exact(Kd.qA b_.out HB.out)|(with_reducible refine Kd.zu ?_ _)|(with_reducible refine Kd.zv ?_ _)|(with_reducible refine Kd.qK ?_)));(case side4=>exact cx.out);rintro e dn ⟨rfl,hb⟩;refine⟨_,rfl,?_⟩;have ao:=zA.mk (zN (g:=ah) (o := .cells #[.slice ak ad.length al] 31 (0,0)) (by(with_reducible repeat(first|refine zH ?_ _|refine zI ?_|refine zG ?_ _));exact aa.out) hb);have aq:=zA.mk (zM (by repeat(first|(with_reducible first|exact HB.out|apply zC|apply zB|apply zD|refine zE ?_ ai.out)|exact HB.out)) hb);clear aa;clear HB;have aa:=ao;have HB:=aq;clear ao aq;(try clear hb);(try clear hb2);(try clear hk);(try clear hi)))
  go_ret3
  exact⟨_,_,by first|rfl|(simp [zV,zW] <;> rfl)|(simp [*,zV,zW] <;> rfl),by first|exact Kd.zAZ _ _ _ _ _|exact Kd.zDJ _ _ _ _ _|exact Kd.zDM _ _ _ _ _|exact Kd.zDC _ _ _ _ _|exact Kd.zDH _ _ _ _ _,by first|exact Kd.zAZ _ _ _ _ _|exact Kd.zDJ _ _ _ _ _|exact Kd.zDM _ _ _ _ _|exact Kd.zDC _ _ _ _ _|exact Kd.zDH _ _ _ _ _,by repeat(first|(with_reducible first|exact HB.out|apply zC|apply zB|apply zD|refine zE ?_ ai.out)|exact HB.out)⟩
 subst c6;rw[if_pos rfl]at H;replace H:=ydy.mp H;obtain⟨⟨t104,t107,t110,t113⟩,cO,H⟩:=H;replace H:((some (([]:List Int):List Int)).bind fun aI=>(if aI.length+l1.length<17592186044416 then(qG.l0 k l1 t113 (([]:List Int)) (aI++l1) 0 ad t104 t107 t110)else(none)))=some (r1,r2,r3):=H;have A7:=zA.mk cO;clear cO;obtain⟨bC,bj⟩ : ∃ y_:List Int,y_=(([]:List Int)):=⟨_,rfl⟩
 replace H:((some (([]:List Int):List Int)).bind fun aI=>(if aI.length+l1.length<17592186044416 then(qG.l0 k l1 t113 bC (aI++l1) 0 ad t104 t107 t110)else(none)))=some (r1,r2,r3):=by first|(rw[bj];with_reducible exact H)|(have bq:=(yfy _ _).symm.trans H;rw[bj];with_reducible exact bq)|(have bq:=(yfy _ _).symm.trans H;with_reducible exact bq)|with_reducible exact H|(rw[bj];exact H)|exact H
 have bS:=zA.mk bj;clear bj;obtain⟨aI,bk⟩ : ∃ y_:List Int,y_=(([]:List Int)):=⟨_,rfl⟩
 replace H:(if aI.length+l1.length<17592186044416 then(qG.l0 k l1 t113 bC (aI++l1) 0 ad t104 t107 t110)else(none))=some (r1,r2,r3):=by first|(rw[bk];with_reducible exact H)|(have bq:=(yfy _ _).symm.trans H;rw[bk];with_reducible exact bq)|(have bq:=(yfy _ _).symm.trans H;with_reducible exact bq)|with_reducible exact H|(rw[bk];exact H)|exact H
 have bT:=zA.mk bk;clear bk;by_cases c8:aI.length+l1.length<17592186044416
 case neg=>
  rw[if_neg c8]at H;exact absurd H (by simp)
 rw[if_pos c8]at H;have cy:=zA.mk c8;clear c8;obtain⟨bZ,bl⟩ : ∃ y_:List Int,y_=(aI++l1):=⟨_,rfl⟩
 replace H:(qG.l0 k l1 t113 bC bZ 0 ad t104 t107 t110)=some (r1,r2,r3):=by first|(rw[bl];with_reducible exact H)|(have bq:=(yfy _ _).symm.trans H;rw[bl];with_reducible exact bq)|(have bq:=(yfy _ _).symm.trans H;with_reducible exact bq)|with_reducible exact H|(rw[bl];exact H)|exact H
 have b0:=zA.mk bl;clear bl;have H':=zA.mk H;clear H;go_enter Try.func5,Try.ntmps5
 go_wp2_with (first|((with_reducible refine zm (N:=2) rfl ?_);refine zt ?hg (N:=2) ?hd (cs:=#[.slice ak ad.length al]) (t:=31) ?hr ?_;(case hd=>rfl);(case hg=>rfl);(case hr=>first|(go_simp;done)|(go_simp;rfl));intro ah hg w9 a7 hb;have ao:=zA.mk (zM (by repeat(first|(with_reducible first|exact HB.out|apply zC|apply zB|apply zD)|exact HB.out)) hb);have aq:=zA.mk (a7);have aQ:=zA.mk ((by rw[hg];exact(zP (by repeat(first|(with_reducible first|exact HB.out|apply zC|apply zB|apply zD)|exact HB.out))):w.heap.size≤ah));have aT:=zA.mk ((by rw[hg];exact(zP (by repeat(first|(with_reducible first|exact HB.out|apply zC|apply zB|apply zD)|exact HB.out))):w.heap.size≤ah));clear HB;have HB:=ao;have aa:=aq;have bR:=aQ;have ai:=aT;clear ao aq aQ aT;clear hb a7 hg;have bD:w9.cell? ⟨ah,0,none⟩=some (.slice ak ad.length al):=(zK aa.out 0).trans rfl;have bE:=zL aa.out 0)|((with_reducible refine zU (f:=15) rfl ?_);refine qD (some 16) rfl rfl Try.func15 (by kernel_rfl) rfl #[.agg #[.slice ak ad.length al]] rfl (by(try simp only [yiy,yjy,yky]);first|done|rfl|(simp only [yly,ymy];rfl)) ?_;(with_reducible refine(Zq.calls k _ _ ad t102 _ ?side1 ?side2 A3.out).mono ?_);(case side1=>repeat(first|exact(Kd.qA a1.out HB.out)|(with_reducible refine Kd.zu ?_ _)|(with_reducible refine Kd.zv ?_ _)|(with_reducible refine Kd.qK ?_)));(case side2=>exact a6.out);rintro e c_ ⟨rfl,hb⟩;refine⟨_,rfl,?_⟩;have ao:=zA.mk (zN (g:=ah) (o := .cells #[.slice ak ad.length al] 31 (0,0)) (by(with_reducible repeat(first|refine zH ?_ _|refine zI ?_|refine zG ?_ _));exact aa.out) hb);have aq:=zA.mk (zM (by repeat(first|(with_reducible first|exact HB.out|apply zC|apply zB|apply zD|refine zE ?_ ai.out)|exact HB.out)) hb);clear aa;clear HB;have aa:=ao;have HB:=aq;clear ao aq;(try clear hb);(try clear hb2);(try clear hk);(try clear hi);have bF:c_.cell? ⟨ah,0,none⟩=some (.slice ak ad.length al):=(zK aa.out 0).trans rfl;have bG:=zL aa.out 0)|((with_reducible refine zU (f:=16) rfl ?_);refine qD (some 22) rfl rfl Try.func16 (by kernel_rfl) rfl #[.agg #[.slice ak ad.length al],.slice A1 l1.length c1] rfl (by(try simp only [yiy,yjy,yky]);first|done|rfl|(simp only [yly,ymy];rfl)) ?_;(with_reducible refine(zl.calls k _ _ ad _ _ l1 true _ ?side1 ?side2 ?side3 ?side4 A5.out).mono ?_);(case side1=>repeat(first|exact(Kd.qA a1.out HB.out)|(with_reducible refine Kd.zu ?_ _)|(with_reducible refine Kd.zv ?_ _)|(with_reducible refine Kd.qK ?_)));(case side2=>exact a6.out);(case side3=>repeat(first|exact(Kd.qA b_.out HB.out)|(with_reducible refine Kd.zu ?_ _)|(with_reducible refine Kd.zv ?_ _)|(with_reducible refine Kd.qK ?_)));(case side4=>exact cx.out);rintro e da ⟨rfl,hb⟩;refine⟨_,rfl,?_⟩;have ao:=zA.mk (zN (g:=ah) (o := .cells #[.slice ak ad.length al] 31 (0,0)) (by(with_reducible repeat(first|refine zH ?_ _|refine zI ?_|refine zG ?_ _));exact aa.out) hb);have aq:=zA.mk (zM (by repeat(first|(with_reducible first|exact HB.out|apply zC|apply zB|apply zD|refine zE ?_ ai.out)|exact HB.out)) hb);clear aa;clear HB;have aa:=ao;have HB:=aq;clear ao aq;(try clear hb);(try clear hb2);(try clear hk);(try clear hi);have bH:da.cell? ⟨ah,0,none⟩=some (.slice ak ad.length al):=(zK aa.out 0).trans rfl;have bI:=zL aa.out 0)|((with_reducible refine zU (f:=17) rfl ?_);refine qD (some 26) rfl rfl Try.func17 (by kernel_rfl) rfl #[.agg #[.slice ak ad.length al]] rfl (by(try simp only [yiy,yjy,yky]);first|done|rfl|(simp only [yly,ymy];rfl)) ?_;(with_reducible refine(zS.calls k _ _ ad t104 t107 t110 t113 _ ?side1 ?side2 A7.out).mono ?_);(case side1=>repeat(first|exact(Kd.qA a1.out HB.out)|(with_reducible refine Kd.zu ?_ _)|(with_reducible refine Kd.zv ?_ _)|(with_reducible refine Kd.qK ?_)));(case side2=>exact a6.out);rintro e dp ⟨v105,db,dc,a8,rfl,bc,cP,cQ,cR,hb⟩;refine⟨_,rfl,?_⟩;have ao:=zA.mk (Kd.JA bc (zP (by repeat(first|(with_reducible first|exact HB.out|apply zC|apply zB|apply zD|refine zE ?_ ai.out)|exact HB.out))));have aq:=zA.mk (Kd.JA cP (zP (by repeat(first|(with_reducible first|exact HB.out|apply zC|apply zB|apply zD|refine zE ?_ ai.out)|exact HB.out))));have aQ:=zA.mk (Kd.JA cQ (zP (by repeat(first|(with_reducible first|exact HB.out|apply zC|apply zB|apply zD|refine zE ?_ ai.out)|exact HB.out))));have aT:=zA.mk (Kd.ZG cR (zP (by repeat(first|(with_reducible first|exact HB.out|apply zC|apply zB|apply zD|refine zE ?_ ai.out)|exact HB.out))));have aX:=zA.mk (zN (g:=ah) (o := .cells #[.slice ak ad.length al] 31 (0,0)) (by(with_reducible repeat(first|refine zH ?_ _|refine zI ?_|refine zG ?_ _));exact aa.out) hb);have aY:=zA.mk (zM (by repeat(first|(with_reducible first|exact HB.out|apply zC|apply zB|apply zD|refine zE ?_ ai.out)|exact HB.out)) hb);clear aa;clear HB;have aE:=ao;have aG:=aq;have aH:=aQ;have ar:=aT;have aa:=aX;have HB:=aY;clear ao aq aQ aT aX aY;(try clear hb);(try clear hb2);(try clear hk);(try clear hi);(try clear bc);(try clear cP);(try clear cQ);(try clear cR))|((with_reducible refine zm (N:=8) rfl ?_);refine zt ?hg (N:=8) ?hd (cs:=#[.slice none 0 0,.slice none 0 0,.slice none 0 0]) (t:=44) ?hr ?_;(case hd=>rfl);(case hg=>rfl);(case hr=>first|(go_simp;done)|(go_simp;rfl));intro aj hg cz a7 hb;have ao:=zA.mk (Kd.QH (by(with_reducible repeat(first|apply Kd.zh|apply Kd.zi|apply Kd.qB));exact aE.out) hb);have aq:=zA.mk (Kd.QH (by(with_reducible repeat(first|apply Kd.zh|apply Kd.zi|apply Kd.qB));exact aG.out) hb);have aQ:=zA.mk (Kd.QH (by(with_reducible repeat(first|apply Kd.zh|apply Kd.zi|apply Kd.qB));exact aH.out) hb);have aT:=zA.mk (Kd.qV (by(with_reducible repeat(first|apply Kd.zR|apply Kd.zQ|apply Kd.zT));exact ar.out) hb);have aX:=zA.mk (zN (g:=ah) (o := .cells #[.slice ak ad.length al] 31 (0,0)) (by(with_reducible repeat(first|refine zH ?_ _|refine zI ?_|refine zG ?_ _));exact aa.out) hb);have aY:=zA.mk (zM (by repeat(first|(with_reducible first|exact HB.out|apply zC|apply zB|apply zD|refine zE ?_ ai.out)|exact HB.out)) hb);have a_:=zA.mk (a7);have ba:=zA.mk ((by rw[hg];exact(zP (by repeat(first|(with_reducible first|exact HB.out|apply zC|apply zB|apply zD|refine zE ?_ ai.out)|exact HB.out))):w.heap.size≤aj));have bf:=zA.mk ((by rw[hg];exact(zP (by repeat(first|(with_reducible first|exact HB.out|apply zC|apply zB|apply zD|refine zE ?_ ai.out)|exact HB.out))):w.heap.size≤aj));have bt:=zA.mk ((by rw[hg];exact Nat.ne_of_lt (qg (g:=ah) (o := .cells #[.slice ak ad.length al] 31 (0,0)) (by(with_reducible repeat(first|refine zH ?_ _|refine zI ?_|refine zG ?_ _));exact aa.out)):ah≠aj));have bz:=zA.mk ((by rw[hg];exact Nat.ne_of_gt (qg (g:=ah) (o := .cells #[.slice ak ad.length al] 31 (0,0)) (by(with_reducible repeat(first|refine zH ?_ _|refine zI ?_|refine zG ?_ _));exact aa.out)):aj≠ah));clear aE;clear aG;clear aH;clear ar;clear aa;clear HB;have aE:=ao;have aG:=aq;have aH:=aQ;have ar:=aT;have aa:=aX;have HB:=aY;have ab:=a_;have cS:=ba;have au:=bf;have aJ:=bt;have bg:=bz;clear ao aq aQ aT aX aY a_ ba bf bt bz;clear hb a7 hg;obtain⟨aw,ax,cA⟩:=Kd.Qw aE.out;subst cA;have cT:=bg.out;have cU:=aJ.out;have bJ:cz.cell? ⟨aj,0,none⟩=some (.slice none 0 0):=(zK ab.out 0).trans rfl;have bK:cz.cell? ⟨aj,1,none⟩=some (.slice none 0 0):=(zK ab.out 1).trans rfl;have bL:cz.cell? ⟨aj,2,none⟩=some (.slice none 0 0):=(zK ab.out 2).trans rfl;have bM:=zL ab.out 0;have bN:=zL ab.out 1;have bO:=zL ab.out 2;obtain⟨ay,az,cB⟩:=Kd.Qw aG.out;subst cB;obtain⟨aA,aC,cC⟩:=Kd.Qw aH.out;subst cC)|((with_reducible refine zm (N:=29) rfl ?_);refine Kd.zAk (Kd.int .i64) _ 2 ?hg (N:=29) ?hd (xs:=([]:List Int)) (inner := []) (ok:=fun _=>True) (okp:=fun _=>True) ?hr ?hp (fun _ hk=>hk) trivial (ysy _ _) (yry _) (by simp) ?_;(case hd=>rfl);(case hg=>rfl);(case hr=>first|(go_simp;done)|(go_simp;rfl));(case hp=>exact(QL.none _ _));intro bA dq bh hb cD bB;clear cD bB;(first|rw[← bS.out]at bh|(simp only [Int.reduceToNat]at bh;rw[← bS.out]at bh));have ao:=zA.mk (Kd.Zr (by(with_reducible repeat(first|apply Kd.zh|apply Kd.zi|apply Kd.qB));exact(Kd.ZB (Kd.Qe (p:=⟨aj,2,none⟩) (Kd.Qe (p:=⟨aj,1,none⟩) (Kd.Qe (p:=⟨aj,0,none⟩) (Kd.QY aE.out ab.out (by decide)) (fun _ hk=>hk.2) (.slice aw t104.length ax)) (fun _ hk=>hk.2) (.slice ay t107.length az)) (fun _ hk=>hk.2) (.slice aA t110.length aC)) (fun _ h_=>h_.1))) (Kd.ZO bh) hb);have aq:=zA.mk (Kd.Zr (by(with_reducible repeat(first|apply Kd.zh|apply Kd.zi|apply Kd.qB));exact(Kd.ZB (Kd.Qe (p:=⟨aj,2,none⟩) (Kd.Qe (p:=⟨aj,1,none⟩) (Kd.Qe (p:=⟨aj,0,none⟩) (Kd.QY aG.out ab.out (by decide)) (fun _ hk=>hk.2) (.slice aw t104.length ax)) (fun _ hk=>hk.2) (.slice ay t107.length az)) (fun _ hk=>hk.2) (.slice aA t110.length aC)) (fun _ h_=>h_.1))) (Kd.ZO bh) hb);have aQ:=zA.mk (Kd.Zr (by(with_reducible repeat(first|apply Kd.zh|apply Kd.zi|apply Kd.qB));exact(Kd.ZB (Kd.Qe (p:=⟨aj,2,none⟩) (Kd.Qe (p:=⟨aj,1,none⟩) (Kd.Qe (p:=⟨aj,0,none⟩) (Kd.QY aH.out ab.out (by decide)) (fun _ hk=>hk.2) (.slice aw t104.length ax)) (fun _ hk=>hk.2) (.slice ay t107.length az)) (fun _ hk=>hk.2) (.slice aA t110.length aC)) (fun _ h_=>h_.1))) (Kd.ZO bh) hb);have aT:=zA.mk (Kd.ZJ (by(with_reducible repeat(first|apply Kd.zR|apply Kd.zQ|apply Kd.zT));exact(Kd.zk (Kd.Zf (p:=⟨aj,2,none⟩) (Kd.Zf (p:=⟨aj,1,none⟩) (Kd.Zf (p:=⟨aj,0,none⟩) (Kd.Zi ar.out ab.out (by decide)) (fun _ hk=>hk.2) (.slice aw t104.length ax)) (fun _ hk=>hk.2) (.slice ay t107.length az)) (fun _ hk=>hk.2) (.slice aA t110.length aC)) (fun _ h_=>h_.1))) (Kd.ZO bh) hb);have aX:=zA.mk (Kd.ZG (Kd.QF bh (Kd.Qt (by(with_reducible repeat(first|apply Kd.zR|apply Kd.zQ|apply Kd.zT));exact(Kd.zk (Kd.Zf (p:=⟨aj,2,none⟩) (Kd.Zf (p:=⟨aj,1,none⟩) (Kd.Zf (p:=⟨aj,0,none⟩) (Kd.Zi ar.out ab.out (by decide)) (fun _ hk=>hk.2) (.slice aw t104.length ax)) (fun _ hk=>hk.2) (.slice ay t107.length az)) (fun _ hk=>hk.2) (.slice aA t110.length aC)) (fun _ h_=>h_.1))))) (zP (by repeat(first|(with_reducible first|exact HB.out|apply zC|apply zB|apply zD|refine zE ?_ ai.out|refine zE ?_ au.out)|exact HB.out))));have aY:=zA.mk (zN (g:=ah) (o := .cells #[.slice ak ad.length al] 31 (0,0)) (by(with_reducible repeat(first|refine zH ?_ _|refine zI ?_|refine zG ?_ _));refine qM ?_ aJ.out _;(with_reducible repeat(first|refine zH ?_ _|refine zI ?_|refine zG ?_ _));refine qM ?_ aJ.out _;(with_reducible repeat(first|refine zH ?_ _|refine zI ?_|refine zG ?_ _));refine qM ?_ aJ.out _;(with_reducible repeat(first|refine zH ?_ _|refine zI ?_|refine zG ?_ _));exact aa.out) hb);have a_:=zA.mk (zN (g:=aj) (o := .cells #[.slice aw t104.length ax,.slice ay t107.length az,.slice aA t110.length aC] 44 (0,0)) (by(with_reducible repeat(first|refine zH ?_ _|refine zI ?_|refine zG ?_ _));refine qc (cs:=#[.slice aw t104.length ax,.slice ay t107.length az,.slice none 0 0]) ?_ 2 _ rfl;(with_reducible repeat(first|refine zH ?_ _|refine zI ?_|refine zG ?_ _));refine qc (cs:=#[.slice aw t104.length ax,.slice none 0 0,.slice none 0 0]) ?_ 1 _ rfl;(with_reducible repeat(first|refine zH ?_ _|refine zI ?_|refine zG ?_ _));refine qc (cs:=#[.slice none 0 0,.slice none 0 0,.slice none 0 0]) ?_ 0 _ rfl;(with_reducible repeat(first|refine zH ?_ _|refine zI ?_|refine zG ?_ _));exact ab.out) hb);have ba:=zA.mk (zM (by repeat(first|(with_reducible first|exact HB.out|apply zC|apply zB|apply zD|refine zE ?_ ai.out|refine zE ?_ au.out)|exact HB.out)) hb);clear aE;clear aG;clear aH;clear ar;clear aa;clear ab;clear HB;have aE:=ao;have aG:=aq;have aH:=aQ;have ar:=aT;have aV:=aX;have aa:=aY;have ab:=a_;have HB:=ba;clear ao aq aQ aT aX aY a_ ba;clear hb bh)|((with_reducible refine zm (N:=30) rfl ?_);refine Kd.zAk (Kd.int .i64) _ 2 ?hg (N:=30) ?hd (xs:=([]:List Int)) (inner := []) (ok:=fun _=>True) (okp:=fun _=>True) ?hr ?hp (fun _ hk=>hk) trivial (ysy _ _) (yry _) (by simp) ?_;(case hd=>rfl);(case hg=>rfl);(case hr=>first|(go_simp;done)|(go_simp;rfl));(case hp=>exact(QL.none _ _));intro cE dr bd hb cD bB;clear cD bB;(first|rw[← bT.out]at bd|(simp only [Int.reduceToNat]at bd;rw[← bT.out]at bd));have ao:=zA.mk (Kd.Zr (by(with_reducible repeat(first|apply Kd.zh|apply Kd.zi|apply Kd.qB));exact aE.out) (Kd.ZO bd) hb);have aq:=zA.mk (Kd.Zr (by(with_reducible repeat(first|apply Kd.zh|apply Kd.zi|apply Kd.qB));exact aG.out) (Kd.ZO bd) hb);have aQ:=zA.mk (Kd.Zr (by(with_reducible repeat(first|apply Kd.zh|apply Kd.zi|apply Kd.qB));exact aH.out) (Kd.ZO bd) hb);have aT:=zA.mk (Kd.ZJ (by(with_reducible repeat(first|apply Kd.zR|apply Kd.zQ|apply Kd.zT));exact ar.out) (Kd.ZO bd) hb);have aX:=zA.mk (Kd.ZJ (by(with_reducible repeat(first|apply Kd.zR|apply Kd.zQ|apply Kd.zT));exact aV.out) (Kd.ZO bd) hb);have aY:=zA.mk (Kd.ZG (Kd.QF (Kd.QF bd (Kd.Qt (by(with_reducible repeat(first|apply Kd.zR|apply Kd.zQ|apply Kd.zT));exact ar.out))) (Kd.Qt (by(with_reducible repeat(first|apply Kd.zR|apply Kd.zQ|apply Kd.zT));exact aV.out))) (zP (by repeat(first|(with_reducible first|exact HB.out|apply zC|apply zB|apply zD|refine zE ?_ ai.out|refine zE ?_ au.out)|exact HB.out))));have a_:=zA.mk (zN (g:=ah) (o := .cells #[.slice ak ad.length al] 31 (0,0)) (by(with_reducible repeat(first|refine zH ?_ _|refine zI ?_|refine zG ?_ _));exact aa.out) hb);have ba:=zA.mk (zN (g:=aj) (o := .cells #[.slice aw t104.length ax,.slice ay t107.length az,.slice aA t110.length aC] 44 (0,0)) (by(with_reducible repeat(first|refine zH ?_ _|refine zI ?_|refine zG ?_ _));exact ab.out) hb);have bf:=zA.mk (zM (by repeat(first|(with_reducible first|exact HB.out|apply zC|apply zB|apply zD|refine zE ?_ ai.out|refine zE ?_ au.out)|exact HB.out)) hb);clear aE;clear aG;clear aH;clear ar;clear aV;clear aa;clear ab;clear HB;have aE:=ao;have aG:=aq;have aH:=aQ;have ar:=aT;have aV:=aX;have bu:=aY;have aa:=a_;have ab:=ba;have HB:=bf;clear ao aq aQ aT aX aY a_ ba bf;clear hb bd)|((with_reducible refine ZX (b := .append) (xs:=#[.tmp 30,.tmp 31]) rfl ?_);at_builtin;refine Kd.zA4 (Kd.int .i64) (w0:=w) w.heap.size rfl (.tmp 30) (.tmp 31) 25 2 (.int .i64 0) 8 rfl Try.underlying25 JL rfl (by decide) (by omega) cE aI l1 _ _ _ (fun k_=>some k_≠(a8:Value).ownBlock∧some k_≠(bA:Value).ownBlock) (fun _=>False) rfl rfl ?aO ?aR (fun _ _ h=>h) (fun _ h=>h.elim) ?aF ?aB ?aS ?aL ?_;(case aR=>repeat(first|exact(Kd.qA b_.out HB.out)|(with_reducible refine Kd.zu ?_ _)|(with_reducible refine Kd.zv ?_ _)|(with_reducible refine Kd.qK ?_)));(case aB=>exact(by repeat(first|(with_reducible first|exact HB.out|apply zC|apply zB|apply zD|refine zE ?_ ai.out|refine zE ?_ au.out)|exact HB.out)));(case aF=>exact(fun k_ hk=>⟨Kd.JD (Kd.Qt (by(with_reducible repeat(first|apply Kd.zR|apply Kd.zQ|apply Kd.zT));exact ar.out)) k_ hk,Kd.JD (Kd.Qt (by(with_reducible repeat(first|apply Kd.zR|apply Kd.zQ|apply Kd.zT));exact aV.out)) k_ hk⟩));(case aO=>exact(by(with_reducible repeat(first|apply Kd.zR|apply Kd.zQ|apply Kd.zT));exact Kd.zk bu.out (fun _ hk=>⟨hk.1.2,hk.2⟩)));(case aS=>exact(zP (by repeat(first|(with_reducible first|exact HB.out|apply zC|apply zB|apply zD|refine zE ?_ ai.out|refine zE ?_ au.out)|exact HB.out))));(case aL=>have:=cy.out;omega);intro v124 ds ho hb hg bw;rw[← b0.out]at ho;have ao:=zA.mk (qh (g:=ah) (o := .cells #[.slice ak ad.length al] 31 (0,0)) (by(with_reducible repeat(first|refine zH ?_ _|refine zI ?_|refine zG ?_ _));exact aa.out) hg (Kd.zAj bu.out aa.out (by decide)));have aq:=zA.mk (Kd.QC (ok:=(fun k_=>some k_≠(.slice ay t107.length az:Value).ownBlock∧some k_≠(.slice aA t110.length aC:Value).ownBlock∧some k_≠(a8:Value).ownBlock∧some k_≠(bA:Value).ownBlock)) (by(with_reducible repeat(first|apply Kd.zh|apply Kd.zi|apply Kd.qB));exact Kd.ZB aE.out (fun _ hk=>⟨⟨hk.1.1.1,⟨hk.1.1.2.1,⟨hk.1.1.2.2,hk.1.2⟩⟩⟩,hk.2⟩)) hg bw);have aQ:=zA.mk (Kd.QC (ok:=(fun k_=>some k_≠(.slice aw t104.length ax:Value).ownBlock∧some k_≠(.slice aA t110.length aC:Value).ownBlock∧some k_≠(a8:Value).ownBlock∧some k_≠(bA:Value).ownBlock)) (by(with_reducible repeat(first|apply Kd.zh|apply Kd.zi|apply Kd.qB));exact Kd.ZB aG.out (fun _ hk=>⟨⟨hk.1.1.1,⟨hk.1.1.2.1,⟨hk.1.1.2.2,hk.1.2⟩⟩⟩,hk.2⟩)) hg bw);have aT:=zA.mk (Kd.QC (ok:=(fun k_=>some k_≠(.slice aw t104.length ax:Value).ownBlock∧some k_≠(.slice ay t107.length az:Value).ownBlock∧some k_≠(a8:Value).ownBlock∧some k_≠(bA:Value).ownBlock)) (by(with_reducible repeat(first|apply Kd.zh|apply Kd.zi|apply Kd.qB));exact Kd.ZB aH.out (fun _ hk=>⟨⟨hk.1.1.1,⟨hk.1.1.2.1,⟨hk.1.1.2.2,hk.1.2⟩⟩⟩,hk.2⟩)) hg bw);have aX:=zA.mk (Kd.ZP (ok:=(fun k_=>some k_≠(bA:Value).ownBlock)) (by(with_reducible repeat(first|apply Kd.zR|apply Kd.zQ|apply Kd.zT));exact Kd.zk ar.out (fun _ hk=>⟨hk.1.2,hk.2⟩)) hg bw);have aY:=zA.mk (qh (g:=aj) (o := .cells #[.slice aw t104.length ax,.slice ay t107.length az,.slice aA t110.length aC] 44 (0,0)) (by(with_reducible repeat(first|refine zH ?_ _|refine zI ?_|refine zG ?_ _));exact ab.out) hg (Kd.zAj bu.out ab.out (by decide)));have a_:=zA.mk (Kd.ZP (ok:=(fun k_=>some k_≠(a8:Value).ownBlock)) (by(with_reducible repeat(first|apply Kd.zR|apply Kd.zQ|apply Kd.zT));exact Kd.zk aV.out (fun _ hk=>⟨hk.1.2,hk.2⟩)) hg bw);have ba:=zA.mk (hb);have bf:=zA.mk (ho);clear aa;clear aE;clear aG;clear aH;clear ar;clear ab;clear aV;clear HB;clear bu;have aa:=ao;have aE:=aq;have aG:=aQ;have aH:=aT;have ar:=aX;have ab:=aY;have aV:=a_;have HB:=ba;have b1:=bf;clear ao aq aQ aT aX aY a_ ba bf;clear ho hb hg bw))
 go_loopg [10,11,12] k (fun kq v10 v11 v12 w' => ∃ (aU:List Int) (aZ:List Int) (aK:Int),v12 = .int .i64 aK∧zA (qG.l0 kq l1 t113 aU aZ aK ad t104 t107 t110=some (r1,r2,r3))∧zA (kq≤k)∧zA (Kd.R (Kd.int .i64) 2 w' w.heap.size (fun k_=>some k_≠(v10:Value).ownBlock∧some k_≠(v11:Value).ownBlock) a8 t113)∧zA (Kd.R (Kd.int .i64) 2 w' w.heap.size (fun k_=>some k_≠(a8:Value).ownBlock∧some k_≠(v11:Value).ownBlock) v10 aU)∧zA (Kd.R (Kd.int .i64) 2 w' w.heap.size (fun k_=>some k_≠(a8:Value).ownBlock∧some k_≠(v10:Value).ownBlock) v11 aZ)∧zA (Kd.S (Kd.slice 2 (Kd.int .i64)) 25 w' w.heap.size (fun k_=>some k_≠(a8:Value).ownBlock∧some k_≠(v10:Value).ownBlock∧some k_≠(v11:Value).ownBlock∧some k_≠((.slice ay t107.length az):Value).ownBlock∧some k_≠((.slice aA t110.length aC):Value).ownBlock) (.slice aw t104.length ax) t104)∧zA (Kd.S (Kd.slice 2 (Kd.int .i64)) 25 w' w.heap.size (fun k_=>some k_≠(a8:Value).ownBlock∧some k_≠(v10:Value).ownBlock∧some k_≠(v11:Value).ownBlock∧some k_≠((.slice aw t104.length ax):Value).ownBlock∧some k_≠((.slice aA t110.length aC):Value).ownBlock) (.slice ay t107.length az) t107)∧zA (Kd.S (Kd.slice 2 (Kd.int .i64)) 25 w' w.heap.size (fun k_=>some k_≠(a8:Value).ownBlock∧some k_≠(v10:Value).ownBlock∧some k_≠(v11:Value).ownBlock∧some k_≠((.slice aw t104.length ax):Value).ownBlock∧some k_≠((.slice ay t107.length az):Value).ownBlock) (.slice aA t110.length aC) t110)∧zA (w'.heap[ah]?=some (.cells #[(.slice ak ad.length al)] 31 (0,0)))∧zA (w'.heap[aj]?=some (.cells #[(.slice aw t104.length ax),(.slice ay t107.length az),(.slice aA t110.length aC)] 44 (0,0)))∧zA (Below w.heap.size w w'))
 case atStart=>exact⟨(bC),(bZ),(0),(by first|rfl|(simp;done)|(simp [*];done)),H',⟨yry _⟩,⟨by(with_reducible repeat(first|apply Kd.zR|apply Kd.zQ|apply Kd.zT));exact ar.out⟩,⟨by(with_reducible repeat(first|apply Kd.zR|apply Kd.zQ|apply Kd.zT));exact aV.out⟩,⟨by(with_reducible repeat(first|apply Kd.zR|apply Kd.zQ|apply Kd.zT));exact b1.out⟩,⟨by(with_reducible repeat(first|apply Kd.zh|apply Kd.zi|apply Kd.qB));exact Kd.ZB aE.out (fun _ hk=>⟨hk.1.2.2.1,⟨hk.1.2.2.2,⟨hk.2,⟨hk.1.1,hk.1.2.1⟩⟩⟩⟩)⟩,⟨by(with_reducible repeat(first|apply Kd.zh|apply Kd.zi|apply Kd.qB));exact Kd.ZB aG.out (fun _ hk=>⟨hk.1.2.2.1,⟨hk.1.2.2.2,⟨hk.2,⟨hk.1.1,hk.1.2.1⟩⟩⟩⟩)⟩,⟨by(with_reducible repeat(first|apply Kd.zh|apply Kd.zi|apply Kd.qB));exact Kd.ZB aH.out (fun _ hk=>⟨hk.1.2.2.1,⟨hk.1.2.2.2,⟨hk.2,⟨hk.1.1,hk.1.2.1⟩⟩⟩⟩)⟩,⟨by(with_reducible repeat(first|refine zH ?_ _|refine zI ?_|refine zG ?_ _));exact aa.out⟩,⟨by(with_reducible repeat(first|refine zH ?_ _|refine zI ?_|refine zG ?_ _));exact ab.out⟩,⟨by repeat(first|(with_reducible first|exact HB.out|apply zC|apply zB|apply zD|refine zE ?_ ai.out|refine zE ?_ au.out)|exact HB.out)⟩⟩
 case round=>
  clear H';(try clear c1);(try clear p2);(try clear c4);(try clear bX);(try clear bY);(try clear c5);(try clear c6);(try clear c8);(try clear c15);(try clear c16);(try clear c17);(try clear c18);(try clear bD);(try clear bF);(try clear bH);(try clear bJ);(try clear bK);(try clear bL);(try clear bE);(try clear bG);(try clear bI);(try clear bM);(try clear bN);(try clear bO);obtain⟨aU,aZ,aK,rfl,HA,cV,aM,aN,an,ae,af,ag,aa,ab,HB⟩:=hrel
  cases gk with
  | zero=>exact absurd HA.out (by simp [qG.l0])
  | succ k1=>
   have H:=HA.out;clear HA;simp only [qG.l0]at H;by_cases cj:0<(t113.length:Int)
   case neg=>
    rw[if_neg cj]at H;exact absurd H (by simp)
   rw[if_pos cj]at H;have cW:decide (0<(t113.length:Int))=true:=ygy cj;have cX:decide (0<t113.length)=true:=ygy (by omega);clear cj;by_cases bW:aK<(rd t113 0)
   case neg=>
    rw[if_neg bW]at H;have b2:decide (aK<(rd t113 0))=false:=yhy bW;clear bW;simp only [Option.some.injEq,Prod.mk.injEq]at H;obtain⟨rfl,rfl,rfl⟩:=H;obtain⟨dd,de,cF⟩:=Kd.ZM aM.out;subst cF;have br:0≤(0:Int):=(by omega);have bs:0<(t113.length:Int):=of_decide_eq_true (by first|(with_reducible assumption)|assumption);obtain⟨bb,bU,aW⟩:=Kd.ZA (Kd.zn aM.out).2.2 0 br bs
    cases bU;have b3:(0<t113.length)=True:=eq_true (by omega);(try rw[show((0:Int)).toNat=0 from rfl]at aW);(try rw[Addr.add_zero']at aW);replace br:=eq_true br;replace bs:=eq_true bs;go_wp2;go_ret3
    exact⟨_,_,by first|rfl|(simp [zV,zW] <;> rfl)|(simp [*,zV,zW] <;> rfl),by(with_reducible repeat(first|apply Kd.zR|apply Kd.zQ|apply Kd.zT));exact Kd.zk aN.out (fun _ hk=>hk.2),by(with_reducible repeat(first|apply Kd.zR|apply Kd.zQ|apply Kd.zT));exact Kd.zk an.out (fun _ hk=>hk.2),by repeat(first|(with_reducible first|exact HB.out|apply zC|apply zB|apply zD|refine zE ?_ ai.out|refine zE ?_ au.out)|exact HB.out)⟩
   rw[if_pos bW]at H;have b2:decide (aK<(rd t113 0))=true:=ygy bW;clear bW;replace H:=ydy.mp H;obtain⟨t127,b4,H⟩:=H;replace H:((qy.f k1 l1 t127).bind fun t130=>(if aU.length<17592186044416 then((qW.f k1 aZ t127 (wrap64 (-t130))).bind fun t134=>(qG.l0 k1 l1 t113 (aU ++ [t130]) t134 (wrap64 (aK+1)) ad t104 t107 t110))else(none)))=some (r1,r2,r3):=H;have df:=zA.mk b4;clear b4;replace H:=ydy.mp H;obtain⟨t130,b5,H⟩:=H;replace H:(if aU.length<17592186044416 then((qW.f k1 aZ t127 (wrap64 (-t130))).bind fun t134=>(qG.l0 k1 l1 t113 (aU ++ [t130]) t134 (wrap64 (aK+1)) ad t104 t107 t110))else(none))=some (r1,r2,r3):=H;have ca:=zA.mk b5;clear b5;by_cases ck:aU.length<17592186044416
   case neg=>
    rw[if_neg ck]at H;exact absurd H (by simp)
   rw[if_pos ck]at H;have b6:=zA.mk ck;clear ck;obtain⟨bV,bm⟩ : ∃ y_:List Int,y_=(aU ++ [t130]):=⟨_,rfl⟩
   replace H:((qW.f k1 aZ t127 (wrap64 (-t130))).bind fun t134=>(qG.l0 k1 l1 t113 bV t134 (wrap64 (aK+1)) ad t104 t107 t110))=some (r1,r2,r3):=by first|(rw[bm];with_reducible exact H)|(have bq:=(yfy _ _).symm.trans H;rw[bm];with_reducible exact bq)|(have bq:=(yfy _ _).symm.trans H;with_reducible exact bq)|with_reducible exact H|(rw[bm];exact H)|exact H
   have b7:=zA.mk bm;clear bm;replace H:=ydy.mp H;obtain⟨t134,b8,H⟩:=H;replace H:(qG.l0 k1 l1 t113 bV t134 (wrap64 (aK+1)) ad t104 t107 t110)=some (r1,r2,r3):=H;have dg:=zA.mk b8;clear b8;have H':=zA.mk H;clear H;obtain⟨dh,bx,cG⟩:=Kd.ZM aM.out;subst cG;have br:0≤(0:Int):=(by omega);have bs:0<(t113.length:Int):=of_decide_eq_true (by first|(with_reducible assumption)|assumption);obtain⟨bb,bU,aW⟩:=Kd.ZA (Kd.zn aM.out).2.2 0 br bs
   cases bU;have b3:(0<t113.length)=True:=eq_true (by omega);(try rw[show((0:Int)).toNat=0 from rfl]at aW);(try rw[Addr.add_zero']at aW);replace br:=eq_true br;replace bs:=eq_true bs;have cY:=aJ.out;have cZ:=bg.out;have cl:wr.cell? ⟨ah,0,none⟩=some (.slice ak ad.length al):=(zK aa.out 0).trans rfl;have cm:=zL aa.out 0;have cn:wr.cell? ⟨aj,0,none⟩=some (.slice aw t104.length ax):=(zK ab.out 0).trans rfl;have cp:wr.cell? ⟨aj,1,none⟩=some (.slice ay t107.length az):=(zK ab.out 1).trans rfl;have cq:wr.cell? ⟨aj,2,none⟩=some (.slice aA t110.length aC):=(zK ab.out 2).trans rfl;have cr:=zL ab.out 0;have ct:=zL ab.out 1;have cu:=zL ab.out 2;go_wp2_with (first|((with_reducible refine zU (f:=18) rfl ?_);refine qD (some 43) rfl rfl Try.func18 (by kernel_rfl) rfl #[.agg #[.slice ak ad.length al],.agg #[.slice aw t104.length ax,.slice ay t107.length az,.slice aA t110.length aC],.int .i64 aK] rfl (by(try simp only [yiy,yjy,yky]);first|done|rfl|(simp only [yly,ymy];rfl)) ?_;(with_reducible refine(qN.calls k1 _ _ ad _ _ t104 _ _ t107 _ _ t110 aK t127 _ ?side1 ?side2 ?side3 ?side4 ?side5 ?side6 ?side7 ?side8 df.out).mono ?_);(case side1=>repeat(first|exact(Kd.qA a1.out HB.out)|(with_reducible refine Kd.zu ?_ _)|(with_reducible refine Kd.zv ?_ _)|(with_reducible refine Kd.qK ?_)));(case side2=>exact a6.out);(case side3=>repeat(first|exact(Kd.QE ae.out).2.2|(with_reducible refine Kd.zu ?_ _)|(with_reducible refine Kd.zv ?_ _)|(with_reducible refine Kd.qK ?_)));(case side4=>exact(Kd.QE ae.out).2.1);(case side5=>repeat(first|exact(Kd.QE af.out).2.2|(with_reducible refine Kd.zu ?_ _)|(with_reducible refine Kd.zv ?_ _)|(with_reducible refine Kd.qK ?_)));(case side6=>exact(Kd.QE af.out).2.1);(case side7=>repeat(first|exact(Kd.QE ag.out).2.2|(with_reducible refine Kd.zu ?_ _)|(with_reducible refine Kd.zv ?_ _)|(with_reducible refine Kd.qK ?_)));(case side8=>exact(Kd.QE ag.out).2.1);rintro e dt ⟨di,rfl,bc,hb⟩;refine⟨_,rfl,?_⟩;have ao:=zA.mk (Kd.ZJ (by(with_reducible repeat(first|apply Kd.zR|apply Kd.zQ|apply Kd.zT));exact aM.out) (Kd.ZO bc) hb);have aq:=zA.mk (Kd.ZJ (by(with_reducible repeat(first|apply Kd.zR|apply Kd.zQ|apply Kd.zT));exact aN.out) (Kd.ZO bc) hb);have aQ:=zA.mk (Kd.ZJ (by(with_reducible repeat(first|apply Kd.zR|apply Kd.zQ|apply Kd.zT));exact an.out) (Kd.ZO bc) hb);have aT:=zA.mk (Kd.Zr (by(with_reducible repeat(first|apply Kd.zh|apply Kd.zi|apply Kd.qB));exact ae.out) (Kd.ZO bc) hb);have aX:=zA.mk (Kd.Zr (by(with_reducible repeat(first|apply Kd.zh|apply Kd.zi|apply Kd.qB));exact af.out) (Kd.ZO bc) hb);have aY:=zA.mk (Kd.Zr (by(with_reducible repeat(first|apply Kd.zh|apply Kd.zi|apply Kd.qB));exact ag.out) (Kd.ZO bc) hb);have a_:=zA.mk (Kd.ZG (Kd.QF (Kd.QF (Kd.QF bc (Kd.Qt (by(with_reducible repeat(first|apply Kd.zR|apply Kd.zQ|apply Kd.zT));exact aM.out))) (Kd.Qt (by(with_reducible repeat(first|apply Kd.zR|apply Kd.zQ|apply Kd.zT));exact aN.out))) (Kd.Qt (by(with_reducible repeat(first|apply Kd.zR|apply Kd.zQ|apply Kd.zT));exact an.out))) (zP (by repeat(first|(with_reducible first|exact HB.out|apply zC|apply zB|apply zD|refine zE ?_ ai.out|refine zE ?_ au.out)|exact HB.out))));have ba:=zA.mk (zN (g:=ah) (o := .cells #[.slice ak ad.length al] 31 (0,0)) (by(with_reducible repeat(first|refine zH ?_ _|refine zI ?_|refine zG ?_ _));exact aa.out) hb);have bf:=zA.mk (zN (g:=aj) (o := .cells #[.slice aw t104.length ax,.slice ay t107.length az,.slice aA t110.length aC] 44 (0,0)) (by(with_reducible repeat(first|refine zH ?_ _|refine zI ?_|refine zG ?_ _));exact ab.out) hb);have bt:=zA.mk (zM (by repeat(first|(with_reducible first|exact HB.out|apply zC|apply zB|apply zD|refine zE ?_ ai.out|refine zE ?_ au.out)|exact HB.out)) hb);clear aM;clear aN;clear an;clear ae;clear af;clear ag;clear aa;clear ab;clear HB;have aM:=ao;have aN:=aq;have an:=aQ;have ae:=aT;have af:=aX;have ag:=aY;have av:=a_;have aa:=ba;have ab:=bf;have HB:=bt;clear ao aq aQ aT aX aY a_ ba bf bt;(try clear hb);(try clear hb2);(try clear hk);(try clear hi);(try clear bc);obtain⟨bn,bo,cH⟩:=Kd.ZM av.out;subst cH)|((with_reducible refine zU (f:=19) rfl ?_);refine qD (some 46) rfl rfl Try.func19 (by kernel_rfl) rfl #[.slice A1 l1.length c1,.slice bn t127.length bo] rfl (by(try simp only [yiy,yjy,yky]);first|done|rfl|(simp only [yly,ymy];rfl)) ?_;(with_reducible refine(qy.calls k1 _ _ l1 _ _ t127 t130 _ ?side1 ?side2 ?side3 ?side4 ca.out).mono ?_);(case side1=>repeat(first|exact(Kd.qA b_.out HB.out)|(with_reducible refine Kd.zu ?_ _)|(with_reducible refine Kd.zv ?_ _)|(with_reducible refine Kd.qK ?_)));(case side2=>exact cx.out);(case side3=>repeat(first|exact(Kd.zn av.out).2.2|(with_reducible refine Kd.zu ?_ _)|(with_reducible refine Kd.zv ?_ _)|(with_reducible refine Kd.qK ?_)));(case side4=>exact(Kd.zn av.out).2.1);rintro e du ⟨rfl,hb⟩;refine⟨_,rfl,?_⟩;have ao:=zA.mk (Kd.qV (by(with_reducible repeat(first|apply Kd.zR|apply Kd.zQ|apply Kd.zT));exact aM.out) hb);have aq:=zA.mk (Kd.qV (by(with_reducible repeat(first|apply Kd.zR|apply Kd.zQ|apply Kd.zT));exact aN.out) hb);have aQ:=zA.mk (Kd.qV (by(with_reducible repeat(first|apply Kd.zR|apply Kd.zQ|apply Kd.zT));exact an.out) hb);have aT:=zA.mk (Kd.QH (by(with_reducible repeat(first|apply Kd.zh|apply Kd.zi|apply Kd.qB));exact ae.out) hb);have aX:=zA.mk (Kd.QH (by(with_reducible repeat(first|apply Kd.zh|apply Kd.zi|apply Kd.qB));exact af.out) hb);have aY:=zA.mk (Kd.QH (by(with_reducible repeat(first|apply Kd.zh|apply Kd.zi|apply Kd.qB));exact ag.out) hb);have a_:=zA.mk (Kd.qV (by(with_reducible repeat(first|apply Kd.zR|apply Kd.zQ|apply Kd.zT));exact av.out) hb);have ba:=zA.mk (zN (g:=ah) (o := .cells #[.slice ak ad.length al] 31 (0,0)) (by(with_reducible repeat(first|refine zH ?_ _|refine zI ?_|refine zG ?_ _));exact aa.out) hb);have bf:=zA.mk (zN (g:=aj) (o := .cells #[.slice aw t104.length ax,.slice ay t107.length az,.slice aA t110.length aC] 44 (0,0)) (by(with_reducible repeat(first|refine zH ?_ _|refine zI ?_|refine zG ?_ _));exact ab.out) hb);have bt:=zA.mk (zM (by repeat(first|(with_reducible first|exact HB.out|apply zC|apply zB|apply zD|refine zE ?_ ai.out|refine zE ?_ au.out)|exact HB.out)) hb);clear aM;clear aN;clear an;clear ae;clear af;clear ag;clear av;clear aa;clear ab;clear HB;have aM:=ao;have aN:=aq;have an:=aQ;have ae:=aT;have af:=aX;have ag:=aY;have av:=a_;have aa:=ba;have ab:=bf;have HB:=bt;clear ao aq aQ aT aX aY a_ ba bf bt;(try clear hb);(try clear hb2);(try clear hk);(try clear hi))|((with_reducible refine ZX (b := .append) (xs:=#[.tmp 47,.tmp 49]) rfl ?_);at_builtin;refine Kd.Je (Kd.int .i64) (w0:=w) w.heap.size rfl (.tmp 47) (.tmp 49) 25 2 (.int .i64 0) 8 rfl Try.underlying25 JL rfl (by decide) (by omega) u10 aU t130 [.int .i64 t130] (fun k_=>some k_≠(.slice (some bb) t113.length bx:Value).ownBlock∧some k_≠(u11:Value).ownBlock∧some k_≠(.slice bn t127.length bo:Value).ownBlock) (fun _=>False) rfl rfl ?aP (fun _ hk=>hk.elim) ?aF ?aO ?aB ?aS ?aL ?_;(case aP=>exact rfl);(case aB=>exact(by repeat(first|(with_reducible first|exact HB.out|apply zC|apply zB|apply zD|refine zE ?_ ai.out|refine zE ?_ au.out)|exact HB.out)));(case aF=>exact(fun k_ hk=>⟨Kd.JD (Kd.Qt (by(with_reducible repeat(first|apply Kd.zR|apply Kd.zQ|apply Kd.zT));exact aM.out)) k_ hk,Kd.JD (Kd.Qt (by(with_reducible repeat(first|apply Kd.zR|apply Kd.zQ|apply Kd.zT));exact an.out)) k_ hk,Kd.JD (Kd.Qt (by(with_reducible repeat(first|apply Kd.zR|apply Kd.zQ|apply Kd.zT));exact av.out)) k_ hk⟩));(case aO=>exact(by(with_reducible repeat(first|apply Kd.zR|apply Kd.zQ|apply Kd.zT));exact Kd.zk aN.out (fun _ hk=>⟨hk.1.1,⟨hk.1.2,hk.2⟩⟩)));(case aS=>exact(zP (by repeat(first|(with_reducible first|exact HB.out|apply zC|apply zB|apply zD|refine zE ?_ ai.out|refine zE ?_ au.out)|exact HB.out))));(case aL=>have:=b6.out;omega);intro dj dv ho hb hg bw;rw[← b7.out]at ho;have ao:=zA.mk (Kd.ZP (ok:=(fun k_=>some k_≠(u11:Value).ownBlock∧some k_≠(.slice bn t127.length bo:Value).ownBlock)) (by(with_reducible repeat(first|apply Kd.zR|apply Kd.zQ|apply Kd.zT));exact Kd.zk aM.out (fun _ hk=>⟨⟨hk.1.2,hk.2⟩,hk.1.1⟩)) hg bw);have aq:=zA.mk (Kd.ZP (ok:=(fun k_=>some k_≠(.slice (some bb) t113.length bx:Value).ownBlock∧some k_≠(.slice bn t127.length bo:Value).ownBlock)) (by(with_reducible repeat(first|apply Kd.zR|apply Kd.zQ|apply Kd.zT));exact Kd.zk an.out (fun _ hk=>⟨⟨hk.1.1,hk.2⟩,hk.1.2⟩)) hg bw);have aQ:=zA.mk (Kd.QC (ok:=(fun k_=>some k_≠(.slice (some bb) t113.length bx:Value).ownBlock∧some k_≠(u11:Value).ownBlock∧some k_≠(.slice ay t107.length az:Value).ownBlock∧some k_≠(.slice aA t110.length aC:Value).ownBlock∧some k_≠(.slice bn t127.length bo:Value).ownBlock)) (by(with_reducible repeat(first|apply Kd.zh|apply Kd.zi|apply Kd.qB));exact Kd.ZB ae.out (fun _ hk=>⟨⟨hk.1.1,⟨hk.1.2.2.1,⟨hk.1.2.2.2.1,⟨hk.1.2.2.2.2,hk.2⟩⟩⟩⟩,hk.1.2.1⟩)) hg bw);have aT:=zA.mk (Kd.QC (ok:=(fun k_=>some k_≠(.slice (some bb) t113.length bx:Value).ownBlock∧some k_≠(u11:Value).ownBlock∧some k_≠(.slice aw t104.length ax:Value).ownBlock∧some k_≠(.slice aA t110.length aC:Value).ownBlock∧some k_≠(.slice bn t127.length bo:Value).ownBlock)) (by(with_reducible repeat(first|apply Kd.zh|apply Kd.zi|apply Kd.qB));exact Kd.ZB af.out (fun _ hk=>⟨⟨hk.1.1,⟨hk.1.2.2.1,⟨hk.1.2.2.2.1,⟨hk.1.2.2.2.2,hk.2⟩⟩⟩⟩,hk.1.2.1⟩)) hg bw);have aX:=zA.mk (Kd.QC (ok:=(fun k_=>some k_≠(.slice (some bb) t113.length bx:Value).ownBlock∧some k_≠(u11:Value).ownBlock∧some k_≠(.slice aw t104.length ax:Value).ownBlock∧some k_≠(.slice ay t107.length az:Value).ownBlock∧some k_≠(.slice bn t127.length bo:Value).ownBlock)) (by(with_reducible repeat(first|apply Kd.zh|apply Kd.zi|apply Kd.qB));exact Kd.ZB ag.out (fun _ hk=>⟨⟨hk.1.1,⟨hk.1.2.2.1,⟨hk.1.2.2.2.1,⟨hk.1.2.2.2.2,hk.2⟩⟩⟩⟩,hk.1.2.1⟩)) hg bw);have aY:=zA.mk (qh (g:=ah) (o := .cells #[.slice ak ad.length al] 31 (0,0)) (by(with_reducible repeat(first|refine zH ?_ _|refine zI ?_|refine zG ?_ _));exact aa.out) hg (Kd.zAj aN.out aa.out (by decide)));have a_:=zA.mk (qh (g:=aj) (o := .cells #[.slice aw t104.length ax,.slice ay t107.length az,.slice aA t110.length aC] 44 (0,0)) (by(with_reducible repeat(first|refine zH ?_ _|refine zI ?_|refine zG ?_ _));exact ab.out) hg (Kd.zAj aN.out ab.out (by decide)));have ba:=zA.mk (Kd.ZP (ok:=(fun k_=>some k_≠(.slice (some bb) t113.length bx:Value).ownBlock∧some k_≠(u11:Value).ownBlock)) (by(with_reducible repeat(first|apply Kd.zR|apply Kd.zQ|apply Kd.zT));exact Kd.zk av.out (fun _ hk=>⟨⟨hk.1.1.2,hk.2⟩,hk.1.2⟩)) hg bw);have bf:=zA.mk (hb);have bt:=zA.mk (ho);clear aM;clear an;clear ae;clear af;clear ag;clear aa;clear ab;clear av;clear HB;clear aN;have aM:=ao;have an:=aq;have ae:=aQ;have af:=aT;have ag:=aX;have aa:=aY;have ab:=a_;have av:=ba;have HB:=bf;have bp:=bt;clear ao aq aQ aT aX aY a_ ba bf bt;clear ho hb hg bw;obtain⟨cI,cJ,cK⟩:=Kd.ZM an.out;subst cK)|((with_reducible refine zU (f:=20) rfl ?_);refine qD (some 55) rfl rfl Try.func20 (by kernel_rfl) rfl #[.slice cI aZ.length cJ,.slice bn t127.length bo,.int .i64 (wrap64 (-t130))] rfl (by(try simp only [yiy,yjy,yky]);first|done|rfl|(simp only [yly,ymy];rfl)) ?_;(with_reducible refine(qW.calls k1 _ _ aZ _ _ t127 (wrap64 (-t130)) t134 _ ?side1 ?side2 ?side3 ?side4 dg.out).mono ?_);(case side1=>repeat(first|exact(Kd.zn an.out).2.2|(with_reducible refine Kd.zu ?_ _)|(with_reducible refine Kd.zv ?_ _)|(with_reducible refine Kd.qK ?_)));(case side2=>exact(Kd.zn an.out).2.1);(case side3=>repeat(first|exact(Kd.zn av.out).2.2|(with_reducible refine Kd.zu ?_ _)|(with_reducible refine Kd.zv ?_ _)|(with_reducible refine Kd.qK ?_)));(case side4=>exact(Kd.zn av.out).2.1);rintro e dw ⟨dk,rfl,bc,hb⟩;refine⟨_,rfl,?_⟩;have ao:=zA.mk (Kd.ZJ (by(with_reducible repeat(first|apply Kd.zR|apply Kd.zQ|apply Kd.zT));exact aM.out) (Kd.ZO bc) hb);have aq:=zA.mk (Kd.ZJ (by(with_reducible repeat(first|apply Kd.zR|apply Kd.zQ|apply Kd.zT));exact an.out) (Kd.ZO bc) hb);have aQ:=zA.mk (Kd.Zr (by(with_reducible repeat(first|apply Kd.zh|apply Kd.zi|apply Kd.qB));exact ae.out) (Kd.ZO bc) hb);have aT:=zA.mk (Kd.Zr (by(with_reducible repeat(first|apply Kd.zh|apply Kd.zi|apply Kd.qB));exact af.out) (Kd.ZO bc) hb);have aX:=zA.mk (Kd.Zr (by(with_reducible repeat(first|apply Kd.zh|apply Kd.zi|apply Kd.qB));exact ag.out) (Kd.ZO bc) hb);have aY:=zA.mk (Kd.ZJ (by(with_reducible repeat(first|apply Kd.zR|apply Kd.zQ|apply Kd.zT));exact av.out) (Kd.ZO bc) hb);have a_:=zA.mk (Kd.ZJ (by(with_reducible repeat(first|apply Kd.zR|apply Kd.zQ|apply Kd.zT));exact bp.out) (Kd.ZO bc) hb);have ba:=zA.mk (Kd.ZG (Kd.QF (Kd.QF (Kd.QF (Kd.QF bc (Kd.Qt (by(with_reducible repeat(first|apply Kd.zR|apply Kd.zQ|apply Kd.zT));exact aM.out))) (Kd.Qt (by(with_reducible repeat(first|apply Kd.zR|apply Kd.zQ|apply Kd.zT));exact an.out))) (Kd.Qt (by(with_reducible repeat(first|apply Kd.zR|apply Kd.zQ|apply Kd.zT));exact av.out))) (Kd.Qt (by(with_reducible repeat(first|apply Kd.zR|apply Kd.zQ|apply Kd.zT));exact bp.out))) (zP (by repeat(first|(with_reducible first|exact HB.out|apply zC|apply zB|apply zD|refine zE ?_ ai.out|refine zE ?_ au.out)|exact HB.out))));have bf:=zA.mk (zN (g:=ah) (o := .cells #[.slice ak ad.length al] 31 (0,0)) (by(with_reducible repeat(first|refine zH ?_ _|refine zI ?_|refine zG ?_ _));exact aa.out) hb);have bt:=zA.mk (zN (g:=aj) (o := .cells #[.slice aw t104.length ax,.slice ay t107.length az,.slice aA t110.length aC] 44 (0,0)) (by(with_reducible repeat(first|refine zH ?_ _|refine zI ?_|refine zG ?_ _));exact ab.out) hb);have bz:=zA.mk (zM (by repeat(first|(with_reducible first|exact HB.out|apply zC|apply zB|apply zD|refine zE ?_ ai.out|refine zE ?_ au.out)|exact HB.out)) hb);clear aM;clear an;clear ae;clear af;clear ag;clear av;clear bp;clear aa;clear ab;clear HB;have aM:=ao;have an:=aq;have ae:=aQ;have af:=aT;have ag:=aX;have av:=aY;have bp:=a_;have b9:=ba;have aa:=bf;have ab:=bt;have HB:=bz;clear ao aq aQ aT aX aY a_ ba bf bt bz;(try clear hb);(try clear hb2);(try clear hk);(try clear hi);(try clear bc)))
   go_roundg k1
   case measure=>have:=cV.out;omega
   case rel=>exact⟨(bV),(t134),(wrap64 (aK+1)),(by first|rfl|(simp;done)|(simp [*];done)),H',⟨by have:=cV.out;omega⟩,⟨by(with_reducible repeat(first|apply Kd.zR|apply Kd.zQ|apply Kd.zT));exact Kd.zk aM.out (fun _ hk=>⟨hk.1.2,hk.2⟩)⟩,⟨by(with_reducible repeat(first|apply Kd.zR|apply Kd.zQ|apply Kd.zT));exact Kd.zk bp.out (fun _ hk=>⟨hk.1.1,hk.2⟩)⟩,⟨by(with_reducible repeat(first|apply Kd.zR|apply Kd.zQ|apply Kd.zT));exact Kd.zk b9.out (fun _ hk=>⟨hk.1.1.1.2,hk.2⟩)⟩,⟨by(with_reducible repeat(first|apply Kd.zh|apply Kd.zi|apply Kd.qB));exact Kd.ZB ae.out (fun _ hk=>⟨hk.1.1.1,⟨hk.1.2,⟨hk.2,⟨hk.1.1.2.2.1,hk.1.1.2.2.2.1⟩⟩⟩⟩)⟩,⟨by(with_reducible repeat(first|apply Kd.zh|apply Kd.zi|apply Kd.qB));exact Kd.ZB af.out (fun _ hk=>⟨hk.1.1.1,⟨hk.1.2,⟨hk.2,⟨hk.1.1.2.2.1,hk.1.1.2.2.2.1⟩⟩⟩⟩)⟩,⟨by(with_reducible repeat(first|apply Kd.zh|apply Kd.zi|apply Kd.qB));exact Kd.ZB ag.out (fun _ hk=>⟨hk.1.1.1,⟨hk.1.2,⟨hk.2,⟨hk.1.1.2.2.1,hk.1.1.2.2.2.1⟩⟩⟩⟩)⟩,⟨by(with_reducible repeat(first|refine zH ?_ _|refine zI ?_|refine zG ?_ _));exact aa.out⟩,⟨by(with_reducible repeat(first|refine zH ?_ _|refine zI ?_|refine zG ?_ _));exact ab.out⟩,⟨by repeat(first|(with_reducible first|exact HB.out|apply zC|apply zB|apply zD|refine zE ?_ ai.out|refine zE ?_ au.out)|exact HB.out)⟩⟩
end Go.Proofs.Ytbahbnhfhddlbaa.P
namespace Go.Proofs.Ytbahbnhfhddlbaa.Lib
open Go.RowKit Go.Proofs.YtbahbnhfhddlbaaW.PrintWords
set_option linter.unusedVariables false
section
variable {α : Type} {d : Kd α} {e b lo hi lo2 hi2 T : Nat} {w w' W : World} {v : Value} {xs ys : List α}
def ObS (d:Kd α) (e b:Nat) (w:World) (lo hi:Nat) (v:Value) (xs:List α):Prop:=hi≤w.heap.size∧Kd.S d e w b (fun k=>lo≤k∧k<hi) v xs
def ObR (d:Kd α) (e b:Nat) (w:World) (lo hi:Nat) (v:Value) (xs:List α):Prop:=hi≤w.heap.size∧Kd.R d e w b (fun k=>lo≤k∧k<hi) v xs
theorem size_set (w:World) (g i:Nat) (u:Value):w.heap.size≤(w.setCell ⟨g,i,none⟩ u).heap.size:=((ysy 0 w).setCell (Nat.zero_le _) u).size
theorem ObS.made (ho:Kd.S d e w' W.heap.size (fun _=>True) v xs) (hb:Below W.heap.size W w') (hT:T≤W.heap.size) (hB:b≤W.heap.size) : ∃ lo hi,(T≤lo∧lo≤hi)∧hi≤w'.heap.size∧ObS d e b w' lo hi v xs:=
  ⟨W.heap.size,w'.heap.size,⟨hT,hb.size⟩,yry _,yry _,Kd.JA (Kd.ZB (Kd.zGN ho) (fun k hk=>⟨hk.2.1,hk.2.2.1⟩)) hB⟩
theorem ObR.made (ho:Kd.R d e w' W.heap.size (fun _=>True) v xs) (hb:Below W.heap.size W w') (hT:T≤W.heap.size) (hB:b≤W.heap.size) : ∃ lo hi,(T≤lo∧lo≤hi)∧hi≤w'.heap.size∧ObR d e b w' lo hi v xs:=
  ⟨W.heap.size,w'.heap.size,⟨hT,hb.size⟩,yry _,yry _,Kd.ZG (Kd.zk (Kd.Qc ho) (fun k hk=>⟨hk.2.1,hk.2.2.1⟩)) hB⟩
theorem ObR.made1 {ok:Nat→Prop} (hE:d.E = []) (ho:Kd.R d e w' W.heap.size ok v xs) (hT:T≤W.heap.size) (hs:W.heap.size≤w'.heap.size) (hB:b≤W.heap.size) : ∃ lo hi,T≤lo∧lo≤hi∧hi≤w'.heap.size∧ObR d e b w' lo hi v xs∧((v.ownBlock=none∧lo=T∧hi=T) ∨ ∃ k,v.ownBlock=some k∧lo=k∧hi=k+1):=by
  have ht:=Kd.QX hE ho
  cases hv:v.ownBlock with
  | none=>exact⟨T,T,yry _,yry _,Nat.le_trans hT hs,⟨Nat.le_trans hT hs,Kd.ZG (Kd.zk ht (fun k hk=>by rw[hv]at hk;cases hk)) hB⟩,.inl ⟨rfl,rfl,rfl⟩⟩
  | some k=>
    have h1:=Kd.ZO ho k hv;have h2:=Kd.Qt ho k hv;exact⟨k,k+1,Nat.le_trans hT h1,Nat.le_succ _,h2,⟨h2,Kd.ZG (Kd.zk ht (fun q hq=>by rw[hv]at hq;cases hq;exact⟨yry _,Nat.lt_succ_self _⟩)) hB⟩,.inr ⟨k,rfl,rfl,rfl⟩⟩
theorem ObR.zIF {β:Type} {d2:Kd β} {e2:Nat} {v2:Value} {zs:List β} {ok aa:Nat→Prop} (hE:d.E = []) (ab:d2.E = []) (ho:Kd.R d e w' W.heap.size ok v xs) (ad:Kd.R d2 e2 w' W.heap.size aa v2 zs) (ae : ∀ k,v.ownBlock=some k→v2.ownBlock≠some k) (hb:Below W.heap.size W w') (hT:T≤W.heap.size) (hB:b≤W.heap.size) :
    ∃ lo hi lo2 hi2 tp,((T≤lo∧lo≤hi∧hi≤tp)∧hi≤w'.heap.size∧ObR d e b w' lo hi v xs)∧((T≤lo2∧lo2≤hi2∧hi2≤tp∧(hi≤lo2∨hi2≤lo))∧tp≤w'.heap.size∧ObR d2 e2 b w' lo2 hi2 v2 zs):=by
  obtain⟨lo,hi,a1,a2,a3,a4,a5⟩:=ObR.made1 hE ho hT hb.size hB;obtain⟨lo2,hi2,b1,b2,b3,b4,b5⟩:=ObR.made1 ab ad hT hb.size hB;refine⟨lo,hi,lo2,hi2,w'.heap.size,⟨⟨a1,a2,a3⟩,a3,a4⟩,⟨b1,b2,b3,?_⟩,yry _,b4⟩;rcases a5 with ⟨_,h1,h2⟩|⟨k,hk,h1,h2⟩
  · left;omega
  · rcases b5 with ⟨_,g1,g2⟩|⟨q,hq,g1,g2⟩
    · right;omega
    · have:k≠q:=fun e=>ae k hk (by rw[hq,e])
      omega
theorem ObS.below (h:ObS d e b w lo hi v xs) (hb:Below w.heap.size w w'):ObS d e b w' lo hi v xs:=⟨Nat.le_trans h.1 hb.size,Kd.QH h.2 hb⟩
theorem ObR.below (h:ObR d e b w lo hi v xs) (hb:Below w.heap.size w w'):ObR d e b w' lo hi v xs:=⟨Nat.le_trans h.1 hb.size,Kd.qV h.2 hb⟩
theorem ObS.drew (h:ObS d e b w lo hi v xs):ObS d e b w.drew lo hi v xs:=⟨h.1,Kd.qB h.2⟩
theorem ObR.drew (h:ObR d e b w lo hi v xs):ObR d e b w.drew lo hi v xs:=⟨h.1,Kd.zT h.2⟩
theorem ObS.far {g i:Nat} (h:ObS d e b w lo hi v xs) (hg:g<lo∨hi≤g) (u:Value):ObS d e b (w.setCell ⟨g,i,none⟩ u) lo hi v xs:=
  ⟨Nat.le_trans h.1 (size_set _ _ _ _),Kd.Qe h.2 (fun k hk=>by show k≠g;have:=hk.1;have:=hk.2;omega) u⟩
theorem ObR.far {g i:Nat} (h:ObR d e b w lo hi v xs) (hg:g<lo∨hi≤g) (u:Value):ObR d e b (w.setCell ⟨g,i,none⟩ u) lo hi v xs:=
  ⟨Nat.le_trans h.1 (size_set _ _ _ _),Kd.Zf h.2 (fun k hk=>by show k≠g;have:=hk.1;have:=hk.2;omega) u⟩
theorem ObS.kept (h:ObS d e b w lo hi v xs) (hk:Kept w w' (fun k=>lo2≤k∧k<hi2)) (hd:hi≤lo2∨hi2≤lo):ObS d e b w' lo hi v xs:=
  ⟨Nat.le_trans h.1 hk.1,Kd.S_kept h.2 hk (fun k h1 h2=>by have:=h1.1;have:=h1.2;have:=h2.1;have:=h2.2;omega)⟩
theorem ObR.kept (h:ObR d e b w lo hi v xs) (hk:Kept w w' (fun k=>lo2≤k∧k<hi2)) (hd:hi≤lo2∨hi2≤lo):ObR d e b w' lo hi v xs:=
  ⟨Nat.le_trans h.1 hk.1,Kd.zGQ h.2 hk (fun k h1 h2=>by have:=h1.1;have:=h1.2;have:=h2.1;have:=h2.2;omega)⟩
theorem ObS.slice (h:ObS d e b w lo hi v xs) : ∃ A c,v = .slice A xs.length c:=Kd.Qw h.2
theorem ObR.slice (h:ObR d e b w lo hi v xs) : ∃ A c,v = .slice A xs.length c:=Kd.ZM h.2
theorem ObS.reads {A:Option Addr} {n c:Nat} (h:ObS d e b w lo hi (.slice A n c) xs):n=xs.length∧n≤c∧d.C w A xs.length xs:=Kd.QE h.2
theorem ObR.reads {A:Option Addr} {n c:Nat} (h:ObR d e b w lo hi (.slice A n c) xs):n=xs.length∧n≤c∧d.C w A xs.length xs:=Kd.zn h.2
theorem ObS.room {A:Option Addr} {n c:Nat} (h:ObS d e b w lo hi (.slice A n c) xs):xs.length≤c:=by have:=h.reads;omega
theorem ObR.room {A:Option Addr} {n c:Nat} (h:ObR d e b w lo hi (.slice A n c) xs):xs.length≤c:=by have:=h.reads;omega
theorem ObR.marked {ok' : Nat→Prop} (h:ObR d e b w lo hi v xs) (hE:d.E = []) (hy:Kd.R d e w' b ok' v ys) (hs:w.heap.size≤w'.heap.size):ObR d e b w' lo hi v ys:=
  ⟨Nat.le_trans h.1 hs,Kd.zE5 hE hy (fun k e=>h.2.1 k e)⟩
theorem ObS.marked (h:ObS d e b w lo hi v xs) (hy:Kd.S d e w' b (fun k=>lo≤k∧k<hi) v ys) (hs:w.heap.size≤w'.heap.size):ObS d e b w' lo hi v ys:=⟨Nat.le_trans h.1 hs,hy⟩
theorem ObR.range (h:ObR d e b w lo hi v xs) (hk:Kept w w' (fun k_=>some k_=v.ownBlock)):Kept w w' (fun k=>lo≤k∧k<hi):=hk.mono (fun k e=>h.2.1 k e.symm)
theorem ObS.row (h:ObS d e b w lo hi v xs):Kd.S d e w b (fun k=>lo≤k∧k<hi) v xs:=h.2
theorem ObR.row (h:ObR d e b w lo hi v xs):Kd.R d e w b (fun k=>lo≤k∧k<hi) v xs:=h.2
theorem Zc {n:Nat} (h:w' = w.drewN n):Below w.heap.size w w':=h ▸ zB (ysy _ _) n
theorem ZI (h:T≤w.heap.size) (hb:Below w.heap.size w w'):T≤w'.heap.size:=Nat.le_trans h hb.size
theorem zHV (h:T≤w.heap.size):T≤w.drew.heap.size:=h
theorem zGd {g i:Nat} {u:Value} (h:T≤w.heap.size):T≤(w.setCell ⟨g,i,none⟩ u).heap.size:=Nat.le_trans h (size_set _ _ _ _)
end
end Go.Proofs.Ytbahbnhfhddlbaa.Lib
namespace Go.Proofs.Ytbahbnhfhddlbaa.P
open Go.RowKit Go.Proofs.YtbahbnhfhddlbaaW.PrintWords Go.Proofs.YtbahbnhfhddlbaaW.PrintLast Go.Proofs.YtbahbnhfhddlbaaW.PrintMore
attribute [local go_sem] Qj Qk JJ JK QO QP Ql Qm
set_option linter.unusedVariables false
set_option linter.unusedSimpArgs false
open Go.Proofs.Ytbahbnhfhddlbaa.Lib
def Zu.f (k:Nat) (l0:List (List (qk))) (l1:List Int):Option Bool:=if(l1.length:Int)>1048576 then some true else(Zo.f k l0 1048576).bind fun t3=>if t3<0 then some true else(qx.f k l0).bind fun t6=>(qf.f k l1).bind fun t9=>(qG.f k t6 t9).bind fun bt5=>(qx.f k l0).bind fun t18=>(qf.f k l1).bind fun t21=>(zb.f k t18 t21).bind fun bt8=>(qR.f k bt8.1 bt5.1).bind fun t30=>if t30=true then(qR.f k bt8.2.1 bt5.2.1).bind fun t32=>if t32=true then if bt8.2.2=bt5.2.2 then(qx.f k l0).bind fun t35=>(Zz.f k t18 t35).bind fun t38=>if t38=true then(qf.f k l1).bind fun t40=>(qR.f k t21 t40).bind fun t43=>if t43=true then(Zt.f k t18 1).bind fun bt20=>(qb.f k t21 bt20.1).bind fun bt21=>if bt21.1<0 then some false else(qR.f k bt8.1 bt5.1).bind fun t52=>if t52=true then(qR.f k bt8.2.1 bt5.2.1).bind fun t54=>if t54=true then if bt8.2.2=bt5.2.2 then(qb.f k bt8.1 1).bind fun bt28=>(qb.f k bt8.2.1 bt28.1).bind fun bt29=>(qX.f k bt28.2 1).bind fun t63=>if t63<0 then some false else(qX.f k bt29.2 t63).bind fun t66=>if t66<0 then some false else if t66=bt29.1 then(qx.f k l0).bind fun t70=>(qf.f k l1).bind fun t73=>(zb.f k t70 t73).bind fun bt37=>(qR.f k bt37.1 bt5.1).bind fun t82=>if t82=true then(qR.f k bt37.2.1 bt5.2.1).bind fun t84=>if t84=true then if bt37.2.2=bt5.2.2 then(qX.f k bt28.2 1).bind fun t87=>if t87<0 then some false else(qX.f k bt29.2 t87).bind fun t90=>if t90<0 then some false else if t90=bt29.1 then some true else some false else some false else some false else some false else some false else some false else some false else some false else some false else some false else some false else some false else some false
theorem Zu.calls (k:Nat) (A0:Option Addr) (c0:Nat) (l0:List (List (qk))) (A1:Option Addr) (c1:Nat) (l1:List Int) (w:World) (c8:Kd.C (Kd.slice 93 Qn) w A0 l0.length l0) (c9:l0.length≤c0) (da:Kd.C (Kd.int .i64) w A1 l1.length l1) (db:l1.length≤c1) (h:Zu.f k l0 l1=some true) :
 Calls Try.prog 3 #[.agg #[.slice A0 l0.length c0],.slice A1 l1.length c1] w fun e w'=>e = .returned (.bool true)∧Below w.heap.size w w':=by
 have ef:=Try.underlying24;have eg:=Try.underlying31;have bV:=zA.mk c8;have bW:=zA.mk c9;have cK:=zA.mk da;have cL:=zA.mk db;clear c8 c9 da db;have HB:=zA.mk (ysy w.heap.size w);have HT:=zA.mk (yry w.heap.size);have H:=h;clear h;unfold Zu.f at H;by_cases bX:(l1.length:Int)>1048576
 next=>
  have eh:decide ((l1.length:Int)>1048576)=true:=ygy bX;have cN:decide (1048576<(l1.length:Int))=true:=ygy (by omega);have cO:decide (1048576<l1.length)=true:=ygy (by omega)
  clear bX H;go_enter Try.func3,Try.ntmps3
  try go_wp2_with (first|((with_reducible refine zm (N:=2) rfl ?_);refine zt ?hg (N:=2) ?hd (cs:=#[.slice A0 l0.length c0]) (t:=24) ?hr ?_;(case hd=>rfl);(case hg=>rfl);(case hr=>first|(go_simp;done)|(go_simp;rfl));intro g2 hg w1 bc hb;have aQ:=zA.mk (by rw[hg];exact HT.out:w.heap.size≤g2);have bg:=zA.mk (show g2+1≤w1.heap.size from qg bc);have aW:=zA.mk (zM HB.out hb);have aT:=zA.mk (ZI HT.out hb);clear HB HT  ;have HB:=aW;have HT:=aT;clear aW aT  ;clear HT;have HT:=bg;clear bg;have aa:=zA.mk bc;clear hg bc hb;have ar:w1.cell? ⟨g2,0,none⟩=some (.slice A0 l0.length c0):=(zK aa.out 0).trans rfl;have au:=zL aa.out 0))
  go_ret;exact⟨by first|rfl|(simp <;> rfl),HB.out⟩
 rw[if_neg bX]at H;have eh:decide ((l1.length:Int)>1048576)=false:=yhy bX;have cN:decide (1048576<(l1.length:Int))=false:=yhy (by omega);have cO:decide (1048576<l1.length)=false:=yhy (by omega)
 clear bX;obtain⟨t3,cM,H⟩:=ydy.mp H;have H2:=zA.mk cM;clear cM;by_cases bY:t3<0
 next=>
  have ei:decide (t3<0)=true:=ygy bY;clear bY H;go_enter Try.func3,Try.ntmps3
  try go_wp2_with (first|((with_reducible refine zm (N:=2) rfl ?_);refine zt ?hg (N:=2) ?hd (cs:=#[.slice A0 l0.length c0]) (t:=24) ?hr ?_;(case hd=>rfl);(case hg=>rfl);(case hr=>first|(go_simp;done)|(go_simp;rfl));intro g2 hg w1 bc hb;have aQ:=zA.mk (by rw[hg];exact HT.out:w.heap.size≤g2);have bg:=zA.mk (show g2+1≤w1.heap.size from qg bc);have aW:=zA.mk (zM HB.out hb);have aT:=zA.mk (ZI HT.out hb);clear HB HT  ;have HB:=aW;have HT:=aT;clear aW aT  ;clear HT;have HT:=bg;clear bg;have aa:=zA.mk bc;clear hg bc hb;have ar:w1.cell? ⟨g2,0,none⟩=some (.slice A0 l0.length c0):=(zK aa.out 0).trans rfl;have au:=zL aa.out 0)|((with_reducible refine zU (f:=4) rfl ?_);refine qD (some 25) rfl rfl Try.func4 (by kernel_rfl) rfl #[.agg #[.slice A0 l0.length c0],.int .i64 1048576] rfl (by(try simp only [yiy,yjy,yky]);first|done|rfl|(simp only [yly,ymy];rfl)) ?_;(with_reducible refine(Zo.calls k _ _ l0 1048576 t3 _ ?side1 ?side2 H2.out).mono ?_);(case side1=>exact Kd.qA bV.out HB.out);(case side2=>exact bW.out);rintro e w2 ⟨rfl,hb⟩;refine⟨_,rfl,?_⟩;(try clear ar au);have ax:=zA.mk (zN (g:=g2) (o := .cells #[.slice A0 l0.length c0] 24 (0,0)) aa.out hb);have aW:=zA.mk (zM HB.out hb);have aT:=zA.mk (ZI HT.out hb);clear HB HT  aa;have aa:=ax;have HB:=aW;have HT:=aT;clear aW aT  ax;(try clear hb);(try clear a7);have ar:w2.cell? ⟨g2,0,none⟩=some (.slice A0 l0.length c0):=(zK aa.out 0).trans rfl;have au:=zL aa.out 0))
  go_ret;exact⟨by first|rfl|(simp <;> rfl),HB.out⟩
 rw[if_neg bY]at H;have ei:decide (t3<0)=false:=yhy bY;clear bY;obtain⟨t6,dc,H⟩:=ydy.mp H;have H5:=zA.mk dc;clear dc;obtain⟨t9,dd,H⟩:=ydy.mp H;have H8:=zA.mk dd;clear dd;obtain⟨⟨t12,t14,t16⟩,bZ,H⟩:=ydy.mp H;have ej:=zA.mk bZ;clear bZ;obtain⟨t18,b0,H⟩:=ydy.mp H;have ek:=zA.mk b0;clear b0;obtain⟨t21,b1,H⟩:=ydy.mp H;have cM:=zA.mk b1;clear b1;obtain⟨⟨t24,t26,t28⟩,b2,H⟩:=ydy.mp H;have en:=zA.mk b2;clear b2;obtain⟨t30,b3,H⟩:=ydy.mp H;obtain rfl:t30=true:=by cases t30 with|true=>rfl|false=>exact absurd H (by simp)
 replace H:=H;have eo:=zA.mk b3;clear b3;rw[if_pos rfl]at H;obtain⟨t32,b4,H⟩:=ydy.mp H;obtain rfl:t32=true:=by cases t32 with|true=>rfl|false=>exact absurd H (by simp)
 replace H:=H;have ep:=zA.mk b4;clear b4;rw[if_pos rfl]at H;have bI:t28=t16:=by by_cases c_:t28=t16;exact c_;rw[if_neg c_]at H;cases H
 rw[if_pos bI]at H;have er:(t28 != t16)=false:=by rw[bI];exact bne_self_eq_false _
 clear bI;obtain⟨t35,b5,H⟩:=ydy.mp H;have et:=zA.mk b5;clear b5;obtain⟨t38,b6,H⟩:=ydy.mp H;obtain rfl:t38=true:=by cases t38 with|true=>rfl|false=>exact absurd H (by simp)
 replace H:=H;have eu:=zA.mk b6;clear b6;rw[if_pos rfl]at H;obtain⟨t40,b7,H⟩:=ydy.mp H;have ev:=zA.mk b7;clear b7;obtain⟨t43,b8,H⟩:=ydy.mp H;obtain rfl:t43=true:=by cases t43 with|true=>rfl|false=>exact absurd H (by simp)
 replace H:=H;have ew:=zA.mk b8;clear b8;rw[if_pos rfl]at H;obtain⟨⟨cP,ey⟩,b9,H⟩:=ydy.mp H;have ez:=zA.mk b9;clear b9;dsimp only at H;obtain⟨⟨cQ,eA⟩,b_,H⟩:=ydy.mp H;have eB:=zA.mk b_;clear b_;dsimp only at H;have bJ : ¬ (cQ<0):=fun c_=>by rw[if_pos c_]at H;cases H
 rw[if_neg bJ]at H;have eC:decide (cQ<0)=false:=yhy bJ;clear bJ;obtain⟨t52,ca,H⟩:=ydy.mp H;obtain rfl:t52=true:=by cases t52 with|true=>rfl|false=>exact absurd H (by simp)
 replace H:=H;have eD:=zA.mk ca;clear ca;rw[if_pos rfl]at H;obtain⟨t54,cb,H⟩:=ydy.mp H;obtain rfl:t54=true:=by cases t54 with|true=>rfl|false=>exact absurd H (by simp)
 replace H:=H;have eE:=zA.mk cb;clear cb;rw[if_pos rfl]at H;have bK:t28=t16:=by by_cases c_:t28=t16;exact c_;rw[if_neg c_]at H;cases H
 rw[if_pos bK]at H;have eF:(t28 != t16)=false:=by rw[bK];exact bne_self_eq_false _
 clear bK;obtain⟨⟨cR,bL⟩,cc,H⟩:=ydy.mp H;have eG:=zA.mk cc;clear cc;dsimp only at H;obtain⟨⟨bM,bN⟩,cd,H⟩:=ydy.mp H;have eH:=zA.mk cd;clear cd;dsimp only at H;obtain⟨t63,cf,H⟩:=ydy.mp H;have eI:=zA.mk cf;clear cf;have bO : ¬ (t63<0):=fun c_=>by rw[if_pos c_]at H;cases H
 rw[if_neg bO]at H;have eJ:decide (t63<0)=false:=yhy bO;clear bO;obtain⟨t66,cg,H⟩:=ydy.mp H;have eK:=zA.mk cg;clear cg;have bP : ¬ (t66<0):=fun c_=>by rw[if_pos c_]at H;cases H
 rw[if_neg bP]at H;have eL:decide (t66<0)=false:=yhy bP;clear bP;have bQ:t66=bM:=by by_cases c_:t66=bM;exact c_;rw[if_neg c_]at H;cases H
 rw[if_pos bQ]at H;have eM:(t66 != bM)=false:=by rw[bQ];exact bne_self_eq_false _
 clear bQ;obtain⟨t70,ch,H⟩:=ydy.mp H;have eN:=zA.mk ch;clear ch;obtain⟨t73,cj,H⟩:=ydy.mp H;have eO:=zA.mk cj;clear cj;obtain⟨⟨t76,t78,t80⟩,ck,H⟩:=ydy.mp H;have eP:=zA.mk ck;clear ck;obtain⟨t82,cl,H⟩:=ydy.mp H;obtain rfl:t82=true:=by cases t82 with|true=>rfl|false=>exact absurd H (by simp)
 replace H:=H;have eQ:=zA.mk cl;clear cl;rw[if_pos rfl]at H;obtain⟨t84,cm,H⟩:=ydy.mp H;obtain rfl:t84=true:=by cases t84 with|true=>rfl|false=>exact absurd H (by simp)
 replace H:=H;have eR:=zA.mk cm;clear cm;rw[if_pos rfl]at H;have bR:t80=t16:=by by_cases c_:t80=t16;exact c_;rw[if_neg c_]at H;cases H
 rw[if_pos bR]at H;have eS:(t80 != t16)=false:=by rw[bR];exact bne_self_eq_false _
 clear bR;obtain⟨t87,cn,H⟩:=ydy.mp H;have eT:=zA.mk cn;clear cn;have bS : ¬ (t87<0):=fun c_=>by rw[if_pos c_]at H;cases H
 rw[if_neg bS]at H;have eU:decide (t87<0)=false:=yhy bS;clear bS;obtain⟨t90,cp,H⟩:=ydy.mp H;have eV:=zA.mk cp;clear cp;have bT : ¬ (t90<0):=fun c_=>by rw[if_pos c_]at H;cases H
 rw[if_neg bT]at H;have eW:decide (t90<0)=false:=yhy bT;clear bT;have bU:t90=bM:=by by_cases c_:t90=bM;exact c_;rw[if_neg c_]at H;cases H
 rw[if_pos bU]at H;have eX:(t90 != bM)=false:=by rw[bU];exact bne_self_eq_false _
 clear bU;clear H;go_enter Try.func3,Try.ntmps3
 try go_wp2_with (first|((with_reducible refine zm (N:=2) rfl ?_);refine zt ?hg (N:=2) ?hd (cs:=#[.slice A0 l0.length c0]) (t:=24) ?hr ?_;(case hd=>rfl);(case hg=>rfl);(case hr=>first|(go_simp;done)|(go_simp;rfl));intro g2 hg w1 bc hb;have aQ:=zA.mk (by rw[hg];exact HT.out:w.heap.size≤g2);have bg:=zA.mk (show g2+1≤w1.heap.size from qg bc);have aW:=zA.mk (zM HB.out hb);have aT:=zA.mk (ZI HT.out hb);clear HB HT  ;have HB:=aW;have HT:=aT;clear aW aT  ;clear HT;have HT:=bg;clear bg;have aa:=zA.mk bc;clear hg bc hb;have ar:w1.cell? ⟨g2,0,none⟩=some (.slice A0 l0.length c0):=(zK aa.out 0).trans rfl;have au:=zL aa.out 0)|((with_reducible refine zU (f:=4) rfl ?_);refine qD (some 25) rfl rfl Try.func4 (by kernel_rfl) rfl #[.agg #[.slice A0 l0.length c0],.int .i64 1048576] rfl (by(try simp only [yiy,yjy,yky]);first|done|rfl|(simp only [yly,ymy];rfl)) ?_;(with_reducible refine(Zo.calls k _ _ l0 1048576 t3 _ ?side1 ?side2 H2.out).mono ?_);(case side1=>exact Kd.qA bV.out HB.out);(case side2=>exact bW.out);rintro e w2 ⟨rfl,hb⟩;refine⟨_,rfl,?_⟩;(try clear ar au);have ax:=zA.mk (zN (g:=g2) (o := .cells #[.slice A0 l0.length c0] 24 (0,0)) aa.out hb);have aW:=zA.mk (zM HB.out hb);have aT:=zA.mk (ZI HT.out hb);clear HB HT  aa;have aa:=ax;have HB:=aW;have HT:=aT;clear aW aT  ax;(try clear hb);(try clear a7);have ar:w2.cell? ⟨g2,0,none⟩=some (.slice A0 l0.length c0):=(zK aa.out 0).trans rfl;have au:=zL aa.out 0)|((with_reducible refine zU (f:=6) rfl ?_);refine qD (some 30) rfl rfl Try.func6 (by kernel_rfl) rfl #[.agg #[.slice A0 l0.length c0]] rfl (by(try simp only [yiy,yjy,yky]);first|done|rfl|(simp only [yly,ymy];rfl)) ?_;(with_reducible refine(qx.calls k _ _ l0 t6 _ ?side1 ?side2 H5.out).mono ?_);(case side1=>exact Kd.qA bV.out HB.out);(case side2=>exact bW.out);rintro e w3 ⟨fk,rfl,a_,hb⟩;refine⟨_,rfl,?_⟩;(try clear ar au);obtain⟨eY,eZ,bG⟩:=ObS.made a_ hb HT.out (zP HB.out);have ax:=zA.mk (zN (g:=g2) (o := .cells #[.slice A0 l0.length c0] 24 (0,0)) aa.out hb);have aW:=zA.mk (zM HB.out hb);have aT:=zA.mk (ZI HT.out hb);clear HB HT  aa;have aa:=ax;have HB:=aW;have HT:=aT;clear aW aT  ax;have aR:=zA.mk bG.1;clear HT;have HT:=zA.mk bG.2.1;have ay:=zA.mk bG.2.2;clear bG a_;obtain⟨e0,e1,cS⟩:=ay.out.slice;subst cS;(try clear hb);(try clear a7);have ar:w3.cell? ⟨g2,0,none⟩=some (.slice A0 l0.length c0):=(zK aa.out 0).trans rfl;have au:=zL aa.out 0)|((with_reducible refine zU (f:=7) rfl ?_);refine qD (some 32) rfl rfl Try.func7 (by kernel_rfl) rfl #[.slice A1 l1.length c1] rfl (by(try simp only [yiy,yjy,yky]);first|done|rfl|(simp only [yly,ymy];rfl)) ?_;(with_reducible refine(qf.calls k _ _ l1 t9 _ ?side1 ?side2 H8.out).mono ?_);(case side1=>exact Kd.qA cK.out HB.out);(case side2=>exact cL.out);rintro e w4 ⟨e2,rfl,a_,hb⟩;refine⟨_,rfl,?_⟩;(try clear ar au);obtain⟨de,df,bj⟩:=ObR.made a_ hb HT.out (zP HB.out);have aA:=zA.mk (ObS.below ay.out hb);have ax:=zA.mk (zN (g:=g2) (o := .cells #[.slice A0 l0.length c0] 24 (0,0)) aa.out hb);have aW:=zA.mk (zM HB.out hb);have aT:=zA.mk (ZI HT.out hb);clear HB HT ay aa;have ay:=aA;have aa:=ax;have HB:=aW;have HT:=aT;clear aW aT aA ax;have aB:=zA.mk bj.1;clear HT;have HT:=zA.mk bj.2.1;have ae:=zA.mk bj.2.2;clear bj a_;obtain⟨cT,cU,cq⟩:=ae.out.slice;subst cq;(try clear hb);(try clear a7);have ar:w4.cell? ⟨g2,0,none⟩=some (.slice A0 l0.length c0):=(zK aa.out 0).trans rfl;have au:=zL aa.out 0)|((with_reducible refine zU (f:=5) rfl ?_);refine qD (some 33) rfl rfl Try.func5 (by kernel_rfl) rfl #[.agg #[.slice e0 t6.length e1],.slice cT t9.length cU] rfl (by(try simp only [yiy,yjy,yky]);first|done|rfl|(simp only [yly,ymy];rfl)) ?_;(with_reducible refine(qG.calls k _ _ t6 _ _ t9 t12 t14 t16 _ ?side1 ?side2 ?side3 ?side4 ej.out).mono ?_);(case side1=>exact(ObS.reads ay.out).2.2);(case side2=>exact ObS.room ay.out);(case side3=>exact(ObR.reads ae.out).2.2);(case side4=>exact ObR.room ae.out);rintro e w5 ⟨e3,e4,rfl,a_,bk,hb⟩;refine⟨_,rfl,?_⟩;(try clear ar au);obtain⟨dg,dh,di,dj,dk,bl,bm⟩:=ObR.zIF rfl rfl a_ bk (by first|(intro k_ bd bf;exact a_.1 k_ bd bf.symm)|(intro k_ bd bf;exact(bk.1 k_ bf) bd.symm)|(intro k_ bd bf;have q_:=a_.1 k_ bd;simp_all)|(intro k_ bd bf;have q_:=bk.1 k_ bf;simp_all)) hb HT.out (zP HB.out);have aA:=zA.mk (ObS.below ay.out hb);have ah:=zA.mk (ObR.below ae.out hb);have ax:=zA.mk (zN (g:=g2) (o := .cells #[.slice A0 l0.length c0] 24 (0,0)) aa.out hb);have aW:=zA.mk (zM HB.out hb);have aT:=zA.mk (ZI HT.out hb);clear HB HT ay ae aa;have ay:=aA;have ae:=ah;have aa:=ax;have HB:=aW;have HT:=aT;clear aW aT aA ah ax;have aC:=zA.mk bl.1;clear HT;have HT:=zA.mk bl.2.1;have ab:=zA.mk bl.2.2;clear bl;obtain⟨cr,ct,cu⟩:=ab.out.slice;subst cu;have aD:=zA.mk bm.1;clear HT;have HT:=zA.mk bm.2.1;have ad:=zA.mk bm.2.2;clear bm;obtain⟨e5,e6,cv⟩:=ad.out.slice;subst cv;clear a_ bk;(try clear hb);(try clear a7);have ar:w5.cell? ⟨g2,0,none⟩=some (.slice A0 l0.length c0):=(zK aa.out 0).trans rfl;have au:=zL aa.out 0)|((with_reducible refine zU (f:=6) rfl ?_);refine qD (some 38) rfl rfl Try.func6 (by kernel_rfl) rfl #[.agg #[.slice A0 l0.length c0]] rfl (by(try simp only [yiy,yjy,yky]);first|done|rfl|(simp only [yly,ymy];rfl)) ?_;(with_reducible refine(qx.calls k _ _ l0 t18 _ ?side1 ?side2 ek.out).mono ?_);(case side1=>exact Kd.qA bV.out HB.out);(case side2=>exact bW.out);rintro e w6 ⟨e7,rfl,a_,hb⟩;refine⟨_,rfl,?_⟩;(try clear ar au);obtain⟨cw,bH,bn⟩:=ObS.made a_ hb HT.out (zP HB.out);have aA:=zA.mk (ObS.below ay.out hb);have ah:=zA.mk (ObR.below ae.out hb);have ak:=zA.mk (ObR.below ab.out hb);have al:=zA.mk (ObR.below ad.out hb);have ax:=zA.mk (zN (g:=g2) (o := .cells #[.slice A0 l0.length c0] 24 (0,0)) aa.out hb);have aW:=zA.mk (zM HB.out hb);have aT:=zA.mk (ZI HT.out hb);clear HB HT ay ae ab ad aa;have ay:=aA;have ae:=ah;have ab:=ak;have ad:=al;have aa:=ax;have HB:=aW;have HT:=aT;clear aW aT aA ah ak al ax;have aE:=zA.mk bn.1;clear HT;have HT:=zA.mk bn.2.1;have af:=zA.mk bn.2.2;clear bn a_;obtain⟨aU,aV,cx⟩:=af.out.slice;subst cx;(try clear hb);(try clear a7);have ar:w6.cell? ⟨g2,0,none⟩=some (.slice A0 l0.length c0):=(zK aa.out 0).trans rfl;have au:=zL aa.out 0)|((with_reducible refine zm (N:=9) rfl ?_);refine zt ?hg (N:=9) ?hd (cs:=#[.slice none 0 0]) (t:=31) ?hr ?_;(case hd=>rfl);(case hg=>rfl);(case hr=>first|(go_simp;done)|(go_simp;rfl));intro g9 hg w7 bc hb;(try clear ar au);have aS:=zA.mk (by rw[hg];exact HT.out:bH≤g9);have cy:=zA.mk (show g9+1≤w7.heap.size from qg bc);have aA:=zA.mk (ObS.below ay.out hb);have ah:=zA.mk (ObR.below ae.out hb);have ak:=zA.mk (ObR.below ab.out hb);have al:=zA.mk (ObR.below ad.out hb);have ao:=zA.mk (ObS.below af.out hb);have ax:=zA.mk (zN (g:=g2) (o := .cells #[.slice A0 l0.length c0] 24 (0,0)) aa.out hb);have aW:=zA.mk (zM HB.out hb);have aT:=zA.mk (ZI HT.out hb);clear HB HT ay ae ab ad af aa;have ay:=aA;have ae:=ah;have ab:=ak;have ad:=al;have af:=ao;have aa:=ax;have HB:=aW;have HT:=aT;clear aW aT aA ah ak al ao ax;clear HT;have HT:=cy;clear cy;have ag:=zA.mk bc;clear hg bc hb;have cz:g9≠g2:=(by have:=aQ.out;have:=aR.out;have:=aB.out;have:=aC.out;have:=aD.out;have:=aE.out;have:=aS.out;omega);have cA:g2≠g9:=(by have:=aQ.out;have:=aR.out;have:=aB.out;have:=aC.out;have:=aD.out;have:=aE.out;have:=aS.out;omega);have ar:w7.cell? ⟨g2,0,none⟩=some (.slice A0 l0.length c0):=(zK aa.out 0).trans rfl;have au:=zL aa.out 0;have aJ:w7.cell? ⟨g9,0,none⟩=some (.slice none 0 0):=(zK ag.out 0).trans rfl;have aK:=zL ag.out 0)|((with_reducible refine zU (f:=7) rfl ?_);refine qD (some 40) rfl rfl Try.func7 (by kernel_rfl) rfl #[.slice A1 l1.length c1] rfl (by(try simp only [yiy,yjy,yky]);first|done|rfl|(simp only [yly,ymy];rfl)) ?_;(with_reducible refine(qf.calls k _ _ l1 t21 _ ?side1 ?side2 cM.out).mono ?_);(case side1=>exact Kd.qA cK.out (zE HB.out (show w.heap.size≤g9 from(by have:=aQ.out;have:=aR.out;have:=aB.out;have:=aC.out;have:=aD.out;have:=aE.out;have:=aS.out;omega))));(case side2=>exact cL.out);rintro e w8 ⟨e8,rfl,a_,hb⟩;refine⟨_,rfl,?_⟩;(try clear ar au aJ aK);obtain⟨dm,dn,bo⟩:=ObR.made a_ hb (zGd HT.out) (zP (zE HB.out (show w.heap.size≤g9 from(by have:=aQ.out;have:=aR.out;have:=aB.out;have:=aC.out;have:=aD.out;have:=aE.out;have:=aS.out;omega))));have aA:=zA.mk (ObS.below (ObS.far (g:=g9) (i:=0) ay.out (by have:=aQ.out;have:=aR.out;have:=aB.out;have:=aC.out;have:=aD.out;have:=aE.out;have:=aS.out;omega) _) hb);have ah:=zA.mk (ObR.below (ObR.far (g:=g9) (i:=0) ae.out (by have:=aQ.out;have:=aR.out;have:=aB.out;have:=aC.out;have:=aD.out;have:=aE.out;have:=aS.out;omega) _) hb);have ak:=zA.mk (ObR.below (ObR.far (g:=g9) (i:=0) ab.out (by have:=aQ.out;have:=aR.out;have:=aB.out;have:=aC.out;have:=aD.out;have:=aE.out;have:=aS.out;omega) _) hb);have al:=zA.mk (ObR.below (ObR.far (g:=g9) (i:=0) ad.out (by have:=aQ.out;have:=aR.out;have:=aB.out;have:=aC.out;have:=aD.out;have:=aE.out;have:=aS.out;omega) _) hb);have ao:=zA.mk (ObS.below (ObS.far (g:=g9) (i:=0) af.out (by have:=aQ.out;have:=aR.out;have:=aB.out;have:=aC.out;have:=aD.out;have:=aE.out;have:=aS.out;omega) _) hb);have ax:=zA.mk (zN (g:=g2) (o := .cells #[.slice A0 l0.length c0] 24 (0,0)) (qM (p:=⟨g9,0,none⟩) aa.out (show g2≠g9 from(by have:=aQ.out;have:=aR.out;have:=aB.out;have:=aC.out;have:=aD.out;have:=aE.out;have:=aS.out;omega)) _) hb);have aH:=zA.mk (zN (g:=g9) (o := .cells #[.slice aU t18.length aV] 31 (0,0)) (qc (cs:=#[.slice none 0 0]) ag.out 0 _ rfl) hb);have aW:=zA.mk (zM (zE HB.out (show w.heap.size≤g9 from(by have:=aQ.out;have:=aR.out;have:=aB.out;have:=aC.out;have:=aD.out;have:=aE.out;have:=aS.out;omega))) hb);have aT:=zA.mk (ZI (zGd HT.out) hb);clear HB HT ay ae ab ad af aa ag;have ay:=aA;have ae:=ah;have ab:=ak;have ad:=al;have af:=ao;have aa:=ax;have ag:=aH;have HB:=aW;have HT:=aT;clear aW aT aA ah ak al ao ax aH;have aL:=zA.mk bo.1;clear HT;have HT:=zA.mk bo.2.1;have an:=zA.mk bo.2.2;clear bo a_;obtain⟨bB,bC,cB⟩:=an.out.slice;subst cB;(try clear hb);(try clear a7);have ar:w8.cell? ⟨g2,0,none⟩=some (.slice A0 l0.length c0):=(zK aa.out 0).trans rfl;have au:=zL aa.out 0;have aJ:w8.cell? ⟨g9,0,none⟩=some (.slice aU t18.length aV):=(zK ag.out 0).trans rfl;have aK:=zL ag.out 0)|((with_reducible refine zU (f:=8) rfl ?_);refine qD (some 44) rfl rfl Try.func8 (by kernel_rfl) rfl #[.agg #[.slice aU t18.length aV],.slice bB t21.length bC] rfl (by(try simp only [yiy,yjy,yky]);first|done|rfl|(simp only [yly,ymy];rfl)) ?_;(with_reducible refine(zb.calls k _ _ t18 _ _ t21 t24 t26 t28 _ ?side1 ?side2 ?side3 ?side4 en.out).mono ?_);(case side1=>exact(ObS.reads af.out).2.2);(case side2=>exact ObS.room af.out);(case side3=>exact(ObR.reads an.out).2.2);(case side4=>exact ObR.room an.out);rintro e w9 ⟨e9,e_,rfl,a_,bk,hb⟩;refine⟨_,rfl,?_⟩;(try clear ar au aJ aK);obtain⟨dp,dq,dr,dt,du,bp,bq⟩:=ObR.zIF rfl rfl a_ bk (by first|(intro k_ bd bf;exact a_.1 k_ bd bf.symm)|(intro k_ bd bf;exact(bk.1 k_ bf) bd.symm)|(intro k_ bd bf;have q_:=a_.1 k_ bd;simp_all)|(intro k_ bd bf;have q_:=bk.1 k_ bf;simp_all)) hb HT.out (zP HB.out);have aA:=zA.mk (ObS.below ay.out hb);have ah:=zA.mk (ObR.below ae.out hb);have ak:=zA.mk (ObR.below ab.out hb);have al:=zA.mk (ObR.below ad.out hb);have ao:=zA.mk (ObS.below af.out hb);have aq:=zA.mk (ObR.below an.out hb);have ax:=zA.mk (zN (g:=g2) (o := .cells #[.slice A0 l0.length c0] 24 (0,0)) aa.out hb);have aH:=zA.mk (zN (g:=g9) (o := .cells #[.slice aU t18.length aV] 31 (0,0)) ag.out hb);have aW:=zA.mk (zM HB.out hb);have aT:=zA.mk (ZI HT.out hb);clear HB HT ay ae ab ad af an aa ag;have ay:=aA;have ae:=ah;have ab:=ak;have ad:=al;have af:=ao;have an:=aq;have aa:=ax;have ag:=aH;have HB:=aW;have HT:=aT;clear aW aT aA ah ak al ao aq ax aH;have aM:=zA.mk bp.1;clear HT;have HT:=zA.mk bp.2.1;have ai:=zA.mk bp.2.2;clear bp;obtain⟨bz,bA,cC⟩:=ai.out.slice;subst cC;have aN:=zA.mk bq.1;clear HT;have HT:=zA.mk bq.2.1;have aj:=zA.mk bq.2.2;clear bq;obtain⟨bD,bE,cD⟩:=aj.out.slice;subst cD;clear a_ bk;(try clear hb);(try clear a7);have ar:w9.cell? ⟨g2,0,none⟩=some (.slice A0 l0.length c0):=(zK aa.out 0).trans rfl;have au:=zL aa.out 0;have aJ:w9.cell? ⟨g9,0,none⟩=some (.slice aU t18.length aV):=(zK ag.out 0).trans rfl;have aK:=zL ag.out 0)|((with_reducible refine zU (f:=9) rfl ?_);refine qD (some 50) rfl rfl Try.func9 (by kernel_rfl) rfl #[.slice bz t24.length bA,.slice cr t12.length ct] rfl (by(try simp only [yiy,yjy,yky]);first|done|rfl|(simp only [yly,ymy];rfl)) ?_;(with_reducible refine(qR.calls k _ _ t24 _ _ t12 true _ ?side1 ?side2 ?side3 ?side4 eo.out).mono ?_);(case side1=>exact(ObR.reads ai.out).2.2);(case side2=>exact ObR.room ai.out);(case side3=>exact(ObR.reads ab.out).2.2);(case side4=>exact ObR.room ab.out);rintro e dv ⟨rfl,⟨nd,a7⟩⟩;refine⟨_,rfl,?_⟩;have hb:=Zc a7;(try clear ar au aJ aK);have aA:=zA.mk (ObS.below ay.out hb);have ah:=zA.mk (ObR.below ae.out hb);have ak:=zA.mk (ObR.below ab.out hb);have al:=zA.mk (ObR.below ad.out hb);have ao:=zA.mk (ObS.below af.out hb);have aq:=zA.mk (ObR.below an.out hb);have av:=zA.mk (ObR.below ai.out hb);have aw:=zA.mk (ObR.below aj.out hb);have ax:=zA.mk (zN (g:=g2) (o := .cells #[.slice A0 l0.length c0] 24 (0,0)) aa.out hb);have aH:=zA.mk (zN (g:=g9) (o := .cells #[.slice aU t18.length aV] 31 (0,0)) ag.out hb);have aW:=zA.mk (zM HB.out hb);have aT:=zA.mk (ZI HT.out hb);clear HB HT ay ae ab ad af an ai aj aa ag;have ay:=aA;have ae:=ah;have ab:=ak;have ad:=al;have af:=ao;have an:=aq;have ai:=av;have aj:=aw;have aa:=ax;have ag:=aH;have HB:=aW;have HT:=aT;clear aW aT aA ah ak al ao aq av aw ax aH;(try clear hb);(try clear a7);have ar:dv.cell? ⟨g2,0,none⟩=some (.slice A0 l0.length c0):=(zK aa.out 0).trans rfl;have au:=zL aa.out 0;have aJ:dv.cell? ⟨g9,0,none⟩=some (.slice aU t18.length aV):=(zK ag.out 0).trans rfl;have aK:=zL ag.out 0))
 try go_wp2_with (first|(go_at_call 9;(with_reducible refine(qR.calls k _ _ t26 _ _ t14 true _ ?side1 ?side2 ?side3 ?side4 ep.out).mono ?_);(case side1=>exact(ObR.reads aj.out).2.2);(case side2=>exact ObR.room aj.out);(case side3=>exact(ObR.reads ad.out).2.2);(case side4=>exact ObR.room ad.out);rintro e dw ⟨rfl,⟨nd,a7⟩⟩;have hb:=Zc a7;(try clear ar au aJ aK);have aA:=zA.mk (ObS.below ay.out hb);have ah:=zA.mk (ObR.below ae.out hb);have ak:=zA.mk (ObR.below ab.out hb);have al:=zA.mk (ObR.below ad.out hb);have ao:=zA.mk (ObS.below af.out hb);have aq:=zA.mk (ObR.below an.out hb);have av:=zA.mk (ObR.below ai.out hb);have aw:=zA.mk (ObR.below aj.out hb);have ax:=zA.mk (zN (g:=g2) (o := .cells #[.slice A0 l0.length c0] 24 (0,0)) aa.out hb);have aH:=zA.mk (zN (g:=g9) (o := .cells #[.slice aU t18.length aV] 31 (0,0)) ag.out hb);have aW:=zA.mk (zM HB.out hb);have aT:=zA.mk (ZI HT.out hb);clear HB HT ay ae ab ad af an ai aj aa ag;have ay:=aA;have ae:=ah;have ab:=ak;have ad:=al;have af:=ao;have an:=aq;have ai:=av;have aj:=aw;have aa:=ax;have ag:=aH;have HB:=aW;have HT:=aT;clear aW aT aA ah ak al ao aq av aw ax aH;(try clear hb);(try clear a7);have ar:dw.cell? ⟨g2,0,none⟩=some (.slice A0 l0.length c0):=(zK aa.out 0).trans rfl;have au:=zL aa.out 0;have aJ:dw.cell? ⟨g9,0,none⟩=some (.slice aU t18.length aV):=(zK ag.out 0).trans rfl;have aK:=zL ag.out 0))
 (try clear ar au aJ aK);have aA:=zA.mk (ObS.drew ay.out);have ah:=zA.mk (ObR.drew ae.out);have ak:=zA.mk (ObR.drew ab.out);have al:=zA.mk (ObR.drew ad.out);have ao:=zA.mk (ObS.drew af.out);have aq:=zA.mk (ObR.drew an.out);have av:=zA.mk (ObR.drew ai.out);have aw:=zA.mk (ObR.drew aj.out);have ax:=zA.mk (zI aa.out);have aH:=zA.mk (zI ag.out);have aW:=zA.mk (zD HB.out);have aT:=zA.mk (zHV HT.out);clear HB HT ay ae ab ad af an ai aj aa ag;have ay:=aA;have ae:=ah;have ab:=ak;have ad:=al;have af:=ao;have an:=aq;have ai:=av;have aj:=aw;have aa:=ax;have ag:=aH;have HB:=aW;have HT:=aT;clear aW aT aA ah ak al ao aq av aw ax aH;refine QK (n:=5) (S:=fun w'=>w'.cell? ⟨g9,0,none⟩=some (.slice aU t18.length aV)∧w'.cell? ⟨g2,0,none⟩=some (.slice A0 l0.length c0)) (ds := []) #[false,false,false,false,false] (by kernel_rfl) rfl rfl ⟨(zK ag.out 0).trans rfl,(zK aa.out 0).trans rfl⟩ (fun bh=>?_);generalize cV:World.drew _=fl at ay ae ab ad af an ai aj aa ag HB HT bh ⊢;(try clear cV);refine ZY (i:=0) (N:=some 63) (v:=?_) (a':=?_) #[true,false,false,false,false] rfl rfl (by kernel_rfl) (fun _ _ _ h=>h) (Or.inl ⟨by rfl,?_⟩) bh ?_ ?_;rotate_left;(focus rintro w' ⟨s0,s1⟩;go_simp;with_reducible rfl);rotate_left;(simp only [Act.put,yay,yby,ycy,zY,za];rfl);refine ZY (i:=1) (N:=some 64) (v:=?_) (a':=?_) #[true,true,false,false,false] rfl rfl (by kernel_rfl) (fun _ _ _ h=>h) (Or.inl ⟨by rfl,?_⟩) bh ?_ ?_;rotate_left;(focus rintro w' ⟨s0,s1⟩;go_simp;with_reducible rfl);rotate_left;(simp only [Act.put,yay,yby,ycy,zY,za];rfl);refine zAI (i:=2) (N:=some 65) #[true,true,true,false,false] rfl rfl (by kernel_rfl) (by decide) (fun K hK=>?_);refine JH Try.func6 (by kernel_rfl) rfl #[.agg #[.slice A0 l0.length c0]] (by rfl) rfl rfl (by(try simp only [yiy,yjy,yky]);first|done|rfl|(simp only [yly,ymy];rfl)) ?_;with_reducible refine(qx.calls k _ _ l0 t35 _ ?side1 ?side2 et.out).mono ?_
 (case side1=>exact Kd.qA bV.out HB.out)
 (case side2=>exact bW.out)
 rintro e fm ⟨fa,rfl,a_,hb⟩;refine⟨_,rfl,?_⟩;(try clear ar au aJ aK);obtain⟨dx,dy,br⟩:=ObS.made a_ hb HT.out (zP HB.out);have aA:=zA.mk (ObS.below ay.out hb);have ah:=zA.mk (ObR.below ae.out hb);have ak:=zA.mk (ObR.below ab.out hb);have al:=zA.mk (ObR.below ad.out hb);have ao:=zA.mk (ObS.below af.out hb);have aq:=zA.mk (ObR.below an.out hb);have av:=zA.mk (ObR.below ai.out hb);have aw:=zA.mk (ObR.below aj.out hb);have ax:=zA.mk (zN (g:=g2) (o := .cells #[.slice A0 l0.length c0] 24 (0,0)) aa.out hb);have aH:=zA.mk (zN (g:=g9) (o := .cells #[.slice aU t18.length aV] 31 (0,0)) ag.out hb);have aW:=zA.mk (zM HB.out hb);have aT:=zA.mk (ZI HT.out hb);clear HB HT ay ae ab ad af an ai aj aa ag;have ay:=aA;have ae:=ah;have ab:=ak;have ad:=al;have af:=ao;have an:=aq;have ai:=av;have aj:=aw;have aa:=ax;have ag:=aH;have HB:=aW;have HT:=aT;clear aW aT aA ah ak al ao aq av aw ax aH;have aO:=zA.mk br.1;clear HT;have HT:=zA.mk br.2.1;have az:=zA.mk br.2.2;clear br a_;obtain⟨cW,cX,cE⟩:=az.out.slice;subst cE;(try clear hb);(try clear a7);refine hK.out _ _ ⟨(zK ag.out 0).trans rfl,(zK aa.out 0).trans rfl⟩ (fun bh=>?_);clear hK K;refine QV (a':=?_) ?_ ?_;rotate_left;(show Act.put _ (some 65) _=_;simp only [Act.put,yay,yby,ycy,zY,za];rfl);refine zAI (i:=3) (N:=some 66) #[true,true,true,true,false] rfl rfl (by kernel_rfl) (by decide) (fun K hK=>?_);refine JH Try.func10 (by kernel_rfl) rfl #[.agg #[.slice aU t18.length aV],.agg #[.slice cW t35.length cX]] (by rfl) rfl rfl (by(try simp only [yiy,yjy,yky]);first|done|rfl|(simp only [yly,ymy];rfl)) ?_;with_reducible refine(Zz.calls k _ _ t18 _ _ t35 true _ ?side1 ?side2 ?side3 ?side4 eu.out).mono ?_
 (case side1=>exact(ObS.reads af.out).2.2)
 (case side2=>exact ObS.room af.out)
 (case side3=>exact(ObS.reads az.out).2.2)
 (case side4=>exact ObS.room az.out)
 rintro e dz ⟨rfl,hb⟩;refine⟨_,rfl,?_⟩;(try clear ar au aJ aK);have aA:=zA.mk (ObS.below ay.out hb);have ah:=zA.mk (ObR.below ae.out hb);have ak:=zA.mk (ObR.below ab.out hb);have al:=zA.mk (ObR.below ad.out hb);have ao:=zA.mk (ObS.below af.out hb);have aq:=zA.mk (ObR.below an.out hb);have av:=zA.mk (ObR.below ai.out hb);have aw:=zA.mk (ObR.below aj.out hb);have aF:=zA.mk (ObS.below az.out hb);have ax:=zA.mk (zN (g:=g2) (o := .cells #[.slice A0 l0.length c0] 24 (0,0)) aa.out hb);have aH:=zA.mk (zN (g:=g9) (o := .cells #[.slice aU t18.length aV] 31 (0,0)) ag.out hb);have aW:=zA.mk (zM HB.out hb);have aT:=zA.mk (ZI HT.out hb);clear HB HT ay ae ab ad af an ai aj az aa ag;have ay:=aA;have ae:=ah;have ab:=ak;have ad:=al;have af:=ao;have an:=aq;have ai:=av;have aj:=aw;have az:=aF;have aa:=ax;have ag:=aH;have HB:=aW;have HT:=aT;clear aW aT aA ah ak al ao aq av aw aF ax aH;(try clear hb);(try clear a7);refine hK.out _ _ ⟨(zK ag.out 0).trans rfl,(zK aa.out 0).trans rfl⟩ (fun bh=>?_);clear hK K;refine QV (a':=?_) ?_ ?_;rotate_left;(show Act.put _ (some 66) _=_;simp only [Act.put,yay,yby,ycy,zY,za];rfl);refine zf (i:=4) (N:=some 67) (v:=?_) (a':=?_) #[true,true,true,true,true] rfl rfl (by kernel_rfl) (fun _ _ _ h=>h) (Or.inl ⟨by rfl,?_⟩) ?_ ?_;rotate_left;(focus intro w';go_simp;with_reducible rfl);rotate_left;(simp only [Act.put,yay,yby,ycy,zY,za];rfl);refine JG (by kernel_rfl) ?_;have ar:dz.cell? ⟨g2,0,none⟩=some (.slice A0 l0.length c0):=(zK aa.out 0).trans rfl;have au:=zL aa.out 0;have aJ:dz.cell? ⟨g9,0,none⟩=some (.slice aU t18.length aV):=(zK ag.out 0).trans rfl;have aK:=zL ag.out 0;try go_wp2_with (first|((with_reducible refine zU (f:=7) rfl ?_);refine qD (some 70) rfl rfl Try.func7 (by kernel_rfl) rfl #[.slice A1 l1.length c1] rfl (by(try simp only [yiy,yjy,yky]);first|done|rfl|(simp only [yly,ymy];rfl)) ?_;(with_reducible refine(qf.calls k _ _ l1 t40 _ ?side1 ?side2 ev.out).mono ?_);(case side1=>exact Kd.qA cK.out HB.out);(case side2=>exact cL.out);rintro e dA ⟨fb,rfl,a_,hb⟩;refine⟨_,rfl,?_⟩;(try clear ar au aJ aK);obtain⟨dB,dC,bs⟩:=ObR.made a_ hb HT.out (zP HB.out);have aA:=zA.mk (ObS.below ay.out hb);have ah:=zA.mk (ObR.below ae.out hb);have ak:=zA.mk (ObR.below ab.out hb);have al:=zA.mk (ObR.below ad.out hb);have ao:=zA.mk (ObS.below af.out hb);have aq:=zA.mk (ObR.below an.out hb);have av:=zA.mk (ObR.below ai.out hb);have aw:=zA.mk (ObR.below aj.out hb);have aF:=zA.mk (ObS.below az.out hb);have ax:=zA.mk (zN (g:=g2) (o := .cells #[.slice A0 l0.length c0] 24 (0,0)) aa.out hb);have aH:=zA.mk (zN (g:=g9) (o := .cells #[.slice aU t18.length aV] 31 (0,0)) ag.out hb);have aW:=zA.mk (zM HB.out hb);have aT:=zA.mk (ZI HT.out hb);clear HB HT ay ae ab ad af an ai aj az aa ag;have ay:=aA;have ae:=ah;have ab:=ak;have ad:=al;have af:=ao;have an:=aq;have ai:=av;have aj:=aw;have az:=aF;have aa:=ax;have ag:=aH;have HB:=aW;have HT:=aT;clear aW aT aA ah ak al ao aq av aw aF ax aH;have aP:=zA.mk bs.1;clear HT;have HT:=zA.mk bs.2.1;have aG:=zA.mk bs.2.2;clear bs a_;obtain⟨cY,cZ,cF⟩:=aG.out.slice;subst cF;(try clear hb);(try clear a7);have ar:dA.cell? ⟨g2,0,none⟩=some (.slice A0 l0.length c0):=(zK aa.out 0).trans rfl;have au:=zL aa.out 0;have aJ:dA.cell? ⟨g9,0,none⟩=some (.slice aU t18.length aV):=(zK ag.out 0).trans rfl;have aK:=zL ag.out 0)|((with_reducible refine zU (f:=9) rfl ?_);refine qD (some 71) rfl rfl Try.func9 (by kernel_rfl) rfl #[.slice bB t21.length bC,.slice cY t40.length cZ] rfl (by(try simp only [yiy,yjy,yky]);first|done|rfl|(simp only [yly,ymy];rfl)) ?_;(with_reducible refine(qR.calls k _ _ t21 _ _ t40 true _ ?side1 ?side2 ?side3 ?side4 ew.out).mono ?_);(case side1=>exact(ObR.reads an.out).2.2);(case side2=>exact ObR.room an.out);(case side3=>exact(ObR.reads aG.out).2.2);(case side4=>exact ObR.room aG.out);rintro e dD ⟨rfl,⟨nd,a7⟩⟩;refine⟨_,rfl,?_⟩;have hb:=Zc a7;(try clear ar au aJ aK);have aA:=zA.mk (ObS.below ay.out hb);have ah:=zA.mk (ObR.below ae.out hb);have ak:=zA.mk (ObR.below ab.out hb);have al:=zA.mk (ObR.below ad.out hb);have ao:=zA.mk (ObS.below af.out hb);have aq:=zA.mk (ObR.below an.out hb);have av:=zA.mk (ObR.below ai.out hb);have aw:=zA.mk (ObR.below aj.out hb);have aF:=zA.mk (ObS.below az.out hb);have aI:=zA.mk (ObR.below aG.out hb);have ax:=zA.mk (zN (g:=g2) (o := .cells #[.slice A0 l0.length c0] 24 (0,0)) aa.out hb);have aH:=zA.mk (zN (g:=g9) (o := .cells #[.slice aU t18.length aV] 31 (0,0)) ag.out hb);have aW:=zA.mk (zM HB.out hb);have aT:=zA.mk (ZI HT.out hb);clear HB HT ay ae ab ad af an ai aj az aG aa ag;have ay:=aA;have ae:=ah;have ab:=ak;have ad:=al;have af:=ao;have an:=aq;have ai:=av;have aj:=aw;have az:=aF;have aG:=aI;have aa:=ax;have ag:=aH;have HB:=aW;have HT:=aT;clear aW aT aA ah ak al ao aq av aw aF aI ax aH;(try clear hb);(try clear a7);have ar:dD.cell? ⟨g2,0,none⟩=some (.slice A0 l0.length c0):=(zK aa.out 0).trans rfl;have au:=zL aa.out 0;have aJ:dD.cell? ⟨g9,0,none⟩=some (.slice aU t18.length aV):=(zK ag.out 0).trans rfl;have aK:=zL ag.out 0)|((with_reducible refine zU (f:=11) rfl ?_);refine qD (some 75) rfl rfl Try.func11 (by kernel_rfl) rfl #[.agg #[.slice aU t18.length aV],.int .i64 1] rfl (by(try simp only [yiy,yjy,yky]);first|done|rfl|(simp only [yly,ymy];rfl)) ?_;(with_reducible refine(Zt.calls k (fun k_=>cw≤k_∧k_<bH) (.slice aU t18.length aV) t18 1 cP ey w _ HB.out (ObS.row af.out) ez.out).mono ?_);rintro e dE ⟨rfl,hy,hb,bF⟩;refine⟨_,rfl,?_⟩;have hk:=bF;have nM:=zA.mk (ObS.marked af.out hy hk.1);(try clear ar au aJ aK);have aA:=zA.mk (ObS.kept ay.out hk (by have:=aQ.out;have:=aR.out;have:=aB.out;have:=aC.out;have:=aD.out;have:=aE.out;have:=aS.out;have:=aL.out;have:=aM.out;have:=aN.out;have:=aO.out;have:=aP.out;omega));have ah:=zA.mk (ObR.kept ae.out hk (by have:=aQ.out;have:=aR.out;have:=aB.out;have:=aC.out;have:=aD.out;have:=aE.out;have:=aS.out;have:=aL.out;have:=aM.out;have:=aN.out;have:=aO.out;have:=aP.out;omega));have ak:=zA.mk (ObR.kept ab.out hk (by have:=aQ.out;have:=aR.out;have:=aB.out;have:=aC.out;have:=aD.out;have:=aE.out;have:=aS.out;have:=aL.out;have:=aM.out;have:=aN.out;have:=aO.out;have:=aP.out;omega));have al:=zA.mk (ObR.kept ad.out hk (by have:=aQ.out;have:=aR.out;have:=aB.out;have:=aC.out;have:=aD.out;have:=aE.out;have:=aS.out;have:=aL.out;have:=aM.out;have:=aN.out;have:=aO.out;have:=aP.out;omega));have aq:=zA.mk (ObR.kept an.out hk (by have:=aQ.out;have:=aR.out;have:=aB.out;have:=aC.out;have:=aD.out;have:=aE.out;have:=aS.out;have:=aL.out;have:=aM.out;have:=aN.out;have:=aO.out;have:=aP.out;omega));have av:=zA.mk (ObR.kept ai.out hk (by have:=aQ.out;have:=aR.out;have:=aB.out;have:=aC.out;have:=aD.out;have:=aE.out;have:=aS.out;have:=aL.out;have:=aM.out;have:=aN.out;have:=aO.out;have:=aP.out;omega));have aw:=zA.mk (ObR.kept aj.out hk (by have:=aQ.out;have:=aR.out;have:=aB.out;have:=aC.out;have:=aD.out;have:=aE.out;have:=aS.out;have:=aL.out;have:=aM.out;have:=aN.out;have:=aO.out;have:=aP.out;omega));have aF:=zA.mk (ObS.kept az.out hk (by have:=aQ.out;have:=aR.out;have:=aB.out;have:=aC.out;have:=aD.out;have:=aE.out;have:=aS.out;have:=aL.out;have:=aM.out;have:=aN.out;have:=aO.out;have:=aP.out;omega));have aI:=zA.mk (ObR.kept aG.out hk (by have:=aQ.out;have:=aR.out;have:=aB.out;have:=aC.out;have:=aD.out;have:=aE.out;have:=aS.out;have:=aL.out;have:=aM.out;have:=aN.out;have:=aO.out;have:=aP.out;omega));have ax:=zA.mk (Zy (g:=g2) (o := .cells #[.slice A0 l0.length c0] 24 (0,0)) aa.out hk (fun h_=>by have bd:=h_.1;have bf:=h_.2;have:=aQ.out;have:=aR.out;have:=aB.out;have:=aC.out;have:=aD.out;have:=aE.out;have:=aS.out;have:=aL.out;have:=aM.out;have:=aN.out;have:=aO.out;have:=aP.out;omega));have aH:=zA.mk (Zy (g:=g9) (o := .cells #[.slice aU t18.length aV] 31 (0,0)) ag.out hk (fun h_=>by have bd:=h_.1;have bf:=h_.2;have:=aQ.out;have:=aR.out;have:=aB.out;have:=aC.out;have:=aD.out;have:=aE.out;have:=aS.out;have:=aL.out;have:=aM.out;have:=aN.out;have:=aO.out;have:=aP.out;omega));have aT:=zA.mk (Nat.le_trans HT.out hk.1);clear HB HT ay ae ab ad af an ai aj az aG aa ag;have ay:=aA;have ae:=ah;have ab:=ak;have ad:=al;have af:=nM;have an:=aq;have ai:=av;have aj:=aw;have az:=aF;have aG:=aI;have aa:=ax;have ag:=aH;have HB:=zA.mk hb;have HT:=aT;(try clear hy);clear hb bF hk nM aT aA ah ak al aq av aw aF aI ax aH;have ar:dE.cell? ⟨g2,0,none⟩=some (.slice A0 l0.length c0):=(zK aa.out 0).trans rfl;have au:=zL aa.out 0;have aJ:dE.cell? ⟨g9,0,none⟩=some (.slice aU t18.length aV):=(zK ag.out 0).trans rfl;have aK:=zL ag.out 0)|((with_reducible refine zU (f:=12) rfl ?_);refine qD (some 78) rfl rfl Try.func12 (by kernel_rfl) rfl #[.slice bB t21.length bC,.int .i64 cP] rfl (by(try simp only [yiy,yjy,yky]);first|done|rfl|(simp only [yly,ymy];rfl)) ?_;(with_reducible refine(qb.calls k (fun k_=>some k_=(.slice bB t21.length bC:Value).ownBlock) (.slice bB t21.length bC) t21 cP cQ eA w _ HB.out (Kd.QX rfl (ObR.row an.out)) eB.out).mono ?_);rintro e dF ⟨rfl,hy,hb,bF⟩;refine⟨_,rfl,?_⟩;have hk:=ObR.range an.out bF;have nM:=zA.mk (ObR.marked an.out rfl hy hk.1);(try clear ar au aJ aK);have aA:=zA.mk (ObS.kept ay.out hk (by have:=aQ.out;have:=aR.out;have:=aB.out;have:=aC.out;have:=aD.out;have:=aE.out;have:=aS.out;have:=aL.out;have:=aM.out;have:=aN.out;have:=aO.out;have:=aP.out;omega));have ah:=zA.mk (ObR.kept ae.out hk (by have:=aQ.out;have:=aR.out;have:=aB.out;have:=aC.out;have:=aD.out;have:=aE.out;have:=aS.out;have:=aL.out;have:=aM.out;have:=aN.out;have:=aO.out;have:=aP.out;omega));have ak:=zA.mk (ObR.kept ab.out hk (by have:=aQ.out;have:=aR.out;have:=aB.out;have:=aC.out;have:=aD.out;have:=aE.out;have:=aS.out;have:=aL.out;have:=aM.out;have:=aN.out;have:=aO.out;have:=aP.out;omega));have al:=zA.mk (ObR.kept ad.out hk (by have:=aQ.out;have:=aR.out;have:=aB.out;have:=aC.out;have:=aD.out;have:=aE.out;have:=aS.out;have:=aL.out;have:=aM.out;have:=aN.out;have:=aO.out;have:=aP.out;omega));have ao:=zA.mk (ObS.kept af.out hk (by have:=aQ.out;have:=aR.out;have:=aB.out;have:=aC.out;have:=aD.out;have:=aE.out;have:=aS.out;have:=aL.out;have:=aM.out;have:=aN.out;have:=aO.out;have:=aP.out;omega));have av:=zA.mk (ObR.kept ai.out hk (by have:=aQ.out;have:=aR.out;have:=aB.out;have:=aC.out;have:=aD.out;have:=aE.out;have:=aS.out;have:=aL.out;have:=aM.out;have:=aN.out;have:=aO.out;have:=aP.out;omega));have aw:=zA.mk (ObR.kept aj.out hk (by have:=aQ.out;have:=aR.out;have:=aB.out;have:=aC.out;have:=aD.out;have:=aE.out;have:=aS.out;have:=aL.out;have:=aM.out;have:=aN.out;have:=aO.out;have:=aP.out;omega));have aF:=zA.mk (ObS.kept az.out hk (by have:=aQ.out;have:=aR.out;have:=aB.out;have:=aC.out;have:=aD.out;have:=aE.out;have:=aS.out;have:=aL.out;have:=aM.out;have:=aN.out;have:=aO.out;have:=aP.out;omega));have aI:=zA.mk (ObR.kept aG.out hk (by have:=aQ.out;have:=aR.out;have:=aB.out;have:=aC.out;have:=aD.out;have:=aE.out;have:=aS.out;have:=aL.out;have:=aM.out;have:=aN.out;have:=aO.out;have:=aP.out;omega));have ax:=zA.mk (Zy (g:=g2) (o := .cells #[.slice A0 l0.length c0] 24 (0,0)) aa.out hk (fun h_=>by have bd:=h_.1;have bf:=h_.2;have:=aQ.out;have:=aR.out;have:=aB.out;have:=aC.out;have:=aD.out;have:=aE.out;have:=aS.out;have:=aL.out;have:=aM.out;have:=aN.out;have:=aO.out;have:=aP.out;omega));have aH:=zA.mk (Zy (g:=g9) (o := .cells #[.slice aU t18.length aV] 31 (0,0)) ag.out hk (fun h_=>by have bd:=h_.1;have bf:=h_.2;have:=aQ.out;have:=aR.out;have:=aB.out;have:=aC.out;have:=aD.out;have:=aE.out;have:=aS.out;have:=aL.out;have:=aM.out;have:=aN.out;have:=aO.out;have:=aP.out;omega));have aT:=zA.mk (Nat.le_trans HT.out hk.1);clear HB HT ay ae ab ad af an ai aj az aG aa ag;have ay:=aA;have ae:=ah;have ab:=ak;have ad:=al;have af:=ao;have an:=nM;have ai:=av;have aj:=aw;have az:=aF;have aG:=aI;have aa:=ax;have ag:=aH;have HB:=zA.mk hb;have HT:=aT;(try clear hy);clear hb bF hk nM aT aA ah ak al ao av aw aF aI ax aH;have ar:dF.cell? ⟨g2,0,none⟩=some (.slice A0 l0.length c0):=(zK aa.out 0).trans rfl;have au:=zL aa.out 0;have aJ:dF.cell? ⟨g9,0,none⟩=some (.slice aU t18.length aV):=(zK ag.out 0).trans rfl;have aK:=zL ag.out 0))
 try go_wp2_with (first|(go_at_call 9;(with_reducible refine(qR.calls k _ _ t24 _ _ t12 true _ ?side1 ?side2 ?side3 ?side4 eD.out).mono ?_);(case side1=>exact(ObR.reads ai.out).2.2);(case side2=>exact ObR.room ai.out);(case side3=>exact(ObR.reads ab.out).2.2);(case side4=>exact ObR.room ab.out);rintro e dG ⟨rfl,⟨nd,a7⟩⟩;have hb:=Zc a7;(try clear ar au aJ aK);have aA:=zA.mk (ObS.below ay.out hb);have ah:=zA.mk (ObR.below ae.out hb);have ak:=zA.mk (ObR.below ab.out hb);have al:=zA.mk (ObR.below ad.out hb);have ao:=zA.mk (ObS.below af.out hb);have aq:=zA.mk (ObR.below an.out hb);have av:=zA.mk (ObR.below ai.out hb);have aw:=zA.mk (ObR.below aj.out hb);have aF:=zA.mk (ObS.below az.out hb);have aI:=zA.mk (ObR.below aG.out hb);have ax:=zA.mk (zN (g:=g2) (o := .cells #[.slice A0 l0.length c0] 24 (0,0)) aa.out hb);have aH:=zA.mk (zN (g:=g9) (o := .cells #[.slice aU t18.length aV] 31 (0,0)) ag.out hb);have aW:=zA.mk (zM HB.out hb);have aT:=zA.mk (ZI HT.out hb);clear HB HT ay ae ab ad af an ai aj az aG aa ag;have ay:=aA;have ae:=ah;have ab:=ak;have ad:=al;have af:=ao;have an:=aq;have ai:=av;have aj:=aw;have az:=aF;have aG:=aI;have aa:=ax;have ag:=aH;have HB:=aW;have HT:=aT;clear aW aT aA ah ak al ao aq av aw aF aI ax aH;(try clear hb);(try clear a7);have ar:dG.cell? ⟨g2,0,none⟩=some (.slice A0 l0.length c0):=(zK aa.out 0).trans rfl;have au:=zL aa.out 0;have aJ:dG.cell? ⟨g9,0,none⟩=some (.slice aU t18.length aV):=(zK ag.out 0).trans rfl;have aK:=zL ag.out 0))
 try go_wp2_with (first|(go_at_call 9;(with_reducible refine(qR.calls k _ _ t26 _ _ t14 true _ ?side1 ?side2 ?side3 ?side4 eE.out).mono ?_);(case side1=>exact(ObR.reads aj.out).2.2);(case side2=>exact ObR.room aj.out);(case side3=>exact(ObR.reads ad.out).2.2);(case side4=>exact ObR.room ad.out);rintro e dH ⟨rfl,⟨nd,a7⟩⟩;have hb:=Zc a7;(try clear ar au aJ aK);have aA:=zA.mk (ObS.below ay.out hb);have ah:=zA.mk (ObR.below ae.out hb);have ak:=zA.mk (ObR.below ab.out hb);have al:=zA.mk (ObR.below ad.out hb);have ao:=zA.mk (ObS.below af.out hb);have aq:=zA.mk (ObR.below an.out hb);have av:=zA.mk (ObR.below ai.out hb);have aw:=zA.mk (ObR.below aj.out hb);have aF:=zA.mk (ObS.below az.out hb);have aI:=zA.mk (ObR.below aG.out hb);have ax:=zA.mk (zN (g:=g2) (o := .cells #[.slice A0 l0.length c0] 24 (0,0)) aa.out hb);have aH:=zA.mk (zN (g:=g9) (o := .cells #[.slice aU t18.length aV] 31 (0,0)) ag.out hb);have aW:=zA.mk (zM HB.out hb);have aT:=zA.mk (ZI HT.out hb);clear HB HT ay ae ab ad af an ai aj az aG aa ag;have ay:=aA;have ae:=ah;have ab:=ak;have ad:=al;have af:=ao;have an:=aq;have ai:=av;have aj:=aw;have az:=aF;have aG:=aI;have aa:=ax;have ag:=aH;have HB:=aW;have HT:=aT;clear aW aT aA ah ak al ao aq av aw aF aI ax aH;(try clear hb);(try clear a7);have ar:dH.cell? ⟨g2,0,none⟩=some (.slice A0 l0.length c0):=(zK aa.out 0).trans rfl;have au:=zL aa.out 0;have aJ:dH.cell? ⟨g9,0,none⟩=some (.slice aU t18.length aV):=(zK ag.out 0).trans rfl;have aK:=zL ag.out 0)|((with_reducible refine zU (f:=12) rfl ?_);refine qD (some 100) rfl rfl Try.func12 (by kernel_rfl) rfl #[.slice bz t24.length bA,.int .i64 1] rfl (by(try simp only [yiy,yjy,yky]);first|done|rfl|(simp only [yly,ymy];rfl)) ?_;(with_reducible refine(qb.calls k (fun k_=>some k_=(.slice bz t24.length bA:Value).ownBlock) (.slice bz t24.length bA) t24 1 cR bL w _ HB.out (Kd.QX rfl (ObR.row ai.out)) eG.out).mono ?_);rintro e dI ⟨rfl,hy,hb,bF⟩;refine⟨_,rfl,?_⟩;have hk:=ObR.range ai.out bF;have nM:=zA.mk (ObR.marked ai.out rfl hy hk.1);(try clear ar au aJ aK);have aA:=zA.mk (ObS.kept ay.out hk (by have:=aQ.out;have:=aR.out;have:=aB.out;have:=aC.out;have:=aD.out;have:=aE.out;have:=aS.out;have:=aL.out;have:=aM.out;have:=aN.out;have:=aO.out;have:=aP.out;omega));have ah:=zA.mk (ObR.kept ae.out hk (by have:=aQ.out;have:=aR.out;have:=aB.out;have:=aC.out;have:=aD.out;have:=aE.out;have:=aS.out;have:=aL.out;have:=aM.out;have:=aN.out;have:=aO.out;have:=aP.out;omega));have ak:=zA.mk (ObR.kept ab.out hk (by have:=aQ.out;have:=aR.out;have:=aB.out;have:=aC.out;have:=aD.out;have:=aE.out;have:=aS.out;have:=aL.out;have:=aM.out;have:=aN.out;have:=aO.out;have:=aP.out;omega));have al:=zA.mk (ObR.kept ad.out hk (by have:=aQ.out;have:=aR.out;have:=aB.out;have:=aC.out;have:=aD.out;have:=aE.out;have:=aS.out;have:=aL.out;have:=aM.out;have:=aN.out;have:=aO.out;have:=aP.out;omega));have ao:=zA.mk (ObS.kept af.out hk (by have:=aQ.out;have:=aR.out;have:=aB.out;have:=aC.out;have:=aD.out;have:=aE.out;have:=aS.out;have:=aL.out;have:=aM.out;have:=aN.out;have:=aO.out;have:=aP.out;omega));have aq:=zA.mk (ObR.kept an.out hk (by have:=aQ.out;have:=aR.out;have:=aB.out;have:=aC.out;have:=aD.out;have:=aE.out;have:=aS.out;have:=aL.out;have:=aM.out;have:=aN.out;have:=aO.out;have:=aP.out;omega));have aw:=zA.mk (ObR.kept aj.out hk (by have:=aQ.out;have:=aR.out;have:=aB.out;have:=aC.out;have:=aD.out;have:=aE.out;have:=aS.out;have:=aL.out;have:=aM.out;have:=aN.out;have:=aO.out;have:=aP.out;omega));have aF:=zA.mk (ObS.kept az.out hk (by have:=aQ.out;have:=aR.out;have:=aB.out;have:=aC.out;have:=aD.out;have:=aE.out;have:=aS.out;have:=aL.out;have:=aM.out;have:=aN.out;have:=aO.out;have:=aP.out;omega));have aI:=zA.mk (ObR.kept aG.out hk (by have:=aQ.out;have:=aR.out;have:=aB.out;have:=aC.out;have:=aD.out;have:=aE.out;have:=aS.out;have:=aL.out;have:=aM.out;have:=aN.out;have:=aO.out;have:=aP.out;omega));have ax:=zA.mk (Zy (g:=g2) (o := .cells #[.slice A0 l0.length c0] 24 (0,0)) aa.out hk (fun h_=>by have bd:=h_.1;have bf:=h_.2;have:=aQ.out;have:=aR.out;have:=aB.out;have:=aC.out;have:=aD.out;have:=aE.out;have:=aS.out;have:=aL.out;have:=aM.out;have:=aN.out;have:=aO.out;have:=aP.out;omega));have aH:=zA.mk (Zy (g:=g9) (o := .cells #[.slice aU t18.length aV] 31 (0,0)) ag.out hk (fun h_=>by have bd:=h_.1;have bf:=h_.2;have:=aQ.out;have:=aR.out;have:=aB.out;have:=aC.out;have:=aD.out;have:=aE.out;have:=aS.out;have:=aL.out;have:=aM.out;have:=aN.out;have:=aO.out;have:=aP.out;omega));have aT:=zA.mk (Nat.le_trans HT.out hk.1);clear HB HT ay ae ab ad af an ai aj az aG aa ag;have ay:=aA;have ae:=ah;have ab:=ak;have ad:=al;have af:=ao;have an:=aq;have ai:=nM;have aj:=aw;have az:=aF;have aG:=aI;have aa:=ax;have ag:=aH;have HB:=zA.mk hb;have HT:=aT;(try clear hy);clear hb bF hk nM aT aA ah ak al ao aq aw aF aI ax aH;have ar:dI.cell? ⟨g2,0,none⟩=some (.slice A0 l0.length c0):=(zK aa.out 0).trans rfl;have au:=zL aa.out 0;have aJ:dI.cell? ⟨g9,0,none⟩=some (.slice aU t18.length aV):=(zK ag.out 0).trans rfl;have aK:=zL ag.out 0)|((with_reducible refine zU (f:=12) rfl ?_);refine qD (some 103) rfl rfl Try.func12 (by kernel_rfl) rfl #[.slice bD t26.length bE,.int .i64 cR] rfl (by(try simp only [yiy,yjy,yky]);first|done|rfl|(simp only [yly,ymy];rfl)) ?_;(with_reducible refine(qb.calls k (fun k_=>some k_=(.slice bD t26.length bE:Value).ownBlock) (.slice bD t26.length bE) t26 cR bM bN w _ HB.out (Kd.QX rfl (ObR.row aj.out)) eH.out).mono ?_);rintro e dJ ⟨rfl,hy,hb,bF⟩;refine⟨_,rfl,?_⟩;have hk:=ObR.range aj.out bF;have nM:=zA.mk (ObR.marked aj.out rfl hy hk.1);(try clear ar au aJ aK);have aA:=zA.mk (ObS.kept ay.out hk (by have:=aQ.out;have:=aR.out;have:=aB.out;have:=aC.out;have:=aD.out;have:=aE.out;have:=aS.out;have:=aL.out;have:=aM.out;have:=aN.out;have:=aO.out;have:=aP.out;omega));have ah:=zA.mk (ObR.kept ae.out hk (by have:=aQ.out;have:=aR.out;have:=aB.out;have:=aC.out;have:=aD.out;have:=aE.out;have:=aS.out;have:=aL.out;have:=aM.out;have:=aN.out;have:=aO.out;have:=aP.out;omega));have ak:=zA.mk (ObR.kept ab.out hk (by have:=aQ.out;have:=aR.out;have:=aB.out;have:=aC.out;have:=aD.out;have:=aE.out;have:=aS.out;have:=aL.out;have:=aM.out;have:=aN.out;have:=aO.out;have:=aP.out;omega));have al:=zA.mk (ObR.kept ad.out hk (by have:=aQ.out;have:=aR.out;have:=aB.out;have:=aC.out;have:=aD.out;have:=aE.out;have:=aS.out;have:=aL.out;have:=aM.out;have:=aN.out;have:=aO.out;have:=aP.out;omega));have ao:=zA.mk (ObS.kept af.out hk (by have:=aQ.out;have:=aR.out;have:=aB.out;have:=aC.out;have:=aD.out;have:=aE.out;have:=aS.out;have:=aL.out;have:=aM.out;have:=aN.out;have:=aO.out;have:=aP.out;omega));have aq:=zA.mk (ObR.kept an.out hk (by have:=aQ.out;have:=aR.out;have:=aB.out;have:=aC.out;have:=aD.out;have:=aE.out;have:=aS.out;have:=aL.out;have:=aM.out;have:=aN.out;have:=aO.out;have:=aP.out;omega));have av:=zA.mk (ObR.kept ai.out hk (by have:=aQ.out;have:=aR.out;have:=aB.out;have:=aC.out;have:=aD.out;have:=aE.out;have:=aS.out;have:=aL.out;have:=aM.out;have:=aN.out;have:=aO.out;have:=aP.out;omega));have aF:=zA.mk (ObS.kept az.out hk (by have:=aQ.out;have:=aR.out;have:=aB.out;have:=aC.out;have:=aD.out;have:=aE.out;have:=aS.out;have:=aL.out;have:=aM.out;have:=aN.out;have:=aO.out;have:=aP.out;omega));have aI:=zA.mk (ObR.kept aG.out hk (by have:=aQ.out;have:=aR.out;have:=aB.out;have:=aC.out;have:=aD.out;have:=aE.out;have:=aS.out;have:=aL.out;have:=aM.out;have:=aN.out;have:=aO.out;have:=aP.out;omega));have ax:=zA.mk (Zy (g:=g2) (o := .cells #[.slice A0 l0.length c0] 24 (0,0)) aa.out hk (fun h_=>by have bd:=h_.1;have bf:=h_.2;have:=aQ.out;have:=aR.out;have:=aB.out;have:=aC.out;have:=aD.out;have:=aE.out;have:=aS.out;have:=aL.out;have:=aM.out;have:=aN.out;have:=aO.out;have:=aP.out;omega));have aH:=zA.mk (Zy (g:=g9) (o := .cells #[.slice aU t18.length aV] 31 (0,0)) ag.out hk (fun h_=>by have bd:=h_.1;have bf:=h_.2;have:=aQ.out;have:=aR.out;have:=aB.out;have:=aC.out;have:=aD.out;have:=aE.out;have:=aS.out;have:=aL.out;have:=aM.out;have:=aN.out;have:=aO.out;have:=aP.out;omega));have aT:=zA.mk (Nat.le_trans HT.out hk.1);clear HB HT ay ae ab ad af an ai aj az aG aa ag;have ay:=aA;have ae:=ah;have ab:=ak;have ad:=al;have af:=ao;have an:=aq;have ai:=av;have aj:=nM;have az:=aF;have aG:=aI;have aa:=ax;have ag:=aH;have HB:=zA.mk hb;have HT:=aT;(try clear hy);clear hb bF hk nM aT aA ah ak al ao aq av aF aI ax aH;have ar:dJ.cell? ⟨g2,0,none⟩=some (.slice A0 l0.length c0):=(zK aa.out 0).trans rfl;have au:=zL aa.out 0;have aJ:dJ.cell? ⟨g9,0,none⟩=some (.slice aU t18.length aV):=(zK ag.out 0).trans rfl;have aK:=zL ag.out 0)|((with_reducible refine zU (f:=13) rfl ?_);refine qD (some 106) rfl rfl Try.func13 (by kernel_rfl) rfl #[.slice bz bL.length bA,.int .i64 1] rfl (by(try simp only [yiy,yjy,yky]);first|done|(rw[show bL.length=t24.length from(ObR.reads ai.out).1.symm] <;> rfl)|rfl|(simp only [yly,ymy];rfl)) ?_;(with_reducible refine(qX.calls k _ _ bL 1 t63 _ ?side1 ?side2 eI.out).mono ?_);(case side1=>exact(ObR.reads ai.out).2.2);(case side2=>exact ObR.room ai.out);rintro e dK ⟨rfl,⟨nd,a7⟩⟩;refine⟨_,rfl,?_⟩;have hb:=Zc a7;(try clear ar au aJ aK);have aA:=zA.mk (ObS.below ay.out hb);have ah:=zA.mk (ObR.below ae.out hb);have ak:=zA.mk (ObR.below ab.out hb);have al:=zA.mk (ObR.below ad.out hb);have ao:=zA.mk (ObS.below af.out hb);have aq:=zA.mk (ObR.below an.out hb);have av:=zA.mk (ObR.below ai.out hb);have aw:=zA.mk (ObR.below aj.out hb);have aF:=zA.mk (ObS.below az.out hb);have aI:=zA.mk (ObR.below aG.out hb);have ax:=zA.mk (zN (g:=g2) (o := .cells #[.slice A0 l0.length c0] 24 (0,0)) aa.out hb);have aH:=zA.mk (zN (g:=g9) (o := .cells #[.slice aU t18.length aV] 31 (0,0)) ag.out hb);have aW:=zA.mk (zM HB.out hb);have aT:=zA.mk (ZI HT.out hb);clear HB HT ay ae ab ad af an ai aj az aG aa ag;have ay:=aA;have ae:=ah;have ab:=ak;have ad:=al;have af:=ao;have an:=aq;have ai:=av;have aj:=aw;have az:=aF;have aG:=aI;have aa:=ax;have ag:=aH;have HB:=aW;have HT:=aT;clear aW aT aA ah ak al ao aq av aw aF aI ax aH;(try clear hb);(try clear a7);have ar:dK.cell? ⟨g2,0,none⟩=some (.slice A0 l0.length c0):=(zK aa.out 0).trans rfl;have au:=zL aa.out 0;have aJ:dK.cell? ⟨g9,0,none⟩=some (.slice aU t18.length aV):=(zK ag.out 0).trans rfl;have aK:=zL ag.out 0)|((with_reducible refine zU (f:=13) rfl ?_);refine qD (some 111) rfl rfl Try.func13 (by kernel_rfl) rfl #[.slice bD bN.length bE,.int .i64 t63] rfl (by(try simp only [yiy,yjy,yky]);first|done|(rw[show bN.length=t26.length from(ObR.reads aj.out).1.symm] <;> rfl)|rfl|(simp only [yly,ymy];rfl)) ?_;(with_reducible refine(qX.calls k _ _ bN t63 t66 _ ?side1 ?side2 eK.out).mono ?_);(case side1=>exact(ObR.reads aj.out).2.2);(case side2=>exact ObR.room aj.out);rintro e dL ⟨rfl,⟨nd,a7⟩⟩;refine⟨_,rfl,?_⟩;have hb:=Zc a7;(try clear ar au aJ aK);have aA:=zA.mk (ObS.below ay.out hb);have ah:=zA.mk (ObR.below ae.out hb);have ak:=zA.mk (ObR.below ab.out hb);have al:=zA.mk (ObR.below ad.out hb);have ao:=zA.mk (ObS.below af.out hb);have aq:=zA.mk (ObR.below an.out hb);have av:=zA.mk (ObR.below ai.out hb);have aw:=zA.mk (ObR.below aj.out hb);have aF:=zA.mk (ObS.below az.out hb);have aI:=zA.mk (ObR.below aG.out hb);have ax:=zA.mk (zN (g:=g2) (o := .cells #[.slice A0 l0.length c0] 24 (0,0)) aa.out hb);have aH:=zA.mk (zN (g:=g9) (o := .cells #[.slice aU t18.length aV] 31 (0,0)) ag.out hb);have aW:=zA.mk (zM HB.out hb);have aT:=zA.mk (ZI HT.out hb);clear HB HT ay ae ab ad af an ai aj az aG aa ag;have ay:=aA;have ae:=ah;have ab:=ak;have ad:=al;have af:=ao;have an:=aq;have ai:=av;have aj:=aw;have az:=aF;have aG:=aI;have aa:=ax;have ag:=aH;have HB:=aW;have HT:=aT;clear aW aT aA ah ak al ao aq av aw aF aI ax aH;(try clear hb);(try clear a7);have ar:dL.cell? ⟨g2,0,none⟩=some (.slice A0 l0.length c0):=(zK aa.out 0).trans rfl;have au:=zL aa.out 0;have aJ:dL.cell? ⟨g9,0,none⟩=some (.slice aU t18.length aV):=(zK ag.out 0).trans rfl;have aK:=zL ag.out 0)|((with_reducible refine zU (f:=6) rfl ?_);refine qD (some 119) rfl rfl Try.func6 (by kernel_rfl) rfl #[.agg #[.slice A0 l0.length c0]] rfl (by(try simp only [yiy,yjy,yky]);first|done|rfl|(simp only [yly,ymy];rfl)) ?_;(with_reducible refine(qx.calls k _ _ l0 t70 _ ?side1 ?side2 eN.out).mono ?_);(case side1=>exact Kd.qA bV.out HB.out);(case side2=>exact bW.out);rintro e dM ⟨fe,rfl,a_,hb⟩;refine⟨_,rfl,?_⟩;(try clear ar au aJ aK);obtain⟨dN,dO,bt⟩:=ObS.made a_ hb HT.out (zP HB.out);have aA:=zA.mk (ObS.below ay.out hb);have ah:=zA.mk (ObR.below ae.out hb);have ak:=zA.mk (ObR.below ab.out hb);have al:=zA.mk (ObR.below ad.out hb);have ao:=zA.mk (ObS.below af.out hb);have aq:=zA.mk (ObR.below an.out hb);have av:=zA.mk (ObR.below ai.out hb);have aw:=zA.mk (ObR.below aj.out hb);have aF:=zA.mk (ObS.below az.out hb);have aI:=zA.mk (ObR.below aG.out hb);have ax:=zA.mk (zN (g:=g2) (o := .cells #[.slice A0 l0.length c0] 24 (0,0)) aa.out hb);have aH:=zA.mk (zN (g:=g9) (o := .cells #[.slice aU t18.length aV] 31 (0,0)) ag.out hb);have aW:=zA.mk (zM HB.out hb);have aT:=zA.mk (ZI HT.out hb);clear HB HT ay ae ab ad af an ai aj az aG aa ag;have ay:=aA;have ae:=ah;have ab:=ak;have ad:=al;have af:=ao;have an:=aq;have ai:=av;have aj:=aw;have az:=aF;have aG:=aI;have aa:=ax;have ag:=aH;have HB:=aW;have HT:=aT;clear aW aT aA ah ak al ao aq av aw aF aI ax aH;have dP:=zA.mk bt.1;clear HT;have HT:=zA.mk bt.2.1;have aX:=zA.mk bt.2.2;clear bt a_;obtain⟨c2,c3,cG⟩:=aX.out.slice;subst cG;(try clear hb);(try clear a7);have ar:dM.cell? ⟨g2,0,none⟩=some (.slice A0 l0.length c0):=(zK aa.out 0).trans rfl;have au:=zL aa.out 0;have aJ:dM.cell? ⟨g9,0,none⟩=some (.slice aU t18.length aV):=(zK ag.out 0).trans rfl;have aK:=zL ag.out 0)|((with_reducible refine zU (f:=7) rfl ?_);refine qD (some 121) rfl rfl Try.func7 (by kernel_rfl) rfl #[.slice A1 l1.length c1] rfl (by(try simp only [yiy,yjy,yky]);first|done|rfl|(simp only [yly,ymy];rfl)) ?_;(with_reducible refine(qf.calls k _ _ l1 t73 _ ?side1 ?side2 eO.out).mono ?_);(case side1=>exact Kd.qA cK.out HB.out);(case side2=>exact cL.out);rintro e dQ ⟨ff,rfl,a_,hb⟩;refine⟨_,rfl,?_⟩;(try clear ar au aJ aK);obtain⟨dR,dS,bu⟩:=ObR.made a_ hb HT.out (zP HB.out);have aA:=zA.mk (ObS.below ay.out hb);have ah:=zA.mk (ObR.below ae.out hb);have ak:=zA.mk (ObR.below ab.out hb);have al:=zA.mk (ObR.below ad.out hb);have ao:=zA.mk (ObS.below af.out hb);have aq:=zA.mk (ObR.below an.out hb);have av:=zA.mk (ObR.below ai.out hb);have aw:=zA.mk (ObR.below aj.out hb);have aF:=zA.mk (ObS.below az.out hb);have aI:=zA.mk (ObR.below aG.out hb);have aZ:=zA.mk (ObS.below aX.out hb);have ax:=zA.mk (zN (g:=g2) (o := .cells #[.slice A0 l0.length c0] 24 (0,0)) aa.out hb);have aH:=zA.mk (zN (g:=g9) (o := .cells #[.slice aU t18.length aV] 31 (0,0)) ag.out hb);have aW:=zA.mk (zM HB.out hb);have aT:=zA.mk (ZI HT.out hb);clear HB HT ay ae ab ad af an ai aj az aG aX aa ag;have ay:=aA;have ae:=ah;have ab:=ak;have ad:=al;have af:=ao;have an:=aq;have ai:=av;have aj:=aw;have az:=aF;have aG:=aI;have aX:=aZ;have aa:=ax;have ag:=aH;have HB:=aW;have HT:=aT;clear aW aT aA ah ak al ao aq av aw aF aI aZ ax aH;have dT:=zA.mk bu.1;clear HT;have HT:=zA.mk bu.2.1;have aY:=zA.mk bu.2.2;clear bu a_;obtain⟨c4,c5,cH⟩:=aY.out.slice;subst cH;(try clear hb);(try clear a7);have ar:dQ.cell? ⟨g2,0,none⟩=some (.slice A0 l0.length c0):=(zK aa.out 0).trans rfl;have au:=zL aa.out 0;have aJ:dQ.cell? ⟨g9,0,none⟩=some (.slice aU t18.length aV):=(zK ag.out 0).trans rfl;have aK:=zL ag.out 0)|((with_reducible refine zU (f:=8) rfl ?_);refine qD (some 122) rfl rfl Try.func8 (by kernel_rfl) rfl #[.agg #[.slice c2 t70.length c3],.slice c4 t73.length c5] rfl (by(try simp only [yiy,yjy,yky]);first|done|rfl|(simp only [yly,ymy];rfl)) ?_;(with_reducible refine(zb.calls k _ _ t70 _ _ t73 t76 t78 t80 _ ?side1 ?side2 ?side3 ?side4 eP.out).mono ?_);(case side1=>exact(ObS.reads aX.out).2.2);(case side2=>exact ObS.room aX.out);(case side3=>exact(ObR.reads aY.out).2.2);(case side4=>exact ObR.room aY.out);rintro e dU ⟨fg,fh,rfl,a_,bk,hb⟩;refine⟨_,rfl,?_⟩;(try clear ar au aJ aK);obtain⟨dV,dW,dX,dY,dZ,bw,bx⟩:=ObR.zIF rfl rfl a_ bk (by first|(intro k_ bd bf;exact a_.1 k_ bd bf.symm)|(intro k_ bd bf;exact(bk.1 k_ bf) bd.symm)|(intro k_ bd bf;have q_:=a_.1 k_ bd;simp_all)|(intro k_ bd bf;have q_:=bk.1 k_ bf;simp_all)) hb HT.out (zP HB.out);have aA:=zA.mk (ObS.below ay.out hb);have ah:=zA.mk (ObR.below ae.out hb);have ak:=zA.mk (ObR.below ab.out hb);have al:=zA.mk (ObR.below ad.out hb);have ao:=zA.mk (ObS.below af.out hb);have aq:=zA.mk (ObR.below an.out hb);have av:=zA.mk (ObR.below ai.out hb);have aw:=zA.mk (ObR.below aj.out hb);have aF:=zA.mk (ObS.below az.out hb);have aI:=zA.mk (ObR.below aG.out hb);have aZ:=zA.mk (ObS.below aX.out hb);have a8:=zA.mk (ObR.below aY.out hb);have ax:=zA.mk (zN (g:=g2) (o := .cells #[.slice A0 l0.length c0] 24 (0,0)) aa.out hb);have aH:=zA.mk (zN (g:=g9) (o := .cells #[.slice aU t18.length aV] 31 (0,0)) ag.out hb);have aW:=zA.mk (zM HB.out hb);have aT:=zA.mk (ZI HT.out hb);clear HB HT ay ae ab ad af an ai aj az aG aX aY aa ag;have ay:=aA;have ae:=ah;have ab:=ak;have ad:=al;have af:=ao;have an:=aq;have ai:=av;have aj:=aw;have az:=aF;have aG:=aI;have aX:=aZ;have aY:=a8;have aa:=ax;have ag:=aH;have HB:=aW;have HT:=aT;clear aW aT aA ah ak al ao aq av aw aF aI aZ a8 ax aH;have d_:=zA.mk bw.1;clear HT;have HT:=zA.mk bw.2.1;have a1:=zA.mk bw.2.2;clear bw;obtain⟨c6,c7,cI⟩:=a1.out.slice;subst cI;have ea:=zA.mk bx.1;clear HT;have HT:=zA.mk bx.2.1;have a6:=zA.mk bx.2.2;clear bx;obtain⟨fi,fj,cJ⟩:=a6.out.slice;subst cJ;clear a_ bk;(try clear hb);(try clear a7);have ar:dU.cell? ⟨g2,0,none⟩=some (.slice A0 l0.length c0):=(zK aa.out 0).trans rfl;have au:=zL aa.out 0;have aJ:dU.cell? ⟨g9,0,none⟩=some (.slice aU t18.length aV):=(zK ag.out 0).trans rfl;have aK:=zL ag.out 0)|((with_reducible refine zU (f:=9) rfl ?_);refine qD (some 128) rfl rfl Try.func9 (by kernel_rfl) rfl #[.slice c6 t76.length c7,.slice cr t12.length ct] rfl (by(try simp only [yiy,yjy,yky]);first|done|rfl|(simp only [yly,ymy];rfl)) ?_;(with_reducible refine(qR.calls k _ _ t76 _ _ t12 true _ ?side1 ?side2 ?side3 ?side4 eQ.out).mono ?_);(case side1=>exact(ObR.reads a1.out).2.2);(case side2=>exact ObR.room a1.out);(case side3=>exact(ObR.reads ab.out).2.2);(case side4=>exact ObR.room ab.out);rintro e eb ⟨rfl,⟨nd,a7⟩⟩;refine⟨_,rfl,?_⟩;have hb:=Zc a7;(try clear ar au aJ aK);have aA:=zA.mk (ObS.below ay.out hb);have ah:=zA.mk (ObR.below ae.out hb);have ak:=zA.mk (ObR.below ab.out hb);have al:=zA.mk (ObR.below ad.out hb);have ao:=zA.mk (ObS.below af.out hb);have aq:=zA.mk (ObR.below an.out hb);have av:=zA.mk (ObR.below ai.out hb);have aw:=zA.mk (ObR.below aj.out hb);have aF:=zA.mk (ObS.below az.out hb);have aI:=zA.mk (ObR.below aG.out hb);have aZ:=zA.mk (ObS.below aX.out hb);have a8:=zA.mk (ObR.below aY.out hb);have ba:=zA.mk (ObR.below a1.out hb);have bb:=zA.mk (ObR.below a6.out hb);have ax:=zA.mk (zN (g:=g2) (o := .cells #[.slice A0 l0.length c0] 24 (0,0)) aa.out hb);have aH:=zA.mk (zN (g:=g9) (o := .cells #[.slice aU t18.length aV] 31 (0,0)) ag.out hb);have aW:=zA.mk (zM HB.out hb);have aT:=zA.mk (ZI HT.out hb);clear HB HT ay ae ab ad af an ai aj az aG aX aY a1 a6 aa ag;have ay:=aA;have ae:=ah;have ab:=ak;have ad:=al;have af:=ao;have an:=aq;have ai:=av;have aj:=aw;have az:=aF;have aG:=aI;have aX:=aZ;have aY:=a8;have a1:=ba;have a6:=bb;have aa:=ax;have ag:=aH;have HB:=aW;have HT:=aT;clear aW aT aA ah ak al ao aq av aw aF aI aZ a8 ba bb ax aH;(try clear hb);(try clear a7);have ar:eb.cell? ⟨g2,0,none⟩=some (.slice A0 l0.length c0):=(zK aa.out 0).trans rfl;have au:=zL aa.out 0;have aJ:eb.cell? ⟨g9,0,none⟩=some (.slice aU t18.length aV):=(zK ag.out 0).trans rfl;have aK:=zL ag.out 0))
 try go_wp2_with (first|(go_at_call 9;(with_reducible refine(qR.calls k _ _ t78 _ _ t14 true _ ?side1 ?side2 ?side3 ?side4 eR.out).mono ?_);(case side1=>exact(ObR.reads a6.out).2.2);(case side2=>exact ObR.room a6.out);(case side3=>exact(ObR.reads ad.out).2.2);(case side4=>exact ObR.room ad.out);rintro e ec ⟨rfl,⟨nd,a7⟩⟩;have hb:=Zc a7;(try clear ar au aJ aK);have aA:=zA.mk (ObS.below ay.out hb);have ah:=zA.mk (ObR.below ae.out hb);have ak:=zA.mk (ObR.below ab.out hb);have al:=zA.mk (ObR.below ad.out hb);have ao:=zA.mk (ObS.below af.out hb);have aq:=zA.mk (ObR.below an.out hb);have av:=zA.mk (ObR.below ai.out hb);have aw:=zA.mk (ObR.below aj.out hb);have aF:=zA.mk (ObS.below az.out hb);have aI:=zA.mk (ObR.below aG.out hb);have aZ:=zA.mk (ObS.below aX.out hb);have a8:=zA.mk (ObR.below aY.out hb);have ba:=zA.mk (ObR.below a1.out hb);have bb:=zA.mk (ObR.below a6.out hb);have ax:=zA.mk (zN (g:=g2) (o := .cells #[.slice A0 l0.length c0] 24 (0,0)) aa.out hb);have aH:=zA.mk (zN (g:=g9) (o := .cells #[.slice aU t18.length aV] 31 (0,0)) ag.out hb);have aW:=zA.mk (zM HB.out hb);have aT:=zA.mk (ZI HT.out hb);clear HB HT ay ae ab ad af an ai aj az aG aX aY a1 a6 aa ag;have ay:=aA;have ae:=ah;have ab:=ak;have ad:=al;have af:=ao;have an:=aq;have ai:=av;have aj:=aw;have az:=aF;have aG:=aI;have aX:=aZ;have aY:=a8;have a1:=ba;have a6:=bb;have aa:=ax;have ag:=aH;have HB:=aW;have HT:=aT;clear aW aT aA ah ak al ao aq av aw aF aI aZ a8 ba bb ax aH;(try clear hb);(try clear a7);have ar:ec.cell? ⟨g2,0,none⟩=some (.slice A0 l0.length c0):=(zK aa.out 0).trans rfl;have au:=zL aa.out 0;have aJ:ec.cell? ⟨g9,0,none⟩=some (.slice aU t18.length aV):=(zK ag.out 0).trans rfl;have aK:=zL ag.out 0)|((with_reducible refine zU (f:=13) rfl ?_);refine qD (some 143) rfl rfl Try.func13 (by kernel_rfl) rfl #[.slice bz bL.length bA,.int .i64 1] rfl (by(try simp only [yiy,yjy,yky]);first|done|(rw[show bL.length=t24.length from(ObR.reads ai.out).1.symm] <;> rfl)|rfl|(simp only [yly,ymy];rfl)) ?_;(with_reducible refine(qX.calls k _ _ bL 1 t87 _ ?side1 ?side2 eT.out).mono ?_);(case side1=>exact(ObR.reads ai.out).2.2);(case side2=>exact ObR.room ai.out);rintro e ed ⟨rfl,⟨nd,a7⟩⟩;refine⟨_,rfl,?_⟩;have hb:=Zc a7;(try clear ar au aJ aK);have aA:=zA.mk (ObS.below ay.out hb);have ah:=zA.mk (ObR.below ae.out hb);have ak:=zA.mk (ObR.below ab.out hb);have al:=zA.mk (ObR.below ad.out hb);have ao:=zA.mk (ObS.below af.out hb);have aq:=zA.mk (ObR.below an.out hb);have av:=zA.mk (ObR.below ai.out hb);have aw:=zA.mk (ObR.below aj.out hb);have aF:=zA.mk (ObS.below az.out hb);have aI:=zA.mk (ObR.below aG.out hb);have aZ:=zA.mk (ObS.below aX.out hb);have a8:=zA.mk (ObR.below aY.out hb);have ba:=zA.mk (ObR.below a1.out hb);have bb:=zA.mk (ObR.below a6.out hb);have ax:=zA.mk (zN (g:=g2) (o := .cells #[.slice A0 l0.length c0] 24 (0,0)) aa.out hb);have aH:=zA.mk (zN (g:=g9) (o := .cells #[.slice aU t18.length aV] 31 (0,0)) ag.out hb);have aW:=zA.mk (zM HB.out hb);have aT:=zA.mk (ZI HT.out hb);clear HB HT ay ae ab ad af an ai aj az aG aX aY a1 a6 aa ag;have ay:=aA;have ae:=ah;have ab:=ak;have ad:=al;have af:=ao;have an:=aq;have ai:=av;have aj:=aw;have az:=aF;have aG:=aI;have aX:=aZ;have aY:=a8;have a1:=ba;have a6:=bb;have aa:=ax;have ag:=aH;have HB:=aW;have HT:=aT;clear aW aT aA ah ak al ao aq av aw aF aI aZ a8 ba bb ax aH;(try clear hb);(try clear a7);have ar:ed.cell? ⟨g2,0,none⟩=some (.slice A0 l0.length c0):=(zK aa.out 0).trans rfl;have au:=zL aa.out 0;have aJ:ed.cell? ⟨g9,0,none⟩=some (.slice aU t18.length aV):=(zK ag.out 0).trans rfl;have aK:=zL ag.out 0)|((with_reducible refine zU (f:=13) rfl ?_);refine qD (some 148) rfl rfl Try.func13 (by kernel_rfl) rfl #[.slice bD bN.length bE,.int .i64 t87] rfl (by(try simp only [yiy,yjy,yky]);first|done|(rw[show bN.length=t26.length from(ObR.reads aj.out).1.symm] <;> rfl)|rfl|(simp only [yly,ymy];rfl)) ?_;(with_reducible refine(qX.calls k _ _ bN t87 t90 _ ?side1 ?side2 eV.out).mono ?_);(case side1=>exact(ObR.reads aj.out).2.2);(case side2=>exact ObR.room aj.out);rintro e ee ⟨rfl,⟨nd,a7⟩⟩;refine⟨_,rfl,?_⟩;have hb:=Zc a7;(try clear ar au aJ aK);have aA:=zA.mk (ObS.below ay.out hb);have ah:=zA.mk (ObR.below ae.out hb);have ak:=zA.mk (ObR.below ab.out hb);have al:=zA.mk (ObR.below ad.out hb);have ao:=zA.mk (ObS.below af.out hb);have aq:=zA.mk (ObR.below an.out hb);have av:=zA.mk (ObR.below ai.out hb);have aw:=zA.mk (ObR.below aj.out hb);have aF:=zA.mk (ObS.below az.out hb);have aI:=zA.mk (ObR.below aG.out hb);have aZ:=zA.mk (ObS.below aX.out hb);have a8:=zA.mk (ObR.below aY.out hb);have ba:=zA.mk (ObR.below a1.out hb);have bb:=zA.mk (ObR.below a6.out hb);have ax:=zA.mk (zN (g:=g2) (o := .cells #[.slice A0 l0.length c0] 24 (0,0)) aa.out hb);have aH:=zA.mk (zN (g:=g9) (o := .cells #[.slice aU t18.length aV] 31 (0,0)) ag.out hb);have aW:=zA.mk (zM HB.out hb);have aT:=zA.mk (ZI HT.out hb);clear HB HT ay ae ab ad af an ai aj az aG aX aY a1 a6 aa ag;have ay:=aA;have ae:=ah;have ab:=ak;have ad:=al;have af:=ao;have an:=aq;have ai:=av;have aj:=aw;have az:=aF;have aG:=aI;have aX:=aZ;have aY:=a8;have a1:=ba;have a6:=bb;have aa:=ax;have ag:=aH;have HB:=aW;have HT:=aT;clear aW aT aA ah ak al ao aq av aw aF aI aZ a8 ba bb ax aH;(try clear hb);(try clear a7);have ar:ee.cell? ⟨g2,0,none⟩=some (.slice A0 l0.length c0):=(zK aa.out 0).trans rfl;have au:=zL aa.out 0;have aJ:ee.cell? ⟨g9,0,none⟩=some (.slice aU t18.length aV):=(zK ag.out 0).trans rfl;have aK:=zL ag.out 0))
 go_ret;exact⟨by first|rfl|(simp <;> rfl),HB.out⟩
end Go.Proofs.Ytbahbnhfhddlbaa.P
namespace Go.Proofs.Ytbahbnhfhddlbaa.P
open Go.RowKit Go.Proofs.YtbahbnhfhddlbaaW.PrintWords Go.Proofs.Ytbahbnhfhddlbaa.Lib
set_option linter.unusedVariables false
theorem zBU (a b c:Int):Zb.f a b c=some (decide (b≤a)&&decide (a≤c)):=by
  unfold Zb.f;by_cases h:b≤a <;> simp [h]
theorem zHW (a b c:Int):Qr.f a b c=some (decide (b≤a)&&decide (a≤c)):=by
  unfold Qr.f;by_cases h:b≤a <;> simp [h]
theorem zEr (a:Int):Zv.f a=some (decide (0≤a)&&decide (a≤23)):=by
  unfold Zv.f;by_cases h:0≤a
  · rw[if_pos h];simp [h];omega
  · rw[if_neg h];simp [h]
theorem zGe (a:Int):QS.f a=some (decide (0≤a)&&decide (a≤23)):=by
  unfold QS.f;rw[zBU];rfl
theorem zHu {p:Int} (h0:0≤p) (h1:p≤23) : ∃ m:Fin 24,p=(m.val:Int):=⟨⟨p.toNat,by omega⟩,by simp;omega⟩
theorem zEF {p:Int} (h0:0≤p) (h1:p≤23):Ev (fun k=>zc.f k p) (ZN p):=by
  obtain⟨m,rfl⟩:=zHu h0 h1;have key : ∀ m:Fin 24,zc.f 5 (m.val:Int)=some (ZN (m.val:Int)):=by decide +kernel
  exact Ev.of (fun k=>zc.mono _ k) (key m)
theorem zGf (p:Int):(ZN p).length=4:=rfl
theorem Qa {p f:Int} (h0:0≤p) (h1:p≤23) (aa:0≤f) (ab:f≤3):0≤rd (ZN p) f∧rd (ZN p) f≤3:=by
  obtain⟨a,b,c,d⟩:=zB9 p h0 h1;exact zBT a b c d f aa ab
theorem Jp {p f:Int} (h0:0≤p) (h1:p≤23) (aa:0≤f) (ab:f≤3):Ev (fun k=>qm.f k p f) (rd (ZN p) f):=by
  refine Ev.bind (zEF h0 h1) ?_;exact qu aa (qu (by rw[zGf];omega) (Ev.now _))
theorem zFn {p:Int} (h0:0≤p) (h1:p≤23):Ev (fun k=>qQ.f k p) (zFh p):=by
  obtain⟨m,rfl⟩:=zHu h0 h1;have key : ∀ m:Fin 24,qQ.f 40 (m.val:Int)=some (zFh (m.val:Int)):=by decide +kernel
  exact Ev.of (fun k=>qQ.mono _ k) (key m)
theorem zGg {q p f:Int} (h0:0≤p) (h1:p≤23) (aa:0≤f) (ab:f≤3):Ze.f q p f=some (rd (ZN p) f):=if_pos ⟨h0,h1,aa,ab⟩
theorem zFo {q p a:Int} (h0:0≤p) (h1:p≤23):ZU.f q p a=some (a,zFh p):=by
  unfold ZU.f Qx.f;rw[if_pos ⟨h0,h1⟩];rfl
abbrev Tri:=List (List zz)
def Small (t:Tri):Prop:=t.length≤1048576 ∧ ∀ r∈t,r.length≤1048576
def zFM (t:List (List qk)):Prop:=t.length≤1048576 ∧ ∀ r∈t,r.length≤1048576
def Fits (t:List (List qk)):Prop:=t.length≤9223372036854775807 ∧ ∀ r∈t,r.length≤9223372036854775807
theorem Jt (t:List (List qk)) (n:Nat) (h:n<t.length):Zk t (n:Int)=t[n]:=by simp [Zk,h]
theorem JQ (t:Tri) (n:Nat) (h:n<t.length):zF t (n:Int)=t[n]:=by simp [zF,h]
theorem zDW (t:List qk) (n:Nat) (h:n<t.length):QU t (n:Int)=t[n]:=by simp [QU,h]
theorem zAX (t:List zz) (n:Nat) (h:n<t.length):zJ t (n:Int)=t[n]:=by simp [zJ,h]
theorem zCo (r:List qk) (a:Int) (h0:0≤a) (h1:a≤1048576) (h:r.length≤9223372036854775807):Qg.f r a=some (if a-r.length<0 then -1 else a-r.length):=by
  unfold Qg.f;rw[qZ (by omega) (by omega)];split <;> rfl
theorem zEs (t:List (List qk)) (h:Fits t) (hl:t.length≤1048576) : ∃ r,Ev (fun k=>ql.l0 k t (1048576-t.length) 0) r∧(0≤r → ∀ x∈t,x.length≤1048576):=by
  have key : ∀ d n:Nat,∀ a:Int,n+d=t.length→0≤a→a≤1048576 → ∃ r,Ev (fun k=>ql.l0 k t a (n:Int)) r∧(0≤r → ∀ x∈t.drop n,x.length≤1048576):=by
    intro d;induction d with
    | zero=>
      intro n a hn h0 h1;refine⟨a,qU (f:=fun _=>some a) (fun k=>?_) (Ev.now a),fun _ x hx=>?_⟩
      · simp only [ql.l0];rw[if_neg (by omega)]
      · rw[List.drop_eq_nil_of_le (by omega)]at hx;cases hx
    | succ d ih=>
      intro n a hn h0 h1;have aa:n<t.length:=by omega
      have hf:=h.2 t[n] (yoy aa);by_cases hc:a-t[n].length<0
      (refine⟨-1,qU (f:=fun _=>some (-1)) (fun k=>?_) (Ev.now (-1)),fun h=>by omega⟩;simp only [ql.l0];rw[if_pos (by omega),if_pos (by omega),Jt t n aa,zCo _ a h0 h1 hf,yfy,if_pos hc];rfl)
      · obtain⟨r,hr,ab⟩:=ih (n+1) (a-t[n].length) (by omega) (by omega) (by omega)
        refine⟨r,qU (fun k=>?_) hr,fun h x hx=>?_⟩;(simp only [ql.l0];rw[if_pos (by omega),if_pos (by omega),Jt t n aa,zCo _ a h0 h1 hf,yfy,if_neg hc,if_neg (by omega),ZK (by omega)])
        · rw[ypy aa]at hx
          rcases List.mem_cons.1 hx with rfl|hx
          (omega);(exact ab h x hx)
  obtain⟨r,hr,ab⟩:=key t.length 0 (1048576-t.length) (by omega) (by omega) (by omega);exact⟨r,hr,fun h=>by have:=ab h;rwa [List.drop_zero]at this⟩
theorem zBB (t:List (List qk)) (h:Fits t) : ∃ r,Ev (fun k=>Zo.f k t 1048576) r∧(¬ r<0→zFM t):=by
  by_cases hl:(1048576-(t.length:Int))<0
  (refine⟨-1,?_,fun h=>by omega⟩;refine Ev.bind (a := -1) (zEC (fun k=>?_)) (qu (by omega) (Ev.now _));unfold ql.f;have:=h.1;rw[qZ (by omega) (by omega),if_pos hl])
  · obtain⟨r,hr,aa⟩:=zEs t h (by omega)
    have h2:Ev (fun k=>ql.f k t 1048576) r:=by
      refine Ev.congr (fun k=>?_) hr;unfold ql.f;rw[qZ (by omega) (by omega),if_neg hl]
    by_cases hn:r<0
    (exact⟨-1,Ev.bind h2 (qu hn (Ev.now _)),fun h=>by omega⟩);(exact⟨r,Ev.bind h2 (Zp hn (Ev.now _)),fun _=>⟨by omega,aa (by omega)⟩⟩)
def cvF (x:qk):zz:=⟨x.f0,x.f1⟩
def cvR (r:List qk):List zz:=r.map cvF
def cvT (t:List (List qk)):Tri:=t.map cvR
theorem zGh {t:List (List qk)} (h:zFM t):Small (cvT t):=by
  refine⟨by simp [cvT];exact h.1,fun r hr=>?_⟩;obtain⟨s,hs,rfl⟩:=List.mem_map.1 hr;simp [cvR];exact h.2 s hs
theorem zBi {α β:Type} (f : α → β) (l:List α) (z : β) (n:Nat) (h:n<l.length) :
    ((l.take n).map f++List.replicate (l.length-n) z).set n (f l[n])=(l.take (n+1)).map f++List.replicate (l.length-(n+1)) z:=by
  have e:l.length-n=(l.length-(n+1))+1:=by omega
  rw[e,List.replicate_succ,List.set_append_right _ _ (by simp;omega)];have:n-((l.take n).map f).length=0:=by simp;omega
  rw[this,yby,List.take_succ_eq_append_getElem h,List.map_append,List.append_assoc];rfl
theorem zFp (l:List qk) (h:l.length≤1048576):Ev (fun k=>qz.f k l) (cvR l):=by
  have hl:Ev (fun k=>qz.l0 k l (List.replicate l.length zAF) 0) (cvR l):=by
    refine zA7 (fun k (s:List zz × Int)=>qz.l0 k l s.1 s.2) (fun s => ∃ n:Nat,n≤l.length∧s.2=n∧s.1=(l.take n).map cvF++List.replicate (l.length-n) zAF) (fun s=>l.length-s.2.toNat) (fun _=>cvR l) ?_ (List.replicate l.length zAF,0) ⟨0,by omega,rfl,by simp⟩;rintro⟨a,i⟩ ⟨n,hn,rfl,rfl⟩;dsimp only;by_cases aa:n<l.length
    (refine .inr ⟨((l.take (n+1)).map cvF++List.replicate (l.length-(n+1)) zAF,((n+1:Nat):Int)),⟨n+1,by omega,rfl,rfl⟩,by simp;omega,rfl,fun k=>?_⟩;simp only [qz.l0,Jl.f,yfy];rw[if_pos (by omega),if_pos (by omega),if_pos (by simp;omega),ZK (by omega),yny,zDW l n aa];have:=zBi cvF l zAF n aa;rw[← this];rfl)
    · obtain rfl:n=l.length:=by omega
      refine .inl fun k=>?_
      simp only [qz.l0];rw[if_neg (by omega)];simp [cvR]
  refine Ev.congr (fun k=>?_) hl;unfold qz.f;rw[if_pos (by omega),if_pos (by simp;omega),yny]
theorem zEt (l:List (List qk)) (h:zFM l):Ev (fun k=>qo.f k l) (cvT l):=by
  have hl:Ev (fun k=>qo.l0 k l (List.replicate l.length []) 0) (cvT l):=by
    refine zEk (fun k (s:Tri × Int)=>qo.l0 k l s.1 s.2) (fun s => ∃ n:Nat,n≤l.length∧s.2=n∧s.1=(l.take n).map cvR++List.replicate (l.length-n) []) (fun s=>l.length-s.2.toNat) (fun _=>cvT l) ?_ (List.replicate l.length [],0) ⟨0,by omega,rfl,by simp⟩;rintro⟨a,i⟩ ⟨n,hn,rfl,rfl⟩;dsimp only;by_cases aa:n<l.length
    · obtain⟨K,hK⟩:=zFp l[n] (h.2 _ (yoy aa))
      refine .inr ⟨((l.take (n+1)).map cvR++List.replicate (l.length-(n+1)) [],((n+1:Nat):Int)),K,⟨n+1,by omega,rfl,rfl⟩,by simp;omega,rfl,fun k hk=>?_⟩;have e:qz.f k l[n]=some _:=hK k hk;have h1:=h.1;simp only [qo.l0];rw[if_pos (by omega),if_pos (by omega),Jt l n aa,e,yfy,if_pos (by simp;omega),ZK (by omega),yny,zBi cvR l [] n aa]
    · obtain rfl:n=l.length:=by omega
      refine .inl ⟨0,fun k _=>?_⟩;simp only [qo.l0];rw[if_neg (by omega)];simp [cvT]
  have h1:=h.1;refine Ev.congr (fun k=>?_) hl;unfold qo.f;rw[if_pos (by omega),if_pos (by simp;omega),yny]
theorem zBC (l:List (List qk)) (h:zFM l):Ev (fun k=>qx.f k l) (cvT l):=Ev.bind (zEt l h) (Ev.now _)
theorem zFq (l:List zz) (h:l.length≤1048576):Ev (fun k=>qT.f k l l) true:=by
  have hl:Ev (fun k=>qT.l0 k l l 0) true:=by
    refine zA7 (fun k (s:Int)=>qT.l0 k l l s) (fun s => ∃ n:Nat,n≤l.length∧s=n) (fun s=>l.length-s.toNat) (fun _=>true) ?_ 0 ⟨0,by omega,rfl⟩;rintro i ⟨n,hn,rfl⟩;by_cases aa:n<l.length
    (refine .inr ⟨((n+1:Nat):Int),⟨n+1,by omega,rfl⟩,by simp;omega,rfl,fun k=>?_⟩;simp only [qT.l0,JO.f];rw[if_pos (by omega),if_pos (by omega),if_pos (by omega),if_pos trivial,if_pos trivial,yfy,if_pos rfl,ZK (by omega)])
    · refine .inl fun k=>?_
      simp only [qT.l0];rw[if_neg (by omega)]
  refine Ev.congr (fun k=>?_) hl;unfold qT.f;rw[if_pos rfl]
theorem zBD (l:Tri) (h:Small l):Ev (fun k=>Zz.f k l l) true:=by
  have hl:Ev (fun k=>qI.l0 k l l 0) true:=by
    refine zEk (fun k (s:Int)=>qI.l0 k l l s) (fun s => ∃ n:Nat,n≤l.length∧s=n) (fun s=>l.length-s.toNat) (fun _=>true) ?_ 0 ⟨0,by omega,rfl⟩;rintro i ⟨n,hn,rfl⟩;by_cases aa:n<l.length
    (obtain⟨K,hK⟩:=zFq l[n] (h.2 _ (yoy aa));refine .inr ⟨((n+1:Nat):Int),K,⟨n+1,by omega,rfl⟩,by simp;omega,rfl,fun k hk=>?_⟩;have e:qT.f k l[n] l[n]=some _:=hK k hk;have h1:=h.1;simp only [qI.l0];rw[if_pos (by omega),if_pos (by omega),if_pos (by omega),JQ l n aa,e,yfy,if_pos rfl,ZK (by omega)])
    (refine .inl ⟨0,fun k _=>?_⟩;simp only [qI.l0];rw[if_neg (by omega)])
  have h2:Ev (fun k=>qI.f k l l) true:=by
    refine Ev.congr (fun k=>?_) hl;unfold qI.f;rw[if_pos rfl]
  exact Ev.bind h2 (qu rfl (Ev.now _))
abbrev fc (t:Tri) (a f:Int):zz:=zJ (zF t a) f
def zBn (t:Tri) (a f:Int):Bool:=
  if(fc t a f).f0 = -1 then(fc t a f).f1==0
  else if 0≤(fc t a f).f0∧(fc t a f).f0<(t.length:Int)∧0≤(fc t a f).f1∧(fc t a f).f1≤23 then
    ((fc t (fc t a f).f0 (rd (ZN (fc t a f).f1) f)).f0==a&&(fc t (fc t a f).f0 (rd (ZN (fc t a f).f1) f)).f1==zFh (fc t a f).f1) && !((fc t a f).f0==a&&rd (ZN (fc t a f).f1) f==f)
  else false
def zA3 (t:Tri) (a:Int):Int→Nat→Bool
  | _,0=>true
  | f,d+1=>zBn t a f&&zA3 t a (f+1) d
def zAf (t:Tri):Int→Nat→Bool
  | _,0=>true
  | a,d+1=>zA3 t a 0 4&&zAf t (a+1) d
def Zx (t:Tri):Bool:=decide (t.length≤8)&&(t.all (fun r=>decide (r.length=4))&&zAf t 0 t.length)
section
variable {t : Tri}
theorem zIG (h4 : ∀ r∈t,r.length=4) {a:Int} (h0:0≤a) (h1:a<t.length):(zF t a).length=4:=by
  obtain⟨n,rfl⟩:=Int.eq_ofNat_of_zero_le h0;rw[JQ t n (by omega)];exact h4 _ (yoy _)
theorem zCY (h4 : ∀ r∈t,r.length=4) (hn:t.length≤8) {a f:Int} (h0:0≤a) (h1:a<t.length) (ab:0≤f) (ad:f≤3):Ev (fun k=>zX.f k t a f) (zBn t a f):=by
  have hr:=zIG h4 h0 h1;refine Ev.congr (fun k=>by unfold zX.f;rw[if_pos h0,if_pos h1,if_pos ab,if_pos (by omega)]) ?_;change Ev (fun k=>if(fc t a f).f0 = -1 then some ((fc t a f).f1==0)else _) (zBn t a f);unfold zBn;by_cases hb:(fc t a f).f0 = -1
  · rw[if_pos hb];exact qu hb (Ev.now _)
  · refine Zp hb ?_
    rw[if_neg hb];have ae:ZE.f t (fc t a f).f0=some (decide (0≤(fc t a f).f0)&&decide ((fc t a f).f0≤(t.length:Int)-1)):=by
      unfold ZE.f qw.f;rw[yfy,qZ (by omega) (by omega),zBU];rfl
    have aa:Ev (fun k=>zX.j0 k a f true t (fc t a f).f0 (fc t a f).f1) false:=qU (fun k=>by rw[zX.j0,if_pos rfl]) (Ev.now false);refine Ev.bind (Qp ae) ?_;by_cases hi:0≤(fc t a f).f0∧(fc t a f).f0<(t.length:Int)
    · refine qu (by simp;omega) ?_
      refine Ev.bind (Qp (zGe _)) ?_;by_cases hp:0≤(fc t a f).f1∧(fc t a f).f1≤23
      · rw[if_pos ⟨hi.1,hi.2,hp.1,hp.2⟩]
        have e:(!(decide (0≤(fc t a f).f1)&&decide ((fc t a f).f1≤23)))=false:=by simp [hp]
        rw[e];refine qU (fun k=>by rw[zX.j0,if_neg (by simp),zGg hp.1 hp.2 ab ad,yfy]) ?_;obtain⟨af,ah⟩:=Qa hp.1 hp.2 ab ad;have ag:=zIG h4 hi.1 hi.2;refine qu hi.1 (qu hi.2 (qu af (qu (by rw[ag];omega) ?_)));refine Ev.bind (Qp (zFo hp.1 hp.2)) ?_;change Ev (fun k=>if((fc t (fc t a f).f0 (rd (ZN (fc t a f).f1) f)).f0==a&&(fc t (fc t a f).f0 (rd (ZN (fc t a f).f1) f)).f1==zFh (fc t a f).f1)=true then _ else _) _;generalize ((fc t (fc t a f).f0 (rd (ZN (fc t a f).f1) f)).f0==a&&(fc t (fc t a f).f0 (rd (ZN (fc t a f).f1) f)).f1==zFh (fc t a f).f1)=b
        cases b with
        | false=>refine Zp (by simp) ?_;rw[Bool.false_and];exact Ev.now false
        | true=>
          refine qu rfl ?_;rw[Bool.true_and];by_cases ha:(fc t a f).f0=a
          · refine qu ha (Js ?_)
            rw[ha];simp [bne]
          · refine Zp ha (Js ?_)
            simp [ha]
      · rw[if_neg (by omega)]
        have e:(!(decide (0≤(fc t a f).f1)&&decide ((fc t a f).f1≤23)))=true:=by
          rw[Bool.not_eq_true',Bool.and_eq_false_iff,decide_eq_false_iff_not,decide_eq_false_iff_not];omega
        rw[e];exact aa
    · rw[if_neg (by omega)]
      refine Zp ?_ aa;rw[Bool.and_eq_true,decide_eq_true_eq,decide_eq_true_eq];omega
theorem zCp (h4 : ∀ r∈t,r.length=4) (hn:t.length≤8) {a:Int} (h0:0≤a) (h1:a<t.length) {R:Bool} (hR:Ev (fun k=>zZ.l0 k (t.length:Int) (a+1) t) R) :
    ∀ (d:Nat) (f:Int),0≤f→f+d=4→Ev (fun k=>zZ.l1 k a (t.length:Int) a f t) (zA3 t a f d&&R)
  | 0,f,hf,he=>by
    refine qU (fun k=>by rw[zZ.l1,if_neg (by omega),qZ (by omega) (by omega)]) ?_;rw[zA3,Bool.true_and];exact hR
  | d+1,f,hf,he=>by
    refine qU (fun k=>by rw[zZ.l1,if_pos (by omega)]) ?_;refine Ev.bind (zCY h4 hn h0 h1 hf (by omega)) ?_;rw[zA3]
    cases hg:zBn t a f with
    | false=>exact Zp (by simp) (by rw[Bool.false_and,Bool.false_and];exact Ev.now false)
    | true=>
      refine qu rfl ?_;rw[Bool.true_and];exact Ev.congr (fun k=>by rw[qZ (by omega) (by omega)]) (zCp h4 hn h0 h1 hR d (f+1) (by omega) (by omega))
theorem zCq (h4 : ∀ r∈t,r.length=4) (hn:t.length≤8) : ∀ (d:Nat) (a:Int),0≤a→a+d=t.length→Ev (fun k=>zZ.l0 k (t.length:Int) a t) (zAf t a d)
  | 0,a,ha,he=>by
    refine qU (fun k=>by rw[zZ.l0,if_neg (by omega)]) ?_;exact Ev.now true
  | d+1,a,ha,he=>by
    refine qU (fun k=>by rw[zZ.l0,if_pos (by omega)]) ?_;rw[zAf];exact zCp h4 hn ha (by omega) (zCq h4 hn d (a+1) (by omega) (by omega)) 4 0 (by omega) (by omega)
theorem zDX:t.all (fun r=>decide (r.length=4))=true ↔ ∀ r∈t,r.length=4:=by simp
theorem zGi (h:Small t):zr.f t=some (!(t.all fun r=>decide (r.length=4))):=by
  unfold zr.f qP.f;rw[contO (p:=fun r => !(decide (r.length=4))) t (fun r _=>by
    show ZD.f r=_;unfold ZD.f;congr 1
    by_cases h:r.length=4
    · simp [h]
    · have : ¬ ((r.length:Int)=4):=by omega
      simp [h,this]),List.not_all_eq_any_not]
theorem zDY (h:Small t):Ev (fun k=>zZ.f k t) (Zx t):=by
  have aa:Ev (fun k=>zZ.j0 k true t) false:=qU (fun k=>by rw[zZ.j0,if_pos rfl]) (Ev.now false);unfold Zx;by_cases h8:t.length≤8
  · refine Ev.congr (fun k=>by unfold zZ.f;rw[if_neg (by omega),zGi h,yfy]) ?_
    rw[ygy h8,Bool.true_and]
    cases hall:t.all (fun r=>decide (r.length=4))with
    | false=>rw[Bool.false_and];exact aa
    | true=>
      rw[Bool.true_and];refine qU (fun k=>by rw[zZ.j0,if_neg (by simp)]) ?_;exact zCq (zDX.1 hall) h8 t.length 0 (by omega) (by omega)
  · refine Ev.congr (fun k=>by unfold zZ.f;rw[if_pos (by omega)]) ?_
    rw[yhy h8,Bool.false_and];exact aa
theorem zCr (h4 : ∀ r∈t,r.length=4) (hn:t.length≤8) {a:Int} (h0:0≤a) (h1:a<t.length) {R:Bool} (hR:Ev (fun k=>zO.l1 k (a+1) t) R) :
    ∀ (d:Nat) (f:Int),0≤f→f+d=4→Ev (fun k=>zO.l2 k a f t) (zA3 t a f d&&R)
  | 0,f,hf,he=>by
    refine qU (fun k=>by rw[zO.l2,if_neg (by omega),qZ (by omega) (by omega)]) ?_;rw[zA3,Bool.true_and];exact hR
  | d+1,f,hf,he=>by
    have hr:=zIG h4 h0 h1;have ih:Ev (fun k=>zO.l2 k a (wrap64 (f+1)) t) (zA3 t a (f+1) d&&R):=Ev.congr (fun k=>by rw[qZ (by omega) (by omega)]) (zCr h4 hn h0 h1 hR d (f+1) (by omega) (by omega));refine qU (fun k=>by rw[zO.l2,if_pos (by omega),if_pos h0,if_pos h1,if_pos hf,if_pos (by omega)]) ?_;change Ev (fun k=>if(fc t a f).f0 = -1 then zO.j3 k a f ((fc t a f).f1==0) t (fc t a f).f0 (fc t a f).f1 else zO.j3 k a f false t (fc t a f).f0 (fc t a f).f1) _;rw[zA3];have aa : ∀ b,Ev (fun k=>zO.j4 k a f true t (fc t a f).f0 (fc t a f).f1) (false&&b):=fun b=>by
      rw[Bool.false_and];exact qU (fun k=>by rw[zO.j4,if_pos rfl]) (Ev.now false)
    have ae:Ev (fun k=>zO.j3 k a f true t (fc t a f).f0 (fc t a f).f1) (zA3 t a (f+1) d&&R):=qU (fun k=>by rw[zO.j3,if_pos rfl]) ih;have ab:(¬ ((fc t a f).f0 = -1∧(fc t a f).f1=0))→Ev (fun k=>zO.j3 k a f false t (fc t a f).f0 (fc t a f).f1) (zBn t a f&&zA3 t a (f+1) d&&R):=by
      intro af;refine qU (fun k=>by rw[zO.j3,zo.f,if_neg (by simp),yfy,zHW,yfy,qZ (by omega) (by omega)]) ?_;unfold zBn;by_cases hi:0≤(fc t a f).f0∧(fc t a f).f0<(t.length:Int)
      · refine qu (by simp;omega) ?_
        refine Ev.bind (Qp (zEr _)) ?_;rw[if_neg (by omega)];by_cases hp:0≤(fc t a f).f1∧(fc t a f).f1≤23
        · rw[if_pos ⟨hi.1,hi.2,hp.1,hp.2⟩]
          have e:(!(decide (0≤(fc t a f).f1)&&decide ((fc t a f).f1≤23)))=false:=by simp [hp]
          rw[e];obtain⟨ag,ai⟩:=Qa hp.1 hp.2 hf (by omega);have ah:=zIG h4 hi.1 hi.2;refine qU (fun k=>by rw[zO.j4,if_neg (by simp)]) ?_;refine Ev.bind (Jp hp.1 hp.2 hf (by omega)) ?_;refine Ev.bind (zFn hp.1 hp.2) ?_;refine qu hi.1 (qu hi.2 (qu ag (qu (by rw[ah];omega) ?_)));change Ev (fun k=>if(!((fc t (fc t a f).f0 (rd (ZN (fc t a f).f1) f)).f0==a) || !((fc t (fc t a f).f0 (rd (ZN (fc t a f).f1) f)).f1==zFh (fc t a f).f1))=true then _ else _) _;generalize ((fc t (fc t a f).f0 (rd (ZN (fc t a f).f1) f)).f0==a)=b1;generalize ((fc t (fc t a f).f0 (rd (ZN (fc t a f).f1) f)).f1==zFh (fc t a f).f1)=b2
          cases b1 with
          | false=>exact qu rfl (by rw[Bool.false_and,Bool.false_and,Bool.false_and,Bool.false_and];exact Ev.now false)
          | true=>
            cases b2 with
            | false=>exact qu rfl (by rw[Bool.true_and,Bool.false_and,Bool.false_and,Bool.false_and];exact Ev.now false)
            | true=>
              refine Zp (by simp) ?_;rw[Bool.true_and,Bool.true_and];by_cases ha:(fc t a f).f0=a
              · refine qu ha ?_
                by_cases hg:rd (ZN (fc t a f).f1) f=f
                · refine qu hg ?_
                  rw[ha,hg];simp
                  exact Ev.now false
                · refine Zp hg ?_
                  have:(rd (ZN (fc t a f).f1) f==f)=false:=by simp [hg]
                  rw[this,Bool.and_false,Bool.not_false,Bool.true_and];exact ih
              · refine Zp ha ?_
                have:((fc t a f).f0==a)=false:=by simp [ha]
                rw[this,Bool.false_and,Bool.not_false,Bool.true_and];exact ih
        · rw[if_neg (by omega)]
          have e:(!(decide (0≤(fc t a f).f1)&&decide ((fc t a f).f1≤23)))=true:=by
            rw[Bool.not_eq_true',Bool.and_eq_false_iff,decide_eq_false_iff_not,decide_eq_false_iff_not];omega
          rw[e,Bool.false_and];exact aa R
      · have hg:(if(fc t a f).f0 = -1 then((fc t a f).f1==0)else if 0≤(fc t a f).f0∧(fc t a f).f0<(t.length:Int)∧0≤(fc t a f).f1∧(fc t a f).f1≤23 then
            ((fc t (fc t a f).f0 (rd (ZN (fc t a f).f1) f)).f0==a&&(fc t (fc t a f).f0 (rd (ZN (fc t a f).f1) f)).f1==zFh (fc t a f).f1) && !((fc t a f).f0==a&&rd (ZN (fc t a f).f1) f==f)else false)=false:=by
          by_cases hb:(fc t a f).f0 = -1
          · rw[if_pos hb];simp;intro h;exact af ⟨hb,h⟩
          (rw[if_neg hb,if_neg (by omega)])
        rw[hg,Bool.false_and];refine Zp ?_ (aa R);rw[Bool.and_eq_true,decide_eq_true_eq,decide_eq_true_eq];omega
    by_cases hb:(fc t a f).f0 = -1
    · refine qu hb ?_
      by_cases ad : (fc t a f).f1=0
      · have e:zBn t a f=true:=by unfold zBn;rw[if_pos hb];simp [ad]
        rw[e,Bool.true_and];have e2:((fc t a f).f1==0)=true:=by simp [ad]
        rw[e2];exact ae
      · have e2:((fc t a f).f1==0)=false:=by simp [ad]
        rw[e2];exact ab (fun h=>ad h.2)
    (exact Zp hb (ab (fun h=>hb h.1)))
theorem zCs (h4 : ∀ r∈t,r.length=4) (hn:t.length≤8) : ∀ (d:Nat) (a:Int),0≤a→a+d=t.length→Ev (fun k=>zO.l1 k a t) (zAf t a d)
  | 0,a,ha,he=>by
    refine qU (fun k=>by rw[zO.l1,zo.f,yfy,if_neg (by omega)]) ?_;exact Ev.now true
  | d+1,a,ha,he=>by
    refine qU (fun k=>by rw[zO.l1,zo.f,yfy,if_pos (by omega)]) ?_;rw[zAf];exact zCr h4 hn ha (by omega) (zCs h4 hn d (a+1) (by omega) (by omega)) 4 0 (by omega) (by omega)
theorem zFr (h8:t.length≤8) (d:Nat) : ∀ n:Nat,n+d=t.length→(t.all (fun r=>decide (r.length=4))=(t.drop n).all (fun r=>decide (r.length=4)))→Ev (fun k=>zO.l0 k (n:Int) t) (t.all (fun r=>decide (r.length=4))&&zAf t 0 t.length):=by
  induction d with
  | zero=>
    intro n hn ha;refine qU (fun k=>by rw[zO.l0,if_neg (by omega)]) ?_;have aa:t.all (fun r=>decide (r.length=4))=true:=by rw[ha,List.drop_eq_nil_of_le (by omega)];rfl
    rw[aa,Bool.true_and];exact zCs (zDX.1 aa) h8 t.length 0 (by omega) (by omega)
  | succ d ih=>
    intro n hn ha;have ab:n<t.length:=by omega
    refine qU (fun k=>by rw[zO.l0,if_pos (by omega),if_pos (by omega),JQ t n ab]) ?_;rw[ypy ab,List.all_cons]at ha;by_cases h:t[n].length=4
    (refine qu (by omega) ?_;refine Ev.congr (fun k=>by rw[ZK (by omega)]) (ih (n+1) (by omega) ?_);rw[ha,ygy h,Bool.true_and]);(refine Zp (by omega) ?_;rw[ha,yhy h,Bool.false_and,Bool.false_and];exact Ev.now false)
theorem zDZ (t:Tri):Ev (fun k=>zO.f k t) (Zx t):=by
  refine Ev.congr (fun k=>by unfold zO.f zo.f;rw[yfy]) ?_;unfold Zx;by_cases h8:t.length≤8
  (refine Zp (by omega) ?_;rw[ygy h8,Bool.true_and];exact zFr h8 t.length 0 (by omega) (by rw[List.drop_zero]));(refine qu (by omega) ?_;rw[yhy h8,Bool.false_and];exact Ev.now false)
end
theorem qn {t:Tri} (h:Zx t=true):t.length≤8∧(∀ r∈t,r.length=4)∧zAf t 0 t.length=true:=by
  unfold Zx at h;rw[Bool.and_eq_true,Bool.and_eq_true,decide_eq_true_eq]at h;exact⟨h.1,zDX.1 h.2.1,h.2.2⟩
theorem zGj (t:Tri) (a:Int) (d:Nat) : ∀ f,zA3 t a f d=true → ∀ g,f≤g→g<f+d→zBn t a g=true:=by
  induction d with
  | zero=>intro f _ g h1 h2;omega
  | succ d ih=>
    intro f h g h1 h2;rw[zA3,Bool.and_eq_true]at h;by_cases e:g=f
    · rw[e];exact h.1
    (exact ih (f+1) h.2 g (by omega) (by omega))
theorem zGk (t:Tri) (d:Nat) : ∀ a,zAf t a d=true → ∀ b,a≤b→b<a+d → ∀ g,0≤g→g≤3→zBn t b g=true:=by
  induction d with
  | zero=>intro a _ b h1 h2;omega
  | succ d ih=>
    intro a h b h1 h2 g aa ab;rw[zAf,Bool.and_eq_true]at h;by_cases e:b=a
    · rw[e];exact zGj t a 4 0 h.1 g aa (by omega)
    (exact ih (a+1) h.2 b (by omega) (by omega) g aa ab)
theorem zAQ {t:Tri} (h:Zx t=true) {a f:Int} (h0:0≤a) (h1:a<t.length) (aa:0≤f) (ab:f≤3) :
    ((fc t a f).f0 = -1∧(fc t a f).f1=0) ∨
    ((0≤(fc t a f).f0∧(fc t a f).f0<(t.length:Int)∧0≤(fc t a f).f1∧(fc t a f).f1≤23) ∧
      (fc t (fc t a f).f0 (rd (ZN (fc t a f).f1) f)).f0=a∧(fc t (fc t a f).f0 (rd (ZN (fc t a f).f1) f)).f1=zFh (fc t a f).f1 ∧ ¬ ((fc t a f).f0=a∧rd (ZN (fc t a f).f1) f=f)):=by
  have hg:=zGk t t.length 0 (qn h).2.2 a h0 (by omega) f aa ab;unfold zBn at hg;by_cases hb:(fc t a f).f0 = -1
  (rw[if_pos hb]at hg;exact .inl ⟨hb,by simpa using hg⟩)
  · rw[if_neg hb]at hg
    by_cases hi:0≤(fc t a f).f0∧(fc t a f).f0<(t.length:Int)∧0≤(fc t a f).f1∧(fc t a f).f1≤23
    · rw[if_pos hi,Bool.and_eq_true,Bool.and_eq_true,Bool.not_eq_true']at hg
      refine .inr ⟨hi,eq_of_beq hg.1.1,eq_of_beq hg.1.2,fun hc=>?_⟩;have:=hg.2;rw[Bool.and_eq_false_iff]at this;rcases this with h2|h2
      (exact absurd hc.1 (by simpa using h2));(exact absurd hc.2 (by simpa using h2))
    · rw[if_neg hi]at hg;cases hg
theorem rowlen {t:Tri} (h:Zx t=true) {a:Int} (h0:0≤a) (h1:a<t.length):(zF t a).length=4:=zIG (qn h).2.1 h0 h1
def zGl (cols:Nat) (j f b:Int) (p:List Int):List (List Int):=(zCS [f]).map fun c=>zEY cols j f b p c
theorem zCt (cols:Nat) (j f b:Int) (p:List Int) : ∀ (L:List Int) (A:List (List Int)),JZ cols j f b p L (A.flatten,(A.length:Int))=((A++L.map fun c=>zEY cols j f b p c).flatten,((A++L.map fun c=>zEY cols j f b p c).length:Int))
 | [],A=>by simp [JZ]
 | c :: cs,A=>by
  have h:=zCt cols j f b p cs (A ++ [zEY cols j f b p c]);have e1:(A ++ [zEY cols j f b p c]).flatten=A.flatten++zEY cols j f b p c:=by simp
  have e2:((A ++ [zEY cols j f b p c]).length:Int)=(A.length:Int)+1:=by simp
  rw[e1,e2]at h;rw[JZ,h];simp
def zGm (cols:Nat) (A:List (List Int)) (j f:Nat) (x:zz):List (List Int):=
 if 4*x.f0+rd (ZN x.f1) (f:Int)<4*(j:Int)+(f:Int)then A else A++zGl cols j f x.f0 (ZN x.f1)
theorem zFN {σ τ:Type} {Rel : σ → τ→Prop} {s1 : σ→Nat→Nat→zz → σ} {s2 : τ→Nat→Nat→zz → τ} (h : ∀ a b j f x,Rel a b→Rel (s1 a j f x) (s2 b j f x)) (j:Nat) : ∀ (r:List zz) (f:Nat) (a : σ) (b : τ),Rel a b→Rel (zDS s1 j r f a) (zDS s2 j r f b)
 | [],_,_,_,hr=>hr
 | x :: xs,f,a,b,hr=>by
  rw[zDS,zDS];refine zFN h j xs (f+1) _ _ ?_;split
  (exact hr);exact h _ _ _ _ _ hr
theorem zFO {σ τ:Type} {Rel : σ → τ→Prop} {s1 : σ→Nat→Nat→zz → σ} {s2 : τ→Nat→Nat→zz → τ} (h : ∀ a b j f x,Rel a b→Rel (s1 a j f x) (s2 b j f x)) : ∀ (l:List (List zz)) (j:Nat) (a : σ) (b : τ),Rel a b→Rel (zB5 s1 l j a) (zB5 s2 l j b)
 | [],_,_,_,hr=>hr
 | r :: rs,j,a,b,hr=>by
  rw[zB5,zB5];exact zFO h rs (j+1) _ _ (zFN h j r 0 a b hr)
def zAR (t:Tri):List (List Int):=zB5 (zGm (7*t.length)) t 0 []
theorem zHX (t:Tri):zCX t=((zAR t).flatten,((zAR t).length:Int)):=by
 refine zFO (Rel:=fun(a:List Int × Int) (b:List (List Int))=>a=(b.flatten,(b.length:Int))) (fun a b j f x hr=>?_) t 0 ([],0) [] (by simp);rw[hr];unfold zB8 zGm;split
 (rfl);exact zCt _ _ _ _ _ _ _
def zBo (t:Tri) (a f:Int):Prop:=(fc t a f).f0>a∨((fc t a f).f0=a∧rd (ZN (fc t a f).f1) f>f)
instance (t:Tri) (a f:Int):Decidable (zBo t a f):=by unfold zBo;infer_instance
def Jd (t:Tri) (a:Int):Int→Nat→List (List Int)
 | _,0 => []
 | f,d+1=>(if zBo t a f then[[a,f]]else[])++Jd t a (f+1) d
def JX (t:Tri):Int→Nat→List (List Int)
 | _,0 => []
 | a,d+1=>Jd t a 0 4++JX t (a+1) d
def zDa (t:Tri) (p:List Int):List (List Int):=zGl (7*t.length) (rd p 0) (rd p 1) (fc t (rd p 0) (rd p 1)).f0 (ZN (fc t (rd p 0) (rd p 1)).f1)
theorem zIH {t:Tri} (h:Zx t=true) {a f:Int} (h0:0≤a) (h1:a<t.length) (aa:0≤f) (ab:f≤3) (hb : ¬ (fc t a f).f0<0):zBo t a f ↔ ¬ (4*(fc t a f).f0+rd (ZN (fc t a f).f1) f<4*a+f):=by
 rcases zAQ h h0 h1 aa ab with ⟨e,_⟩|⟨⟨g0,g1,g2,g3⟩,_,_,hn⟩
 (omega);obtain⟨k0,k1⟩:=Qa g2 g3 aa ab;unfold zBo;generalize (fc t a f).f0=b at *;generalize rd (ZN (fc t a f).f1) f=g at *;by_cases e:b=a
 case neg=>
  constructor <;> intro hh <;> omega
 have : ¬ g=f:=fun hc=>hn ⟨e,hc⟩
 constructor <;> intro hh <;> omega
theorem zCu {t:Tri} (h:Zx t=true) (j:Nat) (hj:j<t.length) : ∀ (d f:Nat) (A:List (List Int)),f+d=4→zDS (zGm (7*t.length)) j (t[j].drop f) f A=A++(Jd t j f d).flatMap (zDa t)
 | 0,f,A,hf=>by
  have h4:t[j].length=4:=(qn h).2.1 _ (yoy hj);rw[List.drop_eq_nil_of_le (by omega),zDS,Jd];simp
 | d+1,f,A,hf=>by
  have h4:t[j].length=4:=(qn h).2.1 _ (yoy hj);have ad:f<t[j].length:=by omega
  have ab:fc t (j:Int) (f:Int)=t[j][f]:=by unfold fc;rw[JQ t j hj,zAX _ f ad]
  rw[ypy ad,zDS,zCu h j hj d (f+1) _ (by omega),Jd];have e1:((f:Int)+1)=((f+1:Nat):Int):=by omega
  rw[e1,List.flatMap_append,← List.append_assoc];congr 1
  have ae:=zIH (a:=(j:Int)) (f:=(f:Int)) h (by omega) (by omega) (by omega) (by omega);by_cases hb:t[j][f].f0<0
  next=>
   rw[if_pos hb,if_neg (fun hc=>by unfold zBo at hc;rw[ab]at hc;omega)];simp
  rw[if_neg hb];have aa:=ae (by rw[ab];exact hb);rw[ab]at aa;unfold zGm;by_cases hc:4*t[j][f].f0+rd (ZN t[j][f].f1) (f:Int)<4*(j:Int)+(f:Int)
  next=>
   rw[if_pos hc,if_neg (fun hq=>(aa.1 hq) hc)];simp
  rw[if_neg hc,if_pos (aa.2 hc)];have e2:zDa t [(j:Int),(f:Int)]=zGl (7*t.length) (j:Int) (f:Int) t[j][f].f0 (ZN t[j][f].f1):=by
   show zGl (7*t.length) (j:Int) (f:Int) (fc t (j:Int) (f:Int)).f0 (ZN (fc t (j:Int) (f:Int)).f1)=_;rw[ab]
  simp [e2]
theorem zCv {t:Tri} (h:Zx t=true) : ∀ (d j:Nat) (A:List (List Int)),j+d=t.length→zB5 (zGm (7*t.length)) (t.drop j) j A=A++(JX t j d).flatMap (zDa t)
 | 0,j,A,hj=>by rw[List.drop_eq_nil_of_le (by omega),zB5,JX];simp
 | d+1,j,A,hj=>by
  have aa:j<t.length:=by omega
  have e1:((j:Int)+1)=((j+1:Nat):Int):=by omega
  have h2:=zCu h j aa 4 0 A (by omega);rw[List.drop_zero]at h2;rw[ypy aa,zB5,h2,zCv h d (j+1) _ (by omega),JX,List.flatMap_append,List.append_assoc,e1];rfl
theorem zAo {t:Tri} (h:Zx t=true):zAR t=(JX t 0 t.length).flatMap (zDa t):=by
 have:=zCv h t.length 0 [] (by omega);rw[List.drop_zero,List.nil_append]at this;exact this
theorem zHY {t:Tri} (h:Zx t=true):zIO t:=by
 obtain⟨h8,h4,_⟩:=qn h;refine⟨h8,fun r hr=>by rw[h4 r hr];omega,fun r hr x hx hb=>?_⟩;obtain⟨j,hj,rfl⟩:=List.getElem_of_mem hr;obtain⟨f,hf,rfl⟩:=List.getElem_of_mem hx;have ab:=h4 _ (yoy hj);have aa:fc t (j:Int) (f:Int)=t[j][f]:=by unfold fc;rw[JQ t j hj,zAX _ f hf]
 have:=zAQ (a:=(j:Int)) (f:=(f:Int)) h (by omega) (by omega) (by omega) (by omega);rw[aa]at this;rcases this with ⟨e,_⟩|⟨⟨g0,g1,g2,g3⟩,_⟩
 (omega);exact⟨g1,g2,g3⟩
theorem zFs {t:Tri} (h:Zx t=true):qH.f t=some (((zAR t).length:Int),7*(t.length:Int),(zAR t).flatten):=by
 unfold qH.f;rw[if_pos (zHY h),zHX]
theorem zCI {t:Tri} (h:Zx t=true) : ∀ r∈zAR t,r.length=7*t.length:=by
 intro r hr;rw[zAo h]at hr;obtain⟨p,_,hp⟩:=List.mem_flatMap.1 hr;obtain⟨c,_,rfl⟩:=List.mem_map.1 hp;exact zEj _ _ _ _ _ _
theorem zCw (t:Tri) (a:Int) : ∀ (d:Nat) (f:Int),(Jd t a f d).length≤d
 | 0,_=>by simp [Jd]
 | d+1,f=>by
  have:=zCw t a d (f+1);rw[Jd,List.length_append];split <;> simp <;> omega
theorem zBV (t:Tri) : ∀ (d:Nat) (a:Int),(JX t a d).length≤4*d
 | 0,_=>by simp [JX]
 | d+1,a=>by
  have:=zBV t d (a+1);have:=zCw t a 4 0;rw[JX,List.length_append];omega
def zGn (t:Tri) (p:List Int):Prop := ∃ a f:Int,p = [a,f]∧0≤a∧a<t.length∧0≤f∧f≤3 ∧ ¬ (fc t a f).f0<0
theorem zEG (t:Tri) {a:Int} (h0:0≤a) (h1:a<t.length) : ∀ (d:Nat) (f:Int),0≤f→f+d=4 → ∀ p∈Jd t a f d,zGn t p
 | 0,_,_,_,p,hp=>by simp [Jd]at hp
 | d+1,f,hf,he,p,hp=>by
  rw[Jd,List.mem_append]at hp;rcases hp with hp|hp
  next=>
   by_cases hc:zBo t a f
   case neg=>
    rw[if_neg hc]at hp;simp at hp
   rw[if_pos hc]at hp;have:p = [a,f]:=by simpa using hp
   exact⟨a,f,this,h0,h1,hf,by omega,by unfold zBo at hc;omega⟩
  exact zEG t h0 h1 d (f+1) (by omega) (by omega) p hp
theorem zEH (t:Tri) : ∀ (d:Nat) (a:Int),0≤a→a+d=t.length → ∀ p∈JX t a d,zGn t p
 | 0,_,_,_,p,hp=>by simp [JX]at hp
 | d+1,a,ha,he,p,hp=>by
  rw[JX,List.mem_append]at hp;rcases hp with hp|hp
  (exact zEG t ha (by omega) 4 0 (by omega) (by omega) p hp);exact zEH t d (a+1) (by omega) (by omega) p hp
section
variable {t : Tri}
theorem zAp (h:Zx t=true) {a:Int} (h0:0≤a) (h1:a<t.length) {R:List (List Int)} {D:Nat} (hR : ∀ acc:List (List Int),acc.length+D≤100→Ev (fun k=>zy.l0 k acc (a+1) t) (acc++R)) :
 ∀ (d:Nat) (f:Int) (acc:List (List Int)),0≤f→f+d=4→acc.length+d+D≤100→Ev (fun k=>zy.l1 k acc a f t) (acc++Jd t a f d++R)
 | 0,f,acc,hf,he,hl=>by
  have h8:=(qn h).1;refine qU (fun k=>by rw[zy.l1,if_neg (by omega),qZ (by omega) (by omega)]) ?_;rw[Jd,List.append_nil];exact hR acc (by omega)
 | d+1,f,acc,hf,he,hl=>by
  obtain⟨h8,h4,_⟩:=qn h;have hr:=zIG h4 h0 h1;refine qU (fun k=>by rw[zy.l1,if_pos (by omega),if_pos h0,if_pos h1,if_pos hf,if_pos (by omega)]) ?_;rw[Jd];have aa:zBo t a f→Ev (fun k=>if acc.length<5864062014805 then zy.l1 k (acc ++ [[a,f]]) a (wrap64 (f+1)) t else none) (acc++((if zBo t a f then[[a,f]]else[])++Jd t a (f+1) d)++R):=fun hc=>by
   rw[if_pos hc];refine qu (by omega) (Ev.congr (fun k=>by rw[qZ (by omega) (by omega)]) ?_);have:=zAp h h0 h1 hR d (f+1) (acc ++ [[a,f]]) (by omega) (by omega) (by simp;omega);rwa [List.append_assoc acc]at this
  have ab : ¬ zBo t a f→Ev (fun k=>zy.l1 k acc a (wrap64 (f+1)) t) (acc++((if zBo t a f then[[a,f]]else[])++Jd t a (f+1) d)++R):=fun hc=>by
   rw[if_neg hc,List.nil_append];exact Ev.congr (fun k=>by rw[qZ (by omega) (by omega)]) (zAp h h0 h1 hR d (f+1) acc (by omega) (by omega) (by omega))
  change Ev (fun k=>if(fc t a f).f0>a then _ else if(fc t a f).f0=a then(qm.f k (fc t a f).f1 f).bind _ else _) _;by_cases c1:(fc t a f).f0>a
  (exact qu c1 (aa (.inl c1)));refine Zp c1 ?_;by_cases c2:(fc t a f).f0=a
  case neg=>
   exact Zp c2 (ab (fun hc=>by rcases hc with hc|hc;exact c1 hc;exact c2 hc.1))
  have hp:0≤(fc t a f).f1∧(fc t a f).f1≤23:=by
   rcases zAQ h h0 h1 hf (by omega)with ⟨e,_⟩|⟨⟨_,_,g2,g3⟩,_⟩
   (omega);exact⟨g2,g3⟩
  refine qu c2 (Ev.bind (Jp hp.1 hp.2 hf (by omega)) ?_);by_cases c3:rd (ZN (fc t a f).f1) f>f
  (exact qu c3 (aa (.inr ⟨c2,c3⟩)));exact Zp c3 (ab (fun hc=>by rcases hc with hc|hc;exact c1 hc;exact c3 hc.2))
theorem zCJ (h:Zx t=true) : ∀ (d:Nat) (a:Int) (acc:List (List Int)),0≤a→a+d=t.length→acc.length+4*d≤100→Ev (fun k=>zy.l0 k acc a t) (acc++JX t a d)
 | 0,a,acc,ha,he,hl=>by
  refine qU (fun k=>by rw[zy.l0,zo.f,yfy,if_neg (by omega)]) ?_;rw[JX,List.append_nil];exact Ev.now _
 | d+1,a,acc,ha,he,hl=>by
  refine qU (fun k=>by rw[zy.l0,zo.f,yfy,if_pos (by omega)]) ?_;have:=zAp h ha (by omega) (R:=JX t (a+1) d) (D:=4*d) (fun aa ab=>zCJ h d (a+1) aa (by omega) (by omega) ab) 4 0 acc (by omega) (by omega) (by omega);rwa [List.append_assoc]at this
theorem zDb (h:Zx t=true):Ev (fun k=>zy.f k t) (JX t 0 t.length):=by
 have h8:=(qn h).1;have:=zCJ h t.length 0 [] (by omega) (by omega) (by simp;omega);rwa [List.nil_append]at this
theorem zCx {a b:Int} (ha:sm a) (hb:sm b) (aa:b≠a):qS.f a b=some (qd b a):=by
 obtain⟨ab,ad⟩:=ha;obtain⟨ae,af⟩:=hb;rcases(show a=0∨a=1∨a=2∨a=3 by omega)with rfl|rfl|rfl|rfl <;> rcases(show b=0∨b=1∨b=2∨b=3 by omega)with rfl|rfl|rfl|rfl <;> first|exact absurd rfl aa|decide +kernel
theorem qd_bd {a b:Int} (ha:sm a) (hb:sm b) (aa:a≠b):0≤qd a b∧qd a b≤2:=(zEi ha hb aa).2
theorem zCy (h:Zx t=true) {P:List (List Int)} {i:Int} {a f:Int} (h0:0≤a) (h1:a<t.length) (ad:0≤f) (ae:f≤3) (hb : ¬ (fc t a f).f0<0) {R:List (List Int)} {D:Nat} (hi:0≤i) (hi2:i≤1000)
 (hR : ∀ acc:List (List Int),acc.length+D≤1000→Ev (fun k=>zw.l0 k acc P (i+1) t) (acc++R)) :
 ∀ (d:Nat) (c:Int) (acc:List (List Int)),0≤c→c+d=4→acc.length+d+D≤1000→Ev (fun k=>zw.l1 k acc P i a f c t) (acc++((ZQ c d).filter fun x => ![f].contains x).map (fun x=>zEY (7*t.length) a f (fc t a f).f0 (ZN (fc t a f).f1) x)++R)
 | 0,c,acc,hc,he,hl=>by
  refine qU (fun k=>by rw[zw.l1,if_neg (by omega),qZ (by omega) (by omega)]) ?_;rw[ZQ];simp only [List.filter_nil,yky,List.append_nil];exact hR acc (by omega)
 | d+1,c,acc,hc,he,hl=>by
  obtain⟨h8,h4,_⟩:=qn h;have ih:=fun(af:List (List Int)) (an:af.length+d+D≤1000)=>zCy h h0 h1 ad ae hb hi hi2 hR d (c+1) af (by omega) (by omega) an
  by_cases ab:c=f
  next=>
   refine qU (fun k=>by rw[zw.l1,if_pos (by omega),if_pos ab,qZ (by omega) (by omega)]) ?_;have e1:(![f].contains c)=false:=by simp [ab]
   rw[ZQ,List.filter_cons,e1,if_neg (by simp)];exact ih acc (by omega)
  have e1:(![f].contains c)=true:=by simp [ab]
  have ah:sm c:=⟨hc,by omega⟩;have ai:sm f:=⟨ad,ae⟩;obtain⟨g0,g1,g2,g3⟩:0≤(fc t a f).f0∧(fc t a f).f0<(t.length:Int)∧0≤(fc t a f).f1∧(fc t a f).f1≤23:=by
   rcases zAQ h h0 h1 ad ae with ⟨e,_⟩|⟨e,_⟩
   (omega);exact e
  have hd:=Qa g2 g3 hc (show c≤3 by omega);have hx:=Qa g2 g3 ad ae;have al:=zE9 g2 g3 ah ai ab;obtain⟨q0,q1⟩:=qd_bd ah ai ab;obtain⟨r0,r1⟩:=qd_bd hd hx al;have ao:zEY (7*t.length) a f (fc t a f).f0 (ZN (fc t a f).f1) c=zBS (zBS (zB7 (zB7 (List.replicate (7*t.length) 0) (7*a+c)) (7*a+4+qd c f)) (7*(fc t a f).f0+rd (ZN (fc t a f).f1) c)) (7*(fc t a f).f0+4+qd (rd (ZN (fc t a f).f1) c) (rd (ZN (fc t a f).f1) f)):=rfl;have aa:Ev (fun k=>qq.f k t a f c) ((fc t a f).f0,rd (ZN (fc t a f).f1) f,rd (ZN (fc t a f).f1) c):=by
   have hr:=zIG h4 h0 h1;refine Ev.congr (fun k=>by unfold qq.f;rw[if_pos h0,if_pos h1,if_pos ad,if_pos (by omega)]) ?_;exact Ev.bind (Jp g2 g3 ad ae) (Ev.bind (Jp g2 g3 hc (by omega)) (Ev.now _))
  have aj:=zCx ai ah ab;have ak:=zCx (show sm (rd (ZN (fc t a f).f1) f)from hx) (show sm (rd (ZN (fc t a f).f1) c)from hd) al;have aq:(7*(t.length:Int))=((7*t.length:Nat):Int):=by omega
  rw[ZQ,List.filter_cons,e1,if_pos rfl,yjy,ao];generalize (fc t a f).f0=b at *;generalize rd (ZN (fc t a f).f1) c=dd at *;generalize rd (ZN (fc t a f).f1) f=x at *;generalize qd c f=q at *;generalize qd dd x=q2 at *;obtain⟨d0,d1⟩:=hd;have w1:wrap64 (7*a)=7*a:=qZ (by omega) (by omega);have w2:wrap64 (7*a+c)=7*a+c:=qZ (by omega) (by omega);have w3:wrap64 (7*a+4)=7*a+4:=qZ (by omega) (by omega);have w4:wrap64 (7*a+4+q)=7*a+4+q:=qZ (by omega) (by omega);have w5:wrap64 (7*b)=7*b:=qZ (by omega) (by omega);have w6:wrap64 (7*b+dd)=7*b+dd:=qZ (by omega) (by omega);have w7:wrap64 (7*b+4)=7*b+4:=qZ (by omega) (by omega);have w8:wrap64 (7*b+4+q2)=7*b+4+q2:=qZ (by omega) (by omega);have w9:wrap64 (7*(t.length:Int))=7*(t.length:Int):=qZ (by omega) (by omega);have ar:wrap64 (c+1)=c+1:=qZ (by omega) (by omega);have ag:(List.replicate (7*t.length) (0:Int)).length=7*t.length:=List.length_replicate;refine qU (fun k=>by rw[zw.l1,if_pos (by omega),if_neg ab,zo.f,yfy,w9,if_pos (by omega),if_pos (by omega),yfy,aq,yny]) ?_;refine Ev.bind aa ?_;dsimp only;refine Ev.congr (fun k=>by rw[w1,w2,if_pos (by omega),if_pos (by rw[ag];omega),yfy,aj,yfy,w3,w4,if_pos (by omega),if_pos (by rw[ag];omega),yfy,w5,w6,if_pos (by omega),if_pos (by rw[ag];omega),yfy,ak,yfy,w7,w8,if_pos (by omega),if_pos (by rw[ag];omega),if_pos (by omega),ar]) ?_;have:=ih (acc ++ [zBS (zBS (zB7 (zB7 (List.replicate (7*t.length) 0) (7*a+c)) (7*a+4+q)) (7*b+dd)) (7*b+4+q2)]) (by simp;omega);rw[List.append_assoc acc]at this;exact this
theorem zCz (h:Zx t=true) {P:List (List Int)} (hP : ∀ p∈P,zGn t p) (ad:P.length≤100) : ∀ (d i:Nat) (acc:List (List Int)),i+d=P.length→acc.length+4*d≤1000→Ev (fun k=>zw.l0 k acc P (i:Int) t) (acc++(P.drop i).flatMap (zDa t))
 | 0,i,acc,he,hl=>by
  refine qU (fun k=>by rw[zw.l0,if_neg (by omega)]) ?_;rw[List.drop_eq_nil_of_le (by omega)];simp only [List.flatMap_nil,List.append_nil];exact Ev.now _
 | d+1,i,acc,he,hl=>by
  have aa:i<P.length:=by omega
  obtain⟨a,f,hp,h0,h1,ae,af,hb⟩:=hP P[i] (yoy aa);have ex:zd P (i:Int) = [a,f]:=by simp [zd,aa,hp]
  refine qU (fun k=>by rw[zw.l0,if_pos (by omega),if_pos (by omega),ex,if_pos (by simp),if_pos (by simp)]) ?_;have:=zCy h (P:=P) (i:=(i:Int)) h0 h1 ae af hb (R:=(P.drop (i+1)).flatMap (zDa t)) (D:=4*d) (by omega) (by omega) (fun ab ag=>zCz h hP ad d (i+1) ab (by omega) ag) 4 0 acc (by omega) (by omega) (by omega);rw[List.append_assoc]at this;rw[ypy aa,hp,List.flatMap_cons];exact this
theorem zEI (h:Zx t=true):Ev (fun k=>zw.f k t) (zAR t):=by
 have h8:=(qn h).1;have hl:=zBV t t.length 0;refine Ev.bind (zDb h) ?_;have:=zCz h (zEH t t.length 0 (by omega) (by omega)) (by omega) (JX t 0 t.length).length 0 [] (by omega) (by simp;omega);rw[List.nil_append,List.drop_zero,← zAo h]at this;exact this
theorem zD0 (h:Zx t=true):(zAR t).length≤1000:=by
 have h8:=(qn h).1;have hl:=zBV t t.length 0;rw[zAo h,List.length_flatMap];have : ∀ P:List (List Int),((P.map fun p=>(zDa t p).length).sum)≤4*P.length:=by
  intro P;induction P with
  | nil=>simp
  | cons p ps ih=>
   simp only [yjy,List.sum_cons,List.length_cons];have h1:(zDa t p).length≤4:=by unfold zDa zGl;rw[List.length_map];exact zFJ _
   omega
 have:=this (JX t 0 t.length);omega
end
def zBE (t:Tri):Int:=if Zx t then(if(t.length:Int)>6 then 3 else 0)else 1
def inR (x:Int):Bool:=decide (0≤x)&&decide (x≤1000)
theorem zAY {t:Tri} (h:zBE t=0):Zx t=true∧t.length≤6:=by
  unfold zBE at h
  cases ht:Zx t with
  | false=>rw[ht]at h;simp at h
  | true=>
    rw[ht,if_pos rfl]at h;refine⟨rfl,?_⟩;by_cases hl:(t.length:Int)>6
    · rw[if_pos hl]at h;simp at h
    (omega)
theorem zBF (t:Tri):Ev (fun k=>Zq.f k t) (zBE t):=by
  refine Ev.bind (zDZ t) ?_;unfold zBE
  cases Zx t with
  | false=>exact Zp (by simp) (Ev.now _)
  | true=>
    refine qu rfl (Ev.bind (Qp (by unfold zo.f;rfl)) ?_);rw[if_pos rfl];by_cases hl:(t.length:Int)>6
    (exact qu hl (Js (if_pos hl).symm));(exact Zp hl (Js (if_neg hl).symm))
theorem zDc {t:Tri} (hs:Small t):Ev (fun k=>Zw.f k t) (zBE t):=by
  refine Ev.bind (zDY hs) ?_;unfold zBE
  cases Zx t with
  | false=>exact Zp (by simp) (Ev.now _)
  | true=>
    refine qu rfl ?_;rw[if_pos rfl];by_cases hl:(t.length:Int)>6
    (exact qu hl (Js (if_pos hl).symm));(exact Zp hl (Js (if_neg hl).symm))
theorem zHZ (a b c:Int):JP.f a b c=some (decide (b≤a)&&decide (a≤c)):=by
  unfold JP.f;by_cases h:b≤a <;> simp [h]
theorem zDd {α:Type} (l:List α) (z : α) (n:Nat) (h:n<l.length) :
    (l.take n++List.replicate (l.length-n) z).set n l[n]=l.take (n+1)++List.replicate (l.length-(n+1)) z:=by
  have e:l.length-n=(l.length-(n+1))+1:=by omega
  rw[e,List.replicate_succ,List.set_append_right _ _ (by simp;omega)];have:n-(l.take n).length=0:=by simp;omega
  rw[this,yby,List.take_succ_eq_append_getElem h,List.append_assoc];rfl
theorem zEu (l:List Int) (h:l.length≤4398046511104):Ev (fun k=>qf.f k l) l:=by
  have hl:Ev (fun k=>qf.l0 k l (List.replicate l.length 0) 0) l:=by
    refine zA7 (fun k (s:List Int × Int)=>qf.l0 k l s.1 s.2) (fun s => ∃ n:Nat,n≤l.length∧s.2=n∧s.1=l.take n++List.replicate (l.length-n) 0) (fun s=>l.length-s.2.toNat) (fun _=>l) ?_ (List.replicate l.length 0,0) ⟨0,by omega,rfl,by simp⟩;rintro⟨a,i⟩ ⟨n,hn,rfl,rfl⟩;dsimp only;by_cases aa:n<l.length
    (refine .inr ⟨(l.take (n+1)++List.replicate (l.length-(n+1)) 0,((n+1:Nat):Int)),⟨n+1,by omega,rfl,rfl⟩,by simp;omega,rfl,fun k=>?_⟩;simp only [qf.l0];rw[if_pos (by omega),if_pos (by omega),if_pos (by simp;omega),ZK (by omega),yny,zCC l n aa,zDd l 0 n aa])
    · obtain rfl:n=l.length:=by omega
      refine .inl fun k=>?_
      simp only [qf.l0];rw[if_neg (by omega)];simp
  refine Ev.congr (fun k=>?_) hl;unfold qf.f;rw[if_pos (by omega),if_pos (by simp;omega),yny]
theorem zAq (l:List Int) (h:l.length≤4398046511104):Ev (fun k=>qR.f k l l) true:=by
  have hl:Ev (fun k=>qR.l0 k l l 0) true:=by
    refine zA7 (fun k (s:Int)=>qR.l0 k l l s) (fun s => ∃ n:Nat,n≤l.length∧s=n) (fun s=>l.length-s.toNat) (fun _=>true) ?_ 0 ⟨0,by omega,rfl⟩;rintro i ⟨n,hn,rfl⟩;by_cases aa:n<l.length
    (refine .inr ⟨((n+1:Nat):Int),⟨n+1,by omega,rfl⟩,by simp;omega,rfl,fun k=>?_⟩;simp only [qR.l0];rw[if_pos (by omega),if_pos (by omega),if_pos (by omega),if_pos trivial,ZK (by omega)])
    · refine .inl fun k=>?_
      simp only [qR.l0];rw[if_neg (by omega)]
  refine Ev.congr (fun k=>?_) hl;unfold qR.f;rw[if_pos rfl]
theorem zEv (l:List Int) (a:Int) (n:Nat) (h:n<l.length):(ZQ a n++l.drop n).set n (a+n)=ZQ a (n+1)++l.drop (n+1):=by
  rw[List.set_append_right _ _ (by rw[Zm];omega),Zm,Nat.sub_self,ypy h,yby,zEl,List.append_assoc];rfl
theorem zA8 (l:List Int) (a:Int) (h:l.length≤4398046511104) (h0:0≤a) (h1:a≤4398046511104):Ev (fun k=>qb.f k l a) (a+l.length,ZQ a l.length):=by
  have hl:Ev (fun k=>qb.l0 k l a 0) (a+l.length,ZQ a l.length):=by
    refine zA7 (fun k (s:List Int × Int × Int)=>qb.l0 k s.1 s.2.1 s.2.2) (fun s => ∃ n:Nat,n≤l.length∧s.2.2=n∧s.2.1=a+n∧s.1=ZQ a n++l.drop n) (fun s=>l.length-s.2.2.toNat) (fun _=>(a+l.length,ZQ a l.length)) ?_ (l,a,0) ⟨0,by omega,rfl,by simp,by simp [ZQ]⟩;rintro⟨x,b,i⟩ ⟨n,hn,rfl,rfl,rfl⟩;dsimp only;have hlen:(ZQ a n++l.drop n).length=l.length:=by simp [Zm];omega
    by_cases aa:n<l.length
    · refine .inr ⟨(ZQ a (n+1)++l.drop (n+1),a+((n+1:Nat):Int),((n+1:Nat):Int)),⟨n+1,by omega,rfl,rfl,rfl⟩,by simp;omega,rfl,fun k=>?_⟩
      simp only [qb.l0];rw[if_pos (by rw[hlen];omega),if_pos (by omega),ZK (by omega),yny,zEv l a n aa,qZ (by omega) (by omega)];congr 1;omega
    · obtain rfl:n=l.length:=by omega
      refine .inl fun k=>?_
      simp only [qb.l0];rw[if_neg (by rw[hlen];omega)];simp
  exact hl
theorem zBG (a:Int) (m:Nat) (h:m≤4398046511104) (h0:0≤a) (h1:a≤4398046511104):Ev (fun k=>qX.f k (ZQ a m) a) (a+m):=by
  have hl:Ev (fun k=>qX.l0 k (ZQ a m) a 0) (a+m):=by
    refine zA7 (fun k (s:Int × Int)=>qX.l0 k (ZQ a m) s.1 s.2) (fun s => ∃ n:Nat,n≤m∧s.2=n∧s.1=a+n) (fun s=>m-s.2.toNat) (fun _=>a+m) ?_ (a,0) ⟨0,by omega,rfl,by simp⟩;rintro⟨b,i⟩ ⟨n,hn,rfl,rfl⟩;dsimp only;by_cases aa:n<m
    · refine .inr ⟨(a+((n+1:Nat):Int),((n+1:Nat):Int)),⟨n+1,by omega,rfl,rfl⟩,by simp;omega,rfl,fun k=>?_⟩
      simp only [qX.l0];rw[if_pos (by rw[Zm];omega),if_pos (by omega),if_pos (by rw[zBA,zCn a m n aa]),ZK (by omega),qZ (by omega) (by omega)];congr 1;omega
    · obtain rfl:n=m:=by omega
      refine .inl fun k=>?_
      simp only [qX.l0];rw[if_neg (by rw[Zm];omega)]
  exact hl
def zAr (R:List (List Int)) (v:List Int):Bool:=R.all fun r=>decide (zFj r v 0=0)
def Jm (t:Tri) (v:List Int):Bool:=if(v.length:Int)=7*(t.length:Int)then(if v.all inR=true then zAr (zAR t) v else false)else false
def zFP (t:Tri) (v:List Int):Bool:=if zBE t=0 then Jm t v else false
theorem zFt {t:Tri} {v:List Int} (hv:v.length≤4398046511104) {R:Bool} (hR:Ev (fun k=>(zw.f k t).bind fun t106=>zl.l1 k v t106 0) R) (d:Nat) : ∀ n:Nat,n+d=v.length→Ev (fun k=>zl.l0 k v (n:Int) t) (if(v.drop n).all inR=true then R else false):=by
  induction d with
  | zero=>
    intro n hn;refine qU (fun k=>by rw[zl.l0,if_neg (by omega)]) ?_;rw[List.drop_eq_nil_of_le (by omega),if_pos (by rfl)];exact hR
  | succ d ih=>
    intro n hn;have aa:n<v.length:=by omega
    refine qU (fun k=>by rw[zl.l0,if_pos (by omega),if_pos (by omega),zCC v n aa,zHZ,yfy,ZK (by omega)]) ?_;rw[ypy aa,List.all_cons];change Ev (fun k=>if inR v[n]=true then _ else _) _
    cases h:inR v[n]with
    | false=>exact Zp (by simp) (by rw[Bool.false_and,if_neg (by simp)];exact Ev.now _)
    | true=>exact qu rfl (by rw[Bool.true_and];exact ih (n+1) (by omega))
theorem zCK (r v:List Int) (hl:r.length≤v.length) (hr:r.length≤1000000) : ∀ (d n:Nat) (s:Int),n+d=r.length→Ev (fun k=>Za.l0 k r v s (n:Int)) (zFj (r.drop n) (v.drop n) s)
  | 0,n,s,hn=>by
    refine qU (fun k=>by rw[Za.l0,if_neg (by omega)]) ?_;rw[List.drop_eq_nil_of_le (by omega)]
    cases v.drop n <;> exact Ev.now _
  | d+1,n,s,hn=>by
    have aa:n<r.length:=by omega
    have ab:n<v.length:=by omega
    refine qU (fun k=>by rw[Za.l0,if_pos (by omega),if_pos (by omega),if_pos (by omega),zCC r n aa,zCC v n ab,ZK (by omega)]) ?_;rw[ypy aa,ypy ab,zFj];exact zCK r v hl hr d (n+1) _ (by omega)
theorem zEw (r v:List Int) (hl:r.length≤v.length) (hr:r.length≤1000000):Ev (fun k=>Za.f k r v) (zFj r v 0):=by
  have:=zCK r v hl hr r.length 0 0 (by omega);rwa [List.drop_zero,List.drop_zero]at this
theorem zD1 (R:List (List Int)) (v:List Int) (hR : ∀ r∈R,r.length≤v.length∧r.length≤1000000) (hl:R.length≤1000000) : ∀ (d n:Nat),n+d=R.length→Ev (fun k=>zl.l1 k v R (n:Int)) (zAr (R.drop n) v)
  | 0,n,hn=>by
    refine qU (fun k=>by rw[zl.l1,if_neg (by omega)]) ?_;rw[List.drop_eq_nil_of_le (by omega)];exact Ev.now _
  | d+1,n,hn=>by
    have aa:n<R.length:=by omega
    have ex:zd R (n:Int)=R[n]:=by simp [zd,aa]
    have h1:=hR R[n] (yoy aa);refine qU (fun k=>by rw[zl.l1,if_pos (by omega),if_pos (by omega),ex,ZK (by omega)]) ?_;refine Ev.bind (zEw _ v h1.1 h1.2) ?_;unfold zAr;rw[ypy aa,List.all_cons];by_cases hz:zFj R[n] v 0=0
    (rw[ygy hz,Bool.true_and];exact qu hz (zD1 R v hR hl d (n+1) (by omega)));(rw[yhy hz,Bool.false_and];exact Zp hz (Ev.now _))
theorem zCZ (t:Tri) (v:List Int) (hv:v.length≤4398046511104):Ev (fun k=>zl.f k t v) (zFP t v):=by
  have aa:Ev (fun k=>zl.j0 k v true t) false:=qU (fun k=>by rw[zl.j0,if_pos rfl]) (Ev.now false);refine Ev.bind (zBF t) ?_;unfold zFP;by_cases hc:zBE t=0
  · obtain⟨ht,h6⟩:=zAY hc
    rw[if_pos hc];unfold Jm;refine qu hc (Ev.bind (Qp (by unfold zo.f;rfl)) ?_);refine Ev.congr (fun k=>by rw[qZ (by omega) (by omega)]) (f:=fun k=>zl.j0 k v ((v.length:Int) != (7*(t.length:Int))) t) ?_;by_cases hl:(v.length:Int)=7*(t.length:Int)
    · rw[if_pos hl]
      have e:((v.length:Int) != (7*(t.length:Int)))=false:=by simp [hl]
      rw[e];refine qU (fun k=>by rw[zl.j0,if_neg (by simp)]) ?_;have ab:Ev (fun k=>(zw.f k t).bind fun t106=>zl.l1 k v t106 0) (zAr (zAR t) v):=by
        refine Ev.bind (zEI ht) ?_;have:=zD1 (zAR t) v (fun r hr=>by have:=zCI ht r hr;omega) (by have:=zD0 ht;omega) (zAR t).length 0 (by omega);rwa [List.drop_zero]at this
      have:=zFt hv ab v.length 0 (by omega);rwa [List.drop_zero]at this
    · rw[if_neg hl]
      have e:((v.length:Int) != (7*(t.length:Int)))=true:=by simp [hl]
      rw[e];exact aa
  (rw[if_neg hc];exact Zp hc aa)
theorem zEJ (cols:Nat) (A r B:List Int) (k:Nat) (hA:A.length=k*cols) (hr:r.length=cols):rowAt cols (A++(r++B)) k=r:=by
  unfold rowAt;have h3:(k+1)*cols=A.length+r.length:=by rw[Nat.succ_mul];omega
  rw[h3,← hA,← List.append_assoc,List.take_append_of_le_length (by simp),List.take_of_length_le (by simp),List.drop_append_of_le_length (yry _),List.drop_length,List.nil_append]
theorem zD2 (cols:Nat) (v:List Int) : ∀ (R:List (List Int)) (A:List Int) (k:Nat),A.length=k*cols→(∀ r∈R,r.length=cols)→zAO cols (A++R.flatten) v R.length k=zAr R v
  | [],_,_,_,_=>rfl
  | r :: R,A,k,hA,hR=>by
    have hr:=hR r (List.mem_cons_self ..);rw[List.length_cons,zAO,List.flatten_cons,zEJ cols A r _ k hA hr];have ih:=zD2 cols v R (A++r) (k+1) (by rw[List.length_append,hA,hr,Nat.succ_mul]) (fun x hx=>hR x (List.mem_cons_of_mem _ hx));rw[List.append_assoc]at ih;rw[ih];unfold zAr;rw[List.all_cons];by_cases hz:zFj r v 0=0
    (rw[if_pos hz,ygy hz,Bool.true_and]);(rw[if_neg hz,yhy hz,Bool.false_and])
theorem zCL (cols:Nat) : ∀ (R:List (List Int)),(∀ r∈R,r.length=cols)→R.flatten.length=R.length*cols
  | [],_=>by simp
  | r :: R,h=>by
    rw[List.flatten_cons,List.length_append,zCL cols R (fun x hx=>h x (List.mem_cons_of_mem _ hx)),h r (List.mem_cons_self ..),List.length_cons,Nat.succ_mul];omega
theorem zCa {t:Tri} (h:Zx t=true) (v:List Int) (hv:(v.length:Int)=7*(t.length:Int)):QD.f ((zAR t).length:Int) (7*(t.length:Int)) (zAR t).flatten v=some (zAr (zAR t) v):=by
  have h8:=(qn h).1;have hs:=zD0 h;have hf:=zCL (7*t.length) (zAR t) (zCI h);have e7:(7*(t.length:Int)).toNat=7*t.length:=by omega
  unfold QD.f;rw[if_pos ?_,e7,yny];(have:=zD2 (7*t.length) v (zAR t) [] 0 (by simp) (zCI h);rw[List.nil_append]at this;rw[this])
  · refine⟨by omega,by omega,by omega,by omega,?_,by omega⟩
    rw[hf];push_cast;rfl
theorem zGo (v:List Int):zj.f v=some (!(v.all inR)):=by
  unfold zj.f qL.f;rw[contO (p:=fun y => !(inR y)) v (fun y _=>by
    show qe.f y=_;unfold qe.f;rw[zBU];rfl),List.not_all_eq_any_not]
theorem zDe {t:Tri} (h:Zx t=true) (v:List Int):qi.f t v=some (Jm t v):=by
  have h8:=(qn h).1;unfold qi.f Jm;rw[qZ (by omega) (by omega)];by_cases hl:(v.length:Int)=7*(t.length:Int)
  · rw[if_pos hl,if_pos hl,zGo,yfy]
    cases ha:v.all inR with
    | false=>rfl
    | true=>rw[if_neg (by simp),zFs h,yfy,zCa h v hl,yfy,if_pos rfl]
  (rw[if_neg hl,if_neg hl])
end Go.Proofs.Ytbahbnhfhddlbaa.P
namespace Go.Proofs.Ytbahbnhfhddlbaa.P
open Go.RowKit Go.Proofs.YtbahbnhfhddlbaaW.PrintWords Go.Proofs.YtbahbnhfhddlbaaW.PrintMore Go.Proofs.Ytbahbnhfhddlbaa.Lib
set_option linter.unusedVariables false
def zAS (u:List Int):Prop := ∀ x∈u,0≤x∧x≤1000
def times:Int→List Int→List Int→Int
  | m,x :: xs,y :: ys=>times (if y=0 then m else mn m (Int.tdiv x y)) xs ys
  | m,_,_=>m
theorem zGp {x y:Int} (hx:0≤x∧x≤1000) (hy:0<y):wrap64 (Int.tdiv x y)=Int.tdiv x y:=by
  have h1:0≤Int.tdiv x y:=Int.tdiv_nonneg hx.1 (by omega);have h2:Int.tdiv x y≤x:=Int.tdiv_le_self _ hx.1;exact qZ (by omega) (by omega)
theorem zA9 (v w:List Int) (hl:v.length=w.length) (hb:v.length≤7000000000) (hv:zAS v) (hw:zAS w) : ∀ (d n:Nat) (m:Int),n+d=v.length→Ev (fun k=>qy.l0 k v w m (n:Int)) (times m (v.drop n) (w.drop n))
  | 0,n,m,hn=>by
    refine qU (fun k=>by rw[qy.l0,if_neg (by omega)]) ?_;rw[List.drop_eq_nil_of_le (by omega)];exact Js rfl
  | d+1,n,m,hn=>by
    have aa:n<v.length:=by omega
    have ab:n<w.length:=by omega
    have h1:=hv v[n] (yoy aa);have h2:=hw w[n] (yoy ab);rw[ypy aa,ypy ab,times];refine qU (fun k=>by rw[qy.l0,if_pos (by omega),if_pos (by omega),if_pos (by omega),zCC v n aa,zCC w n ab,ZK (by omega)]) ?_;by_cases hz:w[n]>0
    (refine qu hz (Zp (by omega) ?_);rw[if_neg (by omega),zGp h1 hz];exact zA9 v w hl hb hv hw d (n+1) _ (by omega));(refine Zp hz ?_;rw[if_pos (by omega)];exact zA9 v w hl hb hv hw d (n+1) _ (by omega))
end Go.Proofs.Ytbahbnhfhddlbaa.P
namespace Go.Proofs.Ytbahbnhfhddlbaa.Lib
open Go.RowKit Go.Proofs.YtbahbnhfhddlbaaW.PrintWords
set_option linter.unusedVariables false
def Low (s:List Int):Prop := ∀ i:Nat,i<s.length→0≤s.getD i 0∧s.getD i 0≤i∧s.getD (s.getD i 0).toNat 0=s.getD i 0
theorem zGq (n:Nat):Low (ZQ 0 n):=by
  intro i hi;rw[Zm]at hi;have h:=zCn 0 n i hi;rw[Int.zero_add]at h;rw[h];refine⟨by omega,by omega,?_⟩;rw[yny,h]
theorem zEx {s:List Int} (h:Low s) {i k:Int} (ab:0≤i) (ad:i<s.length) (ae:0≤k) (af:k<s.length):Low (joi s i k):=by
  have a1:=h i.toNat (by omega);have a2:=h k.toNat (by omega);rw[← zGX]at a1 a2;intro n hn;rw[Qq]at hn;have a3:=h n hn;have gt : ∀ m:Nat,m<s.length→(joi s i k).getD m 0=if s.getD m 0=max (rd s i) (rd s k)then min (rd s i) (rd s k)else s.getD m 0:=fun m hm=>zEm s i k m hm
  generalize rd s i=p at *;generalize rd s k=q at *;rw[gt n hn];generalize hx:s.getD n 0=x at *;have lm : ∀ y:Int,0≤y→y<s.length→s.getD y.toNat 0=y→(joi s i k).getD y.toNat 0=if y=max p q then min p q else y:=fun y h0 h1 h2=>by rw[gt y.toNat (by omega),h2]
  by_cases e:x=max p q
  · rw[if_pos e]
    refine⟨by omega,by omega,?_⟩;rcases Int.le_total p q with aa|aa
    · have e1:min p q=p:=by omega
      have e2:max p q=q:=by omega
      rw[e1,lm p (by omega) (by omega) a1.2.2,e1,e2];split
      (rfl);(rfl)
    · have e1:min p q=q:=by omega
      have e2:max p q=p:=by omega
      rw[e1,lm q (by omega) (by omega) a2.2.2,e1,e2];split
      (rfl);(rfl)
  (rw[if_neg e];refine⟨a3.1,a3.2.1,?_⟩;rw[lm x a3.1 (by omega) a3.2.2,if_neg e])
def roots (m:List Int):Nat→List Int
  | 0 => []
  | i+1=>if m.getD i 0=i then roots m i ++ [(i:Int)]else roots m i
theorem zBr (m:List Int) : ∀ (i:Nat) (x:Int),x∈roots m i→0≤x∧x<i∧m.getD x.toNat 0=x
  | 0,x,h=>by cases h
  | i+1,x,h=>by
    rw[roots]at h;split at h
    · rename_i hc
      rcases List.mem_append.1 h with h|h
      · have:=zBr m i x h;exact⟨this.1,by omega,this.2.2⟩
      · have e:x=(i:Int):=by simpa using h
        subst e;exact⟨by omega,by omega,by rw[yny];exact hc⟩
    · have:=zBr m i x h;exact⟨this.1,by omega,this.2.2⟩
theorem zCM (m:List Int) (j:Nat) (hj:m.getD j 0=j) : ∀ i:Nat,j<i→(j:Int)∈roots m i∧(roots m i).idxOf (j:Int)=(roots m j).length
  | 0,h=>by omega
  | i+1,h=>by
    rw[roots];by_cases e:j=i
    · subst e
      have hn:(j:Int) ∉ roots m j:=fun hm=>by have:=zBr m j _ hm;omega
      rw[if_pos hj];refine⟨by simp,?_⟩;rw[List.idxOf_append,if_neg hn];simp
    · obtain⟨h1,h2⟩:=zCM m j hj i (by omega)
      split
      (refine⟨List.mem_append_left _ h1,?_⟩;rw[List.idxOf_append,if_pos h1,h2]);(exact⟨h1,h2⟩)
theorem zBW (m:List Int) (i:Nat) : ∀ d:Nat,(roots m i).length≤(roots m (i+d)).length
  | 0=>yry _
  | d+1=>by
    have:=zBW m i d;rw[← Nat.add_assoc,roots];split
    · simp;omega
    (exact this)
def zGr (m:List Int) (x:Int):Int:=((roots m x.toNat).length:Int)
theorem zEK {m:List Int} (h:Low m) : ∀ (d i:Nat),i+d=m.length→zAa (roots m i) (m.drop i)=(m.drop i).map (zGr m)
  | 0,i,hi=>by rw[List.drop_eq_nil_of_le (by omega)];rfl
  | d+1,i,hi=>by
    have aa:i<m.length:=by omega
    have hg:m.getD i 0=m[i]:=by simp [aa]
    obtain⟨h0,h1,h2⟩:=h i aa;rw[hg]at h0 h1 h2;rw[ypy aa,zAa,yjy];have ih:=zEK h d (i+1) (by omega);rw[roots,hg]at ih;by_cases e:m[i]=(i:Int)
    · have hn:m[i] ∉ roots m i:=fun hm=>by have:=zBr m i _ hm;omega
      rw[if_neg hn];rw[if_pos e,← e]at ih;rw[ih];have er:zGr m m[i]=((roots m i).length:Int):=by unfold zGr;rw[e,yny]
      rw[er]
    · obtain⟨j,hj⟩:=Int.eq_ofNat_of_zero_le h0
      rw[hj,yny]at h2;obtain⟨k1,k2⟩:=zCM m j h2 i (by omega);rw[if_neg e]at ih;rw[ih];have er:zGr m m[i]=((roots m j).length:Int):=by unfold zGr;rw[hj,yny]
      rw[er,hj,if_pos k1,k2]
theorem zDf {m:List Int} (h:Low m):zED m=m.map (zGr m):=by
  have:=zEK h m.length 0 (by omega);rw[List.drop_zero]at this;exact this
def zFu (m:List Int):Nat→Nat→List Int × Int→List Int × Int
  | _,0,s=>s
  | i,d+1,s=>zFu m (i+1) d (if rd m (i:Int)=(i:Int)then(s.1.set i s.2,s.2+1)else s)
theorem zCN (m:List Int) : ∀ (d i:Nat) (s:List Int × Int),(zFu m i d s).1.length=s.1.length
  | 0,_,_=>rfl
  | d+1,i,s=>by
    rw[zFu,zCN m d (i+1)];split <;> simp
theorem zDg (m:List Int) : ∀ (d i:Nat) (s:List Int × Int),i+d=m.length→s.1.length=m.length→s.2=((roots m i).length:Int)→(∀ j:Nat,j<i→m.getD j 0=j→s.1.getD j 0=((roots m j).length:Int)) →
    (zFu m i d s).2=((roots m m.length).length:Int) ∧ ∀ j:Nat,j<m.length→m.getD j 0=j→(zFu m i d s).1.getD j 0=((roots m j).length:Int)
  | 0,i,s,hi,hl,h2,h1=>by
    obtain rfl:i=m.length:=by omega
    exact⟨h2,h1⟩
  | d+1,i,s,hi,hl,h2,h1=>by
    have ab:i<m.length:=by omega
    rw[zFu];by_cases e:m.getD i 0=(i:Int)
    · rw[if_pos (by rw[zBA];exact e)]
      refine zDg m d (i+1) _ (by omega) (by simp [hl]) ?_ ?_
      · rw[roots,if_pos e];simp [h2]
      · intro j hj aa
        show(s.1.set i s.2).getD j 0=_;by_cases ej:j=i
        · subst ej
          simp [List.getD_eq_getElem?_getD,hl,ab,h2]
        · have h3:=h1 j (by omega) aa
          have e3:(s.1.set i s.2).getD j 0=s.1.getD j 0:=by
            simp only [List.getD_eq_getElem?_getD];rw[List.getElem?_set_ne (fun hh=>ej hh.symm)]
          rw[e3,h3]
    · rw[if_neg (by rw[zBA];exact e)]
      refine zDg m d (i+1) s (by omega) hl ?_ ?_
      · rw[roots,if_neg e];exact h2
      · intro j hj aa
        by_cases ej:j=i
        · subst ej;exact absurd aa e
        (exact h1 j (by omega) aa)
def Qh (w:Nat):Nat→List Int→List (List Int)
  | 0,_ => []
  | q+1,xs=>xs.take w :: Qh w q (xs.drop w)
theorem zBH (w:Nat) : ∀ (q:Nat) (xs:List Int),(Qh w q xs).length=q
  | 0,_=>rfl
  | q+1,xs=>by rw[Qh,List.length_cons,zBH w q]
theorem zD3 (w:Nat) : ∀ (q:Nat) (xs:List Int) (a:Nat),a<q→(Qh w q xs)[a]?=some ((xs.drop (w*a)).take w)
  | 0,_,a,h=>by omega
  | q+1,xs,0,h=>by simp [Qh]
  | q+1,xs,a+1,h=>by
    rw[Qh,List.getElem?_cons_succ,zD3 w q _ a (by omega),List.drop_drop,Nat.mul_succ,Nat.add_comm (w*a)]
theorem zHa {m:List Int} (h:Low m):m.map (rd (zFu m 0 m.length (List.replicate m.length 0,0)).1)=zED m∧(zFu m 0 m.length (List.replicate m.length 0,0)).2=((roots m m.length).length:Int):=by
  obtain⟨h1,h2⟩:=zDg m m.length 0 (List.replicate m.length 0,0) (by omega) (by simp) rfl (fun j hj=>by omega);refine⟨?_,h1⟩;rw[zDf h];apply List.map_congr_left
  intro x hx;obtain⟨i,hi,rfl⟩:=List.getElem_of_mem hx;obtain⟨q0,q1,q2⟩:=h i hi;have hg:m.getD i 0=m[i]:=by simp [hi]
  rw[hg]at q0 q1 q2;generalize m[i]=x at *;obtain⟨j,rfl⟩:=Int.eq_ofNat_of_zero_le q0;rw[yny]at q2;rw[zBA,h2 j (by omega) q2];unfold zGr;rw[yny]
theorem zEy (xs:List Int) : ∀ x:Int,x≤xs.foldl mx x ∧ ∀ y∈xs,y≤xs.foldl mx x:=by
  induction xs with
  | nil=>intro x;exact⟨Int.le_refl _,fun y hy=>by cases hy⟩
  | cons z xs ih=>
    intro x;obtain⟨h1,h2⟩:=ih (mx x z);have h3:x≤mx x z∧z≤mx x z:=by unfold mx;split <;> omega
    rw[List.foldl_cons];refine⟨by omega,fun y hy=>?_⟩;rcases List.mem_cons.1 hy with rfl|hy
    (omega);(exact h2 y hy)
theorem zEL (xs:List Int) : ∀ x:Int,xs.foldl mx x=x∨xs.foldl mx x∈xs:=by
  induction xs with
  | nil=>intro x;exact .inl rfl
  | cons z xs ih=>
    intro x;rw[List.foldl_cons];rcases ih (mx x z)with h|h
    · rw[h]
      unfold mx;split
      (exact .inr (List.mem_cons_self ..));(exact .inl rfl)
    (exact .inr (List.mem_cons_of_mem _ h))
theorem maxl {l:List Int} {M:Int} (h1 : ∀ y∈l,y≤M) (h2:M∈l) : ∃ x xs,l=x :: xs∧xs.foldl mx x=M:=by
  cases l with
  | nil=>cases h2
  | cons x xs=>
    refine⟨x,xs,rfl,?_⟩;obtain⟨k1,k2⟩:=zEy xs x;have k3:xs.foldl mx x≤M:=by
      rcases zEL xs x with h|h
      · rw[h];exact h1 x (List.mem_cons_self ..)
      (exact h1 _ (List.mem_cons_of_mem _ h))
    have k4:M≤xs.foldl mx x:=by
      rcases List.mem_cons.1 h2 with h|h
      · rw[h];exact k1
      (exact k2 M h)
    omega
theorem zD4 (m:List Int) : ∀ i:Nat,0<(roots m i).length → ∃ j:Nat,j<i∧m.getD j 0=j∧(roots m j).length+1=(roots m i).length
  | 0,h=>by simp [roots]at h
  | i+1,h=>by
    rw[roots]at h ⊢;by_cases e:m.getD i 0=(i:Int)
    (rw[if_pos e];exact⟨i,by omega,e,by simp⟩);(rw[if_neg e]at h ⊢;obtain⟨j,h1,h2,h3⟩:=zD4 m i h;exact⟨j,by omega,h2,h3⟩)
theorem zHb {m:List Int} (h:Low m) (hp:0<m.length) : ∃ x xs,zED m=x :: xs∧xs.foldl mx x=((roots m m.length).length:Int)-1:=by
  have ab:=h 0 hp;have e0:m.getD 0 0=((0:Nat):Int):=by have:=ab.1;have:=ab.2.1;omega
  have aa:0<(roots m m.length).length:=by
    have:=(zCM m 0 e0 m.length hp).1;exact List.length_pos_of_mem this
  rw[zDf h];refine maxl ?_ ?_
  · intro y hy
    obtain⟨x,hx,rfl⟩:=List.mem_map.1 hy;obtain⟨i,hi,rfl⟩:=List.getElem_of_mem hx;obtain⟨q0,q1,q2⟩:=h i hi;have hg:m.getD i 0=m[i]:=by simp [hi]
    rw[hg]at q0 q1 q2;generalize m[i]=x at *;obtain⟨j,rfl⟩:=Int.eq_ofNat_of_zero_le q0;rw[yny]at q2;have k:=zBW m (j+1) (m.length-(j+1));rw[show j+1+(m.length-(j+1))=m.length by omega,roots,if_pos q2]at k;unfold zGr;rw[yny];simp at k
    omega
  · obtain⟨j,h1,h2,h3⟩:=zD4 m m.length aa
    refine List.mem_map.2 ⟨(j:Int),?_,?_⟩
    · have:m.getD j 0=m[j]:=by simp [h1]
      rw[← h2,this];exact yoy _
    · unfold zGr
      rw[yny];omega
end Go.Proofs.Ytbahbnhfhddlbaa.Lib
namespace Go.Proofs.Ytbahbnhfhddlbaa.P
open Go.RowKit Go.Proofs.YtbahbnhfhddlbaaW.PrintWords Go.Proofs.Ytbahbnhfhddlbaa.Lib
set_option linter.unusedVariables false
theorem zFQ (n:Nat) (hn:n≤1000000) : ∀ (d i:Nat) (xs:List Int),i+d=n→xs.length=i→Ev (fun k=>qO.l0 k (n:Int) xs (i:Int)) (xs++ZQ (i:Int) d)
  | 0,i,xs,h,hl=>by
    refine qU (fun k=>by rw[qO.l0,if_neg (by omega)]) ?_;rw[ZQ,List.append_nil];exact Ev.now _
  | d+1,i,xs,h,hl=>by
    refine qU (fun k=>by rw[qO.l0,if_pos (by omega),if_pos (by omega),ZK (by omega)]) ?_;have:=zFQ n hn d (i+1) (xs ++ [(i:Int)]) (by omega) (by simp [hl]);rw[List.append_assoc]at this;exact this
theorem zDh (n:Nat) (hn:n≤1000000):Ev (fun k=>qO.f k (n:Int)) (ZQ 0 n):=by
  have:=zFQ n hn n 0 [] (by omega) rfl;exact this
theorem zEz (l:List Int) {i k:Int} (hl:l.length≤1000000) (aa:0≤i) (ab:i<l.length) (ad:0≤k) (ae:k<l.length):Ev (fun _=>ZV.f l i k) (joi l i k):=Qp (if_pos ⟨aa,ab,ad,ae⟩)
def zH5 (e:Int):Int:=rd [0,0,0,1,1,2] e
def zG1 (e:Int):Int:=rd [1,2,3,2,3,3] e
theorem zII {e:Int} (h0:0≤e) (h1:e<6):ZL.f e=some (zH5 e,zG1 e):=by
  show(if 0≤e then if e<6 then(if e<6 then some (zH5 e,zG1 e)else none)else none else none)=_;rw[if_pos h0,if_pos h1,if_pos h1]
theorem zGs {e:Int} (h0:0≤e) (h1:e<6):sm (zH5 e)∧sm (zG1 e)∧zH5 e≠zG1 e:=by
  rcases(show e=0∨e=1∨e=2∨e=3∨e=4∨e=5 by omega)with rfl|rfl|rfl|rfl|rfl|rfl <;> (unfold sm;decide)
def eix (a b:Int):Int:=(qJ.f 8 a b).getD 0
theorem zGt {a b:Int} (ha:sm a) (hb:sm b) (aa:a≠b):Ev (fun k=>qJ.f k a b) (eix a b)∧0≤eix a b∧eix a b<6:=by
  obtain⟨ab,ad⟩:=ha;obtain⟨ae,af⟩:=hb;have key:qJ.f 8 a b=some (eix a b)∧0≤eix a b∧eix a b<6:=by
    rcases(show a=0∨a=1∨a=2∨a=3 by omega)with rfl|rfl|rfl|rfl <;> rcases(show b=0∨b=1∨b=2∨b=3 by omega)with rfl|rfl|rfl|rfl <;> first|exact absurd rfl aa|decide +kernel
  exact⟨Ev.of (fun k=>qJ.mono _ _ k) key.1,key.2⟩
def Ju (j b:Int) (p:List Int):List Int→List Int→List Int
  | [],s=>s
  | c :: cs,s=>Ju j b p cs (joi s (4*j+c) (4*b+rd p c))
theorem zAg (j b:Int) (p:List Int) : ∀ (L s:List Int),(Ju j b p L s).length=s.length
  | [],_=>rfl
  | c :: cs,s=>by rw[Ju,zAg j b p cs,Qq]
def zAT (j f b:Int) (p:List Int):List Int→List Int→List Int
  | [],s=>s
  | e :: es,s=>zAT j f b p es (if zH5 e=f∨zG1 e=f then s else joi s (6*j+e) (6*b+eix (rd p (zH5 e)) (rd p (zG1 e))))
theorem zAh (j f b:Int) (p:List Int) : ∀ (L s:List Int),(zAT j f b p L s).length=s.length
  | [],_=>rfl
  | c :: cs,s=>by
    rw[zAT,zAh j f b p cs];split
    (rfl);(rw[Qq])
structure Sk where
  v:List Int
  e:List Int
  f:List Int
def zAE (s:Sk) (j f:Nat) (x:zz):Sk:=
  ⟨Ju j x.f0 (ZN x.f1) (zCS [(f:Int)]) s.v,zAT j f x.f0 (ZN x.f1) (ZQ 0 6) s.e,joi s.f (4*(j:Int)+f) (4*x.f0+rd (ZN x.f1) f)⟩
def Sk.ok (n:Nat) (s:Sk):Prop:=s.v.length=4*n∧s.e.length=6*n∧s.f.length=4*n
theorem zEM {n:Nat} {s:Sk} (h:s.ok n) (j f:Nat) (x:zz):(zAE s j f x).ok n:=⟨by rw[zAE,zAg];exact h.1,by rw[zAE,zAh];exact h.2.1,by rw[zAE,Qq];exact h.2.2⟩
section
variable {t : Tri}
theorem zGu (h:Zx t=true) {j f:Nat} (hj:j<t.length) (hf:f<4) : ∃ aa : f<t[j].length,fc t (j:Int) (f:Int)=t[j][f]:=by
  have h4:t[j].length=4:=(qn h).2.1 _ (yoy hj);exact⟨by omega,by unfold fc;rw[JQ t j hj,zAX _ f (by omega)]⟩
theorem zDi (h:Zx t=true) {j f:Nat} {x:zz} (hF:zB6 t j f x) (hb : ¬ x.f0<0):j<t.length∧f≤3∧0≤x.f0∧x.f0<(t.length:Int)∧0≤x.f1∧x.f1≤23:=by
  obtain⟨h1,h2,h3⟩:=hF;have h4:t[j].length=4:=(qn h).2.1 _ (yoy h1);obtain⟨_,aa⟩:=zGu h h1 (f:=f) (by omega);have:=zAQ (a:=(j:Int)) (f:=(f:Int)) h (by omega) (by omega) (by omega) (by omega);rw[aa,h3]at this;rcases this with ⟨e,_⟩|⟨⟨g0,g1,g2,g3⟩,_⟩
  (omega);(exact⟨h1,by omega,g0,g1,g2,g3⟩)
theorem zGv (h:Zx t=true):zFl t:=by
  obtain⟨h8,h4,_⟩:=qn h;refine⟨h8,fun r hr=>by rw[h4 r hr];omega,fun r hr x hx hb=>?_⟩;obtain⟨j,hj,rfl⟩:=List.getElem_of_mem hr;obtain⟨f,hf,rfl⟩:=List.getElem_of_mem hx;have:=zDi h (j:=j) (f:=f) ⟨hj,hf,rfl⟩ hb;exact⟨this.2.2.2.1,this.2.2.2.2⟩
theorem zEN {σ τ:Type} {Rel : σ → τ→Prop} {s1 : σ→Nat→Nat→zz → σ} {s2 : τ→Nat→Nat→zz → τ} (h : ∀ a b j f x,zB6 t j f x → ¬ x.f0<0→Rel a b→Rel (s1 a j f x) (s2 b j f x)) (j:Nat) (hj:j<t.length) :
    ∀ (d f:Nat) (a : σ) (b : τ),f+d=t[j].length→Rel a b→Rel (zDS s1 j (t[j].drop f) f a) (zDS s2 j (t[j].drop f) f b)
  | 0,f,a,b,hf,hr=>by rw[List.drop_eq_nil_of_le (by omega)];exact hr
  | d+1,f,a,b,hf,hr=>by
    have aa:f<t[j].length:=by omega
    rw[ypy aa,zDS,zDS];refine zEN h j hj d (f+1) _ _ (by omega) ?_;by_cases hb:t[j][f].f0<0
    · rw[if_pos hb,if_pos hb];exact hr
    (rw[if_neg hb,if_neg hb];exact h _ _ _ _ _ ⟨hj,aa,rfl⟩ hb hr)
theorem zEO {σ τ:Type} {Rel : σ → τ→Prop} {s1 : σ→Nat→Nat→zz → σ} {s2 : τ→Nat→Nat→zz → τ} (h : ∀ a b j f x,zB6 t j f x → ¬ x.f0<0→Rel a b→Rel (s1 a j f x) (s2 b j f x)) :
    ∀ (d j:Nat) (a : σ) (b : τ),j+d=t.length→Rel a b→Rel (zB5 s1 (t.drop j) j a) (zB5 s2 (t.drop j) j b)
  | 0,j,a,b,hj,hr=>by rw[List.drop_eq_nil_of_le (by omega)];exact hr
  | d+1,j,a,b,hj,hr=>by
    have aa:j<t.length:=by omega
    rw[ypy aa,zB5,zB5];refine zEO h d (j+1) _ _ (by omega) ?_;have:=zEN h j aa t[j].length 0 a b (by omega) hr;rwa [List.drop_zero]at this
theorem zEP {σ τ:Type} {Rel : σ → τ→Prop} {s1 : σ→Nat→Nat→zz → σ} {s2 : τ→Nat→Nat→zz → τ} (h : ∀ a b j f x,zB6 t j f x → ¬ x.f0<0→Rel a b→Rel (s1 a j f x) (s2 b j f x)) (a : σ) (b : τ) (hr:Rel a b):Rel (zB5 s1 t 0 a) (zB5 s2 t 0 b):=by
  have:=zEO h t.length 0 a b (by omega) hr;rwa [List.drop_zero]at this
variable {ρ : Type}
theorem zF0 (h:Zx t=true) {r:(List (List Int)) × (List (List Int)) × (List (List Int)) × List Int} {j f b p:Int} (ae:0≤j) (af:j<t.length) (ag:0≤b) (ah:b<t.length) (aa:0≤p) (ab:p≤23) (E F:List Int) :
    ∀ (d:Nat) (c:Int) (V:List Int),0≤c→c+d=4→V.length=4*t.length→Ev (fun k=>zS.l3 k (t.length:Int) (Ju j b (ZN p) ((ZQ c d).filter fun x => ![f].contains x) V) E F j f 0 t b p) r →
      Ev (fun k=>zS.l2 k (t.length:Int) V E F j f c t b p) r
  | 0,c,V,hc,he,hl,hr=>by
    refine qU (fun k=>by rw[zS.l2,if_neg (by omega)]) ?_;exact hr
  | d+1,c,V,hc,he,hl,hr=>by
    have h8:=(qn h).1;by_cases ad:c=f
    · refine qU (fun k=>by rw[zS.l2,if_pos (by omega),if_pos ad,qZ (by omega) (by omega)]) ?_
      refine zF0 h ae af ag ah aa ab E F d (c+1) V (by omega) (by omega) hl ?_;have e1:(![f].contains c)=false:=by simp [ad]
      rwa [ZQ,List.filter_cons,e1,if_neg (by simp)]at hr
    · have e1:(![f].contains c)=true:=by simp [ad]
      have hd:=Qa aa ab hc (show c≤3 by omega);refine qU (fun k=>by rw[zS.l2,if_pos (by omega),if_neg ad]) ?_;refine Ev.bind (Jp aa ab hc (by omega)) ?_;refine Ev.congr (fun k=>by rw[qZ (show -9223372036854775808≤4*j by omega) (by omega),qZ (show -9223372036854775808≤4*b by omega) (by omega),qZ (show -9223372036854775808≤4*j+c by omega) (by omega),qZ (show -9223372036854775808≤4*b+rd (ZN p) c by omega) (by omega),qZ (show -9223372036854775808≤c+1 by omega) (by omega)]) ?_;refine Ev.bind (zEz V (by omega) (by omega) (by omega) (by omega) (by omega)) ?_;refine zF0 h ae af ag ah aa ab E F d (c+1) _ (by omega) (by omega) (by rw[Qq];exact hl) ?_;rwa [ZQ,List.filter_cons,e1,if_pos rfl,Ju]at hr
theorem zGw {p a b:Int} (aa:0≤p) (ad:p≤23) (ha:sm a) (hb:sm b) (ab:a≠b):rd (ZN p) a≠rd (ZN p) b:=by
  obtain⟨ae,af⟩:=ha;obtain⟨ag,ah⟩:=hb;obtain⟨n,rfl⟩:=Int.eq_ofNat_of_zero_le aa;have key : ∀ m:Fin 24,zq (m.val:Int) 0≠zq (m.val:Int) 1∧zq (m.val:Int) 0≠zq (m.val:Int) 2∧zq (m.val:Int) 0≠zq (m.val:Int) 3∧zq (m.val:Int) 1≠zq (m.val:Int) 2∧zq (m.val:Int) 1≠zq (m.val:Int) 3∧zq (m.val:Int) 2≠zq (m.val:Int) 3:=by decide
  obtain⟨k1,k2,k3,k4,k5,k6⟩:=key ⟨n,by omega⟩;dsimp only at k1 k2 k3 k4 k5 k6;rcases(show a=0∨a=1∨a=2∨a=3 by omega)with rfl|rfl|rfl|rfl <;> rcases(show b=0∨b=1∨b=2∨b=3 by omega)with rfl|rfl|rfl|rfl <;> first|exact absurd rfl ab|assumption|exact Ne.symm (by assumption)
theorem zF1 (h:Zx t=true) {r:(List (List Int)) × (List (List Int)) × (List (List Int)) × List Int} {j f b p:Int} (ae:0≤j) (af:j<t.length) (ag:0≤f) (ah:f≤3) (ai:0≤b) (aj:b<t.length) (ab:0≤p) (ad:p≤23) (V F:List Int) :
    ∀ (d:Nat) (e:Int) (E:List Int),0≤e→e+d=6→E.length=6*t.length→Ev (fun k=>zS.l1 k (t.length:Int) V (zAT j f b (ZN p) (ZQ e d) E) F j (f+1) t) r →
      Ev (fun k=>zS.l3 k (t.length:Int) V E F j f e t b p) r
  | 0,e,E,hc,he,hl,hr=>by
    refine qU (fun k=>by rw[zS.l3,if_neg (by omega),qZ (by omega) (by omega)]) ?_;exact hr
  | d+1,e,E,hc,he,hl,hr=>by
    have h8:=(qn h).1;obtain⟨sa,sb,ak⟩:=zGs hc (show e<6 by omega);rw[ZQ,zAT]at hr;have aa:(zH5 e=f∨zG1 e=f)→Ev (fun k=>zS.j4 k (t.length:Int) V E F j f e (zH5 e) (zG1 e) false t b p) r:=fun hq=>by
      rw[if_pos hq]at hr;refine qU (fun k=>by rw[zS.j4,if_neg (by simp),qZ (by omega) (by omega)]) ?_;exact zF1 h ae af ag ah ai aj ab ad V F d (e+1) E (by omega) (by omega) hl hr
    refine qU (fun k=>by rw[zS.l3,if_pos (by omega),zII hc (by omega),yfy]) ?_;dsimp only;by_cases ea:zH5 e=f
    (exact qu ea (aa (.inl ea)))
    · refine Zp ea ?_
      by_cases eb:zG1 e=f
      · have e9:(zG1 e != f)=false:=by simp [eb]
        rw[e9];exact aa (.inr eb)
      · have e9:(zG1 e != f)=true:=by simp [eb]
        rw[e9];rw[if_neg (fun hq=>hq.elim ea eb)]at hr;obtain⟨k1,k2,k3⟩:=zGt (Qa ab ad sa.1 sa.2) (Qa ab ad sb.1 sb.2) (zGw ab ad sa sb ak);refine qU (fun k=>by rw[zS.j4,if_pos rfl]) ?_;refine Ev.bind (Jp ab ad sa.1 sa.2) (Ev.bind (Jp ab ad sb.1 sb.2) (Ev.bind k1 ?_));refine Ev.congr (fun k=>by rw[qZ (show -9223372036854775808≤6*j by omega) (by omega),qZ (show -9223372036854775808≤6*b by omega) (by omega),qZ (show -9223372036854775808≤6*j+e by omega) (by omega),qZ (show -9223372036854775808≤6*b+eix (rd (ZN p) (zH5 e)) (rd (ZN p) (zG1 e))by omega) (by omega),qZ (show -9223372036854775808≤e+1 by omega) (by omega)]) ?_;refine Ev.bind (zEz E (by omega) (by omega) (by omega) (by omega) (by omega)) ?_;exact zF1 h ae af ag ah ai aj ab ad V F d (e+1) _ (by omega) (by omega) (by rw[Qq];exact hl) hr
theorem zF2 (h:Zx t=true) {r:(List (List Int)) × (List (List Int)) × (List (List Int)) × List Int} (j:Nat) (hj:j<t.length) :
    ∀ (d f:Nat) (s:Sk),f+d=4→s.ok t.length→(∀ s' : Sk,s'.ok t.length→s' = zDS zAE j (t[j].drop f) f s→Ev (fun k=>zS.l0 k (t.length:Int) s'.v s'.e s'.f ((j+1:Nat):Int) t) r) →
      Ev (fun k=>zS.l1 k (t.length:Int) s.v s.e s.f (j:Int) (f:Int) t) r
  | 0,f,s,hf,hs,hr=>by
    have h8:=(qn h).1;have h4:t[j].length=4:=(qn h).2.1 _ (yoy hj);refine qU (fun k=>by rw[zS.l1,if_neg (by omega),ZK (by omega)]) ?_;exact hr s hs (by rw[List.drop_eq_nil_of_le (by omega)];rfl)
  | d+1,f,s,hf,hs,hr=>by
    have h8:=(qn h).1;obtain⟨aa,ab⟩:=zGu h hj (f:=f) (by omega);have af:=rowlen h (a:=(j:Int)) (by omega) (by omega);have e0:(zJ (zF t (j:Int)) (f:Int))=t[j][f]:=ab;rw[ypy aa,zDS]at hr;refine qU (fun k=>by rw[zS.l1,if_pos (by omega),if_pos (by omega),if_pos (by omega),if_pos (by omega),if_pos (by omega),e0]) ?_;by_cases hb:t[j][f].f0<0
    (rw[if_pos hb]at hr;refine qu hb (Ev.congr (fun k=>by rw[ZK (by omega)]) ?_);exact zF2 h j hj d (f+1) s (by omega) hs hr)
    · rw[if_neg hb]at hr
      refine Zp hb ?_;obtain⟨_,_,b0,b1,p0,p1⟩:=zDi h (j:=j) (f:=f) (x:=t[j][f]) ⟨hj,aa,rfl⟩ hb;generalize t[j][f]=x at *;have hd:=Qa p0 p1 (show(0:Int)≤(f:Int)by omega) (by omega);refine Ev.bind (Jp p0 p1 (by omega) (by omega)) ?_;refine Ev.congr (fun k=>by rw[qZ (show -9223372036854775808≤4*(j:Int)by omega) (by omega),qZ (show -9223372036854775808≤4*x.f0 by omega) (by omega),qZ (show -9223372036854775808≤4*(j:Int)+(f:Int)by omega) (by omega),qZ (show -9223372036854775808≤4*x.f0+rd (ZN x.f1) (f:Int)by omega) (by omega)]) ?_;have ad:=hs.1;have ae:=hs.2.1;have ag:=hs.2.2;refine Ev.bind (zEz s.f (by omega) (by omega) (by omega) (by omega) (by omega)) ?_;refine zF0 h (by omega) (by omega) b0 b1 p0 p1 s.e _ 4 0 s.v (by omega) (by omega) ad ?_;refine zF1 h (by omega) (by omega) (by omega) (by omega) b0 b1 p0 p1 _ _ 6 0 s.e (by omega) (by omega) ae ?_;have e1:((f:Int)+1)=((f+1:Nat):Int):=by omega
      rw[e1];exact zF2 h j hj d (f+1) (zAE s j f x) (by omega) (zEM hs _ _ _) hr
end
theorem zGx {m:List Int} {w:Nat} {x6:List Int} {x7:Int} (hm : ∀ x∈m,0≤x∧x<x6.length) (hL:m.length≤1000000) (hw:w≤1000) {r:List (List Int) × Int} {o:Nat} (ho:o+w≤m.length) (x8:List (List Int)) (h8:x8.length≤1000000) :
    ∀ (d i:Nat) (acc:List Int),i+d=o+w→acc.length+d=w→Ev (fun k=>zg.l1 k m (w:Int) x6 x7 (x8 ++ [acc++((m.map (rd x6)).drop i).take d]) ((o+w:Nat):Int)) r→Ev (fun k=>zg.l2 k m (w:Int) x6 x7 x8 (o:Int) acc (i:Int)) r
  | 0,i,acc,hi,ha,hr=>by
    refine qU (fun k=>by rw[zg.l2,qZ (show -9223372036854775808≤(o:Int)+(w:Int)by omega) (by omega),if_neg (by omega),if_pos (by omega)]) ?_;rw[List.take_zero,List.append_nil]at hr;exact hr
  | d+1,i,acc,hi,ha,hr=>by
    have aa:i<m.length:=by omega
    have hb:=hm m[i] (yoy aa);have hg:=zCC m i aa;refine qU (fun k=>by rw[zg.l2,qZ (show -9223372036854775808≤(o:Int)+(w:Int)by omega) (by omega),if_pos (by omega),if_pos (by omega),if_pos (by omega),hg,if_pos hb.1,if_pos hb.2,if_pos (by omega),ZK (by omega)]) ?_;refine zGx hm hL hw ho x8 h8 d (i+1) _ (by omega) (by simp;omega) ?_;have e:((m.map (rd x6)).drop i).take (d+1)=rd x6 m[i] :: ((m.map (rd x6)).drop (i+1)).take d:=by
      rw[ypy (by simpa using aa),List.take_succ_cons,List.getElem_map]
    rw[e]at hr;rw[List.append_assoc];exact hr
theorem zGy {m:List Int} {w:Nat} {x6:List Int} {x7:Int} (hm : ∀ x∈m,0≤x∧x<x6.length) (hL:m.length≤1000000) (hw:w≤1000) (aa:0<w) :
    ∀ (q o:Nat) (x8:List (List Int)),o+w*q=m.length→x8.length+q≤1000000→Ev (fun k=>zg.l1 k m (w:Int) x6 x7 x8 (o:Int)) (x8++Qh w q ((m.map (rd x6)).drop o),x7)
  | 0,o,x8,ho,h8=>by
    refine qU (fun k=>by rw[zg.l1,if_neg (by omega)]) ?_;rw[Qh,List.append_nil];exact Ev.now _
  | q+1,o,x8,ho,h8=>by
    rw[Nat.mul_succ]at ho;refine qU (fun k=>by rw[zg.l1,if_pos (by omega)]) ?_;refine zGx hm hL hw (by omega) x8 (by omega) w o [] (by omega) (by simp) ?_;rw[List.nil_append];have:=zGy (x7:=x7) hm hL hw aa q (o+w) (x8 ++ [((m.map (rd x6)).drop o).take w]) (by omega) (by simp;omega);rw[Qh,List.drop_drop];rwa [List.append_assoc]at this
theorem zF3 {m:List Int} (w:Int) (hL:m.length≤1000000) {r:List (List Int) × Int} : ∀ (d i:Nat) (s:List Int × Int),i+d=m.length→s.1.length=m.length→0≤s.2→s.2≤i →
    Ev (fun k=>zg.l1 k m w (zFu m i d s).1 (zFu m i d s).2 [] 0) r→Ev (fun k=>zg.l0 k m w s.1 s.2 [] (i:Int)) r
  | 0,i,s,hi,hs,h0,h1,hr=>by
    refine qU (fun k=>by rw[zg.l0,if_neg (by omega)]) ?_;exact hr
  | d+1,i,s,hi,hs,h0,h1,hr=>by
    rw[zFu]at hr;by_cases e:rd m (i:Int)=(i:Int)
    (rw[if_pos e]at hr;refine qU (fun k=>by rw[zg.l0,if_pos (by omega),if_pos (by omega),if_pos e,if_pos (by omega),qZ (show -9223372036854775808≤s.2+1 by omega) (by omega),ZK (by omega),yny]) ?_;exact zF3 w hL d (i+1) (s.1.set i s.2,s.2+1) (by omega) (by simp [hs]) (by dsimp only;omega) (by dsimp only;omega) hr);(rw[if_neg e]at hr;refine qU (fun k=>by rw[zg.l0,if_pos (by omega),if_pos (by omega),if_neg e,ZK (by omega)]) ?_;exact zF3 w hL d (i+1) s (by omega) hs h0 (by omega) hr)
theorem zIJ {m:List Int} (h:Low m) : ∀ x∈m,0≤x∧x<m.length:=by
  intro x hx;obtain⟨i,hi,rfl⟩:=List.getElem_of_mem hx;obtain⟨q0,q1,_⟩:=h i hi;have hg:m.getD i 0=m[i]:=by simp [hi]
  rw[hg]at q0 q1;omega
theorem zF4 {m:List Int} (h:Low m) {w q:Nat} (hq:m.length=w*q) (aa:0<w) (hw:w≤1000) (hL:m.length≤1000000):Ev (fun k=>zg.f k m (w:Int)) (Qh w q (zED m),((roots m m.length).length:Int)):=by
  obtain⟨e1,e2⟩:=zHa h;have ab:q≤m.length:=by rw[hq];exact Nat.le_mul_of_pos_left q aa
  refine qu (by omega) (qu (by omega) ?_);rw[yny];refine zF3 (w:Int) hL m.length 0 (List.replicate m.length 0,0) (by omega) (by simp) (by dsimp only;omega) (by dsimp only;omega) ?_;have hlen:=zCN m m.length 0 (List.replicate m.length 0,0);rw[List.length_replicate]at hlen;have:=zGy (x7:=(zFu m 0 m.length (List.replicate m.length 0,0)).2) (x6:=(zFu m 0 m.length (List.replicate m.length 0,0)).1) (fun x hx=>by rw[hlen];exact zIJ h x hx) hL hw aa q 0 [] (by omega) (by simp;omega);rw[List.nil_append,List.drop_zero,e1,e2]at this;rw[e2];exact this
section
variable {t : Tri}
def Sk.low (s:Sk):Prop:=Low s.v∧Low s.e∧Low s.f
theorem zHv {j b p:Int} {n:Nat} (ad:0≤j) (ae:j<n) (af:0≤b) (ag:b<n) (aa:0≤p) (ab:p≤23) : ∀ (L s:List Int),(∀ c∈L,sm c)→Low s→s.length=4*n→Low (Ju j b (ZN p) L s)
  | [],s,_,hs,_=>hs
  | c :: cs,s,hc,hs,hl=>by
    rw[Ju];obtain⟨c0,c1⟩:=hc c (List.mem_cons_self ..);have hd:=Qa aa ab c0 c1;exact zHv ad ae af ag aa ab cs _ (fun x hx=>hc x (List.mem_cons_of_mem _ hx)) (zEx hs (by omega) (by omega) (by omega) (by omega)) (by rw[Qq];exact hl)
theorem zHw {j f b p:Int} {n:Nat} (ad:0≤j) (ae:j<n) (af:0≤b) (ag:b<n) (aa:0≤p) (ab:p≤23) : ∀ (L s:List Int),(∀ e∈L,0≤e∧e<6)→Low s→s.length=6*n→Low (zAT j f b (ZN p) L s)
  | [],s,_,hs,_=>hs
  | e :: es,s,he,hs,hl=>by
    rw[zAT];obtain⟨e0,e1⟩:=he e (List.mem_cons_self ..);obtain⟨sa,sb,ah⟩:=zGs e0 e1;obtain⟨_,k2,k3⟩:=zGt (Qa aa ab sa.1 sa.2) (Qa aa ab sb.1 sb.2) (zGw aa ab sa sb ah);refine zHw ad ae af ag aa ab es _ (fun x hx=>he x (List.mem_cons_of_mem _ hx)) ?_ ?_
    · split
      (exact hs);(exact zEx hs (by omega) (by omega) (by omega) (by omega))
    · split
      (exact hl)
      · rw[Qq];exact hl
theorem zFv (h:Zx t=true) {s:Sk} (ho:s.ok t.length) (hl:s.low) {j f:Nat} {x:zz} (hF:zB6 t j f x) (hb : ¬ x.f0<0):(zAE s j f x).low:=by
  obtain⟨h1,h2,b0,b1,p0,p1⟩:=zDi h hF hb;obtain⟨o1,o2,o3⟩:=ho;have hd:=Qa p0 p1 (show(0:Int)≤(f:Int)by omega) (by omega);refine⟨zHv (by omega) (by omega) b0 b1 p0 p1 _ _ (fun c hc=>(zEp hc).1) hl.1 o1,zHw (by omega) (by omega) b0 b1 p0 p1 _ _ (fun e he=>?_) hl.2.1 o2,zEx hl.2.2 (by omega) (by omega) (by omega) (by omega)⟩;have:=(zHr 0 e 6).1 he;omega
def sk0 (t:Tri):Sk:=⟨ZQ 0 (4*t.length),ZQ 0 (6*t.length),ZQ 0 (4*t.length)⟩
theorem zHx:(sk0 t).ok t.length:=⟨Zm _ _,Zm _ _,Zm _ _⟩
def Jc (t:Tri):Sk:=zB5 zAE t 0 (sk0 t)
theorem zAU (h:Zx t=true):(Jc t).ok t.length∧(Jc t).low:=by
  have:=zEP (t:=t) (σ:=Sk) (τ:=Sk) (Rel:=fun a _=>a.ok t.length∧a.low) (s1:=zAE) (s2:=zAE) (fun a b j f x hF hb hr=>⟨zEM hr.1 _ _ _,zFv h hr.1 hr.2 hF hb⟩) (sk0 t) (sk0 t) ⟨zHx,zGq _,zGq _,zGq _⟩;exact this
def Qb (t:Tri):List Int:=zED (Jc t).v
def zBs (t:Tri):Int:=((roots (Jc t).v (Jc t).v.length).length:Int)
def zEQ (t:Tri):(List (List Int)) × (List (List Int)) × (List (List Int)) × List Int:=
  (Qh 4 t.length (Qb t),Qh 6 t.length (zED (Jc t).e),Qh 4 t.length (zED (Jc t).f),[zBs t,((roots (Jc t).e (Jc t).e.length).length:Int),((roots (Jc t).f (Jc t).f.length).length:Int),(t.length:Int)])
theorem zGz (h:Zx t=true) {r:(List (List Int)) × (List (List Int)) × (List (List Int)) × List Int} :
    ∀ (d j:Nat) (s:Sk),j+d=t.length→s.ok t.length→(∀ s' : Sk,s' = zB5 zAE (t.drop j) j s→Ev (fun k=>zS.l0 k (t.length:Int) s'.v s'.e s'.f (t.length:Int) t) r) →
      Ev (fun k=>zS.l0 k (t.length:Int) s.v s.e s.f (j:Int) t) r
  | 0,j,s,hj,hs,hr=>by
    obtain rfl:j=t.length:=by omega
    exact hr s (by rw[List.drop_length];rfl)
  | d+1,j,s,hj,hs,hr=>by
    have aa:j<t.length:=by omega
    rw[ypy aa,zB5]at hr;refine qU (fun k=>by rw[zS.l0,if_pos (by omega)]) ?_;refine zF2 h j aa 4 0 s (by omega) hs (fun s' ab he=>?_);rw[List.drop_zero]at he;subst he;exact zGz h d (j+1) _ (by omega) ab hr
theorem zDj (h:Zx t=true):Ev (fun k=>zS.f k t) (zEQ t):=by
  have h8:=(qn h).1;obtain⟨⟨o1,o2,o3⟩,w1,w2,w3⟩:=zAU h;refine Ev.bind (Qp (by unfold zo.f;rfl)) ?_;have e4:wrap64 (4*(t.length:Int))=((4*t.length:Nat):Int):=by rw[qZ (by omega) (by omega)];push_cast;rfl
  have e6:wrap64 (6*(t.length:Int))=((6*t.length:Nat):Int):=by rw[qZ (by omega) (by omega)];push_cast;rfl
  refine Ev.congr (fun k=>by rw[e4,e6]) ?_;refine Ev.bind (zDh (4*t.length) (by omega)) (Ev.bind (zDh (6*t.length) (by omega)) (Ev.bind (zDh (4*t.length) (by omega)) ?_));refine zGz h t.length 0 (sk0 t) (by omega) zHx (fun s' aa=>?_);rw[List.drop_zero]at aa;subst aa;refine qU (fun k=>by rw[zS.l0,if_neg (by omega)]) ?_;refine Ev.bind (Ev.now _) ?_;refine Ev.bind (zF4 (m:=(Jc t).v) (w:=4) (q:=t.length) w1 o1 (by omega) (by omega) (by omega)) ?_;refine qu (by simp) ?_;refine Ev.bind (zF4 (m:=(Jc t).e) (w:=6) (q:=t.length) w2 o2 (by omega) (by omega) (by omega)) ?_;refine qu (by simp) ?_;refine Ev.bind (zF4 (m:=(Jc t).f) (w:=4) (q:=t.length) w3 o3 (by omega) (by omega) (by omega)) ?_;refine qu (by simp) ?_;exact Ev.now _
theorem zER {j b p:Int} {n:Nat} (ad:0≤j) (ae:j<n) (af:0≤b) (ag:b<n) (aa:0≤p) (ab:p≤23) : ∀ (L a s:List Int),(∀ c∈L,sm c)→Ker a s→a.length=4*n→(∀ x∈a,0≤x∧x<4*(n:Int)) →
    Ker (Ja j b (ZN p) L a) (Ju j b (ZN p) L s)∧(∀ x∈Ja j b (ZN p) L a,0≤x∧x<4*(n:Int))
  | [],a,s,_,hk,_,hr=>⟨hk,hr⟩
  | c :: cs,a,s,hc,hk,hl,hr=>by
    rw[Ja,Ju];obtain⟨c0,c1⟩:=hc c (List.mem_cons_self ..);have hd:=Qa aa ab c0 c1;have i0:0≤4*j+c:=by omega
    have i1:4*j+c<a.length:=by omega
    have k0:0≤4*b+rd (ZN p) c:=by omega
    have k1:4*b+rd (ZN p) c<a.length:=by omega
    refine zER ad ae af ag aa ab cs _ _ (fun x hx=>hc x (List.mem_cons_of_mem _ hx)) (hk.zIA i0 i1 k0 k1) (by rw[zA1];exact hl) (fun x hx=>?_);unfold uni at hx;obtain⟨y,hy,rfl⟩:=List.mem_map.1 hx;split
    (refine hr _ ?_;obtain⟨m,hm⟩:=Int.eq_ofNat_of_zero_le i0;rw[hm,zCC a m (by omega)];exact yoy _);(exact hr y hy)
theorem vc_ker (h:Zx t=true):Ker (zBm t) (Jc t).v∧(zBm t).length=4*t.length∧(∀ x∈zBm t,0≤x∧x<4*(t.length:Int)):=by
  refine zEP (t:=t) (σ:=List Int) (τ:=Sk) (Rel:=fun a b=>Ker a b.v∧a.length=4*t.length∧(∀ x∈a,0≤x∧x<4*(t.length:Int))) (s1:=zBh) (s2:=zAE) (fun a b j f x hF hb hr=>?_) (ZQ 0 (4*t.length)) (sk0 t) ⟨Ker.refl _,Zm _ _,fun x hx=>by have:=(zHr 0 x _).1 hx;push_cast at this;omega⟩;obtain⟨h1,h2,b0,b1,p0,p1⟩:=zDi h hF hb;obtain⟨q1,q2⟩:=zER (n:=t.length) (show(0:Int)≤(j:Int)by omega) (by omega) b0 b1 p0 p1 (zCS [(f:Int)]) a b.v (fun c hc=>(zEp hc).1) hr.1 hr.2.1 hr.2.2;exact⟨q1,by unfold zBh;rw[zAe];exact hr.2.1,q2⟩
theorem zFw (h:Zx t=true):qF.f t=some (Qb t):=by
  have h8:=(qn h).1;obtain⟨hk,hl,hr⟩:=vc_ker h;have h1:zEo (zBm t)=true:=by
    unfold zEo;rw[Bool.and_eq_true,decide_eq_true_eq,List.all_eq_true];exact⟨by omega,fun x hx=>ygy (by have:=hr x hx;omega)⟩
  unfold qF.f;rw[if_pos ⟨zGv h,h1⟩,hk.zED];rfl
theorem JR (h:Zx t=true):(Qb t).length=4*t.length:=by
  unfold Qb;rw[zEn];exact(zAU h).1.1
theorem zCO (m:List Int) : ∀ i:Nat,(roots m i).length≤i
  | 0=>yry _
  | i+1=>by
    have:=zCO m i;rw[roots];split
    · simp;omega
    (omega)
theorem zBX (h:Zx t=true):0≤zBs t∧zBs t≤32:=by
  have h8:=(qn h).1;have:=zCO (Jc t).v (Jc t).v.length;have:=(zAU h).1.1;unfold zBs;omega
theorem zDk (h:Zx t=true):ZR.f (Qb t)=some (zBs t):=by
  have hb:=zBX h;have hl:=JR h;unfold ZR.f;by_cases h0:t.length=0
  · rw[if_pos (by omega)]
    have:=(zAU h).1.1;have:=zCO (Jc t).v (Jc t).v.length;unfold zBs at hb ⊢;congr 1;omega
  · rw[if_neg (by omega)]
    obtain⟨x,xs,e1,e2⟩:=zHb (zAU h).2.1 (by have:=(zAU h).1.1;omega);have e3:Qb t=x :: xs:=e1;rw[e3];unfold QB.f;rw[yfy,e2];unfold zBs at hb ⊢;rw[qZ (by omega) (by omega)];congr 1;omega
end
section
variable {t : Tri}
theorem zIK (h:Zx t=true) {a x:Nat} (ha:a<t.length) (hx:x<4):rd (zd (Qh 4 t.length (Qb t)) (a:Int)) (x:Int)=rd (Qb t) ((4*a+x:Nat):Int)∧(zd (Qh 4 t.length (Qb t)) (a:Int)).length=4:=by
  have hl:=JR h;have hg:=zD3 4 t.length (Qb t) a ha;have e:zd (Qh 4 t.length (Qb t)) (a:Int)=((Qb t).drop (4*a)).take 4:=by
    simp [zd,List.getD_eq_getElem?_getD,hg]
  rw[e];refine⟨?_,by rw[ymy,yly];omega⟩;rw[zBA,zBA];simp only [List.getD_eq_getElem?_getD];rw[List.getElem?_take,if_pos hx,List.getElem?_drop]
end
end Go.Proofs.Ytbahbnhfhddlbaa.P
