/- The statement FnExactLinkKindSaid, proved: part 5 of 9 (texts of this session and of the kit's print, put together and cut to what is used by a program of it). -/
import Derived.Test.YtembbpalgfikiaaMFnExactLinkKind4
namespace Go.Proofs.Ytembbpalgfikiaa.P
open Go.RowKit Go.Proofs.YtembbpalgfikiaaW.PrintWords Go.Proofs.YtembbpalgfikiaaW.PrintLast Go.Proofs.YtembbpalgfikiaaW.PrintMore
attribute [local go_sem] Ji Jj zAU zAV JK JL Jk Jl
set_option linter.unusedVariables false
set_option linter.unusedSimpArgs false
def qb.f (l0_0:List (List (zv))):Option (Int):=some (l0_0.length:Int)
set_option maxHeartbeats 8000000 in
set_option maxRecDepth 100000 in
theorem qb.calls (ad:Option Addr) (ae:Nat) (aa:List (List (zv))) (r:Int) (w:World) (af:Kd.C (Kd.slice 75 ZZ) w ad aa.length aa) (ag:aa.length≤ae) (h:qb.f aa=some r) :
    Calls Try.prog 66 #[.agg #[.slice ad aa.length ae]] w fun e w'=>e = .returned (.int .i64 r)∧Below w.heap.size w w':=by
  have aw:=Try.underlying35
  have al:=zA.mk af
  have an:=zA.mk ag
  clear af ag;have HB:=zA.mk (ysy w.heap.size w)
  have H:(some (aa.length:Int))=some r:=h
  clear h;obtain rfl:=yey H
  go_enter Try.func66,Try.ntmps66
  go_wp2_with (first|((with_reducible refine zw (N:=1) rfl ?_);refine zz ?hg (N:=1) ?hd (cs:=#[.slice ad aa.length ae]) (t:=35) ?hr ?_;(case hd=>rfl);(case hg=>rfl);(case hr=>first|(go_simp;done)|(go_simp;rfl));intro ab hg w2 hbox hb;have ao:=zA.mk (zM (by repeat(first|(with_reducible first|exact HB.out|apply zC|apply zB|apply zD)|exact HB.out)) hb);have aq:=zA.mk (hbox);have ar:=zA.mk ((by rw[hg];exact(zQ (by repeat(first|(with_reducible first|exact HB.out|apply zC|apply zB|apply zD)|exact HB.out))):w.heap.size≤ab));have au:=zA.mk ((by rw[hg];exact(zQ (by repeat(first|(with_reducible first|exact HB.out|apply zC|apply zB|apply zD)|exact HB.out))):w.heap.size≤ab));clear HB;have HB:=ao;have ah:=aq;have av:=ar;have ai:=au;clear ao aq ar au;clear hb hbox hg;have aj:w2.cell? ⟨ab,0,none⟩=some (.slice ad aa.length ae):=(zK ah.out 0).trans rfl;have ak:=zP ah.out 0))
  go_ret;exact⟨by first|rfl|(simp [zU,zV] <;> rfl)|(simp [*,zU,zV] <;> rfl),by repeat(first|(with_reducible first|exact HB.out|apply zC|apply zB|apply zD|refine zF ?_ ai.out)|exact HB.out)⟩
section
attribute [local go_sem high] eqA75
mutual
def zN.l0:Nat→Int→List (List (zv))→Option (Bool)
 | 0,_,_=>none
 | k+1,x3,x102000=>if x3<(x102000.length:Int)then(if 0≤x3 then(if((zE x102000 x3).length:Int)=4 then(zN.l0 k (wrap64 (x3+1)) x102000)else(some false))else(none))else(zN.l1 k 0 x102000)
def zN.l1:Nat→Int→List (List (zv))→Option (Bool)
 | 0,_,_=>none
 | k+1,x4,x102000=>(qb.f x102000).bind fun t104=>(if x4<t104 then(zN.l2 k x4 0 x102000)else(some true))
def zN.l2:Nat→Int→Int→List (List (zv))→Option (Bool)
 | 0,_,_,_=>none
 | k+1,x4,x5,x102000=>if x5<4 then(if 0≤x4 then(if x4<(x102000.length:Int)then(if 0≤x5 then(if x5<((zE x102000 x4).length:Int)then(if((zI (zE x102000 x4) x5).f0)=(-1)then(zN.j3 k x4 x5 (((zI (zE x102000 x4) x5).f1)==0) x102000 ((zI (zE x102000 x4) x5).f0) ((zI (zE x102000 x4) x5).f1))else(zN.j3 k x4 x5 false x102000 ((zI (zE x102000 x4) x5).f0) ((zI (zE x102000 x4) x5).f1)))else(none))else(none))else(none))else(none))else(zN.l1 k (wrap64 (x4+1)) x102000)
def zN.j3:Nat→Int→Int→Bool→List (List (zv))→Int→Int→Option (Bool)
 | 0,_,_,_,_,_,_=>none
 | k+1,x4,x5,x51,x102000,x108000,x108001=>if x51=true then(zN.l2 k x4 (wrap64 (x5+1)) x102000)else((qb.f x102000).bind fun t108=>((Qg.f x108000 0 (wrap64 (t108-1))).bind fun t109=>(if t109=true then((qp.f x108001).bind fun t110=>(zN.j4 k x4 x5 (!t110) x102000 x108000 x108001))else(zN.j4 k x4 x5 true x102000 x108000 x108001))))
def zN.j4:Nat→Int→Int→Bool→List (List (zv))→Int→Int→Option (Bool)
 | 0,_,_,_,_,_,_=>none
 | k+1,x4,x5,x64,x102000,x108000,x108001=>if x64=true then(some false)else((qi.f k x108001 x5).bind fun t111=>((qM.f k x108001).bind fun t112=>(if 0≤x108000 then(if x108000<(x102000.length:Int)then(if 0≤t111 then(if t111<((zE x102000 x108000).length:Int)then(if(!(((zI (zE x102000 x108000) t111).f0)==x4)||(!(((zI (zE x102000 x108000) t111).f1)==t112)))=true then(some false)else(if x108000=x4 then(if t111=x5 then(some false)else(zN.l2 k x4 (wrap64 (x5+1)) x102000))else(zN.l2 k x4 (wrap64 (x5+1)) x102000)))else(none))else(none))else(none))else(none))))
end
def zN.f (k:Nat) (l0_0:List (List (zv))):Option (Bool):=(qb.f l0_0).bind fun t102=>(if t102>8 then(some false)else(zN.l0 k 0 l0_0))
def zN.T16:Bool × List (List Nat × List Nat):=(true,[([],[]),([0],[0]),([],[]),([2],[2]),([3],[3]),([1,4,3],[1,4]),([5],[5]),([6,5],[6]),([7],[7]),([8,7],[7,8]),([9,7,7],[7,9]),([10,7],[7,10]),([7,11],[7,11])])
def zN.B16:List Nat := [0,1,0,4,12,31,63,127,255,511,1023,2047,4095]
theorem zN.tab16:Jg .any (opsOf Try.f47 16)=zN.T16:=by kernel_rfl
theorem zN.zII:QK zN.T16.2 zN.B16=true:=by kernel_rfl
set_option maxHeartbeats 8000000 in
set_option maxRecDepth 100000 in
theorem zN.calls (k:Nat) (aM:Option Addr) (an:Nat) (aa:List (List (zv))) (r:Bool) (w:World) (cx:Kd.C (Kd.slice 75 ZZ) w aM aa.length aa) (cy:aa.length≤an) (h:zN.f k aa=some r) :
 Calls Try.prog 47 #[.agg #[.slice aM aa.length an]] w fun e w'=>e = .returned (.bool r)∧Below w.heap.size w w':=by
 have fg:=Try.underlying35
 have fh:=Try.underlying75
 have aN:=zA.mk cx
 have bl:=zA.mk cy
 clear cx cy;have HB:=zA.mk (ysy w.heap.size w)
 have H:((qb.f aa).bind fun t102=>(if t102>8 then(some false)else(zN.l0 k 0 aa)))=some r:=h
 clear h;replace H:=ydy.mp H
 obtain⟨t102,ew,H⟩:=H
 replace H:(if t102>8 then(some false)else(zN.l0 k 0 aa))=some r:=H
 have A2:=zA.mk ew
 clear ew;by_cases c3:t102>8
 next=>
  rw[if_pos c3]at H
  have b5:decide (8<t102)=true:=ygy c3
  clear c3;obtain rfl:=yey H
  go_enter Try.func47,Try.ntmps47
  go_wp2_with (first|((with_reducible refine zw (N:=1) rfl ?_);refine zz ?hg (N:=1) ?hd (cs:=#[.slice aM aa.length an]) (t:=35) ?hr ?_;(case hd=>rfl);(case hg=>rfl);(case hr=>first|(go_simp;done)|(go_simp;rfl));intro ai hg w4 hbox hb;have ax:=zA.mk (zM (by repeat(first|(with_reducible first|exact HB.out|apply zC|apply zB|apply zD)|exact HB.out)) hb);have ay:=zA.mk (hbox);have az:=zA.mk ((by rw[hg];exact(zQ (by repeat(first|(with_reducible first|exact HB.out|apply zC|apply zB|apply zD)|exact HB.out))):w.heap.size≤ai));have aL:=zA.mk ((by rw[hg];exact(zQ (by repeat(first|(with_reducible first|exact HB.out|apply zC|apply zB|apply zD)|exact HB.out))):w.heap.size≤ai));clear HB;have HB:=ax;have af:=ay;have cW:=az;have aj:=aL;clear ax ay az aL;clear hb hbox hg;have bb:w4.cell? ⟨ai,0,none⟩=some (.slice aM aa.length an):=(zK af.out 0).trans rfl;have bc:=zP af.out 0)|((with_reducible refine zd (f:=66) rfl ?_);refine qV (some 10) rfl rfl Try.func66 (by kernel_rfl) rfl #[.agg #[.slice aM aa.length an]] rfl (by(try simp only [yiy,yjy,yky]);first|done|rfl|(simp only [yly,ymy];rfl)) ?_;(with_reducible refine(qb.calls _ _ aa t102 _ ?side1 ?side2 A2.out).mono ?_);(case side1=>repeat(first|exact(Kd.qD aN.out HB.out)|(with_reducible refine Kd.zy ?_ _)|(with_reducible refine Kd.qA ?_ _)|(with_reducible refine Kd.qR ?_)));(case side2=>exact bl.out);rintro e w6 ⟨rfl,hb⟩;refine⟨_,rfl,?_⟩;have ax:=zA.mk (zO (g:=ai) (o := .cells #[.slice aM aa.length an] 35 (0,0)) (by(with_reducible repeat(first|refine zH ?_ _|refine zJ ?_|refine zG ?_ _));exact af.out) hb);have ay:=zA.mk (zM (by repeat(first|(with_reducible first|exact HB.out|apply zC|apply zB|apply zD|refine zF ?_ aj.out)|exact HB.out)) hb);clear af;clear HB;have af:=ax;have HB:=ay;clear ax ay;(try clear hb);(try clear hb2);(try clear hk);(try clear hi)))
  go_ret;exact⟨by first|rfl|(simp [zU,zV] <;> rfl)|(simp [*,zU,zV] <;> rfl),by repeat(first|(with_reducible first|exact HB.out|apply zC|apply zB|apply zD|refine zF ?_ aj.out)|exact HB.out)⟩
 rw[if_neg c3]at H
 have b5:decide (8<t102)=false:=yhy c3
 clear c3;have H':=zA.mk H
 clear H;go_enter Try.func47,Try.ntmps47
 go_wp2_with (first|((with_reducible refine zw (N:=1) rfl ?_);refine zz ?hg (N:=1) ?hd (cs:=#[.slice aM aa.length an]) (t:=35) ?hr ?_;(case hd=>rfl);(case hg=>rfl);(case hr=>first|(go_simp;done)|(go_simp;rfl));intro ai hg w7 hbox hb;have ax:=zA.mk (zM (by repeat(first|(with_reducible first|exact HB.out|apply zC|apply zB|apply zD)|exact HB.out)) hb);have ay:=zA.mk (hbox);have az:=zA.mk ((by rw[hg];exact(zQ (by repeat(first|(with_reducible first|exact HB.out|apply zC|apply zB|apply zD)|exact HB.out))):w.heap.size≤ai));have aL:=zA.mk ((by rw[hg];exact(zQ (by repeat(first|(with_reducible first|exact HB.out|apply zC|apply zB|apply zD)|exact HB.out))):w.heap.size≤ai));clear HB;have HB:=ax;have af:=ay;have cW:=az;have aj:=aL;clear ax ay az aL;clear hb hbox hg;have bd:w7.cell? ⟨ai,0,none⟩=some (.slice aM aa.length an):=(zK af.out 0).trans rfl;have bf:=zP af.out 0)|((with_reducible refine zd (f:=66) rfl ?_);refine qV (some 10) rfl rfl Try.func66 (by kernel_rfl) rfl #[.agg #[.slice aM aa.length an]] rfl (by(try simp only [yiy,yjy,yky]);first|done|rfl|(simp only [yly,ymy];rfl)) ?_;(with_reducible refine(qb.calls _ _ aa t102 _ ?side1 ?side2 A2.out).mono ?_);(case side1=>repeat(first|exact(Kd.qD aN.out HB.out)|(with_reducible refine Kd.zy ?_ _)|(with_reducible refine Kd.qA ?_ _)|(with_reducible refine Kd.qR ?_)));(case side2=>exact bl.out);rintro e w9 ⟨rfl,hb⟩;refine⟨_,rfl,?_⟩;have ax:=zA.mk (zO (g:=ai) (o := .cells #[.slice aM aa.length an] 35 (0,0)) (by(with_reducible repeat(first|refine zH ?_ _|refine zJ ?_|refine zG ?_ _));exact af.out) hb);have ay:=zA.mk (zM (by repeat(first|(with_reducible first|exact HB.out|apply zC|apply zB|apply zD|refine zF ?_ aj.out)|exact HB.out)) hb);clear af;clear HB;have af:=ax;have HB:=ay;clear ax ay;(try clear hb);(try clear hb2);(try clear hk);(try clear hi)))
 go_loopg [3] k (fun kq v3 w' => ∃ (aO:Int),v3 = .int .i64 aO∧zA (zN.l0 kq aO aa=some r)∧zA (kq≤k)∧zA (w'.heap[ai]?=some (.cells #[(.slice aM aa.length an)] 35 (0,0)))∧zA (Below w.heap.size w w'))
 case atStart=>exact⟨(0),(by first|rfl|(simp;done)|(simp [*];done)),H',⟨yry _⟩,⟨by(with_reducible repeat(first|refine zH ?_ _|refine zJ ?_|refine zG ?_ _));exact af.out⟩,⟨by repeat(first|(with_reducible first|exact HB.out|apply zC|apply zB|apply zD|refine zF ?_ aj.out)|exact HB.out)⟩⟩
 case round=>
  clear H';(try clear p2);(try clear c3);(try clear b5);(try clear c4);(try clear c6);(try clear bb);(try clear bd);(try clear bc);(try clear bf);obtain⟨aO,rfl,HA,bJ,af,HB⟩:=hrel
  cases gk with
  | zero=>exact absurd HA.out (by simp [zN.l0])
  | succ k1=>
   have H:=HA.out
   clear HA;simp only [zN.l0]at H
   by_cases ck:aO<(aa.length:Int)
   next=>
    rw[if_pos ck]at H
    have br:decide (aO<(aa.length:Int))=true:=ygy ck
    clear ck;by_cases cz:0≤aO
    case neg=>
     rw[if_neg cz]at H
     exact absurd H (by simp)
    rw[if_pos cz]at H
    have bK:decide (0≤aO)=true:=ygy cz
    clear cz;by_cases b8:((zE aa aO).length:Int)=4
    case neg=>
     rw[if_neg b8]at H
     have bs:(((zE aa aO).length:Int)==4)=false:=beq_eq_false_iff_ne.mpr b8
     have bt:(((zE aa aO).length:Int) != 4)=true:=bne_iff_ne.mpr b8
     obtain rfl:=yey H
     have a5:wr.cell? ⟨ai,0,none⟩=some (.slice aM aa.length an):=(zK af.out 0).trans rfl
     have a6:=zP af.out 0
     have bg:0≤(aO:Int):=of_decide_eq_true (by first|(with_reducible assumption)|assumption)
     have bh:aO<(aa.length:Int):=of_decide_eq_true (by first|(with_reducible assumption)|assumption)
     obtain⟨cX,cF,cG,cH,aB,aX,aY⟩:=ZY aN.out aO bg bh
     cases cH
     replace aB:=(HB.out.cell (yqy w _ aB)).trans aB
     have cl:=zA.mk aY
     have cm:=zA.mk aX
     clear aY aX;replace bg:=eq_true bg
     replace bh:=eq_true bh
     go_wp2;go_ret;exact⟨by first|rfl|(simp [zU,zV] <;> rfl)|(simp [*,zU,zV] <;> rfl),by repeat(first|(with_reducible first|exact HB.out|apply zC|apply zB|apply zD|refine zF ?_ aj.out)|exact HB.out)⟩
    rw[if_pos b8]at H
    have bs:(((zE aa aO).length:Int)==4)=true:=beq_iff_eq.mpr b8
    have bt:(((zE aa aO).length:Int) != 4)=false:=bne_eq_false_iff_eq.mpr b8
    clear b8;have H':=zA.mk H
    clear H;have a7:wr.cell? ⟨ai,0,none⟩=some (.slice aM aa.length an):=(zK af.out 0).trans rfl
    have a8:=zP af.out 0
    have bg:0≤(aO:Int):=of_decide_eq_true (by first|(with_reducible assumption)|assumption)
    have bh:aO<(aa.length:Int):=of_decide_eq_true (by first|(with_reducible assumption)|assumption)
    obtain⟨cX,cF,cG,cH,aB,aX,aY⟩:=ZY aN.out aO bg bh
    cases cH
    replace aB:=(HB.out.cell (yqy w _ aB)).trans aB
    have cl:=zA.mk aY
    have cm:=zA.mk aX
    clear aY aX;replace bg:=eq_true bg
    replace bh:=eq_true bh
    go_wp2;go_roundg k1
    case measure=>have:=bJ.out;omega
    case rel=>exact⟨(wrap64 (aO+1)),(by first|rfl|(simp;done)|(simp [*];done)),H',⟨by have:=bJ.out;omega⟩,⟨by(with_reducible repeat(first|refine zH ?_ _|refine zJ ?_|refine zG ?_ _));exact af.out⟩,⟨by repeat(first|(with_reducible first|exact HB.out|apply zC|apply zB|apply zD|refine zF ?_ aj.out)|exact HB.out)⟩⟩
   rw[if_neg ck]at H
   have br:decide (aO<(aa.length:Int))=false:=yhy ck
   clear ck;have H':=zA.mk H
   clear H;have a_:wr.cell? ⟨ai,0,none⟩=some (.slice aM aa.length an):=(zK af.out 0).trans rfl
   have ba:=zP af.out 0
   go_wp2;go_loopg [4] k1 (fun kq v4 w' => ∃ (ab:Int),v4 = .int .i64 ab∧zA (zN.l1 kq ab aa=some r)∧zA (kq≤k1)∧zA (w'.heap[ai]?=some (.cells #[(.slice aM aa.length an)] 35 (0,0)))∧zA (Below w.heap.size w w'))
   case atStart=>exact⟨(0),(by first|rfl|(simp;done)|(simp [*];done)),H',⟨yry _⟩,⟨by(with_reducible repeat(first|refine zH ?_ _|refine zJ ?_|refine zG ?_ _));exact af.out⟩,⟨by repeat(first|(with_reducible first|exact HB.out|apply zC|apply zB|apply zD|refine zF ?_ aj.out)|exact HB.out)⟩⟩
   case round=>
    clear H';(try clear c1);(try clear p1);(try clear q1);(try clear hx1);(try clear p2);(try clear c3);(try clear b5);(try clear c4);(try clear c6);(try clear p6);(try clear ck);(try clear br);(try clear p10);(try clear q10);(try clear hx10);(try clear cz);(try clear bK);(try clear b8);(try clear bs);(try clear bt);(try clear a7);(try clear a5);(try clear a_);(try clear bb);(try clear bd);(try clear a8);(try clear a6);(try clear ba);(try clear bc);(try clear bf);(try clear aB);(try clear bg);(try clear p2);(try clear bh);obtain⟨ab,rfl,HA,b6,af,HB⟩:=hrel
    cases gk with
    | zero=>exact absurd HA.out (by simp [zN.l1])
    | succ k2=>
     have H:=HA.out
     clear HA;simp only [zN.l1]at H
     replace H:=ydy.mp H
     obtain⟨t104,cY,H⟩:=H
     replace H:(if ab<t104 then(zN.l2 k2 ab 0 aa)else(some true))=some r:=H
     have ey:=zA.mk cY
     clear cY;by_cases cn:ab<t104
     case neg=>
      rw[if_neg cn]at H
      have bL:decide (ab<t104)=false:=yhy cn
      clear cn;obtain rfl:=yey H
      have dg:wr.cell? ⟨ai,0,none⟩=some (.slice aM aa.length an):=(zK af.out 0).trans rfl
      have dh:=zP af.out 0
      go_wp2_with (first|((with_reducible refine zd (f:=66) rfl ?_);refine qV (some 28) rfl rfl Try.func66 (by kernel_rfl) rfl #[.agg #[.slice aM aa.length an]] rfl (by(try simp only [yiy,yjy,yky]);first|done|rfl|(simp only [yly,ymy];rfl)) ?_;(with_reducible refine(qb.calls _ _ aa t104 _ ?side1 ?side2 ey.out).mono ?_);(case side1=>repeat(first|exact(Kd.qD aN.out HB.out)|(with_reducible refine Kd.zy ?_ _)|(with_reducible refine Kd.qA ?_ _)|(with_reducible refine Kd.qR ?_)));(case side2=>exact bl.out);rintro e fi ⟨rfl,hb⟩;refine⟨_,rfl,?_⟩;have ax:=zA.mk (zO (g:=ai) (o := .cells #[.slice aM aa.length an] 35 (0,0)) (by(with_reducible repeat(first|refine zH ?_ _|refine zJ ?_|refine zG ?_ _));exact af.out) hb);have ay:=zA.mk (zM (by repeat(first|(with_reducible first|exact HB.out|apply zC|apply zB|apply zD|refine zF ?_ aj.out)|exact HB.out)) hb);clear af;clear HB;have af:=ax;have HB:=ay;clear ax ay;(try clear hb);(try clear hb2);(try clear hk);(try clear hi)))
      go_ret;exact⟨by first|rfl|(simp [zU,zV] <;> rfl)|(simp [*,zU,zV] <;> rfl),by repeat(first|(with_reducible first|exact HB.out|apply zC|apply zB|apply zD|refine zF ?_ aj.out)|exact HB.out)⟩
     rw[if_pos cn]at H
     have bL:decide (ab<t104)=true:=ygy cn
     clear cn;have H':=zA.mk H
     clear H;have bm:wr.cell? ⟨ai,0,none⟩=some (.slice aM aa.length an):=(zK af.out 0).trans rfl
     have bn:=zP af.out 0
     go_wp2_with (first|((with_reducible refine zd (f:=66) rfl ?_);refine qV (some 28) rfl rfl Try.func66 (by kernel_rfl) rfl #[.agg #[.slice aM aa.length an]] rfl (by(try simp only [yiy,yjy,yky]);first|done|rfl|(simp only [yly,ymy];rfl)) ?_;(with_reducible refine(qb.calls _ _ aa t104 _ ?side1 ?side2 ey.out).mono ?_);(case side1=>repeat(first|exact(Kd.qD aN.out HB.out)|(with_reducible refine Kd.zy ?_ _)|(with_reducible refine Kd.qA ?_ _)|(with_reducible refine Kd.qR ?_)));(case side2=>exact bl.out);rintro e fl ⟨rfl,hb⟩;refine⟨_,rfl,?_⟩;have ax:=zA.mk (zO (g:=ai) (o := .cells #[.slice aM aa.length an] 35 (0,0)) (by(with_reducible repeat(first|refine zH ?_ _|refine zJ ?_|refine zG ?_ _));exact af.out) hb);have ay:=zA.mk (zM (by repeat(first|(with_reducible first|exact HB.out|apply zC|apply zB|apply zD|refine zF ?_ aj.out)|exact HB.out)) hb);clear af;clear HB;have af:=ax;have HB:=ay;clear ax ay;(try clear hb);(try clear hb2);(try clear hk);(try clear hi)))
     go_loopg [5] k2 (fun kq v5 w' => ∃ (ad:Int),v5 = .int .i64 ad∧zA (zN.l2 kq ab ad aa=some r)∧zA (kq≤k2)∧zA (w'.heap[ai]?=some (.cells #[(.slice aM aa.length an)] 35 (0,0)))∧zA (Below w.heap.size w w'))
     case atStart=>exact⟨(0),(by first|rfl|(simp;done)|(simp [*];done)),H',⟨yry _⟩,⟨by(with_reducible repeat(first|refine zH ?_ _|refine zJ ?_|refine zG ?_ _));exact af.out⟩,⟨by repeat(first|(with_reducible first|exact HB.out|apply zC|apply zB|apply zD|refine zF ?_ aj.out)|exact HB.out)⟩⟩
     case round=>
      clear H';(try clear c1);(try clear p1);(try clear q1);(try clear hx1);(try clear p2);(try clear c3);(try clear b5);(try clear c4);(try clear c6);(try clear p6);(try clear ck);(try clear br);(try clear p10);(try clear q10);(try clear hx10);(try clear cz);(try clear bK);(try clear b8);(try clear bs);(try clear bt);(try clear cn);(try clear bL);(try clear a7);(try clear a5);(try clear a_);(try clear bm);(try clear bb);(try clear bd);(try clear a8);(try clear a6);(try clear ba);(try clear bn);(try clear bc);(try clear bf);(try clear aB);(try clear p1);(try clear p10);(try clear bg);(try clear p2);(try clear p6);(try clear q1);(try clear q10);(try clear bh);obtain⟨ad,rfl,HA,b7,af,HB⟩:=hrel
      cases gk with
      | zero=>exact absurd HA.out (by simp [zN.l2])
      | succ k3=>
       have H:=HA.out
       clear HA;simp only [zN.l2]at H
       by_cases cA:ad<4
       case neg=>
        rw[if_neg cA]at H
        have b9:decide (ad<4)=false:=yhy cA
        clear cA;have H':=zA.mk H
        clear H;go_wp2;go_roundg k3
        case measure=>have:=bJ.out;have:=b6.out;have:=b7.out;omega
        case rel=>exact⟨(wrap64 (ab+1)),(by first|rfl|(simp;done)|(simp [*];done)),H',⟨by have:=bJ.out;have:=b6.out;have:=b7.out;omega⟩,⟨by(with_reducible repeat(first|refine zH ?_ _|refine zJ ?_|refine zG ?_ _));exact af.out⟩,⟨by repeat(first|(with_reducible first|exact HB.out|apply zC|apply zB|apply zD|refine zF ?_ aj.out)|exact HB.out)⟩⟩
       rw[if_pos cA]at H
       have b9:decide (ad<4)=true:=ygy cA
       clear cA;by_cases cQ:0≤ab
       case neg=>
        rw[if_neg cQ]at H
        exact absurd H (by simp)
       rw[if_pos cQ]at H
       have cB:decide (0≤ab)=true:=ygy cQ
       clear cQ;by_cases cR:ab<(aa.length:Int)
       case neg=>
        rw[if_neg cR]at H
        exact absurd H (by simp)
       rw[if_pos cR]at H
       have cC:decide (ab<(aa.length:Int))=true:=ygy cR
       clear cR;by_cases cS:0≤ad
       case neg=>
        rw[if_neg cS]at H
        exact absurd H (by simp)
       rw[if_pos cS]at H
       have cD:decide (0≤ad)=true:=ygy cS
       clear cS;by_cases cT:ad<((zE aa ab).length:Int)
       case neg=>
        rw[if_neg cT]at H
        exact absurd H (by simp)
       rw[if_pos cT]at H
       have cE:decide (ad<((zE aa ab).length:Int))=true:=ygy cT
       clear cT;have cI:=zA.mk H
       clear H;have bM:wr.cell? ⟨ai,0,none⟩=some (.slice aM aa.length an):=(zK af.out 0).trans rfl
       have bN:=zP af.out 0
       have b_:0≤(ab:Int):=of_decide_eq_true (by first|(with_reducible assumption)|assumption)
       have ca:ab<(aa.length:Int):=of_decide_eq_true (by first|(with_reducible assumption)|assumption)
       obtain⟨al,er,et,eu,aZ,bO,bP⟩:=ZY aN.out ab b_ ca
       cases eu
       replace aZ:=(HB.out.cell (yqy w _ aZ)).trans aZ
       have cp:=zA.mk bP
       have di:=zA.mk bO
       clear bP bO;replace b_:=eq_true b_
       replace ca:=eq_true ca
       have cb:0≤(ad:Int):=of_decide_eq_true (by first|(with_reducible assumption)|assumption)
       have cc:ad<((zE aa ab).length:Int):=of_decide_eq_true (by first|(with_reducible assumption)|assumption)
       obtain⟨ez,ev,a1,a2⟩:=QF cp.out ad cb cc
       cases ev
       replace a1:=(HB.out.cell (yqy w _ a1)).trans a1
       replace a2:=(HB.out.cell (yqy w _ a2)).trans a2
       replace cb:=eq_true cb
       replace cc:=eq_true cc
       go_upto_region 15 with (first|((with_reducible refine zw (N:=6) rfl ?_);refine zz ?hg (N:=6) ?hd (cs:=#[.int .i64 0,.int .i64 0]) (t:=75) ?hr ?_;(case hd=>rfl);(case hg=>rfl);(case hr=>first|(go_simp;done)|(go_simp;rfl));intro ah hg cU hbox hb;have ax:=zA.mk (zO (g:=ai) (o := .cells #[.slice (some al) aa.length an] 35 (0,0)) (by(with_reducible repeat(first|refine zH ?_ _|refine zJ ?_|refine zG ?_ _));exact af.out) hb);have ay:=zA.mk (zM (by repeat(first|(with_reducible first|exact HB.out|apply zC|apply zB|apply zD|refine zF ?_ aj.out)|exact HB.out)) hb);have az:=zA.mk (hbox);have aL:=zA.mk ((by rw[hg];exact(zQ (by repeat(first|(with_reducible first|exact HB.out|apply zC|apply zB|apply zD|refine zF ?_ aj.out)|exact HB.out))):w.heap.size≤ah));have bQ:=zA.mk ((by rw[hg];exact(zQ (by repeat(first|(with_reducible first|exact HB.out|apply zC|apply zB|apply zD|refine zF ?_ aj.out)|exact HB.out))):w.heap.size≤ah));have bR:=zA.mk ((by rw[hg];exact Nat.ne_of_lt (qT (g:=ai) (o := .cells #[.slice (some al) aa.length an] 35 (0,0)) (by(with_reducible repeat(first|refine zH ?_ _|refine zJ ?_|refine zG ?_ _));exact af.out)):ai≠ah));have bS:=zA.mk ((by rw[hg];exact Nat.ne_of_gt (qT (g:=ai) (o := .cells #[.slice (some al) aa.length an] 35 (0,0)) (by(with_reducible repeat(first|refine zH ?_ _|refine zJ ?_|refine zG ?_ _));exact af.out)):ah≠ai));clear af;clear HB;have af:=ax;have HB:=ay;have ae:=az;have eA:=aL;have ar:=bQ;have aA:=bR;have aI:=bS;clear ax ay az aL bQ bR bS;clear hb hbox hg;have eB:=aI.out;have eC:=aA.out;have bT:cU.cell? ⟨ah,0,none⟩=some (.int .i64 0):=(zK ae.out 0).trans rfl;have bU:cU.cell? ⟨ah,1,none⟩=some (.int .i64 0):=(zK ae.out 1).trans rfl;have bV:=zP ae.out 0;have bW:=zP ae.out 1))
       (try simp only [Act.put,yay,yby,ycy])
       go_cut [51] (fun v51 wc => ∃ (kq:Nat) (bo:Bool),v51 = .bool bo∧zA (zN.j3 kq ab ad bo aa ((zI (zE aa ab) ad).f0) ((zI (zE aa ab) ad).f1)=some r)∧zA (kq≤k3)∧zA (wc.heap[ai]?=some (.cells #[(.slice (some al) aa.length an)] 35 (0,0)))∧zA (wc.heap[ah]?=some (.cells #[.int .i64 ((zI (zE aa ab) ad).f0),.int .i64 ((zI (zE aa ab) ad).f1)] 75 (0,0)))∧zA (Below w.heap.size w wc))
       case first=>
        have H:=cI.out
        clear cI;by_cases cq:((zI (zE aa ab) ad).f0)=(-1)
        case neg=>
         rw[if_neg cq]at H
         have bj:(((zI (zE aa ab) ad).f0)==(-1))=false:=beq_eq_false_iff_ne.mpr cq
         have cd:(((zI (zE aa ab) ad).f0) != (-1))=true:=bne_iff_ne.mpr cq
         (first|rw[bj]|(simp only [zX,za];rw[bj])|skip)
         have H':=zA.mk H
         clear H;have eD:=aI.out
         have eE:=aA.out
         have bX:cU.cell? ⟨ah,0,none⟩=some (.int .i64 0):=(zK ae.out 0).trans rfl
         have bY:cU.cell? ⟨ah,1,none⟩=some (.int .i64 0):=(zK ae.out 1).trans rfl
         have bZ:=zP ae.out 0
         have b0:=zP ae.out 1
         go_wp2;go_meet
         case rel=>exact⟨_,(false),(by first|rfl|(simp;done)|(simp [*];done)),H',⟨by have:=bJ.out;have:=b6.out;have:=b7.out;first|omega|exact yry _⟩,⟨by(with_reducible repeat(first|refine zH ?_ _|refine zJ ?_|refine zG ?_ _));refine qJ ?_ aA.out _;(with_reducible repeat(first|refine zH ?_ _|refine zJ ?_|refine zG ?_ _));refine qJ ?_ aA.out _;(with_reducible repeat(first|refine zH ?_ _|refine zJ ?_|refine zG ?_ _));exact af.out⟩,⟨by(with_reducible repeat(first|refine zH ?_ _|refine zJ ?_|refine zG ?_ _));refine qf (cs:=#[.int .i64 ((zI (zE aa ab) ad).f0),.int .i64 0]) ?_ 1 _ rfl;(with_reducible repeat(first|refine zH ?_ _|refine zJ ?_|refine zG ?_ _));refine qf (cs:=#[.int .i64 0,.int .i64 0]) ?_ 0 _ rfl;(with_reducible repeat(first|refine zH ?_ _|refine zJ ?_|refine zG ?_ _));exact ae.out⟩,⟨by repeat(first|(with_reducible first|exact HB.out|apply zC|apply zB|apply zD|refine zF ?_ aj.out|refine zF ?_ ar.out)|exact HB.out)⟩⟩
        rw[if_pos cq]at H
        have bj:(((zI (zE aa ab) ad).f0)==(-1))=true:=beq_iff_eq.mpr cq
        have cd:(((zI (zE aa ab) ad).f0) != (-1))=false:=bne_eq_false_iff_eq.mpr cq
        clear cq
        (first|rw[bj]|(simp only [zX,za];rw[bj])|skip)
        have H':=zA.mk H
        clear H;have eF:=aI.out
        have eG:=aA.out
        have b1:cU.cell? ⟨ah,0,none⟩=some (.int .i64 0):=(zK ae.out 0).trans rfl
        have b2:cU.cell? ⟨ah,1,none⟩=some (.int .i64 0):=(zK ae.out 1).trans rfl
        have b3:=zP ae.out 0
        have b4:=zP ae.out 1
        go_wp2;go_meet
        case rel=>exact⟨_,((((zI (zE aa ab) ad).f1)==0)),(by first|rfl|(simp;done)|(simp [*];done)),H',⟨by have:=bJ.out;have:=b6.out;have:=b7.out;first|omega|exact yry _⟩,⟨by(with_reducible repeat(first|refine zH ?_ _|refine zJ ?_|refine zG ?_ _));refine qJ ?_ aA.out _;(with_reducible repeat(first|refine zH ?_ _|refine zJ ?_|refine zG ?_ _));refine qJ ?_ aA.out _;(with_reducible repeat(first|refine zH ?_ _|refine zJ ?_|refine zG ?_ _));exact af.out⟩,⟨by(with_reducible repeat(first|refine zH ?_ _|refine zJ ?_|refine zG ?_ _));refine qf (cs:=#[.int .i64 ((zI (zE aa ab) ad).f0),.int .i64 0]) ?_ 1 _ rfl;(with_reducible repeat(first|refine zH ?_ _|refine zJ ?_|refine zG ?_ _));refine qf (cs:=#[.int .i64 0,.int .i64 0]) ?_ 0 _ rfl;(with_reducible repeat(first|refine zH ?_ _|refine zJ ?_|refine zG ?_ _));exact ae.out⟩,⟨by repeat(first|(with_reducible first|exact HB.out|apply zC|apply zB|apply zD|refine zF ?_ aj.out|refine zF ?_ ar.out)|exact HB.out)⟩⟩
       case rest=>
        clear cI;(try clear c1);(try clear p1);(try clear q1);(try clear hx1);(try clear c2);(try clear p2);(try clear c3);(try clear b5);(try clear c4);(try clear c6);(try clear p6);(try clear ck);(try clear br);(try clear p10);(try clear q10);(try clear hx10);(try clear cz);(try clear bK);(try clear b8);(try clear bs);(try clear bt);(try clear cn);(try clear bL);(try clear cA);(try clear b9);(try clear cQ);(try clear cB);(try clear cR);(try clear cC);(try clear cS);(try clear cD);(try clear cT);(try clear cE);(try clear c28);(try clear cq);(try clear bj);(try clear cd);(try clear c31);(try clear c33);(try clear a7);(try clear a5);(try clear a_);(try clear bm);(try clear bM);(try clear bT);(try clear bU);(try clear b1);(try clear b2);(try clear bX);(try clear bY);(try clear bb);(try clear bd);(try clear a8);(try clear a6);(try clear ba);(try clear bn);(try clear bN);(try clear bV);(try clear bW);(try clear b3);(try clear b4);(try clear bZ);(try clear b0);(try clear bc);(try clear bf);(try clear aB);(try clear aZ);(try clear a1);(try clear a2);(try clear p1);(try clear p10);(try clear bg);(try clear b_);(try clear cb);(try clear p2);(try clear p6);(try clear q1);(try clear q10);(try clear bh);(try clear ca);(try clear cc);obtain⟨kq,bo,rfl,HA,bu,af,ae,HB⟩:=hcut
        cases kq with
        | zero=>exact absurd HA.out (by simp [zN.j3])
        | succ bw=>
         have H:=HA.out
         clear HA;simp only [zN.j3]at H
         by_cases cZ:bo=true
         next=>
          subst cZ;rw[if_pos rfl]at H
          have H':=zA.mk H
          clear H;go_wp2;go_roundg bw
          case measure=>have:=bJ.out;have:=b6.out;have:=b7.out;have:=bu.out;omega
          case rel=>exact⟨(wrap64 (ad+1)),(by first|rfl|(simp;done)|(simp [*];done)),H',⟨by have:=bJ.out;have:=b6.out;have:=b7.out;have:=bu.out;omega⟩,⟨by(with_reducible repeat(first|refine zH ?_ _|refine zJ ?_|refine zG ?_ _));exact af.out⟩,⟨by repeat(first|(with_reducible first|exact HB.out|apply zC|apply zB|apply zD|refine zF ?_ aj.out|refine zF ?_ ar.out)|exact HB.out)⟩⟩
         replace cZ:=Bool.eq_false_iff.mpr cZ
         subst cZ;rw[if_neg (show ¬ (false=true)by decide)]at H
         have cJ:=zA.mk H
         clear H;go_upto_region 16 with (fail)
         go_cut [64] (fun fj wc => ∃ (kq:Nat) (bp:Bool),fj = .bool bp∧zA (zN.j4 kq ab ad bp aa ((zI (zE aa ab) ad).f0) ((zI (zE aa ab) ad).f1)=some r)∧zA (kq≤bw)∧zA (wc.heap[ai]?=some (.cells #[(.slice (some al) aa.length an)] 35 (0,0)))∧zA (wc.heap[ah]?=some (.cells #[.int .i64 ((zI (zE aa ab) ad).f0),.int .i64 ((zI (zE aa ab) ad).f1)] 75 (0,0)))∧zA (Below w.heap.size w wc))
         case first=>
          have H:=cJ.out
          clear cJ;replace H:=ydy.mp H
          obtain⟨t108,c0,H⟩:=H
          replace H:((Qg.f ((zI (zE aa ab) ad).f0) 0 (wrap64 (t108-1))).bind fun t109=>(if t109=true then((qp.f ((zI (zE aa ab) ad).f1)).bind fun t110=>(zN.j4 bw ab ad (!t110) aa ((zI (zE aa ab) ad).f0) ((zI (zE aa ab) ad).f1)))else(zN.j4 bw ab ad true aa ((zI (zE aa ab) ad).f0) ((zI (zE aa ab) ad).f1))))=some r:=H
          have eH:=zA.mk c0
          clear c0;replace H:=ydy.mp H
          obtain⟨t109,c5,H⟩:=H
          replace H:(if t109=true then((qp.f ((zI (zE aa ab) ad).f1)).bind fun t110=>(zN.j4 bw ab ad (!t110) aa ((zI (zE aa ab) ad).f0) ((zI (zE aa ab) ad).f1)))else(zN.j4 bw ab ad true aa ((zI (zE aa ab) ad).f0) ((zI (zE aa ab) ad).f1)))=some r:=H
          have eI:=zA.mk c5
          clear c5;by_cases c7:t109=true
          case neg=>
           replace c7:=Bool.eq_false_iff.mpr c7
           subst c7;rw[if_neg (show ¬ (false=true)by decide)]at H
           have H':=zA.mk H
           clear H;try go_wp2
           have ax:=zA.mk (zJ af.out)
           have ay:=zA.mk (zJ ae.out)
           have az:=zA.mk (zD HB.out)
           clear af;clear ae;clear HB;have af:=ax;have ae:=ay;have HB:=az;clear ax ay az;refine Zv (n:=13) (S:=fun w'=>w'.cell? ⟨ah,0,none⟩=some (.int .i64 ((zI (zE aa ab) ad).f0))∧w'.cell? ⟨ah,1,none⟩=some (.int .i64 ((zI (zE aa ab) ad).f1))∧w'.cell? ⟨ai,0,none⟩=some (.slice (some al) aa.length an)) (ds := []) #[false,false,false,false,false,false,false,false,false,false,false,false,false] (by kernel_rfl) rfl rfl ⟨(zK ae.out 0).trans rfl,(zK ae.out 1).trans rfl,(zK af.out 0).trans rfl⟩ (fun hHeld=>?_);refine Zn zN.tab16 zN.zII (fun HT_ HW_=>?_)
           generalize wc.drew=fm at af ae HB hHeld ⊢
           refine zg (i:=0) (N:=some 52) (v:=?_) (a':=?_) #[true,false,false,false,false,false,false,false,false,false,false,false,false] rfl rfl (zm HT_.out (by kernel_rfl)) (fun _ _ _ h=>h) (Or.inl ⟨by rfl,?_⟩) ?_ ?_
           rotate_left
           next=>
            intro w';go_simp;with_reducible rfl
           rotate_left
           next=>
            simp only [Act.put,yay,yby,ycy,zX,za]
            rfl
           refine ZA (i:=1) (N:=some 53) (v:=?_) (a':=?_) #[true,true,false,false,false,false,false,false,false,false,false,false,false] rfl rfl (qm HT_.out HW_.out (by kernel_rfl)) (fun _ _ _ h=>h) (Or.inl ⟨by rfl,?_⟩) hHeld ?_ ?_
           rotate_left
           next=>
            rintro w' ⟨s0,s1,s2⟩
            go_simp;with_reducible rfl
           rotate_left
           next=>
            simp only [Act.put,yay,yby,ycy,zX,za]
            rfl
           refine ZA (i:=2) (N:=some 54) (v:=?_) (a':=?_) #[true,true,true,false,false,false,false,false,false,false,false,false,false] rfl rfl (qm HT_.out HW_.out (by kernel_rfl)) (fun _ _ _ h=>h) (Or.inl ⟨by rfl,?_⟩) hHeld ?_ ?_
           rotate_left
           next=>
            rintro w' ⟨s0,s1,s2⟩
            go_simp;with_reducible rfl
           rotate_left
           next=>
            simp only [Act.put,yay,yby,ycy,zX,za]
            rfl
           refine zA4 (i:=3) (N:=some 55) #[true,true,true,true,false,false,false,false,false,false,false,false,false] rfl rfl (QG HT_.out (by kernel_rfl)) (by decide) (fun K hK=>?_)
           refine QO Try.func66 (by kernel_rfl) rfl #[.agg #[.slice (some al) aa.length an]] (by rfl) rfl rfl (by(try simp only [yiy,yjy,yky]);first|done|rfl|(simp only [yly,ymy];rfl)) ?_
           with_reducible refine(qb.calls _ _ aa t108 _ ?side1 ?side2 eH.out).mono ?_
           (case side1=>repeat(first|exact(Kd.qD aN.out HB.out)|(with_reducible refine Kd.zy ?_ _)|(with_reducible refine Kd.qA ?_ _)|(with_reducible refine Kd.qR ?_)))
           (case side2=>exact bl.out)
           rintro e fo ⟨rfl,hb⟩
           refine⟨_,rfl,?_⟩
           have ax:=zA.mk (zO (g:=ai) (o := .cells #[.slice (some al) aa.length an] 35 (0,0)) (by(with_reducible repeat(first|refine zH ?_ _|refine zJ ?_|refine zG ?_ _));exact af.out) hb)
           have ay:=zA.mk (zO (g:=ah) (o := .cells #[.int .i64 ((zI (zE aa ab) ad).f0),.int .i64 ((zI (zE aa ab) ad).f1)] 75 (0,0)) (by(with_reducible repeat(first|refine zH ?_ _|refine zJ ?_|refine zG ?_ _));exact ae.out) hb)
           have az:=zA.mk (zM (by repeat(first|(with_reducible first|exact HB.out|apply zC|apply zB|apply zD|refine zF ?_ aj.out|refine zF ?_ ar.out)|exact HB.out)) hb)
           clear af;clear ae;clear HB;have af:=ax;have ae:=ay;have HB:=az;clear ax ay az
           (try clear hb)
           (try clear hb2)
           (try clear hk)
           (try clear hi)
           refine hK.out _ _ ⟨(zK ae.out 0).trans rfl,(zK ae.out 1).trans rfl,(zK af.out 0).trans rfl⟩ (fun hHeld=>?_)
           clear hK K;refine QE (a':=?_) ?_ ?_
           rotate_left
           next=>
            show Act.put _ (some 55) _=_
            simp only [Act.put,yay,yby,ycy,zX,za]
            rfl
           refine zg (i:=4) (N:=some 56) (v:=?_) (a':=?_) #[true,true,true,true,true,false,false,false,false,false,false,false,false] rfl rfl (zm HT_.out (by kernel_rfl)) (fun _ _ _ h=>h) (Or.inl ⟨by rfl,?_⟩) ?_ ?_
           rotate_left
           next=>
            intro w';go_simp;with_reducible rfl
           rotate_left
           next=>
            simp only [Act.put,yay,yby,ycy,zX,za]
            rfl
           refine zA4 (i:=5) (N:=some 57) #[true,true,true,true,true,true,false,false,false,false,false,false,false] rfl rfl (QG HT_.out (by kernel_rfl)) (by decide) (fun K hK=>?_)
           refine QO Try.func65 (by kernel_rfl) rfl #[.int .i64 ((zI (zE aa ab) ad).f0),.int .i64 0,.int .i64 (wrap64 (t108-1))] (by rfl) rfl rfl (by(try simp only [yiy,yjy,yky]);first|done|rfl|(simp only [yly,ymy];rfl)) ?_
           with_reducible refine(Qg.calls ((zI (zE aa ab) ad).f0) 0 (wrap64 (t108-1)) false _ eI.out).mono ?_
           rintro e w' ⟨rfl,⟨nd,rfl⟩⟩
           refine⟨_,rfl,?_⟩
           refine hK.out _ _ ⟨(zK ae.out 0).trans rfl,(zK ae.out 1).trans rfl,(zK af.out 0).trans rfl⟩ (fun hHeld=>?_)
           clear hK K;refine QE (a':=?_) ?_ ?_
           rotate_left
           next=>
            show Act.put _ (some 57) _=_
            simp only [Act.put,yay,yby,ycy,zX,za]
            rfl
           refine zg (i:=6) (N:=some 58) (v:=?_) (a':=?_) #[true,true,true,true,true,true,true,false,false,false,false,false,false] rfl rfl (zm HT_.out (by kernel_rfl)) (fun _ _ _ h=>h) (Or.inl ⟨by rfl,?_⟩) ?_ ?_
           rotate_left
           next=>
            intro w';go_simp;with_reducible rfl
           rotate_left
           next=>
            simp only [Act.put,yay,yby,ycy,zX,za]
            rfl
           refine zg (i:=7) (N:=some 59) (v:=?_) (a':=?_) #[true,true,true,true,true,true,true,true,false,false,false,false,false] rfl rfl (zm HT_.out (by kernel_rfl)) (fun _ _ _ h=>h) (Or.inl ⟨by rfl,?_⟩) ?_ ?_
           rotate_left
           next=>
            intro w';go_simp;with_reducible rfl
           rotate_left
           next=>
            simp only [Act.put,yay,yby,ycy,zX,za]
            rfl
           refine zg (i:=8) (N:=some 60) (v:=undef) (a':=?_) #[true,true,true,true,true,true,true,true,true,false,false,false,false] rfl rfl (zm HT_.out (by kernel_rfl)) (fun _ _ _ h=>h) (Or.inr ⟨by rfl,rfl⟩) ?_ ?_
           rotate_left
           next=>
            simp only [Act.put,yay,yby,ycy,zX,za]
            rfl
           refine zg (i:=9) (N:=some 61) (v:=undef) (a':=?_) #[true,true,true,true,true,true,true,true,true,true,false,false,false] rfl rfl (zm HT_.out (by kernel_rfl)) (fun _ _ _ h=>h) (Or.inr ⟨by rfl,rfl⟩) ?_ ?_
           rotate_left
           next=>
            simp only [Act.put,yay,yby,ycy,zX,za]
            rfl
           refine zg (i:=10) (N:=some 62) (v:=undef) (a':=?_) #[true,true,true,true,true,true,true,true,true,true,true,false,false] rfl rfl (zm HT_.out (by kernel_rfl)) (fun _ _ _ h=>h) (Or.inr ⟨by rfl,rfl⟩) ?_ ?_
           rotate_left
           next=>
            simp only [Act.put,yay,yby,ycy,zX,za]
            rfl
           refine zg (i:=11) (N:=some 63) (v:=undef) (a':=?_) #[true,true,true,true,true,true,true,true,true,true,true,true,false] rfl rfl (zm HT_.out (by kernel_rfl)) (fun _ _ _ h=>h) (Or.inr ⟨by rfl,rfl⟩) ?_ ?_
           rotate_left
           next=>
            simp only [Act.put,yay,yby,ycy,zX,za]
            rfl
           refine zg (i:=12) (N:=some 64) (v:=?_) (a':=?_) #[true,true,true,true,true,true,true,true,true,true,true,true,true] rfl rfl (zm HT_.out (by kernel_rfl)) (fun _ _ _ h=>h) (Or.inl ⟨by rfl,?_⟩) ?_ ?_
           rotate_left
           next=>
            intro w';go_simp;with_reducible rfl
           rotate_left
           next=>
            simp only [Act.put,yay,yby,ycy,zX,za]
            rfl
           refine Qo (Qp HT_.out (by kernel_rfl)) ?_
           try go_wp2
           go_meet
           case rel=>exact⟨_,(true),(by first|rfl|(simp;done)|(simp [*];done)),H',⟨by have:=bJ.out;have:=b6.out;have:=b7.out;have:=bu.out;first|omega|exact yry _⟩,⟨by(with_reducible repeat(first|refine zH ?_ _|refine zJ ?_|refine zG ?_ _));exact af.out⟩,⟨by(with_reducible repeat(first|refine zH ?_ _|refine zJ ?_|refine zG ?_ _));exact ae.out⟩,⟨by repeat(first|(with_reducible first|exact HB.out|apply zC|apply zB|apply zD|refine zF ?_ aj.out|refine zF ?_ ar.out)|exact HB.out)⟩⟩
          subst c7;rw[if_pos rfl]at H
          replace H:=ydy.mp H
          obtain⟨t110,c9,H⟩:=H
          replace H:(zN.j4 bw ab ad (!t110) aa ((zI (zE aa ab) ad).f0) ((zI (zE aa ab) ad).f1))=some r:=H
          have fk:=zA.mk c9
          clear c9;have H':=zA.mk H
          clear H;try go_wp2
          have ax:=zA.mk (zJ af.out)
          have ay:=zA.mk (zJ ae.out)
          have az:=zA.mk (zD HB.out)
          clear af;clear ae;clear HB;have af:=ax;have ae:=ay;have HB:=az;clear ax ay az;refine Zv (n:=13) (S:=fun w'=>w'.cell? ⟨ah,0,none⟩=some (.int .i64 ((zI (zE aa ab) ad).f0))∧w'.cell? ⟨ah,1,none⟩=some (.int .i64 ((zI (zE aa ab) ad).f1))∧w'.cell? ⟨ai,0,none⟩=some (.slice (some al) aa.length an)) (ds := []) #[false,false,false,false,false,false,false,false,false,false,false,false,false] (by kernel_rfl) rfl rfl ⟨(zK ae.out 0).trans rfl,(zK ae.out 1).trans rfl,(zK af.out 0).trans rfl⟩ (fun hHeld=>?_);refine Zn zN.tab16 zN.zII (fun HT_ HW_=>?_)
          generalize wc.drew=fp at af ae HB hHeld ⊢
          refine zg (i:=0) (N:=some 52) (v:=?_) (a':=?_) #[true,false,false,false,false,false,false,false,false,false,false,false,false] rfl rfl (zm HT_.out (by kernel_rfl)) (fun _ _ _ h=>h) (Or.inl ⟨by rfl,?_⟩) ?_ ?_
          rotate_left
          next=>
           intro w';go_simp;with_reducible rfl
          rotate_left
          next=>
           simp only [Act.put,yay,yby,ycy,zX,za]
           rfl
          refine ZA (i:=1) (N:=some 53) (v:=?_) (a':=?_) #[true,true,false,false,false,false,false,false,false,false,false,false,false] rfl rfl (qm HT_.out HW_.out (by kernel_rfl)) (fun _ _ _ h=>h) (Or.inl ⟨by rfl,?_⟩) hHeld ?_ ?_
          rotate_left
          next=>
           rintro w' ⟨s0,s1,s2⟩
           go_simp;with_reducible rfl
          rotate_left
          next=>
           simp only [Act.put,yay,yby,ycy,zX,za]
           rfl
          refine ZA (i:=2) (N:=some 54) (v:=?_) (a':=?_) #[true,true,true,false,false,false,false,false,false,false,false,false,false] rfl rfl (qm HT_.out HW_.out (by kernel_rfl)) (fun _ _ _ h=>h) (Or.inl ⟨by rfl,?_⟩) hHeld ?_ ?_
          rotate_left
          next=>
           rintro w' ⟨s0,s1,s2⟩
           go_simp;with_reducible rfl
          rotate_left
          next=>
           simp only [Act.put,yay,yby,ycy,zX,za]
           rfl
          refine zA4 (i:=3) (N:=some 55) #[true,true,true,true,false,false,false,false,false,false,false,false,false] rfl rfl (QG HT_.out (by kernel_rfl)) (by decide) (fun K hK=>?_)
          refine QO Try.func66 (by kernel_rfl) rfl #[.agg #[.slice (some al) aa.length an]] (by rfl) rfl rfl (by(try simp only [yiy,yjy,yky]);first|done|rfl|(simp only [yly,ymy];rfl)) ?_
          with_reducible refine(qb.calls _ _ aa t108 _ ?side1 ?side2 eH.out).mono ?_
          (case side1=>repeat(first|exact(Kd.qD aN.out HB.out)|(with_reducible refine Kd.zy ?_ _)|(with_reducible refine Kd.qA ?_ _)|(with_reducible refine Kd.qR ?_)))
          (case side2=>exact bl.out)
          rintro e fq ⟨rfl,hb⟩
          refine⟨_,rfl,?_⟩
          have ax:=zA.mk (zO (g:=ai) (o := .cells #[.slice (some al) aa.length an] 35 (0,0)) (by(with_reducible repeat(first|refine zH ?_ _|refine zJ ?_|refine zG ?_ _));exact af.out) hb)
          have ay:=zA.mk (zO (g:=ah) (o := .cells #[.int .i64 ((zI (zE aa ab) ad).f0),.int .i64 ((zI (zE aa ab) ad).f1)] 75 (0,0)) (by(with_reducible repeat(first|refine zH ?_ _|refine zJ ?_|refine zG ?_ _));exact ae.out) hb)
          have az:=zA.mk (zM (by repeat(first|(with_reducible first|exact HB.out|apply zC|apply zB|apply zD|refine zF ?_ aj.out|refine zF ?_ ar.out)|exact HB.out)) hb)
          clear af;clear ae;clear HB;have af:=ax;have ae:=ay;have HB:=az;clear ax ay az
          (try clear hb)
          (try clear hb2)
          (try clear hk)
          (try clear hi)
          refine hK.out _ _ ⟨(zK ae.out 0).trans rfl,(zK ae.out 1).trans rfl,(zK af.out 0).trans rfl⟩ (fun hHeld=>?_)
          clear hK K;refine QE (a':=?_) ?_ ?_
          rotate_left
          next=>
           show Act.put _ (some 55) _=_
           simp only [Act.put,yay,yby,ycy,zX,za]
           rfl
          refine zg (i:=4) (N:=some 56) (v:=?_) (a':=?_) #[true,true,true,true,true,false,false,false,false,false,false,false,false] rfl rfl (zm HT_.out (by kernel_rfl)) (fun _ _ _ h=>h) (Or.inl ⟨by rfl,?_⟩) ?_ ?_
          rotate_left
          next=>
           intro w';go_simp;with_reducible rfl
          rotate_left
          next=>
           simp only [Act.put,yay,yby,ycy,zX,za]
           rfl
          refine zA4 (i:=5) (N:=some 57) #[true,true,true,true,true,true,false,false,false,false,false,false,false] rfl rfl (QG HT_.out (by kernel_rfl)) (by decide) (fun K hK=>?_)
          refine QO Try.func65 (by kernel_rfl) rfl #[.int .i64 ((zI (zE aa ab) ad).f0),.int .i64 0,.int .i64 (wrap64 (t108-1))] (by rfl) rfl rfl (by(try simp only [yiy,yjy,yky]);first|done|rfl|(simp only [yly,ymy];rfl)) ?_
          with_reducible refine(Qg.calls ((zI (zE aa ab) ad).f0) 0 (wrap64 (t108-1)) true _ eI.out).mono ?_
          rintro e w' ⟨rfl,⟨nd,rfl⟩⟩
          refine⟨_,rfl,?_⟩
          refine hK.out _ _ ⟨(zK ae.out 0).trans rfl,(zK ae.out 1).trans rfl,(zK af.out 0).trans rfl⟩ (fun hHeld=>?_)
          clear hK K;refine QE (a':=?_) ?_ ?_
          rotate_left
          next=>
           show Act.put _ (some 57) _=_
           simp only [Act.put,yay,yby,ycy,zX,za]
           rfl
          refine zg (i:=6) (N:=some 58) (v:=?_) (a':=?_) #[true,true,true,true,true,true,true,false,false,false,false,false,false] rfl rfl (zm HT_.out (by kernel_rfl)) (fun _ _ _ h=>h) (Or.inl ⟨by rfl,?_⟩) ?_ ?_
          rotate_left
          next=>
           intro w';go_simp;with_reducible rfl
          rotate_left
          next=>
           simp only [Act.put,yay,yby,ycy,zX,za]
           rfl
          refine zg (i:=7) (N:=some 59) (v:=?_) (a':=?_) #[true,true,true,true,true,true,true,true,false,false,false,false,false] rfl rfl (zm HT_.out (by kernel_rfl)) (fun _ _ _ h=>h) (Or.inl ⟨by rfl,?_⟩) ?_ ?_
          rotate_left
          next=>
           intro w';go_simp;with_reducible rfl
          rotate_left
          next=>
           simp only [Act.put,yay,yby,ycy,zX,za]
           rfl
          refine zg (i:=8) (N:=some 60) (v:=?_) (a':=?_) #[true,true,true,true,true,true,true,true,true,false,false,false,false] rfl rfl (zm HT_.out (by kernel_rfl)) (fun _ _ _ h=>h) (Or.inl ⟨by rfl,?_⟩) ?_ ?_
          rotate_left
          next=>
           intro w';go_simp;with_reducible rfl
          rotate_left
          next=>
           simp only [Act.put,yay,yby,ycy,zX,za]
           rfl
          refine ZA (i:=9) (N:=some 61) (v:=?_) (a':=?_) #[true,true,true,true,true,true,true,true,true,true,false,false,false] rfl rfl (qm HT_.out HW_.out (by kernel_rfl)) (fun _ _ _ h=>h) (Or.inl ⟨by rfl,?_⟩) hHeld ?_ ?_
          rotate_left
          next=>
           rintro w' ⟨s0,s1,s2⟩
           go_simp;with_reducible rfl
          rotate_left
          next=>
           simp only [Act.put,yay,yby,ycy,zX,za]
           rfl
          refine zA4 (i:=10) (N:=some 62) #[true,true,true,true,true,true,true,true,true,true,true,false,false] rfl rfl (QG HT_.out (by kernel_rfl)) (by decide) (fun K hK=>?_)
          refine QO Try.func81 (by kernel_rfl) rfl #[.int .i64 ((zI (zE aa ab) ad).f1)] (by rfl) rfl rfl (by(try simp only [yiy,yjy,yky]);first|done|rfl|(simp only [yly,ymy];rfl)) ?_
          with_reducible refine(qp.calls ((zI (zE aa ab) ad).f1) t110 _ fk.out).mono ?_
          rintro e w' ⟨rfl,⟨nd,rfl⟩⟩
          refine⟨_,rfl,?_⟩
          refine hK.out _ _ ⟨(zK ae.out 0).trans rfl,(zK ae.out 1).trans rfl,(zK af.out 0).trans rfl⟩ (fun hHeld=>?_)
          clear hK K;refine QE (a':=?_) ?_ ?_
          rotate_left
          next=>
           show Act.put _ (some 62) _=_
           simp only [Act.put,yay,yby,ycy,zX,za]
           rfl
          refine zg (i:=11) (N:=some 63) (v:=?_) (a':=?_) #[true,true,true,true,true,true,true,true,true,true,true,true,false] rfl rfl (zm HT_.out (by kernel_rfl)) (fun _ _ _ h=>h) (Or.inl ⟨by rfl,?_⟩) ?_ ?_
          rotate_left
          next=>
           intro w';go_simp;with_reducible rfl
          rotate_left
          next=>
           simp only [Act.put,yay,yby,ycy,zX,za]
           rfl
          refine zg (i:=12) (N:=some 64) (v:=?_) (a':=?_) #[true,true,true,true,true,true,true,true,true,true,true,true,true] rfl rfl (zm HT_.out (by kernel_rfl)) (fun _ _ _ h=>h) (Or.inl ⟨by rfl,?_⟩) ?_ ?_
          rotate_left
          next=>
           intro w';go_simp;with_reducible rfl
          rotate_left
          next=>
           simp only [Act.put,yay,yby,ycy,zX,za]
           rfl
          refine Qo (Qp HT_.out (by kernel_rfl)) ?_
          try go_wp2
          go_meet
          case rel=>exact⟨_,(!t110),(by first|rfl|(simp;done)|(simp [*];done)),H',⟨by have:=bJ.out;have:=b6.out;have:=b7.out;have:=bu.out;first|omega|exact yry _⟩,⟨by(with_reducible repeat(first|refine zH ?_ _|refine zJ ?_|refine zG ?_ _));exact af.out⟩,⟨by(with_reducible repeat(first|refine zH ?_ _|refine zJ ?_|refine zG ?_ _));exact ae.out⟩,⟨by repeat(first|(with_reducible first|exact HB.out|apply zC|apply zB|apply zD|refine zF ?_ aj.out|refine zF ?_ ar.out)|exact HB.out)⟩⟩
         case rest=>
          clear cJ;(try clear c1);(try clear p1);(try clear q1);(try clear hx1);(try clear c2);(try clear p2);(try clear c3);(try clear b5);(try clear c4);(try clear c6);(try clear p6);(try clear c8);(try clear ck);(try clear br);(try clear p10);(try clear q10);(try clear hx10);(try clear cz);(try clear bK);(try clear b8);(try clear bs);(try clear bt);(try clear cn);(try clear bL);(try clear cA);(try clear b9);(try clear cQ);(try clear cB);(try clear cR);(try clear cC);(try clear cS);(try clear cD);(try clear cT);(try clear cE);(try clear c28);(try clear cq);(try clear bj);(try clear cd);(try clear c31);(try clear c33);(try clear cZ);(try clear c7);(try clear a7);(try clear a5);(try clear a_);(try clear bm);(try clear bM);(try clear bT);(try clear bU);(try clear b1);(try clear b2);(try clear bX);(try clear bY);(try clear bb);(try clear bd);(try clear a8);(try clear a6);(try clear ba);(try clear bn);(try clear bN);(try clear bV);(try clear bW);(try clear b3);(try clear b4);(try clear bZ);(try clear b0);(try clear bc);(try clear bf);(try clear aB);(try clear aZ);(try clear a1);(try clear a2);(try clear p1);(try clear p10);(try clear bg);(try clear b_);(try clear cb);(try clear p2);(try clear p6);(try clear q1);(try clear q10);(try clear bh);(try clear ca);(try clear cc);obtain⟨kq,bp,rfl,HA,cr,af,ae,HB⟩:=hcut
          cases kq with
          | zero=>exact absurd HA.out (by simp [zN.j4])
          | succ aR=>
           have H:=HA.out
           clear HA;simp only [zN.j4]at H
           by_cases dj:bp=true
           next=>
            subst dj;rw[if_pos rfl]at H
            obtain rfl:=yey H
            go_wp2;go_ret;exact⟨by first|rfl|(simp [zU,zV] <;> rfl)|(simp [*,zU,zV] <;> rfl),by repeat(first|(with_reducible first|exact HB.out|apply zC|apply zB|apply zD|refine zF ?_ aj.out|refine zF ?_ ar.out)|exact HB.out)⟩
           replace dj:=Bool.eq_false_iff.mpr dj
           subst dj;rw[if_neg (show ¬ (false=true)by decide)]at H
           replace H:=ydy.mp H
           obtain⟨t111,c_,H⟩:=H
           replace H:((qM.f aR ((zI (zE aa ab) ad).f1)).bind fun t112=>(if 0≤((zI (zE aa ab) ad).f0)then(if((zI (zE aa ab) ad).f0)<(aa.length:Int)then(if 0≤t111 then(if t111<((zE aa ((zI (zE aa ab) ad).f0)).length:Int)then(if(!(((zI (zE aa ((zI (zE aa ab) ad).f0)) t111).f0)==ab)||(!(((zI (zE aa ((zI (zE aa ab) ad).f0)) t111).f1)==t112)))=true then(some false)else(if((zI (zE aa ab) ad).f0)=ab then(if t111=ad then(some false)else(zN.l2 aR ab (wrap64 (ad+1)) aa))else(zN.l2 aR ab (wrap64 (ad+1)) aa)))else(none))else(none))else(none))else(none)))=some r:=H
           have dk:=zA.mk c_
           clear c_;replace H:=ydy.mp H
           obtain⟨t112,da,H⟩:=H
           replace H:(if 0≤((zI (zE aa ab) ad).f0)then(if((zI (zE aa ab) ad).f0)<(aa.length:Int)then(if 0≤t111 then(if t111<((zE aa ((zI (zE aa ab) ad).f0)).length:Int)then(if(!(((zI (zE aa ((zI (zE aa ab) ad).f0)) t111).f0)==ab)||(!(((zI (zE aa ((zI (zE aa ab) ad).f0)) t111).f1)==t112)))=true then(some false)else(if((zI (zE aa ab) ad).f0)=ab then(if t111=ad then(some false)else(zN.l2 aR ab (wrap64 (ad+1)) aa))else(zN.l2 aR ab (wrap64 (ad+1)) aa)))else(none))else(none))else(none))else(none))=some r:=H
           have dm:=zA.mk da
           clear da;by_cases dn:0≤((zI (zE aa ab) ad).f0)
           case neg=>
            rw[if_neg dn]at H
            exact absurd H (by simp)
           rw[if_pos dn]at H
           have eJ:decide (0≤((zI (zE aa ab) ad).f0))=true:=ygy dn
           clear dn;by_cases dp:((zI (zE aa ab) ad).f0)<(aa.length:Int)
           case neg=>
            rw[if_neg dp]at H
            exact absurd H (by simp)
           rw[if_pos dp]at H
           have eK:decide (((zI (zE aa ab) ad).f0)<(aa.length:Int))=true:=ygy dp
           clear dp;by_cases dq:0≤t111
           case neg=>
            rw[if_neg dq]at H
            exact absurd H (by simp)
           rw[if_pos dq]at H
           have eL:decide (0≤t111)=true:=ygy dq
           clear dq;by_cases dr:t111<((zE aa ((zI (zE aa ab) ad).f0)).length:Int)
           case neg=>
            rw[if_neg dr]at H
            exact absurd H (by simp)
           rw[if_pos dr]at H
           have eM:decide (t111<((zE aa ((zI (zE aa ab) ad).f0)).length:Int))=true:=ygy dr
           clear dr;by_cases cV:(!(((zI (zE aa ((zI (zE aa ab) ad).f0)) t111).f0)==ab)||(!(((zI (zE aa ((zI (zE aa ab) ad).f0)) t111).f1)==t112)))=true
           next=>
            rw[if_pos cV]at H
            have db:(!(((zI (zE aa ((zI (zE aa ab) ad).f0)) t111).f0)==ab)||(!(((zI (zE aa ((zI (zE aa ab) ad).f0)) t111).f1)==t112)))=true:=cV
            clear cV;obtain rfl:=yey H
            have eN:=aI.out
            have eO:=aA.out
            have dt:wc.cell? ⟨ah,0,none⟩=some (.int .i64 ((zI (zE aa ab) ad).f0)):=(zK ae.out 0).trans rfl
            have du:wc.cell? ⟨ah,1,none⟩=some (.int .i64 ((zI (zE aa ab) ad).f1)):=(zK ae.out 1).trans rfl
            have dv:=zP ae.out 0
            have dw:=zP ae.out 1
            try go_wp2_with (first|((with_reducible refine zd (f:=82) rfl ?_);refine qV (some 68) rfl rfl Try.func82 (by kernel_rfl) rfl #[.int .i64 ((zI (zE aa ab) ad).f1),.int .i64 ad] rfl (by(try simp only [yiy,yjy,yky]);first|done|rfl|(simp only [yly,ymy];rfl)) ?_;(with_reducible refine(qi.calls aR ((zI (zE aa ab) ad).f1) ad t111 _ dk.out).mono ?_);rintro e eP ⟨rfl,hb⟩;refine⟨_,rfl,?_⟩;have ax:=zA.mk (zO (g:=ai) (o := .cells #[.slice (some al) aa.length an] 35 (0,0)) (by(with_reducible repeat(first|refine zH ?_ _|refine zJ ?_|refine zG ?_ _));exact af.out) hb);have ay:=zA.mk (zO (g:=ah) (o := .cells #[.int .i64 ((zI (zE aa ab) ad).f0),.int .i64 ((zI (zE aa ab) ad).f1)] 75 (0,0)) (by(with_reducible repeat(first|refine zH ?_ _|refine zJ ?_|refine zG ?_ _));exact ae.out) hb);have az:=zA.mk (zM (by repeat(first|(with_reducible first|exact HB.out|apply zC|apply zB|apply zD|refine zF ?_ aj.out|refine zF ?_ ar.out)|exact HB.out)) hb);clear af;clear ae;clear HB;have af:=ax;have ae:=ay;have HB:=az;clear ax ay az;(try clear hb);(try clear hb2);(try clear hk);(try clear hi);have dx:eP.cell? ⟨ah,0,none⟩=some (.int .i64 ((zI (zE aa ab) ad).f0)):=(zK ae.out 0).trans rfl;have dy:eP.cell? ⟨ah,1,none⟩=some (.int .i64 ((zI (zE aa ab) ad).f1)):=(zK ae.out 1).trans rfl;have dz:=zP ae.out 0;have dA:=zP ae.out 1)|((with_reducible refine zd (f:=83) rfl ?_);refine qV (some 72) rfl rfl Try.func83 (by kernel_rfl) rfl #[.int .i64 ((zI (zE aa ab) ad).f1)] rfl (by(try simp only [yiy,yjy,yky]);first|done|rfl|(simp only [yly,ymy];rfl)) ?_;(with_reducible refine(qM.calls aR ((zI (zE aa ab) ad).f1) t112 _ dm.out).mono ?_);rintro e fr ⟨rfl,hb⟩;refine⟨_,rfl,?_⟩;have ax:=zA.mk (zO (g:=ai) (o := .cells #[.slice (some al) aa.length an] 35 (0,0)) (by(with_reducible repeat(first|refine zH ?_ _|refine zJ ?_|refine zG ?_ _));exact af.out) hb);have ay:=zA.mk (zO (g:=ah) (o := .cells #[.int .i64 ((zI (zE aa ab) ad).f0),.int .i64 ((zI (zE aa ab) ad).f1)] 75 (0,0)) (by(with_reducible repeat(first|refine zH ?_ _|refine zJ ?_|refine zG ?_ _));exact ae.out) hb);have az:=zA.mk (zM (by repeat(first|(with_reducible first|exact HB.out|apply zC|apply zB|apply zD|refine zF ?_ aj.out|refine zF ?_ ar.out)|exact HB.out)) hb);clear af;clear ae;clear HB;have af:=ax;have ae:=ay;have HB:=az;clear ax ay az;(try clear hb);(try clear hb2);(try clear hk);(try clear hi))|((with_reducible refine zw (N:=8) rfl ?_);refine zz ?hg (N:=8) ?hd (cs:=#[.int .i64 0,.int .i64 0]) (t:=75) ?hr ?_;(case hd=>rfl);(case hg=>rfl);(case hr=>first|(go_simp;done)|(go_simp;rfl));intro ag hg cK hbox hb;have ax:=zA.mk (zO (g:=ai) (o := .cells #[.slice (some al) aa.length an] 35 (0,0)) (by(with_reducible repeat(first|refine zH ?_ _|refine zJ ?_|refine zG ?_ _));exact af.out) hb);have ay:=zA.mk (zO (g:=ah) (o := .cells #[.int .i64 ((zI (zE aa ab) ad).f0),.int .i64 ((zI (zE aa ab) ad).f1)] 75 (0,0)) (by(with_reducible repeat(first|refine zH ?_ _|refine zJ ?_|refine zG ?_ _));exact ae.out) hb);have az:=zA.mk (zM (by repeat(first|(with_reducible first|exact HB.out|apply zC|apply zB|apply zD|refine zF ?_ aj.out|refine zF ?_ ar.out)|exact HB.out)) hb);have aL:=zA.mk (hbox);have bQ:=zA.mk ((by rw[hg];exact(zQ (by repeat(first|(with_reducible first|exact HB.out|apply zC|apply zB|apply zD|refine zF ?_ aj.out|refine zF ?_ ar.out)|exact HB.out))):w.heap.size≤ag));have bR:=zA.mk ((by rw[hg];exact(zQ (by repeat(first|(with_reducible first|exact HB.out|apply zC|apply zB|apply zD|refine zF ?_ aj.out|refine zF ?_ ar.out)|exact HB.out))):w.heap.size≤ag));have bS:=zA.mk ((by rw[hg];exact Nat.ne_of_lt (qT (g:=ai) (o := .cells #[.slice (some al) aa.length an] 35 (0,0)) (by(with_reducible repeat(first|refine zH ?_ _|refine zJ ?_|refine zG ?_ _));exact af.out)):ai≠ag));have cf:=zA.mk ((by rw[hg];exact Nat.ne_of_gt (qT (g:=ai) (o := .cells #[.slice (some al) aa.length an] 35 (0,0)) (by(with_reducible repeat(first|refine zH ?_ _|refine zJ ?_|refine zG ?_ _));exact af.out)):ag≠ai));have cg:=zA.mk ((by rw[hg];exact Nat.ne_of_lt (qT (g:=ah) (o := .cells #[.int .i64 ((zI (zE aa ab) ad).f0),.int .i64 ((zI (zE aa ab) ad).f1)] 75 (0,0)) (by(with_reducible repeat(first|refine zH ?_ _|refine zJ ?_|refine zG ?_ _));exact ae.out)):ah≠ag));have ch:=zA.mk ((by rw[hg];exact Nat.ne_of_gt (qT (g:=ah) (o := .cells #[.int .i64 ((zI (zE aa ab) ad).f0),.int .i64 ((zI (zE aa ab) ad).f1)] 75 (0,0)) (by(with_reducible repeat(first|refine zH ?_ _|refine zJ ?_|refine zG ?_ _));exact ae.out)):ag≠ah));clear af;clear ae;clear HB;have af:=ax;have ae:=ay;have HB:=az;have ak:=aL;have cj:=bQ;have aQ:=bR;have ao:=bS;have aJ:=cf;have aq:=cg;have aK:=ch;clear ax ay az aL bQ bR bS cf cg ch;clear hb hbox hg;have eQ:=aJ.out;have eR:=ao.out;have eS:=aK.out;have eT:=aq.out;have dB:cK.cell? ⟨ag,0,none⟩=some (.int .i64 0):=(zK ak.out 0).trans rfl;have dC:cK.cell? ⟨ag,1,none⟩=some (.int .i64 0):=(zK ak.out 1).trans rfl;have dD:=zP ak.out 0;have dE:=zP ak.out 1))
            have ax:zA (((cK.setCell ⟨ag,0,none⟩ (.int .i64 ab)).setCell ⟨ag,1,none⟩ (.int .i64 t112)).heap[ai]?=some (.cells #[.slice (some al) aa.length an] 35 (0,0))):=⟨by(with_reducible repeat(first|refine zH ?_ _|refine zJ ?_|refine zG ?_ _));refine qJ ?_ ao.out _;(with_reducible repeat(first|refine zH ?_ _|refine zJ ?_|refine zG ?_ _));refine qJ ?_ ao.out _;(with_reducible repeat(first|refine zH ?_ _|refine zJ ?_|refine zG ?_ _));exact af.out⟩
            have ay:zA (((cK.setCell ⟨ag,0,none⟩ (.int .i64 ab)).setCell ⟨ag,1,none⟩ (.int .i64 t112)).heap[ah]?=some (.cells #[.int .i64 ((zI (zE aa ab) ad).f0),.int .i64 ((zI (zE aa ab) ad).f1)] 75 (0,0))):=⟨by(with_reducible repeat(first|refine zH ?_ _|refine zJ ?_|refine zG ?_ _));refine qJ ?_ aq.out _;(with_reducible repeat(first|refine zH ?_ _|refine zJ ?_|refine zG ?_ _));refine qJ ?_ aq.out _;(with_reducible repeat(first|refine zH ?_ _|refine zJ ?_|refine zG ?_ _));exact ae.out⟩
            have az:zA (((cK.setCell ⟨ag,0,none⟩ (.int .i64 ab)).setCell ⟨ag,1,none⟩ (.int .i64 t112)).heap[ag]?=some (.cells #[.int .i64 ab,.int .i64 t112] 75 (0,0))):=⟨by(with_reducible repeat(first|refine zH ?_ _|refine zJ ?_|refine zG ?_ _));refine qf (cs:=#[.int .i64 ab,.int .i64 0]) ?_ 1 _ rfl;(with_reducible repeat(first|refine zH ?_ _|refine zJ ?_|refine zG ?_ _));refine qf (cs:=#[.int .i64 0,.int .i64 0]) ?_ 0 _ rfl;(with_reducible repeat(first|refine zH ?_ _|refine zJ ?_|refine zG ?_ _));exact ak.out⟩
            have aL:zA (Below w.heap.size w ((cK.setCell ⟨ag,0,none⟩ (.int .i64 ab)).setCell ⟨ag,1,none⟩ (.int .i64 t112))):=⟨by repeat(first|(with_reducible first|exact HB.out|apply zC|apply zB|apply zD|refine zF ?_ aj.out|refine zF ?_ ar.out|refine zF ?_ aQ.out)|exact HB.out)⟩
            (try clear af)
            (try clear ae)
            (try clear ak)
            (try clear HB)
            generalize ((cK.setCell ⟨ag,0,none⟩ (.int .i64 ab)).setCell ⟨ag,1,none⟩ (.int .i64 t112))=ct at ax ay az aL ⊢
            have af:=ax;have ae:=ay;have ak:=az;have HB:=aL;clear ax ay az aL;have aS:0≤(((zI (zE aa ab) ad).f0):Int):=of_decide_eq_true (by first|(with_reducible assumption)|assumption)
            have aT:((zI (zE aa ab) ad).f0)<(aa.length:Int):=of_decide_eq_true (by first|(with_reducible assumption)|assumption)
            obtain⟨bk,bx,aU,bz,au,aC,aD⟩:=ZY aN.out ((zI (zE aa ab) ad).f0) aS aT
            have aE:=au;obtain rfl:al=bk:=(by injection bz)
            replace au:=(HB.out.cell (yqy w _ au)).trans au
            have aP:=zA.mk aD
            have bq:=zA.mk aC
            clear aD aC;replace aS:=eq_true aS
            replace aT:=eq_true aT
            have aV:0≤(t111:Int):=of_decide_eq_true (by first|(with_reducible assumption)|assumption)
            have aW:t111<((zE aa ((zI (zE aa ab) ad).f0)).length:Int):=of_decide_eq_true (by first|(with_reducible assumption)|assumption)
            obtain⟨aF,bA,av,aw⟩:=QF aP.out t111 aV aW
            have aG:=aw;have aH:=av
            cases bA
            replace av:=(HB.out.cell (yqy w _ av)).trans av
            replace aw:=(HB.out.cell (yqy w _ aw)).trans aw
            replace aV:=eq_true aV
            replace aW:=eq_true aW
            have bB:ct.cell? ⟨ai,0,none⟩=some (.slice (some al) aa.length an):=(zK af.out 0).trans rfl
            have bC:ct.cell? ⟨ah,0,none⟩=some (.int .i64 ((zI (zE aa ab) ad).f0)):=(zK ae.out 0).trans rfl
            have bD:ct.cell? ⟨ah,1,none⟩=some (.int .i64 ((zI (zE aa ab) ad).f1)):=(zK ae.out 1).trans rfl
            have bE:ct.cell? ⟨ag,0,none⟩=some (.int .i64 ab):=(zK ak.out 0).trans rfl
            have bF:ct.cell? ⟨ag,1,none⟩=some (.int .i64 t112):=(zK ak.out 1).trans rfl
            have bG:ct.cell? (al.add (((zI (zE aa ab) ad).f0)).toNat)=some (.slice (some aF) (zE aa ((zI (zE aa ab) ad).f0)).length aU):=((HB.out.cell (yqy w _ aE)).trans aE)
            have bH:ct.cell? (aF.add ((t111).toNat*2))=some (.int .i64 ((zI (zE aa ((zI (zE aa ab) ad).f0)) t111).f0)):=((HB.out.cell (yqy w _ aH)).trans aH)
            have bI:ct.cell? ⟨(aF.add ((t111).toNat*2)).block,(aF.add ((t111).toNat*2)).off+1,none⟩=some (.int .i64 ((zI (zE aa ((zI (zE aa ab) ad).f0)) t111).f1)):=((HB.out.cell (yqy w _ aG)).trans aG)
            go_quiet (fail)
            generalize hq_:World.drewN ct _=fs
            have ax:=zA.mk (zAJ hq_ af.out)
            have ay:=zA.mk (zAJ hq_ ae.out)
            have az:=zA.mk (zAJ hq_ ak.out)
            have aL:=zA.mk (zBt hq_ HB.out)
            clear af ae ak HB hq_ bB bC bD bE bF bG bH bI;have af:=ax;have ae:=ay;have ak:=az;have HB:=aL;clear ax ay az aL;try go_wp2
            go_ret;exact⟨by first|rfl|(simp [zU,zV] <;> rfl)|(simp [*,zU,zV] <;> rfl),by repeat(first|(with_reducible first|exact HB.out|apply zC|apply zB|apply zD|refine zF ?_ aj.out|refine zF ?_ ar.out|refine zF ?_ aQ.out)|exact HB.out)⟩
           rw[if_neg cV]at H
           have db:(!(((zI (zE aa ((zI (zE aa ab) ad).f0)) t111).f0)==ab)||(!(((zI (zE aa ((zI (zE aa ab) ad).f0)) t111).f1)==t112)))=false:=by simpa using cV
           clear cV;by_cases cL:((zI (zE aa ab) ad).f0)=ab
           case neg=>
            rw[if_neg cL]at H
            have dc:(((zI (zE aa ab) ad).f0)==ab)=false:=beq_eq_false_iff_ne.mpr cL
            have dd:(((zI (zE aa ab) ad).f0) != ab)=true:=bne_iff_ne.mpr cL
            have H':=zA.mk H
            clear H;have eU:=aI.out
            have eV:=aA.out
            have dF:wc.cell? ⟨ah,0,none⟩=some (.int .i64 ((zI (zE aa ab) ad).f0)):=(zK ae.out 0).trans rfl
            have dG:wc.cell? ⟨ah,1,none⟩=some (.int .i64 ((zI (zE aa ab) ad).f1)):=(zK ae.out 1).trans rfl
            have dH:=zP ae.out 0
            have dI:=zP ae.out 1
            try go_wp2_with (first|((with_reducible refine zd (f:=82) rfl ?_);refine qV (some 68) rfl rfl Try.func82 (by kernel_rfl) rfl #[.int .i64 ((zI (zE aa ab) ad).f1),.int .i64 ad] rfl (by(try simp only [yiy,yjy,yky]);first|done|rfl|(simp only [yly,ymy];rfl)) ?_;(with_reducible refine(qi.calls aR ((zI (zE aa ab) ad).f1) ad t111 _ dk.out).mono ?_);rintro e eW ⟨rfl,hb⟩;refine⟨_,rfl,?_⟩;have ax:=zA.mk (zO (g:=ai) (o := .cells #[.slice (some al) aa.length an] 35 (0,0)) (by(with_reducible repeat(first|refine zH ?_ _|refine zJ ?_|refine zG ?_ _));exact af.out) hb);have ay:=zA.mk (zO (g:=ah) (o := .cells #[.int .i64 ((zI (zE aa ab) ad).f0),.int .i64 ((zI (zE aa ab) ad).f1)] 75 (0,0)) (by(with_reducible repeat(first|refine zH ?_ _|refine zJ ?_|refine zG ?_ _));exact ae.out) hb);have az:=zA.mk (zM (by repeat(first|(with_reducible first|exact HB.out|apply zC|apply zB|apply zD|refine zF ?_ aj.out|refine zF ?_ ar.out)|exact HB.out)) hb);clear af;clear ae;clear HB;have af:=ax;have ae:=ay;have HB:=az;clear ax ay az;(try clear hb);(try clear hb2);(try clear hk);(try clear hi);have dJ:eW.cell? ⟨ah,0,none⟩=some (.int .i64 ((zI (zE aa ab) ad).f0)):=(zK ae.out 0).trans rfl;have dK:eW.cell? ⟨ah,1,none⟩=some (.int .i64 ((zI (zE aa ab) ad).f1)):=(zK ae.out 1).trans rfl;have dL:=zP ae.out 0;have dM:=zP ae.out 1)|((with_reducible refine zd (f:=83) rfl ?_);refine qV (some 72) rfl rfl Try.func83 (by kernel_rfl) rfl #[.int .i64 ((zI (zE aa ab) ad).f1)] rfl (by(try simp only [yiy,yjy,yky]);first|done|rfl|(simp only [yly,ymy];rfl)) ?_;(with_reducible refine(qM.calls aR ((zI (zE aa ab) ad).f1) t112 _ dm.out).mono ?_);rintro e ft ⟨rfl,hb⟩;refine⟨_,rfl,?_⟩;have ax:=zA.mk (zO (g:=ai) (o := .cells #[.slice (some al) aa.length an] 35 (0,0)) (by(with_reducible repeat(first|refine zH ?_ _|refine zJ ?_|refine zG ?_ _));exact af.out) hb);have ay:=zA.mk (zO (g:=ah) (o := .cells #[.int .i64 ((zI (zE aa ab) ad).f0),.int .i64 ((zI (zE aa ab) ad).f1)] 75 (0,0)) (by(with_reducible repeat(first|refine zH ?_ _|refine zJ ?_|refine zG ?_ _));exact ae.out) hb);have az:=zA.mk (zM (by repeat(first|(with_reducible first|exact HB.out|apply zC|apply zB|apply zD|refine zF ?_ aj.out|refine zF ?_ ar.out)|exact HB.out)) hb);clear af;clear ae;clear HB;have af:=ax;have ae:=ay;have HB:=az;clear ax ay az;(try clear hb);(try clear hb2);(try clear hk);(try clear hi))|((with_reducible refine zw (N:=8) rfl ?_);refine zz ?hg (N:=8) ?hd (cs:=#[.int .i64 0,.int .i64 0]) (t:=75) ?hr ?_;(case hd=>rfl);(case hg=>rfl);(case hr=>first|(go_simp;done)|(go_simp;rfl));intro ag hg cM hbox hb;have ax:=zA.mk (zO (g:=ai) (o := .cells #[.slice (some al) aa.length an] 35 (0,0)) (by(with_reducible repeat(first|refine zH ?_ _|refine zJ ?_|refine zG ?_ _));exact af.out) hb);have ay:=zA.mk (zO (g:=ah) (o := .cells #[.int .i64 ((zI (zE aa ab) ad).f0),.int .i64 ((zI (zE aa ab) ad).f1)] 75 (0,0)) (by(with_reducible repeat(first|refine zH ?_ _|refine zJ ?_|refine zG ?_ _));exact ae.out) hb);have az:=zA.mk (zM (by repeat(first|(with_reducible first|exact HB.out|apply zC|apply zB|apply zD|refine zF ?_ aj.out|refine zF ?_ ar.out)|exact HB.out)) hb);have aL:=zA.mk (hbox);have bQ:=zA.mk ((by rw[hg];exact(zQ (by repeat(first|(with_reducible first|exact HB.out|apply zC|apply zB|apply zD|refine zF ?_ aj.out|refine zF ?_ ar.out)|exact HB.out))):w.heap.size≤ag));have bR:=zA.mk ((by rw[hg];exact(zQ (by repeat(first|(with_reducible first|exact HB.out|apply zC|apply zB|apply zD|refine zF ?_ aj.out|refine zF ?_ ar.out)|exact HB.out))):w.heap.size≤ag));have bS:=zA.mk ((by rw[hg];exact Nat.ne_of_lt (qT (g:=ai) (o := .cells #[.slice (some al) aa.length an] 35 (0,0)) (by(with_reducible repeat(first|refine zH ?_ _|refine zJ ?_|refine zG ?_ _));exact af.out)):ai≠ag));have cf:=zA.mk ((by rw[hg];exact Nat.ne_of_gt (qT (g:=ai) (o := .cells #[.slice (some al) aa.length an] 35 (0,0)) (by(with_reducible repeat(first|refine zH ?_ _|refine zJ ?_|refine zG ?_ _));exact af.out)):ag≠ai));have cg:=zA.mk ((by rw[hg];exact Nat.ne_of_lt (qT (g:=ah) (o := .cells #[.int .i64 ((zI (zE aa ab) ad).f0),.int .i64 ((zI (zE aa ab) ad).f1)] 75 (0,0)) (by(with_reducible repeat(first|refine zH ?_ _|refine zJ ?_|refine zG ?_ _));exact ae.out)):ah≠ag));have ch:=zA.mk ((by rw[hg];exact Nat.ne_of_gt (qT (g:=ah) (o := .cells #[.int .i64 ((zI (zE aa ab) ad).f0),.int .i64 ((zI (zE aa ab) ad).f1)] 75 (0,0)) (by(with_reducible repeat(first|refine zH ?_ _|refine zJ ?_|refine zG ?_ _));exact ae.out)):ag≠ah));clear af;clear ae;clear HB;have af:=ax;have ae:=ay;have HB:=az;have ak:=aL;have cj:=bQ;have aQ:=bR;have ao:=bS;have aJ:=cf;have aq:=cg;have aK:=ch;clear ax ay az aL bQ bR bS cf cg ch;clear hb hbox hg;have eX:=aJ.out;have eY:=ao.out;have eZ:=aK.out;have e0:=aq.out;have dN:cM.cell? ⟨ag,0,none⟩=some (.int .i64 0):=(zK ak.out 0).trans rfl;have dO:cM.cell? ⟨ag,1,none⟩=some (.int .i64 0):=(zK ak.out 1).trans rfl;have dP:=zP ak.out 0;have dQ:=zP ak.out 1))
            have ax:zA (((cM.setCell ⟨ag,0,none⟩ (.int .i64 ab)).setCell ⟨ag,1,none⟩ (.int .i64 t112)).heap[ai]?=some (.cells #[.slice (some al) aa.length an] 35 (0,0))):=⟨by(with_reducible repeat(first|refine zH ?_ _|refine zJ ?_|refine zG ?_ _));refine qJ ?_ ao.out _;(with_reducible repeat(first|refine zH ?_ _|refine zJ ?_|refine zG ?_ _));refine qJ ?_ ao.out _;(with_reducible repeat(first|refine zH ?_ _|refine zJ ?_|refine zG ?_ _));exact af.out⟩
            have ay:zA (((cM.setCell ⟨ag,0,none⟩ (.int .i64 ab)).setCell ⟨ag,1,none⟩ (.int .i64 t112)).heap[ah]?=some (.cells #[.int .i64 ((zI (zE aa ab) ad).f0),.int .i64 ((zI (zE aa ab) ad).f1)] 75 (0,0))):=⟨by(with_reducible repeat(first|refine zH ?_ _|refine zJ ?_|refine zG ?_ _));refine qJ ?_ aq.out _;(with_reducible repeat(first|refine zH ?_ _|refine zJ ?_|refine zG ?_ _));refine qJ ?_ aq.out _;(with_reducible repeat(first|refine zH ?_ _|refine zJ ?_|refine zG ?_ _));exact ae.out⟩
            have az:zA (((cM.setCell ⟨ag,0,none⟩ (.int .i64 ab)).setCell ⟨ag,1,none⟩ (.int .i64 t112)).heap[ag]?=some (.cells #[.int .i64 ab,.int .i64 t112] 75 (0,0))):=⟨by(with_reducible repeat(first|refine zH ?_ _|refine zJ ?_|refine zG ?_ _));refine qf (cs:=#[.int .i64 ab,.int .i64 0]) ?_ 1 _ rfl;(with_reducible repeat(first|refine zH ?_ _|refine zJ ?_|refine zG ?_ _));refine qf (cs:=#[.int .i64 0,.int .i64 0]) ?_ 0 _ rfl;(with_reducible repeat(first|refine zH ?_ _|refine zJ ?_|refine zG ?_ _));exact ak.out⟩
            have aL:zA (Below w.heap.size w ((cM.setCell ⟨ag,0,none⟩ (.int .i64 ab)).setCell ⟨ag,1,none⟩ (.int .i64 t112))):=⟨by repeat(first|(with_reducible first|exact HB.out|apply zC|apply zB|apply zD|refine zF ?_ aj.out|refine zF ?_ ar.out|refine zF ?_ aQ.out)|exact HB.out)⟩
            (try clear af)
            (try clear ae)
            (try clear ak)
            (try clear HB)
            generalize ((cM.setCell ⟨ag,0,none⟩ (.int .i64 ab)).setCell ⟨ag,1,none⟩ (.int .i64 t112))=cu at ax ay az aL ⊢
            have af:=ax;have ae:=ay;have ak:=az;have HB:=aL;clear ax ay az aL;have aS:0≤(((zI (zE aa ab) ad).f0):Int):=of_decide_eq_true (by first|(with_reducible assumption)|assumption)
            have aT:((zI (zE aa ab) ad).f0)<(aa.length:Int):=of_decide_eq_true (by first|(with_reducible assumption)|assumption)
            obtain⟨bk,bx,aU,bz,au,aC,aD⟩:=ZY aN.out ((zI (zE aa ab) ad).f0) aS aT
            have aE:=au;obtain rfl:al=bk:=(by injection bz)
            replace au:=(HB.out.cell (yqy w _ au)).trans au
            have aP:=zA.mk aD
            have bq:=zA.mk aC
            clear aD aC;replace aS:=eq_true aS
            replace aT:=eq_true aT
            have aV:0≤(t111:Int):=of_decide_eq_true (by first|(with_reducible assumption)|assumption)
            have aW:t111<((zE aa ((zI (zE aa ab) ad).f0)).length:Int):=of_decide_eq_true (by first|(with_reducible assumption)|assumption)
            obtain⟨aF,bA,av,aw⟩:=QF aP.out t111 aV aW
            have aG:=aw;have aH:=av
            cases bA
            replace av:=(HB.out.cell (yqy w _ av)).trans av
            replace aw:=(HB.out.cell (yqy w _ aw)).trans aw
            replace aV:=eq_true aV
            replace aW:=eq_true aW
            have bB:cu.cell? ⟨ai,0,none⟩=some (.slice (some al) aa.length an):=(zK af.out 0).trans rfl
            have bC:cu.cell? ⟨ah,0,none⟩=some (.int .i64 ((zI (zE aa ab) ad).f0)):=(zK ae.out 0).trans rfl
            have bD:cu.cell? ⟨ah,1,none⟩=some (.int .i64 ((zI (zE aa ab) ad).f1)):=(zK ae.out 1).trans rfl
            have bE:cu.cell? ⟨ag,0,none⟩=some (.int .i64 ab):=(zK ak.out 0).trans rfl
            have bF:cu.cell? ⟨ag,1,none⟩=some (.int .i64 t112):=(zK ak.out 1).trans rfl
            have bG:cu.cell? (al.add (((zI (zE aa ab) ad).f0)).toNat)=some (.slice (some aF) (zE aa ((zI (zE aa ab) ad).f0)).length aU):=((HB.out.cell (yqy w _ aE)).trans aE)
            have bH:cu.cell? (aF.add ((t111).toNat*2))=some (.int .i64 ((zI (zE aa ((zI (zE aa ab) ad).f0)) t111).f0)):=((HB.out.cell (yqy w _ aH)).trans aH)
            have bI:cu.cell? ⟨(aF.add ((t111).toNat*2)).block,(aF.add ((t111).toNat*2)).off+1,none⟩=some (.int .i64 ((zI (zE aa ((zI (zE aa ab) ad).f0)) t111).f1)):=((HB.out.cell (yqy w _ aG)).trans aG)
            go_quiet (fail)
            generalize hq_:World.drewN cu _=fu
            have ax:=zA.mk (zAJ hq_ af.out)
            have ay:=zA.mk (zAJ hq_ ae.out)
            have az:=zA.mk (zAJ hq_ ak.out)
            have aL:=zA.mk (zBt hq_ HB.out)
            clear af ae ak HB hq_ bB bC bD bE bF bG bH bI;have af:=ax;have ae:=ay;have ak:=az;have HB:=aL;clear ax ay az aL;try go_wp2
            go_roundg aR
            case measure=>have:=bJ.out;have:=b6.out;have:=b7.out;have:=bu.out;have:=cr.out;omega
            case rel=>exact⟨(wrap64 (ad+1)),(by first|rfl|(simp;done)|(simp [*];done)),H',⟨by have:=bJ.out;have:=b6.out;have:=b7.out;have:=bu.out;have:=cr.out;omega⟩,⟨by(with_reducible repeat(first|refine zH ?_ _|refine zJ ?_|refine zG ?_ _));exact af.out⟩,⟨by repeat(first|(with_reducible first|exact HB.out|apply zC|apply zB|apply zD|refine zF ?_ aj.out|refine zF ?_ ar.out|refine zF ?_ aQ.out)|exact HB.out)⟩⟩
           rw[if_pos cL]at H
           have dc:(((zI (zE aa ab) ad).f0)==ab)=true:=beq_iff_eq.mpr cL
           have dd:(((zI (zE aa ab) ad).f0) != ab)=false:=bne_eq_false_iff_eq.mpr cL
           clear cL;by_cases cN:t111=ad
           next=>
            rw[if_pos cN]at H
            have de:(t111==ad)=true:=beq_iff_eq.mpr cN
            have df:(t111 != ad)=false:=bne_eq_false_iff_eq.mpr cN
            clear cN;obtain rfl:=yey H
            have e1:=aI.out
            have e2:=aA.out
            have dR:wc.cell? ⟨ah,0,none⟩=some (.int .i64 ((zI (zE aa ab) ad).f0)):=(zK ae.out 0).trans rfl
            have dS:wc.cell? ⟨ah,1,none⟩=some (.int .i64 ((zI (zE aa ab) ad).f1)):=(zK ae.out 1).trans rfl
            have dT:=zP ae.out 0
            have dU:=zP ae.out 1
            try go_wp2_with (first|((with_reducible refine zd (f:=82) rfl ?_);refine qV (some 68) rfl rfl Try.func82 (by kernel_rfl) rfl #[.int .i64 ((zI (zE aa ab) ad).f1),.int .i64 ad] rfl (by(try simp only [yiy,yjy,yky]);first|done|rfl|(simp only [yly,ymy];rfl)) ?_;(with_reducible refine(qi.calls aR ((zI (zE aa ab) ad).f1) ad t111 _ dk.out).mono ?_);rintro e e3 ⟨rfl,hb⟩;refine⟨_,rfl,?_⟩;have ax:=zA.mk (zO (g:=ai) (o := .cells #[.slice (some al) aa.length an] 35 (0,0)) (by(with_reducible repeat(first|refine zH ?_ _|refine zJ ?_|refine zG ?_ _));exact af.out) hb);have ay:=zA.mk (zO (g:=ah) (o := .cells #[.int .i64 ((zI (zE aa ab) ad).f0),.int .i64 ((zI (zE aa ab) ad).f1)] 75 (0,0)) (by(with_reducible repeat(first|refine zH ?_ _|refine zJ ?_|refine zG ?_ _));exact ae.out) hb);have az:=zA.mk (zM (by repeat(first|(with_reducible first|exact HB.out|apply zC|apply zB|apply zD|refine zF ?_ aj.out|refine zF ?_ ar.out)|exact HB.out)) hb);clear af;clear ae;clear HB;have af:=ax;have ae:=ay;have HB:=az;clear ax ay az;(try clear hb);(try clear hb2);(try clear hk);(try clear hi);have dV:e3.cell? ⟨ah,0,none⟩=some (.int .i64 ((zI (zE aa ab) ad).f0)):=(zK ae.out 0).trans rfl;have dW:e3.cell? ⟨ah,1,none⟩=some (.int .i64 ((zI (zE aa ab) ad).f1)):=(zK ae.out 1).trans rfl;have dX:=zP ae.out 0;have dY:=zP ae.out 1)|((with_reducible refine zd (f:=83) rfl ?_);refine qV (some 72) rfl rfl Try.func83 (by kernel_rfl) rfl #[.int .i64 ((zI (zE aa ab) ad).f1)] rfl (by(try simp only [yiy,yjy,yky]);first|done|rfl|(simp only [yly,ymy];rfl)) ?_;(with_reducible refine(qM.calls aR ((zI (zE aa ab) ad).f1) t112 _ dm.out).mono ?_);rintro e fv ⟨rfl,hb⟩;refine⟨_,rfl,?_⟩;have ax:=zA.mk (zO (g:=ai) (o := .cells #[.slice (some al) aa.length an] 35 (0,0)) (by(with_reducible repeat(first|refine zH ?_ _|refine zJ ?_|refine zG ?_ _));exact af.out) hb);have ay:=zA.mk (zO (g:=ah) (o := .cells #[.int .i64 ((zI (zE aa ab) ad).f0),.int .i64 ((zI (zE aa ab) ad).f1)] 75 (0,0)) (by(with_reducible repeat(first|refine zH ?_ _|refine zJ ?_|refine zG ?_ _));exact ae.out) hb);have az:=zA.mk (zM (by repeat(first|(with_reducible first|exact HB.out|apply zC|apply zB|apply zD|refine zF ?_ aj.out|refine zF ?_ ar.out)|exact HB.out)) hb);clear af;clear ae;clear HB;have af:=ax;have ae:=ay;have HB:=az;clear ax ay az;(try clear hb);(try clear hb2);(try clear hk);(try clear hi))|((with_reducible refine zw (N:=8) rfl ?_);refine zz ?hg (N:=8) ?hd (cs:=#[.int .i64 0,.int .i64 0]) (t:=75) ?hr ?_;(case hd=>rfl);(case hg=>rfl);(case hr=>first|(go_simp;done)|(go_simp;rfl));intro ag hg cO hbox hb;have ax:=zA.mk (zO (g:=ai) (o := .cells #[.slice (some al) aa.length an] 35 (0,0)) (by(with_reducible repeat(first|refine zH ?_ _|refine zJ ?_|refine zG ?_ _));exact af.out) hb);have ay:=zA.mk (zO (g:=ah) (o := .cells #[.int .i64 ((zI (zE aa ab) ad).f0),.int .i64 ((zI (zE aa ab) ad).f1)] 75 (0,0)) (by(with_reducible repeat(first|refine zH ?_ _|refine zJ ?_|refine zG ?_ _));exact ae.out) hb);have az:=zA.mk (zM (by repeat(first|(with_reducible first|exact HB.out|apply zC|apply zB|apply zD|refine zF ?_ aj.out|refine zF ?_ ar.out)|exact HB.out)) hb);have aL:=zA.mk (hbox);have bQ:=zA.mk ((by rw[hg];exact(zQ (by repeat(first|(with_reducible first|exact HB.out|apply zC|apply zB|apply zD|refine zF ?_ aj.out|refine zF ?_ ar.out)|exact HB.out))):w.heap.size≤ag));have bR:=zA.mk ((by rw[hg];exact(zQ (by repeat(first|(with_reducible first|exact HB.out|apply zC|apply zB|apply zD|refine zF ?_ aj.out|refine zF ?_ ar.out)|exact HB.out))):w.heap.size≤ag));have bS:=zA.mk ((by rw[hg];exact Nat.ne_of_lt (qT (g:=ai) (o := .cells #[.slice (some al) aa.length an] 35 (0,0)) (by(with_reducible repeat(first|refine zH ?_ _|refine zJ ?_|refine zG ?_ _));exact af.out)):ai≠ag));have cf:=zA.mk ((by rw[hg];exact Nat.ne_of_gt (qT (g:=ai) (o := .cells #[.slice (some al) aa.length an] 35 (0,0)) (by(with_reducible repeat(first|refine zH ?_ _|refine zJ ?_|refine zG ?_ _));exact af.out)):ag≠ai));have cg:=zA.mk ((by rw[hg];exact Nat.ne_of_lt (qT (g:=ah) (o := .cells #[.int .i64 ((zI (zE aa ab) ad).f0),.int .i64 ((zI (zE aa ab) ad).f1)] 75 (0,0)) (by(with_reducible repeat(first|refine zH ?_ _|refine zJ ?_|refine zG ?_ _));exact ae.out)):ah≠ag));have ch:=zA.mk ((by rw[hg];exact Nat.ne_of_gt (qT (g:=ah) (o := .cells #[.int .i64 ((zI (zE aa ab) ad).f0),.int .i64 ((zI (zE aa ab) ad).f1)] 75 (0,0)) (by(with_reducible repeat(first|refine zH ?_ _|refine zJ ?_|refine zG ?_ _));exact ae.out)):ag≠ah));clear af;clear ae;clear HB;have af:=ax;have ae:=ay;have HB:=az;have ak:=aL;have cj:=bQ;have aQ:=bR;have ao:=bS;have aJ:=cf;have aq:=cg;have aK:=ch;clear ax ay az aL bQ bR bS cf cg ch;clear hb hbox hg;have e4:=aJ.out;have e5:=ao.out;have e6:=aK.out;have e7:=aq.out;have dZ:cO.cell? ⟨ag,0,none⟩=some (.int .i64 0):=(zK ak.out 0).trans rfl;have d_:cO.cell? ⟨ag,1,none⟩=some (.int .i64 0):=(zK ak.out 1).trans rfl;have ea:=zP ak.out 0;have eb:=zP ak.out 1))
            have ax:zA (((cO.setCell ⟨ag,0,none⟩ (.int .i64 ab)).setCell ⟨ag,1,none⟩ (.int .i64 t112)).heap[ai]?=some (.cells #[.slice (some al) aa.length an] 35 (0,0))):=⟨by(with_reducible repeat(first|refine zH ?_ _|refine zJ ?_|refine zG ?_ _));refine qJ ?_ ao.out _;(with_reducible repeat(first|refine zH ?_ _|refine zJ ?_|refine zG ?_ _));refine qJ ?_ ao.out _;(with_reducible repeat(first|refine zH ?_ _|refine zJ ?_|refine zG ?_ _));exact af.out⟩
            have ay:zA (((cO.setCell ⟨ag,0,none⟩ (.int .i64 ab)).setCell ⟨ag,1,none⟩ (.int .i64 t112)).heap[ah]?=some (.cells #[.int .i64 ((zI (zE aa ab) ad).f0),.int .i64 ((zI (zE aa ab) ad).f1)] 75 (0,0))):=⟨by(with_reducible repeat(first|refine zH ?_ _|refine zJ ?_|refine zG ?_ _));refine qJ ?_ aq.out _;(with_reducible repeat(first|refine zH ?_ _|refine zJ ?_|refine zG ?_ _));refine qJ ?_ aq.out _;(with_reducible repeat(first|refine zH ?_ _|refine zJ ?_|refine zG ?_ _));exact ae.out⟩
            have az:zA (((cO.setCell ⟨ag,0,none⟩ (.int .i64 ab)).setCell ⟨ag,1,none⟩ (.int .i64 t112)).heap[ag]?=some (.cells #[.int .i64 ab,.int .i64 t112] 75 (0,0))):=⟨by(with_reducible repeat(first|refine zH ?_ _|refine zJ ?_|refine zG ?_ _));refine qf (cs:=#[.int .i64 ab,.int .i64 0]) ?_ 1 _ rfl;(with_reducible repeat(first|refine zH ?_ _|refine zJ ?_|refine zG ?_ _));refine qf (cs:=#[.int .i64 0,.int .i64 0]) ?_ 0 _ rfl;(with_reducible repeat(first|refine zH ?_ _|refine zJ ?_|refine zG ?_ _));exact ak.out⟩
            have aL:zA (Below w.heap.size w ((cO.setCell ⟨ag,0,none⟩ (.int .i64 ab)).setCell ⟨ag,1,none⟩ (.int .i64 t112))):=⟨by repeat(first|(with_reducible first|exact HB.out|apply zC|apply zB|apply zD|refine zF ?_ aj.out|refine zF ?_ ar.out|refine zF ?_ aQ.out)|exact HB.out)⟩
            (try clear af)
            (try clear ae)
            (try clear ak)
            (try clear HB)
            generalize ((cO.setCell ⟨ag,0,none⟩ (.int .i64 ab)).setCell ⟨ag,1,none⟩ (.int .i64 t112))=cv at ax ay az aL ⊢
            have af:=ax;have ae:=ay;have ak:=az;have HB:=aL;clear ax ay az aL;have aS:0≤(((zI (zE aa ab) ad).f0):Int):=of_decide_eq_true (by first|(with_reducible assumption)|assumption)
            have aT:((zI (zE aa ab) ad).f0)<(aa.length:Int):=of_decide_eq_true (by first|(with_reducible assumption)|assumption)
            obtain⟨bk,bx,aU,bz,au,aC,aD⟩:=ZY aN.out ((zI (zE aa ab) ad).f0) aS aT
            have aE:=au;obtain rfl:al=bk:=(by injection bz)
            replace au:=(HB.out.cell (yqy w _ au)).trans au
            have aP:=zA.mk aD
            have bq:=zA.mk aC
            clear aD aC;replace aS:=eq_true aS
            replace aT:=eq_true aT
            have aV:0≤(t111:Int):=of_decide_eq_true (by first|(with_reducible assumption)|assumption)
            have aW:t111<((zE aa ((zI (zE aa ab) ad).f0)).length:Int):=of_decide_eq_true (by first|(with_reducible assumption)|assumption)
            obtain⟨aF,bA,av,aw⟩:=QF aP.out t111 aV aW
            have aG:=aw;have aH:=av
            cases bA
            replace av:=(HB.out.cell (yqy w _ av)).trans av
            replace aw:=(HB.out.cell (yqy w _ aw)).trans aw
            replace aV:=eq_true aV
            replace aW:=eq_true aW
            have bB:cv.cell? ⟨ai,0,none⟩=some (.slice (some al) aa.length an):=(zK af.out 0).trans rfl
            have bC:cv.cell? ⟨ah,0,none⟩=some (.int .i64 ((zI (zE aa ab) ad).f0)):=(zK ae.out 0).trans rfl
            have bD:cv.cell? ⟨ah,1,none⟩=some (.int .i64 ((zI (zE aa ab) ad).f1)):=(zK ae.out 1).trans rfl
            have bE:cv.cell? ⟨ag,0,none⟩=some (.int .i64 ab):=(zK ak.out 0).trans rfl
            have bF:cv.cell? ⟨ag,1,none⟩=some (.int .i64 t112):=(zK ak.out 1).trans rfl
            have bG:cv.cell? (al.add (((zI (zE aa ab) ad).f0)).toNat)=some (.slice (some aF) (zE aa ((zI (zE aa ab) ad).f0)).length aU):=((HB.out.cell (yqy w _ aE)).trans aE)
            have bH:cv.cell? (aF.add ((t111).toNat*2))=some (.int .i64 ((zI (zE aa ((zI (zE aa ab) ad).f0)) t111).f0)):=((HB.out.cell (yqy w _ aH)).trans aH)
            have bI:cv.cell? ⟨(aF.add ((t111).toNat*2)).block,(aF.add ((t111).toNat*2)).off+1,none⟩=some (.int .i64 ((zI (zE aa ((zI (zE aa ab) ad).f0)) t111).f1)):=((HB.out.cell (yqy w _ aG)).trans aG)
            go_quiet (fail)
            generalize hq_:World.drewN cv _=fw
            have ax:=zA.mk (zAJ hq_ af.out)
            have ay:=zA.mk (zAJ hq_ ae.out)
            have az:=zA.mk (zAJ hq_ ak.out)
            have aL:=zA.mk (zBt hq_ HB.out)
            clear af ae ak HB hq_ bB bC bD bE bF bG bH bI;have af:=ax;have ae:=ay;have ak:=az;have HB:=aL;clear ax ay az aL;try go_wp2
            go_ret;exact⟨by first|rfl|(simp [zU,zV] <;> rfl)|(simp [*,zU,zV] <;> rfl),by repeat(first|(with_reducible first|exact HB.out|apply zC|apply zB|apply zD|refine zF ?_ aj.out|refine zF ?_ ar.out|refine zF ?_ aQ.out)|exact HB.out)⟩
           rw[if_neg cN]at H
           have de:(t111==ad)=false:=beq_eq_false_iff_ne.mpr cN
           have df:(t111 != ad)=true:=bne_iff_ne.mpr cN
           have H':=zA.mk H
           clear H;have e8:=aI.out
           have e9:=aA.out
           have ec:wc.cell? ⟨ah,0,none⟩=some (.int .i64 ((zI (zE aa ab) ad).f0)):=(zK ae.out 0).trans rfl
           have ed:wc.cell? ⟨ah,1,none⟩=some (.int .i64 ((zI (zE aa ab) ad).f1)):=(zK ae.out 1).trans rfl
           have ee:=zP ae.out 0
           have ef:=zP ae.out 1
           try go_wp2_with (first|((with_reducible refine zd (f:=82) rfl ?_);refine qV (some 68) rfl rfl Try.func82 (by kernel_rfl) rfl #[.int .i64 ((zI (zE aa ab) ad).f1),.int .i64 ad] rfl (by(try simp only [yiy,yjy,yky]);first|done|rfl|(simp only [yly,ymy];rfl)) ?_;(with_reducible refine(qi.calls aR ((zI (zE aa ab) ad).f1) ad t111 _ dk.out).mono ?_);rintro e e_ ⟨rfl,hb⟩;refine⟨_,rfl,?_⟩;have ax:=zA.mk (zO (g:=ai) (o := .cells #[.slice (some al) aa.length an] 35 (0,0)) (by(with_reducible repeat(first|refine zH ?_ _|refine zJ ?_|refine zG ?_ _));exact af.out) hb);have ay:=zA.mk (zO (g:=ah) (o := .cells #[.int .i64 ((zI (zE aa ab) ad).f0),.int .i64 ((zI (zE aa ab) ad).f1)] 75 (0,0)) (by(with_reducible repeat(first|refine zH ?_ _|refine zJ ?_|refine zG ?_ _));exact ae.out) hb);have az:=zA.mk (zM (by repeat(first|(with_reducible first|exact HB.out|apply zC|apply zB|apply zD|refine zF ?_ aj.out|refine zF ?_ ar.out)|exact HB.out)) hb);clear af;clear ae;clear HB;have af:=ax;have ae:=ay;have HB:=az;clear ax ay az;(try clear hb);(try clear hb2);(try clear hk);(try clear hi);have eg:e_.cell? ⟨ah,0,none⟩=some (.int .i64 ((zI (zE aa ab) ad).f0)):=(zK ae.out 0).trans rfl;have eh:e_.cell? ⟨ah,1,none⟩=some (.int .i64 ((zI (zE aa ab) ad).f1)):=(zK ae.out 1).trans rfl;have ei:=zP ae.out 0;have ej:=zP ae.out 1)|((with_reducible refine zd (f:=83) rfl ?_);refine qV (some 72) rfl rfl Try.func83 (by kernel_rfl) rfl #[.int .i64 ((zI (zE aa ab) ad).f1)] rfl (by(try simp only [yiy,yjy,yky]);first|done|rfl|(simp only [yly,ymy];rfl)) ?_;(with_reducible refine(qM.calls aR ((zI (zE aa ab) ad).f1) t112 _ dm.out).mono ?_);rintro e fx ⟨rfl,hb⟩;refine⟨_,rfl,?_⟩;have ax:=zA.mk (zO (g:=ai) (o := .cells #[.slice (some al) aa.length an] 35 (0,0)) (by(with_reducible repeat(first|refine zH ?_ _|refine zJ ?_|refine zG ?_ _));exact af.out) hb);have ay:=zA.mk (zO (g:=ah) (o := .cells #[.int .i64 ((zI (zE aa ab) ad).f0),.int .i64 ((zI (zE aa ab) ad).f1)] 75 (0,0)) (by(with_reducible repeat(first|refine zH ?_ _|refine zJ ?_|refine zG ?_ _));exact ae.out) hb);have az:=zA.mk (zM (by repeat(first|(with_reducible first|exact HB.out|apply zC|apply zB|apply zD|refine zF ?_ aj.out|refine zF ?_ ar.out)|exact HB.out)) hb);clear af;clear ae;clear HB;have af:=ax;have ae:=ay;have HB:=az;clear ax ay az;(try clear hb);(try clear hb2);(try clear hk);(try clear hi))|((with_reducible refine zw (N:=8) rfl ?_);refine zz ?hg (N:=8) ?hd (cs:=#[.int .i64 0,.int .i64 0]) (t:=75) ?hr ?_;(case hd=>rfl);(case hg=>rfl);(case hr=>first|(go_simp;done)|(go_simp;rfl));intro ag hg cP hbox hb;have ax:=zA.mk (zO (g:=ai) (o := .cells #[.slice (some al) aa.length an] 35 (0,0)) (by(with_reducible repeat(first|refine zH ?_ _|refine zJ ?_|refine zG ?_ _));exact af.out) hb);have ay:=zA.mk (zO (g:=ah) (o := .cells #[.int .i64 ((zI (zE aa ab) ad).f0),.int .i64 ((zI (zE aa ab) ad).f1)] 75 (0,0)) (by(with_reducible repeat(first|refine zH ?_ _|refine zJ ?_|refine zG ?_ _));exact ae.out) hb);have az:=zA.mk (zM (by repeat(first|(with_reducible first|exact HB.out|apply zC|apply zB|apply zD|refine zF ?_ aj.out|refine zF ?_ ar.out)|exact HB.out)) hb);have aL:=zA.mk (hbox);have bQ:=zA.mk ((by rw[hg];exact(zQ (by repeat(first|(with_reducible first|exact HB.out|apply zC|apply zB|apply zD|refine zF ?_ aj.out|refine zF ?_ ar.out)|exact HB.out))):w.heap.size≤ag));have bR:=zA.mk ((by rw[hg];exact(zQ (by repeat(first|(with_reducible first|exact HB.out|apply zC|apply zB|apply zD|refine zF ?_ aj.out|refine zF ?_ ar.out)|exact HB.out))):w.heap.size≤ag));have bS:=zA.mk ((by rw[hg];exact Nat.ne_of_lt (qT (g:=ai) (o := .cells #[.slice (some al) aa.length an] 35 (0,0)) (by(with_reducible repeat(first|refine zH ?_ _|refine zJ ?_|refine zG ?_ _));exact af.out)):ai≠ag));have cf:=zA.mk ((by rw[hg];exact Nat.ne_of_gt (qT (g:=ai) (o := .cells #[.slice (some al) aa.length an] 35 (0,0)) (by(with_reducible repeat(first|refine zH ?_ _|refine zJ ?_|refine zG ?_ _));exact af.out)):ag≠ai));have cg:=zA.mk ((by rw[hg];exact Nat.ne_of_lt (qT (g:=ah) (o := .cells #[.int .i64 ((zI (zE aa ab) ad).f0),.int .i64 ((zI (zE aa ab) ad).f1)] 75 (0,0)) (by(with_reducible repeat(first|refine zH ?_ _|refine zJ ?_|refine zG ?_ _));exact ae.out)):ah≠ag));have ch:=zA.mk ((by rw[hg];exact Nat.ne_of_gt (qT (g:=ah) (o := .cells #[.int .i64 ((zI (zE aa ab) ad).f0),.int .i64 ((zI (zE aa ab) ad).f1)] 75 (0,0)) (by(with_reducible repeat(first|refine zH ?_ _|refine zJ ?_|refine zG ?_ _));exact ae.out)):ag≠ah));clear af;clear ae;clear HB;have af:=ax;have ae:=ay;have HB:=az;have ak:=aL;have cj:=bQ;have aQ:=bR;have ao:=bS;have aJ:=cf;have aq:=cg;have aK:=ch;clear ax ay az aL bQ bR bS cf cg ch;clear hb hbox hg;have fa:=aJ.out;have fb:=ao.out;have fe:=aK.out;have ff:=aq.out;have ek:cP.cell? ⟨ag,0,none⟩=some (.int .i64 0):=(zK ak.out 0).trans rfl;have en:cP.cell? ⟨ag,1,none⟩=some (.int .i64 0):=(zK ak.out 1).trans rfl;have eo:=zP ak.out 0;have ep:=zP ak.out 1))
           have ax:zA (((cP.setCell ⟨ag,0,none⟩ (.int .i64 ab)).setCell ⟨ag,1,none⟩ (.int .i64 t112)).heap[ai]?=some (.cells #[.slice (some al) aa.length an] 35 (0,0))):=⟨by(with_reducible repeat(first|refine zH ?_ _|refine zJ ?_|refine zG ?_ _));refine qJ ?_ ao.out _;(with_reducible repeat(first|refine zH ?_ _|refine zJ ?_|refine zG ?_ _));refine qJ ?_ ao.out _;(with_reducible repeat(first|refine zH ?_ _|refine zJ ?_|refine zG ?_ _));exact af.out⟩
           have ay:zA (((cP.setCell ⟨ag,0,none⟩ (.int .i64 ab)).setCell ⟨ag,1,none⟩ (.int .i64 t112)).heap[ah]?=some (.cells #[.int .i64 ((zI (zE aa ab) ad).f0),.int .i64 ((zI (zE aa ab) ad).f1)] 75 (0,0))):=⟨by(with_reducible repeat(first|refine zH ?_ _|refine zJ ?_|refine zG ?_ _));refine qJ ?_ aq.out _;(with_reducible repeat(first|refine zH ?_ _|refine zJ ?_|refine zG ?_ _));refine qJ ?_ aq.out _;(with_reducible repeat(first|refine zH ?_ _|refine zJ ?_|refine zG ?_ _));exact ae.out⟩
           have az:zA (((cP.setCell ⟨ag,0,none⟩ (.int .i64 ab)).setCell ⟨ag,1,none⟩ (.int .i64 t112)).heap[ag]?=some (.cells #[.int .i64 ab,.int .i64 t112] 75 (0,0))):=⟨by(with_reducible repeat(first|refine zH ?_ _|refine zJ ?_|refine zG ?_ _));refine qf (cs:=#[.int .i64 ab,.int .i64 0]) ?_ 1 _ rfl;(with_reducible repeat(first|refine zH ?_ _|refine zJ ?_|refine zG ?_ _));refine qf (cs:=#[.int .i64 0,.int .i64 0]) ?_ 0 _ rfl;(with_reducible repeat(first|refine zH ?_ _|refine zJ ?_|refine zG ?_ _));exact ak.out⟩
           have aL:zA (Below w.heap.size w ((cP.setCell ⟨ag,0,none⟩ (.int .i64 ab)).setCell ⟨ag,1,none⟩ (.int .i64 t112))):=⟨by repeat(first|(with_reducible first|exact HB.out|apply zC|apply zB|apply zD|refine zF ?_ aj.out|refine zF ?_ ar.out|refine zF ?_ aQ.out)|exact HB.out)⟩
           (try clear af)
           (try clear ae)
           (try clear ak)
           (try clear HB)
           generalize ((cP.setCell ⟨ag,0,none⟩ (.int .i64 ab)).setCell ⟨ag,1,none⟩ (.int .i64 t112))=cw at ax ay az aL ⊢
           have af:=ax;have ae:=ay;have ak:=az;have HB:=aL;clear ax ay az aL;have aS:0≤(((zI (zE aa ab) ad).f0):Int):=of_decide_eq_true (by first|(with_reducible assumption)|assumption)
           have aT:((zI (zE aa ab) ad).f0)<(aa.length:Int):=of_decide_eq_true (by first|(with_reducible assumption)|assumption)
           obtain⟨bk,bx,aU,bz,au,aC,aD⟩:=ZY aN.out ((zI (zE aa ab) ad).f0) aS aT
           have aE:=au;obtain rfl:al=bk:=(by injection bz)
           replace au:=(HB.out.cell (yqy w _ au)).trans au
           have aP:=zA.mk aD
           have bq:=zA.mk aC
           clear aD aC;replace aS:=eq_true aS
           replace aT:=eq_true aT
           have aV:0≤(t111:Int):=of_decide_eq_true (by first|(with_reducible assumption)|assumption)
           have aW:t111<((zE aa ((zI (zE aa ab) ad).f0)).length:Int):=of_decide_eq_true (by first|(with_reducible assumption)|assumption)
           obtain⟨aF,bA,av,aw⟩:=QF aP.out t111 aV aW
           have aG:=aw;have aH:=av
           cases bA
           replace av:=(HB.out.cell (yqy w _ av)).trans av
           replace aw:=(HB.out.cell (yqy w _ aw)).trans aw
           replace aV:=eq_true aV
           replace aW:=eq_true aW
           have bB:cw.cell? ⟨ai,0,none⟩=some (.slice (some al) aa.length an):=(zK af.out 0).trans rfl
           have bC:cw.cell? ⟨ah,0,none⟩=some (.int .i64 ((zI (zE aa ab) ad).f0)):=(zK ae.out 0).trans rfl
           have bD:cw.cell? ⟨ah,1,none⟩=some (.int .i64 ((zI (zE aa ab) ad).f1)):=(zK ae.out 1).trans rfl
           have bE:cw.cell? ⟨ag,0,none⟩=some (.int .i64 ab):=(zK ak.out 0).trans rfl
           have bF:cw.cell? ⟨ag,1,none⟩=some (.int .i64 t112):=(zK ak.out 1).trans rfl
           have bG:cw.cell? (al.add (((zI (zE aa ab) ad).f0)).toNat)=some (.slice (some aF) (zE aa ((zI (zE aa ab) ad).f0)).length aU):=((HB.out.cell (yqy w _ aE)).trans aE)
           have bH:cw.cell? (aF.add ((t111).toNat*2))=some (.int .i64 ((zI (zE aa ((zI (zE aa ab) ad).f0)) t111).f0)):=((HB.out.cell (yqy w _ aH)).trans aH)
           have bI:cw.cell? ⟨(aF.add ((t111).toNat*2)).block,(aF.add ((t111).toNat*2)).off+1,none⟩=some (.int .i64 ((zI (zE aa ((zI (zE aa ab) ad).f0)) t111).f1)):=((HB.out.cell (yqy w _ aG)).trans aG)
           go_quiet (fail)
           generalize hq_:World.drewN cw _=fy
           have ax:=zA.mk (zAJ hq_ af.out)
           have ay:=zA.mk (zAJ hq_ ae.out)
           have az:=zA.mk (zAJ hq_ ak.out)
           have aL:=zA.mk (zBt hq_ HB.out)
           clear af ae ak HB hq_ bB bC bD bE bF bG bH bI;have af:=ax;have ae:=ay;have ak:=az;have HB:=aL;clear ax ay az aL;try go_wp2
           go_roundg aR
           case measure=>have:=bJ.out;have:=b6.out;have:=b7.out;have:=bu.out;have:=cr.out;omega
           case rel=>exact⟨(wrap64 (ad+1)),(by first|rfl|(simp;done)|(simp [*];done)),H',⟨by have:=bJ.out;have:=b6.out;have:=b7.out;have:=bu.out;have:=cr.out;omega⟩,⟨by(with_reducible repeat(first|refine zH ?_ _|refine zJ ?_|refine zG ?_ _));exact af.out⟩,⟨by repeat(first|(with_reducible first|exact HB.out|apply zC|apply zB|apply zD|refine zF ?_ aj.out|refine zF ?_ ar.out|refine zF ?_ aQ.out)|exact HB.out)⟩⟩
end
def qy.f (a0:Int):Option (Int × Int):=(some (([0,0,0,1,1,2]:List Int):List Int)).bind fun y101=>(if 0≤a0 then(if a0<(y101.length:Int)then((some (([1,2,3,2,3,3]:List Int):List Int)).bind fun y105=>(if a0<(y105.length:Int)then(some (rd y101 a0,rd y105 a0))else(none)))else(none))else(none))
def qy.T1:Bool × List (List Nat × List Nat):=(true,[([],[]),([],[]),([0,1],[0,1]),([2],[2]),([],[]),([],[]),([4,5],[4,5]),([6],[6]),([3,0,1,2,3],[3]),([7,8,0,1,2,3,4,5,6,7,8],[7])])
def qy.B1:List Nat := [0,0,3,7,0,0,48,112,15,511]
theorem qy.tab1:Jg .any (opsOf Try.f115 1)=qy.T1:=by kernel_rfl
theorem qy.zGj:QK qy.T1.2 qy.B1=true:=by kernel_rfl
set_option maxHeartbeats 8000000 in
set_option maxRecDepth 100000 in
theorem qy.calls (a0:Int) (r1:Int) (r2:Int) (w:World) (h:qy.f a0=some (r1,r2)) :
 Calls Try.prog 115 #[.int .i64 a0] w fun e w'=>e = .returned (.tuple #[.int .i64 r1,.int .i64 r2])∧Below w.heap.size w w':=by
 have HB:=zA.mk (ysy w.heap.size w)
 have H:((some (([0,0,0,1,1,2]:List Int):List Int)).bind fun aq=>(if 0≤a0 then(if a0<(aq.length:Int)then((some (([1,2,3,2,3,3]:List Int):List Int)).bind fun ao=>(if a0<(ao.length:Int)then(some (rd aq a0,rd ao a0))else(none)))else(none))else(none)))=some (r1,r2):=h
 clear h;obtain⟨aq,ax⟩ : ∃ y_:List Int,y_=(([0,0,0,1,1,2]:List Int)):=⟨_,rfl⟩
 replace H:(if 0≤a0 then(if a0<(aq.length:Int)then((some (([1,2,3,2,3,3]:List Int):List Int)).bind fun ao=>(if a0<(ao.length:Int)then(some (rd aq a0,rd ao a0))else(none)))else(none))else(none))=some (r1,r2):=by first|(rw[ax];with_reducible exact H)|(have aJ:=(yfy _ _).symm.trans H;rw[ax];with_reducible exact aJ)|(have aJ:=(yfy _ _).symm.trans H;with_reducible exact aJ)|with_reducible exact H|(rw[ax];exact H)|exact H
 have aA:=zA.mk ax
 clear ax;by_cases c2:0≤a0
 case neg=>
  rw[if_neg c2]at H
  exact absurd H (by simp)
 rw[if_pos c2]at H
 have a1:decide (0≤a0)=true:=ygy c2
 clear c2;by_cases c3:a0<(aq.length:Int)
 case neg=>
  rw[if_neg c3]at H
  exact absurd H (by simp)
 rw[if_pos c3]at H
 have a2:decide (a0<(aq.length:Int))=true:=ygy c3
 clear c3;obtain⟨ao,ay⟩ : ∃ y_:List Int,y_=(([1,2,3,2,3,3]:List Int)):=⟨_,rfl⟩
 replace H:(if a0<(ao.length:Int)then(some (rd aq a0,rd ao a0))else(none))=some (r1,r2):=by first|(rw[ay];with_reducible exact H)|(have aJ:=(yfy _ _).symm.trans H;rw[ay];with_reducible exact aJ)|(have aJ:=(yfy _ _).symm.trans H;with_reducible exact aJ)|with_reducible exact H|(rw[ay];exact H)|exact H
 have aB:=zA.mk ay
 clear ay;by_cases c4:a0<(ao.length:Int)
 case neg=>
  rw[if_neg c4]at H
  exact absurd H (by simp)
 rw[if_pos c4]at H
 have a5:decide (a0<(ao.length:Int))=true:=ygy c4
 clear c4;simp only [Option.some.injEq,Prod.mk.injEq]at H
 obtain⟨rfl,rfl⟩:=H
 go_enter Try.func115,Try.ntmps115
 try go_wp2
 have aM:(0≤(a0:Int))=True:=eq_true (of_decide_eq_true (by first|(with_reducible assumption)|assumption))
 have aN:(a0<(aq.length:Int))=True:=eq_true (of_decide_eq_true (by first|(with_reducible assumption)|assumption))
 have aO:(0≤(a0:Int))=True:=eq_true (of_decide_eq_true (by first|(with_reducible assumption)|assumption))
 have aP:(a0<(ao.length:Int))=True:=eq_true (of_decide_eq_true (by first|(with_reducible assumption)|assumption))
 have aI:=zA.mk (zD HB.out)
 clear HB;have HB:=aI;clear aI;refine Zv (n:=10) (S:=fun w'=>True) (ds := []) #[false,false,false,false,false,false,false,false,false,false] (by kernel_rfl) rfl rfl trivial (fun hHeld=>?_);refine Zn qy.tab1 qy.zGj (fun HT_ HW_=>?_)
 generalize w.drew=w5 at HB hHeld ⊢
 refine zg (i:=1) (N:=some 5) (v:=?_) (a':=?_) #[false,true,false,false,false,false,false,false,false,false] rfl rfl (zm HT_.out (by kernel_rfl)) (fun _ _ _ h=>h) (Or.inl ⟨by rfl,?_⟩) ?_ ?_
 rotate_left
 next=>
  intro w';go_simp;with_reducible rfl
 rotate_left
 next=>
  simp only [Act.put,yay,yby,ycy,zX,za]
  rfl
 refine zg (i:=5) (N:=some 9) (v:=?_) (a':=?_) #[false,true,false,false,false,true,false,false,false,false] rfl rfl (zm HT_.out (by kernel_rfl)) (fun _ _ _ h=>h) (Or.inl ⟨by rfl,?_⟩) ?_ ?_
 rotate_left
 next=>
  intro w';go_simp;with_reducible rfl
 rotate_left
 next=>
  simp only [Act.put,yay,yby,ycy,zX,za]
  rfl
 refine zIE [0,2,3,4,6,7,8,9] (fun a6 b a w' => ∃ (ak:Value) (ad:Addr) (al:Value) (ae:Addr) (av:Value) (aw:Value),a=QP a6 b [(0,4,ak),(2,6,av),(3,7,.int .i64 (rd aq a0)),(4,8,al),(6,10,aw),(7,11,.int .i64 (rd ao a0)),(8,2,.int .i64 (rd aq a0)),(9,3,.int .i64 (rd ao a0))]∧(Below w.heap.size w w')∧(b 0=true→Kd.R (Kd.int .i64) 2 w' w.heap.size (fun _=>True) ak aq)∧(b 0=true → ∃ c_,(ak:Value) = .slice (some ad) aq.length c_)∧(b 4=true→Kd.R (Kd.int .i64) 2 w' w.heap.size (fun _=>True) al ao)∧(b 4=true → ∃ c_,(al:Value) = .slice (some ae) ao.length c_)∧(b 2=true→(av:Value) = .pointer (some (ad.add (a0).toNat)))∧(b 6=true→(aw:Value) = .pointer (some (ae.add (a0).toNat)))) HT_.out HW_.out (by kernel_rfl) (by kernel_rfl) ?_ ?_ ?_
 next=>
  exact⟨.bool false,⟨0,0,none⟩,.bool false,⟨0,0,none⟩,.bool false,.bool false,by simp only [QP,Bool.false_eq_true,if_false],HB.out,fun h_=>absurd h_ (by decide),fun h_=>absurd h_ (by decide),fun h_=>absurd h_ (by decide),fun h_=>absurd h_ (by decide),fun h_=>absurd h_ (by decide),fun h_=>absurd h_ (by decide)⟩
 next=>
  skip
  clear HB;refine ZI ?_ ?_
  next=>
   rintro b a w' ⟨ak,ad,al,ae,av,aw,ha,Q_HB,af,aa,ag,ab,ai,aj⟩ hb_ hon hoff
   refine⟨_,rfl,fun K hK=>?_⟩
   replace ha:=zA.mk ha
   have HB:=zA.mk Q_HB
   refine Kd.zAd (Kd.int .i64) _ 2 ?hg (N:=4) ?hd (xs:=([0,0,0,1,1,2]:List Int)) (inner := [.int .i64 0,.int .i64 0,.int .i64 0,.int .i64 1,.int .i64 1,.int .i64 2]) (ok:=fun _=>True) (okp:=fun _=>True) ?hr ?hp (fun _ hk=>hk) trivial (ysy _ _) (yry _) (by simp) ?_;(case hd=>rfl);(case hg=>rfl);(case hr=>first|(go_simp;done)|(go_simp;rfl));(case hp=>exact(QN.one (show Kd.M (Kd.int .i64) _ _ _ 0 [.int .i64 0]from rfl) (QN.one (show Kd.M (Kd.int .i64) _ _ _ 0 [.int .i64 0]from rfl) (QN.one (show Kd.M (Kd.int .i64) _ _ _ 0 [.int .i64 0]from rfl) (QN.one (show Kd.M (Kd.int .i64) _ _ _ 1 [.int .i64 1]from rfl) (QN.one (show Kd.M (Kd.int .i64) _ _ _ 1 [.int .i64 1]from rfl) (QN.one (show Kd.M (Kd.int .i64) _ _ _ 2 [.int .i64 2]from rfl) (QN.none _ _))))))))
   intro ak w6 az hb hg_ hnew_
   clear hg_ hnew_
   (first|rw[← aA.out]at az|(simp only [Int.reduceToNat]at az;rw[← aA.out]at az))
   have aI:=zA.mk (Kd.qx az (zQ (by repeat(first|(with_reducible first|exact HB.out|apply zC|apply zB|apply zD)|exact HB.out))))
   have aQ:=zA.mk (zM (by repeat(first|(with_reducible first|exact HB.out|apply zC|apply zB|apply zD)|exact HB.out)) hb)
   have aD:=fun(aE:b 4=true)=>(show Kd.R (Kd.int .i64) 2 w6 w.heap.size (fun _=>True) al ao from by first|exact(Kd.Zs (by(with_reducible repeat(first|apply Kd.zS|apply Kd.zT|apply Kd.zZ));exact(ag aE)) (Kd.Zw az) hb)|exact Kd.qC (Kd.Zs (by(with_reducible repeat(first|apply Kd.zS|apply Kd.zT|apply Kd.zZ));exact(ag aE)) (Kd.Zw az) hb) (fun _ h_=>by first|trivial|exact h_|exact h_.1))
   clear HB;have ar:=aI;have HB:=aQ;clear aI aQ;clear hb az;obtain⟨a7,aV,aW⟩:=Kd.ZE ar.out
   subst aW;obtain⟨aC,aX,_⟩:=Kd.qw (Kd.zq ar.out).2.2 0 (by decide) (by rw[aA.out];simp)
   cases aX
   refine hK.out _ _ ⟨.slice (some aC) aq.length aV,aC,al,ae,av,aw,(by rw[ha.out];exact ZO 0 hb_ rfl rfl rfl),(by repeat(first|(with_reducible first|exact HB.out|apply zC|apply zB|apply zD)|exact HB.out)),fun _=>(by(with_reducible repeat(first|apply Kd.zS|apply Kd.zT|apply Kd.zZ));exact ar.out),fun _=>⟨_,rfl⟩,aD,ab,fun aE=>absurd ((hoff 2 (by kernel_rfl)).symm.trans aE) (by decide),aj⟩
  refine ZI ?_ ?_
  next=>
   rintro b a w' ⟨ak,ad,al,ae,av,aw,ha,Q_HB,af,aa,ag,ab,ai,aj⟩ hb_ hon hoff
   refine⟨_,rfl,fun K hK=>?_⟩
   have e4:a.tmps[4]?=some (ak):=by rw[ha];exact Zp (e:=(0,4,ak)) 0 rfl rfl (hon 0 (by kernel_rfl)) rfl
   have e5:a.tmps[5]?=some (.int .i64 a0):=by rw[ha];exact(JA rfl).trans rfl
   replace ha:=zA.mk ha
   have HB:=zA.mk Q_HB
   have ar:=zA.mk (af (hon 0 (by kernel_rfl)))
   have ah:=zA.mk (aa (hon 0 (by kernel_rfl)))
   obtain⟨c_,hv_⟩:=ah.out
   rw[hv_]at e4
   refine zAH (w1:=w') (v := .pointer (some (ad.add (a0).toNat))) (by rfl) rfl ?_ ?_
   next=>
    go_simp
    (try simp only [zX])
    try rfl
   refine hK.out _ _ ⟨ak,ad,al,ae,(.pointer (some (ad.add (a0).toNat))),aw,(by rw[ha.out];exact ZO 1 hb_ rfl rfl rfl),Q_HB,af,aa,ag,ab,fun _=>rfl,aj⟩
  refine ZI ?_ ?_
  next=>
   rintro b a w' ⟨ak,ad,al,ae,av,aw,ha,Q_HB,af,aa,ag,ab,ai,aj⟩ hb_ hon hoff
   refine⟨_,rfl,fun K hK=>?_⟩
   have e6:a.tmps[6]?=some (av):=by rw[ha];exact Zp (e:=(2,6,av)) 1 rfl rfl (hon 2 (by kernel_rfl)) rfl
   rw[ai (hon 2 (by kernel_rfl))]at e6
   replace ha:=zA.mk ha
   have HB:=zA.mk Q_HB
   have ar:=zA.mk (af (hon 0 (by kernel_rfl)))
   have ah:=zA.mk (aa (hon 0 (by kernel_rfl)))
   obtain⟨c_,hv_⟩:=ah.out
   have hF_:=ar.out
   rw[hv_]at hF_
   obtain⟨ad_,ea_,hx_⟩:=Kd.qw (Kd.zq hF_).2.2 a0 (of_eq_true aM) (of_eq_true aN)
   cases ea_
   refine zAH (w1:=w') (v := .int .i64 (rd aq a0)) (by rfl) rfl ?_ ?_
   next=>
    go_simp
    (try simp only [zX])
    try rfl
   refine hK.out _ _ ⟨ak,ad,al,ae,av,aw,(by rw[ha.out];exact ZO 2 hb_ rfl rfl rfl),Q_HB,af,aa,ag,ab,ai,aj⟩
  refine ZI ?_ ?_
  next=>
   rintro b a w' ⟨ak,ad,al,ae,av,aw,ha,Q_HB,af,aa,ag,ab,ai,aj⟩ hb_ hon hoff
   refine⟨_,rfl,fun K hK=>?_⟩
   replace ha:=zA.mk ha
   have HB:=zA.mk Q_HB
   refine Kd.zAd (Kd.int .i64) _ 2 ?hg (N:=8) ?hd (xs:=([1,2,3,2,3,3]:List Int)) (inner := [.int .i64 1,.int .i64 2,.int .i64 3,.int .i64 2,.int .i64 3,.int .i64 3]) (ok:=fun _=>True) (okp:=fun _=>True) ?hr ?hp (fun _ hk=>hk) trivial (ysy _ _) (yry _) (by simp) ?_;(case hd=>rfl);(case hg=>rfl);(case hr=>first|(go_simp;done)|(go_simp;rfl));(case hp=>exact(QN.one (show Kd.M (Kd.int .i64) _ _ _ 1 [.int .i64 1]from rfl) (QN.one (show Kd.M (Kd.int .i64) _ _ _ 2 [.int .i64 2]from rfl) (QN.one (show Kd.M (Kd.int .i64) _ _ _ 3 [.int .i64 3]from rfl) (QN.one (show Kd.M (Kd.int .i64) _ _ _ 2 [.int .i64 2]from rfl) (QN.one (show Kd.M (Kd.int .i64) _ _ _ 3 [.int .i64 3]from rfl) (QN.one (show Kd.M (Kd.int .i64) _ _ _ 3 [.int .i64 3]from rfl) (QN.none _ _))))))))
   intro al w6 az hb hg_ hnew_
   clear hg_ hnew_
   (first|rw[← aB.out]at az|(simp only [Int.reduceToNat]at az;rw[← aB.out]at az))
   have aI:=zA.mk (Kd.qx az (zQ (by repeat(first|(with_reducible first|exact HB.out|apply zC|apply zB|apply zD)|exact HB.out))))
   have aQ:=zA.mk (zM (by repeat(first|(with_reducible first|exact HB.out|apply zC|apply zB|apply zD)|exact HB.out)) hb)
   have aF:=fun(aE:b 0=true)=>(show Kd.R (Kd.int .i64) 2 w6 w.heap.size (fun _=>True) ak aq from by first|exact(Kd.Zs (by(with_reducible repeat(first|apply Kd.zS|apply Kd.zT|apply Kd.zZ));exact(af aE)) (Kd.Zw az) hb)|exact Kd.qC (Kd.Zs (by(with_reducible repeat(first|apply Kd.zS|apply Kd.zT|apply Kd.zZ));exact(af aE)) (Kd.Zw az) hb) (fun _ h_=>by first|trivial|exact h_|exact h_.1))
   clear HB;have au:=aI;have HB:=aQ;clear aI aQ;clear hb az;obtain⟨a7,aV,aW⟩:=Kd.ZE au.out
   subst aW;obtain⟨aC,aX,_⟩:=Kd.qw (Kd.zq au.out).2.2 0 (by decide) (by rw[aB.out];simp)
   cases aX
   refine hK.out _ _ ⟨ak,ad,.slice (some aC) ao.length aV,aC,av,aw,(by rw[ha.out];exact ZO 3 hb_ rfl rfl rfl),(by repeat(first|(with_reducible first|exact HB.out|apply zC|apply zB|apply zD)|exact HB.out)),aF,aa,fun _=>(by(with_reducible repeat(first|apply Kd.zS|apply Kd.zT|apply Kd.zZ));exact au.out),fun _=>⟨_,rfl⟩,ai,fun aE=>absurd ((hoff 6 (by kernel_rfl)).symm.trans aE) (by decide)⟩
  refine ZI ?_ ?_
  next=>
   rintro b a w' ⟨ak,ad,al,ae,av,aw,ha,Q_HB,af,aa,ag,ab,ai,aj⟩ hb_ hon hoff
   refine⟨_,rfl,fun K hK=>?_⟩
   have e8:a.tmps[8]?=some (al):=by rw[ha];exact Zp (e:=(4,8,al)) 3 rfl rfl (hon 4 (by kernel_rfl)) rfl
   have e9:a.tmps[9]?=some (.int .i64 a0):=by rw[ha];exact(JA rfl).trans rfl
   replace ha:=zA.mk ha
   have HB:=zA.mk Q_HB
   have au:=zA.mk (ag (hon 4 (by kernel_rfl)))
   have an:=zA.mk (ab (hon 4 (by kernel_rfl)))
   obtain⟨c_,hv_⟩:=an.out
   rw[hv_]at e8
   refine zAH (w1:=w') (v := .pointer (some (ae.add (a0).toNat))) (by rfl) rfl ?_ ?_
   next=>
    go_simp
    (try simp only [zX])
    try rfl
   refine hK.out _ _ ⟨ak,ad,al,ae,av,(.pointer (some (ae.add (a0).toNat))),(by rw[ha.out];exact ZO 4 hb_ rfl rfl rfl),Q_HB,af,aa,ag,ab,ai,fun _=>rfl⟩
  refine ZI ?_ ?_
  next=>
   rintro b a w' ⟨ak,ad,al,ae,av,aw,ha,Q_HB,af,aa,ag,ab,ai,aj⟩ hb_ hon hoff
   refine⟨_,rfl,fun K hK=>?_⟩
   have a8:a.tmps[10]?=some (aw):=by rw[ha];exact Zp (e:=(6,10,aw)) 4 rfl rfl (hon 6 (by kernel_rfl)) rfl
   rw[aj (hon 6 (by kernel_rfl))]at a8
   replace ha:=zA.mk ha
   have HB:=zA.mk Q_HB
   have au:=zA.mk (ag (hon 4 (by kernel_rfl)))
   have an:=zA.mk (ab (hon 4 (by kernel_rfl)))
   obtain⟨c_,hv_⟩:=an.out
   have hF_:=au.out
   rw[hv_]at hF_
   obtain⟨ad_,ea_,hx_⟩:=Kd.qw (Kd.zq hF_).2.2 a0 (of_eq_true aO) (of_eq_true aP)
   cases ea_
   refine zAH (w1:=w') (v := .int .i64 (rd ao a0)) (by rfl) rfl ?_ ?_
   next=>
    go_simp
    (try simp only [zX])
    try rfl
   refine hK.out _ _ ⟨ak,ad,al,ae,av,aw,(by rw[ha.out];exact ZO 5 hb_ rfl rfl rfl),Q_HB,af,aa,ag,ab,ai,aj⟩
  refine ZI ?_ ?_
  next=>
   rintro b a w' ⟨ak,ad,al,ae,av,aw,ha,Q_HB,af,aa,ag,ab,ai,aj⟩ hb_ hon hoff
   refine⟨_,rfl,fun K hK=>?_⟩
   have e7:a.tmps[7]?=some (.int .i64 (rd aq a0)):=by rw[ha];exact Zp (e:=(3,7,.int .i64 (rd aq a0))) 2 rfl rfl (hon 3 (by kernel_rfl)) rfl
   replace ha:=zA.mk ha
   have HB:=zA.mk Q_HB
   have ar:=zA.mk (af (hon 0 (by kernel_rfl)))
   have ah:=zA.mk (aa (hon 0 (by kernel_rfl)))
   refine zAH (w1:=w') (v := .int .i64 (rd aq a0)) (by rfl) rfl ?_ ?_
   next=>
    go_simp
    (try simp only [zX])
    try rfl
   refine hK.out _ _ ⟨ak,ad,al,ae,av,aw,(by rw[ha.out];exact ZO 6 hb_ rfl rfl rfl),Q_HB,af,aa,ag,ab,ai,aj⟩
  refine ZI ?_ ?_
  next=>
   rintro b a w' ⟨ak,ad,al,ae,av,aw,ha,Q_HB,af,aa,ag,ab,ai,aj⟩ hb_ hon hoff
   refine⟨_,rfl,fun K hK=>?_⟩
   have bb:a.tmps[11]?=some (.int .i64 (rd ao a0)):=by rw[ha];exact Zp (e:=(7,11,.int .i64 (rd ao a0))) 5 rfl rfl (hon 7 (by kernel_rfl)) rfl
   replace ha:=zA.mk ha
   have HB:=zA.mk Q_HB
   have ar:=zA.mk (af (hon 0 (by kernel_rfl)))
   have ah:=zA.mk (aa (hon 0 (by kernel_rfl)))
   have au:=zA.mk (ag (hon 4 (by kernel_rfl)))
   have an:=zA.mk (ab (hon 4 (by kernel_rfl)))
   refine zAH (w1:=w') (v := .int .i64 (rd ao a0)) (by rfl) rfl ?_ ?_
   next=>
    go_simp
    (try simp only [zX])
    try rfl
   refine hK.out _ _ ⟨ak,ad,al,ae,av,aw,(by rw[ha.out];exact ZO 7 hb_ rfl rfl rfl),Q_HB,af,aa,ag,ab,ai,aj⟩
  exact zDw
 rintro b a bc hall ⟨ak,ad,al,ae,av,aw,ha,Q_HB,af,aa,ag,ab,ai,aj⟩
 clear HB;have aG:=hall 0 (by kernel_rfl)
 have aK:=hall 2 (by kernel_rfl)
 have aR:=hall 3 (by kernel_rfl)
 have aH:=hall 4 (by kernel_rfl)
 have aL:=hall 6 (by kernel_rfl)
 have aS:=hall 7 (by kernel_rfl)
 have aT:=hall 8 (by kernel_rfl)
 have aU:=hall 9 (by kernel_rfl)
 subst ha;obtain rfl:=ai aK
 obtain rfl:=aj aL
 simp only [QP,aG,aK,aR,aH,aL,aS,aT,aU,if_true,Act.put,yay,yby,ycy]
 have HB:=zA.mk Q_HB
 clear Q_HB;have ar:=zA.mk (af aG)
 clear af;have ah:=zA.mk (aa aG)
 clear aa;have au:=zA.mk (ag aH)
 clear ag;have an:=zA.mk (ab aH)
 clear ab;clear hall aG aK aR aH aL aS aT aU;obtain⟨a_,aY⟩:=ah.out
 clear ah;subst aY;obtain⟨ba,aZ⟩:=an.out
 clear an;subst aZ;try go_wp2
 go_ret2
 exact⟨by first|rfl|(simp [zU,zV] <;> rfl)|(simp [*,zU,zV] <;> rfl),by repeat(first|(with_reducible first|exact HB.out|apply zC|apply zB|apply zD)|exact HB.out)⟩
def qI.l0:Nat→Int→Int→Int→Option (Int)
  | 0,_,_,_=>none
  | k+1,x0,x1,x5=>if x5<6 then((qy.f x5).bind fun bt101=>(if bt101.1=(mn x0 x1)then(if bt101.2=(mx x0 x1)then(some x5)else(qI.l0 k x0 x1 (wrap64 (x5+1))))else(qI.l0 k x0 x1 (wrap64 (x5+1)))))else(some (-1))
def qI.f (k:Nat) (a0:Int) (a1:Int):Option (Int):=qI.l0 k a0 a1 0
theorem qI.Jn : ∀ k,(∀ y0 y1 y2,LeO (qI.l0 k y0 y1 y2) (qI.l0 (k+1) y0 y1 y2))
  | 0=>fun _ _ _ r h=>by simp [qI.l0]at h
  | k+1=>by
    have aa:=qI.Jn k
    · intro y0 y1 y2
      unfold qI.l0
      repeat' first
      | (with_reducible exact aa _ _ _)
      | (with_reducible exact LeO.refl _)
      | (with_reducible exact LeO.none _)
      | (with_reducible refine LeO.ite ?_ ?_)
      | (with_reducible refine LeO.bind ?_ (fun _=>?_))
      | exact aa _ _ _
      | exact LeO.none _
      | refine LeO.ite ?_ ?_
      | refine LeO.bind ?_ (fun _=>?_)
theorem qI.mono : ∀ a0 a1 k,LeO (qI.f k a0 a1) (qI.f (k+1) a0 a1):=by
  intro a0 a1 k
  have aa:=qI.Jn k
  unfold qI.f
  repeat' first
      | (with_reducible exact aa _ _ _)
      | (with_reducible exact LeO.refl _)
      | (with_reducible exact LeO.none _)
      | (with_reducible refine LeO.ite ?_ ?_)
      | (with_reducible refine LeO.bind ?_ (fun _=>?_))
      | exact aa _ _ _
      | exact LeO.none _
      | refine LeO.ite ?_ ?_
      | refine LeO.bind ?_ (fun _=>?_)
set_option maxHeartbeats 8000000 in
set_option maxRecDepth 100000 in
theorem qI.calls (k:Nat) (a0:Int) (a1:Int) (r:Int) (w:World) (h:qI.f k a0 a1=some r) :
    Calls Try.prog 116 #[.int .i64 a0,.int .i64 a1] w fun e w'=>e = .returned (.int .i64 r)∧Below w.heap.size w w':=by
  have HB:=zA.mk (ysy w.heap.size w)
  have H:(qI.l0 k a0 a1 0)=some r:=h
  clear h;have H':=zA.mk H
  clear H;go_enter Try.func116,Try.ntmps116
  go_wp2;go_loopg [5] k (fun kq v5 w' => ∃ (aa:Int),v5 = .int .i64 aa∧zA (qI.l0 kq a0 a1 aa=some r)∧zA (kq≤k)∧zA (Below w.heap.size w w'))
  case atStart=>exact⟨(0),(by first|rfl|(simp;done)|(simp [*];done)),H',⟨yry _⟩,⟨by repeat(first|(with_reducible first|exact HB.out|apply zC|apply zB|apply zD)|exact HB.out)⟩⟩
  case round=>
    clear H';(try clear c1);(try clear p2);obtain⟨aa,rfl,HA,ah,HB⟩:=hrel
    cases gk with
    | zero=>exact absurd HA.out (by simp [qI.l0])
    | succ k1=>
      have H:=HA.out
      clear HA;simp only [qI.l0]at H
      by_cases c3:aa<6
      · rw[if_pos c3]at H
        have ai:decide (aa<6)=true:=ygy c3
        clear c3;replace H:=ydy.mp H
        obtain⟨⟨t101,t102⟩,ao,H⟩:=H
        replace H:(if t101=(mn a0 a1)then(if t102=(mx a0 a1)then(some aa)else(qI.l0 k1 a0 a1 (wrap64 (aa+1))))else(qI.l0 k1 a0 a1 (wrap64 (aa+1))))=some r:=H
        have A4:=zA.mk ao
        clear ao;obtain⟨af,ab⟩ : ∃ j_:Int,(mn a0 a1)=j_:=⟨_,rfl⟩
        replace H:(if t101=(af)then(if t102=(mx a0 a1)then(some aa)else(qI.l0 k1 a0 a1 (wrap64 (aa+1))))else(qI.l0 k1 a0 a1 (wrap64 (aa+1))))=some r:=by first|(rw[ab]at H;exact H)|(simp only [ab]at H ⊢;exact H)
        (try rw[ab]at A4)
        have aq:(if a1<a0 then a1 else a0)=af:=ab
        by_cases c6:t101=(af)
        · rw[if_pos c6]at H
          have aj:(t101==(af))=true:=beq_iff_eq.mpr c6
          have ak:(t101 != (af))=false:=bne_eq_false_iff_eq.mpr c6
          clear c6;obtain⟨ag,ad⟩ : ∃ j_:Int,(mx a0 a1)=j_:=⟨_,rfl⟩
          replace H:(if t102=(ag)then(some aa)else(qI.l0 k1 a0 a1 (wrap64 (aa+1))))=some r:=by first|(rw[ad]at H;exact H)|(simp only [ad]at H ⊢;exact H)
          (try rw[ad]at A4)
          have ar:(if a0<a1 then a1 else a0)=ag:=ad
          by_cases c8:t102=(ag)
          · rw[if_pos c8]at H
            have al:(t102==(ag))=true:=beq_iff_eq.mpr c8
            have an:(t102 != (ag))=false:=bne_eq_false_iff_eq.mpr c8
            clear c8;obtain rfl:=yey H
            go_wp2_with (first|((with_reducible refine zd (f:=115) rfl ?_);refine qV (some 14) rfl rfl Try.func115 (by kernel_rfl) rfl #[.int .i64 aa] rfl (by(try simp only [yiy,yjy,yky]);first|done|rfl|(simp only [yly,ymy];rfl)) ?_;(with_reducible refine(qy.calls aa t101 t102 _ A4.out).mono ?_);rintro e w9 ⟨rfl,hb⟩;refine⟨_,rfl,?_⟩;have ae:=zA.mk (zM (by repeat(first|(with_reducible first|exact HB.out|apply zC|apply zB|apply zD)|exact HB.out)) hb);clear HB;have HB:=ae;clear ae;(try clear hb);(try clear hb2);(try clear hk);(try clear hi)))
            go_ret;exact⟨by first|rfl|(simp [zU,zV] <;> rfl)|(simp only [← ab,← ad];first|rfl|(simp [zU,zV] <;> rfl))|(simp [*,zU,zV] <;> rfl),by repeat(first|(with_reducible first|exact HB.out|apply zC|apply zB|apply zD)|exact HB.out)⟩
          · rw[if_neg c8]at H
            have al:(t102==(ag))=false:=beq_eq_false_iff_ne.mpr c8
            have an:(t102 != (ag))=true:=bne_iff_ne.mpr c8
            have H':=zA.mk H
            clear H;go_wp2_with (first|((with_reducible refine zd (f:=115) rfl ?_);refine qV (some 14) rfl rfl Try.func115 (by kernel_rfl) rfl #[.int .i64 aa] rfl (by(try simp only [yiy,yjy,yky]);first|done|rfl|(simp only [yly,ymy];rfl)) ?_;(with_reducible refine(qy.calls aa t101 t102 _ A4.out).mono ?_);rintro e au ⟨rfl,hb⟩;refine⟨_,rfl,?_⟩;have ae:=zA.mk (zM (by repeat(first|(with_reducible first|exact HB.out|apply zC|apply zB|apply zD)|exact HB.out)) hb);clear HB;have HB:=ae;clear ae;(try clear hb);(try clear hb2);(try clear hk);(try clear hi)))
            go_roundg k1
            case measure=>have:=ah.out;omega
            case rel=>exact⟨(wrap64 (aa+1)),(by first|rfl|(simp;done)|(simp [*];done)),H',⟨by have:=ah.out;omega⟩,⟨by repeat(first|(with_reducible first|exact HB.out|apply zC|apply zB|apply zD)|exact HB.out)⟩⟩
        · rw[if_neg c6]at H
          have aj:(t101==(af))=false:=beq_eq_false_iff_ne.mpr c6
          have ak:(t101 != (af))=true:=bne_iff_ne.mpr c6
          have H':=zA.mk H
          clear H;go_wp2_with (first|((with_reducible refine zd (f:=115) rfl ?_);refine qV (some 14) rfl rfl Try.func115 (by kernel_rfl) rfl #[.int .i64 aa] rfl (by(try simp only [yiy,yjy,yky]);first|done|rfl|(simp only [yly,ymy];rfl)) ?_;(with_reducible refine(qy.calls aa t101 t102 _ A4.out).mono ?_);rintro e av ⟨rfl,hb⟩;refine⟨_,rfl,?_⟩;have ae:=zA.mk (zM (by repeat(first|(with_reducible first|exact HB.out|apply zC|apply zB|apply zD)|exact HB.out)) hb);clear HB;have HB:=ae;clear ae;(try clear hb);(try clear hb2);(try clear hk);(try clear hi)))
          go_roundg k1
          case measure=>have:=ah.out;omega
          case rel=>exact⟨(wrap64 (aa+1)),(by first|rfl|(simp;done)|(simp [*];done)),H',⟨by have:=ah.out;omega⟩,⟨by repeat(first|(with_reducible first|exact HB.out|apply zC|apply zB|apply zD)|exact HB.out)⟩⟩
      · rw[if_neg c3]at H
        have ai:decide (aa<6)=false:=yhy c3
        clear c3;obtain rfl:=yey H
        go_wp2;go_ret;exact⟨by first|rfl|(simp [zU,zV] <;> rfl)|(simp [*,zU,zV] <;> rfl),by repeat(first|(with_reducible first|exact HB.out|apply zC|apply zB|apply zD)|exact HB.out)⟩
def qF.l0:Nat→Int→List Int→Int→Option (List Int)
  | 0,_,_,_=>none
  | k+1,x0,x3,x4=>if x4<x0 then(if x3.length<17592186044416 then(qF.l0 k x0 (x3 ++ [x4]) (wrap64 (x4+1)))else(none))else(some x3)
def qF.f (k:Nat) (a0:Int):Option (List Int):=qF.l0 k a0 (([]:List Int)) 0
set_option maxHeartbeats 8000000 in
set_option maxRecDepth 100000 in
theorem qF.calls (k:Nat) (a0:Int) (r:List Int) (w:World) (h:qF.f k a0=some r) :
    Calls Try.prog 91 #[.int .i64 a0] w fun e w' => ∃ aw:Value,e = .returned (aw)∧Kd.R (Kd.int .i64) 2 w' w.heap.size (fun _=>True) aw r∧Below w.heap.size w w':=by
  have HB:=zA.mk (ysy w.heap.size w)
  have H:(qF.l0 k a0 (([]:List Int)) 0)=some r:=h
  clear h;obtain⟨ai,ab⟩ : ∃ y_:List Int,y_=(([]:List Int)):=⟨_,rfl⟩
  replace H:(qF.l0 k a0 ai 0)=some r:=by first|(rw[ab];with_reducible exact H)|(have ag:=(yfy _ _).symm.trans H;rw[ab];with_reducible exact ag)|(have ag:=(yfy _ _).symm.trans H;with_reducible exact ag)|with_reducible exact H|(rw[ab];exact H)|exact H
  have af:=zA.mk ab
  clear ab;have H':=zA.mk H
  clear H;go_enter Try.func91,Try.ntmps91
  go_wp2_with (first|((with_reducible refine zw (N:=5) rfl ?_);refine Kd.zBO (Kd.int .i64) _ 2 ?hg (N:=5) ?hd (xs:=([]:List Int)) (inner := []) (ok:=fun _=>True) (okp:=fun _=>True) ?hr ?hp (fun _ hk=>hk) trivial (ysy _ _) (yry _) (by simp) ?_;(case hd=>rfl);(case hg=>rfl);(case hr=>first|(go_simp;done)|(go_simp;rfl));(case hp=>exact(QN.none _ _));intro ay w2 aj hb hg_ hnew_;clear hg_ hnew_;(first|rw[← af.out]at aj|(simp only [Int.reduceToNat]at aj;rw[← af.out]at aj));have ak:=zA.mk (Kd.qx aj (zQ (by repeat(first|(with_reducible first|exact HB.out|apply zC|apply zB|apply zD)|exact HB.out))));have al:=zA.mk (zM (by repeat(first|(with_reducible first|exact HB.out|apply zC|apply zB|apply zD)|exact HB.out)) hb);clear HB;have an:=ak;have HB:=al;clear ak al;clear hb aj))
  go_loopg [3,4] k (fun kq v3 v4 w' => ∃ (ae:List Int) (aa:Int),v4 = .int .i64 aa∧zA (qF.l0 kq a0 ae aa=some r)∧zA (kq≤k)∧zA (Kd.R (Kd.int .i64) 2 w' w.heap.size (fun _=>True) v3 ae)∧zA (Below w.heap.size w w'))
  case atStart=>exact⟨(ai),(0),(by first|rfl|(simp;done)|(simp [*];done)),H',⟨yry _⟩,⟨by(with_reducible repeat(first|apply Kd.zS|apply Kd.zT|apply Kd.zZ));exact an.out⟩,⟨by repeat(first|(with_reducible first|exact HB.out|apply zC|apply zB|apply zD)|exact HB.out)⟩⟩
  case round=>
    clear H';(try clear p2);obtain⟨ae,aa,rfl,HA,ax,ah,HB⟩:=hrel
    cases gk with
    | zero=>exact absurd HA.out (by simp [qF.l0])
    | succ k1=>
      have H:=HA.out
      clear HA;simp only [qF.l0]at H
      by_cases c4:aa<a0
      · rw[if_pos c4]at H
        have au:decide (aa<a0)=true:=ygy c4
        clear c4;by_cases c5:ae.length<17592186044416
        · rw[if_pos c5]at H
          have av:=zA.mk c5
          clear c5;obtain⟨ao,ad⟩ : ∃ y_:List Int,y_=(ae ++ [aa]):=⟨_,rfl⟩
          replace H:(qF.l0 k1 a0 ao (wrap64 (aa+1)))=some r:=by first|(rw[ad];with_reducible exact H)|(have ag:=(yfy _ _).symm.trans H;rw[ad];with_reducible exact ag)|(have ag:=(yfy _ _).symm.trans H;with_reducible exact ag)|with_reducible exact H|(rw[ad];exact H)|exact H
          have aq:=zA.mk ad
          clear ad;have H':=zA.mk H
          clear H;go_wp2_with (first|((with_reducible refine ZN (b := .append) (xs:=#[.tmp 11,.tmp 13]) rfl ?_);at_builtin;refine Kd.Qn (Kd.int .i64) (w0:=w) w.heap.size rfl (.tmp 11) (.tmp 13) 22 2 (.int .i64 0) 8 rfl Try.underlying22 Jp rfl (by decide) (by omega) u3 ae aa [.int .i64 aa] (fun _=>True) (fun _=>False) rfl rfl ?aP (fun _ hk=>hk.elim) ?aF ?aO ?aB ?aS ?aL ?_;(case aP=>exact rfl);(case aB=>exact(by repeat(first|(with_reducible first|exact HB.out|apply zC|apply zB|apply zD)|exact HB.out)));(case aF=>exact(fun _ _=>trivial));(case aO=>exact(by(with_reducible repeat(first|apply Kd.zS|apply Kd.zT|apply Kd.zZ));exact ah.out));(case aS=>exact(zQ (by repeat(first|(with_reducible first|exact HB.out|apply zC|apply zB|apply zD)|exact HB.out))));(case aL=>have:=av.out;omega);intro az w6 ho hb hg hat;rw[← aq.out]at ho;have ak:=zA.mk (hb);have al:=zA.mk (ho);clear HB;clear ah;have HB:=ak;have ar:=al;clear ak al;clear ho hb hg hat))
          go_roundg k1
          case measure=>have:=ax.out;omega
          case rel=>exact⟨(ao),(wrap64 (aa+1)),(by first|rfl|(simp;done)|(simp [*];done)),H',⟨by have:=ax.out;omega⟩,⟨by(with_reducible repeat(first|apply Kd.zS|apply Kd.zT|apply Kd.zZ));exact ar.out⟩,⟨by repeat(first|(with_reducible first|exact HB.out|apply zC|apply zB|apply zD)|exact HB.out)⟩⟩
        · rw[if_neg c5]at H
          exact absurd H (by simp)
      · rw[if_neg c4]at H
        have au:decide (aa<a0)=false:=yhy c4
        clear c4;obtain rfl:=yey H
        go_wp2;go_ret;exact⟨_,by first|rfl|(simp [zU,zV] <;> rfl)|(simp [*,zU,zV] <;> rfl),by(with_reducible repeat(first|apply Kd.zS|apply Kd.zT|apply Kd.zZ));exact ah.out,by repeat(first|(with_reducible first|exact HB.out|apply zC|apply zB|apply zD)|exact HB.out)⟩
def qz.f (l:List Int) (i k:Int):Option (List Int):=if 0≤i∧i<l.length∧0≤k∧k<l.length then some (Lib.joi l i k)else none
theorem pt_get {G:Int→Int} {l cur:List Int} {n:Nat} (h:cur=(l.take n).map G++l.drop n) (hn:n<l.length):rd cur (n:Int)=l[n]:=by
  subst h;have h1:((l.take n).map G).length=n:=by simp;omega
  simp only [rd,yny,List.getD_eq_getElem?_getD]
  rw[List.getElem?_append_right (by omega),h1,Nat.sub_self,List.getElem?_drop]
  simp [hn]
theorem zIk {G:Int→Int} {l cur:List Int} {n:Nat} (h:cur=(l.take n).map G++l.drop n) (hn:n<l.length) (e:G l[n]=l[n]):cur=(l.take (n+1)).map G++l.drop (n+1):=by
  subst h;rw[ypy hn,List.take_succ_eq_append_getElem hn,List.map_append,yjy,yky,e,List.append_assoc]
  rfl
theorem pt_put {G:Int→Int} {l cur:List Int} {n:Nat} (h:cur=(l.take n).map G++l.drop n) (hn:n<l.length):cur.set n (G l[n])=(l.take (n+1)).map G++l.drop (n+1):=by
  subst h;have h1:((l.take n).map G).length=n:=by simp;omega
  rw[List.set_append_right _ _ (by omega),h1,Nat.sub_self,ypy hn,yby,List.take_succ_eq_append_getElem hn,List.map_append,yjy,yky,List.append_assoc]
  rfl
set_option maxHeartbeats 8000000 in
set_option maxRecDepth 100000 in
theorem qz.calls (aa:Nat→Prop) (v:Value) (l:List Int) (i k:Int) (r:List Int) (w0 w:World) (hB:Below w0.heap.size w0 w) (ab:Kd.R (Kd.int .i64) 2 w w0.heap.size aa v l) (h:qz.f l i k=some r) :
    Calls Try.prog 92 #[v,.int .i64 i,.int .i64 k] w fun e w'=>e = .returned (.tuple #[])∧Kd.R (Kd.int .i64) 2 w' w0.heap.size aa v r∧Below w0.heap.size w0 w' ∧ Kept w w' aa:=by
  unfold qz.f at h
  by_cases hok:0≤i∧i<l.length∧0≤k∧k<l.length
  case neg=>rw[if_neg hok]at h;cases h
  rw[if_pos hok]at h
  have hr:=yey h
  obtain⟨ae,af,ag,ah⟩:=hok
  obtain⟨g,cap,rfl,ai,_,_⟩:=Kd.Jw ab (by omega)
  have hbig:l.length≤9223372036854775807:=(Kd.zGN (Kd.zq ab).2.2)
  have q0:=(Kd.Zm 0 ab k ag ah).1
  have q1:=(Kd.Zm 0 ab i ae af).1
  replace q0:w.cell? ⟨g,k.toNat,none⟩=some (.int .i64 (rd l k)):=q0
  replace q1:w.cell? ⟨g,i.toNat,none⟩=some (.int .i64 (rd l i)):=q1
  have hR:zA (l.map (fun x=>if x=max (rd l i) (rd l k)then min (rd l i) (rd l k)else x)=r):=⟨hr⟩
  clear hr h;generalize rd l k=q at q0 hR
  generalize rd l i=p at q1 hR
  obtain⟨lo,hlo⟩ : ∃ z:Int,(if q<p then q else p)=z:=⟨_,rfl⟩
  obtain⟨hi,hhi⟩ : ∃ z:Int,(if p<q then q else p)=z:=⟨_,rfl⟩
  have aj:zA (l.map (fun x=>if x=hi then lo else x)=r):=⟨by
    have e1:max p q=hi:=by rw[← hhi];split <;> omega
    have e2:min p q=lo:=by rw[← hlo];split <;> omega
    rw[← e1,← e2];exact hR.out⟩
  have HO:=zA.mk ab
  have HB:=zA.mk hB
  have HP:=zA.mk (ab.1 g rfl)
  have HK:=zA.mk (Kept.refl w aa)
  have HC:zA (l=(l.take 0).map (fun x=>if x=hi then lo else x)++l.drop 0):=⟨by simp⟩
  clear ab hB hR;go_enter Try.func92,Try.ntmps92
  go_wp2;repeat(go_quiet (fail);try go_wp2)
  go_loopg [8] l.length (fun gg v8 w' => ∃ (n:Nat) (cur:List Int),n≤l.length∧l.length-n≤gg∧v8 = .int .i64 n∧zA (cur=(l.take n).map (fun x=>if x=hi then lo else x)++l.drop n)∧zA (Kd.R (Kd.int .i64) 2 w' w0.heap.size aa (.slice (some ⟨g,0,none⟩) l.length cap) cur)∧zA (Below w0.heap.size w0 w')∧zA (Kept w w' aa))
  case atStart=>exact⟨0,l,Nat.zero_le _,by omega,rfl,HC,⟨by(with_reducible repeat(first|apply Kd.zT|apply Kd.zZ));exact HO.out⟩,⟨by(with_reducible repeat(first|apply zB|apply zD));exact HB.out⟩,⟨by(with_reducible repeat(first|apply Kept.drewN|apply Kept.drew));exact HK.out⟩⟩
  case round=>
    clear HC HO HB HK hlo hhi;obtain⟨n,cur,hn,hg,rfl,HC,HO,HB,HK⟩:=hrel
    by_cases hlt:n<l.length
    · have hltz:(n:Int)<(l.length:Int):=by omega
      obtain⟨hc,hf⟩:=Kd.Zm 0 HO.out (n:Int) (by omega) hltz
      replace hc:wr.cell? ⟨g,n,none⟩=some (.int .i64 (rd cur (n:Int))):=hc
      replace hf:wr.frozen? ⟨g,n,none⟩=false:=hf
      rw[pt_get HC.out hlt]at hc
      by_cases hy:l[n]=hi
      · have ad:=zA.mk (pt_put HC.out hlt)
        rw[hy]at hc ad
        have ak:zA (cur.set n lo=(l.take (n+1)).map (fun x=>if x=hi then lo else x)++l.drop (n+1)):=⟨by have h:=ad.out;rwa [if_pos rfl]at h⟩
        have e1:(hi==hi)=true:=by simp
        clear hy ad HC;go_wp2_with (first
          | ((with_reducible refine Zi (t:=2) (p:=42) rfl ?_);refine ZU (t:=2) (p:=42) (v:=?vo42) (w1:=(wr.setCell ⟨g,n,none⟩ (.int .i64 lo))) ?hg ?ho ?hn ?hr ?_;(case ho=>rfl);(case hg=>rfl);(case hn=>rfl);(case hr=>first|(go_simp;done)|(go_simp;rfl));intro w4 hw;have al:=zA.mk (show Kd.R (Kd.int .i64) 2 w4 w0.heap.size aa (.slice (some ⟨g,0,none⟩) l.length cap) (cur.set n lo)by rw[hw];exact(Kd.zAF HO.out (n:Int) lo).1);have an:=zA.mk (show Below w0.heap.size w0 w4 by rw[hw];exact zF HB.out ai);have ao:=zA.mk (show Kept w w4 aa by rw[hw];exact HK.out.setCell (p:=⟨g,n,none⟩) (.inl HP.out) _);clear hw hc hf HO HB HK))
        go_roundg (l.length-(n+1))
        case measure=>omega
        case rel=>exact⟨n+1,cur.set n lo,by omega,by omega,by go_num,ak,al,an,ao⟩
      · have ad:=zA.mk (zIk HC.out hlt (if_neg hy))
        have e1:(l[n]==hi)=false:=by simpa using hy
        generalize l[n]=y at hc e1
        clear hy HC;go_wp2;go_roundg (l.length-(n+1))
        case measure=>omega
        case rel=>exact⟨n+1,cur,by omega,by omega,by go_num,ad,HO,HB,HK⟩
    · obtain rfl:n=l.length:=by omega
      have hcr:cur=r:=by rw[HC.out,← aj.out];simp
      have HCR:=zA.mk hcr
      clear hcr HC;go_wp2;first|go_end0|((try simp only [Exit.inBlock,Exit.then]);refine bodyPost_ret (results_none rfl _ _ _) rfl ?_)
      refine⟨?_,by rw[← HCR.out];exact HO.out,HB.out,HK.out⟩
      first|rfl|(simp <;> rfl)
mutual
def zf.l0:Nat→List Int→Int→List Int→Int→List (List Int)→Int→Option ((List (List Int)) × Int)
 | 0,_,_,_,_,_,_=>none
 | k+1,x0,x1,x6,x7,x8,x9=>if x9<(x0.length:Int)then(if 0≤x9 then(if(rd x0 x9)=x9 then(if x9<(x6.length:Int)then(zf.l0 k x0 x1 (x6.set (x9:Int).toNat x7) (wrap64 (x7+1)) x8 (wrap64 (x9+1)))else(none))else(zf.l0 k x0 x1 x6 x7 x8 (wrap64 (x9+1))))else(none))else(zf.l1 k x0 x1 x6 x7 x8 0)
def zf.l1:Nat→List Int→Int→List Int→Int→List (List Int)→Int→Option ((List (List Int)) × Int)
 | 0,_,_,_,_,_,_=>none
 | k+1,x0,x1,x6,x7,x8,x10=>if x10<(x0.length:Int)then(zf.l2 k x0 x1 x6 x7 x8 x10 (([]:List Int)) x10)else(some (x8,x7))
def zf.l2:Nat→List Int→Int→List Int→Int→List (List Int)→Int→List Int→Int→Option ((List (List Int)) × Int)
 | 0,_,_,_,_,_,_,_,_=>none
 | k+1,x0,x1,x6,x7,x8,x10,x11,x12=>if x12<(wrap64 (x10+x1))then(if 0≤x12 then(if x12<(x0.length:Int)then(if 0≤(rd x0 x12)then(if(rd x0 x12)<(x6.length:Int)then(if x11.length<17592186044416 then(zf.l2 k x0 x1 x6 x7 x8 x10 (x11 ++ [rd x6 (rd x0 x12)]) (wrap64 (x12+1)))else(none))else(none))else(none))else(none))else(none))else(if x8.length<5864062014805 then(zf.l1 k x0 x1 x6 x7 (x8 ++ [x11]) (wrap64 (x10+x1)))else(none))
end
def zf.f (k:Nat) (l0:List Int) (a1:Int):Option ((List (List Int)) × Int):=if 0≤(l0.length:Int)then(if((l0.length:Int):Int).toNat≤35184372088832 then(zf.l0 k l0 a1 (List.replicate ((l0.length:Int):Int).toNat 0) 0 (([]:List (List Int))) 0)else(none))else(none)
set_option maxHeartbeats 8000000 in
set_option maxRecDepth 100000 in
theorem zf.calls (k:Nat) (A0:Option Addr) (c0:Nat) (l0:List Int) (a1:Int) (r1:List (List Int)) (r2:Int) (w:World) (b8:Kd.C (Kd.int .i64) w A0 l0.length l0) (b9:l0.length≤c0) (h:zf.f k l0 a1=some (r1,r2)) :
 Calls Try.prog 117 #[.slice A0 l0.length c0,.int .i64 a1] w fun e w' => ∃ b_:Value,e = .returned (.tuple #[b_,.int .i64 r2])∧Kd.S (Kd.slice 2 (Kd.int .i64)) 22 w' w.heap.size (fun _=>True) b_ r1∧Below w.heap.size w w':=by
 have bY:=zA.mk b8
 have cp:=zA.mk b9
 clear b8 b9;have HB:=zA.mk (ysy w.heap.size w)
 have H:(if 0≤(l0.length:Int)then(if((l0.length:Int):Int).toNat≤35184372088832 then(zf.l0 k l0 a1 (List.replicate ((l0.length:Int):Int).toNat 0) 0 (([]:List (List Int))) 0)else(none))else(none))=some (r1,r2):=h
 clear h;by_cases c3:0≤(l0.length:Int)
 case neg=>
  rw[if_neg c3]at H
  exact absurd H (by simp)
 rw[if_pos c3]at H
 have a2:=eq_true c3
 have a5:decide (0≤(l0.length:Int))=true:=ygy c3
 clear c3;by_cases c4:((l0.length:Int):Int).toNat≤35184372088832
 case neg=>
  rw[if_neg c4]at H
  exact absurd H (by simp)
 rw[if_pos c4]at H
 have a6:=eq_true c4
 have a7:decide (((l0.length:Int):Int).toNat≤35184372088832)=true:=ygy c4
 clear c4;obtain⟨a8,av⟩ : ∃ y_:List Int,y_=(List.replicate ((l0.length:Int):Int).toNat 0):=⟨_,rfl⟩
 replace H:(zf.l0 k l0 a1 a8 0 (([]:List (List Int))) 0)=some (r1,r2):=by first|(rw[av];with_reducible exact H)|(have ak:=(yfy _ _).symm.trans H;rw[av];with_reducible exact ak)|(have ak:=(yfy _ _).symm.trans H;with_reducible exact ak)|with_reducible exact H|(rw[av];exact H)|exact H
 have aR:=zA.mk av
 clear av;obtain⟨aI,aw⟩ : ∃ y_:List (List Int),y_=(([]:List (List Int))):=⟨_,rfl⟩
 replace H:(zf.l0 k l0 a1 a8 0 aI 0)=some (r1,r2):=by first|(rw[aw];with_reducible exact H)|(have ak:=(yfy _ _).symm.trans H;rw[aw];with_reducible exact ak)|(have ak:=(yfy _ _).symm.trans H;with_reducible exact ak)|with_reducible exact H|(rw[aw];exact H)|exact H
 have aT:=zA.mk aw
 clear aw;have H':=zA.mk H
 clear H;go_enter Try.func117,Try.ntmps117
 go_wp2_with (first|((with_reducible refine zw (N:=15) rfl ?_);refine Kd.zDr (Kd.int .i64) _ 2 rfl (N:=15) rfl 22 _ _ rfl (l0.length:Int) rfl rfl Try.underlying22 (.int .i64 0) 8 Jp rfl (by decide) (by omega) 0 (ok:=fun _=>True) (okp:=fun _=>True) rfl (fun _ hk=>hk) trivial (of_decide_eq_true (by first|(with_reducible assumption)|assumption)) (Nat.le_trans (Nat.mul_le_mul_right _ (of_decide_eq_true (by first|(with_reducible assumption)|assumption):(l0.length:Int).toNat≤35184372088832)) (by omega)) (ysy _ _) (yry _) ?_;intro al w5 bq hb hg_ hnew_;clear hg_ hnew_;(first|rw[← aR.out]at bq|(simp only [Int.reduceToNat]at bq;rw[← aR.out]at bq));have ax:=zA.mk (Kd.qx bq (zQ (by repeat(first|(with_reducible first|exact HB.out|apply zC|apply zB|apply zD)|exact HB.out))));have ay:=zA.mk (zM (by repeat(first|(with_reducible first|exact HB.out|apply zC|apply zB|apply zD)|exact HB.out)) hb);clear HB;have az:=ax;have HB:=ay;clear ax ay;clear hb bq)|((with_reducible refine zw (N:=16) rfl ?_);refine Kd.S_lit (Kd.slice 2 (Kd.int .i64)) _ 22 ?hg (N:=16) ?hd (xs:=([]:List (List Int))) (inner := []) (ok:=fun _=>True) (okp:=fun _=>True) ?hr ?hp (fun _ hk=>hk) trivial (ysy _ _) (yry _) (by simp) ?_;(case hd=>rfl);(case hg=>rfl);(case hr=>first|(go_simp;done)|(go_simp;rfl));(case hp=>exact(QN.none _ _));intro bZ w7 br hb hg_ hnew_;clear hg_ hnew_;(first|rw[← aT.out]at br|(simp only [Int.reduceToNat]at br;rw[← aT.out]at br));have ax:=zA.mk (Kd.qN (by(with_reducible repeat(first|apply Kd.zS|apply Kd.zT|apply Kd.zZ));exact az.out) hb);have ay:=zA.mk (Kd.QA (Kd.QL br (Kd.JO (by(with_reducible repeat(first|apply Kd.zS|apply Kd.zT|apply Kd.zZ));exact az.out))) (zQ (by repeat(first|(with_reducible first|exact HB.out|apply zC|apply zB|apply zD)|exact HB.out))));have aH:=zA.mk (zM (by repeat(first|(with_reducible first|exact HB.out|apply zC|apply zB|apply zD)|exact HB.out)) hb);clear az;clear HB;have az:=ax;have bs:=ay;have HB:=aH;clear ax ay aH;clear hb br))
 go_loopg [7,9] k (fun kq v7 v9 w' => ∃ (ae:List Int) (aj:Int) (ab:Int),v7 = .int .i64 aj∧v9 = .int .i64 ab∧zA (zf.l0 kq l0 a1 ae aj aI ab=some (r1,r2))∧zA (kq≤k)∧zA (Kd.R (Kd.int .i64) 2 w' w.heap.size (fun _=>True) al ae)∧zA (Kd.S (Kd.slice 2 (Kd.int .i64)) 22 w' w.heap.size (fun k_=>some k_≠(al:Value).ownBlock) bZ aI)∧zA (Below w.heap.size w w'))
 case atStart=>exact⟨(a8),(0),(0),(by first|rfl|(simp;done)|(simp [*];done)),(by first|rfl|(simp;done)|(simp [*];done)),H',⟨yry _⟩,⟨by(with_reducible repeat(first|apply Kd.zS|apply Kd.zT|apply Kd.zZ));exact az.out⟩,⟨by(with_reducible repeat(first|apply Kd.zh|apply Kd.zi|apply Kd.zx));exact Kd.ZC bs.out (fun _ hk=>hk.2)⟩,⟨by repeat(first|(with_reducible first|exact HB.out|apply zC|apply zB|apply zD)|exact HB.out)⟩⟩
 case round=>
  clear H';(try clear c1);(try clear p2);(try clear c3);(try clear a2);(try clear a5);(try clear c4);(try clear a6);(try clear a7);obtain⟨ae,aj,ab,rfl,rfl,HA,aU,ad,ah,HB⟩:=hrel
  cases gk with
  | zero=>exact absurd HA.out (by simp [zf.l0])
  | succ k1=>
   have H:=HA.out
   clear HA;simp only [zf.l0]at H
   by_cases c9:ab<(l0.length:Int)
   next=>
    rw[if_pos c9]at H
    have a_:decide (ab<(l0.length:Int))=true:=ygy c9
    clear c9;by_cases bn:0≤ab
    case neg=>
     rw[if_neg bn]at H
     exact absurd H (by simp)
    rw[if_pos bn]at H
    have aV:decide (0≤ab)=true:=ygy bn
    clear bn;by_cases aQ:(rd l0 ab)=ab
    case neg=>
     rw[if_neg aQ]at H
     have aJ:((rd l0 ab)==ab)=false:=beq_eq_false_iff_ne.mpr aQ
     have aK:((rd l0 ab) != ab)=true:=bne_iff_ne.mpr aQ
     have H':=zA.mk H
     clear H;have aq:0≤(ab:Int):=of_decide_eq_true (by first|(with_reducible assumption)|assumption)
     have ar:ab<(l0.length:Int):=of_decide_eq_true (by first|(with_reducible assumption)|assumption)
     obtain⟨bt,ba,ag⟩:=Kd.qw bY.out ab aq ar
     cases ba
     replace ag:=(HB.out.cell (yqy w _ ag)).trans ag
     replace aq:=eq_true aq
     replace ar:=eq_true ar
     go_wp2;go_roundg k1
     case measure=>have:=aU.out;omega
     case rel=>exact⟨(ae),(aj),(wrap64 (ab+1)),(by first|rfl|(simp;done)|(simp [*];done)),(by first|rfl|(simp;done)|(simp [*];done)),H',⟨by have:=aU.out;omega⟩,⟨by(with_reducible repeat(first|apply Kd.zS|apply Kd.zT|apply Kd.zZ));exact ad.out⟩,⟨by(with_reducible repeat(first|apply Kd.zh|apply Kd.zi|apply Kd.zx));exact ah.out⟩,⟨by repeat(first|(with_reducible first|exact HB.out|apply zC|apply zB|apply zD)|exact HB.out)⟩⟩
    rw[if_pos aQ]at H
    have aJ:((rd l0 ab)==ab)=true:=beq_iff_eq.mpr aQ
    have aK:((rd l0 ab) != ab)=false:=bne_eq_false_iff_eq.mpr aQ
    clear aQ;by_cases bo:ab<(ae.length:Int)
    case neg=>
     rw[if_neg bo]at H
     exact absurd H (by simp)
    rw[if_pos bo]at H
    have aW:decide (ab<(ae.length:Int))=true:=ygy bo
    clear bo;obtain⟨bb,aA⟩ : ∃ y_:List Int,y_=(ae.set (ab:Int).toNat aj):=⟨_,rfl⟩
    replace H:(zf.l0 k1 l0 a1 bb (wrap64 (aj+1)) aI (wrap64 (ab+1)))=some (r1,r2):=by first|(rw[aA];with_reducible exact H)|(have ak:=(yfy _ _).symm.trans H;rw[aA];with_reducible exact ak)|(have ak:=(yfy _ _).symm.trans H;with_reducible exact ak)|with_reducible exact H|(rw[aA];exact H)|exact H
    have bu:=zA.mk aA
    clear aA;have H':=zA.mk H
    clear H;have aq:0≤(ab:Int):=of_decide_eq_true (by first|(with_reducible assumption)|assumption)
    have ar:ab<(l0.length:Int):=of_decide_eq_true (by first|(with_reducible assumption)|assumption)
    obtain⟨bt,ba,ag⟩:=Kd.qw bY.out ab aq ar
    cases ba
    replace ag:=(HB.out.cell (yqy w _ ag)).trans ag
    replace aq:=eq_true aq
    replace ar:=eq_true ar
    have bc:0≤(ab:Int):=of_decide_eq_true (by first|(with_reducible assumption)|assumption)
    have bd:(ab:Int)<((ae.length:Int):Int):=of_decide_eq_true (by first|(with_reducible assumption)|assumption)
    obtain⟨aM,bf,bw,bx,b0,cg,bz⟩:=Kd.Jw ad.out (by omega)
    (first|cases bw|(injection bw with ea_ en_ ec_;(first|subst ea_|(injection ea_ with ea_;subst ea_));subst ec_;clear en_))
    have b1:=zA.mk bx
    have ch:=zA.mk bz
    clear bx b0 bz;obtain⟨aN,b2⟩:=Kd.Zm 0 ad.out (ab:Int) bc bd
    replace bc:=eq_true bc
    replace bd:=eq_true bd
    have bg:=Kd.zAF ad.out (ab:Int) aj
    go_wp2_with (first|((with_reducible refine Zi (t:=2) (p:=32) rfl ?_);refine ZU (t:=2) (p:=32) (v:=?vo_w15) (w1:=(wr.setCell ⟨aM,(ab:Int).toNat,none⟩ (.int .i64 aj))) ?hg ?ho ?hn ?hr ?_;(case ho=>rfl);(case hg=>rfl);(case hn=>rfl);(case hr=>first|(go_simp;done)|(go_simp;rfl));intro b3 hw;have hg:wr.grownBy b3 (some aM):=(by rw[hw];exact bg.2);have hp_:Kd.R (Kd.int .i64) 2 b3 w.heap.size (fun _=>True) (.slice (some ⟨aM,0,none⟩) ae.length bf) bb:=(by rw[hw,bu.out];exact bg.1);clear bg;have ax:=zA.mk (hp_);have ay:=zA.mk (Kd.JY (v:=(.slice (some ⟨aM,0,none⟩) ae.length bf)) (v1:=(.slice (some ⟨aM,0,none⟩) ae.length bf)) (ok:=(fun _=>True)) (by(with_reducible repeat(first|apply Kd.zh|apply Kd.zi|apply Kd.zx));exact Kd.ZC ah.out (fun _ hk=>⟨trivial,hk⟩)) hg (.inl rfl));have aH:=zA.mk ((by rw[hw];exact zF (HB.out) b1.out:Below w.heap.size w b3));clear ad;clear ah;clear HB;have ad:=ax;have ah:=ay;have HB:=aH;clear ax ay aH;clear hg hw hp_))
    go_roundg k1
    case measure=>have:=aU.out;omega
    case rel=>exact⟨(bb),(wrap64 (aj+1)),(wrap64 (ab+1)),(by first|rfl|(simp;done)|(simp [*];done)),(by first|rfl|(simp;done)|(simp [*];done)),H',⟨by have:=aU.out;omega⟩,⟨by(with_reducible repeat(first|apply Kd.zS|apply Kd.zT|apply Kd.zZ));exact ad.out⟩,⟨by(with_reducible repeat(first|apply Kd.zh|apply Kd.zi|apply Kd.zx));exact Kd.ZC ah.out (fun _ hk=>hk.2)⟩,⟨by repeat(first|(with_reducible first|exact HB.out|apply zC|apply zB|apply zD)|exact HB.out)⟩⟩
   rw[if_neg c9]at H
   have a_:decide (ab<(l0.length:Int))=false:=yhy c9
   clear c9;have H':=zA.mk H
   clear H;go_wp2;go_loopg [8,10] k1 (fun kq v8 v10 w' => ∃ (an:List (List Int)) (af:Int),v10 = .int .i64 af∧zA (zf.l1 kq l0 a1 ae aj an af=some (r1,r2))∧zA (kq≤k1)∧zA (Kd.R (Kd.int .i64) 2 w' w.heap.size (fun _=>True) al ae)∧zA (Kd.S (Kd.slice 2 (Kd.int .i64)) 22 w' w.heap.size (fun k_=>some k_≠(al:Value).ownBlock) v8 an)∧zA (Below w.heap.size w w'))
   case atStart=>exact⟨(aI),(0),(by first|rfl|(simp;done)|(simp [*];done)),H',⟨yry _⟩,⟨by(with_reducible repeat(first|apply Kd.zS|apply Kd.zT|apply Kd.zZ));exact ad.out⟩,⟨by(with_reducible repeat(first|apply Kd.zh|apply Kd.zi|apply Kd.zx));exact ah.out⟩,⟨by repeat(first|(with_reducible first|exact HB.out|apply zC|apply zB|apply zD)|exact HB.out)⟩⟩
   case round=>
    clear H';(try clear c1);(try clear p1);(try clear q1);(try clear hx1);(try clear p2);(try clear c3);(try clear a2);(try clear a5);(try clear c4);(try clear a6);(try clear a7);(try clear p6);(try clear c9);(try clear a_);(try clear bn);(try clear aV);(try clear p10);(try clear q10);(try clear hx10);(try clear aQ);(try clear aJ);(try clear aK);(try clear bo);(try clear aW);(try clear bc);(try clear bd);(try clear hx13);(try clear hf13);(try clear ag);(try clear aN);(try clear aq);(try clear bc);(try clear p2);(try clear ar);(try clear bd);obtain⟨an,af,rfl,HA,bP,ad,ah,HB⟩:=hrel
    cases gk with
    | zero=>exact absurd HA.out (by simp [zf.l1])
    | succ k2=>
     have H:=HA.out
     clear HA;simp only [zf.l1]at H
     by_cases bh:af<(l0.length:Int)
     case neg=>
      rw[if_neg bh]at H
      have aX:decide (af<(l0.length:Int))=false:=yhy bh
      clear bh;simp only [Option.some.injEq,Prod.mk.injEq]at H
      obtain⟨rfl,rfl⟩:=H
      go_wp2;go_ret2
      exact⟨_,by first|rfl|(simp [zU,zV] <;> rfl)|(simp [*,zU,zV] <;> rfl),by(with_reducible repeat(first|apply Kd.zh|apply Kd.zi|apply Kd.zx));exact Kd.ZC ah.out (fun _ hk=>trivial),by repeat(first|(with_reducible first|exact HB.out|apply zC|apply zB|apply zD)|exact HB.out)⟩
     rw[if_pos bh]at H
     have aX:decide (af<(l0.length:Int))=true:=ygy bh
     clear bh;obtain⟨bA,aC⟩ : ∃ y_:List Int,y_=(([]:List Int)):=⟨_,rfl⟩
     replace H:(zf.l2 k2 l0 a1 ae aj an af bA af)=some (r1,r2):=by first|(rw[aC];with_reducible exact H)|(have ak:=(yfy _ _).symm.trans H;rw[aC];with_reducible exact ak)|(have ak:=(yfy _ _).symm.trans H;with_reducible exact ak)|with_reducible exact H|(rw[aC];exact H)|exact H
     have aY:=zA.mk aC
     clear aC;have H':=zA.mk H
     clear H;go_wp2_with (first|((with_reducible refine zw (N:=42) rfl ?_);refine Kd.zBO (Kd.int .i64) _ 2 ?hg (N:=42) ?hd (xs:=([]:List Int)) (inner := []) (ok:=fun _=>True) (okp:=fun _=>True) ?hr ?hp (fun _ hk=>hk) trivial (ysy _ _) (yry _) (by simp) ?_;(case hd=>rfl);(case hg=>rfl);(case hr=>first|(go_simp;done)|(go_simp;rfl));(case hp=>exact(QN.none _ _));intro cj cq aG hb hg_ hnew_;clear hg_ hnew_;(first|rw[← aY.out]at aG|(simp only [Int.reduceToNat]at aG;rw[← aY.out]at aG));have ax:=zA.mk (Kd.Zs (by(with_reducible repeat(first|apply Kd.zS|apply Kd.zT|apply Kd.zZ));exact ad.out) (Kd.Zw aG) hb);have ay:=zA.mk (Kd.Zt (by(with_reducible repeat(first|apply Kd.zh|apply Kd.zi|apply Kd.zx));exact ah.out) (Kd.Zw aG) hb);have aH:=zA.mk (Kd.qx (Kd.JP aG (Kd.JO (by(with_reducible repeat(first|apply Kd.zS|apply Kd.zT|apply Kd.zZ));exact ad.out))) (zQ (by repeat(first|(with_reducible first|exact HB.out|apply zC|apply zB|apply zD)|exact HB.out))));have bB:=zA.mk (zM (by repeat(first|(with_reducible first|exact HB.out|apply zC|apply zB|apply zD)|exact HB.out)) hb);clear ad;clear ah;clear HB;have ad:=ax;have ah:=ay;have bC:=aH;have HB:=bB;clear ax ay aH bB;clear hb aG))
     go_loopg [11,12] k2 (fun kq v11 ck w' => ∃ (ai:List Int) (aa:Int),ck = .int .i64 aa∧zA (zf.l2 kq l0 a1 ae aj an af ai aa=some (r1,r2))∧zA (kq≤k2)∧zA (Kd.R (Kd.int .i64) 2 w' w.heap.size (fun k_=>some k_≠(v11:Value).ownBlock) al ae)∧zA (Kd.S (Kd.slice 2 (Kd.int .i64)) 22 w' w.heap.size (fun k_=>some k_≠(al:Value).ownBlock∧some k_≠(v11:Value).ownBlock) u8 an)∧zA (Kd.R (Kd.int .i64) 2 w' w.heap.size (fun k_=>some k_≠(al:Value).ownBlock) v11 ai)∧zA (Below w.heap.size w w'))
     case atStart=>exact⟨(bA),(af),(by first|rfl|(simp;done)|(simp [*];done)),H',⟨yry _⟩,⟨by(with_reducible repeat(first|apply Kd.zS|apply Kd.zT|apply Kd.zZ));exact Kd.qC ad.out (fun _ hk=>hk.2)⟩,⟨by(with_reducible repeat(first|apply Kd.zh|apply Kd.zi|apply Kd.zx));exact ah.out⟩,⟨by(with_reducible repeat(first|apply Kd.zS|apply Kd.zT|apply Kd.zZ));exact Kd.qC bC.out (fun _ hk=>hk.2)⟩,⟨by repeat(first|(with_reducible first|exact HB.out|apply zC|apply zB|apply zD)|exact HB.out)⟩⟩
     case round=>
      clear H';(try clear c1);(try clear p1);(try clear q1);(try clear hx1);(try clear p2);(try clear c3);(try clear a2);(try clear a5);(try clear c4);(try clear a6);(try clear a7);(try clear p6);(try clear c9);(try clear a_);(try clear bn);(try clear aV);(try clear p10);(try clear q10);(try clear hx10);(try clear aQ);(try clear aJ);(try clear aK);(try clear bo);(try clear aW);(try clear bc);(try clear bd);(try clear hx13);(try clear hf13);(try clear bh);(try clear aX);(try clear ag);(try clear aN);(try clear p1);(try clear p10);(try clear aq);(try clear bc);(try clear p2);(try clear p6);(try clear q1);(try clear q10);(try clear ar);(try clear bd);obtain⟨ai,aa,rfl,HA,bQ,ad,ah,ao,HB⟩:=hrel
      cases gk with
      | zero=>exact absurd HA.out (by simp [zf.l2])
      | succ k3=>
       have H:=HA.out
       clear HA;simp only [zf.l2]at H
       by_cases bp:aa<(wrap64 (af+a1))
       case neg=>
        rw[if_neg bp]at H
        have bD:decide (aa<(wrap64 (af+a1)))=false:=yhy bp
        clear bp;by_cases bR:an.length<5864062014805
        case neg=>
         rw[if_neg bR]at H
         exact absurd H (by simp)
        rw[if_pos bR]at H
        have bE:=zA.mk bR
        clear bR;obtain⟨bF,aD⟩ : ∃ y_:List (List Int),y_=(an ++ [ai]):=⟨_,rfl⟩
        replace H:(zf.l1 k3 l0 a1 ae aj bF (wrap64 (af+a1)))=some (r1,r2):=by first|(rw[aD];with_reducible exact H)|(have ak:=(yfy _ _).symm.trans H;rw[aD];with_reducible exact ak)|(have ak:=(yfy _ _).symm.trans H;with_reducible exact ak)|with_reducible exact H|(rw[aD];exact H)|exact H
        have bG:=zA.mk aD
        clear aD;have H':=zA.mk H
        clear H;obtain⟨bH,bI,b4⟩:=Kd.ZE ao.out
        subst b4;go_wp2_with (first|((with_reducible refine ZN (b := .append) (xs:=#[.tmp 61,.tmp 63]) rfl ?_);at_builtin;refine Kd.zDB (Kd.slice 2 (Kd.int .i64)) (w0:=w) w.heap.size rfl (.tmp 61) (.tmp 63) 30 22 (.slice none 0 0) 24 rfl Try.underlying30 zFC rfl (by decide) (by omega) u8 an ai [.slice bH ai.length bI] (fun k_=>some k_≠(al:Value).ownBlock) (fun k_=>some k_=(.slice bH ai.length bI:Value).ownBlock) rfl rfl ?aP (fun k_ hk_=>((Kd.qC (ok':=fun k_=>((fun k_=>some k_≠(al:Value).ownBlock)) k_∧some k_≠(u8:Value).ownBlock) (Kd.QY (ao.out) (Kd.Qj ah.out) (by decide)) (fun k_ hk=>⟨hk.1,hk.2⟩))).1 k_ hk_.symm) ?aF ?aO ?aB ?aS ?aL ?_;(case aP=>exact Kd.zHT (Kd.qC (Kd.Qu rfl (Kd.qC (ok':=fun k_=>((fun k_=>some k_≠(al:Value).ownBlock)) k_∧some k_≠(u8:Value).ownBlock) (Kd.QY (ao.out) (Kd.Qj ah.out) (by decide)) (fun k_ hk=>⟨hk.1,hk.2⟩))) (fun _ h_=>h_)));(case aB=>exact(by repeat(first|(with_reducible first|exact HB.out|apply zC|apply zB|apply zD)|exact HB.out)));(case aF=>exact(fun k_ hk=>Kd.JQ (Kd.JO (by(with_reducible repeat(first|apply Kd.zS|apply Kd.zT|apply Kd.zZ));exact ad.out)) k_ hk));(case aO=>exact(by(with_reducible repeat(first|apply Kd.zh|apply Kd.zi|apply Kd.zx));exact Kd.ZC ah.out (fun k_ hk=>⟨hk.1,fun e_=>hk.2 e_⟩)));(case aS=>exact(zQ (by repeat(first|(with_reducible first|exact HB.out|apply zC|apply zB|apply zD)|exact HB.out))));(case aL=>have:=bE.out;omega);intro cl cr ho hb hg hat;rw[← bG.out]at ho;have ax:=zA.mk (Kd.zGQ (by(with_reducible repeat(first|apply Kd.zS|apply Kd.zT|apply Kd.zZ));exact ad.out) (Kd.Qj (by(with_reducible repeat(first|apply Kd.zh|apply Kd.zi|apply Kd.zx));exact ah.out)) (by decide) hg);have ay:=zA.mk (hb);have aH:=zA.mk (ho);clear ad;clear HB;clear ah;clear ao;have ad:=ax;have HB:=ay;have bJ:=aH;clear ax ay aH;clear ho hb hg hat))
        go_roundg k3
        case measure=>have:=aU.out;have:=bP.out;have:=bQ.out;omega
        case rel=>exact⟨(bF),(wrap64 (af+a1)),(by first|rfl|(simp;done)|(simp [*];done)),H',⟨by have:=aU.out;have:=bP.out;have:=bQ.out;omega⟩,⟨by(with_reducible repeat(first|apply Kd.zS|apply Kd.zT|apply Kd.zZ));exact Kd.qC ad.out (fun _ hk=>trivial)⟩,⟨by(with_reducible repeat(first|apply Kd.zh|apply Kd.zi|apply Kd.zx));exact bJ.out⟩,⟨by repeat(first|(with_reducible first|exact HB.out|apply zC|apply zB|apply zD)|exact HB.out)⟩⟩
       rw[if_pos bp]at H
       have bD:decide (aa<(wrap64 (af+a1)))=true:=ygy bp
       clear bp;by_cases bS:0≤aa
       case neg=>
        rw[if_neg bS]at H
        exact absurd H (by simp)
       rw[if_pos bS]at H
       have ca:decide (0≤aa)=true:=ygy bS
       clear bS;by_cases bT:aa<(l0.length:Int)
       case neg=>
        rw[if_neg bT]at H
        exact absurd H (by simp)
       rw[if_pos bT]at H
       have cb:decide (aa<(l0.length:Int))=true:=ygy bT
       clear bT;by_cases bU:0≤(rd l0 aa)
       case neg=>
        rw[if_neg bU]at H
        exact absurd H (by simp)
       rw[if_pos bU]at H
       have cc:decide (0≤(rd l0 aa))=true:=ygy bU
       clear bU;by_cases bV:(rd l0 aa)<(ae.length:Int)
       case neg=>
        rw[if_neg bV]at H
        exact absurd H (by simp)
       rw[if_pos bV]at H
       have cd:decide ((rd l0 aa)<(ae.length:Int))=true:=ygy bV
       clear bV;by_cases bW:ai.length<17592186044416
       case neg=>
        rw[if_neg bW]at H
        exact absurd H (by simp)
       rw[if_pos bW]at H
       have bK:=zA.mk bW
       clear bW;obtain⟨bL,aE⟩ : ∃ y_:List Int,y_=(ai ++ [rd ae (rd l0 aa)]):=⟨_,rfl⟩
       replace H:(zf.l2 k3 l0 a1 ae aj an af bL (wrap64 (aa+1)))=some (r1,r2):=by first|(rw[aE];with_reducible exact H)|(have ak:=(yfy _ _).symm.trans H;rw[aE];with_reducible exact ak)|(have ak:=(yfy _ _).symm.trans H;with_reducible exact ak)|with_reducible exact H|(rw[aE];exact H)|exact H
       have bM:=zA.mk aE
       clear aE;have H':=zA.mk H
       clear H;have bj:0≤(aa:Int):=of_decide_eq_true (by first|(with_reducible assumption)|assumption)
       have bk:aa<(l0.length:Int):=of_decide_eq_true (by first|(with_reducible assumption)|assumption)
       obtain⟨cf,b5,au⟩:=Kd.qw bY.out aa bj bk
       cases b5
       replace au:=(HB.out.cell (yqy w _ au)).trans au
       replace bj:=eq_true bj
       replace bk:=eq_true bk
       obtain⟨cm,bN,b6⟩:=Kd.ZE ad.out
       subst b6;have bl:0≤((rd l0 aa):Int):=of_decide_eq_true (by first|(with_reducible assumption)|assumption)
       have bm:(rd l0 aa)<(ae.length:Int):=of_decide_eq_true (by first|(with_reducible assumption)|assumption)
       obtain⟨aZ,b7,bX⟩:=Kd.qw (Kd.zq ad.out).2.2 (rd l0 aa) bl bm
       cases b7
       replace bl:=eq_true bl
       replace bm:=eq_true bm
       go_wp2_with (first|((with_reducible refine ZN (b := .append) (xs:=#[.tmp 51,.tmp 59]) rfl ?_);at_builtin;refine Kd.Qn (Kd.int .i64) (w0:=w) w.heap.size rfl (.tmp 51) (.tmp 59) 22 2 (.int .i64 0) 8 rfl Try.underlying22 Jp rfl (by decide) (by omega) u11 ai (rd ae (rd l0 aa)) [.int .i64 (rd ae (rd l0 aa))] (fun k_=>some k_≠(.slice (some aZ) ae.length bN:Value).ownBlock) (fun _=>False) rfl rfl ?aP (fun _ hk=>hk.elim) ?aF ?aO ?aB ?aS ?aL ?_;(case aP=>exact rfl);(case aB=>exact(by repeat(first|(with_reducible first|exact HB.out|apply zC|apply zB|apply zD)|exact HB.out)));(case aF=>exact(fun k_ hk=>Kd.JQ (Kd.JO (by(with_reducible repeat(first|apply Kd.zS|apply Kd.zT|apply Kd.zZ));exact ad.out)) k_ hk));(case aO=>exact(by(with_reducible repeat(first|apply Kd.zS|apply Kd.zT|apply Kd.zZ));exact ao.out));(case aS=>exact(zQ (by repeat(first|(with_reducible first|exact HB.out|apply zC|apply zB|apply zD)|exact HB.out))));(case aL=>have:=bK.out;omega);intro cn ct ho hb hg hat;rw[← bM.out]at ho;have ax:=zA.mk (Kd.ZK (ok:=(fun _=>True)) (by(with_reducible repeat(first|apply Kd.zS|apply Kd.zT|apply Kd.zZ));exact Kd.qC ad.out (fun _ hk=>⟨trivial,hk⟩)) hg hat);have ay:=zA.mk (Kd.JY (ok:=(fun k_=>some k_≠(.slice (some aZ) ae.length bN:Value).ownBlock)) (by(with_reducible repeat(first|apply Kd.zh|apply Kd.zi|apply Kd.zx));exact ah.out) hg hat);have aH:=zA.mk (hb);have bB:=zA.mk (ho);clear ad;clear ah;clear HB;clear ao;have ad:=ax;have ah:=ay;have HB:=aH;have bO:=bB;clear ax ay aH bB;clear ho hb hg hat))
       go_roundg k3
       case measure=>have:=aU.out;have:=bP.out;have:=bQ.out;omega
       case rel=>exact⟨(bL),(wrap64 (aa+1)),(by first|rfl|(simp;done)|(simp [*];done)),H',⟨by have:=aU.out;have:=bP.out;have:=bQ.out;omega⟩,⟨by(with_reducible repeat(first|apply Kd.zS|apply Kd.zT|apply Kd.zZ));exact Kd.qC ad.out (fun _ hk=>hk.2)⟩,⟨by(with_reducible repeat(first|apply Kd.zh|apply Kd.zi|apply Kd.zx));exact ah.out⟩,⟨by(with_reducible repeat(first|apply Kd.zS|apply Kd.zT|apply Kd.zZ));exact bO.out⟩,⟨by repeat(first|(with_reducible first|exact HB.out|apply zC|apply zB|apply zD)|exact HB.out)⟩⟩
end Go.Proofs.Ytembbpalgfikiaa.P
