/- The statement FnExactLinkKindSaid, proved: part 4 of 9 (texts of this session and of the kit's print, put together and cut to what is used by a program of it). -/
import Derived.Test.YtembbpalgfikiaaMFnExactLinkKind3
namespace Go.Proofs.Ytembbpalgfikiaa.P
open Go.RowKit Go.Proofs.YtembbpalgfikiaaW.PrintWords Go.Proofs.YtembbpalgfikiaaW.PrintLast Go.Proofs.YtembbpalgfikiaaW.PrintMore
attribute [local go_sem] Ji Jj zAU zAV JK JL Jk Jl
set_option linter.unusedVariables false
set_option linter.unusedSimpArgs false
mutual
def zb.j0:Nat→Bool→List (List (zv))→Option (Bool)
  | 0,_,_=>none
  | k+1,x13,x102000=>if x13=true then(some false)else((qX.f x102000).bind fun t103=>(zb.l0 k t103 0 x102000))
def zb.l0:Nat→Int→Int→List (List (zv))→Option (Bool)
  | 0,_,_,_=>none
  | k+1,x16,x17,x102000=>if x17<x16 then(zb.l1 k x17 x16 x17 0 x102000)else(some true)
def zb.l1:Nat→Int→Int→Int→Int→List (List (zv))→Option (Bool)
  | 0,_,_,_,_,_=>none
  | k+1,x3,x16,x17,x20,x102000=>if x20<4 then((zY.f k x102000 x3 x20).bind fun t104=>(if t104=true then(zb.l1 k x3 x16 x17 (wrap64 (x20+1)) x102000)else(some false)))else(zb.l0 k x16 (wrap64 (x17+1)) x102000)
end
def zb.f (k:Nat) (l0_0:List (List (zv))):Option (Bool):=if(l0_0.length:Int)>8 then(zb.j0 k true l0_0)else((zr.f l0_0).bind fun t102=>(zb.j0 k t102 l0_0))
set_option maxHeartbeats 8000000 in
set_option maxRecDepth 100000 in
theorem zb.calls (k:Nat) (ah:Option Addr) (ai:Nat) (ab:List (List (zv))) (r:Bool) (w:World) (aA:Kd.C (Kd.slice 75 ZZ) w ah ab.length ab) (aB:ab.length≤ai) (h:zb.f k ab=some r) :
    Calls Try.prog 62 #[.agg #[.slice ah ab.length ai]] w fun e w'=>e = .returned (.bool r)∧Below w.heap.size w w':=by
  have aX:=Try.underlying35
  have aq:=zA.mk aA
  have ar:=zA.mk aB
  clear aA aB;have HB:=zA.mk (ysy w.heap.size w)
  have H:(if(ab.length:Int)>8 then(zb.j0 k true ab)else((zr.f ab).bind fun t102=>(zb.j0 k t102 ab)))=some r:=h
  clear h;have aQ:=zA.mk H
  clear H;go_enter Try.func62,Try.ntmps62
  go_upto_region 1 with (first|((with_reducible refine zw (N:=1) rfl ?_);refine zz ?hg (N:=1) ?hd (cs:=#[.slice ah ab.length ai]) (t:=35) ?hr ?_;(case hd=>rfl);(case hg=>rfl);(case hr=>first|(go_simp;done)|(go_simp;rfl));intro ae hg w3 hbox hb;have ax:=zA.mk (zM (by repeat(first|(with_reducible first|exact HB.out|apply zC|apply zB|apply zD)|exact HB.out)) hb);have ay:=zA.mk (hbox);have aS:=zA.mk ((by rw[hg];exact(zQ (by repeat(first|(with_reducible first|exact HB.out|apply zC|apply zB|apply zD)|exact HB.out))):w.heap.size≤ae));have aT:=zA.mk ((by rw[hg];exact(zQ (by repeat(first|(with_reducible first|exact HB.out|apply zC|apply zB|apply zD)|exact HB.out))):w.heap.size≤ae));clear HB;have HB:=ax;have aa:=ay;have aU:=aS;have af:=aT;clear ax ay aS aT;clear hb hbox hg))
  (try simp only [Act.put,yay,yby,ycy])
  go_cut [13] (fun aY wc => ∃ (kq:Nat) (au:Bool),aY = .bool au∧zA (zb.j0 kq au ab=some r)∧zA (kq≤k)∧zA (wc.heap[ae]?=some (.cells #[(.slice ah ab.length ai)] 35 (0,0)))∧zA (Below w.heap.size w wc))
  case first=>
    have H:=aQ.out
    clear aQ;by_cases c4:(ab.length:Int)>8
    · rw[if_pos c4]at H
      have aj:decide (8<(ab.length:Int))=true:=ygy c4
      have az:decide (8<ab.length)=true:=ygy (by omega)
      clear c4
      (first|rw[aj]|(simp only [zX,za];rw[aj])|skip)
      have H':=zA.mk H
      clear H;have ak:w3.cell? ⟨ae,0,none⟩=some (.slice ah ab.length ai):=(zK aa.out 0).trans rfl
      have al:=zP aa.out 0
      go_wp2;go_meet
      case rel=>exact⟨_,(true),(by first|rfl|(simp;done)|(simp [*];done)),H',⟨by first|omega|exact yry _⟩,⟨by(with_reducible repeat(first|refine zH ?_ _|refine zJ ?_|refine zG ?_ _));exact aa.out⟩,⟨by repeat(first|(with_reducible first|exact HB.out|apply zC|apply zB|apply zD|refine zF ?_ af.out)|exact HB.out)⟩⟩
    · rw[if_neg c4]at H
      have aj:decide (8<(ab.length:Int))=false:=yhy c4
      have az:decide (8<ab.length)=false:=yhy (by omega)
      clear c4
      (first|rw[aj]|(simp only [zX,za];rw[aj])|skip)
      replace H:=ydy.mp H
      obtain⟨t102,aV,H⟩:=H
      replace H:(zb.j0 k t102 ab)=some r:=H
      have A6:=zA.mk aV
      clear aV;have H':=zA.mk H
      clear H;have an:w3.cell? ⟨ae,0,none⟩=some (.slice ah ab.length ai):=(zK aa.out 0).trans rfl
      have ao:=zP aa.out 0
      go_wp2_with (first|(go_at_call 106;(with_reducible refine(zr.calls _ _ ab t102 _ ?side1 ?side2 A6.out).mono ?_);(case side1=>repeat(first|exact(Kd.qD aq.out HB.out)|(with_reducible refine Kd.zy ?_ _)|(with_reducible refine Kd.qA ?_ _)|(with_reducible refine Kd.qR ?_)));(case side2=>exact ar.out);rintro e w8 ⟨rfl,hb⟩;have ax:=zA.mk (zO (g:=ae) (o := .cells #[.slice ah ab.length ai] 35 (0,0)) (by(with_reducible repeat(first|refine zH ?_ _|refine zJ ?_|refine zG ?_ _));exact aa.out) hb);have ay:=zA.mk (zM (by repeat(first|(with_reducible first|exact HB.out|apply zC|apply zB|apply zD|refine zF ?_ af.out)|exact HB.out)) hb);clear aa;clear HB;have aa:=ax;have HB:=ay;clear ax ay;(try clear hb);(try clear hb2);(try clear hk);(try clear hi)))
      go_meet
      case rel=>exact⟨_,(t102),(by first|rfl|(simp;done)|(simp [*];done)),H',⟨by first|omega|exact yry _⟩,⟨by(with_reducible repeat(first|refine zH ?_ _|refine zJ ?_|refine zG ?_ _));exact aa.out⟩,⟨by repeat(first|(with_reducible first|exact HB.out|apply zC|apply zB|apply zD|refine zF ?_ af.out)|exact HB.out)⟩⟩
  case rest=>
    clear aQ;(try clear p2);(try clear c4);(try clear aj);(try clear az);(try clear c6);(try clear ak);(try clear an);(try clear al);(try clear ao);obtain⟨kq,au,rfl,HA,aI,aa,HB⟩:=hcut
    cases kq with
    | zero=>exact absurd HA.out (by simp [zb.j0])
    | succ aR=>
      have H:=HA.out
      clear HA;simp only [zb.j0]at H
      by_cases c9:au=true
      · subst c9
        rw[if_pos rfl]at H
        obtain rfl:=yey H
        go_wp2;go_ret;exact⟨by first|rfl|(simp [zU,zV] <;> rfl)|(simp [*,zU,zV] <;> rfl),by repeat(first|(with_reducible first|exact HB.out|apply zC|apply zB|apply zD|refine zF ?_ af.out)|exact HB.out)⟩
      · replace c9:=Bool.eq_false_iff.mpr c9
        subst c9;rw[if_neg (show ¬ (false=true)by decide)]at H
        replace H:=ydy.mp H
        obtain⟨t103,aF,H⟩:=H
        replace H:(zb.l0 aR t103 0 ab)=some r:=H
        have aZ:=zA.mk aF
        clear aF;have H':=zA.mk H
        clear H;have av:wc.cell? ⟨ae,0,none⟩=some (.slice ah ab.length ai):=(zK aa.out 0).trans rfl
        have aw:=zP aa.out 0
        go_wp2_with (first|((with_reducible refine zd (f:=75) rfl ?_);refine qV (some 16) rfl rfl Try.func75 (by kernel_rfl) rfl #[.slice ah ab.length ai] rfl (by(try simp only [yiy,yjy,yky]);first|done|rfl|(simp only [yly,ymy];rfl)) ?_;(with_reducible refine(qX.calls _ _ ab t103 _ ?side1 ?side2 aZ.out).mono ?_);(case side1=>repeat(first|exact(Kd.qD aq.out HB.out)|(with_reducible refine Kd.zy ?_ _)|(with_reducible refine Kd.qA ?_ _)|(with_reducible refine Kd.qR ?_)));(case side2=>exact ar.out);rintro e w' ⟨rfl,⟨nd,rfl⟩⟩;refine⟨_,rfl,?_⟩))
        go_loopg [17] aR (fun kq a1 w' => ∃ (ad:Int),a1 = .int .i64 ad∧zA (zb.l0 kq t103 ad ab=some r)∧zA (kq≤aR)∧zA (w'.heap[ae]?=some (.cells #[(.slice ah ab.length ai)] 35 (0,0)))∧zA (Below w.heap.size w w'))
        case atStart=>exact⟨(0),(by first|rfl|(simp;done)|(simp [*];done)),H',⟨yry _⟩,⟨by(with_reducible repeat(first|refine zH ?_ _|refine zJ ?_|refine zG ?_ _));exact aa.out⟩,⟨by repeat(first|(with_reducible first|exact HB.out|apply zC|apply zB|apply zD|refine zF ?_ af.out)|exact HB.out)⟩⟩
        case round=>
          clear H';(try clear p2);(try clear c4);(try clear aj);(try clear az);(try clear c6);(try clear c7);(try clear c9);(try clear av);(try clear ak);(try clear an);(try clear aw);(try clear al);(try clear ao);(try clear p2);obtain⟨ad,rfl,HA,aJ,aa,HB⟩:=hrel
          cases gk with
          | zero=>exact absurd HA.out (by simp [zb.l0])
          | succ k2=>
            have H:=HA.out
            clear HA;simp only [zb.l0]at H
            by_cases aD:ad<t103
            · rw[if_pos aD]at H
              have aC:decide (ad<t103)=true:=ygy aD
              clear aD;have H':=zA.mk H
              clear H;go_wp2;go_loopg [20] k2 (fun kq v20 w' => ∃ (ag:Int),v20 = .int .i64 ag∧zA (zb.l1 kq ad t103 ad ag ab=some r)∧zA (kq≤k2)∧zA (w'.heap[ae]?=some (.cells #[(.slice ah ab.length ai)] 35 (0,0)))∧zA (Below w.heap.size w w'))
              case atStart=>exact⟨(0),(by first|rfl|(simp;done)|(simp [*];done)),H',⟨yry _⟩,⟨by(with_reducible repeat(first|refine zH ?_ _|refine zJ ?_|refine zG ?_ _));exact aa.out⟩,⟨by repeat(first|(with_reducible first|exact HB.out|apply zC|apply zB|apply zD|refine zF ?_ af.out)|exact HB.out)⟩⟩
              case round=>
                clear H';(try clear c1);(try clear p2);(try clear c4);(try clear aj);(try clear az);(try clear c6);(try clear c7);(try clear c9);(try clear aD);(try clear aC);(try clear av);(try clear ak);(try clear an);(try clear aw);(try clear al);(try clear ao);(try clear p2);obtain⟨ag,rfl,HA,aK,aa,HB⟩:=hrel
                cases gk with
                | zero=>exact absurd HA.out (by simp [zb.l1])
                | succ k3=>
                  have H:=HA.out
                  clear HA;simp only [zb.l1]at H
                  by_cases aE:ag<4
                  · rw[if_pos aE]at H
                    have aG:decide (ag<4)=true:=ygy aE
                    clear aE;replace H:=ydy.mp H
                    obtain⟨t104,aH,H⟩:=H
                    replace H:(if t104=true then(zb.l1 k3 ad t103 ad (wrap64 (ag+1)) ab)else(some false))=some r:=H
                    have aW:=zA.mk aH
                    clear aH;by_cases aL:t104=true
                    · subst aL
                      rw[if_pos rfl]at H
                      have H':=zA.mk H
                      clear H;have aM:wr.cell? ⟨ae,0,none⟩=some (.slice ah ab.length ai):=(zK aa.out 0).trans rfl
                      have aN:=zP aa.out 0
                      go_wp2_with (first|((with_reducible refine zd (f:=108) rfl ?_);refine qV (some 26) rfl rfl Try.func108 (by kernel_rfl) rfl #[.agg #[.slice ah ab.length ai],.int .i64 ad,.int .i64 ag] rfl (by(try simp only [yiy,yjy,yky]);first|done|rfl|(simp only [yly,ymy];rfl)) ?_;(with_reducible refine(zY.calls k3 _ _ ab ad ag true _ ?side1 ?side2 aW.out).mono ?_);(case side1=>repeat(first|exact(Kd.qD aq.out HB.out)|(with_reducible refine Kd.zy ?_ _)|(with_reducible refine Kd.qA ?_ _)|(with_reducible refine Kd.qR ?_)));(case side2=>exact ar.out);rintro e a2 ⟨rfl,hb⟩;refine⟨_,rfl,?_⟩;have ax:=zA.mk (zO (g:=ae) (o := .cells #[.slice ah ab.length ai] 35 (0,0)) (by(with_reducible repeat(first|refine zH ?_ _|refine zJ ?_|refine zG ?_ _));exact aa.out) hb);have ay:=zA.mk (zM (by repeat(first|(with_reducible first|exact HB.out|apply zC|apply zB|apply zD|refine zF ?_ af.out)|exact HB.out)) hb);clear aa;clear HB;have aa:=ax;have HB:=ay;clear ax ay;(try clear hb);(try clear hb2);(try clear hk);(try clear hi)))
                      go_roundg k3
                      case measure=>have:=aI.out;have:=aJ.out;have:=aK.out;omega
                      case rel=>exact⟨(wrap64 (ag+1)),(by first|rfl|(simp;done)|(simp [*];done)),H',⟨by have:=aI.out;have:=aJ.out;have:=aK.out;omega⟩,⟨by(with_reducible repeat(first|refine zH ?_ _|refine zJ ?_|refine zG ?_ _));exact aa.out⟩,⟨by repeat(first|(with_reducible first|exact HB.out|apply zC|apply zB|apply zD|refine zF ?_ af.out)|exact HB.out)⟩⟩
                    · replace aL:=Bool.eq_false_iff.mpr aL
                      subst aL;rw[if_neg (show ¬ (false=true)by decide)]at H
                      obtain rfl:=yey H
                      have aO:wr.cell? ⟨ae,0,none⟩=some (.slice ah ab.length ai):=(zK aa.out 0).trans rfl
                      have aP:=zP aa.out 0
                      go_wp2_with (first|((with_reducible refine zd (f:=108) rfl ?_);refine qV (some 26) rfl rfl Try.func108 (by kernel_rfl) rfl #[.agg #[.slice ah ab.length ai],.int .i64 ad,.int .i64 ag] rfl (by(try simp only [yiy,yjy,yky]);first|done|rfl|(simp only [yly,ymy];rfl)) ?_;(with_reducible refine(zY.calls k3 _ _ ab ad ag false _ ?side1 ?side2 aW.out).mono ?_);(case side1=>repeat(first|exact(Kd.qD aq.out HB.out)|(with_reducible refine Kd.zy ?_ _)|(with_reducible refine Kd.qA ?_ _)|(with_reducible refine Kd.qR ?_)));(case side2=>exact ar.out);rintro e a5 ⟨rfl,hb⟩;refine⟨_,rfl,?_⟩;have ax:=zA.mk (zO (g:=ae) (o := .cells #[.slice ah ab.length ai] 35 (0,0)) (by(with_reducible repeat(first|refine zH ?_ _|refine zJ ?_|refine zG ?_ _));exact aa.out) hb);have ay:=zA.mk (zM (by repeat(first|(with_reducible first|exact HB.out|apply zC|apply zB|apply zD|refine zF ?_ af.out)|exact HB.out)) hb);clear aa;clear HB;have aa:=ax;have HB:=ay;clear ax ay;(try clear hb);(try clear hb2);(try clear hk);(try clear hi)))
                      go_ret;exact⟨by first|rfl|(simp [zU,zV] <;> rfl)|(simp [*,zU,zV] <;> rfl),by repeat(first|(with_reducible first|exact HB.out|apply zC|apply zB|apply zD|refine zF ?_ af.out)|exact HB.out)⟩
                  · rw[if_neg aE]at H
                    have aG:decide (ag<4)=false:=yhy aE
                    clear aE;have H':=zA.mk H
                    clear H;go_wp2;go_roundg k3
                    case measure=>have:=aI.out;have:=aJ.out;have:=aK.out;omega
                    case rel=>exact⟨(wrap64 (ad+1)),(by first|rfl|(simp;done)|(simp [*];done)),H',⟨by have:=aI.out;have:=aJ.out;have:=aK.out;omega⟩,⟨by(with_reducible repeat(first|refine zH ?_ _|refine zJ ?_|refine zG ?_ _));exact aa.out⟩,⟨by repeat(first|(with_reducible first|exact HB.out|apply zC|apply zB|apply zD|refine zF ?_ af.out)|exact HB.out)⟩⟩
            · rw[if_neg aD]at H
              have aC:decide (ad<t103)=false:=yhy aD
              clear aD;obtain rfl:=yey H
              go_wp2;go_ret;exact⟨by first|rfl|(simp [zU,zV] <;> rfl)|(simp [*,zU,zV] <;> rfl),by repeat(first|(with_reducible first|exact HB.out|apply zC|apply zB|apply zD|refine zF ?_ af.out)|exact HB.out)⟩
def Zz.f (k:Nat) (l0_0:List (List (zv))) (a1:Int):Option (Int):=(zb.f k l0_0).bind fun t102=>(if t102=true then((zk.f l0_0).bind fun t103=>((ZM.f t103).bind fun t106=>((qv.f a1 0 (wrap64 (t106-1))).bind fun t107=>(if t107=true then(some 0)else(some 2)))))else(some 1))
set_option maxHeartbeats 8000000 in
set_option maxRecDepth 100000 in
theorem Zz.calls (k:Nat) (ae:Option Addr) (af:Nat) (ab:List (List (zv))) (a1:Int) (r:Int) (w:World) (ao:Kd.C (Kd.slice 75 ZZ) w ae ab.length ab) (aq:ab.length≤af) (h:Zz.f k ab a1=some r) :
    Calls Try.prog 50 #[.agg #[.slice ae ab.length af],.int .i64 a1] w fun e w'=>e = .returned (.int .i64 r)∧Below w.heap.size w w':=by
  have aR:=Try.underlying35
  have ak:=zA.mk ao
  have al:=zA.mk aq
  clear ao aq;have HB:=zA.mk (ysy w.heap.size w)
  have H:((zb.f k ab).bind fun t102=>(if t102=true then((zk.f ab).bind fun t103=>((ZM.f t103).bind fun t106=>((qv.f a1 0 (wrap64 (t106-1))).bind fun t107=>(if t107=true then(some 0)else(some 2)))))else(some 1)))=some r:=h
  clear h;replace H:=ydy.mp H
  obtain⟨t102,aN,H⟩:=H
  replace H:(if t102=true then((zk.f ab).bind fun t103=>((ZM.f t103).bind fun t106=>((qv.f a1 0 (wrap64 (t106-1))).bind fun t107=>(if t107=true then(some 0)else(some 2)))))else(some 1))=some r:=H
  have A3:=zA.mk aN
  clear aN;by_cases c4:t102=true
  · subst c4
    rw[if_pos rfl]at H
    replace H:=ydy.mp H
    obtain⟨t103,aO,H⟩:=H
    replace H:((ZM.f t103).bind fun t106=>((qv.f a1 0 (wrap64 (t106-1))).bind fun t107=>(if t107=true then(some 0)else(some 2))))=some r:=H
    have A5:=zA.mk aO
    clear aO;replace H:=ydy.mp H
    obtain⟨t106,aP,H⟩:=H
    replace H:((qv.f a1 0 (wrap64 (t106-1))).bind fun t107=>(if t107=true then(some 0)else(some 2)))=some r:=H
    have A6:=zA.mk aP
    clear aP;replace H:=ydy.mp H
    obtain⟨t107,aQ,H⟩:=H
    replace H:(if t107=true then(some 0)else(some 2))=some r:=H
    have A7:=zA.mk aQ
    clear aQ;by_cases c8:t107=true
    · subst c8
      rw[if_pos rfl]at H
      obtain rfl:=yey H
      go_enter Try.func50,Try.ntmps50
      go_wp2_with (first|((with_reducible refine zw (N:=2) rfl ?_);refine zz ?hg (N:=2) ?hd (cs:=#[.slice ae ab.length af]) (t:=35) ?hr ?_;(case hd=>rfl);(case hg=>rfl);(case hr=>first|(go_simp;done)|(go_simp;rfl));intro ad hg w9 hbox hb;have ah:=zA.mk (zM (by repeat(first|(with_reducible first|exact HB.out|apply zC|apply zB|apply zD)|exact HB.out)) hb);have ai:=zA.mk (hbox);have an:=zA.mk ((by rw[hg];exact(zQ (by repeat(first|(with_reducible first|exact HB.out|apply zC|apply zB|apply zD)|exact HB.out))):w.heap.size≤ad));have ar:=zA.mk ((by rw[hg];exact(zQ (by repeat(first|(with_reducible first|exact HB.out|apply zC|apply zB|apply zD)|exact HB.out))):w.heap.size≤ad));clear HB;have HB:=ah;have aa:=ai;have au:=an;have ag:=ar;clear ah ai an ar;clear hb hbox hg;have aw:w9.cell? ⟨ad,0,none⟩=some (.slice ae ab.length af):=(zK aa.out 0).trans rfl;have ax:=zP aa.out 0)|((with_reducible refine zd (f:=62) rfl ?_);refine qV (some 7) rfl rfl Try.func62 (by kernel_rfl) rfl #[.agg #[.slice ae ab.length af]] rfl (by(try simp only [yiy,yjy,yky]);first|done|rfl|(simp only [yly,ymy];rfl)) ?_;(with_reducible refine(zb.calls k _ _ ab true _ ?side1 ?side2 A3.out).mono ?_);(case side1=>repeat(first|exact(Kd.qD ak.out HB.out)|(with_reducible refine Kd.zy ?_ _)|(with_reducible refine Kd.qA ?_ _)|(with_reducible refine Kd.qR ?_)));(case side2=>exact al.out);rintro e aS ⟨rfl,hb⟩;refine⟨_,rfl,?_⟩;have ah:=zA.mk (zO (g:=ad) (o := .cells #[.slice ae ab.length af] 35 (0,0)) (by(with_reducible repeat(first|refine zH ?_ _|refine zJ ?_|refine zG ?_ _));exact aa.out) hb);have ai:=zA.mk (zM (by repeat(first|(with_reducible first|exact HB.out|apply zC|apply zB|apply zD|refine zF ?_ ag.out)|exact HB.out)) hb);clear aa;clear HB;have aa:=ah;have HB:=ai;clear ah ai;(try clear hb);(try clear hb2);(try clear hk);(try clear hi);have ay:aS.cell? ⟨ad,0,none⟩=some (.slice ae ab.length af):=(zK aa.out 0).trans rfl;have az:=zP aa.out 0)|((with_reducible refine zd (f:=88) rfl ?_);refine qV (some 12) rfl rfl Try.func88 (by kernel_rfl) rfl #[.agg #[.slice ae ab.length af]] rfl (by(try simp only [yiy,yjy,yky]);first|done|rfl|(simp only [yly,ymy];rfl)) ?_;(with_reducible refine(zk.calls _ _ ab t103 _ ?side1 ?side2 A5.out).mono ?_);(case side1=>repeat(first|exact(Kd.qD ak.out HB.out)|(with_reducible refine Kd.zy ?_ _)|(with_reducible refine Kd.qA ?_ _)|(with_reducible refine Kd.qR ?_)));(case side2=>exact al.out);rintro e aW ⟨aG,rfl,av,hb⟩;refine⟨_,rfl,?_⟩;have ah:=zA.mk (Kd.qx av (zQ (by repeat(first|(with_reducible first|exact HB.out|apply zC|apply zB|apply zD|refine zF ?_ ag.out)|exact HB.out))));have ai:=zA.mk (zO (g:=ad) (o := .cells #[.slice ae ab.length af] 35 (0,0)) (by(with_reducible repeat(first|refine zH ?_ _|refine zJ ?_|refine zG ?_ _));exact aa.out) hb);have an:=zA.mk (zM (by repeat(first|(with_reducible first|exact HB.out|apply zC|apply zB|apply zD|refine zF ?_ ag.out)|exact HB.out)) hb);clear aa;clear HB;have aj:=ah;have aa:=ai;have HB:=an;clear ah ai an;(try clear hb);(try clear hb2);(try clear hk);(try clear hi);(try clear av);obtain⟨aH,aI,aJ⟩:=Kd.ZE aj.out;subst aJ)|((with_reducible refine zd (f:=87) rfl ?_);refine qV (some 13) rfl rfl Try.func87 (by kernel_rfl) rfl #[.slice aH t103.length aI] rfl (by(try simp only [yiy,yjy,yky]);first|done|rfl|(simp only [yly,ymy];rfl)) ?_;(with_reducible refine(ZM.calls _ _ t103 t106 _ ?side1 ?side2 A6.out).mono ?_);(case side1=>repeat(first|exact(Kd.zq aj.out).2.2|(with_reducible refine Kd.zy ?_ _)|(with_reducible refine Kd.qA ?_ _)|(with_reducible refine Kd.qR ?_)));(case side2=>exact(Kd.zq aj.out).2.1);rintro e w' ⟨rfl,⟨nd,rfl⟩⟩;refine⟨_,rfl,?_⟩)|((with_reducible refine zd (f:=86) rfl ?_);refine qV (some 15) rfl rfl Try.func86 (by kernel_rfl) rfl #[.int .i64 a1,.int .i64 0,.int .i64 (wrap64 (t106-1))] rfl (by(try simp only [yiy,yjy,yky]);first|done|rfl|(simp only [yly,ymy];rfl)) ?_;(with_reducible refine(qv.calls a1 0 (wrap64 (t106-1)) true _ A7.out).mono ?_);rintro e w' ⟨rfl,⟨nd,rfl⟩⟩;refine⟨_,rfl,?_⟩))
      go_ret;exact⟨by first|rfl|(simp [zU,zV] <;> rfl)|(simp [*,zU,zV] <;> rfl),by repeat(first|(with_reducible first|exact HB.out|apply zC|apply zB|apply zD|refine zF ?_ ag.out)|exact HB.out)⟩
    · replace c8:=Bool.eq_false_iff.mpr c8
      subst c8;rw[if_neg (show ¬ (false=true)by decide)]at H
      obtain rfl:=yey H
      go_enter Try.func50,Try.ntmps50
      go_wp2_with (first|((with_reducible refine zw (N:=2) rfl ?_);refine zz ?hg (N:=2) ?hd (cs:=#[.slice ae ab.length af]) (t:=35) ?hr ?_;(case hd=>rfl);(case hg=>rfl);(case hr=>first|(go_simp;done)|(go_simp;rfl));intro ad hg aT hbox hb;have ah:=zA.mk (zM (by repeat(first|(with_reducible first|exact HB.out|apply zC|apply zB|apply zD)|exact HB.out)) hb);have ai:=zA.mk (hbox);have an:=zA.mk ((by rw[hg];exact(zQ (by repeat(first|(with_reducible first|exact HB.out|apply zC|apply zB|apply zD)|exact HB.out))):w.heap.size≤ad));have ar:=zA.mk ((by rw[hg];exact(zQ (by repeat(first|(with_reducible first|exact HB.out|apply zC|apply zB|apply zD)|exact HB.out))):w.heap.size≤ad));clear HB;have HB:=ah;have aa:=ai;have au:=an;have ag:=ar;clear ah ai an ar;clear hb hbox hg;have aA:aT.cell? ⟨ad,0,none⟩=some (.slice ae ab.length af):=(zK aa.out 0).trans rfl;have aB:=zP aa.out 0)|((with_reducible refine zd (f:=62) rfl ?_);refine qV (some 7) rfl rfl Try.func62 (by kernel_rfl) rfl #[.agg #[.slice ae ab.length af]] rfl (by(try simp only [yiy,yjy,yky]);first|done|rfl|(simp only [yly,ymy];rfl)) ?_;(with_reducible refine(zb.calls k _ _ ab true _ ?side1 ?side2 A3.out).mono ?_);(case side1=>repeat(first|exact(Kd.qD ak.out HB.out)|(with_reducible refine Kd.zy ?_ _)|(with_reducible refine Kd.qA ?_ _)|(with_reducible refine Kd.qR ?_)));(case side2=>exact al.out);rintro e aU ⟨rfl,hb⟩;refine⟨_,rfl,?_⟩;have ah:=zA.mk (zO (g:=ad) (o := .cells #[.slice ae ab.length af] 35 (0,0)) (by(with_reducible repeat(first|refine zH ?_ _|refine zJ ?_|refine zG ?_ _));exact aa.out) hb);have ai:=zA.mk (zM (by repeat(first|(with_reducible first|exact HB.out|apply zC|apply zB|apply zD|refine zF ?_ ag.out)|exact HB.out)) hb);clear aa;clear HB;have aa:=ah;have HB:=ai;clear ah ai;(try clear hb);(try clear hb2);(try clear hk);(try clear hi);have aC:aU.cell? ⟨ad,0,none⟩=some (.slice ae ab.length af):=(zK aa.out 0).trans rfl;have aD:=zP aa.out 0)|((with_reducible refine zd (f:=88) rfl ?_);refine qV (some 12) rfl rfl Try.func88 (by kernel_rfl) rfl #[.agg #[.slice ae ab.length af]] rfl (by(try simp only [yiy,yjy,yky]);first|done|rfl|(simp only [yly,ymy];rfl)) ?_;(with_reducible refine(zk.calls _ _ ab t103 _ ?side1 ?side2 A5.out).mono ?_);(case side1=>repeat(first|exact(Kd.qD ak.out HB.out)|(with_reducible refine Kd.zy ?_ _)|(with_reducible refine Kd.qA ?_ _)|(with_reducible refine Kd.qR ?_)));(case side2=>exact al.out);rintro e aX ⟨aG,rfl,av,hb⟩;refine⟨_,rfl,?_⟩;have ah:=zA.mk (Kd.qx av (zQ (by repeat(first|(with_reducible first|exact HB.out|apply zC|apply zB|apply zD|refine zF ?_ ag.out)|exact HB.out))));have ai:=zA.mk (zO (g:=ad) (o := .cells #[.slice ae ab.length af] 35 (0,0)) (by(with_reducible repeat(first|refine zH ?_ _|refine zJ ?_|refine zG ?_ _));exact aa.out) hb);have an:=zA.mk (zM (by repeat(first|(with_reducible first|exact HB.out|apply zC|apply zB|apply zD|refine zF ?_ ag.out)|exact HB.out)) hb);clear aa;clear HB;have aj:=ah;have aa:=ai;have HB:=an;clear ah ai an;(try clear hb);(try clear hb2);(try clear hk);(try clear hi);(try clear av);obtain⟨aK,aL,aM⟩:=Kd.ZE aj.out;subst aM)|((with_reducible refine zd (f:=87) rfl ?_);refine qV (some 13) rfl rfl Try.func87 (by kernel_rfl) rfl #[.slice aK t103.length aL] rfl (by(try simp only [yiy,yjy,yky]);first|done|rfl|(simp only [yly,ymy];rfl)) ?_;(with_reducible refine(ZM.calls _ _ t103 t106 _ ?side1 ?side2 A6.out).mono ?_);(case side1=>repeat(first|exact(Kd.zq aj.out).2.2|(with_reducible refine Kd.zy ?_ _)|(with_reducible refine Kd.qA ?_ _)|(with_reducible refine Kd.qR ?_)));(case side2=>exact(Kd.zq aj.out).2.1);rintro e w' ⟨rfl,⟨nd,rfl⟩⟩;refine⟨_,rfl,?_⟩)|((with_reducible refine zd (f:=86) rfl ?_);refine qV (some 15) rfl rfl Try.func86 (by kernel_rfl) rfl #[.int .i64 a1,.int .i64 0,.int .i64 (wrap64 (t106-1))] rfl (by(try simp only [yiy,yjy,yky]);first|done|rfl|(simp only [yly,ymy];rfl)) ?_;(with_reducible refine(qv.calls a1 0 (wrap64 (t106-1)) false _ A7.out).mono ?_);rintro e w' ⟨rfl,⟨nd,rfl⟩⟩;refine⟨_,rfl,?_⟩))
      go_ret;exact⟨by first|rfl|(simp [zU,zV] <;> rfl)|(simp [*,zU,zV] <;> rfl),by repeat(first|(with_reducible first|exact HB.out|apply zC|apply zB|apply zD|refine zF ?_ ag.out)|exact HB.out)⟩
  · replace c4:=Bool.eq_false_iff.mpr c4
    subst c4;rw[if_neg (show ¬ (false=true)by decide)]at H
    obtain rfl:=yey H
    go_enter Try.func50,Try.ntmps50
    go_wp2_with (first|((with_reducible refine zw (N:=2) rfl ?_);refine zz ?hg (N:=2) ?hd (cs:=#[.slice ae ab.length af]) (t:=35) ?hr ?_;(case hd=>rfl);(case hg=>rfl);(case hr=>first|(go_simp;done)|(go_simp;rfl));intro ad hg aV hbox hb;have ah:=zA.mk (zM (by repeat(first|(with_reducible first|exact HB.out|apply zC|apply zB|apply zD)|exact HB.out)) hb);have ai:=zA.mk (hbox);have an:=zA.mk ((by rw[hg];exact(zQ (by repeat(first|(with_reducible first|exact HB.out|apply zC|apply zB|apply zD)|exact HB.out))):w.heap.size≤ad));have ar:=zA.mk ((by rw[hg];exact(zQ (by repeat(first|(with_reducible first|exact HB.out|apply zC|apply zB|apply zD)|exact HB.out))):w.heap.size≤ad));clear HB;have HB:=ah;have aa:=ai;have au:=an;have ag:=ar;clear ah ai an ar;clear hb hbox hg;have aE:aV.cell? ⟨ad,0,none⟩=some (.slice ae ab.length af):=(zK aa.out 0).trans rfl;have aF:=zP aa.out 0)|((with_reducible refine zd (f:=62) rfl ?_);refine qV (some 7) rfl rfl Try.func62 (by kernel_rfl) rfl #[.agg #[.slice ae ab.length af]] rfl (by(try simp only [yiy,yjy,yky]);first|done|rfl|(simp only [yly,ymy];rfl)) ?_;(with_reducible refine(zb.calls k _ _ ab false _ ?side1 ?side2 A3.out).mono ?_);(case side1=>repeat(first|exact(Kd.qD ak.out HB.out)|(with_reducible refine Kd.zy ?_ _)|(with_reducible refine Kd.qA ?_ _)|(with_reducible refine Kd.qR ?_)));(case side2=>exact al.out);rintro e aY ⟨rfl,hb⟩;refine⟨_,rfl,?_⟩;have ah:=zA.mk (zO (g:=ad) (o := .cells #[.slice ae ab.length af] 35 (0,0)) (by(with_reducible repeat(first|refine zH ?_ _|refine zJ ?_|refine zG ?_ _));exact aa.out) hb);have ai:=zA.mk (zM (by repeat(first|(with_reducible first|exact HB.out|apply zC|apply zB|apply zD|refine zF ?_ ag.out)|exact HB.out)) hb);clear aa;clear HB;have aa:=ah;have HB:=ai;clear ah ai;(try clear hb);(try clear hb2);(try clear hk);(try clear hi)))
    go_ret;exact⟨by first|rfl|(simp [zU,zV] <;> rfl)|(simp [*,zU,zV] <;> rfl),by repeat(first|(with_reducible first|exact HB.out|apply zC|apply zB|apply zD|refine zF ?_ ag.out)|exact HB.out)⟩
def ZT.f (k:Nat) (l0_0:List (List (zv))) (a1:Int):Option (Int):=(Zz.f k l0_0 a1).bind fun t102=>(if t102=0 then((zL.f k l0_0 a1).bind fun t103=>(some t103))else(some (-1)))
set_option maxHeartbeats 8000000 in
set_option maxRecDepth 100000 in
theorem ZT.calls (k:Nat) (ae:Option Addr) (af:Nat) (ab:List (List (zv))) (a1:Int) (r:Int) (w:World) (al:Kd.C (Kd.slice 75 ZZ) w ae ab.length ab) (an:ab.length≤af) (h:ZT.f k ab a1=some r) :
    Calls Try.prog 32 #[.agg #[.slice ae ab.length af],.int .i64 a1] w fun e w'=>e = .returned (.int .i64 r)∧Below w.heap.size w w':=by
  have aE:=Try.underlying35
  have aj:=zA.mk al
  have ak:=zA.mk an
  clear al an;have HB:=zA.mk (ysy w.heap.size w)
  have H:((Zz.f k ab a1).bind fun t102=>(if t102=0 then((zL.f k ab a1).bind fun t103=>(some t103))else(some (-1))))=some r:=h
  clear h;replace H:=ydy.mp H
  obtain⟨t102,aC,H⟩:=H
  replace H:(if t102=0 then((zL.f k ab a1).bind fun t103=>(some t103))else(some (-1)))=some r:=H
  have A3:=zA.mk aC
  clear aC;by_cases c4:t102=0
  · rw[if_pos c4]at H
    have aw:(t102==0)=true:=beq_iff_eq.mpr c4
    have ax:(t102 != 0)=false:=bne_eq_false_iff_eq.mpr c4
    clear c4;replace H:=ydy.mp H
    obtain⟨t103,aD,H⟩:=H
    replace H:(some t103)=some r:=H
    have A5:=zA.mk aD
    clear aD;obtain rfl:=yey H
    go_enter Try.func32,Try.ntmps32
    go_wp2_with (first|((with_reducible refine zw (N:=2) rfl ?_);refine zz ?hg (N:=2) ?hd (cs:=#[.slice ae ab.length af]) (t:=35) ?hr ?_;(case hd=>rfl);(case hg=>rfl);(case hr=>first|(go_simp;done)|(go_simp;rfl));intro ad hg w6 hbox hb;have ah:=zA.mk (zM (by repeat(first|(with_reducible first|exact HB.out|apply zC|apply zB|apply zD)|exact HB.out)) hb);have ai:=zA.mk (hbox);have ao:=zA.mk ((by rw[hg];exact(zQ (by repeat(first|(with_reducible first|exact HB.out|apply zC|apply zB|apply zD)|exact HB.out))):w.heap.size≤ad));have aq:=zA.mk ((by rw[hg];exact(zQ (by repeat(first|(with_reducible first|exact HB.out|apply zC|apply zB|apply zD)|exact HB.out))):w.heap.size≤ad));clear HB;have HB:=ah;have aa:=ai;have ar:=ao;have ag:=aq;clear ah ai ao aq;clear hb hbox hg;have ay:w6.cell? ⟨ad,0,none⟩=some (.slice ae ab.length af):=(zK aa.out 0).trans rfl;have az:=zP aa.out 0)|((with_reducible refine zd (f:=50) rfl ?_);refine qV (some 7) rfl rfl Try.func50 (by kernel_rfl) rfl #[.agg #[.slice ae ab.length af],.int .i64 a1] rfl (by(try simp only [yiy,yjy,yky]);first|done|rfl|(simp only [yly,ymy];rfl)) ?_;(with_reducible refine(Zz.calls k _ _ ab a1 t102 _ ?side1 ?side2 A3.out).mono ?_);(case side1=>repeat(first|exact(Kd.qD aj.out HB.out)|(with_reducible refine Kd.zy ?_ _)|(with_reducible refine Kd.qA ?_ _)|(with_reducible refine Kd.qR ?_)));(case side2=>exact ak.out);rintro e w8 ⟨rfl,hb⟩;refine⟨_,rfl,?_⟩;have ah:=zA.mk (zO (g:=ad) (o := .cells #[.slice ae ab.length af] 35 (0,0)) (by(with_reducible repeat(first|refine zH ?_ _|refine zJ ?_|refine zG ?_ _));exact aa.out) hb);have ai:=zA.mk (zM (by repeat(first|(with_reducible first|exact HB.out|apply zC|apply zB|apply zD|refine zF ?_ ag.out)|exact HB.out)) hb);clear aa;clear HB;have aa:=ah;have HB:=ai;clear ah ai;(try clear hb);(try clear hb2);(try clear hk);(try clear hi);have aA:w8.cell? ⟨ad,0,none⟩=some (.slice ae ab.length af):=(zK aa.out 0).trans rfl;have aB:=zP aa.out 0)|((with_reducible refine zd (f:=60) rfl ?_);refine qV (some 11) rfl rfl Try.func60 (by kernel_rfl) rfl #[.agg #[.slice ae ab.length af],.int .i64 a1] rfl (by(try simp only [yiy,yjy,yky]);first|done|rfl|(simp only [yly,ymy];rfl)) ?_;(with_reducible refine(zL.calls k _ _ ab a1 t103 _ ?side1 ?side2 A5.out).mono ?_);(case side1=>repeat(first|exact(Kd.qD aj.out HB.out)|(with_reducible refine Kd.zy ?_ _)|(with_reducible refine Kd.qA ?_ _)|(with_reducible refine Kd.qR ?_)));(case side2=>exact ak.out);rintro e aG ⟨rfl,hb⟩;refine⟨_,rfl,?_⟩;have ah:=zA.mk (zO (g:=ad) (o := .cells #[.slice ae ab.length af] 35 (0,0)) (by(with_reducible repeat(first|refine zH ?_ _|refine zJ ?_|refine zG ?_ _));exact aa.out) hb);have ai:=zA.mk (zM (by repeat(first|(with_reducible first|exact HB.out|apply zC|apply zB|apply zD|refine zF ?_ ag.out)|exact HB.out)) hb);clear aa;clear HB;have aa:=ah;have HB:=ai;clear ah ai;(try clear hb);(try clear hb2);(try clear hk);(try clear hi)))
    go_ret;exact⟨by first|rfl|(simp [zU,zV] <;> rfl)|(simp [*,zU,zV] <;> rfl),by repeat(first|(with_reducible first|exact HB.out|apply zC|apply zB|apply zD|refine zF ?_ ag.out)|exact HB.out)⟩
  · rw[if_neg c4]at H
    have aw:(t102==0)=false:=beq_eq_false_iff_ne.mpr c4
    have ax:(t102 != 0)=true:=bne_iff_ne.mpr c4
    obtain rfl:=yey H
    go_enter Try.func32,Try.ntmps32
    go_wp2_with (first|((with_reducible refine zw (N:=2) rfl ?_);refine zz ?hg (N:=2) ?hd (cs:=#[.slice ae ab.length af]) (t:=35) ?hr ?_;(case hd=>rfl);(case hg=>rfl);(case hr=>first|(go_simp;done)|(go_simp;rfl));intro ad hg aF hbox hb;have ah:=zA.mk (zM (by repeat(first|(with_reducible first|exact HB.out|apply zC|apply zB|apply zD)|exact HB.out)) hb);have ai:=zA.mk (hbox);have ao:=zA.mk ((by rw[hg];exact(zQ (by repeat(first|(with_reducible first|exact HB.out|apply zC|apply zB|apply zD)|exact HB.out))):w.heap.size≤ad));have aq:=zA.mk ((by rw[hg];exact(zQ (by repeat(first|(with_reducible first|exact HB.out|apply zC|apply zB|apply zD)|exact HB.out))):w.heap.size≤ad));clear HB;have HB:=ah;have aa:=ai;have ar:=ao;have ag:=aq;clear ah ai ao aq;clear hb hbox hg;have au:aF.cell? ⟨ad,0,none⟩=some (.slice ae ab.length af):=(zK aa.out 0).trans rfl;have av:=zP aa.out 0)|((with_reducible refine zd (f:=50) rfl ?_);refine qV (some 7) rfl rfl Try.func50 (by kernel_rfl) rfl #[.agg #[.slice ae ab.length af],.int .i64 a1] rfl (by(try simp only [yiy,yjy,yky]);first|done|rfl|(simp only [yly,ymy];rfl)) ?_;(with_reducible refine(Zz.calls k _ _ ab a1 t102 _ ?side1 ?side2 A3.out).mono ?_);(case side1=>repeat(first|exact(Kd.qD aj.out HB.out)|(with_reducible refine Kd.zy ?_ _)|(with_reducible refine Kd.qA ?_ _)|(with_reducible refine Kd.qR ?_)));(case side2=>exact ak.out);rintro e aH ⟨rfl,hb⟩;refine⟨_,rfl,?_⟩;have ah:=zA.mk (zO (g:=ad) (o := .cells #[.slice ae ab.length af] 35 (0,0)) (by(with_reducible repeat(first|refine zH ?_ _|refine zJ ?_|refine zG ?_ _));exact aa.out) hb);have ai:=zA.mk (zM (by repeat(first|(with_reducible first|exact HB.out|apply zC|apply zB|apply zD|refine zF ?_ ag.out)|exact HB.out)) hb);clear aa;clear HB;have aa:=ah;have HB:=ai;clear ah ai;(try clear hb);(try clear hb2);(try clear hk);(try clear hi)))
    go_ret;exact⟨by first|rfl|(simp [zU,zV] <;> rfl)|(simp [*,zU,zV] <;> rfl),by repeat(first|(with_reducible first|exact HB.out|apply zC|apply zB|apply zD|refine zF ?_ ag.out)|exact HB.out)⟩
def JD.f (a0_0:Int) (a0_1:Int) (a1_0:Int) (a1_1:Int):Option (Bool):=if a0_0=a1_0 then(if a0_1=a1_1 then(some true)else(some false))else(some false)
set_option maxHeartbeats 8000000 in
set_option maxRecDepth 100000 in
theorem JD.calls (ae:Int) (af:Int) (ak:Int) (al:Int) (r:Bool) (w:World) (h:JD.f ae af ak al=some r) :
    Calls Try.prog 121 #[.agg #[.int .i64 ae,.int .i64 af],.agg #[.int .i64 ak,.int .i64 al]] w fun e w'=>e = .returned (.bool r)∧Below w.heap.size w w':=by
  have bb:=Try.underlying75
  have HB:=zA.mk (ysy w.heap.size w)
  have H:(if ae=ak then(if af=al then(some true)else(some false))else(some false))=some r:=h
  clear h;by_cases c3:ae=ak
  · rw[if_pos c3]at H
    have aS:(ae==ak)=true:=beq_iff_eq.mpr c3
    have aT:(ae != ak)=false:=bne_eq_false_iff_eq.mpr c3
    clear c3;by_cases c4:af=al
    · rw[if_pos c4]at H
      have aU:(af==al)=true:=beq_iff_eq.mpr c4
      have aV:(af != al)=false:=bne_eq_false_iff_eq.mpr c4
      clear c4;obtain rfl:=yey H
      go_enter Try.func121,Try.ntmps121
      go_wp2_with (first|((with_reducible refine zw (N:=2) rfl ?_);refine zz ?hg (N:=2) ?hd (cs:=#[.int .i64 ae,.int .i64 af]) (t:=75) ?hr ?_;(case hd=>rfl);(case hg=>rfl);(case hr=>first|(go_simp;done)|(go_simp;rfl));intro aa hg w5 hbox hb;have an:=zA.mk (zM (by repeat(first|(with_reducible first|exact HB.out|apply zC|apply zB|apply zD)|exact HB.out)) hb);have ao:=zA.mk (hbox);have aq:=zA.mk ((by rw[hg];exact(zQ (by repeat(first|(with_reducible first|exact HB.out|apply zC|apply zB|apply zD)|exact HB.out))):w.heap.size≤aa));have ar:=zA.mk ((by rw[hg];exact(zQ (by repeat(first|(with_reducible first|exact HB.out|apply zC|apply zB|apply zD)|exact HB.out))):w.heap.size≤aa));clear HB;have HB:=an;have ab:=ao;have av:=aq;have ag:=ar;clear an ao aq ar;clear hb hbox hg)|((with_reducible refine zw (N:=3) rfl ?_);refine zz ?hg (N:=3) ?hd (cs:=#[.int .i64 ak,.int .i64 al]) (t:=75) ?hr ?_;(case hd=>rfl);(case hg=>rfl);(case hr=>first|(go_simp;done)|(go_simp;rfl));intro ad hg w6 hbox hb;have an:=zA.mk (zO (g:=aa) (o := .cells #[.int .i64 ae,.int .i64 af] 75 (0,0)) (by(with_reducible repeat(first|refine zH ?_ _|refine zJ ?_|refine zG ?_ _));exact ab.out) hb);have ao:=zA.mk (zM (by repeat(first|(with_reducible first|exact HB.out|apply zC|apply zB|apply zD|refine zF ?_ ag.out)|exact HB.out)) hb);have aq:=zA.mk (hbox);have ar:=zA.mk ((by rw[hg];exact(zQ (by repeat(first|(with_reducible first|exact HB.out|apply zC|apply zB|apply zD|refine zF ?_ ag.out)|exact HB.out))):w.heap.size≤ad));have aw:=zA.mk ((by rw[hg];exact(zQ (by repeat(first|(with_reducible first|exact HB.out|apply zC|apply zB|apply zD|refine zF ?_ ag.out)|exact HB.out))):w.heap.size≤ad));have ax:=zA.mk ((by rw[hg];exact Nat.ne_of_lt (qT (g:=aa) (o := .cells #[.int .i64 ae,.int .i64 af] 75 (0,0)) (by(with_reducible repeat(first|refine zH ?_ _|refine zJ ?_|refine zG ?_ _));exact ab.out)):aa≠ad));have ay:=zA.mk ((by rw[hg];exact Nat.ne_of_gt (qT (g:=aa) (o := .cells #[.int .i64 ae,.int .i64 af] 75 (0,0)) (by(with_reducible repeat(first|refine zH ?_ _|refine zJ ?_|refine zG ?_ _));exact ab.out)):ad≠aa));clear ab;clear HB;have ab:=an;have HB:=ao;have ah:=aq;have az:=ar;have au:=aw;have ai:=ax;have aj:=ay;clear an ao aq ar aw ax ay;clear hb hbox hg;have bc:=ai.out;have bd:=aj.out;have aW:w6.cell? ⟨aa,0,none⟩=some (.int .i64 ae):=(zK ab.out 0).trans rfl;have aX:w6.cell? ⟨aa,1,none⟩=some (.int .i64 af):=(zK ab.out 1).trans rfl;have aY:=zP ab.out 0;have aZ:=zP ab.out 1;have a1:w6.cell? ⟨ad,0,none⟩=some (.int .i64 ak):=(zK ah.out 0).trans rfl;have a2:w6.cell? ⟨ad,1,none⟩=some (.int .i64 al):=(zK ah.out 1).trans rfl;have a5:=zP ah.out 0;have a6:=zP ah.out 1))
      go_ret;exact⟨by first|rfl|(simp [zU,zV] <;> rfl)|(simp [*,zU,zV] <;> rfl),by repeat(first|(with_reducible first|exact HB.out|apply zC|apply zB|apply zD|refine zF ?_ ag.out|refine zF ?_ au.out)|exact HB.out)⟩
    · rw[if_neg c4]at H
      have aU:(af==al)=false:=beq_eq_false_iff_ne.mpr c4
      have aV:(af != al)=true:=bne_iff_ne.mpr c4
      obtain rfl:=yey H
      go_enter Try.func121,Try.ntmps121
      go_wp2_with (first|((with_reducible refine zw (N:=2) rfl ?_);refine zz ?hg (N:=2) ?hd (cs:=#[.int .i64 ae,.int .i64 af]) (t:=75) ?hr ?_;(case hd=>rfl);(case hg=>rfl);(case hr=>first|(go_simp;done)|(go_simp;rfl));intro aa hg bf hbox hb;have an:=zA.mk (zM (by repeat(first|(with_reducible first|exact HB.out|apply zC|apply zB|apply zD)|exact HB.out)) hb);have ao:=zA.mk (hbox);have aq:=zA.mk ((by rw[hg];exact(zQ (by repeat(first|(with_reducible first|exact HB.out|apply zC|apply zB|apply zD)|exact HB.out))):w.heap.size≤aa));have ar:=zA.mk ((by rw[hg];exact(zQ (by repeat(first|(with_reducible first|exact HB.out|apply zC|apply zB|apply zD)|exact HB.out))):w.heap.size≤aa));clear HB;have HB:=an;have ab:=ao;have av:=aq;have ag:=ar;clear an ao aq ar;clear hb hbox hg)|((with_reducible refine zw (N:=3) rfl ?_);refine zz ?hg (N:=3) ?hd (cs:=#[.int .i64 ak,.int .i64 al]) (t:=75) ?hr ?_;(case hd=>rfl);(case hg=>rfl);(case hr=>first|(go_simp;done)|(go_simp;rfl));intro ad hg aA hbox hb;have an:=zA.mk (zO (g:=aa) (o := .cells #[.int .i64 ae,.int .i64 af] 75 (0,0)) (by(with_reducible repeat(first|refine zH ?_ _|refine zJ ?_|refine zG ?_ _));exact ab.out) hb);have ao:=zA.mk (zM (by repeat(first|(with_reducible first|exact HB.out|apply zC|apply zB|apply zD|refine zF ?_ ag.out)|exact HB.out)) hb);have aq:=zA.mk (hbox);have ar:=zA.mk ((by rw[hg];exact(zQ (by repeat(first|(with_reducible first|exact HB.out|apply zC|apply zB|apply zD|refine zF ?_ ag.out)|exact HB.out))):w.heap.size≤ad));have aw:=zA.mk ((by rw[hg];exact(zQ (by repeat(first|(with_reducible first|exact HB.out|apply zC|apply zB|apply zD|refine zF ?_ ag.out)|exact HB.out))):w.heap.size≤ad));have ax:=zA.mk ((by rw[hg];exact Nat.ne_of_lt (qT (g:=aa) (o := .cells #[.int .i64 ae,.int .i64 af] 75 (0,0)) (by(with_reducible repeat(first|refine zH ?_ _|refine zJ ?_|refine zG ?_ _));exact ab.out)):aa≠ad));have ay:=zA.mk ((by rw[hg];exact Nat.ne_of_gt (qT (g:=aa) (o := .cells #[.int .i64 ae,.int .i64 af] 75 (0,0)) (by(with_reducible repeat(first|refine zH ?_ _|refine zJ ?_|refine zG ?_ _));exact ab.out)):ad≠aa));clear ab;clear HB;have ab:=an;have HB:=ao;have ah:=aq;have az:=ar;have au:=aw;have ai:=ax;have aj:=ay;clear an ao aq ar aw ax ay;clear hb hbox hg;have a7:=ai.out;have a8:=aj.out;have aB:aA.cell? ⟨aa,0,none⟩=some (.int .i64 ae):=(zK ab.out 0).trans rfl;have aC:aA.cell? ⟨aa,1,none⟩=some (.int .i64 af):=(zK ab.out 1).trans rfl;have aD:=zP ab.out 0;have aE:=zP ab.out 1;have aF:aA.cell? ⟨ad,0,none⟩=some (.int .i64 ak):=(zK ah.out 0).trans rfl;have aG:aA.cell? ⟨ad,1,none⟩=some (.int .i64 al):=(zK ah.out 1).trans rfl;have aH:=zP ah.out 0;have aI:=zP ah.out 1))
      go_ret;exact⟨by first|rfl|(simp [zU,zV] <;> rfl)|(simp [*,zU,zV] <;> rfl),by repeat(first|(with_reducible first|exact HB.out|apply zC|apply zB|apply zD|refine zF ?_ ag.out|refine zF ?_ au.out)|exact HB.out)⟩
  · rw[if_neg c3]at H
    have aS:(ae==ak)=false:=beq_eq_false_iff_ne.mpr c3
    have aT:(ae != ak)=true:=bne_iff_ne.mpr c3
    obtain rfl:=yey H
    go_enter Try.func121,Try.ntmps121
    go_wp2_with (first|((with_reducible refine zw (N:=2) rfl ?_);refine zz ?hg (N:=2) ?hd (cs:=#[.int .i64 ae,.int .i64 af]) (t:=75) ?hr ?_;(case hd=>rfl);(case hg=>rfl);(case hr=>first|(go_simp;done)|(go_simp;rfl));intro aa hg bg hbox hb;have an:=zA.mk (zM (by repeat(first|(with_reducible first|exact HB.out|apply zC|apply zB|apply zD)|exact HB.out)) hb);have ao:=zA.mk (hbox);have aq:=zA.mk ((by rw[hg];exact(zQ (by repeat(first|(with_reducible first|exact HB.out|apply zC|apply zB|apply zD)|exact HB.out))):w.heap.size≤aa));have ar:=zA.mk ((by rw[hg];exact(zQ (by repeat(first|(with_reducible first|exact HB.out|apply zC|apply zB|apply zD)|exact HB.out))):w.heap.size≤aa));clear HB;have HB:=an;have ab:=ao;have av:=aq;have ag:=ar;clear an ao aq ar;clear hb hbox hg)|((with_reducible refine zw (N:=3) rfl ?_);refine zz ?hg (N:=3) ?hd (cs:=#[.int .i64 ak,.int .i64 al]) (t:=75) ?hr ?_;(case hd=>rfl);(case hg=>rfl);(case hr=>first|(go_simp;done)|(go_simp;rfl));intro ad hg aJ hbox hb;have an:=zA.mk (zO (g:=aa) (o := .cells #[.int .i64 ae,.int .i64 af] 75 (0,0)) (by(with_reducible repeat(first|refine zH ?_ _|refine zJ ?_|refine zG ?_ _));exact ab.out) hb);have ao:=zA.mk (zM (by repeat(first|(with_reducible first|exact HB.out|apply zC|apply zB|apply zD|refine zF ?_ ag.out)|exact HB.out)) hb);have aq:=zA.mk (hbox);have ar:=zA.mk ((by rw[hg];exact(zQ (by repeat(first|(with_reducible first|exact HB.out|apply zC|apply zB|apply zD|refine zF ?_ ag.out)|exact HB.out))):w.heap.size≤ad));have aw:=zA.mk ((by rw[hg];exact(zQ (by repeat(first|(with_reducible first|exact HB.out|apply zC|apply zB|apply zD|refine zF ?_ ag.out)|exact HB.out))):w.heap.size≤ad));have ax:=zA.mk ((by rw[hg];exact Nat.ne_of_lt (qT (g:=aa) (o := .cells #[.int .i64 ae,.int .i64 af] 75 (0,0)) (by(with_reducible repeat(first|refine zH ?_ _|refine zJ ?_|refine zG ?_ _));exact ab.out)):aa≠ad));have ay:=zA.mk ((by rw[hg];exact Nat.ne_of_gt (qT (g:=aa) (o := .cells #[.int .i64 ae,.int .i64 af] 75 (0,0)) (by(with_reducible repeat(first|refine zH ?_ _|refine zJ ?_|refine zG ?_ _));exact ab.out)):ad≠aa));clear ab;clear HB;have ab:=an;have HB:=ao;have ah:=aq;have az:=ar;have au:=aw;have ai:=ax;have aj:=ay;clear an ao aq ar aw ax ay;clear hb hbox hg;have a_:=ai.out;have ba:=aj.out;have aK:aJ.cell? ⟨aa,0,none⟩=some (.int .i64 ae):=(zK ab.out 0).trans rfl;have aL:aJ.cell? ⟨aa,1,none⟩=some (.int .i64 af):=(zK ab.out 1).trans rfl;have aM:=zP ab.out 0;have aN:=zP ab.out 1;have aO:aJ.cell? ⟨ad,0,none⟩=some (.int .i64 ak):=(zK ah.out 0).trans rfl;have aP:aJ.cell? ⟨ad,1,none⟩=some (.int .i64 al):=(zK ah.out 1).trans rfl;have aQ:=zP ah.out 0;have aR:=zP ah.out 1))
    go_ret;exact⟨by first|rfl|(simp [zU,zV] <;> rfl)|(simp [*,zU,zV] <;> rfl),by repeat(first|(with_reducible first|exact HB.out|apply zC|apply zB|apply zD|refine zF ?_ ag.out|refine zF ?_ au.out)|exact HB.out)⟩
def qO.l0:Nat→List (zv)→List (zv)→Int→Option (Bool)
 | 0,_,_,_=>none
 | k+1,x0,x1,x5=>if x5<(x0.length:Int)then(if 0≤x5 then(if x5<(x1.length:Int)then((JD.f ((zI x0 x5).f0) ((zI x0 x5).f1) ((zI x1 x5).f0) ((zI x1 x5).f1)).bind fun t103=>(if t103=true then(qO.l0 k x0 x1 (wrap64 (x5+1)))else(some false)))else(none))else(none))else(some true)
def qO.f (k:Nat) (l0:List (zv)) (l1:List (zv)):Option (Bool):=if(l0.length:Int)=(l1.length:Int)then(qO.l0 k l0 l1 0)else(some false)
def qO.T6:Bool × List (List Nat × List Nat):=(true,[([],[]),([],[]),([0,1],[0,1]),([2],[2]),([],[]),([],[]),([4,5],[4,5]),([6],[6]),([3,7],[3,7]),([8],[8])])
def qO.B6:List Nat := [0,0,3,7,0,0,48,112,255,511]
theorem qO.tab6:Jg .any (opsOf Try.f89 6)=qO.T6:=by kernel_rfl
theorem qO.zGn:QK qO.T6.2 qO.B6=true:=by kernel_rfl
set_option maxHeartbeats 8000000 in
set_option maxRecDepth 100000 in
theorem qO.calls (k:Nat) (A0:Option Addr) (c0:Nat) (l0:List (zv)) (A1:Option Addr) (c1:Nat) (l1:List (zv)) (r:Bool) (w:World) (aB:Kd.C ZZ w A0 l0.length l0) (aC:l0.length≤c0) (aD:Kd.C ZZ w A1 l1.length l1) (aE:l1.length≤c1) (h:qO.f k l0 l1=some r) :
 Calls Try.prog 89 #[.slice A0 l0.length c0,.slice A1 l1.length c1] w fun e w'=>e = .returned (.bool r)∧Below w.heap.size w w':=by
 have aJ:=Try.underlying75
 have aF:=zA.mk aB
 have aM:=zA.mk aC
 clear aB aC;have aG:=zA.mk aD
 have aN:=zA.mk aE
 clear aD aE;have HB:=zA.mk (ysy w.heap.size w)
 have H:(if(l0.length:Int)=(l1.length:Int)then(qO.l0 k l0 l1 0)else(some false))=some r:=h
 clear h;by_cases c3:(l0.length:Int)=(l1.length:Int)
 case neg=>
  rw[if_neg c3]at H
  have ax:((l0.length:Int)==(l1.length:Int))=false:=beq_eq_false_iff_ne.mpr c3
  have ay:((l0.length:Int) != (l1.length:Int))=true:=bne_iff_ne.mpr c3
  have az:(l0.length==l1.length)=false:=by first|simpa using c3|(simp at c3 ⊢;omega)
  obtain rfl:=yey H
  go_enter Try.func89,Try.ntmps89
  go_wp2;go_ret;exact⟨by first|rfl|(simp [zU,zV] <;> rfl)|(simp [*,zU,zV] <;> rfl),by repeat(first|(with_reducible first|exact HB.out|apply zC|apply zB|apply zD)|exact HB.out)⟩
 rw[if_pos c3]at H
 have ax:((l0.length:Int)==(l1.length:Int))=true:=beq_iff_eq.mpr c3
 have ay:((l0.length:Int) != (l1.length:Int))=false:=bne_eq_false_iff_eq.mpr c3
 have az:(l0.length==l1.length)=true:=by first|simpa using c3|(simp at c3 ⊢;omega)
 clear c3;have H':=zA.mk H
 clear H;go_enter Try.func89,Try.ntmps89
 go_wp2;go_loopg [5] k (fun kq v5 w' => ∃ (aa:Int),v5 = .int .i64 aa∧zA (qO.l0 kq l0 l1 aa=some r)∧zA (kq≤k)∧zA (Below w.heap.size w w'))
 case atStart=>exact⟨(0),(by first|rfl|(simp;done)|(simp [*];done)),H',⟨yry _⟩,⟨by repeat(first|(with_reducible first|exact HB.out|apply zC|apply zB|apply zD)|exact HB.out)⟩⟩
 case round=>
  clear H';(try clear c1);(try clear p2);(try clear c3);(try clear ax);(try clear ay);(try clear az);obtain⟨aa,rfl,HA,aH,HB⟩:=hrel
  cases gk with
  | zero=>exact absurd HA.out (by simp [qO.l0])
  | succ k1=>
   have H:=HA.out
   clear HA;simp only [qO.l0]at H
   by_cases c4:aa<(l0.length:Int)
   case neg=>
    rw[if_neg c4]at H
    have aA:decide (aa<(l0.length:Int))=false:=yhy c4
    clear c4;obtain rfl:=yey H
    go_wp2;go_ret;exact⟨by first|rfl|(simp [zU,zV] <;> rfl)|(simp [*,zU,zV] <;> rfl),by repeat(first|(with_reducible first|exact HB.out|apply zC|apply zB|apply zD)|exact HB.out)⟩
   rw[if_pos c4]at H
   have aA:decide (aa<(l0.length:Int))=true:=ygy c4
   clear c4;by_cases c5:0≤aa
   case neg=>
    rw[if_neg c5]at H
    exact absurd H (by simp)
   rw[if_pos c5]at H
   have aK:decide (0≤aa)=true:=ygy c5
   clear c5;by_cases c6:aa<(l1.length:Int)
   case neg=>
    rw[if_neg c6]at H
    exact absurd H (by simp)
   rw[if_pos c6]at H
   have aL:decide (aa<(l1.length:Int))=true:=ygy c6
   clear c6;replace H:=ydy.mp H
   obtain⟨t103,aI,H⟩:=H
   replace H:(if t103=true then(qO.l0 k1 l0 l1 (wrap64 (aa+1)))else(some false))=some r:=H
   have A7:=zA.mk aI
   clear aI;by_cases c8:t103=true
   case neg=>
    replace c8:=Bool.eq_false_iff.mpr c8
    subst c8;rw[if_neg (show ¬ (false=true)by decide)]at H
    obtain rfl:=yey H
    try go_wp2
    have au:=zA.mk (zD HB.out)
    clear HB;have HB:=au;clear au;have an:0≤(aa:Int):=of_decide_eq_true (by first|(with_reducible assumption)|assumption)
    have ao:aa<(l0.length:Int):=of_decide_eq_true (by first|(with_reducible assumption)|assumption)
    obtain⟨ak,av,ab,ad⟩:=QF aF.out aa an ao
    have ag:=ad;have ah:=ab
    cases av
    replace ab:=(HB.out.cell (yqy w _ ab)).trans ab
    replace ad:=(HB.out.cell (yqy w _ ad)).trans ad
    replace an:=eq_true an
    replace ao:=eq_true ao
    have aq:0≤(aa:Int):=of_decide_eq_true (by first|(with_reducible assumption)|assumption)
    have ar:aa<(l1.length:Int):=of_decide_eq_true (by first|(with_reducible assumption)|assumption)
    obtain⟨al,aw,ae,af⟩:=QF aG.out aa aq ar
    have ai:=af;have aj:=ae
    cases aw
    replace ae:=(HB.out.cell (yqy w _ ae)).trans ae
    replace af:=(HB.out.cell (yqy w _ af)).trans af
    replace aq:=eq_true aq
    replace ar:=eq_true ar
    refine Zv (n:=10) (S:=fun w'=>w'.cell? (ak.add ((aa).toNat*2))=some (.int .i64 ((zI l0 aa).f0))∧w'.cell? ⟨(ak.add ((aa).toNat*2)).block,(ak.add ((aa).toNat*2)).off+1,none⟩=some (.int .i64 ((zI l0 aa).f1))∧w'.cell? (al.add ((aa).toNat*2))=some (.int .i64 ((zI l1 aa).f0))∧w'.cell? ⟨(al.add ((aa).toNat*2)).block,(al.add ((aa).toNat*2)).off+1,none⟩=some (.int .i64 ((zI l1 aa).f1))) (ds := []) #[false,false,false,false,false,false,false,false,false,false] (by kernel_rfl) rfl rfl ⟨((HB.out.cell (yqy w _ ah)).trans ah),((HB.out.cell (yqy w _ ag)).trans ag),((HB.out.cell (yqy w _ aj)).trans aj),((HB.out.cell (yqy w _ ai)).trans ai)⟩ (fun hHeld=>?_);refine Zn qO.tab6 qO.zGn (fun HT_ HW_=>?_)
    generalize wr.drew=aO at HB ab ad ae af hHeld ⊢
    refine zg (i:=0) (N:=some 17) (v:=?_) (a':=?_) #[true,false,false,false,false,false,false,false,false,false] rfl rfl (zm HT_.out (by kernel_rfl)) (fun _ _ _ h=>h) (Or.inl ⟨by rfl,?_⟩) ?_ ?_
    rotate_left
    next=>
     intro w';go_simp;with_reducible rfl
    rotate_left
    next=>
     simp only [Act.put,yay,yby,ycy,zX,za]
     rfl
    refine zg (i:=1) (N:=some 18) (v:=?_) (a':=?_) #[true,true,false,false,false,false,false,false,false,false] rfl rfl (zm HT_.out (by kernel_rfl)) (fun _ _ _ h=>h) (Or.inl ⟨by rfl,?_⟩) ?_ ?_
    rotate_left
    next=>
     intro w';go_simp;with_reducible rfl
    rotate_left
    next=>
     simp only [Act.put,yay,yby,ycy,zX,za]
     rfl
    refine zg (i:=2) (N:=some 19) (v:=?_) (a':=?_) #[true,true,true,false,false,false,false,false,false,false] rfl rfl (zm HT_.out (by kernel_rfl)) (fun _ _ _ h=>h) (Or.inl ⟨by rfl,?_⟩) ?_ ?_
    rotate_left
    next=>
     intro w';go_simp;with_reducible rfl
    rotate_left
    next=>
     simp only [Act.put,yay,yby,ycy,zX,za]
     rfl
    refine zg (i:=4) (N:=some 21) (v:=?_) (a':=?_) #[true,true,true,false,true,false,false,false,false,false] rfl rfl (zm HT_.out (by kernel_rfl)) (fun _ _ _ h=>h) (Or.inl ⟨by rfl,?_⟩) ?_ ?_
    rotate_left
    next=>
     intro w';go_simp;with_reducible rfl
    rotate_left
    next=>
     simp only [Act.put,yay,yby,ycy,zX,za]
     rfl
    refine zg (i:=5) (N:=some 22) (v:=?_) (a':=?_) #[true,true,true,false,true,true,false,false,false,false] rfl rfl (zm HT_.out (by kernel_rfl)) (fun _ _ _ h=>h) (Or.inl ⟨by rfl,?_⟩) ?_ ?_
    rotate_left
    next=>
     intro w';go_simp;with_reducible rfl
    rotate_left
    next=>
     simp only [Act.put,yay,yby,ycy,zX,za]
     rfl
    refine zg (i:=6) (N:=some 23) (v:=?_) (a':=?_) #[true,true,true,false,true,true,true,false,false,false] rfl rfl (zm HT_.out (by kernel_rfl)) (fun _ _ _ h=>h) (Or.inl ⟨by rfl,?_⟩) ?_ ?_
    rotate_left
    next=>
     intro w';go_simp;with_reducible rfl
    rotate_left
    next=>
     simp only [Act.put,yay,yby,ycy,zX,za]
     rfl
    refine ZA (i:=3) (N:=some 20) (v:=?_) (a':=?_) #[true,true,true,true,true,true,true,false,false,false] rfl rfl (qm HT_.out HW_.out (by kernel_rfl)) (fun _ _ _ h=>h) (Or.inl ⟨by rfl,?_⟩) hHeld ?_ ?_
    rotate_left
    next=>
     rintro w' ⟨s0,s1,s2,s3⟩
     go_simp;with_reducible rfl
    rotate_left
    next=>
     simp only [Act.put,yay,yby,ycy,zX,za]
     rfl
    refine ZA (i:=7) (N:=some 24) (v:=?_) (a':=?_) #[true,true,true,true,true,true,true,true,false,false] rfl rfl (qm HT_.out HW_.out (by kernel_rfl)) (fun _ _ _ h=>h) (Or.inl ⟨by rfl,?_⟩) hHeld ?_ ?_
    rotate_left
    next=>
     rintro w' ⟨s0,s1,s2,s3⟩
     go_simp;with_reducible rfl
    rotate_left
    next=>
     simp only [Act.put,yay,yby,ycy,zX,za]
     rfl
    refine zA4 (i:=8) (N:=some 25) #[true,true,true,true,true,true,true,true,true,false] rfl rfl (QG HT_.out (by kernel_rfl)) (by decide) (fun K hK=>?_)
    refine QO Try.func121 (by kernel_rfl) rfl #[.agg #[.int .i64 ((zI l0 aa).f0),.int .i64 ((zI l0 aa).f1)],.agg #[.int .i64 ((zI l1 aa).f0),.int .i64 ((zI l1 aa).f1)]] (by rfl) rfl rfl (by(try simp only [yiy,yjy,yky]);first|done|rfl|(simp only [yly,ymy];rfl)) ?_
    with_reducible refine(JD.calls ((zI l0 aa).f0) ((zI l0 aa).f1) ((zI l1 aa).f0) ((zI l1 aa).f1) false _ A7.out).mono ?_
    rintro e aP ⟨rfl,hb⟩
    refine⟨_,rfl,?_⟩
    have au:=zA.mk (zM (by repeat(first|(with_reducible first|exact HB.out|apply zC|apply zB|apply zD)|exact HB.out)) hb)
    clear HB;have HB:=au;clear au
    (try clear hb)
    (try clear hb2)
    (try clear hk)
    (try clear hi)
    refine hK.out _ _ ⟨((HB.out.cell (yqy w _ ah)).trans ah),((HB.out.cell (yqy w _ ag)).trans ag),((HB.out.cell (yqy w _ aj)).trans aj),((HB.out.cell (yqy w _ ai)).trans ai)⟩ (fun hHeld=>?_)
    clear hK K;refine QE (a':=?_) ?_ ?_
    rotate_left
    next=>
     show Act.put _ (some 25) _=_
     simp only [Act.put,yay,yby,ycy,zX,za]
     rfl
    refine zg (i:=9) (N:=some 26) (v:=?_) (a':=?_) #[true,true,true,true,true,true,true,true,true,true] rfl rfl (zm HT_.out (by kernel_rfl)) (fun _ _ _ h=>h) (Or.inl ⟨by rfl,?_⟩) ?_ ?_
    rotate_left
    next=>
     intro w';go_simp;with_reducible rfl
    rotate_left
    next=>
     simp only [Act.put,yay,yby,ycy,zX,za]
     rfl
    refine Qo (Qp HT_.out (by kernel_rfl)) ?_
    try go_wp2
    go_ret;exact⟨by first|rfl|(simp [zU,zV] <;> rfl)|(simp [*,zU,zV] <;> rfl),by repeat(first|(with_reducible first|exact HB.out|apply zC|apply zB|apply zD)|exact HB.out)⟩
   subst c8;rw[if_pos rfl]at H
   have H':=zA.mk H
   clear H;try go_wp2
   have au:=zA.mk (zD HB.out)
   clear HB;have HB:=au;clear au;have an:0≤(aa:Int):=of_decide_eq_true (by first|(with_reducible assumption)|assumption)
   have ao:aa<(l0.length:Int):=of_decide_eq_true (by first|(with_reducible assumption)|assumption)
   obtain⟨ak,av,ab,ad⟩:=QF aF.out aa an ao
   have ag:=ad;have ah:=ab
   cases av
   replace ab:=(HB.out.cell (yqy w _ ab)).trans ab
   replace ad:=(HB.out.cell (yqy w _ ad)).trans ad
   replace an:=eq_true an
   replace ao:=eq_true ao
   have aq:0≤(aa:Int):=of_decide_eq_true (by first|(with_reducible assumption)|assumption)
   have ar:aa<(l1.length:Int):=of_decide_eq_true (by first|(with_reducible assumption)|assumption)
   obtain⟨al,aw,ae,af⟩:=QF aG.out aa aq ar
   have ai:=af;have aj:=ae
   cases aw
   replace ae:=(HB.out.cell (yqy w _ ae)).trans ae
   replace af:=(HB.out.cell (yqy w _ af)).trans af
   replace aq:=eq_true aq
   replace ar:=eq_true ar
   refine Zv (n:=10) (S:=fun w'=>w'.cell? (ak.add ((aa).toNat*2))=some (.int .i64 ((zI l0 aa).f0))∧w'.cell? ⟨(ak.add ((aa).toNat*2)).block,(ak.add ((aa).toNat*2)).off+1,none⟩=some (.int .i64 ((zI l0 aa).f1))∧w'.cell? (al.add ((aa).toNat*2))=some (.int .i64 ((zI l1 aa).f0))∧w'.cell? ⟨(al.add ((aa).toNat*2)).block,(al.add ((aa).toNat*2)).off+1,none⟩=some (.int .i64 ((zI l1 aa).f1))) (ds := []) #[false,false,false,false,false,false,false,false,false,false] (by kernel_rfl) rfl rfl ⟨((HB.out.cell (yqy w _ ah)).trans ah),((HB.out.cell (yqy w _ ag)).trans ag),((HB.out.cell (yqy w _ aj)).trans aj),((HB.out.cell (yqy w _ ai)).trans ai)⟩ (fun hHeld=>?_);refine Zn qO.tab6 qO.zGn (fun HT_ HW_=>?_)
   generalize wr.drew=w9 at HB ab ad ae af hHeld ⊢
   refine zg (i:=0) (N:=some 17) (v:=?_) (a':=?_) #[true,false,false,false,false,false,false,false,false,false] rfl rfl (zm HT_.out (by kernel_rfl)) (fun _ _ _ h=>h) (Or.inl ⟨by rfl,?_⟩) ?_ ?_
   rotate_left
   next=>
    intro w';go_simp;with_reducible rfl
   rotate_left
   next=>
    simp only [Act.put,yay,yby,ycy,zX,za]
    rfl
   refine zg (i:=1) (N:=some 18) (v:=?_) (a':=?_) #[true,true,false,false,false,false,false,false,false,false] rfl rfl (zm HT_.out (by kernel_rfl)) (fun _ _ _ h=>h) (Or.inl ⟨by rfl,?_⟩) ?_ ?_
   rotate_left
   next=>
    intro w';go_simp;with_reducible rfl
   rotate_left
   next=>
    simp only [Act.put,yay,yby,ycy,zX,za]
    rfl
   refine zg (i:=2) (N:=some 19) (v:=?_) (a':=?_) #[true,true,true,false,false,false,false,false,false,false] rfl rfl (zm HT_.out (by kernel_rfl)) (fun _ _ _ h=>h) (Or.inl ⟨by rfl,?_⟩) ?_ ?_
   rotate_left
   next=>
    intro w';go_simp;with_reducible rfl
   rotate_left
   next=>
    simp only [Act.put,yay,yby,ycy,zX,za]
    rfl
   refine zg (i:=4) (N:=some 21) (v:=?_) (a':=?_) #[true,true,true,false,true,false,false,false,false,false] rfl rfl (zm HT_.out (by kernel_rfl)) (fun _ _ _ h=>h) (Or.inl ⟨by rfl,?_⟩) ?_ ?_
   rotate_left
   next=>
    intro w';go_simp;with_reducible rfl
   rotate_left
   next=>
    simp only [Act.put,yay,yby,ycy,zX,za]
    rfl
   refine zg (i:=5) (N:=some 22) (v:=?_) (a':=?_) #[true,true,true,false,true,true,false,false,false,false] rfl rfl (zm HT_.out (by kernel_rfl)) (fun _ _ _ h=>h) (Or.inl ⟨by rfl,?_⟩) ?_ ?_
   rotate_left
   next=>
    intro w';go_simp;with_reducible rfl
   rotate_left
   next=>
    simp only [Act.put,yay,yby,ycy,zX,za]
    rfl
   refine zg (i:=6) (N:=some 23) (v:=?_) (a':=?_) #[true,true,true,false,true,true,true,false,false,false] rfl rfl (zm HT_.out (by kernel_rfl)) (fun _ _ _ h=>h) (Or.inl ⟨by rfl,?_⟩) ?_ ?_
   rotate_left
   next=>
    intro w';go_simp;with_reducible rfl
   rotate_left
   next=>
    simp only [Act.put,yay,yby,ycy,zX,za]
    rfl
   refine ZA (i:=3) (N:=some 20) (v:=?_) (a':=?_) #[true,true,true,true,true,true,true,false,false,false] rfl rfl (qm HT_.out HW_.out (by kernel_rfl)) (fun _ _ _ h=>h) (Or.inl ⟨by rfl,?_⟩) hHeld ?_ ?_
   rotate_left
   next=>
    rintro w' ⟨s0,s1,s2,s3⟩
    go_simp;with_reducible rfl
   rotate_left
   next=>
    simp only [Act.put,yay,yby,ycy,zX,za]
    rfl
   refine ZA (i:=7) (N:=some 24) (v:=?_) (a':=?_) #[true,true,true,true,true,true,true,true,false,false] rfl rfl (qm HT_.out HW_.out (by kernel_rfl)) (fun _ _ _ h=>h) (Or.inl ⟨by rfl,?_⟩) hHeld ?_ ?_
   rotate_left
   next=>
    rintro w' ⟨s0,s1,s2,s3⟩
    go_simp;with_reducible rfl
   rotate_left
   next=>
    simp only [Act.put,yay,yby,ycy,zX,za]
    rfl
   refine zA4 (i:=8) (N:=some 25) #[true,true,true,true,true,true,true,true,true,false] rfl rfl (QG HT_.out (by kernel_rfl)) (by decide) (fun K hK=>?_)
   refine QO Try.func121 (by kernel_rfl) rfl #[.agg #[.int .i64 ((zI l0 aa).f0),.int .i64 ((zI l0 aa).f1)],.agg #[.int .i64 ((zI l1 aa).f0),.int .i64 ((zI l1 aa).f1)]] (by rfl) rfl rfl (by(try simp only [yiy,yjy,yky]);first|done|rfl|(simp only [yly,ymy];rfl)) ?_
   with_reducible refine(JD.calls ((zI l0 aa).f0) ((zI l0 aa).f1) ((zI l1 aa).f0) ((zI l1 aa).f1) true _ A7.out).mono ?_
   rintro e aQ ⟨rfl,hb⟩
   refine⟨_,rfl,?_⟩
   have au:=zA.mk (zM (by repeat(first|(with_reducible first|exact HB.out|apply zC|apply zB|apply zD)|exact HB.out)) hb)
   clear HB;have HB:=au;clear au
   (try clear hb)
   (try clear hb2)
   (try clear hk)
   (try clear hi)
   refine hK.out _ _ ⟨((HB.out.cell (yqy w _ ah)).trans ah),((HB.out.cell (yqy w _ ag)).trans ag),((HB.out.cell (yqy w _ aj)).trans aj),((HB.out.cell (yqy w _ ai)).trans ai)⟩ (fun hHeld=>?_)
   clear hK K;refine QE (a':=?_) ?_ ?_
   rotate_left
   next=>
    show Act.put _ (some 25) _=_
    simp only [Act.put,yay,yby,ycy,zX,za]
    rfl
   refine zg (i:=9) (N:=some 26) (v:=?_) (a':=?_) #[true,true,true,true,true,true,true,true,true,true] rfl rfl (zm HT_.out (by kernel_rfl)) (fun _ _ _ h=>h) (Or.inl ⟨by rfl,?_⟩) ?_ ?_
   rotate_left
   next=>
    intro w';go_simp;with_reducible rfl
   rotate_left
   next=>
    simp only [Act.put,yay,yby,ycy,zX,za]
    rfl
   refine Qo (Qp HT_.out (by kernel_rfl)) ?_
   try go_wp2
   go_roundg k1
   case measure=>have:=aH.out;omega
   case rel=>exact⟨(wrap64 (aa+1)),(by first|rfl|(simp;done)|(simp [*];done)),H',⟨by have:=aH.out;omega⟩,⟨by repeat(first|(with_reducible first|exact HB.out|apply zC|apply zB|apply zD)|exact HB.out)⟩⟩
def qH.l0:Nat→List (List (zv))→List (List (zv))→Int→Option (Bool)
 | 0,_,_,_=>none
 | k+1,x0,x1,x5=>if x5<(x0.length:Int)then(if 0≤x5 then(if x5<(x1.length:Int)then((qO.f k (zE x0 x5) (zE x1 x5)).bind fun t103=>(if t103=true then(qH.l0 k x0 x1 (wrap64 (x5+1)))else(some false)))else(none))else(none))else(some true)
def qH.f (k:Nat) (l0:List (List (zv))) (l1:List (List (zv))):Option (Bool):=if(l0.length:Int)=(l1.length:Int)then(qH.l0 k l0 l1 0)else(some false)
def qH.T6:Bool × List (List Nat × List Nat):=(true,[([],[]),([],[]),([0,1],[0,1]),([2],[2]),([],[]),([],[]),([4,5],[4,5]),([6],[6]),([3,7],[3,7]),([8],[8])])
def qH.B6:List Nat := [0,0,3,7,0,0,48,112,255,511]
theorem qH.tab6:Jg .any (opsOf Try.f52 6)=qH.T6:=by kernel_rfl
theorem qH.zGn:QK qH.T6.2 qH.B6=true:=by kernel_rfl
set_option maxHeartbeats 8000000 in
set_option maxRecDepth 100000 in
theorem qH.calls (k:Nat) (A0:Option Addr) (c0:Nat) (l0:List (List (zv))) (A1:Option Addr) (c1:Nat) (l1:List (List (zv))) (r:Bool) (w:World) (aJ:Kd.C (Kd.slice 75 ZZ) w A0 l0.length l0) (aK:l0.length≤c0) (aL:Kd.C (Kd.slice 75 ZZ) w A1 l1.length l1) (aM:l1.length≤c1) (h:qH.f k l0 l1=some r) :
 Calls Try.prog 52 #[.slice A0 l0.length c0,.slice A1 l1.length c1] w fun e w'=>e = .returned (.bool r)∧Below w.heap.size w w':=by
 have aN:=zA.mk aJ
 have aT:=zA.mk aK
 clear aJ aK;have aO:=zA.mk aL
 have aU:=zA.mk aM
 clear aL aM;have HB:=zA.mk (ysy w.heap.size w)
 have H:(if(l0.length:Int)=(l1.length:Int)then(qH.l0 k l0 l1 0)else(some false))=some r:=h
 clear h;by_cases c3:(l0.length:Int)=(l1.length:Int)
 case neg=>
  rw[if_neg c3]at H
  have aF:((l0.length:Int)==(l1.length:Int))=false:=beq_eq_false_iff_ne.mpr c3
  have aG:((l0.length:Int) != (l1.length:Int))=true:=bne_iff_ne.mpr c3
  have aH:(l0.length==l1.length)=false:=by first|simpa using c3|(simp at c3 ⊢;omega)
  obtain rfl:=yey H
  go_enter Try.func52,Try.ntmps52
  go_wp2;go_ret;exact⟨by first|rfl|(simp [zU,zV] <;> rfl)|(simp [*,zU,zV] <;> rfl),by repeat(first|(with_reducible first|exact HB.out|apply zC|apply zB|apply zD)|exact HB.out)⟩
 rw[if_pos c3]at H
 have aF:((l0.length:Int)==(l1.length:Int))=true:=beq_iff_eq.mpr c3
 have aG:((l0.length:Int) != (l1.length:Int))=false:=bne_eq_false_iff_eq.mpr c3
 have aH:(l0.length==l1.length)=true:=by first|simpa using c3|(simp at c3 ⊢;omega)
 clear c3;have H':=zA.mk H
 clear H;go_enter Try.func52,Try.ntmps52
 go_wp2;go_loopg [5] k (fun kq v5 w' => ∃ (aa:Int),v5 = .int .i64 aa∧zA (qH.l0 kq l0 l1 aa=some r)∧zA (kq≤k)∧zA (Below w.heap.size w w'))
 case atStart=>exact⟨(0),(by first|rfl|(simp;done)|(simp [*];done)),H',⟨yry _⟩,⟨by repeat(first|(with_reducible first|exact HB.out|apply zC|apply zB|apply zD)|exact HB.out)⟩⟩
 case round=>
  clear H';(try clear c1);(try clear p2);(try clear c3);(try clear aF);(try clear aG);(try clear aH);obtain⟨aa,rfl,HA,aP,HB⟩:=hrel
  cases gk with
  | zero=>exact absurd HA.out (by simp [qH.l0])
  | succ k1=>
   have H:=HA.out
   clear HA;simp only [qH.l0]at H
   by_cases c4:aa<(l0.length:Int)
   case neg=>
    rw[if_neg c4]at H
    have aI:decide (aa<(l0.length:Int))=false:=yhy c4
    clear c4;obtain rfl:=yey H
    go_wp2;go_ret;exact⟨by first|rfl|(simp [zU,zV] <;> rfl)|(simp [*,zU,zV] <;> rfl),by repeat(first|(with_reducible first|exact HB.out|apply zC|apply zB|apply zD)|exact HB.out)⟩
   rw[if_pos c4]at H
   have aI:decide (aa<(l0.length:Int))=true:=ygy c4
   clear c4;by_cases c5:0≤aa
   case neg=>
    rw[if_neg c5]at H
    exact absurd H (by simp)
   rw[if_pos c5]at H
   have aR:decide (0≤aa)=true:=ygy c5
   clear c5;by_cases c6:aa<(l1.length:Int)
   case neg=>
    rw[if_neg c6]at H
    exact absurd H (by simp)
   rw[if_pos c6]at H
   have aS:decide (aa<(l1.length:Int))=true:=ygy c6
   clear c6;replace H:=ydy.mp H
   obtain⟨t103,aQ,H⟩:=H
   replace H:(if t103=true then(qH.l0 k1 l0 l1 (wrap64 (aa+1)))else(some false))=some r:=H
   have A7:=zA.mk aQ
   clear aQ;by_cases c8:t103=true
   case neg=>
    replace c8:=Bool.eq_false_iff.mpr c8
    subst c8;rw[if_neg (show ¬ (false=true)by decide)]at H
    obtain rfl:=yey H
    try go_wp2
    have aA:=zA.mk (zD HB.out)
    clear HB;have HB:=aA;clear aA;have aw:0≤(aa:Int):=of_decide_eq_true (by first|(with_reducible assumption)|assumption)
    have ax:aa<(l0.length:Int):=of_decide_eq_true (by first|(with_reducible assumption)|assumption)
    obtain⟨aB,an,ao,aD,ab,ag,ah⟩:=ZY aN.out aa aw ax
    have ae:=ab
    cases aD
    replace ab:=(HB.out.cell (yqy w _ ab)).trans ab
    have ai:=zA.mk ah
    have au:=zA.mk ag
    clear ah ag;replace aw:=eq_true aw
    replace ax:=eq_true ax
    have ay:0≤(aa:Int):=of_decide_eq_true (by first|(with_reducible assumption)|assumption)
    have az:aa<(l1.length:Int):=of_decide_eq_true (by first|(with_reducible assumption)|assumption)
    obtain⟨aC,aq,ar,aE,ad,aj,ak⟩:=ZY aO.out aa ay az
    have af:=ad
    cases aE
    replace ad:=(HB.out.cell (yqy w _ ad)).trans ad
    have al:=zA.mk ak
    have av:=zA.mk aj
    clear ak aj;replace ay:=eq_true ay
    replace az:=eq_true az
    refine Zv (n:=10) (S:=fun w'=>w'.cell? (aB.add (aa).toNat)=some (.slice an (zE l0 aa).length ao)∧w'.cell? (aC.add (aa).toNat)=some (.slice aq (zE l1 aa).length ar)) (ds := []) #[false,false,false,false,false,false,false,false,false,false] (by kernel_rfl) rfl rfl ⟨((HB.out.cell (yqy w _ ae)).trans ae),((HB.out.cell (yqy w _ af)).trans af)⟩ (fun hHeld=>?_);refine Zn qH.tab6 qH.zGn (fun HT_ HW_=>?_)
    generalize wr.drew=aV at HB ai al ab ad hHeld ⊢
    refine zg (i:=0) (N:=some 17) (v:=?_) (a':=?_) #[true,false,false,false,false,false,false,false,false,false] rfl rfl (zm HT_.out (by kernel_rfl)) (fun _ _ _ h=>h) (Or.inl ⟨by rfl,?_⟩) ?_ ?_
    rotate_left
    next=>
     intro w';go_simp;with_reducible rfl
    rotate_left
    next=>
     simp only [Act.put,yay,yby,ycy,zX,za]
     rfl
    refine zg (i:=1) (N:=some 18) (v:=?_) (a':=?_) #[true,true,false,false,false,false,false,false,false,false] rfl rfl (zm HT_.out (by kernel_rfl)) (fun _ _ _ h=>h) (Or.inl ⟨by rfl,?_⟩) ?_ ?_
    rotate_left
    next=>
     intro w';go_simp;with_reducible rfl
    rotate_left
    next=>
     simp only [Act.put,yay,yby,ycy,zX,za]
     rfl
    refine zg (i:=2) (N:=some 19) (v:=?_) (a':=?_) #[true,true,true,false,false,false,false,false,false,false] rfl rfl (zm HT_.out (by kernel_rfl)) (fun _ _ _ h=>h) (Or.inl ⟨by rfl,?_⟩) ?_ ?_
    rotate_left
    next=>
     intro w';go_simp;with_reducible rfl
    rotate_left
    next=>
     simp only [Act.put,yay,yby,ycy,zX,za]
     rfl
    refine zg (i:=4) (N:=some 21) (v:=?_) (a':=?_) #[true,true,true,false,true,false,false,false,false,false] rfl rfl (zm HT_.out (by kernel_rfl)) (fun _ _ _ h=>h) (Or.inl ⟨by rfl,?_⟩) ?_ ?_
    rotate_left
    next=>
     intro w';go_simp;with_reducible rfl
    rotate_left
    next=>
     simp only [Act.put,yay,yby,ycy,zX,za]
     rfl
    refine zg (i:=5) (N:=some 22) (v:=?_) (a':=?_) #[true,true,true,false,true,true,false,false,false,false] rfl rfl (zm HT_.out (by kernel_rfl)) (fun _ _ _ h=>h) (Or.inl ⟨by rfl,?_⟩) ?_ ?_
    rotate_left
    next=>
     intro w';go_simp;with_reducible rfl
    rotate_left
    next=>
     simp only [Act.put,yay,yby,ycy,zX,za]
     rfl
    refine zg (i:=6) (N:=some 23) (v:=?_) (a':=?_) #[true,true,true,false,true,true,true,false,false,false] rfl rfl (zm HT_.out (by kernel_rfl)) (fun _ _ _ h=>h) (Or.inl ⟨by rfl,?_⟩) ?_ ?_
    rotate_left
    next=>
     intro w';go_simp;with_reducible rfl
    rotate_left
    next=>
     simp only [Act.put,yay,yby,ycy,zX,za]
     rfl
    refine ZA (i:=3) (N:=some 20) (v:=?_) (a':=?_) #[true,true,true,true,true,true,true,false,false,false] rfl rfl (qm HT_.out HW_.out (by kernel_rfl)) (fun _ _ _ h=>h) (Or.inl ⟨by rfl,?_⟩) hHeld ?_ ?_
    rotate_left
    next=>
     rintro w' ⟨s0,s1⟩
     go_simp;with_reducible rfl
    rotate_left
    next=>
     simp only [Act.put,yay,yby,ycy,zX,za]
     rfl
    refine ZA (i:=7) (N:=some 24) (v:=?_) (a':=?_) #[true,true,true,true,true,true,true,true,false,false] rfl rfl (qm HT_.out HW_.out (by kernel_rfl)) (fun _ _ _ h=>h) (Or.inl ⟨by rfl,?_⟩) hHeld ?_ ?_
    rotate_left
    next=>
     rintro w' ⟨s0,s1⟩
     go_simp;with_reducible rfl
    rotate_left
    next=>
     simp only [Act.put,yay,yby,ycy,zX,za]
     rfl
    refine zA4 (i:=8) (N:=some 25) #[true,true,true,true,true,true,true,true,true,false] rfl rfl (QG HT_.out (by kernel_rfl)) (by decide) (fun K hK=>?_)
    refine QO Try.func89 (by kernel_rfl) rfl #[.slice an (zE l0 aa).length ao,.slice aq (zE l1 aa).length ar] (by rfl) rfl rfl (by(try simp only [yiy,yjy,yky]);first|done|rfl|(simp only [yly,ymy];rfl)) ?_
    with_reducible refine(qO.calls k1 _ _ (zE l0 aa) _ _ (zE l1 aa) false _ ?side1 ?side2 ?side3 ?side4 A7.out).mono ?_
    (case side1=>repeat(first|exact(Kd.qD ai.out HB.out)|(with_reducible refine Kd.zy ?_ _)|(with_reducible refine Kd.qA ?_ _)|(with_reducible refine Kd.qR ?_)))
    (case side2=>exact au.out)
    (case side3=>repeat(first|exact(Kd.qD al.out HB.out)|(with_reducible refine Kd.zy ?_ _)|(with_reducible refine Kd.qA ?_ _)|(with_reducible refine Kd.qR ?_)))
    (case side4=>exact av.out)
    rintro e aW ⟨rfl,hb⟩
    refine⟨_,rfl,?_⟩
    have aA:=zA.mk (zM (by repeat(first|(with_reducible first|exact HB.out|apply zC|apply zB|apply zD)|exact HB.out)) hb)
    clear HB;have HB:=aA;clear aA
    (try clear hb)
    (try clear hb2)
    (try clear hk)
    (try clear hi)
    refine hK.out _ _ ⟨((HB.out.cell (yqy w _ ae)).trans ae),((HB.out.cell (yqy w _ af)).trans af)⟩ (fun hHeld=>?_)
    clear hK K;refine QE (a':=?_) ?_ ?_
    rotate_left
    next=>
     show Act.put _ (some 25) _=_
     simp only [Act.put,yay,yby,ycy,zX,za]
     rfl
    refine zg (i:=9) (N:=some 26) (v:=?_) (a':=?_) #[true,true,true,true,true,true,true,true,true,true] rfl rfl (zm HT_.out (by kernel_rfl)) (fun _ _ _ h=>h) (Or.inl ⟨by rfl,?_⟩) ?_ ?_
    rotate_left
    next=>
     intro w';go_simp;with_reducible rfl
    rotate_left
    next=>
     simp only [Act.put,yay,yby,ycy,zX,za]
     rfl
    refine Qo (Qp HT_.out (by kernel_rfl)) ?_
    try go_wp2
    go_ret;exact⟨by first|rfl|(simp [zU,zV] <;> rfl)|(simp [*,zU,zV] <;> rfl),by repeat(first|(with_reducible first|exact HB.out|apply zC|apply zB|apply zD)|exact HB.out)⟩
   subst c8;rw[if_pos rfl]at H
   have H':=zA.mk H
   clear H;try go_wp2
   have aA:=zA.mk (zD HB.out)
   clear HB;have HB:=aA;clear aA;have aw:0≤(aa:Int):=of_decide_eq_true (by first|(with_reducible assumption)|assumption)
   have ax:aa<(l0.length:Int):=of_decide_eq_true (by first|(with_reducible assumption)|assumption)
   obtain⟨aB,an,ao,aD,ab,ag,ah⟩:=ZY aN.out aa aw ax
   have ae:=ab
   cases aD
   replace ab:=(HB.out.cell (yqy w _ ab)).trans ab
   have ai:=zA.mk ah
   have au:=zA.mk ag
   clear ah ag;replace aw:=eq_true aw
   replace ax:=eq_true ax
   have ay:0≤(aa:Int):=of_decide_eq_true (by first|(with_reducible assumption)|assumption)
   have az:aa<(l1.length:Int):=of_decide_eq_true (by first|(with_reducible assumption)|assumption)
   obtain⟨aC,aq,ar,aE,ad,aj,ak⟩:=ZY aO.out aa ay az
   have af:=ad
   cases aE
   replace ad:=(HB.out.cell (yqy w _ ad)).trans ad
   have al:=zA.mk ak
   have av:=zA.mk aj
   clear ak aj;replace ay:=eq_true ay
   replace az:=eq_true az
   refine Zv (n:=10) (S:=fun w'=>w'.cell? (aB.add (aa).toNat)=some (.slice an (zE l0 aa).length ao)∧w'.cell? (aC.add (aa).toNat)=some (.slice aq (zE l1 aa).length ar)) (ds := []) #[false,false,false,false,false,false,false,false,false,false] (by kernel_rfl) rfl rfl ⟨((HB.out.cell (yqy w _ ae)).trans ae),((HB.out.cell (yqy w _ af)).trans af)⟩ (fun hHeld=>?_);refine Zn qH.tab6 qH.zGn (fun HT_ HW_=>?_)
   generalize wr.drew=w9 at HB ai al ab ad hHeld ⊢
   refine zg (i:=0) (N:=some 17) (v:=?_) (a':=?_) #[true,false,false,false,false,false,false,false,false,false] rfl rfl (zm HT_.out (by kernel_rfl)) (fun _ _ _ h=>h) (Or.inl ⟨by rfl,?_⟩) ?_ ?_
   rotate_left
   next=>
    intro w';go_simp;with_reducible rfl
   rotate_left
   next=>
    simp only [Act.put,yay,yby,ycy,zX,za]
    rfl
   refine zg (i:=1) (N:=some 18) (v:=?_) (a':=?_) #[true,true,false,false,false,false,false,false,false,false] rfl rfl (zm HT_.out (by kernel_rfl)) (fun _ _ _ h=>h) (Or.inl ⟨by rfl,?_⟩) ?_ ?_
   rotate_left
   next=>
    intro w';go_simp;with_reducible rfl
   rotate_left
   next=>
    simp only [Act.put,yay,yby,ycy,zX,za]
    rfl
   refine zg (i:=2) (N:=some 19) (v:=?_) (a':=?_) #[true,true,true,false,false,false,false,false,false,false] rfl rfl (zm HT_.out (by kernel_rfl)) (fun _ _ _ h=>h) (Or.inl ⟨by rfl,?_⟩) ?_ ?_
   rotate_left
   next=>
    intro w';go_simp;with_reducible rfl
   rotate_left
   next=>
    simp only [Act.put,yay,yby,ycy,zX,za]
    rfl
   refine zg (i:=4) (N:=some 21) (v:=?_) (a':=?_) #[true,true,true,false,true,false,false,false,false,false] rfl rfl (zm HT_.out (by kernel_rfl)) (fun _ _ _ h=>h) (Or.inl ⟨by rfl,?_⟩) ?_ ?_
   rotate_left
   next=>
    intro w';go_simp;with_reducible rfl
   rotate_left
   next=>
    simp only [Act.put,yay,yby,ycy,zX,za]
    rfl
   refine zg (i:=5) (N:=some 22) (v:=?_) (a':=?_) #[true,true,true,false,true,true,false,false,false,false] rfl rfl (zm HT_.out (by kernel_rfl)) (fun _ _ _ h=>h) (Or.inl ⟨by rfl,?_⟩) ?_ ?_
   rotate_left
   next=>
    intro w';go_simp;with_reducible rfl
   rotate_left
   next=>
    simp only [Act.put,yay,yby,ycy,zX,za]
    rfl
   refine zg (i:=6) (N:=some 23) (v:=?_) (a':=?_) #[true,true,true,false,true,true,true,false,false,false] rfl rfl (zm HT_.out (by kernel_rfl)) (fun _ _ _ h=>h) (Or.inl ⟨by rfl,?_⟩) ?_ ?_
   rotate_left
   next=>
    intro w';go_simp;with_reducible rfl
   rotate_left
   next=>
    simp only [Act.put,yay,yby,ycy,zX,za]
    rfl
   refine ZA (i:=3) (N:=some 20) (v:=?_) (a':=?_) #[true,true,true,true,true,true,true,false,false,false] rfl rfl (qm HT_.out HW_.out (by kernel_rfl)) (fun _ _ _ h=>h) (Or.inl ⟨by rfl,?_⟩) hHeld ?_ ?_
   rotate_left
   next=>
    rintro w' ⟨s0,s1⟩
    go_simp;with_reducible rfl
   rotate_left
   next=>
    simp only [Act.put,yay,yby,ycy,zX,za]
    rfl
   refine ZA (i:=7) (N:=some 24) (v:=?_) (a':=?_) #[true,true,true,true,true,true,true,true,false,false] rfl rfl (qm HT_.out HW_.out (by kernel_rfl)) (fun _ _ _ h=>h) (Or.inl ⟨by rfl,?_⟩) hHeld ?_ ?_
   rotate_left
   next=>
    rintro w' ⟨s0,s1⟩
    go_simp;with_reducible rfl
   rotate_left
   next=>
    simp only [Act.put,yay,yby,ycy,zX,za]
    rfl
   refine zA4 (i:=8) (N:=some 25) #[true,true,true,true,true,true,true,true,true,false] rfl rfl (QG HT_.out (by kernel_rfl)) (by decide) (fun K hK=>?_)
   refine QO Try.func89 (by kernel_rfl) rfl #[.slice an (zE l0 aa).length ao,.slice aq (zE l1 aa).length ar] (by rfl) rfl rfl (by(try simp only [yiy,yjy,yky]);first|done|rfl|(simp only [yly,ymy];rfl)) ?_
   with_reducible refine(qO.calls k1 _ _ (zE l0 aa) _ _ (zE l1 aa) true _ ?side1 ?side2 ?side3 ?side4 A7.out).mono ?_
   (case side1=>repeat(first|exact(Kd.qD ai.out HB.out)|(with_reducible refine Kd.zy ?_ _)|(with_reducible refine Kd.qA ?_ _)|(with_reducible refine Kd.qR ?_)))
   (case side2=>exact au.out)
   (case side3=>repeat(first|exact(Kd.qD al.out HB.out)|(with_reducible refine Kd.zy ?_ _)|(with_reducible refine Kd.qA ?_ _)|(with_reducible refine Kd.qR ?_)))
   (case side4=>exact av.out)
   rintro e aX ⟨rfl,hb⟩
   refine⟨_,rfl,?_⟩
   have aA:=zA.mk (zM (by repeat(first|(with_reducible first|exact HB.out|apply zC|apply zB|apply zD)|exact HB.out)) hb)
   clear HB;have HB:=aA;clear aA
   (try clear hb)
   (try clear hb2)
   (try clear hk)
   (try clear hi)
   refine hK.out _ _ ⟨((HB.out.cell (yqy w _ ae)).trans ae),((HB.out.cell (yqy w _ af)).trans af)⟩ (fun hHeld=>?_)
   clear hK K;refine QE (a':=?_) ?_ ?_
   rotate_left
   next=>
    show Act.put _ (some 25) _=_
    simp only [Act.put,yay,yby,ycy,zX,za]
    rfl
   refine zg (i:=9) (N:=some 26) (v:=?_) (a':=?_) #[true,true,true,true,true,true,true,true,true,true] rfl rfl (zm HT_.out (by kernel_rfl)) (fun _ _ _ h=>h) (Or.inl ⟨by rfl,?_⟩) ?_ ?_
   rotate_left
   next=>
    intro w';go_simp;with_reducible rfl
   rotate_left
   next=>
    simp only [Act.put,yay,yby,ycy,zX,za]
    rfl
   refine Qo (Qp HT_.out (by kernel_rfl)) ?_
   try go_wp2
   go_roundg k1
   case measure=>have:=aP.out;omega
   case rel=>exact⟨(wrap64 (aa+1)),(by first|rfl|(simp;done)|(simp [*];done)),H',⟨by have:=aP.out;omega⟩,⟨by repeat(first|(with_reducible first|exact HB.out|apply zC|apply zB|apply zD)|exact HB.out)⟩⟩
def qY.f (k:Nat) (l0_0:List (List (zv))) (l1_0:List (List (zv))):Option (Bool):=(qH.f k l0_0 l1_0).bind fun t103=>(if t103=true then(some true)else(some false))
set_option maxHeartbeats 8000000 in
set_option maxRecDepth 100000 in
theorem qY.calls (k:Nat) (ah:Option Addr) (ai:Nat) (ad:List (List (zv))) (an:Option Addr) (ao:Nat) (aj:List (List (zv))) (r:Bool) (w:World) (ax:Kd.C (Kd.slice 75 ZZ) w ah ad.length ad) (ay:ad.length≤ai) (az:Kd.C (Kd.slice 75 ZZ) w an aj.length aj) (aA:aj.length≤ao) (h:qY.f k ad aj=some r) :
    Calls Try.prog 21 #[.agg #[.slice ah ad.length ai],.agg #[.slice an aj.length ao]] w fun e w'=>e = .returned (.bool r)∧Below w.heap.size w w':=by
  have aW:=Try.underlying35
  have aB:=zA.mk ax
  have aC:=zA.mk ay
  clear ax ay;have aD:=zA.mk az
  have aE:=zA.mk aA
  clear az aA;have HB:=zA.mk (ysy w.heap.size w)
  have H:((qH.f k ad aj).bind fun t103=>(if t103=true then(some true)else(some false)))=some r:=h
  clear h;replace H:=ydy.mp H
  obtain⟨t103,aS,H⟩:=H
  replace H:(if t103=true then(some true)else(some false))=some r:=H
  have A3:=zA.mk aS
  clear aS;by_cases c4:t103=true
  · subst c4
    rw[if_pos rfl]at H
    obtain rfl:=yey H
    go_enter Try.func21,Try.ntmps21
    go_wp2_with (first|((with_reducible refine zw (N:=2) rfl ?_);refine zz ?hg (N:=2) ?hd (cs:=#[.slice ah ad.length ai]) (t:=35) ?hr ?_;(case hd=>rfl);(case hg=>rfl);(case hr=>first|(go_simp;done)|(go_simp;rfl));intro ab hg w5 hbox hb;have aq:=zA.mk (zM (by repeat(first|(with_reducible first|exact HB.out|apply zC|apply zB|apply zD)|exact HB.out)) hb);have ar:=zA.mk (hbox);have au:=zA.mk ((by rw[hg];exact(zQ (by repeat(first|(with_reducible first|exact HB.out|apply zC|apply zB|apply zD)|exact HB.out))):w.heap.size≤ab));have aw:=zA.mk ((by rw[hg];exact(zQ (by repeat(first|(with_reducible first|exact HB.out|apply zC|apply zB|apply zD)|exact HB.out))):w.heap.size≤ab));clear HB;have HB:=aq;have aa:=ar;have aF:=au;have af:=aw;clear aq ar au aw;clear hb hbox hg)|((with_reducible refine zw (N:=3) rfl ?_);refine zz ?hg (N:=3) ?hd (cs:=#[.slice an aj.length ao]) (t:=35) ?hr ?_;(case hd=>rfl);(case hg=>rfl);(case hr=>first|(go_simp;done)|(go_simp;rfl));intro ae hg w6 hbox hb;have aq:=zA.mk (zO (g:=ab) (o := .cells #[.slice ah ad.length ai] 35 (0,0)) (by(with_reducible repeat(first|refine zH ?_ _|refine zJ ?_|refine zG ?_ _));exact aa.out) hb);have ar:=zA.mk (zM (by repeat(first|(with_reducible first|exact HB.out|apply zC|apply zB|apply zD|refine zF ?_ af.out)|exact HB.out)) hb);have au:=zA.mk (hbox);have aw:=zA.mk ((by rw[hg];exact(zQ (by repeat(first|(with_reducible first|exact HB.out|apply zC|apply zB|apply zD|refine zF ?_ af.out)|exact HB.out))):w.heap.size≤ae));have aG:=zA.mk ((by rw[hg];exact(zQ (by repeat(first|(with_reducible first|exact HB.out|apply zC|apply zB|apply zD|refine zF ?_ af.out)|exact HB.out))):w.heap.size≤ae));have aH:=zA.mk ((by rw[hg];exact Nat.ne_of_lt (qT (g:=ab) (o := .cells #[.slice ah ad.length ai] 35 (0,0)) (by(with_reducible repeat(first|refine zH ?_ _|refine zJ ?_|refine zG ?_ _));exact aa.out)):ab≠ae));have aI:=zA.mk ((by rw[hg];exact Nat.ne_of_gt (qT (g:=ab) (o := .cells #[.slice ah ad.length ai] 35 (0,0)) (by(with_reducible repeat(first|refine zH ?_ _|refine zJ ?_|refine zG ?_ _));exact aa.out)):ae≠ab));clear aa;clear HB;have aa:=aq;have HB:=ar;have ag:=au;have aJ:=aw;have av:=aG;have ak:=aH;have al:=aI;clear aq ar au aw aG aH aI;clear hb hbox hg;have aX:=ak.out;have aY:=al.out;have aO:w6.cell? ⟨ab,0,none⟩=some (.slice ah ad.length ai):=(zK aa.out 0).trans rfl;have aP:=zP aa.out 0;have aQ:w6.cell? ⟨ae,0,none⟩=some (.slice an aj.length ao):=(zK ag.out 0).trans rfl;have aR:=zP ag.out 0)|((with_reducible refine zd (f:=52) rfl ?_);refine qV (some 9) rfl rfl Try.func52 (by kernel_rfl) rfl #[.slice ah ad.length ai,.slice an aj.length ao] rfl (by(try simp only [yiy,yjy,yky]);first|done|rfl|(simp only [yly,ymy];rfl)) ?_;(with_reducible refine(qH.calls k _ _ ad _ _ aj true _ ?side1 ?side2 ?side3 ?side4 A3.out).mono ?_);(case side1=>repeat(first|exact(Kd.qD aB.out HB.out)|(with_reducible refine Kd.zy ?_ _)|(with_reducible refine Kd.qA ?_ _)|(with_reducible refine Kd.qR ?_)));(case side2=>exact aC.out);(case side3=>repeat(first|exact(Kd.qD aD.out HB.out)|(with_reducible refine Kd.zy ?_ _)|(with_reducible refine Kd.qA ?_ _)|(with_reducible refine Kd.qR ?_)));(case side4=>exact aE.out);rintro e aZ ⟨rfl,hb⟩;refine⟨_,rfl,?_⟩;have aq:=zA.mk (zO (g:=ab) (o := .cells #[.slice ah ad.length ai] 35 (0,0)) (by(with_reducible repeat(first|refine zH ?_ _|refine zJ ?_|refine zG ?_ _));exact aa.out) hb);have ar:=zA.mk (zO (g:=ae) (o := .cells #[.slice an aj.length ao] 35 (0,0)) (by(with_reducible repeat(first|refine zH ?_ _|refine zJ ?_|refine zG ?_ _));exact ag.out) hb);have au:=zA.mk (zM (by repeat(first|(with_reducible first|exact HB.out|apply zC|apply zB|apply zD|refine zF ?_ af.out|refine zF ?_ av.out)|exact HB.out)) hb);clear aa;clear ag;clear HB;have aa:=aq;have ag:=ar;have HB:=au;clear aq ar au;(try clear hb);(try clear hb2);(try clear hk);(try clear hi)))
    go_ret;exact⟨by first|rfl|(simp [zU,zV] <;> rfl)|(simp [*,zU,zV] <;> rfl),by repeat(first|(with_reducible first|exact HB.out|apply zC|apply zB|apply zD|refine zF ?_ af.out|refine zF ?_ av.out)|exact HB.out)⟩
  · replace c4:=Bool.eq_false_iff.mpr c4
    subst c4;rw[if_neg (show ¬ (false=true)by decide)]at H
    obtain rfl:=yey H
    go_enter Try.func21,Try.ntmps21
    go_wp2_with (first|((with_reducible refine zw (N:=2) rfl ?_);refine zz ?hg (N:=2) ?hd (cs:=#[.slice ah ad.length ai]) (t:=35) ?hr ?_;(case hd=>rfl);(case hg=>rfl);(case hr=>first|(go_simp;done)|(go_simp;rfl));intro ab hg a1 hbox hb;have aq:=zA.mk (zM (by repeat(first|(with_reducible first|exact HB.out|apply zC|apply zB|apply zD)|exact HB.out)) hb);have ar:=zA.mk (hbox);have au:=zA.mk ((by rw[hg];exact(zQ (by repeat(first|(with_reducible first|exact HB.out|apply zC|apply zB|apply zD)|exact HB.out))):w.heap.size≤ab));have aw:=zA.mk ((by rw[hg];exact(zQ (by repeat(first|(with_reducible first|exact HB.out|apply zC|apply zB|apply zD)|exact HB.out))):w.heap.size≤ab));clear HB;have HB:=aq;have aa:=ar;have aF:=au;have af:=aw;clear aq ar au aw;clear hb hbox hg)|((with_reducible refine zw (N:=3) rfl ?_);refine zz ?hg (N:=3) ?hd (cs:=#[.slice an aj.length ao]) (t:=35) ?hr ?_;(case hd=>rfl);(case hg=>rfl);(case hr=>first|(go_simp;done)|(go_simp;rfl));intro ae hg aT hbox hb;have aq:=zA.mk (zO (g:=ab) (o := .cells #[.slice ah ad.length ai] 35 (0,0)) (by(with_reducible repeat(first|refine zH ?_ _|refine zJ ?_|refine zG ?_ _));exact aa.out) hb);have ar:=zA.mk (zM (by repeat(first|(with_reducible first|exact HB.out|apply zC|apply zB|apply zD|refine zF ?_ af.out)|exact HB.out)) hb);have au:=zA.mk (hbox);have aw:=zA.mk ((by rw[hg];exact(zQ (by repeat(first|(with_reducible first|exact HB.out|apply zC|apply zB|apply zD|refine zF ?_ af.out)|exact HB.out))):w.heap.size≤ae));have aG:=zA.mk ((by rw[hg];exact(zQ (by repeat(first|(with_reducible first|exact HB.out|apply zC|apply zB|apply zD|refine zF ?_ af.out)|exact HB.out))):w.heap.size≤ae));have aH:=zA.mk ((by rw[hg];exact Nat.ne_of_lt (qT (g:=ab) (o := .cells #[.slice ah ad.length ai] 35 (0,0)) (by(with_reducible repeat(first|refine zH ?_ _|refine zJ ?_|refine zG ?_ _));exact aa.out)):ab≠ae));have aI:=zA.mk ((by rw[hg];exact Nat.ne_of_gt (qT (g:=ab) (o := .cells #[.slice ah ad.length ai] 35 (0,0)) (by(with_reducible repeat(first|refine zH ?_ _|refine zJ ?_|refine zG ?_ _));exact aa.out)):ae≠ab));clear aa;clear HB;have aa:=aq;have HB:=ar;have ag:=au;have aJ:=aw;have av:=aG;have ak:=aH;have al:=aI;clear aq ar au aw aG aH aI;clear hb hbox hg;have aU:=ak.out;have aV:=al.out;have aK:aT.cell? ⟨ab,0,none⟩=some (.slice ah ad.length ai):=(zK aa.out 0).trans rfl;have aL:=zP aa.out 0;have aM:aT.cell? ⟨ae,0,none⟩=some (.slice an aj.length ao):=(zK ag.out 0).trans rfl;have aN:=zP ag.out 0)|((with_reducible refine zd (f:=52) rfl ?_);refine qV (some 9) rfl rfl Try.func52 (by kernel_rfl) rfl #[.slice ah ad.length ai,.slice an aj.length ao] rfl (by(try simp only [yiy,yjy,yky]);first|done|rfl|(simp only [yly,ymy];rfl)) ?_;(with_reducible refine(qH.calls k _ _ ad _ _ aj false _ ?side1 ?side2 ?side3 ?side4 A3.out).mono ?_);(case side1=>repeat(first|exact(Kd.qD aB.out HB.out)|(with_reducible refine Kd.zy ?_ _)|(with_reducible refine Kd.qA ?_ _)|(with_reducible refine Kd.qR ?_)));(case side2=>exact aC.out);(case side3=>repeat(first|exact(Kd.qD aD.out HB.out)|(with_reducible refine Kd.zy ?_ _)|(with_reducible refine Kd.qA ?_ _)|(with_reducible refine Kd.qR ?_)));(case side4=>exact aE.out);rintro e a2 ⟨rfl,hb⟩;refine⟨_,rfl,?_⟩;have aq:=zA.mk (zO (g:=ab) (o := .cells #[.slice ah ad.length ai] 35 (0,0)) (by(with_reducible repeat(first|refine zH ?_ _|refine zJ ?_|refine zG ?_ _));exact aa.out) hb);have ar:=zA.mk (zO (g:=ae) (o := .cells #[.slice an aj.length ao] 35 (0,0)) (by(with_reducible repeat(first|refine zH ?_ _|refine zJ ?_|refine zG ?_ _));exact ag.out) hb);have au:=zA.mk (zM (by repeat(first|(with_reducible first|exact HB.out|apply zC|apply zB|apply zD|refine zF ?_ af.out|refine zF ?_ av.out)|exact HB.out)) hb);clear aa;clear ag;clear HB;have aa:=aq;have ag:=ar;have HB:=au;clear aq ar au;(try clear hb);(try clear hb2);(try clear hk);(try clear hi)))
    go_ret;exact⟨by first|rfl|(simp [zU,zV] <;> rfl)|(simp [*,zU,zV] <;> rfl),by repeat(first|(with_reducible first|exact HB.out|apply zC|apply zB|apply zD|refine zF ?_ af.out|refine zF ?_ av.out)|exact HB.out)⟩
def Qc.f (l0:List (qZ)) (a1:Int):Option (Int):=if(wrap64 (a1-(l0.length:Int)))<0 then(some (-1))else(some (wrap64 (a1-(l0.length:Int))))
set_option maxHeartbeats 8000000 in
set_option maxRecDepth 100000 in
theorem Qc.calls (A0:Option Addr) (c0:Nat) (l0:List (qZ)) (a1:Int) (r:Int) (w:World) (ab:Kd.C Qd w A0 l0.length l0) (ad:l0.length≤c0) (h:Qc.f l0 a1=some r) :
    Calls Try.prog 80 #[.slice A0 l0.length c0,.int .i64 a1] w fun e w'=>e = .returned (.int .i64 r)∧qG w w':=by
  have ae:=zA.mk ab
  have af:=zA.mk ad
  clear ab ad;have H:(if(wrap64 (a1-(l0.length:Int)))<0 then(some (-1))else(some (wrap64 (a1-(l0.length:Int)))))=some r:=h
  clear h;by_cases c3:(wrap64 (a1-(l0.length:Int)))<0
  · rw[if_pos c3]at H
    have aa:decide ((wrap64 (a1-(l0.length:Int)))<0)=true:=ygy c3
    clear c3;obtain rfl:=yey H
    go_enter Try.func80,Try.ntmps80
    go_wp2;go_ret;exact⟨by first|rfl|(simp;done)|(simp [*];done),by repeat(first|exact qG.refl _|apply qG.step)⟩
  · rw[if_neg c3]at H
    have aa:decide ((wrap64 (a1-(l0.length:Int)))<0)=false:=yhy c3
    clear c3;obtain rfl:=yey H
    go_enter Try.func80,Try.ntmps80
    go_wp2;go_ret;exact⟨by first|rfl|(simp;done)|(simp [*];done),by repeat(first|exact qG.refl _|apply qG.step)⟩
def qa.l0:Nat→List (List (qZ))→Int→Int→Option (Int)
  | 0,_,_,_=>none
  | k+1,x0,x1,x5=>if x5<(x0.length:Int)then(if 0≤x5 then((Qc.f (Zb x0 x5) x1).bind fun t102=>(if t102<0 then(some (-1))else(qa.l0 k x0 t102 (wrap64 (x5+1)))))else(none))else(some x1)
def qa.f (k:Nat) (l0:List (List (qZ))) (a1:Int):Option (Int):=if(wrap64 (a1-(l0.length:Int)))<0 then(some (-1))else(qa.l0 k l0 (wrap64 (a1-(l0.length:Int))) 0)
set_option maxHeartbeats 8000000 in
set_option maxRecDepth 100000 in
theorem qa.calls (k:Nat) (A0:Option Addr) (c0:Nat) (l0:List (List (qZ))) (a1:Int) (r:Int) (w:World) (av:Kd.C (Kd.slice 118 Qd) w A0 l0.length l0) (aw:l0.length≤c0) (h:qa.f k l0 a1=some r) :
    Calls Try.prog 46 #[.slice A0 l0.length c0,.int .i64 a1] w fun e w'=>e = .returned (.int .i64 r)∧qG w w':=by
  have ax:=zA.mk av
  have aB:=zA.mk aw
  clear av aw;have H:(if(wrap64 (a1-(l0.length:Int)))<0 then(some (-1))else(qa.l0 k l0 (wrap64 (a1-(l0.length:Int))) 0))=some r:=h
  clear h;by_cases c3:(wrap64 (a1-(l0.length:Int)))<0
  · rw[if_pos c3]at H
    have ao:decide ((wrap64 (a1-(l0.length:Int)))<0)=true:=ygy c3
    clear c3;obtain rfl:=yey H
    go_enter Try.func46,Try.ntmps46
    go_wp2;go_ret;exact⟨by first|rfl|(simp;done)|(simp [*];done),by repeat(first|exact qG.refl _|apply qG.step)⟩
  · rw[if_neg c3]at H
    have ao:decide ((wrap64 (a1-(l0.length:Int)))<0)=false:=yhy c3
    clear c3;have H':=zA.mk H
    clear H;go_enter Try.func46,Try.ntmps46
    go_wp2;go_loopg [1,5] k (fun kq v1 v5 w' => ∃ (ag:Int) (aa:Int),v1 = .int .i64 ag∧v5 = .int .i64 aa∧zA (qa.l0 kq l0 ag aa=some r)∧zA (kq≤k)∧qG w w')
    case atStart=>exact⟨(wrap64 (a1-(l0.length:Int))),(0),(by first|rfl|(simp;done)|(simp [*];done)),(by first|rfl|(simp;done)|(simp [*];done)),H',⟨yry _⟩,by repeat(first|exact qG.refl _|apply qG.step)⟩
    case round=>
      clear H';(try clear p2);(try clear c3);(try clear ao);obtain⟨ag,aa,rfl,rfl,HA,ay,⟨m1,rfl⟩⟩:=hrel
      cases gk with
      | zero=>exact absurd HA.out (by simp [qa.l0])
      | succ k1=>
        have H:=HA.out
        clear HA;simp only [qa.l0]at H
        by_cases c4:aa<(l0.length:Int)
        · rw[if_pos c4]at H
          have ar:decide (aa<(l0.length:Int))=true:=ygy c4
          clear c4;by_cases c5:0≤aa
          · rw[if_pos c5]at H
            have aA:decide (0≤aa)=true:=ygy c5
            clear c5;replace H:=ydy.mp H
            obtain⟨t102,az,H⟩:=H
            replace H:(if t102<0 then(some (-1))else(qa.l0 k1 l0 t102 (wrap64 (aa+1))))=some r:=H
            have A6:=zA.mk az
            clear az;by_cases c7:t102<0
            · rw[if_pos c7]at H
              have au:decide (t102<0)=true:=ygy c7
              clear c7;obtain rfl:=yey H
              have ah:0≤(aa:Int):=of_decide_eq_true (by first|(with_reducible assumption)|assumption)
              have ai:aa<(l0.length:Int):=of_decide_eq_true (by first|(with_reducible assumption)|assumption)
              obtain⟨aq,aj,ak,an,al,ab,ad⟩:=zAx ax.out aa ah ai
              cases an
              have ae:=zA.mk ad
              have af:=zA.mk ab
              clear ad ab;replace ah:=eq_true ah
              replace ai:=eq_true ai
              go_wp2_with (first|((with_reducible refine zd (f:=80) rfl ?_);refine qV (some 23) rfl rfl Try.func80 (by kernel_rfl) rfl #[.slice aj (Zb l0 aa).length ak,.int .i64 ag] rfl (by(try simp only [yiy,yjy,yky]);first|done|rfl|(simp only [yly,ymy];rfl)) ?_;(with_reducible refine(Qc.calls _ _ (Zb l0 aa) ag t102 _ ?side1 ?side2 A6.out).mono ?_);(case side1=>repeat(first|exact ae.out|(with_reducible refine Kd.zy ?_ _)|(with_reducible refine Kd.qA ?_ _)|(with_reducible refine Kd.qR ?_)));(case side2=>exact af.out);rintro e w' ⟨rfl,⟨nd,rfl⟩⟩;refine⟨_,rfl,?_⟩))
              go_ret;exact⟨by first|rfl|(simp;done)|(simp [*];done),by repeat(first|exact qG.refl _|apply qG.step)⟩
            · rw[if_neg c7]at H
              have au:decide (t102<0)=false:=yhy c7
              clear c7;have H':=zA.mk H
              clear H;have ah:0≤(aa:Int):=of_decide_eq_true (by first|(with_reducible assumption)|assumption)
              have ai:aa<(l0.length:Int):=of_decide_eq_true (by first|(with_reducible assumption)|assumption)
              obtain⟨aq,aj,ak,an,al,ab,ad⟩:=zAx ax.out aa ah ai
              cases an
              have ae:=zA.mk ad
              have af:=zA.mk ab
              clear ad ab;replace ah:=eq_true ah
              replace ai:=eq_true ai
              go_wp2_with (first|((with_reducible refine zd (f:=80) rfl ?_);refine qV (some 23) rfl rfl Try.func80 (by kernel_rfl) rfl #[.slice aj (Zb l0 aa).length ak,.int .i64 ag] rfl (by(try simp only [yiy,yjy,yky]);first|done|rfl|(simp only [yly,ymy];rfl)) ?_;(with_reducible refine(Qc.calls _ _ (Zb l0 aa) ag t102 _ ?side1 ?side2 A6.out).mono ?_);(case side1=>repeat(first|exact ae.out|(with_reducible refine Kd.zy ?_ _)|(with_reducible refine Kd.qA ?_ _)|(with_reducible refine Kd.qR ?_)));(case side2=>exact af.out);rintro e w' ⟨rfl,⟨nd,rfl⟩⟩;refine⟨_,rfl,?_⟩))
              go_roundg k1
              case measure=>have:=ay.out;omega
              case rel=>exact⟨(t102),(wrap64 (aa+1)),(by first|rfl|(simp;done)|(simp [*];done)),(by first|rfl|(simp;done)|(simp [*];done)),H',⟨by have:=ay.out;omega⟩,by repeat(first|exact qG.refl _|apply qG.step)⟩
          · rw[if_neg c5]at H
            exact absurd H (by simp)
        · rw[if_neg c4]at H
          have ar:decide (aa<(l0.length:Int))=false:=yhy c4
          clear c4;obtain rfl:=yey H
          go_wp2;go_ret;exact⟨by first|rfl|(simp;done)|(simp [*];done),by repeat(first|exact qG.refl _|apply qG.step)⟩
def ZB.f (k:Nat) (l0_0:List (List (qZ))) (a1:Int):Option (Int):=(qa.f k l0_0 a1).bind fun t102=>(if t102<0 then(some (-1))else(some t102))
set_option maxHeartbeats 8000000 in
set_option maxRecDepth 100000 in
theorem ZB.calls (k:Nat) (ad:Option Addr) (ae:Nat) (aa:List (List (qZ))) (a1:Int) (r:Int) (w:World) (ah:Kd.C (Kd.slice 118 Qd) w ad aa.length aa) (ai:aa.length≤ae) (h:ZB.f k aa a1=some r) :
    Calls Try.prog 16 #[.agg #[.slice ad aa.length ae],.int .i64 a1] w fun e w'=>e = .returned (.int .i64 r)∧Below w.heap.size w w':=by
  have aA:=Try.underlying28
  have aj:=zA.mk ah
  have ak:=zA.mk ai
  clear ah ai;have HB:=zA.mk (ysy w.heap.size w)
  have H:((qa.f k aa a1).bind fun t102=>(if t102<0 then(some (-1))else(some t102)))=some r:=h
  clear h;replace H:=ydy.mp H
  obtain⟨t102,az,H⟩:=H
  replace H:(if t102<0 then(some (-1))else(some t102))=some r:=H
  have A3:=zA.mk az
  clear az;by_cases c4:t102<0
  · rw[if_pos c4]at H
    have au:decide (t102<0)=true:=ygy c4
    clear c4;obtain rfl:=yey H
    go_enter Try.func16,Try.ntmps16
    go_wp2_with (first|((with_reducible refine zw (N:=2) rfl ?_);refine zz ?hg (N:=2) ?hd (cs:=#[.slice ad aa.length ae]) (t:=28) ?hr ?_;(case hd=>rfl);(case hg=>rfl);(case hr=>first|(go_simp;done)|(go_simp;rfl));intro ab hg w5 hbox hb;have al:=zA.mk (zM (by repeat(first|(with_reducible first|exact HB.out|apply zC|apply zB|apply zD)|exact HB.out)) hb);have an:=zA.mk (hbox);have ao:=zA.mk ((by rw[hg];exact(zQ (by repeat(first|(with_reducible first|exact HB.out|apply zC|apply zB|apply zD)|exact HB.out))):w.heap.size≤ab));have aq:=zA.mk ((by rw[hg];exact(zQ (by repeat(first|(with_reducible first|exact HB.out|apply zC|apply zB|apply zD)|exact HB.out))):w.heap.size≤ab));clear HB;have HB:=al;have af:=an;have ar:=ao;have ag:=aq;clear al an ao aq;clear hb hbox hg;have av:w5.cell? ⟨ab,0,none⟩=some (.slice ad aa.length ae):=(zK af.out 0).trans rfl;have aw:=zP af.out 0)|((with_reducible refine zd (f:=46) rfl ?_);refine qV (some 8) rfl rfl Try.func46 (by kernel_rfl) rfl #[.slice ad aa.length ae,.int .i64 a1] rfl (by(try simp only [yiy,yjy,yky]);first|done|rfl|(simp only [yly,ymy];rfl)) ?_;(with_reducible refine(qa.calls k _ _ aa a1 t102 _ ?side1 ?side2 A3.out).mono ?_);(case side1=>repeat(first|exact(Kd.qD aj.out HB.out)|(with_reducible refine Kd.zy ?_ _)|(with_reducible refine Kd.qA ?_ _)|(with_reducible refine Kd.qR ?_)));(case side2=>exact ak.out);rintro e w' ⟨rfl,⟨nd,rfl⟩⟩;refine⟨_,rfl,?_⟩))
    go_ret;exact⟨by first|rfl|(simp [zU,zV] <;> rfl)|(simp [*,zU,zV] <;> rfl),by repeat(first|(with_reducible first|exact HB.out|apply zC|apply zB|apply zD|refine zF ?_ ag.out)|exact HB.out)⟩
  · rw[if_neg c4]at H
    have au:decide (t102<0)=false:=yhy c4
    clear c4;obtain rfl:=yey H
    go_enter Try.func16,Try.ntmps16
    go_wp2_with (first|((with_reducible refine zw (N:=2) rfl ?_);refine zz ?hg (N:=2) ?hd (cs:=#[.slice ad aa.length ae]) (t:=28) ?hr ?_;(case hd=>rfl);(case hg=>rfl);(case hr=>first|(go_simp;done)|(go_simp;rfl));intro ab hg w7 hbox hb;have al:=zA.mk (zM (by repeat(first|(with_reducible first|exact HB.out|apply zC|apply zB|apply zD)|exact HB.out)) hb);have an:=zA.mk (hbox);have ao:=zA.mk ((by rw[hg];exact(zQ (by repeat(first|(with_reducible first|exact HB.out|apply zC|apply zB|apply zD)|exact HB.out))):w.heap.size≤ab));have aq:=zA.mk ((by rw[hg];exact(zQ (by repeat(first|(with_reducible first|exact HB.out|apply zC|apply zB|apply zD)|exact HB.out))):w.heap.size≤ab));clear HB;have HB:=al;have af:=an;have ar:=ao;have ag:=aq;clear al an ao aq;clear hb hbox hg;have ax:w7.cell? ⟨ab,0,none⟩=some (.slice ad aa.length ae):=(zK af.out 0).trans rfl;have ay:=zP af.out 0)|((with_reducible refine zd (f:=46) rfl ?_);refine qV (some 8) rfl rfl Try.func46 (by kernel_rfl) rfl #[.slice ad aa.length ae,.int .i64 a1] rfl (by(try simp only [yiy,yjy,yky]);first|done|rfl|(simp only [yly,ymy];rfl)) ?_;(with_reducible refine(qa.calls k _ _ aa a1 t102 _ ?side1 ?side2 A3.out).mono ?_);(case side1=>repeat(first|exact(Kd.qD aj.out HB.out)|(with_reducible refine Kd.zy ?_ _)|(with_reducible refine Kd.qA ?_ _)|(with_reducible refine Kd.qR ?_)));(case side2=>exact ak.out);rintro e w' ⟨rfl,⟨nd,rfl⟩⟩;refine⟨_,rfl,?_⟩))
    go_ret;exact⟨by first|rfl|(simp [zU,zV] <;> rfl)|(simp [*,zU,zV] <;> rfl),by repeat(first|(with_reducible first|exact HB.out|apply zC|apply zB|apply zD|refine zF ?_ ag.out)|exact HB.out)⟩
def Je.f (a0_0:Int) (a0_1:Int):Option (Int × Int):=some (a0_0,a0_1)
set_option maxHeartbeats 8000000 in
set_option maxRecDepth 100000 in
theorem Je.calls (af:Int) (ai:Int) (r1:Int) (r2:Int) (w:World) (h:Je.f af ai=some (r1,r2)) :
    Calls Try.prog 118 #[.agg #[.int .i64 af,.int .i64 ai]] w fun e w'=>e = .returned (.agg #[.int .i64 r1,.int .i64 r2])∧Below w.heap.size w w':=by
  have aP:=Try.underlying118
  have aW:=Try.underlying75
  have HB:=zA.mk (ysy w.heap.size w)
  have H:(some (af,ai))=some (r1,r2):=h
  clear h;simp only [Option.some.injEq,Prod.mk.injEq]at H
  obtain⟨rfl,rfl⟩:=H
  go_enter Try.func118,Try.ntmps118
  go_wp2_with (first|((with_reducible refine zw (N:=1) rfl ?_);refine zz ?hg (N:=1) ?hd (cs:=#[.int .i64 af,.int .i64 ai]) (t:=118) ?hr ?_;(case hd=>rfl);(case hg=>rfl);(case hr=>first|(go_simp;done)|(go_simp;rfl));intro aa hg w2 hbox hb;have av:=zA.mk (zM (by repeat(first|(with_reducible first|exact HB.out|apply zC|apply zB|apply zD)|exact HB.out)) hb);have aw:=zA.mk (hbox);have ax:=zA.mk ((by rw[hg];exact(zQ (by repeat(first|(with_reducible first|exact HB.out|apply zC|apply zB|apply zD)|exact HB.out))):w.heap.size≤aa));have ay:=zA.mk ((by rw[hg];exact(zQ (by repeat(first|(with_reducible first|exact HB.out|apply zC|apply zB|apply zD)|exact HB.out))):w.heap.size≤aa));clear HB;have HB:=av;have ab:=aw;have aQ:=ax;have aj:=ay;clear av aw ax ay;clear hb hbox hg)|((with_reducible refine zw (N:=2) rfl ?_);refine zz ?hg (N:=2) ?hd (cs:=#[.int .i64 0,.int .i64 0]) (t:=75) ?hr ?_;(case hd=>rfl);(case hg=>rfl);(case hr=>first|(go_simp;done)|(go_simp;rfl));intro ad hg w3 hbox hb;have av:=zA.mk (zO (g:=aa) (o := .cells #[.int .i64 af,.int .i64 ai] 118 (0,0)) (by(with_reducible repeat(first|refine zH ?_ _|refine zJ ?_|refine zG ?_ _));exact ab.out) hb);have aw:=zA.mk (zM (by repeat(first|(with_reducible first|exact HB.out|apply zC|apply zB|apply zD|refine zF ?_ aj.out)|exact HB.out)) hb);have ax:=zA.mk (hbox);have ay:=zA.mk ((by rw[hg];exact(zQ (by repeat(first|(with_reducible first|exact HB.out|apply zC|apply zB|apply zD|refine zF ?_ aj.out)|exact HB.out))):w.heap.size≤ad));have az:=zA.mk ((by rw[hg];exact(zQ (by repeat(first|(with_reducible first|exact HB.out|apply zC|apply zB|apply zD|refine zF ?_ aj.out)|exact HB.out))):w.heap.size≤ad));have aA:=zA.mk ((by rw[hg];exact Nat.ne_of_lt (qT (g:=aa) (o := .cells #[.int .i64 af,.int .i64 ai] 118 (0,0)) (by(with_reducible repeat(first|refine zH ?_ _|refine zJ ?_|refine zG ?_ _));exact ab.out)):aa≠ad));have aB:=zA.mk ((by rw[hg];exact Nat.ne_of_gt (qT (g:=aa) (o := .cells #[.int .i64 af,.int .i64 ai] 118 (0,0)) (by(with_reducible repeat(first|refine zH ?_ _|refine zJ ?_|refine zG ?_ _));exact ab.out)):ad≠aa));clear ab;clear HB;have ab:=av;have HB:=aw;have ae:=ax;have aR:=ay;have ak:=az;have an:=aA;have ao:=aB;clear av aw ax ay az aA aB;clear hb hbox hg)|((with_reducible refine zw (N:=3) rfl ?_);refine zz ?hg (N:=3) ?hd (cs:=#[.int .i64 0,.int .i64 0]) (t:=75) ?hr ?_;(case hd=>rfl);(case hg=>rfl);(case hr=>first|(go_simp;done)|(go_simp;rfl));intro ah hg w4 hbox hb;have av:=zA.mk (zO (g:=aa) (o := .cells #[.int .i64 af,.int .i64 ai] 118 (0,0)) (by(with_reducible repeat(first|refine zH ?_ _|refine zJ ?_|refine zG ?_ _));exact ab.out) hb);have aw:=zA.mk (zO (g:=ad) (o := .cells #[.int .i64 0,.int .i64 0] 75 (0,0)) (by(with_reducible repeat(first|refine zH ?_ _|refine zJ ?_|refine zG ?_ _));exact ae.out) hb);have ax:=zA.mk (zM (by repeat(first|(with_reducible first|exact HB.out|apply zC|apply zB|apply zD|refine zF ?_ aj.out|refine zF ?_ ak.out)|exact HB.out)) hb);have ay:=zA.mk (hbox);have az:=zA.mk ((by rw[hg];exact(zQ (by repeat(first|(with_reducible first|exact HB.out|apply zC|apply zB|apply zD|refine zF ?_ aj.out|refine zF ?_ ak.out)|exact HB.out))):w.heap.size≤ah));have aA:=zA.mk ((by rw[hg];exact(zQ (by repeat(first|(with_reducible first|exact HB.out|apply zC|apply zB|apply zD|refine zF ?_ aj.out|refine zF ?_ ak.out)|exact HB.out))):w.heap.size≤ah));have aB:=zA.mk ((by rw[hg];exact Nat.ne_of_lt (qT (g:=aa) (o := .cells #[.int .i64 af,.int .i64 ai] 118 (0,0)) (by(with_reducible repeat(first|refine zH ?_ _|refine zJ ?_|refine zG ?_ _));exact ab.out)):aa≠ah));have aS:=zA.mk ((by rw[hg];exact Nat.ne_of_gt (qT (g:=aa) (o := .cells #[.int .i64 af,.int .i64 ai] 118 (0,0)) (by(with_reducible repeat(first|refine zH ?_ _|refine zJ ?_|refine zG ?_ _));exact ab.out)):ah≠aa));have aT:=zA.mk ((by rw[hg];exact Nat.ne_of_lt (qT (g:=ad) (o := .cells #[.int .i64 0,.int .i64 0] 75 (0,0)) (by(with_reducible repeat(first|refine zH ?_ _|refine zJ ?_|refine zG ?_ _));exact ae.out)):ad≠ah));have aU:=zA.mk ((by rw[hg];exact Nat.ne_of_gt (qT (g:=ad) (o := .cells #[.int .i64 0,.int .i64 0] 75 (0,0)) (by(with_reducible repeat(first|refine zH ?_ _|refine zJ ?_|refine zG ?_ _));exact ae.out)):ah≠ad));clear ab;clear ae;clear HB;have ab:=av;have ae:=aw;have HB:=ax;have al:=ay;have aV:=az;have aC:=aA;have aq:=aB;have ar:=aS;have ag:=aT;have au:=aU;clear av aw ax ay az aA aB aS aT aU;clear hb hbox hg;have aX:=an.out;have aY:=ao.out;have aZ:=aq.out;have a1:=ar.out;have aH:w4.cell? ⟨aa,0,none⟩=some (.int .i64 af):=(zK ab.out 0).trans rfl;have aI:w4.cell? ⟨aa,1,none⟩=some (.int .i64 ai):=(zK ab.out 1).trans rfl;have aJ:=zP ab.out 0;have aK:=zP ab.out 1;have a2:=au.out;have a5:=ag.out;have aL:w4.cell? ⟨ah,0,none⟩=some (.int .i64 0):=(zK al.out 0).trans rfl;have aM:w4.cell? ⟨ah,1,none⟩=some (.int .i64 0):=(zK al.out 1).trans rfl;have aN:=zP al.out 0;have aO:=zP al.out 1;have aD:w4.cell? ⟨ad,0,none⟩=some (.int .i64 0):=(zK ae.out 0).trans rfl;have aE:w4.cell? ⟨ad,1,none⟩=some (.int .i64 0):=(zK ae.out 1).trans rfl;have aF:=zP ae.out 0;have aG:=zP ae.out 1))
  refine bodyPost_ret (results_cell_row rfl _ _ ad 75 #[.int .i64 af,.int .i64 ai] (0,0) _ rfl (by(with_reducible repeat(first|refine zH ?_ _|refine zJ ?_|refine zG ?_ _));refine qf (cs:=#[.int .i64 af,.int .i64 0]) ?_ 1 _ rfl;(with_reducible repeat(first|refine zH ?_ _|refine zJ ?_|refine zG ?_ _));refine qf (cs:=#[.int .i64 0,.int .i64 0]) ?_ 0 _ rfl;(with_reducible repeat(first|refine zH ?_ _|refine zJ ?_|refine zG ?_ _));refine qJ ?_ ag.out _;(with_reducible repeat(first|refine zH ?_ _|refine zJ ?_|refine zG ?_ _));refine qJ ?_ ag.out _;(with_reducible repeat(first|refine zH ?_ _|refine zJ ?_|refine zG ?_ _));exact ae.out) Try.underlying75 rfl (by kernel_rfl)) rfl ?_
  exact⟨by first|rfl|(simp [zU,zV] <;> rfl)|(simp [*,zU,zV] <;> rfl),by repeat(first|(with_reducible first|exact HB.out|apply zC|apply zB|apply zD|refine zF ?_ aj.out|refine zF ?_ ak.out|refine zF ?_ aC.out)|exact HB.out)⟩
def qn.l0:Nat→List (qZ)→List (zv)→Int→Option ((List (zv)))
  | 0,_,_,_=>none
  | k+1,x0,x3,x4=>if x4<(x0.length:Int)then(if 0≤x4 then((Je.f ((QV x0 x4).f0) ((QV x0 x4).f1)).bind fun bt105=>(if x4<(x3.length:Int)then(qn.l0 k x0 (x3.set (x4:Int).toNat (⟨bt105.1,bt105.2⟩:zv)) (wrap64 (x4+1)))else(none)))else(none))else(some x3)
def qn.f (k:Nat) (l0:List (qZ)):Option ((List (zv))):=if 0≤(l0.length:Int)then(if((l0.length:Int):Int).toNat≤17592186044416 then(qn.l0 k l0 (List.replicate ((l0.length:Int):Int).toNat zB9) 0)else(none))else(none)
set_option maxHeartbeats 8000000 in
set_option maxRecDepth 100000 in
theorem qn.calls (k:Nat) (A0:Option Addr) (c0:Nat) (l0:List (qZ)) (r:List (zv)) (w:World) (ba:Kd.C Qd w A0 l0.length l0) (bb:l0.length≤c0) (h:qn.f k l0=some r) :
    Calls Try.prog 85 #[.slice A0 l0.length c0] w fun e w' => ∃ bc:Value,e = .returned (bc)∧Kd.R ZZ 75 w' w.heap.size (fun _=>True) bc r∧Below w.heap.size w w':=by
  have bd:=Try.underlying118
  have bj:=Try.underlying75
  have bk:=zA.mk ba
  have br:=zA.mk bb
  clear ba bb;have HB:=zA.mk (ysy w.heap.size w)
  have H:(if 0≤(l0.length:Int)then(if((l0.length:Int):Int).toNat≤17592186044416 then(qn.l0 k l0 (List.replicate ((l0.length:Int):Int).toNat zB9) 0)else(none))else(none))=some r:=h
  clear h;by_cases c2:0≤(l0.length:Int)
  · rw[if_pos c2]at H
    have aS:=eq_true c2
    have aT:decide (0≤(l0.length:Int))=true:=ygy c2
    clear c2;by_cases c3:((l0.length:Int):Int).toNat≤17592186044416
    · rw[if_pos c3]at H
      have aU:=eq_true c3
      have aV:decide (((l0.length:Int):Int).toNat≤17592186044416)=true:=ygy c3
      clear c3;obtain⟨aF,ah⟩ : ∃ y_:List (zv),y_=(List.replicate ((l0.length:Int):Int).toNat zB9):=⟨_,rfl⟩
      replace H:(qn.l0 k l0 aF 0)=some r:=by first|(rw[ah];with_reducible exact H)|(have av:=(yfy _ _).symm.trans H;rw[ah];with_reducible exact av)|(have av:=(yfy _ _).symm.trans H;with_reducible exact av)|with_reducible exact H|(rw[ah];exact H)|exact H
      have ao:=zA.mk ah
      clear ah;have H':=zA.mk H
      clear H;go_enter Try.func85,Try.ntmps85
      go_wp2_with (first|((with_reducible refine zw (N:=7) rfl ?_);refine Kd.zDr ZZ _ 75 rfl (N:=7) rfl 76 _ _ rfl (l0.length:Int) rfl rfl Try.underlying76 (.agg #[(.int .i64 0),(.int .i64 0)]) 16 info75 rfl (by decide) (by omega) zB9 (ok:=fun _=>True) (okp:=fun _=>True) (zE0 _ _ _ zB9 ) (fun _ hk=>hk) trivial (of_decide_eq_true (by first|(with_reducible assumption)|assumption)) (Nat.le_trans (Nat.mul_le_mul_right _ (of_decide_eq_true (by first|(with_reducible assumption)|assumption):(l0.length:Int).toNat≤17592186044416)) (by omega)) (ysy _ _) (yry _) ?_;intro aW w4 aG hb hg_ hnew_;clear hg_ hnew_;(first|rw[← ao.out]at aG|(simp only [Int.reduceToNat]at aG;rw[← ao.out]at aG));have aq:=zA.mk (Kd.qx aG (zQ (by repeat(first|(with_reducible first|exact HB.out|apply zC|apply zB|apply zD)|exact HB.out))));have ar:=zA.mk (zM (by repeat(first|(with_reducible first|exact HB.out|apply zC|apply zB|apply zD)|exact HB.out)) hb);clear HB;have aH:=aq;have HB:=ar;clear aq ar;clear hb aG))
      go_loopg [4] k (fun kq v4 w' => ∃ (ab:List (zv)) (aa:Int),v4 = .int .i64 aa∧zA (qn.l0 kq l0 ab aa=some r)∧zA (kq≤k)∧zA (Kd.R ZZ 75 w' w.heap.size (fun _=>True) aW ab)∧zA (Below w.heap.size w w'))
      case atStart=>exact⟨(aF),(0),(by first|rfl|(simp;done)|(simp [*];done)),H',⟨yry _⟩,⟨by(with_reducible repeat(first|apply Kd.zS|apply Kd.zT|apply Kd.zZ));exact aH.out⟩,⟨by repeat(first|(with_reducible first|exact HB.out|apply zC|apply zB|apply zD)|exact HB.out)⟩⟩
      case round=>
        clear H';(try clear c2);(try clear aS);(try clear aT);(try clear p2);(try clear c3);(try clear aU);(try clear aV);obtain⟨ab,aa,rfl,HA,bf,ad,HB⟩:=hrel
        cases gk with
        | zero=>exact absurd HA.out (by simp [qn.l0])
        | succ k1=>
          have H:=HA.out
          clear HA;simp only [qn.l0]at H
          by_cases c6:aa<(l0.length:Int)
          · rw[if_pos c6]at H
            have aX:decide (aa<(l0.length:Int))=true:=ygy c6
            clear c6;by_cases c7:0≤aa
            · rw[if_pos c7]at H
              have bl:decide (0≤aa)=true:=ygy c7
              clear c7;replace H:=ydy.mp H
              obtain⟨⟨t105,t106⟩,bg,H⟩:=H
              replace H:(if aa<(ab.length:Int)then(qn.l0 k1 l0 (ab.set (aa:Int).toNat (⟨t105,t106⟩:zv)) (wrap64 (aa+1)))else(none))=some r:=H
              have A8:=zA.mk bg
              clear bg;by_cases c9:aa<(ab.length:Int)
              · rw[if_pos c9]at H
                have bm:decide (aa<(ab.length:Int))=true:=ygy c9
                clear c9;obtain⟨aw,ai⟩ : ∃ y_:List (zv),y_=(ab.set (aa:Int).toNat (⟨t105,t106⟩:zv)):=⟨_,rfl⟩
                replace H:(qn.l0 k1 l0 aw (wrap64 (aa+1)))=some r:=by first|(rw[ai];with_reducible exact H)|(have av:=(yfy _ _).symm.trans H;rw[ai];with_reducible exact av)|(have av:=(yfy _ _).symm.trans H;with_reducible exact av)|with_reducible exact H|(rw[ai];exact H)|exact H
                have aI:=zA.mk ai
                clear ai;have H':=zA.mk H
                clear H;have ax:0≤(aa:Int):=of_decide_eq_true (by first|(with_reducible assumption)|assumption)
                have ay:aa<(l0.length:Int):=of_decide_eq_true (by first|(with_reducible assumption)|assumption)
                obtain⟨bh,aY,ae,af⟩:=zFw bk.out aa ax ay
                cases aY
                replace ae:=(HB.out.cell (yqy w _ ae)).trans ae
                replace af:=(HB.out.cell (yqy w _ af)).trans af
                replace ax:=eq_true ax
                replace ay:=eq_true ay
                go_wp2_with (first|((with_reducible refine zd (f:=118) rfl ?_);refine qV (some 20) rfl rfl Try.func118 (by kernel_rfl) rfl #[.agg #[.int .i64 ((QV l0 aa).f0),.int .i64 ((QV l0 aa).f1)]] rfl (by(try simp only [yiy,yjy,yky]);first|done|rfl|(simp only [yly,ymy];rfl)) ?_;(with_reducible refine(Je.calls ((QV l0 aa).f0) ((QV l0 aa).f1) t105 t106 _ A8.out).mono ?_);rintro e az ⟨rfl,hb⟩;refine⟨_,rfl,?_⟩;have aq:=zA.mk (Kd.qN (by(with_reducible repeat(first|apply Kd.zS|apply Kd.zT|apply Kd.zZ));exact ad.out) hb);have ar:=zA.mk (zM (by repeat(first|(with_reducible first|exact HB.out|apply zC|apply zB|apply zD)|exact HB.out)) hb);clear ad;clear HB;have ad:=aq;have HB:=ar;clear aq ar;(try clear hb);(try clear hb2);(try clear hk);(try clear hi);have aZ:0≤(aa:Int):=of_decide_eq_true (by first|(with_reducible assumption)|assumption);have a1:(aa:Int)<((ab.length:Int):Int):=of_decide_eq_true (by first|(with_reducible assumption)|assumption);obtain⟨ag,aJ,aK,aL,a2,bn,aM⟩:=Kd.Jw ad.out (by omega);(first|cases aK|(injection aK with ea_ en_ ec_;(first|subst ea_|(injection ea_ with ea_;subst ea_));subst ec_;clear en_));have aN:=zA.mk aL;have bo:=zA.mk aM;clear aL a2 aM;obtain⟨bp,aO,aP,ak,al⟩:=Kd.zF8 ad.out zB9 (aa:Int) aZ a1;obtain rfl:=zCH aP;have a5:az.cell? ⟨ag,(aa:Int).toNat*2,none⟩=some (.int .i64 ((zI ab aa).f0)):=ak 0 _ rfl;have a6:az.cell? ⟨ag,(aa:Int).toNat*2+1,none⟩=some (.int .i64 ((zI ab aa).f1)):=ak 1 _ rfl;have a7:az.frozen? ⟨ag,(aa:Int).toNat*2,none⟩=false:=al 0;have a8:az.frozen? ⟨ag,(aa:Int).toNat*2+1,none⟩=false:=al 1;clear aO ak al;(try clear aP);replace aZ:=eq_true aZ;replace a1:=eq_true a1;have aQ:=zA.mk (show Kd.R ZZ 75 az w.heap.size (fun _=>True) (.slice (some ⟨ag,0,none⟩) ab.length aJ) ab from(by(with_reducible repeat(first|apply Kd.zS|apply Kd.zT|apply Kd.zZ));exact ad.out));obtain⟨bq,au,aR,aj,an⟩:=Kd.zF8 aQ.out zB9 (aa:Int) (of_decide_eq_true (by first|(with_reducible assumption)|assumption)) (by have h_:(aa:Int)<((ab.length:Int):Int):=of_decide_eq_true (by first|(with_reducible assumption)|assumption);first|exact h_|(have e_:=(Kd.zq ad.out).1;omega)|simpa using h_);obtain rfl:=zCH aR;have aA:=Kd.R_seg aQ.out (aa:Int) (of_decide_eq_true (by first|(with_reducible assumption)|assumption)) (by have h_:(aa:Int)<((ab.length:Int):Int):=of_decide_eq_true (by first|(with_reducible assumption)|assumption);first|exact h_|(have e_:=(Kd.zq ad.out).1;omega)|simpa using h_) (seg := [.int .i64 t105,.int .i64 t106]) (j:=0) au aj (show 2≤2 from by decide) (x':=(⟨t105,t106⟩:zv)) (zE0 _ _ _ (⟨t105,t106⟩:zv) ) (fun _ hk=>hk);have aB:=aj 0 _ rfl;(try simp only [show(ZZ).sz=2 from rfl,Nat.mul_one,Nat.add_zero]at aB);have aC:=an 0;(try simp only [show(ZZ).sz=2 from rfl,Nat.mul_one,Nat.add_zero]at aC);have aD:=aj 1 _ rfl;(try simp only [show(ZZ).sz=2 from rfl,Nat.mul_one,Nat.add_zero]at aD);have aE:=an 1;(try simp only [show(ZZ).sz=2 from rfl,Nat.mul_one,Nat.add_zero]at aE);clear au aj an aR)|((with_reducible refine Zi (t:=75) (p:=21) rfl ?_);refine ZU (t:=75) (p:=21) (v:=?vo_w13) (w1:=((az.setCell ⟨ag,(aa:Int).toNat*2,none⟩ (.int .i64 t105)).setCell ⟨ag,(aa:Int).toNat*2+1,none⟩ (.int .i64 t106))) ?hg ?ho ?hn ?hr ?_;(case ho=>rfl);(case hg=>rfl);(case hn=>rfl);(case hr=>first|(go_simp;done)|(go_simp;rfl));intro a_ hw;have hg:az.grownBy a_ (some ag):=(by rw[hw];exact aA.2);have hp_:Kd.R ZZ 75 a_ w.heap.size (fun _=>True) (.slice (some ⟨ag,0,none⟩) ab.length aJ) aw:=(by rw[hw,aI.out];exact aA.1);clear aA;have aq:=zA.mk (hp_);have ar:=zA.mk ((by rw[hw];exact zF (zF (HB.out) aN.out) aN.out:Below w.heap.size w a_));clear ad;clear HB;have ad:=aq;have HB:=ar;clear aq ar;clear hg hw hp_))
                go_roundg k1
                case measure=>have:=bf.out;omega
                case rel=>exact⟨(aw),(wrap64 (aa+1)),(by first|rfl|(simp;done)|(simp [*];done)),H',⟨by have:=bf.out;omega⟩,⟨by(with_reducible repeat(first|apply Kd.zS|apply Kd.zT|apply Kd.zZ));exact ad.out⟩,⟨by repeat(first|(with_reducible first|exact HB.out|apply zC|apply zB|apply zD)|exact HB.out)⟩⟩
              · rw[if_neg c9]at H
                exact absurd H (by simp)
            · rw[if_neg c7]at H
              exact absurd H (by simp)
          · rw[if_neg c6]at H
            have aX:decide (aa<(l0.length:Int))=false:=yhy c6
            clear c6;obtain rfl:=yey H
            go_wp2;go_ret;exact⟨_,by first|rfl|(simp [zU,zV] <;> rfl)|(simp [*,zU,zV] <;> rfl),by(with_reducible repeat(first|apply Kd.zS|apply Kd.zT|apply Kd.zZ));exact ad.out,by repeat(first|(with_reducible first|exact HB.out|apply zC|apply zB|apply zD)|exact HB.out)⟩
    · rw[if_neg c3]at H
      exact absurd H (by simp)
  · rw[if_neg c2]at H
    exact absurd H (by simp)
def qh.l0:Nat→List (List (qZ))→List (List (zv))→Int→Option ((List (List (zv))))
  | 0,_,_,_=>none
  | k+1,x0,x3,x4=>if x4<(x0.length:Int)then(if 0≤x4 then((qn.f k (Zb x0 x4)).bind fun t105=>(if x4<(x3.length:Int)then(qh.l0 k x0 (x3.set (x4:Int).toNat t105) (wrap64 (x4+1)))else(none)))else(none))else(some x3)
def qh.f (k:Nat) (l0:List (List (qZ))):Option ((List (List (zv)))):=if 0≤(l0.length:Int)then(if((l0.length:Int):Int).toNat≤11728124029610 then(qh.l0 k l0 (List.replicate ((l0.length:Int):Int).toNat []) 0)else(none))else(none)
set_option maxHeartbeats 8000000 in
set_option maxRecDepth 100000 in
theorem qh.calls (k:Nat) (A0:Option Addr) (c0:Nat) (l0:List (List (qZ))) (r:List (List (zv))) (w:World) (bm:Kd.C (Kd.slice 118 Qd) w A0 l0.length l0) (bn:l0.length≤c0) (h:qh.f k l0=some r) :
    Calls Try.prog 49 #[.slice A0 l0.length c0] w fun e w' => ∃ bo:Value,e = .returned (bo)∧Kd.S (Kd.slice 75 ZZ) 76 w' w.heap.size (fun _=>True) bo r∧Below w.heap.size w w':=by
  have bu:=zA.mk bm
  have bD:=zA.mk bn
  clear bm bn;have HB:=zA.mk (ysy w.heap.size w)
  have H:(if 0≤(l0.length:Int)then(if((l0.length:Int):Int).toNat≤11728124029610 then(qh.l0 k l0 (List.replicate ((l0.length:Int):Int).toNat []) 0)else(none))else(none))=some r:=h
  clear h;by_cases c2:0≤(l0.length:Int)
  · rw[if_pos c2]at H
    have aY:=eq_true c2
    have aZ:decide (0≤(l0.length:Int))=true:=ygy c2
    clear c2;by_cases c3:((l0.length:Int):Int).toNat≤11728124029610
    · rw[if_pos c3]at H
      have a1:=eq_true c3
      have a2:decide (((l0.length:Int):Int).toNat≤11728124029610)=true:=ygy c3
      clear c3;obtain⟨aL,af⟩ : ∃ y_:List (List (zv)),y_=(List.replicate ((l0.length:Int):Int).toNat []):=⟨_,rfl⟩
      replace H:(qh.l0 k l0 aL 0)=some r:=by first|(rw[af];with_reducible exact H)|(have aA:=(yfy _ _).symm.trans H;rw[af];with_reducible exact aA)|(have aA:=(yfy _ _).symm.trans H;with_reducible exact aA)|with_reducible exact H|(rw[af];exact H)|exact H
      have ar:=zA.mk af
      clear af;have H':=zA.mk H
      clear H;go_enter Try.func49,Try.ntmps49
      go_wp2_with (first|((with_reducible refine zw (N:=7) rfl ?_);refine Kd.S_make (Kd.slice 75 ZZ) _ 76 rfl (N:=7) rfl 33 _ _ rfl (l0.length:Int) rfl rfl Try.underlying33 (.slice none 0 0) 24 info76 rfl (by decide) (by omega) [] (ok:=fun _=>True) (okp:=fun _=>True) ⟨_,rfl,Kd.zD6 _ _ _ _ _⟩ (fun _ hk=>hk) trivial (of_decide_eq_true (by first|(with_reducible assumption)|assumption)) (Nat.le_trans (Nat.mul_le_mul_right _ (of_decide_eq_true (by first|(with_reducible assumption)|assumption):(l0.length:Int).toNat≤11728124029610)) (by omega)) (ysy _ _) (yry _) ?_;intro a5 w4 aM hb hg_ hnew_;clear hg_ hnew_;(first|rw[← ar.out]at aM|(simp only [Int.reduceToNat]at aM;rw[← ar.out]at aM));have au:=zA.mk (Kd.QA aM (zQ (by repeat(first|(with_reducible first|exact HB.out|apply zC|apply zB|apply zD)|exact HB.out))));have av:=zA.mk (zM (by repeat(first|(with_reducible first|exact HB.out|apply zC|apply zB|apply zD)|exact HB.out)) hb);clear HB;have aN:=au;have HB:=av;clear au av;clear hb aM))
      go_loopg [4] k (fun kq v4 w' => ∃ (ad:List (List (zv))) (aa:Int),v4 = .int .i64 aa∧zA (qh.l0 kq l0 ad aa=some r)∧zA (kq≤k)∧zA (Kd.S (Kd.slice 75 ZZ) 76 w' w.heap.size (fun _=>True) a5 ad)∧zA (Below w.heap.size w w'))
      case atStart=>exact⟨(aL),(0),(by first|rfl|(simp;done)|(simp [*];done)),H',⟨yry _⟩,⟨by(with_reducible repeat(first|apply Kd.zh|apply Kd.zi|apply Kd.zx));exact aN.out⟩,⟨by repeat(first|(with_reducible first|exact HB.out|apply zC|apply zB|apply zD)|exact HB.out)⟩⟩
      case round=>
        clear H';(try clear c2);(try clear aY);(try clear aZ);(try clear p2);(try clear c3);(try clear a1);(try clear a2);(try clear c4);obtain⟨ad,aa,rfl,HA,bp,ab,HB⟩:=hrel
        cases gk with
        | zero=>exact absurd HA.out (by simp [qh.l0])
        | succ k1=>
          have H:=HA.out
          clear HA;simp only [qh.l0]at H
          by_cases c6:aa<(l0.length:Int)
          · rw[if_pos c6]at H
            have a6:decide (aa<(l0.length:Int))=true:=ygy c6
            clear c6;by_cases c7:0≤aa
            · rw[if_pos c7]at H
              have bw:decide (0≤aa)=true:=ygy c7
              clear c7;replace H:=ydy.mp H
              obtain⟨t105,bq,H⟩:=H
              replace H:(if aa<(ad.length:Int)then(qh.l0 k1 l0 (ad.set (aa:Int).toNat t105) (wrap64 (aa+1)))else(none))=some r:=H
              have A8:=zA.mk bq
              clear bq;by_cases c9:aa<(ad.length:Int)
              · rw[if_pos c9]at H
                have bx:decide (aa<(ad.length:Int))=true:=ygy c9
                clear c9;obtain⟨aB,ag⟩ : ∃ y_:List (List (zv)),y_=(ad.set (aa:Int).toNat t105):=⟨_,rfl⟩
                replace H:(qh.l0 k1 l0 aB (wrap64 (aa+1)))=some r:=by first|(rw[ag];with_reducible exact H)|(have aA:=(yfy _ _).symm.trans H;rw[ag];with_reducible exact aA)|(have aA:=(yfy _ _).symm.trans H;with_reducible exact aA)|with_reducible exact H|(rw[ag];exact H)|exact H
                have aO:=zA.mk ag
                clear ag;have H':=zA.mk H
                clear H;have aC:0≤(aa:Int):=of_decide_eq_true (by first|(with_reducible assumption)|assumption)
                have aD:aa<(l0.length:Int):=of_decide_eq_true (by first|(with_reducible assumption)|assumption)
                obtain⟨br,aE,aF,a7,ae,ai,aj⟩:=zAx bu.out aa aC aD
                cases a7
                replace ae:=(HB.out.cell (yqy w _ ae)).trans ae
                have al:=zA.mk aj
                have an:=zA.mk ai
                clear aj ai;replace aC:=eq_true aC
                replace aD:=eq_true aD
                go_wp2_with (first|((with_reducible refine zd (f:=85) rfl ?_);refine qV (some 20) rfl rfl Try.func85 (by kernel_rfl) rfl #[.slice aE (Zb l0 aa).length aF] rfl (by(try simp only [yiy,yjy,yky]);first|done|rfl|(simp only [yly,ymy];rfl)) ?_;(with_reducible refine(qn.calls k1 _ _ (Zb l0 aa) t105 _ ?side1 ?side2 A8.out).mono ?_);(case side1=>repeat(first|exact(Kd.qD al.out HB.out)|(with_reducible refine Kd.zy ?_ _)|(with_reducible refine Kd.qA ?_ _)|(with_reducible refine Kd.qR ?_)));(case side2=>exact an.out);rintro e a8 ⟨ao,rfl,a_,hb⟩;refine⟨_,rfl,?_⟩;have au:=zA.mk (Kd.Zt (by(with_reducible repeat(first|apply Kd.zh|apply Kd.zi|apply Kd.zx));exact ab.out) (Kd.Zw a_) hb);have av:=zA.mk (Kd.qx a_ (zQ (by repeat(first|(with_reducible first|exact HB.out|apply zC|apply zB|apply zD)|exact HB.out))));have bs:=zA.mk (zM (by repeat(first|(with_reducible first|exact HB.out|apply zC|apply zB|apply zD)|exact HB.out)) hb);clear ab;clear HB;have ab:=au;have ah:=av;have HB:=bs;clear au av bs;(try clear hb);(try clear hb2);(try clear hk);(try clear hi);(try clear a_);have ba:0≤(aa:Int):=of_decide_eq_true (by first|(with_reducible assumption)|assumption);have bb:(aa:Int)<((ad.length:Int):Int):=of_decide_eq_true (by first|(with_reducible assumption)|assumption);obtain⟨ak,aP,aQ,aR,bc,bz,aS⟩:=Kd.S_form ab.out (by omega);(first|cases aQ|(injection aQ with ea_ en_ ec_;(first|subst ea_|(injection ea_ with ea_;subst ea_));subst ec_;clear en_));have bd:=zA.mk aR;have bA:=zA.mk aS;clear aR bc aS;obtain⟨_,bB,aT,aU,aw,ax,_,_⟩:=Kd.zIB ab.out [] (aa:Int) ba bb;obtain⟨bf,rfl,bg⟩:=aU;have aG:=aw 0 _ rfl;have aH:=ax 0;(try simp only [show((Kd.slice 75 ZZ)).sz=1 from rfl,Nat.mul_one,Nat.add_zero]at aG);(try simp only [show((Kd.slice 75 ZZ)).sz=1 from rfl,Nat.mul_one,Nat.add_zero]at aH);clear aT aw ax;(try clear aU);replace ba:=eq_true ba;replace bb:=eq_true bb;have n_:=zA.mk (Kd.ZC (ok':=(fun k_=>some k_≠(ao:Value).ownBlock)) ab.out (fun k_ hk=>hk.2));clear ab;have ab:=n_;clear n_;have bh:=zA.mk (show Kd.S (Kd.slice 75 ZZ) 76 a8 w.heap.size (fun k_=>((fun _=>True)) k_ ∧ ¬ ((fun k_=>some k_=(ao:Value).ownBlock)) k_) (.slice (some ⟨ak,0,none⟩) ad.length aP) ad from(by(with_reducible repeat(first|apply Kd.zh|apply Kd.zi|apply Kd.zx));exact Kd.ZC ab.out (fun k_ hk=>⟨trivial,fun e_=>hk e_⟩)));obtain⟨bt,bC,aV,aW,ay,az,aI,aX⟩:=Kd.zIB bh.out [] (aa:Int) (of_decide_eq_true (by first|(with_reducible assumption)|assumption)) (by have h_:(aa:Int)<((ad.length:Int):Int):=of_decide_eq_true (by first|(with_reducible assumption)|assumption);first|exact h_|(have e_:=(Kd.ZF ab.out).1;omega)|simpa using h_);obtain⟨bj,rfl,bk⟩:=aW;have aq:=Kd.S_seg aX (of_decide_eq_true (by first|(with_reducible assumption)|assumption)) (by have h_:(aa:Int)<((ad.length:Int):Int):=of_decide_eq_true (by first|(with_reducible assumption)|assumption);first|exact h_|(have e_:=(Kd.ZF ab.out).1;omega)|simpa using h_) (seg := [ao]) (j:=0) (show 1≤1 from by decide) (x':=t105) (Kd.zHT (Kd.qC (Kd.Qu rfl (Kd.qC (ok':=fun k_=>((fun _=>True)) k_∧k_≠ak) (Kd.QY (ah.out) (Kd.Qj ab.out) (by decide)) (fun k_ hk=>⟨trivial,fun e_=>(hk.2) (by rw[e_];rfl)⟩))) (fun _ h_=>Or.inr (h_)))) (fun _ hk=>hk) (fun k_ hk_=>((Kd.qC (ok':=fun k_=>((fun _=>True)) k_∧k_≠ak) (Kd.QY (ah.out) (Kd.Qj ab.out) (by decide)) (fun k_ hk=>⟨trivial,fun e_=>(hk.2) (by rw[e_];rfl)⟩))).1 k_ hk_.symm);have aJ:=ay 0 _ rfl;(try simp only [show((Kd.slice 75 ZZ)).sz=1 from rfl,Nat.mul_one,Nat.add_zero]at aJ);have aK:=az 0;(try simp only [show((Kd.slice 75 ZZ)).sz=1 from rfl,Nat.mul_one,Nat.add_zero]at aK);clear aV ay az aI aX;(try clear aW);(try simp only [show((Kd.slice 75 ZZ)).sz=1 from rfl,Nat.mul_one,Nat.add_zero]at aq))|((with_reducible refine Zi (t:=76) (p:=21) rfl ?_);refine ZU (t:=76) (p:=21) (v:=?vo_w13) (w1:=(a8.setCell ⟨ak,(aa:Int).toNat,none⟩ (ao))) ?hg ?ho ?hn ?hr ?_;(case ho=>rfl);(case hg=>rfl);(case hn=>rfl);(case hr=>first|(go_simp;done)|(go_simp;rfl)|(obtain⟨ea_,ec_,ev_⟩:=Kd.ZE ah.out;rw[ev_];first|(go_simp;done)|(go_simp;rfl))|(obtain⟨ea_,ec_,ev_⟩:=Kd.ZE (Kd.S_R ah.out);rw[ev_];first|(go_simp;done)|(go_simp;rfl)));intro bl hw;have hg:a8.grownBy bl (some ak):=(by rw[hw];exact aq.2);have hp_:Kd.S (Kd.slice 75 ZZ) 76 bl w.heap.size (fun _=>True) (.slice (some ⟨ak,0,none⟩) ad.length aP) aB:=(by rw[hw,aO.out];exact aq.1);clear aq;have au:=zA.mk (hp_);have av:=zA.mk ((by rw[hw];exact zF (HB.out) bd.out:Below w.heap.size w bl));clear ab;clear HB;clear ah;have ab:=au;have HB:=av;clear au av;clear hg hw hp_))
                go_roundg k1
                case measure=>have:=bp.out;omega
                case rel=>exact⟨(aB),(wrap64 (aa+1)),(by first|rfl|(simp;done)|(simp [*];done)),H',⟨by have:=bp.out;omega⟩,⟨by(with_reducible repeat(first|apply Kd.zh|apply Kd.zi|apply Kd.zx));exact ab.out⟩,⟨by repeat(first|(with_reducible first|exact HB.out|apply zC|apply zB|apply zD)|exact HB.out)⟩⟩
              · rw[if_neg c9]at H
                exact absurd H (by simp)
            · rw[if_neg c7]at H
              exact absurd H (by simp)
          · rw[if_neg c6]at H
            have a6:decide (aa<(l0.length:Int))=false:=yhy c6
            clear c6;obtain rfl:=yey H
            go_wp2;go_ret;exact⟨_,by first|rfl|(simp [zU,zV] <;> rfl)|(simp [*,zU,zV] <;> rfl),by(with_reducible repeat(first|apply Kd.zh|apply Kd.zi|apply Kd.zx));exact ab.out,by repeat(first|(with_reducible first|exact HB.out|apply zC|apply zB|apply zD)|exact HB.out)⟩
    · rw[if_neg c3]at H
      exact absurd H (by simp)
  · rw[if_neg c2]at H
    exact absurd H (by simp)
def zo.f (k:Nat) (l0_0:List (List (qZ))):Option ((List (List (zv)))):=(qh.f k l0_0).bind fun t104=>(some t104)
set_option maxHeartbeats 8000000 in
set_option maxRecDepth 100000 in
theorem zo.calls (k:Nat) (ai:Option Addr) (aj:Nat) (af:List (List (qZ))) (r:List (List (zv))) (w:World) (aB:Kd.C (Kd.slice 118 Qd) w ai af.length af) (aC:af.length≤aj) (h:zo.f k af=some r) :
    Calls Try.prog 18 #[.agg #[.slice ai af.length aj]] w fun e w' => ∃ aS:Value,e = .returned (.agg #[aS])∧Kd.S (Kd.slice 75 ZZ) 76 w' w.heap.size (fun _=>True) aS r∧Below w.heap.size w w':=by
  have a6:=Try.underlying28
  have a7:=Try.underlying35
  have aH:=zA.mk aB
  have aI:=zA.mk aC
  clear aB aC;have HB:=zA.mk (ysy w.heap.size w)
  have H:((qh.f k af).bind fun t104=>(some t104))=some r:=h
  clear h;replace H:=ydy.mp H
  obtain⟨t104,aT,H⟩:=H
  replace H:(some t104)=some r:=H
  have A2:=zA.mk aT
  clear aT;obtain rfl:=yey H
  go_enter Try.func18,Try.ntmps18
  go_wp2_with (first|((with_reducible refine zw (N:=1) rfl ?_);refine zz ?hg (N:=1) ?hd (cs:=#[.slice ai af.length aj]) (t:=28) ?hr ?_;(case hd=>rfl);(case hg=>rfl);(case hr=>first|(go_simp;done)|(go_simp;rfl));intro ab hg w3 hbox hb;have aw:=zA.mk (zM (by repeat(first|(with_reducible first|exact HB.out|apply zC|apply zB|apply zD)|exact HB.out)) hb);have ax:=zA.mk (hbox);have ay:=zA.mk ((by rw[hg];exact(zQ (by repeat(first|(with_reducible first|exact HB.out|apply zC|apply zB|apply zD)|exact HB.out))):w.heap.size≤ab));have az:=zA.mk ((by rw[hg];exact(zQ (by repeat(first|(with_reducible first|exact HB.out|apply zC|apply zB|apply zD)|exact HB.out))):w.heap.size≤ab));clear HB;have HB:=aw;have aa:=ax;have aU:=ay;have ag:=az;clear aw ax ay az;clear hb hbox hg)|((with_reducible refine zw (N:=2) rfl ?_);refine zz ?hg (N:=2) ?hd (cs:=#[.slice none 0 0]) (t:=35) ?hr ?_;(case hd=>rfl);(case hg=>rfl);(case hr=>first|(go_simp;done)|(go_simp;rfl));intro ad hg w4 hbox hb;have aw:=zA.mk (zO (g:=ab) (o := .cells #[.slice ai af.length aj] 28 (0,0)) (by(with_reducible repeat(first|refine zH ?_ _|refine zJ ?_|refine zG ?_ _));exact aa.out) hb);have ax:=zA.mk (zM (by repeat(first|(with_reducible first|exact HB.out|apply zC|apply zB|apply zD|refine zF ?_ ag.out)|exact HB.out)) hb);have ay:=zA.mk (hbox);have az:=zA.mk ((by rw[hg];exact(zQ (by repeat(first|(with_reducible first|exact HB.out|apply zC|apply zB|apply zD|refine zF ?_ ag.out)|exact HB.out))):w.heap.size≤ad));have aD:=zA.mk ((by rw[hg];exact(zQ (by repeat(first|(with_reducible first|exact HB.out|apply zC|apply zB|apply zD|refine zF ?_ ag.out)|exact HB.out))):w.heap.size≤ad));have aJ:=zA.mk ((by rw[hg];exact Nat.ne_of_lt (qT (g:=ab) (o := .cells #[.slice ai af.length aj] 28 (0,0)) (by(with_reducible repeat(first|refine zH ?_ _|refine zJ ?_|refine zG ?_ _));exact aa.out)):ab≠ad));have aK:=zA.mk ((by rw[hg];exact Nat.ne_of_gt (qT (g:=ab) (o := .cells #[.slice ai af.length aj] 28 (0,0)) (by(with_reducible repeat(first|refine zH ?_ _|refine zJ ?_|refine zG ?_ _));exact aa.out)):ad≠ab));clear aa;clear HB;have aa:=aw;have HB:=ax;have ae:=ay;have aV:=az;have ak:=aD;have ao:=aJ;have aq:=aK;clear aw ax ay az aD aJ aK;clear hb hbox hg)|((with_reducible refine zw (N:=3) rfl ?_);refine zz ?hg (N:=3) ?hd (cs:=#[.slice none 0 0]) (t:=35) ?hr ?_;(case hd=>rfl);(case hg=>rfl);(case hr=>first|(go_simp;done)|(go_simp;rfl));intro ah hg w5 hbox hb;have aw:=zA.mk (zO (g:=ab) (o := .cells #[.slice ai af.length aj] 28 (0,0)) (by(with_reducible repeat(first|refine zH ?_ _|refine zJ ?_|refine zG ?_ _));exact aa.out) hb);have ax:=zA.mk (zO (g:=ad) (o := .cells #[.slice none 0 0] 35 (0,0)) (by(with_reducible repeat(first|refine zH ?_ _|refine zJ ?_|refine zG ?_ _));exact ae.out) hb);have ay:=zA.mk (zM (by repeat(first|(with_reducible first|exact HB.out|apply zC|apply zB|apply zD|refine zF ?_ ag.out|refine zF ?_ ak.out)|exact HB.out)) hb);have az:=zA.mk (hbox);have aD:=zA.mk ((by rw[hg];exact(zQ (by repeat(first|(with_reducible first|exact HB.out|apply zC|apply zB|apply zD|refine zF ?_ ag.out|refine zF ?_ ak.out)|exact HB.out))):w.heap.size≤ah));have aJ:=zA.mk ((by rw[hg];exact(zQ (by repeat(first|(with_reducible first|exact HB.out|apply zC|apply zB|apply zD|refine zF ?_ ag.out|refine zF ?_ ak.out)|exact HB.out))):w.heap.size≤ah));have aK:=zA.mk ((by rw[hg];exact Nat.ne_of_lt (qT (g:=ab) (o := .cells #[.slice ai af.length aj] 28 (0,0)) (by(with_reducible repeat(first|refine zH ?_ _|refine zJ ?_|refine zG ?_ _));exact aa.out)):ab≠ah));have aW:=zA.mk ((by rw[hg];exact Nat.ne_of_gt (qT (g:=ab) (o := .cells #[.slice ai af.length aj] 28 (0,0)) (by(with_reducible repeat(first|refine zH ?_ _|refine zJ ?_|refine zG ?_ _));exact aa.out)):ah≠ab));have aX:=zA.mk ((by rw[hg];exact Nat.ne_of_lt (qT (g:=ad) (o := .cells #[.slice none 0 0] 35 (0,0)) (by(with_reducible repeat(first|refine zH ?_ _|refine zJ ?_|refine zG ?_ _));exact ae.out)):ad≠ah));have aY:=zA.mk ((by rw[hg];exact Nat.ne_of_gt (qT (g:=ad) (o := .cells #[.slice none 0 0] 35 (0,0)) (by(with_reducible repeat(first|refine zH ?_ _|refine zJ ?_|refine zG ?_ _));exact ae.out)):ah≠ad));clear aa;clear ae;clear HB;have aa:=aw;have ae:=ax;have HB:=ay;have al:=az;have aZ:=aD;have aA:=aJ;have ar:=aK;have au:=aW;have an:=aX;have av:=aY;clear aw ax ay az aD aJ aK aW aX aY;clear hb hbox hg;have a8:=ao.out;have a_:=aq.out;have ba:=ar.out;have bb:=au.out;have aP:w5.cell? ⟨ab,0,none⟩=some (.slice ai af.length aj):=(zK aa.out 0).trans rfl;have aQ:=zP aa.out 0)|((with_reducible refine zd (f:=49) rfl ?_);refine qV (some 6) rfl rfl Try.func49 (by kernel_rfl) rfl #[.slice ai af.length aj] rfl (by(try simp only [yiy,yjy,yky]);first|done|rfl|(simp only [yly,ymy];rfl)) ?_;(with_reducible refine(qh.calls k _ _ af t104 _ ?side1 ?side2 A2.out).mono ?_);(case side1=>repeat(first|exact(Kd.qD aH.out HB.out)|(with_reducible refine Kd.zy ?_ _)|(with_reducible refine Kd.qA ?_ _)|(with_reducible refine Kd.qR ?_)));(case side2=>exact aI.out);rintro e w9 ⟨bc,rfl,a1,hb⟩;refine⟨_,rfl,?_⟩;have aw:=zA.mk (Kd.QA a1 (zQ (by repeat(first|(with_reducible first|exact HB.out|apply zC|apply zB|apply zD|refine zF ?_ ag.out|refine zF ?_ ak.out|refine zF ?_ aA.out)|exact HB.out))));have ax:=zA.mk (zO (g:=ab) (o := .cells #[.slice ai af.length aj] 28 (0,0)) (by(with_reducible repeat(first|refine zH ?_ _|refine zJ ?_|refine zG ?_ _));exact aa.out) hb);have ay:=zA.mk (zO (g:=ad) (o := .cells #[.slice none 0 0] 35 (0,0)) (by(with_reducible repeat(first|refine zH ?_ _|refine zJ ?_|refine zG ?_ _));exact ae.out) hb);have az:=zA.mk (zO (g:=ah) (o := .cells #[.slice none 0 0] 35 (0,0)) (by(with_reducible repeat(first|refine zH ?_ _|refine zJ ?_|refine zG ?_ _));exact al.out) hb);have aD:=zA.mk (zM (by repeat(first|(with_reducible first|exact HB.out|apply zC|apply zB|apply zD|refine zF ?_ ag.out|refine zF ?_ ak.out|refine zF ?_ aA.out)|exact HB.out)) hb);clear aa;clear ae;clear al;clear HB;have aE:=aw;have aa:=ax;have ae:=ay;have al:=az;have HB:=aD;clear aw ax ay az aD;(try clear hb);(try clear hb2);(try clear hk);(try clear hi);(try clear a1);obtain⟨aF,aG,aR⟩:=Kd.QM aE.out;subst aR;have a2:=av.out;have a5:=an.out;have aL:w9.cell? ⟨ah,0,none⟩=some (.slice none 0 0):=(zK al.out 0).trans rfl;have aM:=zP al.out 0;have aN:w9.cell? ⟨ad,0,none⟩=some (.slice none 0 0):=(zK ae.out 0).trans rfl;have aO:=zP ae.out 0))
  refine bodyPost_ret (results_cell_row rfl _ _ ad 35 #[.slice aF t104.length aG] (0,0) _ rfl (by(with_reducible repeat(first|refine zH ?_ _|refine zJ ?_|refine zG ?_ _));refine qf (cs:=#[.slice none 0 0]) ?_ 0 _ rfl;(with_reducible repeat(first|refine zH ?_ _|refine zJ ?_|refine zG ?_ _));refine qJ ?_ an.out _;(with_reducible repeat(first|refine zH ?_ _|refine zJ ?_|refine zG ?_ _));exact ae.out) Try.underlying35 rfl (by kernel_rfl)) rfl ?_
  exact⟨_,by first|rfl|(simp [zU,zV] <;> rfl)|(simp [*,zU,zV] <;> rfl),by(with_reducible repeat(first|apply Kd.zh|apply Kd.zi|apply Kd.zx));exact Kd.ZC (Kd.QD (p:=⟨ad,0,none⟩) (Kd.QD (p:=⟨ah,0,none⟩) (Kd.Zo (Kd.Zo aE.out al.out (by decide)) ae.out (by decide)) (fun _ hk=>hk.1.2) (.slice aF t104.length aG)) (fun _ hk=>hk.2) (.slice aF t104.length aG)) (fun _ hk=>trivial),by repeat(first|(with_reducible first|exact HB.out|apply zC|apply zB|apply zD|refine zF ?_ ag.out|refine zF ?_ ak.out|refine zF ?_ aA.out)|exact HB.out)⟩
def zW.l0:Nat→Int→List Int→List Int→Int→Int→Option (List Int)
 | 0,_,_,_,_,_=>none
 | k+1,x0,x3,x4,x5,x6=>if x6≥0 then(if x5=0 then(none)else(if 0≤(wrap64 (Int.tdiv x0 x5))then(if(wrap64 (Int.tdiv x0 x5))<(x3.length:Int)then(if x4.length<17592186044416 then((some (x4 ++ [rd x3 (wrap64 (Int.tdiv x0 x5))]:List Int)).bind fun y108=>((some (([]:List Int):List Int)).bind fun y111=>(if(wrap64 (Int.tdiv x0 x5))≤(x3.length:Int)then((some (x3.take ((wrap64 (Int.tdiv x0 x5)):Int).toNat:List Int)).bind fun y114=>(if y111.length+y114.length<17592186044416 then((some (y111++y114:List Int)).bind fun y118=>(if 0≤(wrap64 ((wrap64 (Int.tdiv x0 x5))+1))then(if(wrap64 ((wrap64 (Int.tdiv x0 x5))+1))≤(x3.length:Int)then((some (x3.drop ((wrap64 ((wrap64 (Int.tdiv x0 x5))+1)):Int).toNat:List Int)).bind fun y121=>(if y118.length+y121.length<17592186044416 then((some (y118++y121:List Int)).bind fun y125=>(if x6>0 then(if x6=0 then(none)else(zW.l0 k (Int.tmod x0 x5) y125 y108 (wrap64 (Int.tdiv x5 x6)) (wrap64 (x6-1))))else(zW.l0 k (Int.tmod x0 x5) y125 y108 x5 (wrap64 (x6-1)))))else(none)))else(none))else(none)))else(none)))else(none))))else(none))else(none))else(none)))else(some x4)
def zW.f (k:Nat) (a0:Int):Option (List Int):=zW.l0 k a0 (([0,1,2,3]:List Int)) (([]:List Int)) 6 3
theorem zW.Jn : ∀ k,(∀ y0 y1 y2 y3 y4,LeO (zW.l0 k y0 y1 y2 y3 y4) (zW.l0 (k+1) y0 y1 y2 y3 y4))
 | 0=>fun _ _ _ _ _ r h=>by simp [zW.l0]at h
 | k+1=>by
  have aa:=zW.Jn k
  intro y0 y1 y2 y3 y4
  unfold zW.l0
  repeat' first
  | (with_reducible exact aa _ _ _ _ _)
  | (with_reducible exact LeO.refl _)
  | (with_reducible exact LeO.none _)
  | (with_reducible refine LeO.ite ?_ ?_)
  | (with_reducible refine LeO.bind ?_ (fun _=>?_))
  | exact aa _ _ _ _ _
  | exact LeO.none _
  | refine LeO.ite ?_ ?_
  | refine LeO.bind ?_ (fun _=>?_)
theorem zW.mono : ∀ a0 k,LeO (zW.f k a0) (zW.f (k+1) a0):=by
 intro a0 k
 have aa:=zW.Jn k
 unfold zW.f
 repeat' first
  | (with_reducible exact aa _ _ _ _ _)
  | (with_reducible exact LeO.refl _)
  | (with_reducible exact LeO.none _)
  | (with_reducible refine LeO.ite ?_ ?_)
  | (with_reducible refine LeO.bind ?_ (fun _=>?_))
  | exact aa _ _ _ _ _
  | exact LeO.none _
  | refine LeO.ite ?_ ?_
  | refine LeO.bind ?_ (fun _=>?_)
def zW.T10:Bool × List (List Nat × List Nat):=(true,[([],[]),([],[]),([],[]),([1,2],[1,2]),([0,3],[0,3]),([],[]),([],[]),([6],[6]),([5,7],[5,7]),([4,8,4],[4,8]),([9,9,0,1,2,3,4,5,6,7,8,9],[1,5,9])])
def zW.B10:List Nat := [0,0,0,6,15,0,0,64,224,511,1023]
theorem zW.tab10:Jg .any (opsOf Try.f110 10)=zW.T10:=by kernel_rfl
theorem zW.zIH:QK zW.T10.2 zW.B10=true:=by kernel_rfl
set_option maxHeartbeats 8000000 in
set_option maxRecDepth 100000 in
theorem zW.calls (k:Nat) (a0:Int) (r:List Int) (w:World) (h:zW.f k a0=some r) :
 Calls Try.prog 110 #[.int .i64 a0] w fun e w' => ∃ cD:Value,e = .returned (cD)∧Kd.R (Kd.int .i64) 2 w' w.heap.size (fun _=>True) cD r∧Below w.heap.size w w':=by
 have HB:=zA.mk (ysy w.heap.size w)
 have H:(zW.l0 k a0 (([0,1,2,3]:List Int)) (([]:List Int)) 6 3)=some r:=h
 clear h;obtain⟨bF,aK⟩ : ∃ y_:List Int,y_=(([0,1,2,3]:List Int)):=⟨_,rfl⟩
 replace H:(zW.l0 k a0 bF (([]:List Int)) 6 3)=some r:=by first|(rw[aK];with_reducible exact H)|(have az:=(yfy _ _).symm.trans H;rw[aK];with_reducible exact az)|(have az:=(yfy _ _).symm.trans H;with_reducible exact az)|with_reducible exact H|(rw[aK];exact H)|exact H
 have bp:=zA.mk aK
 clear aK;obtain⟨bW,aM⟩ : ∃ y_:List Int,y_=(([]:List Int)):=⟨_,rfl⟩
 replace H:(zW.l0 k a0 bF bW 6 3)=some r:=by first|(rw[aM];with_reducible exact H)|(have az:=(yfy _ _).symm.trans H;rw[aM];with_reducible exact az)|(have az:=(yfy _ _).symm.trans H;with_reducible exact az)|with_reducible exact H|(rw[aM];exact H)|exact H
 have bq:=zA.mk aM
 clear aM;have H':=zA.mk H
 clear H;go_enter Try.func110,Try.ntmps110
 go_wp2_with (first|((with_reducible refine zw (N:=8) rfl ?_);refine Kd.zBO (Kd.int .i64) _ 2 ?hg (N:=8) ?hd (xs:=([0,1,2,3]:List Int)) (inner := [.int .i64 0,.int .i64 1,.int .i64 2,.int .i64 3]) (ok:=fun _=>True) (okp:=fun _=>True) ?hr ?hp (fun _ hk=>hk) trivial (ysy _ _) (yry _) (by simp) ?_;(case hd=>rfl);(case hg=>rfl);(case hr=>first|(go_simp;done)|(go_simp;rfl));(case hp=>exact(QN.one (show Kd.M (Kd.int .i64) _ _ _ 0 [.int .i64 0]from rfl) (QN.one (show Kd.M (Kd.int .i64) _ _ _ 1 [.int .i64 1]from rfl) (QN.one (show Kd.M (Kd.int .i64) _ _ _ 2 [.int .i64 2]from rfl) (QN.one (show Kd.M (Kd.int .i64) _ _ _ 3 [.int .i64 3]from rfl) (QN.none _ _))))));intro cT w2 bX hb hg_ hnew_;clear hg_ hnew_;(first|rw[← bp.out]at bX|(simp only [Int.reduceToNat]at bX;rw[← bp.out]at bX));have aw:=zA.mk (Kd.qx bX (zQ (by repeat(first|(with_reducible first|exact HB.out|apply zC|apply zB|apply zD)|exact HB.out))));have ax:=zA.mk (zM (by repeat(first|(with_reducible first|exact HB.out|apply zC|apply zB|apply zD)|exact HB.out)) hb);clear HB;have aN:=aw;have HB:=ax;clear aw ax;clear hb bX)|((with_reducible refine zw (N:=9) rfl ?_);refine Kd.zBO (Kd.int .i64) _ 2 ?hg (N:=9) ?hd (xs:=([]:List Int)) (inner := []) (ok:=fun _=>True) (okp:=fun _=>True) ?hr ?hp (fun _ hk=>hk) trivial (ysy _ _) (yry _) (by simp) ?_;(case hd=>rfl);(case hg=>rfl);(case hr=>first|(go_simp;done)|(go_simp;rfl));(case hp=>exact(QN.none _ _));intro cU w4 bU hb hg_ hnew_;clear hg_ hnew_;(first|rw[← bq.out]at bU|(simp only [Int.reduceToNat]at bU;rw[← bq.out]at bU));have aw:=zA.mk (Kd.Zs (by(with_reducible repeat(first|apply Kd.zS|apply Kd.zT|apply Kd.zZ));exact aN.out) (Kd.Zw bU) hb);have ax:=zA.mk (Kd.qx (Kd.JP bU (Kd.JO (by(with_reducible repeat(first|apply Kd.zS|apply Kd.zT|apply Kd.zZ));exact aN.out))) (zQ (by repeat(first|(with_reducible first|exact HB.out|apply zC|apply zB|apply zD)|exact HB.out))));have ay:=zA.mk (zM (by repeat(first|(with_reducible first|exact HB.out|apply zC|apply zB|apply zD)|exact HB.out)) hb);clear aN;clear HB;have aN:=aw;have bY:=ax;have HB:=ay;clear aw ax ay;clear hb bU))
 go_loopg [0,3,4,5,6] k (fun kq v0 v3 v4 v5 v6 w' => ∃ (aq:Int) (aa:List Int) (aH:List Int) (af:Int) (ad:Int),v0 = .int .i64 aq∧v5 = .int .i64 af∧v6 = .int .i64 ad∧zA (zW.l0 kq aq aa aH af ad=some r)∧zA (kq≤k)∧zA (Kd.R (Kd.int .i64) 2 w' w.heap.size (fun k_=>some k_≠(v4:Value).ownBlock) v3 aa)∧zA (Kd.R (Kd.int .i64) 2 w' w.heap.size (fun k_=>some k_≠(v3:Value).ownBlock) v4 aH)∧zA (Below w.heap.size w w'))
 case atStart=>exact⟨(a0),(bF),(bW),(6),(3),(by first|rfl|(simp;done)|(simp [*];done)),(by first|rfl|(simp;done)|(simp [*];done)),(by first|rfl|(simp;done)|(simp [*];done)),H',⟨yry _⟩,⟨by(with_reducible repeat(first|apply Kd.zS|apply Kd.zT|apply Kd.zZ));exact Kd.qC aN.out (fun _ hk=>hk.2)⟩,⟨by(with_reducible repeat(first|apply Kd.zS|apply Kd.zT|apply Kd.zZ));exact Kd.qC bY.out (fun _ hk=>hk.2)⟩,⟨by repeat(first|(with_reducible first|exact HB.out|apply zC|apply zB|apply zD)|exact HB.out)⟩⟩
 case round=>
  clear H';(try clear c1);(try clear p2);obtain⟨aq,aa,aH,af,ad,rfl,rfl,rfl,HA,ch,ab,bd,HB⟩:=hrel
  cases gk with
  | zero=>exact absurd HA.out (by simp [zW.l0])
  | succ k1=>
   have H:=HA.out
   clear HA;simp only [zW.l0]at H
   by_cases c6:ad≥0
   case neg=>
    rw[if_neg c6]at H
    have cp:decide (0≤ad)=false:=yhy c6
    clear c6;obtain rfl:=yey H
    go_wp2;go_ret;exact⟨_,by first|rfl|(simp [zU,zV] <;> rfl)|(simp [*,zU,zV] <;> rfl),by(with_reducible repeat(first|apply Kd.zS|apply Kd.zT|apply Kd.zZ));exact Kd.qC bd.out (fun _ hk=>trivial),by repeat(first|(with_reducible first|exact HB.out|apply zC|apply zB|apply zD)|exact HB.out)⟩
   rw[if_pos c6]at H
   have cp:decide (0≤ad)=true:=ygy c6
   clear c6;by_cases c7:af=0
   next=>
    rw[if_pos c7]at H
    exact absurd H (by simp)
   rw[if_neg c7]at H
   have cV:(af==0)=false:=beq_eq_false_iff_ne.mpr c7
   have cW:(af != 0)=true:=bne_iff_ne.mpr c7
   obtain⟨al,bG⟩ : ∃ j_:Int,(wrap64 (Int.tdiv aq af))=j_:=⟨_,rfl⟩
   replace H:(if 0≤(al)then(if(al)<(aa.length:Int)then(if aH.length<17592186044416 then((some (aH ++ [rd aa (al)]:List Int)).bind fun av=>((some (([]:List Int):List Int)).bind fun aD=>(if(al)≤(aa.length:Int)then((some (aa.take ((al):Int).toNat:List Int)).bind fun an=>(if aD.length+an.length<17592186044416 then((some (aD++an:List Int)).bind fun ar=>(if 0≤(wrap64 ((al)+1))then(if(wrap64 ((al)+1))≤(aa.length:Int)then((some (aa.drop ((wrap64 ((al)+1)):Int).toNat:List Int)).bind fun ag=>(if ar.length+ag.length<17592186044416 then((some (ar++ag:List Int)).bind fun ao=>(if ad>0 then(if ad=0 then(none)else(zW.l0 k1 (Int.tmod aq af) ao av (wrap64 (Int.tdiv af ad)) (wrap64 (ad-1))))else(zW.l0 k1 (Int.tmod aq af) ao av af (wrap64 (ad-1)))))else(none)))else(none))else(none)))else(none)))else(none))))else(none))else(none))else(none))=some r:=by first|(rw[bG]at H;exact H)|(simp only [bG]at H ⊢;exact H)
   have cE:(IntKind.i64.wrap (Int.tdiv aq af))=al:=(zX _).trans bG
   by_cases c9:0≤(al)
   case neg=>
    rw[if_neg c9]at H
    exact absurd H (by simp)
   rw[if_pos c9]at H
   have cX:decide (0≤(al))=true:=ygy c9
   clear c9;by_cases cj:(al)<(aa.length:Int)
   case neg=>
    rw[if_neg cj]at H
    exact absurd H (by simp)
   rw[if_pos cj]at H
   have cF:decide ((al)<(aa.length:Int))=true:=ygy cj
   clear cj;by_cases ck:aH.length<17592186044416
   case neg=>
    rw[if_neg ck]at H
    exact absurd H (by simp)
   rw[if_pos ck]at H
   have br:=zA.mk ck
   clear ck;obtain⟨av,aQ⟩ : ∃ y_:List Int,y_=(aH ++ [rd aa (al)]):=⟨_,rfl⟩
   replace H:((some (([]:List Int):List Int)).bind fun aD=>(if(al)≤(aa.length:Int)then((some (aa.take ((al):Int).toNat:List Int)).bind fun an=>(if aD.length+an.length<17592186044416 then((some (aD++an:List Int)).bind fun ar=>(if 0≤(wrap64 ((al)+1))then(if(wrap64 ((al)+1))≤(aa.length:Int)then((some (aa.drop ((wrap64 ((al)+1)):Int).toNat:List Int)).bind fun ag=>(if ar.length+ag.length<17592186044416 then((some (ar++ag:List Int)).bind fun ao=>(if ad>0 then(if ad=0 then(none)else(zW.l0 k1 (Int.tmod aq af) ao av (wrap64 (Int.tdiv af ad)) (wrap64 (ad-1))))else(zW.l0 k1 (Int.tmod aq af) ao av af (wrap64 (ad-1)))))else(none)))else(none))else(none)))else(none)))else(none)))=some r:=by first|(rw[aQ];with_reducible exact H)|(have az:=(yfy _ _).symm.trans H;rw[aQ];with_reducible exact az)|(have az:=(yfy _ _).symm.trans H;with_reducible exact az)|with_reducible exact H|(rw[aQ];exact H)|exact H
   have bs:=zA.mk aQ
   clear aQ;obtain⟨aD,aT⟩ : ∃ y_:List Int,y_=(([]:List Int)):=⟨_,rfl⟩
   replace H:(if(al)≤(aa.length:Int)then((some (aa.take ((al):Int).toNat:List Int)).bind fun an=>(if aD.length+an.length<17592186044416 then((some (aD++an:List Int)).bind fun ar=>(if 0≤(wrap64 ((al)+1))then(if(wrap64 ((al)+1))≤(aa.length:Int)then((some (aa.drop ((wrap64 ((al)+1)):Int).toNat:List Int)).bind fun ag=>(if ar.length+ag.length<17592186044416 then((some (ar++ag:List Int)).bind fun ao=>(if ad>0 then(if ad=0 then(none)else(zW.l0 k1 (Int.tmod aq af) ao av (wrap64 (Int.tdiv af ad)) (wrap64 (ad-1))))else(zW.l0 k1 (Int.tmod aq af) ao av af (wrap64 (ad-1)))))else(none)))else(none))else(none)))else(none)))else(none))=some r:=by first|(rw[aT];with_reducible exact H)|(have az:=(yfy _ _).symm.trans H;rw[aT];with_reducible exact az)|(have az:=(yfy _ _).symm.trans H;with_reducible exact az)|with_reducible exact H|(rw[aT];exact H)|exact H
   have ba:=zA.mk aT
   clear aT;have cG:=eq_true (of_decide_eq_true (by first|(with_reducible assumption)|assumption):0≤(al))
   by_cases bZ:(al)≤(aa.length:Int)
   case neg=>
    rw[if_neg bZ]at H
    exact absurd H (by simp)
   rw[if_pos bZ]at H
   have cH:=eq_true bZ
   have cI:decide ((al)≤(aa.length:Int))=true:=ygy bZ
   clear bZ;obtain⟨an,aU⟩ : ∃ y_:List Int,y_=(aa.take ((al):Int).toNat):=⟨_,rfl⟩
   replace H:(if aD.length+an.length<17592186044416 then((some (aD++an:List Int)).bind fun ar=>(if 0≤(wrap64 ((al)+1))then(if(wrap64 ((al)+1))≤(aa.length:Int)then((some (aa.drop ((wrap64 ((al)+1)):Int).toNat:List Int)).bind fun ag=>(if ar.length+ag.length<17592186044416 then((some (ar++ag:List Int)).bind fun ao=>(if ad>0 then(if ad=0 then(none)else(zW.l0 k1 (Int.tmod aq af) ao av (wrap64 (Int.tdiv af ad)) (wrap64 (ad-1))))else(zW.l0 k1 (Int.tmod aq af) ao av af (wrap64 (ad-1)))))else(none)))else(none))else(none)))else(none))=some r:=by first|(rw[aU];with_reducible exact H)|(have az:=(yfy _ _).symm.trans H;rw[aU];with_reducible exact az)|(have az:=(yfy _ _).symm.trans H;with_reducible exact az)|with_reducible exact H|(rw[aU];exact H)|exact H
   have aE:=zA.mk aU
   clear aU;by_cases cl:aD.length+an.length<17592186044416
   case neg=>
    rw[if_neg cl]at H
    exact absurd H (by simp)
   rw[if_pos cl]at H
   have bt:=zA.mk cl
   clear cl;obtain⟨ar,aV⟩ : ∃ y_:List Int,y_=(aD++an):=⟨_,rfl⟩
   replace H:(if 0≤(wrap64 ((al)+1))then(if(wrap64 ((al)+1))≤(aa.length:Int)then((some (aa.drop ((wrap64 ((al)+1)):Int).toNat:List Int)).bind fun ag=>(if ar.length+ag.length<17592186044416 then((some (ar++ag:List Int)).bind fun ao=>(if ad>0 then(if ad=0 then(none)else(zW.l0 k1 (Int.tmod aq af) ao av (wrap64 (Int.tdiv af ad)) (wrap64 (ad-1))))else(zW.l0 k1 (Int.tmod aq af) ao av af (wrap64 (ad-1)))))else(none)))else(none))else(none))=some r:=by first|(rw[aV];with_reducible exact H)|(have az:=(yfy _ _).symm.trans H;rw[aV];with_reducible exact az)|(have az:=(yfy _ _).symm.trans H;with_reducible exact az)|with_reducible exact H|(rw[aV];exact H)|exact H
   have bu:=zA.mk aV
   clear aV;obtain⟨ak,bf⟩ : ∃ j_:Int,(wrap64 ((al)+1))=j_:=⟨_,rfl⟩
   replace H:(if 0≤(ak)then(if(ak)≤(aa.length:Int)then((some (aa.drop ((ak):Int).toNat:List Int)).bind fun ag=>(if ar.length+ag.length<17592186044416 then((some (ar++ag:List Int)).bind fun ao=>(if ad>0 then(if ad=0 then(none)else(zW.l0 k1 (Int.tmod aq af) ao av (wrap64 (Int.tdiv af ad)) (wrap64 (ad-1))))else(zW.l0 k1 (Int.tmod aq af) ao av af (wrap64 (ad-1)))))else(none)))else(none))else(none))=some r:=by first|(rw[bf]at H;exact H)|(simp only [bf]at H ⊢;exact H)
   have cq:(IntKind.i64.wrap ((al)+1))=ak:=(zX _).trans bf
   by_cases b0:0≤(ak)
   case neg=>
    rw[if_neg b0]at H
    exact absurd H (by simp)
   rw[if_pos b0]at H
   have cJ:=eq_true b0
   have cK:decide (0≤(ak))=true:=ygy b0
   clear b0;by_cases b1:(ak)≤(aa.length:Int)
   case neg=>
    rw[if_neg b1]at H
    exact absurd H (by simp)
   rw[if_pos b1]at H
   have cL:=eq_true b1
   have cM:decide ((ak)≤(aa.length:Int))=true:=ygy b1
   clear b1;obtain⟨ag,aW⟩ : ∃ y_:List Int,y_=(aa.drop ((ak):Int).toNat):=⟨_,rfl⟩
   replace H:(if ar.length+ag.length<17592186044416 then((some (ar++ag:List Int)).bind fun ao=>(if ad>0 then(if ad=0 then(none)else(zW.l0 k1 (Int.tmod aq af) ao av (wrap64 (Int.tdiv af ad)) (wrap64 (ad-1))))else(zW.l0 k1 (Int.tmod aq af) ao av af (wrap64 (ad-1)))))else(none))=some r:=by first|(rw[aW];with_reducible exact H)|(have az:=(yfy _ _).symm.trans H;rw[aW];with_reducible exact az)|(have az:=(yfy _ _).symm.trans H;with_reducible exact az)|with_reducible exact H|(rw[aW];exact H)|exact H
   have aG:=zA.mk aW
   clear aW;by_cases cm:ar.length+ag.length<17592186044416
   case neg=>
    rw[if_neg cm]at H
    exact absurd H (by simp)
   rw[if_pos cm]at H
   have bw:=zA.mk cm
   clear cm;obtain⟨ao,aX⟩ : ∃ y_:List Int,y_=(ar++ag):=⟨_,rfl⟩
   replace H:(if ad>0 then(if ad=0 then(none)else(zW.l0 k1 (Int.tmod aq af) ao av (wrap64 (Int.tdiv af ad)) (wrap64 (ad-1))))else(zW.l0 k1 (Int.tmod aq af) ao av af (wrap64 (ad-1))))=some r:=by first|(rw[aX];with_reducible exact H)|(have az:=(yfy _ _).symm.trans H;rw[aX];with_reducible exact az)|(have az:=(yfy _ _).symm.trans H;with_reducible exact az)|with_reducible exact H|(rw[aX];exact H)|exact H
   have bx:=zA.mk aX
   clear aX;by_cases bV:ad>0
   case neg=>
    rw[if_neg bV]at H
    have b2:decide (0<ad)=false:=yhy bV
    clear bV;have H':=zA.mk H
    clear H;obtain⟨cY,aA,cr⟩:=Kd.ZE ab.out
    subst cr;have a6:0≤((al):Int):=of_decide_eq_true (by first|(with_reducible assumption)|assumption)
    have a7:(al)<(aa.length:Int):=of_decide_eq_true (by first|(with_reducible assumption)|assumption)
    obtain⟨ah,bH,bk⟩:=Kd.qw (Kd.zq ab.out).2.2 (al) a6 a7
    cases bH
    replace a6:=eq_true a6
    replace a7:=eq_true a7
    try go_wp2_with (first|((with_reducible refine ZN (b := .append) (xs:=#[.tmp 20,.tmp 25]) rfl ?_);at_builtin;refine Kd.Qn (Kd.int .i64) (w0:=w) w.heap.size rfl (.tmp 20) (.tmp 25) 22 2 (.int .i64 0) 8 rfl Try.underlying22 Jp rfl (by decide) (by omega) u4 aH (rd aa (al)) [.int .i64 (rd aa (al))] (fun k_=>some k_≠(.slice (some ah) aa.length aA:Value).ownBlock) (fun _=>False) rfl rfl ?aP (fun _ hk=>hk.elim) ?aF ?aO ?aB ?aS ?aL ?_;(case aP=>exact rfl);(case aB=>exact(by repeat(first|(with_reducible first|exact HB.out|apply zC|apply zB|apply zD)|exact HB.out)));(case aF=>exact(fun k_ hk=>Kd.JQ (Kd.JO (by(with_reducible repeat(first|apply Kd.zS|apply Kd.zT|apply Kd.zZ));exact ab.out)) k_ hk));(case aO=>exact(by(with_reducible repeat(first|apply Kd.zS|apply Kd.zT|apply Kd.zZ));exact bd.out));(case aS=>exact(zQ (by repeat(first|(with_reducible first|exact HB.out|apply zC|apply zB|apply zD)|exact HB.out))));(case aL=>have:=br.out;omega);intro au cZ ho hb hg hat;rw[← bs.out]at ho;have aw:=zA.mk (Kd.ZK (ok:=(fun _=>True)) (by(with_reducible repeat(first|apply Kd.zS|apply Kd.zT|apply Kd.zZ));exact Kd.qC ab.out (fun _ hk=>⟨trivial,hk⟩)) hg hat);have ax:=zA.mk (hb);have ay:=zA.mk (ho);clear ab;clear HB;clear bd;have ab:=aw;have HB:=ax;have ae:=ay;clear aw ax ay;clear ho hb hg hat))
    have aw:=zA.mk (Kd.zZ ab.out)
    have ax:=zA.mk (Kd.zZ ae.out)
    have ay:=zA.mk (zD HB.out)
    clear ab;clear ae;clear HB;have ab:=aw;have ae:=ax;have HB:=ay;clear aw ax ay;have ct:((al):Int)≤((aa.length:Int):Int):=of_decide_eq_true (by first|(with_reducible assumption)|assumption)
    obtain⟨c0,bz,_,b3,_⟩:=info_parts Jp
    have bb:aa.length≤aA:=(Kd.zq ab.out).2.1
    have b4:Kd.C (Kd.int .i64) _ (some ah) aa.length aa:=(Kd.zq ab.out).2.2
    have bI:=zI9 (P:=Try.prog) 22 2 .i64 Try.underlying22 bz (some ah) aa.length aA (al) (of_decide_eq_true (by first|(with_reducible assumption)|assumption)) ct bb
    have bJ:=Kd.zCf (m:=((al):Int).toNat) b4 (by omega)
    have bK:an.length=((al):Int).toNat:=(by rw[aE.out,ymy];omega)
    rw[← aE.out]at bJ
    rw[← bK]at bI
    have ai:=zA.mk bJ
    have b5:=zA.mk (show an.length≤aA from by omega)
    clear bJ b4 bb bz b3;have c2:=zA.mk bK
    clear bK;have b6:=zA.mk (show((al):Int).toNat≤aa.length from by omega)
    replace ct:=eq_true ct
    have cu:((ak):Int)≤((aa.length:Int):Int):=of_decide_eq_true (by first|(with_reducible assumption)|assumption)
    obtain⟨c3,bA,_,bB,_⟩:=info_parts Jp
    have aI:aa.length≤aA:=(Kd.zq ab.out).2.1
    have b7:Kd.C (Kd.int .i64) _ (some ah) aa.length aa:=(Kd.zq ab.out).2.2
    have cv:(0:Int)≤((ak):Int):=of_decide_eq_true (by first|(with_reducible assumption)|assumption)
    have bL:=zF7 (P:=Try.prog) 22 2 .i64 Try.underlying22 bA 1 bB (some ah) aa.length aA (ak) cv cu
    have bg:=Kd.zCg (m:=((ak):Int).toNat) (c:=aA) b7 (by omega) aI
    obtain⟨cw,bl⟩ : ∃ A1,A1=(if aA=((ak):Int).toNat then(some ah)else((some ah):Option Addr).map (·.add (((ak):Int).toNat*1))):=⟨_,rfl⟩
    obtain⟨c4,bM⟩ : ∃ c1,c1=aA-((ak):Int).toNat:=⟨_,rfl⟩
    have bm:ag.length=aa.length-((ak):Int).toNat:=(by rw[aG.out,yly] <;> omega)
    rw[show(aa).drop ((ak):Int).toNat=ag from aG.out.symm]at bg
    replace bg:Kd.C (Kd.int .i64) _ cw ag.length ag:=(by rw[bl];exact bg)
    rw[← bm,← bl,← bM]at bL
    have aj:=zA.mk bg
    have b8:=zA.mk (show ag.length≤c4 from by rw[bm,bM];exact Nat.sub_le_sub_right aI _)
    clear bg b7 aI bA bB bM;have c5:=zA.mk bm
    have b9:=zA.mk bl
    clear bm bl;have b_:=zA.mk (show((ak):Int).toNat≤aa.length from by omega)
    replace cu:=eq_true cu
    refine Zv (n:=11) (S:=fun w'=>True) (ds := []) #[false,false,false,false,false,false,false,false,false,false,false] (by kernel_rfl) rfl rfl trivial (fun hHeld=>?_);refine Zn zW.tab10 zW.zIH (fun HT_ HW_=>?_)
    generalize cZ.drew=df at ab ae HB ai aj hHeld ⊢
    refine zg (i:=1) (N:=some 28) (v:=?_) (a':=?_) #[false,true,false,false,false,false,false,false,false,false,false] rfl rfl (zm HT_.out (by kernel_rfl)) (fun _ _ _ h=>h) (Or.inl ⟨by rfl,?_⟩) ?_ ?_
    rotate_left
    next=>
     intro w';go_simp;with_reducible rfl
    rotate_left
    next=>
     simp only [Act.put,yay,yby,ycy,zX,za]
     rfl
    refine zg (i:=2) (N:=some 29) (v:=?_) (a':=?_) #[false,true,true,false,false,false,false,false,false,false,false] rfl rfl (zm HT_.out (by kernel_rfl)) (fun _ _ _ h=>h) (Or.inl ⟨by rfl,?_⟩) ?_ ?_
    rotate_left
    next=>
     intro w';go_simp;with_reducible rfl
    rotate_left
    next=>
     simp only [Act.put,yay,yby,ycy,zX,za]
     rfl
    refine zg (i:=3) (N:=some 30) (v:=?_) (a':=?_) #[false,true,true,true,false,false,false,false,false,false,false] rfl rfl (zm HT_.out (by kernel_rfl)) (fun _ _ _ h=>h) (Or.inl ⟨by rfl,?_⟩) ?_ ?_
    rotate_left
    next=>
     intro w';go_simp;with_reducible rfl
    rotate_left
    next=>
     simp only [Act.put,yay,yby,ycy,zX,za]
     rfl
    refine zg (i:=5) (N:=some 32) (v:=?_) (a':=?_) #[false,true,true,true,false,true,false,false,false,false,false] rfl rfl (zm HT_.out (by kernel_rfl)) (fun _ _ _ h=>h) (Or.inl ⟨by rfl,?_⟩) ?_ ?_
    rotate_left
    next=>
     intro w';go_simp;with_reducible rfl
    rotate_left
    next=>
     simp only [Act.put,yay,yby,ycy,zX,za]
     rfl
    refine zg (i:=6) (N:=some 33) (v:=?_) (a':=?_) #[false,true,true,true,false,true,true,false,false,false,false] rfl rfl (zm HT_.out (by kernel_rfl)) (fun _ _ _ h=>h) (Or.inl ⟨by rfl,?_⟩) ?_ ?_
    rotate_left
    next=>
     intro w';go_simp;with_reducible rfl
    rotate_left
    next=>
     simp only [Act.put,yay,yby,ycy,zX,za]
     rfl
    refine zg (i:=7) (N:=some 34) (v:=?_) (a':=?_) #[false,true,true,true,false,true,true,true,false,false,false] rfl rfl (zm HT_.out (by kernel_rfl)) (fun _ _ _ h=>h) (Or.inl ⟨by rfl,?_⟩) ?_ ?_
    rotate_left
    next=>
     intro w';go_simp;with_reducible rfl
    rotate_left
    next=>
     simp only [Act.put,yay,yby,ycy,zX,za]
     rfl
    refine zg (i:=8) (N:=some 35) (v:=?_) (a':=?_) #[false,true,true,true,false,true,true,true,true,false,false] rfl rfl (zm HT_.out (by kernel_rfl)) (fun _ _ _ h=>h) (Or.inl ⟨by rfl,?_⟩) ?_ ?_
    rotate_left
    next=>
     intro w';go_simp;with_reducible rfl
    rotate_left
    next=>
     simp only [Act.put,yay,yby,ycy,zX,za]
     rfl
    refine zA4 (i:=0) (N:=some 27) #[true,true,true,true,false,true,true,true,true,false,false] rfl rfl (QG HT_.out (by kernel_rfl)) (by decide) (fun K hK=>?_)
    refine Kd.zAd (Kd.int .i64) _ 2 ?hg (N:=27) ?hd (xs:=([]:List Int)) (inner := []) (ok:=fun _=>True) (okp:=fun _=>True) ?hr ?hp (fun _ hk=>hk) trivial (ysy _ _) (yry _) (by simp) ?_;(case hd=>rfl);(case hg=>rfl);(case hr=>first|(go_simp;done)|(go_simp;rfl));(case hp=>exact(QN.none _ _))
    intro bN dg a8 hb hg_ hnew_
    clear hg_ hnew_
    (first|rw[← ba.out]at a8|(simp only [Int.reduceToNat]at a8;rw[← ba.out]at a8))
    have aw:=zA.mk (Kd.Zs (by(with_reducible repeat(first|apply Kd.zS|apply Kd.zT|apply Kd.zZ));exact ab.out) (Kd.Zw a8) hb)
    have ax:=zA.mk (Kd.Zs (by(with_reducible repeat(first|apply Kd.zS|apply Kd.zT|apply Kd.zZ));exact ae.out) (Kd.Zw a8) hb)
    have ay:=zA.mk (Kd.qx (Kd.JP (Kd.JP a8 (Kd.JO (by(with_reducible repeat(first|apply Kd.zS|apply Kd.zT|apply Kd.zZ));exact ab.out))) (Kd.JO (by(with_reducible repeat(first|apply Kd.zS|apply Kd.zT|apply Kd.zZ));exact ae.out))) (zQ (by repeat(first|(with_reducible first|exact HB.out|apply zC|apply zB|apply zD)|exact HB.out))))
    have aY:=zA.mk (Kd.qD (by repeat(first|(with_reducible exact ai.out)|(with_reducible refine Kd.zy ?_ _)|(with_reducible refine Kd.qA ?_ _)|(with_reducible refine Kd.qR ?_)|exact ai.out)) hb)
    have aZ:=zA.mk (Kd.qD (by repeat(first|(with_reducible exact aj.out)|(with_reducible refine Kd.zy ?_ _)|(with_reducible refine Kd.qA ?_ _)|(with_reducible refine Kd.qR ?_)|exact aj.out)) hb)
    have a1:=zA.mk (zM (by repeat(first|(with_reducible first|exact HB.out|apply zC|apply zB|apply zD)|exact HB.out)) hb)
    clear ab;clear ae;clear ai;clear aj;clear HB;have ab:=aw;have ae:=ax;have a2:=ay;have ai:=aY;have aj:=aZ;have HB:=a1;clear aw ax ay aY aZ a1;clear hb a8;refine hK.out _ _ trivial (fun hHeld=>?_)
    clear hK K;refine QE (a':=?_) ?_ ?_
    rotate_left
    next=>
     show Act.put _ (some 27) _=_
     simp only [Act.put,yay,yby,ycy,zX,za]
     rfl
    refine zA4 (i:=4) (N:=some 31) #[true,true,true,true,true,true,true,true,true,false,false] rfl rfl (QG HT_.out (by kernel_rfl)) (by decide) (fun K hK=>?_)
    refine Kd.QZ (Kd.int .i64) (w0:=w) w.heap.size (by rfl) (.tmp 27) (.tmp 30) 22 2 (.int .i64 0) 8 rfl Try.underlying22 Jp rfl (by decide) (by omega) bN aD an _ _ _ (fun k_=>some k_≠(.slice (some ah) aa.length aA:Value).ownBlock∧some k_≠(au:Value).ownBlock) (fun _=>False) rfl rfl ?aO ?aR (fun _ _ h=>h) (fun _ h=>h.elim) ?aF ?aB ?aS ?aL ?_
    (case aR=>repeat(first|exact(by repeat(first|(with_reducible exact ai.out)|(with_reducible refine Kd.zy ?_ _)|(with_reducible refine Kd.qA ?_ _)|(with_reducible refine Kd.qR ?_)|exact ai.out))|(with_reducible refine Kd.zy ?_ _)|(with_reducible refine Kd.qA ?_ _)|(with_reducible refine Kd.qR ?_)))
    (case aB=>exact(by repeat(first|(with_reducible first|exact HB.out|apply zC|apply zB|apply zD)|exact HB.out)))
    (case aF=>exact(fun k_ hk=>⟨Kd.JQ (Kd.JO (by(with_reducible repeat(first|apply Kd.zS|apply Kd.zT|apply Kd.zZ));exact ab.out)) k_ hk,Kd.JQ (Kd.JO (by(with_reducible repeat(first|apply Kd.zS|apply Kd.zT|apply Kd.zZ));exact ae.out)) k_ hk⟩))
    (case aO=>exact(by(with_reducible repeat(first|apply Kd.zS|apply Kd.zT|apply Kd.zZ));exact Kd.qC a2.out (fun _ hk=>⟨hk.1.2,hk.2⟩)))
    (case aS=>exact(zQ (by repeat(first|(with_reducible first|exact HB.out|apply zC|apply zB|apply zD)|exact HB.out))))
    (case aL=>have:=bt.out;omega)
    intro bO cN ho hb hg hat
    rw[← bu.out]at ho
    have aw:=zA.mk (Kd.ZK (ok:=(fun k_=>some k_≠(au:Value).ownBlock)) (by(with_reducible repeat(first|apply Kd.zS|apply Kd.zT|apply Kd.zZ));exact Kd.qC ab.out (fun _ hk=>⟨hk.1.2,hk.2⟩)) hg hat)
    have ax:=zA.mk (Kd.ZK (ok:=(fun k_=>some k_≠(.slice (some ah) aa.length aA:Value).ownBlock)) (by(with_reducible repeat(first|apply Kd.zS|apply Kd.zT|apply Kd.zZ));exact ae.out) hg hat)
    have ay:=zA.mk (hb)
    have aY:=zA.mk ((show Kd.C (Kd.int .i64) cN (some ah) an.length an from by rw[aE.out];exact Kd.zCf (m:=((al):Int).toNat) ((Kd.zq (Kd.ZK (ok:=(fun k_=>some k_≠(au:Value).ownBlock)) (by(with_reducible repeat(first|apply Kd.zS|apply Kd.zT|apply Kd.zZ));exact Kd.qC ab.out (fun _ hk=>⟨hk.1.2,hk.2⟩)) hg hat)).2.2) b6.out))
    have aZ:=zA.mk ((show Kd.C (Kd.int .i64) cN cw ag.length ag from by rw[aG.out,b9.out];exact Kd.zCg (m:=((ak):Int).toNat) (c:=aA) ((Kd.zq (Kd.ZK (ok:=(fun k_=>some k_≠(au:Value).ownBlock)) (by(with_reducible repeat(first|apply Kd.zS|apply Kd.zT|apply Kd.zZ));exact Kd.qC ab.out (fun _ hk=>⟨hk.1.2,hk.2⟩)) hg hat)).2.2) b_.out ((Kd.zq (Kd.ZK (ok:=(fun k_=>some k_≠(au:Value).ownBlock)) (by(with_reducible repeat(first|apply Kd.zS|apply Kd.zT|apply Kd.zZ));exact Kd.qC ab.out (fun _ hk=>⟨hk.1.2,hk.2⟩)) hg hat)).2.1)))
    have a1:=zA.mk (ho)
    clear ab;clear ae;clear HB;clear ai;clear aj;clear a2;have ab:=aw;have ae:=ax;have HB:=ay;have ai:=aY;have aj:=aZ;have a5:=a1;clear aw ax ay aY aZ a1;clear ho hb hg hat;refine hK.out _ _ trivial (fun hHeld=>?_)
    clear hK K;refine QE (a':=?_) ?_ ?_
    rotate_left
    next=>
     show Act.put _ (some 31) _=_
     simp only [Act.put,yay,yby,ycy,zX,za]
     rfl
    refine zA4 (i:=9) (N:=some 36) #[true,true,true,true,true,true,true,true,true,true,false] rfl rfl (QG HT_.out (by kernel_rfl)) (by decide) (fun K hK=>?_)
    refine Kd.QZ (Kd.int .i64) (w0:=w) w.heap.size (by rfl) (.tmp 31) (.tmp 35) 22 2 (.int .i64 0) 8 rfl Try.underlying22 Jp rfl (by decide) (by omega) bO ar ag _ _ _ (fun k_=>some k_≠(.slice (some ah) aa.length aA:Value).ownBlock∧some k_≠(au:Value).ownBlock) (fun _=>False) rfl rfl ?aO ?aR (fun _ _ h=>h) (fun _ h=>h.elim) ?aF ?aB ?aS ?aL ?_
    (case aR=>repeat(first|exact(by repeat(first|(with_reducible exact aj.out)|(with_reducible refine Kd.zy ?_ _)|(with_reducible refine Kd.qA ?_ _)|(with_reducible refine Kd.qR ?_)|exact aj.out))|(with_reducible refine Kd.zy ?_ _)|(with_reducible refine Kd.qA ?_ _)|(with_reducible refine Kd.qR ?_)))
    (case aB=>exact(by repeat(first|(with_reducible first|exact HB.out|apply zC|apply zB|apply zD)|exact HB.out)))
    (case aF=>exact(fun k_ hk=>⟨Kd.JQ (Kd.JO (by(with_reducible repeat(first|apply Kd.zS|apply Kd.zT|apply Kd.zZ));exact ab.out)) k_ hk,Kd.JQ (Kd.JO (by(with_reducible repeat(first|apply Kd.zS|apply Kd.zT|apply Kd.zZ));exact ae.out)) k_ hk⟩))
    (case aO=>exact(by(with_reducible repeat(first|apply Kd.zS|apply Kd.zT|apply Kd.zZ));exact a5.out))
    (case aS=>exact(zQ (by repeat(first|(with_reducible first|exact HB.out|apply zC|apply zB|apply zD)|exact HB.out))))
    (case aL=>have:=bw.out;omega)
    intro cx cO ho hb hg hat
    rw[← bx.out]at ho
    have aw:=zA.mk (Kd.ZK (ok:=(fun k_=>some k_≠(au:Value).ownBlock)) (by(with_reducible repeat(first|apply Kd.zS|apply Kd.zT|apply Kd.zZ));exact ab.out) hg hat)
    have ax:=zA.mk (Kd.ZK (ok:=(fun k_=>some k_≠(.slice (some ah) aa.length aA:Value).ownBlock)) (by(with_reducible repeat(first|apply Kd.zS|apply Kd.zT|apply Kd.zZ));exact ae.out) hg hat)
    have ay:=zA.mk (hb)
    have aY:=zA.mk ((show Kd.C (Kd.int .i64) cO (some ah) an.length an from by rw[aE.out];exact Kd.zCf (m:=((al):Int).toNat) ((Kd.zq (Kd.ZK (ok:=(fun k_=>some k_≠(au:Value).ownBlock)) (by(with_reducible repeat(first|apply Kd.zS|apply Kd.zT|apply Kd.zZ));exact ab.out) hg hat)).2.2) b6.out))
    have aZ:=zA.mk ((show Kd.C (Kd.int .i64) cO cw ag.length ag from by rw[aG.out,b9.out];exact Kd.zCg (m:=((ak):Int).toNat) (c:=aA) ((Kd.zq (Kd.ZK (ok:=(fun k_=>some k_≠(au:Value).ownBlock)) (by(with_reducible repeat(first|apply Kd.zS|apply Kd.zT|apply Kd.zZ));exact ab.out) hg hat)).2.2) b_.out ((Kd.zq (Kd.ZK (ok:=(fun k_=>some k_≠(au:Value).ownBlock)) (by(with_reducible repeat(first|apply Kd.zS|apply Kd.zT|apply Kd.zZ));exact ab.out) hg hat)).2.1)))
    have a1:=zA.mk (ho)
    clear ab;clear ae;clear HB;clear ai;clear aj;clear a5;have ab:=aw;have ae:=ax;have HB:=ay;have ai:=aY;have aj:=aZ;have bh:=a1;clear aw ax ay aY aZ a1;clear ho hb hg hat;refine hK.out _ _ trivial (fun hHeld=>?_)
    clear hK K;refine QE (a':=?_) ?_ ?_
    rotate_left
    next=>
     show Act.put _ (some 36) _=_
     simp only [Act.put,yay,yby,ycy,zX,za]
     rfl
    refine zg (i:=10) (N:=some 3) (v:=?_) (a':=?_) #[true,true,true,true,true,true,true,true,true,true,true] rfl rfl (zm HT_.out (by kernel_rfl)) (fun _ _ _ h=>h) (Or.inl ⟨by rfl,?_⟩) ?_ ?_
    rotate_left
    next=>
     intro w';go_simp;with_reducible rfl
    rotate_left
    next=>
     simp only [Act.put,yay,yby,ycy,zX,za]
     rfl
    refine Qo (Qp HT_.out (by kernel_rfl)) ?_
    try go_wp2
    go_roundg k1
    case measure=>have:=ch.out;omega
    case rel=>exact⟨(Int.tmod aq af),(ao),(av),(af),(wrap64 (ad-1)),(by first|rfl|(simp;done)|(simp [*];done)),(by first|rfl|(simp;done)|(simp [*];done)),(by first|rfl|(simp;done)|(simp [*];done)),H',⟨by have:=ch.out;omega⟩,⟨by(with_reducible repeat(first|apply Kd.zS|apply Kd.zT|apply Kd.zZ));exact Kd.qC bh.out (fun _ hk=>hk.2)⟩,⟨by(with_reducible repeat(first|apply Kd.zS|apply Kd.zT|apply Kd.zZ));exact Kd.qC ae.out (fun _ hk=>hk.2)⟩,⟨by repeat(first|(with_reducible first|exact HB.out|apply zC|apply zB|apply zD)|exact HB.out)⟩⟩
   rw[if_pos bV]at H
   have b2:decide (0<ad)=true:=ygy bV
   clear bV;by_cases cn:ad=0
   next=>
    rw[if_pos cn]at H
    exact absurd H (by simp)
   rw[if_neg cn]at H
   have cP:(ad==0)=false:=beq_eq_false_iff_ne.mpr cn
   have cQ:(ad != 0)=true:=bne_iff_ne.mpr cn
   have H':=zA.mk H
   clear H;obtain⟨c8,aC,cy⟩:=Kd.ZE ab.out
   subst cy;have a6:0≤((al):Int):=of_decide_eq_true (by first|(with_reducible assumption)|assumption)
   have a7:(al)<(aa.length:Int):=of_decide_eq_true (by first|(with_reducible assumption)|assumption)
   obtain⟨ah,bH,bk⟩:=Kd.qw (Kd.zq ab.out).2.2 (al) a6 a7
   cases bH
   replace a6:=eq_true a6
   replace a7:=eq_true a7
   try go_wp2_with (first|((with_reducible refine ZN (b := .append) (xs:=#[.tmp 20,.tmp 25]) rfl ?_);at_builtin;refine Kd.Qn (Kd.int .i64) (w0:=w) w.heap.size rfl (.tmp 20) (.tmp 25) 22 2 (.int .i64 0) 8 rfl Try.underlying22 Jp rfl (by decide) (by omega) u4 aH (rd aa (al)) [.int .i64 (rd aa (al))] (fun k_=>some k_≠(.slice (some ah) aa.length aC:Value).ownBlock) (fun _=>False) rfl rfl ?aP (fun _ hk=>hk.elim) ?aF ?aO ?aB ?aS ?aL ?_;(case aP=>exact rfl);(case aB=>exact(by repeat(first|(with_reducible first|exact HB.out|apply zC|apply zB|apply zD)|exact HB.out)));(case aF=>exact(fun k_ hk=>Kd.JQ (Kd.JO (by(with_reducible repeat(first|apply Kd.zS|apply Kd.zT|apply Kd.zZ));exact ab.out)) k_ hk));(case aO=>exact(by(with_reducible repeat(first|apply Kd.zS|apply Kd.zT|apply Kd.zZ));exact bd.out));(case aS=>exact(zQ (by repeat(first|(with_reducible first|exact HB.out|apply zC|apply zB|apply zD)|exact HB.out))));(case aL=>have:=br.out;omega);intro au c_ ho hb hg hat;rw[← bs.out]at ho;have aw:=zA.mk (Kd.ZK (ok:=(fun _=>True)) (by(with_reducible repeat(first|apply Kd.zS|apply Kd.zT|apply Kd.zZ));exact Kd.qC ab.out (fun _ hk=>⟨trivial,hk⟩)) hg hat);have ax:=zA.mk (hb);have ay:=zA.mk (ho);clear ab;clear HB;clear bd;have ab:=aw;have HB:=ax;have ae:=ay;clear aw ax ay;clear ho hb hg hat))
   have aw:=zA.mk (Kd.zZ ab.out)
   have ax:=zA.mk (Kd.zZ ae.out)
   have ay:=zA.mk (zD HB.out)
   clear ab;clear ae;clear HB;have ab:=aw;have ae:=ax;have HB:=ay;clear aw ax ay;have cz:((al):Int)≤((aa.length:Int):Int):=of_decide_eq_true (by first|(with_reducible assumption)|assumption)
   obtain⟨da,bC,_,ca,_⟩:=info_parts Jp
   have bc:aa.length≤aC:=(Kd.zq ab.out).2.1
   have cb:Kd.C (Kd.int .i64) _ (some ah) aa.length aa:=(Kd.zq ab.out).2.2
   have bP:=zI9 (P:=Try.prog) 22 2 .i64 Try.underlying22 bC (some ah) aa.length aC (al) (of_decide_eq_true (by first|(with_reducible assumption)|assumption)) cz bc
   have bQ:=Kd.zCf (m:=((al):Int).toNat) cb (by omega)
   have bR:an.length=((al):Int).toNat:=(by rw[aE.out,ymy];omega)
   rw[← aE.out]at bQ
   rw[← bR]at bP
   have ai:=zA.mk bQ
   have b5:=zA.mk (show an.length≤aC from by omega)
   clear bQ cb bc bC ca;have db:=zA.mk bR
   clear bR;have cc:=zA.mk (show((al):Int).toNat≤aa.length from by omega)
   replace cz:=eq_true cz
   have cA:((ak):Int)≤((aa.length:Int):Int):=of_decide_eq_true (by first|(with_reducible assumption)|assumption)
   obtain⟨dc,bD,_,bE,_⟩:=info_parts Jp
   have aJ:aa.length≤aC:=(Kd.zq ab.out).2.1
   have cd:Kd.C (Kd.int .i64) _ (some ah) aa.length aa:=(Kd.zq ab.out).2.2
   have cB:(0:Int)≤((ak):Int):=of_decide_eq_true (by first|(with_reducible assumption)|assumption)
   have bS:=zF7 (P:=Try.prog) 22 2 .i64 Try.underlying22 bD 1 bE (some ah) aa.length aC (ak) cB cA
   have bj:=Kd.zCg (m:=((ak):Int).toNat) (c:=aC) cd (by omega) aJ
   obtain⟨cC,bn⟩ : ∃ A1,A1=(if aC=((ak):Int).toNat then(some ah)else((some ah):Option Addr).map (·.add (((ak):Int).toNat*1))):=⟨_,rfl⟩
   obtain⟨dd,bT⟩ : ∃ c1,c1=aC-((ak):Int).toNat:=⟨_,rfl⟩
   have bo:ag.length=aa.length-((ak):Int).toNat:=(by rw[aG.out,yly] <;> omega)
   rw[show(aa).drop ((ak):Int).toNat=ag from aG.out.symm]at bj
   replace bj:Kd.C (Kd.int .i64) _ cC ag.length ag:=(by rw[bn];exact bj)
   rw[← bo,← bn,← bT]at bS
   have aj:=zA.mk bj
   have b8:=zA.mk (show ag.length≤dd from by rw[bo,bT];exact Nat.sub_le_sub_right aJ _)
   clear bj cd aJ bD bE bT;have de:=zA.mk bo
   have cf:=zA.mk bn
   clear bo bn;have cg:=zA.mk (show((ak):Int).toNat≤aa.length from by omega)
   replace cA:=eq_true cA
   refine Zv (n:=11) (S:=fun w'=>True) (ds := []) #[false,false,false,false,false,false,false,false,false,false,false] (by kernel_rfl) rfl rfl trivial (fun hHeld=>?_);refine Zn zW.tab10 zW.zIH (fun HT_ HW_=>?_)
   generalize c_.drew=dh at ab ae HB ai aj hHeld ⊢
   refine zg (i:=1) (N:=some 28) (v:=?_) (a':=?_) #[false,true,false,false,false,false,false,false,false,false,false] rfl rfl (zm HT_.out (by kernel_rfl)) (fun _ _ _ h=>h) (Or.inl ⟨by rfl,?_⟩) ?_ ?_
   rotate_left
   next=>
    intro w';go_simp;with_reducible rfl
   rotate_left
   next=>
    simp only [Act.put,yay,yby,ycy,zX,za]
    rfl
   refine zg (i:=2) (N:=some 29) (v:=?_) (a':=?_) #[false,true,true,false,false,false,false,false,false,false,false] rfl rfl (zm HT_.out (by kernel_rfl)) (fun _ _ _ h=>h) (Or.inl ⟨by rfl,?_⟩) ?_ ?_
   rotate_left
   next=>
    intro w';go_simp;with_reducible rfl
   rotate_left
   next=>
    simp only [Act.put,yay,yby,ycy,zX,za]
    rfl
   refine zg (i:=3) (N:=some 30) (v:=?_) (a':=?_) #[false,true,true,true,false,false,false,false,false,false,false] rfl rfl (zm HT_.out (by kernel_rfl)) (fun _ _ _ h=>h) (Or.inl ⟨by rfl,?_⟩) ?_ ?_
   rotate_left
   next=>
    intro w';go_simp;with_reducible rfl
   rotate_left
   next=>
    simp only [Act.put,yay,yby,ycy,zX,za]
    rfl
   refine zg (i:=5) (N:=some 32) (v:=?_) (a':=?_) #[false,true,true,true,false,true,false,false,false,false,false] rfl rfl (zm HT_.out (by kernel_rfl)) (fun _ _ _ h=>h) (Or.inl ⟨by rfl,?_⟩) ?_ ?_
   rotate_left
   next=>
    intro w';go_simp;with_reducible rfl
   rotate_left
   next=>
    simp only [Act.put,yay,yby,ycy,zX,za]
    rfl
   refine zg (i:=6) (N:=some 33) (v:=?_) (a':=?_) #[false,true,true,true,false,true,true,false,false,false,false] rfl rfl (zm HT_.out (by kernel_rfl)) (fun _ _ _ h=>h) (Or.inl ⟨by rfl,?_⟩) ?_ ?_
   rotate_left
   next=>
    intro w';go_simp;with_reducible rfl
   rotate_left
   next=>
    simp only [Act.put,yay,yby,ycy,zX,za]
    rfl
   refine zg (i:=7) (N:=some 34) (v:=?_) (a':=?_) #[false,true,true,true,false,true,true,true,false,false,false] rfl rfl (zm HT_.out (by kernel_rfl)) (fun _ _ _ h=>h) (Or.inl ⟨by rfl,?_⟩) ?_ ?_
   rotate_left
   next=>
    intro w';go_simp;with_reducible rfl
   rotate_left
   next=>
    simp only [Act.put,yay,yby,ycy,zX,za]
    rfl
   refine zg (i:=8) (N:=some 35) (v:=?_) (a':=?_) #[false,true,true,true,false,true,true,true,true,false,false] rfl rfl (zm HT_.out (by kernel_rfl)) (fun _ _ _ h=>h) (Or.inl ⟨by rfl,?_⟩) ?_ ?_
   rotate_left
   next=>
    intro w';go_simp;with_reducible rfl
   rotate_left
   next=>
    simp only [Act.put,yay,yby,ycy,zX,za]
    rfl
   refine zA4 (i:=0) (N:=some 27) #[true,true,true,true,false,true,true,true,true,false,false] rfl rfl (QG HT_.out (by kernel_rfl)) (by decide) (fun K hK=>?_)
   refine Kd.zAd (Kd.int .i64) _ 2 ?hg (N:=27) ?hd (xs:=([]:List Int)) (inner := []) (ok:=fun _=>True) (okp:=fun _=>True) ?hr ?hp (fun _ hk=>hk) trivial (ysy _ _) (yry _) (by simp) ?_;(case hd=>rfl);(case hg=>rfl);(case hr=>first|(go_simp;done)|(go_simp;rfl));(case hp=>exact(QN.none _ _))
   intro bN di a_ hb hg_ hnew_
   clear hg_ hnew_
   (first|rw[← ba.out]at a_|(simp only [Int.reduceToNat]at a_;rw[← ba.out]at a_))
   have aw:=zA.mk (Kd.Zs (by(with_reducible repeat(first|apply Kd.zS|apply Kd.zT|apply Kd.zZ));exact ab.out) (Kd.Zw a_) hb)
   have ax:=zA.mk (Kd.Zs (by(with_reducible repeat(first|apply Kd.zS|apply Kd.zT|apply Kd.zZ));exact ae.out) (Kd.Zw a_) hb)
   have ay:=zA.mk (Kd.qx (Kd.JP (Kd.JP a_ (Kd.JO (by(with_reducible repeat(first|apply Kd.zS|apply Kd.zT|apply Kd.zZ));exact ab.out))) (Kd.JO (by(with_reducible repeat(first|apply Kd.zS|apply Kd.zT|apply Kd.zZ));exact ae.out))) (zQ (by repeat(first|(with_reducible first|exact HB.out|apply zC|apply zB|apply zD)|exact HB.out))))
   have aY:=zA.mk (Kd.qD (by repeat(first|(with_reducible exact ai.out)|(with_reducible refine Kd.zy ?_ _)|(with_reducible refine Kd.qA ?_ _)|(with_reducible refine Kd.qR ?_)|exact ai.out)) hb)
   have aZ:=zA.mk (Kd.qD (by repeat(first|(with_reducible exact aj.out)|(with_reducible refine Kd.zy ?_ _)|(with_reducible refine Kd.qA ?_ _)|(with_reducible refine Kd.qR ?_)|exact aj.out)) hb)
   have a1:=zA.mk (zM (by repeat(first|(with_reducible first|exact HB.out|apply zC|apply zB|apply zD)|exact HB.out)) hb)
   clear ab;clear ae;clear ai;clear aj;clear HB;have ab:=aw;have ae:=ax;have a2:=ay;have ai:=aY;have aj:=aZ;have HB:=a1;clear aw ax ay aY aZ a1;clear hb a_;refine hK.out _ _ trivial (fun hHeld=>?_)
   clear hK K;refine QE (a':=?_) ?_ ?_
   rotate_left
   next=>
    show Act.put _ (some 27) _=_
    simp only [Act.put,yay,yby,ycy,zX,za]
    rfl
   refine zA4 (i:=4) (N:=some 31) #[true,true,true,true,true,true,true,true,true,false,false] rfl rfl (QG HT_.out (by kernel_rfl)) (by decide) (fun K hK=>?_)
   refine Kd.QZ (Kd.int .i64) (w0:=w) w.heap.size (by rfl) (.tmp 27) (.tmp 30) 22 2 (.int .i64 0) 8 rfl Try.underlying22 Jp rfl (by decide) (by omega) bN aD an _ _ _ (fun k_=>some k_≠(.slice (some ah) aa.length aC:Value).ownBlock∧some k_≠(au:Value).ownBlock) (fun _=>False) rfl rfl ?aO ?aR (fun _ _ h=>h) (fun _ h=>h.elim) ?aF ?aB ?aS ?aL ?_
   (case aR=>repeat(first|exact(by repeat(first|(with_reducible exact ai.out)|(with_reducible refine Kd.zy ?_ _)|(with_reducible refine Kd.qA ?_ _)|(with_reducible refine Kd.qR ?_)|exact ai.out))|(with_reducible refine Kd.zy ?_ _)|(with_reducible refine Kd.qA ?_ _)|(with_reducible refine Kd.qR ?_)))
   (case aB=>exact(by repeat(first|(with_reducible first|exact HB.out|apply zC|apply zB|apply zD)|exact HB.out)))
   (case aF=>exact(fun k_ hk=>⟨Kd.JQ (Kd.JO (by(with_reducible repeat(first|apply Kd.zS|apply Kd.zT|apply Kd.zZ));exact ab.out)) k_ hk,Kd.JQ (Kd.JO (by(with_reducible repeat(first|apply Kd.zS|apply Kd.zT|apply Kd.zZ));exact ae.out)) k_ hk⟩))
   (case aO=>exact(by(with_reducible repeat(first|apply Kd.zS|apply Kd.zT|apply Kd.zZ));exact Kd.qC a2.out (fun _ hk=>⟨hk.1.2,hk.2⟩)))
   (case aS=>exact(zQ (by repeat(first|(with_reducible first|exact HB.out|apply zC|apply zB|apply zD)|exact HB.out))))
   (case aL=>have:=bt.out;omega)
   intro bO cR ho hb hg hat
   rw[← bu.out]at ho
   have aw:=zA.mk (Kd.ZK (ok:=(fun k_=>some k_≠(au:Value).ownBlock)) (by(with_reducible repeat(first|apply Kd.zS|apply Kd.zT|apply Kd.zZ));exact Kd.qC ab.out (fun _ hk=>⟨hk.1.2,hk.2⟩)) hg hat)
   have ax:=zA.mk (Kd.ZK (ok:=(fun k_=>some k_≠(.slice (some ah) aa.length aC:Value).ownBlock)) (by(with_reducible repeat(first|apply Kd.zS|apply Kd.zT|apply Kd.zZ));exact ae.out) hg hat)
   have ay:=zA.mk (hb)
   have aY:=zA.mk ((show Kd.C (Kd.int .i64) cR (some ah) an.length an from by rw[aE.out];exact Kd.zCf (m:=((al):Int).toNat) ((Kd.zq (Kd.ZK (ok:=(fun k_=>some k_≠(au:Value).ownBlock)) (by(with_reducible repeat(first|apply Kd.zS|apply Kd.zT|apply Kd.zZ));exact Kd.qC ab.out (fun _ hk=>⟨hk.1.2,hk.2⟩)) hg hat)).2.2) cc.out))
   have aZ:=zA.mk ((show Kd.C (Kd.int .i64) cR cC ag.length ag from by rw[aG.out,cf.out];exact Kd.zCg (m:=((ak):Int).toNat) (c:=aC) ((Kd.zq (Kd.ZK (ok:=(fun k_=>some k_≠(au:Value).ownBlock)) (by(with_reducible repeat(first|apply Kd.zS|apply Kd.zT|apply Kd.zZ));exact Kd.qC ab.out (fun _ hk=>⟨hk.1.2,hk.2⟩)) hg hat)).2.2) cg.out ((Kd.zq (Kd.ZK (ok:=(fun k_=>some k_≠(au:Value).ownBlock)) (by(with_reducible repeat(first|apply Kd.zS|apply Kd.zT|apply Kd.zZ));exact Kd.qC ab.out (fun _ hk=>⟨hk.1.2,hk.2⟩)) hg hat)).2.1)))
   have a1:=zA.mk (ho)
   clear ab;clear ae;clear HB;clear ai;clear aj;clear a2;have ab:=aw;have ae:=ax;have HB:=ay;have ai:=aY;have aj:=aZ;have a5:=a1;clear aw ax ay aY aZ a1;clear ho hb hg hat;refine hK.out _ _ trivial (fun hHeld=>?_)
   clear hK K;refine QE (a':=?_) ?_ ?_
   rotate_left
   next=>
    show Act.put _ (some 31) _=_
    simp only [Act.put,yay,yby,ycy,zX,za]
    rfl
   refine zA4 (i:=9) (N:=some 36) #[true,true,true,true,true,true,true,true,true,true,false] rfl rfl (QG HT_.out (by kernel_rfl)) (by decide) (fun K hK=>?_)
   refine Kd.QZ (Kd.int .i64) (w0:=w) w.heap.size (by rfl) (.tmp 31) (.tmp 35) 22 2 (.int .i64 0) 8 rfl Try.underlying22 Jp rfl (by decide) (by omega) bO ar ag _ _ _ (fun k_=>some k_≠(.slice (some ah) aa.length aC:Value).ownBlock∧some k_≠(au:Value).ownBlock) (fun _=>False) rfl rfl ?aO ?aR (fun _ _ h=>h) (fun _ h=>h.elim) ?aF ?aB ?aS ?aL ?_
   (case aR=>repeat(first|exact(by repeat(first|(with_reducible exact aj.out)|(with_reducible refine Kd.zy ?_ _)|(with_reducible refine Kd.qA ?_ _)|(with_reducible refine Kd.qR ?_)|exact aj.out))|(with_reducible refine Kd.zy ?_ _)|(with_reducible refine Kd.qA ?_ _)|(with_reducible refine Kd.qR ?_)))
   (case aB=>exact(by repeat(first|(with_reducible first|exact HB.out|apply zC|apply zB|apply zD)|exact HB.out)))
   (case aF=>exact(fun k_ hk=>⟨Kd.JQ (Kd.JO (by(with_reducible repeat(first|apply Kd.zS|apply Kd.zT|apply Kd.zZ));exact ab.out)) k_ hk,Kd.JQ (Kd.JO (by(with_reducible repeat(first|apply Kd.zS|apply Kd.zT|apply Kd.zZ));exact ae.out)) k_ hk⟩))
   (case aO=>exact(by(with_reducible repeat(first|apply Kd.zS|apply Kd.zT|apply Kd.zZ));exact a5.out))
   (case aS=>exact(zQ (by repeat(first|(with_reducible first|exact HB.out|apply zC|apply zB|apply zD)|exact HB.out))))
   (case aL=>have:=bw.out;omega)
   intro cx cS ho hb hg hat
   rw[← bx.out]at ho
   have aw:=zA.mk (Kd.ZK (ok:=(fun k_=>some k_≠(au:Value).ownBlock)) (by(with_reducible repeat(first|apply Kd.zS|apply Kd.zT|apply Kd.zZ));exact ab.out) hg hat)
   have ax:=zA.mk (Kd.ZK (ok:=(fun k_=>some k_≠(.slice (some ah) aa.length aC:Value).ownBlock)) (by(with_reducible repeat(first|apply Kd.zS|apply Kd.zT|apply Kd.zZ));exact ae.out) hg hat)
   have ay:=zA.mk (hb)
   have aY:=zA.mk ((show Kd.C (Kd.int .i64) cS (some ah) an.length an from by rw[aE.out];exact Kd.zCf (m:=((al):Int).toNat) ((Kd.zq (Kd.ZK (ok:=(fun k_=>some k_≠(au:Value).ownBlock)) (by(with_reducible repeat(first|apply Kd.zS|apply Kd.zT|apply Kd.zZ));exact ab.out) hg hat)).2.2) cc.out))
   have aZ:=zA.mk ((show Kd.C (Kd.int .i64) cS cC ag.length ag from by rw[aG.out,cf.out];exact Kd.zCg (m:=((ak):Int).toNat) (c:=aC) ((Kd.zq (Kd.ZK (ok:=(fun k_=>some k_≠(au:Value).ownBlock)) (by(with_reducible repeat(first|apply Kd.zS|apply Kd.zT|apply Kd.zZ));exact ab.out) hg hat)).2.2) cg.out ((Kd.zq (Kd.ZK (ok:=(fun k_=>some k_≠(au:Value).ownBlock)) (by(with_reducible repeat(first|apply Kd.zS|apply Kd.zT|apply Kd.zZ));exact ab.out) hg hat)).2.1)))
   have a1:=zA.mk (ho)
   clear ab;clear ae;clear HB;clear ai;clear aj;clear a5;have ab:=aw;have ae:=ax;have HB:=ay;have ai:=aY;have aj:=aZ;have bh:=a1;clear aw ax ay aY aZ a1;clear ho hb hg hat;refine hK.out _ _ trivial (fun hHeld=>?_)
   clear hK K;refine QE (a':=?_) ?_ ?_
   rotate_left
   next=>
    show Act.put _ (some 36) _=_
    simp only [Act.put,yay,yby,ycy,zX,za]
    rfl
   refine zg (i:=10) (N:=some 3) (v:=?_) (a':=?_) #[true,true,true,true,true,true,true,true,true,true,true] rfl rfl (zm HT_.out (by kernel_rfl)) (fun _ _ _ h=>h) (Or.inl ⟨by rfl,?_⟩) ?_ ?_
   rotate_left
   next=>
    intro w';go_simp;with_reducible rfl
   rotate_left
   next=>
    simp only [Act.put,yay,yby,ycy,zX,za]
    rfl
   refine Qo (Qp HT_.out (by kernel_rfl)) ?_
   try go_wp2
   go_roundg k1
   case measure=>have:=ch.out;omega
   case rel=>exact⟨(Int.tmod aq af),(ao),(av),(wrap64 (Int.tdiv af ad)),(wrap64 (ad-1)),(by first|rfl|(simp;done)|(simp [*];done)),(by first|rfl|(simp;done)|(simp [*];done)),(by first|rfl|(simp;done)|(simp [*];done)),H',⟨by have:=ch.out;omega⟩,⟨by(with_reducible repeat(first|apply Kd.zS|apply Kd.zT|apply Kd.zZ));exact Kd.qC bh.out (fun _ hk=>hk.2)⟩,⟨by(with_reducible repeat(first|apply Kd.zS|apply Kd.zT|apply Kd.zZ));exact Kd.qC ae.out (fun _ hk=>hk.2)⟩,⟨by repeat(first|(with_reducible first|exact HB.out|apply zC|apply zB|apply zD)|exact HB.out)⟩⟩
def qi.f (k:Nat) (a0:Int) (a1:Int):Option (Int):=(zW.f k a0).bind fun t101=>(if 0≤a1 then(if a1<(t101.length:Int)then(some (rd t101 a1))else(none))else(none))
set_option maxHeartbeats 8000000 in
set_option maxRecDepth 100000 in
theorem qi.calls (k:Nat) (a0:Int) (a1:Int) (r:Int) (w:World) (h:qi.f k a0 a1=some r) :
    Calls Try.prog 82 #[.int .i64 a0,.int .i64 a1] w fun e w'=>e = .returned (.int .i64 r)∧Below w.heap.size w w':=by
  have HB:=zA.mk (ysy w.heap.size w)
  have H:((zW.f k a0).bind fun t101=>(if 0≤a1 then(if a1<(t101.length:Int)then(some (rd t101 a1))else(none))else(none)))=some r:=h
  clear h;replace H:=ydy.mp H
  obtain⟨t101,ag,H⟩:=H
  replace H:(if 0≤a1 then(if a1<(t101.length:Int)then(some (rd t101 a1))else(none))else(none))=some r:=H
  have A3:=zA.mk ag
  clear ag;by_cases c4:0≤a1
  · rw[if_pos c4]at H
    have al:decide (0≤a1)=true:=ygy c4
    clear c4;by_cases c5:a1<(t101.length:Int)
    · rw[if_pos c5]at H
      have an:decide (a1<(t101.length:Int))=true:=ygy c5
      clear c5;obtain rfl:=yey H
      go_enter Try.func82,Try.ntmps82
      go_wp2_with (first|((with_reducible refine zd (f:=110) rfl ?_);refine qV (some 6) rfl rfl Try.func110 (by kernel_rfl) rfl #[.int .i64 a0] rfl (by(try simp only [yiy,yjy,yky]);first|done|rfl|(simp only [yly,ymy];rfl)) ?_;(with_reducible refine(zW.calls k a0 t101 _ A3.out).mono ?_);rintro e w6 ⟨ao,rfl,ah,hb⟩;refine⟨_,rfl,?_⟩;have ai:=zA.mk (Kd.qx ah (zQ (by repeat(first|(with_reducible first|exact HB.out|apply zC|apply zB|apply zD)|exact HB.out))));have aj:=zA.mk (zM (by repeat(first|(with_reducible first|exact HB.out|apply zC|apply zB|apply zD)|exact HB.out)) hb);clear HB;have aa:=ai;have HB:=aj;clear ai aj;(try clear hb);(try clear hb2);(try clear hk);(try clear hi);(try clear ah);obtain⟨ar,au,aq⟩:=Kd.ZE aa.out;subst aq;have ab:0≤(a1:Int):=of_decide_eq_true (by first|(with_reducible assumption)|assumption);have ad:a1<(t101.length:Int):=of_decide_eq_true (by first|(with_reducible assumption)|assumption);obtain⟨ak,af,ae⟩:=Kd.qw (Kd.zq aa.out).2.2 a1 ab ad;cases af;replace ab:=eq_true ab;replace ad:=eq_true ad))
      go_ret;exact⟨by first|rfl|(simp [zU,zV] <;> rfl)|(simp [*,zU,zV] <;> rfl),by repeat(first|(with_reducible first|exact HB.out|apply zC|apply zB|apply zD)|exact HB.out)⟩
    · rw[if_neg c5]at H
      exact absurd H (by simp)
  · rw[if_neg c4]at H
    exact absurd H (by simp)
mutual
def qB.l0:Nat→List Int→Int→Int→Int→Option (Int)
  | 0,_,_,_,_=>none
  | k+1,x0,x3,x4,x5=>if x5<3 then(if 0≤x5 then(if x5<(x0.length:Int)then(qB.l1 k x0 x3 x4 x5 (rd x0 x5) 0)else(none))else(none))else(some x3)
def qB.l1:Nat→List Int→Int→Int→Int→Int→Int→Option (Int)
  | 0,_,_,_,_,_,_=>none
  | k+1,x0,x3,x4,x5,x6,x7=>if x7<x5 then(if 0≤x7 then(if x7<(x0.length:Int)then(if 0≤x5 then(if x5<(x0.length:Int)then(if(rd x0 x7)<(rd x0 x5)then(qB.l1 k x0 x3 x4 x5 (wrap64 (x6-1)) (wrap64 (x7+1)))else(qB.l1 k x0 x3 x4 x5 x6 (wrap64 (x7+1))))else(none))else(none))else(none))else(none))else(if(wrap64 (3-x5))=0 then(none)else(qB.l0 k x0 (wrap64 (x3+(wrap64 (x4*x6)))) (wrap64 (Int.tdiv x4 (wrap64 (3-x5)))) (wrap64 (x5+1))))
end
def qB.f (k:Nat) (l0:List Int):Option (Int):=qB.l0 k l0 0 6 0
theorem qB.Jn : ∀ k,(∀ y0 y1 y2 y3,LeO (qB.l0 k y0 y1 y2 y3) (qB.l0 (k+1) y0 y1 y2 y3))∧(∀ y0 y1 y2 y3 y4 y5,LeO (qB.l1 k y0 y1 y2 y3 y4 y5) (qB.l1 (k+1) y0 y1 y2 y3 y4 y5))
  | 0=>⟨fun _ _ _ _ r h=>by simp [qB.l0]at h,fun _ _ _ _ _ _ r h=>by simp [qB.l1]at h⟩
  | k+1=>by
    obtain⟨aa,ab⟩:=qB.Jn k
    refine⟨?_,?_⟩
    · intro y0 y1 y2 y3
      unfold qB.l0
      repeat' first
      | (with_reducible exact aa _ _ _ _)
      | (with_reducible exact ab _ _ _ _ _ _)
      | (with_reducible exact LeO.refl _)
      | (with_reducible exact LeO.none _)
      | (with_reducible refine LeO.ite ?_ ?_)
      | (with_reducible refine LeO.bind ?_ (fun _=>?_))
      | exact aa _ _ _ _
      | exact ab _ _ _ _ _ _
      | exact LeO.none _
      | refine LeO.ite ?_ ?_
      | refine LeO.bind ?_ (fun _=>?_)
    · intro y0 y1 y2 y3 y4 y5
      unfold qB.l1
      repeat' first
      | (with_reducible exact aa _ _ _ _)
      | (with_reducible exact ab _ _ _ _ _ _)
      | (with_reducible exact LeO.refl _)
      | (with_reducible exact LeO.none _)
      | (with_reducible refine LeO.ite ?_ ?_)
      | (with_reducible refine LeO.bind ?_ (fun _=>?_))
      | exact aa _ _ _ _
      | exact ab _ _ _ _ _ _
      | exact LeO.none _
      | refine LeO.ite ?_ ?_
      | refine LeO.bind ?_ (fun _=>?_)
theorem qB.mono : ∀ a0 k,LeO (qB.f k a0) (qB.f (k+1) a0):=by
  intro a0 k
  obtain⟨aa,ab⟩:=qB.Jn k
  unfold qB.f
  repeat' first
      | (with_reducible exact aa _ _ _ _)
      | (with_reducible exact ab _ _ _ _ _ _)
      | (with_reducible exact LeO.refl _)
      | (with_reducible exact LeO.none _)
      | (with_reducible refine LeO.ite ?_ ?_)
      | (with_reducible refine LeO.bind ?_ (fun _=>?_))
      | exact aa _ _ _ _
      | exact ab _ _ _ _ _ _
      | exact LeO.none _
      | refine LeO.ite ?_ ?_
      | refine LeO.bind ?_ (fun _=>?_)
set_option maxHeartbeats 8000000 in
set_option maxRecDepth 100000 in
theorem qB.calls (k:Nat) (A0:Option Addr) (c0:Nat) (l0:List Int) (r:Int) (w:World) (aJ:Kd.C (Kd.int .i64) w A0 l0.length l0) (aK:l0.length≤c0) (h:qB.f k l0=some r) :
    Calls Try.prog 114 #[.slice A0 l0.length c0] w fun e w'=>e = .returned (.int .i64 r)∧qG w w':=by
  have aB:=zA.mk aJ
  have aR:=zA.mk aK
  clear aJ aK;have H:(qB.l0 k l0 0 6 0)=some r:=h
  clear h;have H':=zA.mk H
  clear H;go_enter Try.func114,Try.ntmps114
  go_wp2;repeat(go_quiet (fail);try go_wp2)
  go_loopg [3,4,5] k (fun kq v3 v4 v5 w' => ∃ (ak:Int) (ai:Int) (aa:Int),v3 = .int .i64 ak∧v4 = .int .i64 ai∧v5 = .int .i64 aa∧zA (qB.l0 kq l0 ak ai aa=some r)∧zA (kq≤k)∧qG w w')
  case atStart=>exact⟨(0),(6),(0),(by first|rfl|(simp;done)|(simp [*];done)),(by first|rfl|(simp;done)|(simp [*];done)),(by first|rfl|(simp;done)|(simp [*];done)),H',⟨yry _⟩,by repeat(first|exact qG.refl _|apply qG.step)⟩
  case round=>
    clear H';(try clear c1);obtain⟨ak,ai,aa,rfl,rfl,rfl,HA,ay,⟨m1,rfl⟩⟩:=hrel
    cases gk with
    | zero=>exact absurd HA.out (by simp [qB.l0])
    | succ k1=>
      have H:=HA.out
      clear HA;simp only [qB.l0]at H
      by_cases c2:aa<3
      · rw[if_pos c2]at H
        have aC:decide (aa<3)=true:=ygy c2
        clear c2;by_cases c3:0≤aa
        · rw[if_pos c3]at H
          have aF:decide (0≤aa)=true:=ygy c3
          clear c3;by_cases c4:aa<(l0.length:Int)
          · rw[if_pos c4]at H
            have aG:decide (aa<(l0.length:Int))=true:=ygy c4
            clear c4;have H':=zA.mk H
            clear H;have ao:0≤(aa:Int):=of_decide_eq_true (by first|(with_reducible assumption)|assumption)
            have aq:aa<(l0.length:Int):=of_decide_eq_true (by first|(with_reducible assumption)|assumption)
            obtain⟨ah,aH,ar⟩:=Kd.qw aB.out aa ao aq
            cases aH
            replace ao:=eq_true ao
            replace aq:=eq_true aq
            go_wp2;repeat(go_quiet (fail);try go_wp2)
            go_loopg [6,7] k1 (fun kq v6 v7 w' => ∃ (aj:Int) (ab:Int),v6 = .int .i64 aj∧v7 = .int .i64 ab∧zA (qB.l1 kq l0 ak ai aa aj ab=some r)∧zA (kq≤k1)∧qG w w')
            case atStart=>exact⟨(rd l0 aa),(0),(by first|rfl|(simp;done)|(simp [*];done)),(by first|rfl|(simp;done)|(simp [*];done)),H',⟨yry _⟩,by repeat(first|exact qG.refl _|apply qG.step)⟩
            case round=>
              clear H';(try clear c1);(try clear p1);(try clear q1);(try clear hx1);(try clear c2);(try clear aC);(try clear p2);(try clear c3);(try clear aF);(try clear c4);(try clear aG);(try clear ar);(try clear ao);(try clear aq);obtain⟨aj,ab,rfl,rfl,HA,az,⟨m2,rfl⟩⟩:=hrel
              cases gk with
              | zero=>exact absurd HA.out (by simp [qB.l1])
              | succ k2=>
                have H:=HA.out
                clear HA;simp only [qB.l1]at H
                by_cases c5:ab<aa
                · rw[if_pos c5]at H
                  have aI:decide (ab<aa)=true:=ygy c5
                  clear c5;by_cases c6:0≤ab
                  · rw[if_pos c6]at H
                    have aN:decide (0≤ab)=true:=ygy c6
                    clear c6;by_cases c7:ab<(l0.length:Int)
                    · rw[if_pos c7]at H
                      have aO:decide (ab<(l0.length:Int))=true:=ygy c7
                      clear c7;by_cases c8:0≤aa
                      · rw[if_pos c8]at H
                        have aP:decide (0≤aa)=true:=ygy c8
                        clear c8;by_cases c9:aa<(l0.length:Int)
                        · rw[if_pos c9]at H
                          have aQ:decide (aa<(l0.length:Int))=true:=ygy c9
                          clear c9;by_cases aA:(rd l0 ab)<(rd l0 aa)
                          · rw[if_pos aA]at H
                            have aD:decide ((rd l0 ab)<(rd l0 aa))=true:=ygy aA
                            clear aA;have H':=zA.mk H
                            clear H;have ad:0≤(ab:Int):=of_decide_eq_true (by first|(with_reducible assumption)|assumption)
                            have ae:ab<(l0.length:Int):=of_decide_eq_true (by first|(with_reducible assumption)|assumption)
                            obtain⟨al,aw,au⟩:=Kd.qw aB.out ab ad ae
                            obtain rfl:ah=al:=(by injection aw)
                            replace ad:=eq_true ad
                            replace ae:=eq_true ae
                            have af:0≤(aa:Int):=of_decide_eq_true (by first|(with_reducible assumption)|assumption)
                            have ag:aa<(l0.length:Int):=of_decide_eq_true (by first|(with_reducible assumption)|assumption)
                            obtain⟨an,ax,av⟩:=Kd.qw aB.out aa af ag
                            obtain rfl:ah=an:=(by injection ax)
                            replace af:=eq_true af
                            replace ag:=eq_true ag
                            go_wp2;repeat(go_quiet (fail);try go_wp2)
                            go_roundg k2
                            case measure=>have:=ay.out;have:=az.out;omega
                            case rel=>exact⟨(wrap64 (aj-1)),(wrap64 (ab+1)),(by first|rfl|(simp;done)|(simp [*];done)),(by first|rfl|(simp;done)|(simp [*];done)),H',⟨by have:=ay.out;have:=az.out;omega⟩,by repeat(first|exact qG.refl _|apply qG.step)⟩
                          · rw[if_neg aA]at H
                            have aD:decide ((rd l0 ab)<(rd l0 aa))=false:=yhy aA
                            clear aA;have H':=zA.mk H
                            clear H;have ad:0≤(ab:Int):=of_decide_eq_true (by first|(with_reducible assumption)|assumption)
                            have ae:ab<(l0.length:Int):=of_decide_eq_true (by first|(with_reducible assumption)|assumption)
                            obtain⟨al,aw,au⟩:=Kd.qw aB.out ab ad ae
                            obtain rfl:ah=al:=(by injection aw)
                            replace ad:=eq_true ad
                            replace ae:=eq_true ae
                            have af:0≤(aa:Int):=of_decide_eq_true (by first|(with_reducible assumption)|assumption)
                            have ag:aa<(l0.length:Int):=of_decide_eq_true (by first|(with_reducible assumption)|assumption)
                            obtain⟨an,ax,av⟩:=Kd.qw aB.out aa af ag
                            obtain rfl:ah=an:=(by injection ax)
                            replace af:=eq_true af
                            replace ag:=eq_true ag
                            go_wp2;repeat(go_quiet (fail);try go_wp2)
                            go_roundg k2
                            case measure=>have:=ay.out;have:=az.out;omega
                            case rel=>exact⟨(aj),(wrap64 (ab+1)),(by first|rfl|(simp;done)|(simp [*];done)),(by first|rfl|(simp;done)|(simp [*];done)),H',⟨by have:=ay.out;have:=az.out;omega⟩,by repeat(first|exact qG.refl _|apply qG.step)⟩
                        · rw[if_neg c9]at H
                          exact absurd H (by simp)
                      · rw[if_neg c8]at H
                        exact absurd H (by simp)
                    · rw[if_neg c7]at H
                      exact absurd H (by simp)
                  · rw[if_neg c6]at H
                    exact absurd H (by simp)
                · rw[if_neg c5]at H
                  have aI:decide (ab<aa)=false:=yhy c5
                  clear c5;by_cases aE:(wrap64 (3-aa))=0
                  · rw[if_pos aE]at H
                    exact absurd H (by simp)
                  · rw[if_neg aE]at H
                    have aL:((wrap64 (3-aa))==0)=false:=beq_eq_false_iff_ne.mpr aE
                    have aM:((wrap64 (3-aa)) != 0)=true:=bne_iff_ne.mpr aE
                    have H':=zA.mk H
                    clear H;go_wp2;repeat(go_quiet (fail);try go_wp2)
                    go_roundg k2
                    case measure=>have:=ay.out;have:=az.out;omega
                    case rel=>exact⟨(wrap64 (ak+(wrap64 (ai*aj)))),(wrap64 (Int.tdiv ai (wrap64 (3-aa)))),(wrap64 (aa+1)),(by first|rfl|(simp;done)|(simp [*];done)),(by first|rfl|(simp;done)|(simp [*];done)),(by first|rfl|(simp;done)|(simp [*];done)),H',⟨by have:=ay.out;have:=az.out;omega⟩,by repeat(first|exact qG.refl _|apply qG.step)⟩
          · rw[if_neg c4]at H
            exact absurd H (by simp)
        · rw[if_neg c3]at H
          exact absurd H (by simp)
      · rw[if_neg c2]at H
        have aC:decide (aa<3)=false:=yhy c2
        clear c2;obtain rfl:=yey H
        go_wp2;repeat(go_quiet (fail);try go_wp2)
        go_ret;exact⟨by first|rfl|(simp;done)|(simp [*];done),by repeat(first|exact qG.refl _|apply qG.step)⟩
def qM.l0:Nat→List Int→List Int→Int→Option (Int)
  | 0,_,_,_=>none
  | k+1,x3,x4,x5=>if x5<4 then(if 0≤x5 then(if x5<(x3.length:Int)then(if 0≤(rd x3 x5)then(if(rd x3 x5)<(x4.length:Int)then(qM.l0 k x3 (x4.set ((rd x3 x5):Int).toNat x5) (wrap64 (x5+1)))else(none))else(none))else(none))else(none))else((qB.f k x4).bind fun t109=>(some t109))
def qM.f (k:Nat) (a0:Int):Option (Int):=(zW.f k a0).bind fun t101=>(qM.l0 k t101 (([0,0,0,0]:List Int)) 0)
theorem qM.Jn : ∀ k,(∀ y0 y1 y2,LeO (qM.l0 k y0 y1 y2) (qM.l0 (k+1) y0 y1 y2))
  | 0=>fun _ _ _ r h=>by simp [qM.l0]at h
  | k+1=>by
    have aa:=qM.Jn k
    · intro y0 y1 y2
      unfold qM.l0
      repeat' first
      | (with_reducible exact aa _ _ _)
      | (with_reducible exact zW.mono _ _)
      | (with_reducible exact qB.mono _ _)
      | (with_reducible exact LeO.refl _)
      | (with_reducible exact LeO.none _)
      | (with_reducible refine LeO.ite ?_ ?_)
      | (with_reducible refine LeO.bind ?_ (fun _=>?_))
      | exact aa _ _ _
      | exact zW.mono _ _
      | exact qB.mono _ _
      | exact LeO.none _
      | refine LeO.ite ?_ ?_
      | refine LeO.bind ?_ (fun _=>?_)
theorem qM.mono : ∀ a0 k,LeO (qM.f k a0) (qM.f (k+1) a0):=by
  intro a0 k
  have aa:=qM.Jn k
  unfold qM.f
  repeat' first
      | (with_reducible exact aa _ _ _)
      | (with_reducible exact zW.mono _ _)
      | (with_reducible exact qB.mono _ _)
      | (with_reducible exact LeO.refl _)
      | (with_reducible exact LeO.none _)
      | (with_reducible refine LeO.ite ?_ ?_)
      | (with_reducible refine LeO.bind ?_ (fun _=>?_))
      | exact aa _ _ _
      | exact zW.mono _ _
      | exact qB.mono _ _
      | exact LeO.none _
      | refine LeO.ite ?_ ?_
      | refine LeO.bind ?_ (fun _=>?_)
set_option maxHeartbeats 8000000 in
set_option maxRecDepth 100000 in
theorem qM.calls (k:Nat) (a0:Int) (r:Int) (w:World) (h:qM.f k a0=some r) :
    Calls Try.prog 83 #[.int .i64 a0] w fun e w'=>e = .returned (.int .i64 r)∧Below w.heap.size w w':=by
  have HB:=zA.mk (ysy w.heap.size w)
  have H:((zW.f k a0).bind fun t101=>(qM.l0 k t101 (([0,0,0,0]:List Int)) 0))=some r:=h
  clear h;replace H:=ydy.mp H
  obtain⟨t101,aY,H⟩:=H
  replace H:(qM.l0 k t101 (([0,0,0,0]:List Int)) 0)=some r:=H
  have A2:=zA.mk aY
  clear aY;obtain⟨ax,ae⟩ : ∃ y_:List Int,y_=(([0,0,0,0]:List Int)):=⟨_,rfl⟩
  replace H:(qM.l0 k t101 ax 0)=some r:=by first|(rw[ae];with_reducible exact H)|(have an:=(yfy _ _).symm.trans H;rw[ae];with_reducible exact an)|(have an:=(yfy _ _).symm.trans H;with_reducible exact an)|with_reducible exact H|(rw[ae];exact H)|exact H
  have aj:=zA.mk ae
  clear ae;have H':=zA.mk H
  clear H;go_enter Try.func83,Try.ntmps83
  go_wp2_with (first|((with_reducible refine zd (f:=110) rfl ?_);refine qV (some 7) rfl rfl Try.func110 (by kernel_rfl) rfl #[.int .i64 a0] rfl (by(try simp only [yiy,yjy,yky]);first|done|rfl|(simp only [yly,ymy];rfl)) ?_;(with_reducible refine(zW.calls k a0 t101 _ A2.out).mono ?_);rintro e w3 ⟨ay,rfl,aZ,hb⟩;refine⟨_,rfl,?_⟩;have ak:=zA.mk (Kd.qx aZ (zQ (by repeat(first|(with_reducible first|exact HB.out|apply zC|apply zB|apply zD)|exact HB.out))));have al:=zA.mk (zM (by repeat(first|(with_reducible first|exact HB.out|apply zC|apply zB|apply zD)|exact HB.out)) hb);clear HB;have af:=ak;have HB:=al;clear ak al;(try clear hb);(try clear hb2);(try clear hk);(try clear hi);(try clear aZ))|((with_reducible refine zw (N:=8) rfl ?_);refine Kd.zBO (Kd.int .i64) _ 2 ?hg (N:=8) ?hd (xs:=([0,0,0,0]:List Int)) (inner := [.int .i64 0,.int .i64 0,.int .i64 0,.int .i64 0]) (ok:=fun _=>True) (okp:=fun _=>True) ?hr ?hp (fun _ hk=>hk) trivial (ysy _ _) (yry _) (by simp) ?_;(case hd=>rfl);(case hg=>rfl);(case hr=>first|(go_simp;done)|(go_simp;rfl));(case hp=>exact(QN.one (show Kd.M (Kd.int .i64) _ _ _ 0 [.int .i64 0]from rfl) (QN.one (show Kd.M (Kd.int .i64) _ _ _ 0 [.int .i64 0]from rfl) (QN.one (show Kd.M (Kd.int .i64) _ _ _ 0 [.int .i64 0]from rfl) (QN.one (show Kd.M (Kd.int .i64) _ _ _ 0 [.int .i64 0]from rfl) (QN.none _ _))))));intro az w4 aw hb hg_ hnew_;clear hg_ hnew_;(first|rw[← aj.out]at aw|(simp only [Int.reduceToNat]at aw;rw[← aj.out]at aw));have ak:=zA.mk (Kd.Zs (by(with_reducible repeat(first|apply Kd.zS|apply Kd.zT|apply Kd.zZ));exact af.out) (Kd.Zw aw) hb);have al:=zA.mk (Kd.qx (Kd.JP aw (Kd.JO (by(with_reducible repeat(first|apply Kd.zS|apply Kd.zT|apply Kd.zZ));exact af.out))) (zQ (by repeat(first|(with_reducible first|exact HB.out|apply zC|apply zB|apply zD)|exact HB.out))));have aA:=zA.mk (zM (by repeat(first|(with_reducible first|exact HB.out|apply zC|apply zB|apply zD)|exact HB.out)) hb);clear af;clear HB;have af:=ak;have aB:=al;have HB:=aA;clear ak al aA;clear hb aw))
  go_loopg [5] k (fun kq v5 w' => ∃ (ab:List Int) (aa:Int),v5 = .int .i64 aa∧zA (qM.l0 kq t101 ab aa=some r)∧zA (kq≤k)∧zA (Kd.R (Kd.int .i64) 2 w' w.heap.size (fun k_=>some k_≠(az:Value).ownBlock) ay t101)∧zA (Kd.R (Kd.int .i64) 2 w' w.heap.size (fun k_=>some k_≠(ay:Value).ownBlock) az ab)∧zA (Below w.heap.size w w'))
  case atStart=>exact⟨(ax),(0),(by first|rfl|(simp;done)|(simp [*];done)),H',⟨yry _⟩,⟨by(with_reducible repeat(first|apply Kd.zS|apply Kd.zT|apply Kd.zZ));exact Kd.qC af.out (fun _ hk=>hk.2)⟩,⟨by(with_reducible repeat(first|apply Kd.zS|apply Kd.zT|apply Kd.zZ));exact Kd.qC aB.out (fun _ hk=>hk.2)⟩,⟨by repeat(first|(with_reducible first|exact HB.out|apply zC|apply zB|apply zD)|exact HB.out)⟩⟩
  case round=>
    clear H';(try clear c1);(try clear p2);obtain⟨ab,aa,rfl,HA,a1,ah,ad,HB⟩:=hrel
    cases gk with
    | zero=>exact absurd HA.out (by simp [qM.l0])
    | succ k1=>
      have H:=HA.out
      clear HA;simp only [qM.l0]at H
      by_cases c6:aa<4
      · rw[if_pos c6]at H
        have aK:decide (aa<4)=true:=ygy c6
        clear c6;by_cases c7:0≤aa
        · rw[if_pos c7]at H
          have a5:decide (0≤aa)=true:=ygy c7
          clear c7;by_cases c8:aa<(t101.length:Int)
          · rw[if_pos c8]at H
            have a6:decide (aa<(t101.length:Int))=true:=ygy c8
            clear c8;by_cases c9:0≤(rd t101 aa)
            · rw[if_pos c9]at H
              have a7:decide (0≤(rd t101 aa))=true:=ygy c9
              clear c9;by_cases aI:(rd t101 aa)<(ab.length:Int)
              · rw[if_pos aI]at H
                have a2:decide ((rd t101 aa)<(ab.length:Int))=true:=ygy aI
                clear aI;obtain⟨ao,ag⟩ : ∃ y_:List Int,y_=(ab.set ((rd t101 aa):Int).toNat aa):=⟨_,rfl⟩
                replace H:(qM.l0 k1 t101 ao (wrap64 (aa+1)))=some r:=by first|(rw[ag];with_reducible exact H)|(have an:=(yfy _ _).symm.trans H;rw[ag];with_reducible exact an)|(have an:=(yfy _ _).symm.trans H;with_reducible exact an)|with_reducible exact H|(rw[ag];exact H)|exact H
                have aC:=zA.mk ag
                clear ag;have H':=zA.mk H
                clear H;obtain⟨a8,aL,aM⟩:=Kd.ZE ah.out
                subst aM;have aq:0≤(aa:Int):=of_decide_eq_true (by first|(with_reducible assumption)|assumption)
                have ar:aa<(t101.length:Int):=of_decide_eq_true (by first|(with_reducible assumption)|assumption)
                obtain⟨aD,aN,aJ⟩:=Kd.qw (Kd.zq ah.out).2.2 aa aq ar
                cases aN
                replace aq:=eq_true aq
                replace ar:=eq_true ar
                have aO:0≤((rd t101 aa):Int):=of_decide_eq_true (by first|(with_reducible assumption)|assumption)
                have aP:((rd t101 aa):Int)<((ab.length:Int):Int):=of_decide_eq_true (by first|(with_reducible assumption)|assumption)
                obtain⟨ai,au,aE,aF,aQ,a_,aG⟩:=Kd.Jw ad.out (by omega)
                (first|cases aE|(injection aE with ea_ en_ ec_;(first|subst ea_|(injection ea_ with ea_;subst ea_));subst ec_;clear en_))
                have aR:=zA.mk aF
                have ba:=zA.mk aG
                clear aF aQ aG;obtain⟨aS,aT⟩:=Kd.Zm 0 ad.out ((rd t101 aa):Int) aO aP
                replace aO:=eq_true aO
                replace aP:=eq_true aP
                have av:=Kd.zAF ad.out ((rd t101 aa):Int) aa
                go_wp2_with (first|((with_reducible refine Zi (t:=2) (p:=19) rfl ?_);refine ZU (t:=2) (p:=19) (v:=?vo_w14) (w1:=(wr.setCell ⟨ai,((rd t101 aa):Int).toNat,none⟩ (.int .i64 aa))) ?hg ?ho ?hn ?hr ?_;(case ho=>rfl);(case hg=>rfl);(case hn=>rfl);(case hr=>first|(go_simp;done)|(go_simp;rfl));intro aU hw;have hg:wr.grownBy aU (some ai):=(by rw[hw];exact av.2);have hp_:Kd.R (Kd.int .i64) 2 aU w.heap.size (fun k_=>some k_≠(.slice (some aD) t101.length aL:Value).ownBlock) (.slice (some ⟨ai,0,none⟩) ab.length au) ao:=(by rw[hw,aC.out];exact av.1);clear av;have ak:=zA.mk (Kd.ZK (v:=(.slice (some ⟨ai,0,none⟩) ab.length au)) (v1:=(.slice (some ⟨ai,0,none⟩) ab.length au)) (ok:=(fun _=>True)) (by(with_reducible repeat(first|apply Kd.zS|apply Kd.zT|apply Kd.zZ));exact Kd.qC ah.out (fun _ hk=>⟨trivial,hk⟩)) hg (.inl rfl));have al:=zA.mk (hp_);have aA:=zA.mk ((by rw[hw];exact zF (HB.out) aR.out:Below w.heap.size w aU));clear ah;clear ad;clear HB;have ah:=ak;have ad:=al;have HB:=aA;clear ak al aA;clear hg hw hp_))
                go_roundg k1
                case measure=>have:=a1.out;omega
                case rel=>exact⟨(ao),(wrap64 (aa+1)),(by first|rfl|(simp;done)|(simp [*];done)),H',⟨by have:=a1.out;omega⟩,⟨by(with_reducible repeat(first|apply Kd.zS|apply Kd.zT|apply Kd.zZ));exact Kd.qC ah.out (fun _ hk=>hk.2)⟩,⟨by(with_reducible repeat(first|apply Kd.zS|apply Kd.zT|apply Kd.zZ));exact ad.out⟩,⟨by repeat(first|(with_reducible first|exact HB.out|apply zC|apply zB|apply zD)|exact HB.out)⟩⟩
              · rw[if_neg aI]at H
                exact absurd H (by simp)
            · rw[if_neg c9]at H
              exact absurd H (by simp)
          · rw[if_neg c8]at H
            exact absurd H (by simp)
        · rw[if_neg c7]at H
          exact absurd H (by simp)
      · rw[if_neg c6]at H
        have aK:decide (aa<4)=false:=yhy c6
        clear c6;replace H:=ydy.mp H
        obtain⟨t109,aH,H⟩:=H
        replace H:(some t109)=some r:=H
        have bb:=zA.mk aH
        clear aH;obtain rfl:=yey H
        obtain⟨aV,aW,aX⟩:=Kd.ZE ad.out
        subst aX;go_wp2_with (first|((with_reducible refine zd (f:=114) rfl ?_);refine qV (some 21) rfl rfl Try.func114 (by kernel_rfl) rfl #[.slice aV ab.length aW] rfl (by(try simp only [yiy,yjy,yky]);first|done|rfl|(simp only [yly,ymy];rfl)) ?_;(with_reducible refine(qB.calls k1 _ _ ab t109 _ ?side1 ?side2 bb.out).mono ?_);(case side1=>repeat(first|exact(Kd.zq ad.out).2.2|(with_reducible refine Kd.zy ?_ _)|(with_reducible refine Kd.qA ?_ _)|(with_reducible refine Kd.qR ?_)));(case side2=>exact(Kd.zq ad.out).2.1);rintro e w' ⟨rfl,⟨nd,rfl⟩⟩;refine⟨_,rfl,?_⟩))
        go_ret;exact⟨by first|rfl|(simp [zU,zV] <;> rfl)|(simp [*,zU,zV] <;> rfl),by repeat(first|(with_reducible first|exact HB.out|apply zC|apply zB|apply zD)|exact HB.out)⟩
def qp.f (a0:Int):Option (Bool):=if a0≥0 then(some (decide (a0<24)))else(some false)
set_option maxHeartbeats 8000000 in
set_option maxRecDepth 100000 in
theorem qp.calls (a0:Int) (r:Bool) (w:World) (h:qp.f a0=some r) :
    Calls Try.prog 81 #[.int .i64 a0] w fun e w'=>e = .returned (.bool r)∧qG w w':=by
  have H:(if a0≥0 then(some (decide (a0<24)))else(some false))=some r:=h
  clear h;by_cases c2:a0≥0
  · rw[if_pos c2]at H
    have aa:decide (0≤a0)=true:=ygy c2
    clear c2;obtain rfl:=yey H
    go_enter Try.func81,Try.ntmps81
    go_wp2;go_ret;exact⟨by first|rfl|(simp;done)|(simp [*];done),by repeat(first|exact qG.refl _|apply qG.step)⟩
  · rw[if_neg c2]at H
    have aa:decide (0≤a0)=false:=yhy c2
    clear c2;obtain rfl:=yey H
    go_enter Try.func81,Try.ntmps81
    go_wp2;go_ret;exact⟨by first|rfl|(simp;done)|(simp [*];done),by repeat(first|exact qG.refl _|apply qG.step)⟩
def Qg.f (a0:Int) (a1:Int) (a2:Int):Option (Bool):=if a0≥a1 then(some (decide (a0≤a2)))else(some false)
set_option maxHeartbeats 8000000 in
set_option maxRecDepth 100000 in
theorem Qg.calls (a0:Int) (a1:Int) (a2:Int) (r:Bool) (w:World) (h:Qg.f a0 a1 a2=some r) :
    Calls Try.prog 65 #[.int .i64 a0,.int .i64 a1,.int .i64 a2] w fun e w'=>e = .returned (.bool r)∧qG w w':=by
  have H:(if a0≥a1 then(some (decide (a0≤a2)))else(some false))=some r:=h
  clear h;by_cases c4:a0≥a1
  · rw[if_pos c4]at H
    have aa:decide (a1≤a0)=true:=ygy c4
    clear c4;obtain rfl:=yey H
    go_enter Try.func65,Try.ntmps65
    go_wp2;go_ret;exact⟨by first|rfl|(simp;done)|(simp [*];done),by repeat(first|exact qG.refl _|apply qG.step)⟩
  · rw[if_neg c4]at H
    have aa:decide (a1≤a0)=false:=yhy c4
    clear c4;obtain rfl:=yey H
    go_enter Try.func65,Try.ntmps65
    go_wp2;go_ret;exact⟨by first|rfl|(simp;done)|(simp [*];done),by repeat(first|exact qG.refl _|apply qG.step)⟩
end Go.Proofs.Ytembbpalgfikiaa.P
