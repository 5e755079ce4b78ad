/- The statement FnExactSplitLinksSaid, proved: part 9 of 10 (texts of this session and of the kit's print, put together and cut to what is used by a program of it). -/
import Derived.Test.YtbahbnhfhddlbaaMFnExactSplitLinks8
import Derived.Deep.Slices
import Derived.ChangeSame
import Derived.ChangeArms
import Derived.WideShapes
import Derived.Lib.SmallJoins
import Derived.ChangeShapes
namespace Go.Proofs.Ytbahbnhfhddlbaa.P
open Go.RowKit Go.Proofs.YtbahbnhfhddlbaaW.PrintWords Go.Proofs.Ytbahbnhfhddlbaa.Lib
set_option linter.unusedVariables false
def zAc (cls:List Int) (c:Int):Nat→Nat→List Int→List Int
  | 0,_,v=>v
  | d+1,i,v=>zAc cls c d (i+1) (if rd cls (i:Int)=c then v.set (7*(i/4)+i%4) 1 else v)
theorem zBj (cls:List Int) (c:Int) : ∀ (d i:Nat) (v:List Int),(zAc cls c d i v).length=v.length
  | 0,_,_=>rfl
  | d+1,i,v=>by
    rw[zAc,zBj cls c d (i+1)];split <;> simp
section
variable {t : Tri}
def zDt (t:Tri) (c:Int):List Int:=zAc (Qb t) c (4*t.length) 0 (List.replicate (7*t.length) 0)
theorem zAV (h:Zx t=true) (c:Int) (B C:List (List Int)) {r:List Int} {a:Nat} (ha:a<t.length) : ∀ (d x:Nat) (v:List Int),x+d=4→v.length=7*t.length →
    (∀ v' : List Int,v'.length=7*t.length→v' = zAc (Qb t) c d (4*a+x) v→Ev (fun k=>qN.l0 k c v' ((a+1:Nat):Int) t (Qh 4 t.length (Qb t)) B C) r) →
    Ev (fun k=>qN.l1 k c v (a:Int) (x:Int) t (Qh 4 t.length (Qb t)) B C) r
  | 0,x,v,hx,hv,hr=>by
    have h8:=(qn h).1;refine qU (fun k=>by rw[qN.l1,if_neg (by omega),ZK (by omega)]) ?_;exact hr v hv rfl
  | d+1,x,v,hx,hv,hr=>by
    have h8:=(qn h).1;obtain⟨e1,e2⟩:=zIK h ha (x:=x) (by omega);have aa:=zBH 4 t.length (Qb t);rw[zAc]at hr;have ed:(4*a+x)/4=a:=by omega
    have em:(4*a+x)%4=x:=by omega
    rw[ed,em]at hr;clear ed em;have hw:wrap64 (wrap64 (7*(a:Int))+(x:Int))=((7*a+x:Nat):Int):=by
      rw[qZ (show -9223372036854775808≤7*(a:Int)by omega) (by omega),qZ (by omega) (by omega)];push_cast;rfl
    by_cases e:rd (Qb t) ((4*a+x:Nat):Int)=c
    (rw[if_pos e]at hr;refine qU (fun k=>by rw[qN.l1,if_pos (by omega),if_pos (by omega),if_pos (by omega),if_pos (by omega),if_pos (by omega),e1,if_pos e,hw,if_pos (by omega),if_pos (by omega),ZK (by omega),yny]) ?_;exact zAV h c B C ha d (x+1) _ (by omega) (by simp [hv]) hr);(rw[if_neg e]at hr;refine qU (fun k=>by rw[qN.l1,if_pos (by omega),if_pos (by omega),if_pos (by omega),if_pos (by omega),if_pos (by omega),e1,if_neg e,ZK (by omega)]) ?_;exact zAV h c B C ha d (x+1) v (by omega) hv hr)
theorem zES (cls:List Int) (c:Int) (e:Nat) : ∀ (d i:Nat) (v:List Int),zAc cls c (d+e) i v=zAc cls c e (i+d) (zAc cls c d i v)
  | 0,i,v=>by rw[Nat.zero_add,zAc,Nat.add_zero]
  | d+1,i,v=>by rw[Nat.succ_add,zAc,zAc,zES cls c e d (i+1)];congr 1;omega
theorem zBk (h:Zx t=true) (c:Int) (B C:List (List Int)) : ∀ (d a:Nat) (v:List Int),a+d=t.length→v.length=7*t.length→Ev (fun k=>qN.l0 k c v (a:Int) t (Qh 4 t.length (Qb t)) B C) (zAc (Qb t) c (4*d) (4*a) v)
  | 0,a,v,ha,hv=>by
    refine qU (fun k=>by rw[qN.l0,zo.f,yfy,if_neg (by omega)]) ?_;exact Ev.now _
  | d+1,a,v,ha,hv=>by
    refine qU (fun k=>by rw[qN.l0,zo.f,yfy,if_pos (by omega)]) ?_;refine zAV h c B C (by omega) 4 0 v (by omega) hv (fun v' aa he=>?_);have:=zBk h c B C d (a+1) v' (by omega) aa;have e4:4*(d+1)=4+4*d:=by omega
    rw[e4,zES];rw[he]at this ⊢;exact this
theorem zET (h:Zx t=true) (c:Int) (B C:List (List Int)):Ev (fun k=>qN.f k t (Qh 4 t.length (Qb t)) B C c) (zDt t c):=by
  have h8:=(qn h).1;refine Ev.bind (Qp (by unfold zo.f;rfl)) ?_;have e7:wrap64 (7*(t.length:Int))=((7*t.length:Nat):Int):=by rw[qZ (by omega) (by omega)];push_cast;rfl
  refine qu (by rw[e7];omega) (qu (by rw[e7];omega) ?_);rw[e7,yny];exact zBk h c B C t.length 0 (List.replicate (7*t.length) 0) (by omega) (by simp)
end
end Go.Proofs.Ytbahbnhfhddlbaa.P
namespace Go.Proofs.Ytbahbnhfhddlbaa.P
open Go.RowKit Go.Proofs.YtbahbnhfhddlbaaW.PrintWords Go.Proofs.YtbahbnhfhddlbaaW.PrintMore Go.Proofs.Ytbahbnhfhddlbaa.Lib
set_option linter.unusedVariables false
def zHc (S:Nat→Prop) (v:List Int) (m:Int):Prop:=m≤1000∧(∀ p,S p→m≤v.getD p 0)∧(m=1000 ∨ ∃ p,S p∧m=v.getD p 0)
theorem zHc.uniq {S:Nat→Prop} {v:List Int} {m m2:Int} (h:zHc S v m) (k:zHc S v m2) (hv : ∀ p,S p→v.getD p 0≤1000):m=m2:=by
  obtain⟨a1,a2,a3⟩:=h;obtain⟨b1,b2,b3⟩:=k;rcases a3 with e|⟨p,hp,e⟩
  · rcases b3 with f|⟨q,hq,f⟩
    (omega)
    · have:=a2 q hq;omega
  · rcases b3 with f|⟨q,hq,f⟩
    · have:=b2 p hp;omega
    (have h1:=a2 q hq;have h2:=b2 p hp;omega)
theorem mn_eq (a b:Int):mn a b=if b<a then b else a:=by
  rfl
theorem zCP : ∀ (xs ys:List Int) (m:Int),xs.length=ys.length→(∀ y∈ys,y=0∨y=1)→times m xs ys≤m∧(∀ q,q<ys.length→ys.getD q 0≠0→times m xs ys≤xs.getD q 0)∧(times m xs ys=m ∨ ∃ q,q<ys.length∧ys.getD q 0≠0∧times m xs ys=xs.getD q 0)
  | [],[],m,_,_=>⟨Int.le_refl _,fun q hq=>absurd hq (by simp),.inl rfl⟩
  | [],_ :: _,_,h,_=>by simp at h
  | _ :: _,[],_,h,_=>by simp at h
  | x :: xs,y :: ys,m,h,hy=>by
    have h2:xs.length=ys.length:=by simpa using h
    obtain⟨a1,a2,a3⟩:=zCP xs ys (if y=0 then m else mn m (Int.tdiv x y)) h2 (fun z hz=>hy z (List.mem_cons_of_mem _ hz));rw[times];rcases hy y (List.mem_cons_self ..)with e|e
    · subst e
      rw[if_pos rfl]at a1 a2 a3 ⊢;refine⟨a1,fun q hq aa=>?_,?_⟩
      · cases q with
        | zero=>simp at aa
        | succ q=>simpa using a2 q (by simpa using hq) (by simpa using aa)
      · rcases a3 with e|⟨q,hq,h1,h2⟩
        (exact .inl e);(exact .inr ⟨q+1,by simpa using hq,by simpa using h1,by simpa using h2⟩)
    · subst e
      rw[if_neg (by decide),Int.tdiv_one,mn_eq]at a1 a2 a3 ⊢;refine⟨by by_cases hx:x<m;(rw[if_pos hx]at a1 ⊢;omega);(rw[if_neg hx]at a1 ⊢;exact a1),fun q hq aa=>?_,?_⟩
      · cases q with
        | zero=>
          show times (if x<m then x else m) xs ys≤x;by_cases hx:x<m
          · rw[if_pos hx]at a1 ⊢;exact a1
          · rw[if_neg hx]at a1 ⊢;omega
        | succ q=>simpa using a2 q (by simpa using hq) (by simpa using aa)
      · rcases a3 with e|⟨q,hq,h1,h2⟩
        · by_cases hx:x<m
          · refine .inr ⟨0,by simp,by simp,?_⟩
            rw[if_pos hx]at e ⊢;simpa using e
          (refine .inl ?_;rw[if_neg hx]at e ⊢;exact e)
        (exact .inr ⟨q+1,by simpa using hq,by simpa using h1,by simpa using h2⟩)
def ZF (p:Nat):Nat:=4*(p/7)+p%7
theorem zCQ {i p:Nat}:p=7*(i/4)+i%4↔p%7<4∧i=ZF p:=by
  unfold ZF;omega
theorem zFR (cls:List Int) (c:Int) : ∀ (d i:Nat) (v:List Int) (p:Nat),p<v.length→(zAc cls c d i v).getD p 0=if p%7<4∧i≤ZF p∧ZF p<i+d∧rd cls (ZF p:Int)=c then 1 else v.getD p 0
  | 0,i,v,p,hp=>by
    rw[zAc,if_neg (by omega)]
  | d+1,i,v,p,hp=>by
    rw[zAc,zFR cls c d (i+1) _ p (by split <;> simpa using hp)];by_cases e:p%7<4∧ZF p=i
    · have ep:p=7*(i/4)+i%4:=zCQ.2 ⟨e.1,e.2.symm⟩
      rw[if_neg (by omega)];by_cases hc:rd cls (i:Int)=c
      · rw[if_pos hc,if_pos ⟨e.1,by omega,by omega,by rw[e.2];exact hc⟩,← ep]
        rw[List.getD_eq_getElem?_getD,List.getElem?_set_self hp];rfl
      (rw[if_neg hc,if_neg (fun h=>hc (by rw[← e.2];exact h.2.2.2))])
    · have aa:7*(i/4)+i%4≠p:=fun h=>e ⟨(zCQ.1 h.symm).1,(zCQ.1 h.symm).2.symm⟩
      have hv:(if rd cls (i:Int)=c then v.set (7*(i/4)+i%4) 1 else v).getD p 0=v.getD p 0:=by
        split
        (rw[List.getD_eq_getElem?_getD,List.getElem?_set_ne aa,List.getD_eq_getElem?_getD]);(rfl)
      rw[hv];by_cases h:p%7<4∧i+1≤ZF p∧ZF p<i+1+d∧rd cls (ZF p:Int)=c
      (rw[if_pos h,if_pos ⟨h.1,by omega,by omega,h.2.2.2⟩]);(rw[if_neg h,if_neg (fun k=>h ⟨k.1,by have:=fun q=>e ⟨k.1,q⟩;omega,by omega,k.2.2.2⟩)])
end Go.Proofs.Ytbahbnhfhddlbaa.P
namespace Go.Proofs.Ytbahbnhfhddlbaa.P
open Go.RowKit Go.Proofs.YtbahbnhfhddlbaaW.PrintWords Go.Proofs.Ytbahbnhfhddlbaa.Lib
set_option linter.unusedVariables false
section
variable {t : Tri}
theorem zHd (h:Zx t=true) {k:Nat} (hk:k<4*t.length) : ∃ j:Nat,(Jc t).v.getD k 0=(j:Int)∧j≤k∧(Jc t).v.getD j 0=(j:Int)∧rd (Qb t) (k:Int)=((roots (Jc t).v j).length:Int):=by
  obtain⟨⟨o1,_⟩,hw,_⟩:=zAU h;obtain⟨q0,q1,q2⟩:=hw k (by omega);obtain⟨j,hj⟩:=Int.eq_ofNat_of_zero_le q0;rw[hj]at q1 q2;rw[yny]at q2;refine⟨j,hj,by omega,q2,?_⟩;have aa:k<(Jc t).v.length:=by omega
  have e:rd (Qb t) (k:Int)=zGr (Jc t).v ((Jc t).v.getD k 0):=by
    unfold Qb;rw[zDf hw,zBA];simp [List.getD_eq_getElem?_getD,aa]
  rw[e,hj];unfold zGr;rw[yny]
theorem zDl (h:Zx t=true) {k:Nat} (hk:k<4*t.length):0≤rd (Qb t) (k:Int)∧rd (Qb t) (k:Int)≤zBs t-1:=by
  have o1:=(zAU h).1.1;obtain⟨j,h1,h2,h3,h4⟩:=zHd h hk;have k1:=zBW (Jc t).v (j+1) ((Jc t).v.length-(j+1));rw[show j+1+((Jc t).v.length-(j+1))=(Jc t).v.length by omega,roots,if_pos h3,List.length_append,List.length_singleton]at k1;unfold zBs;omega
end
end Go.Proofs.Ytbahbnhfhddlbaa.P
namespace Go.Proofs.Ytbahbnhfhddlbaa.P
open Go.RowKit Go.Proofs.YtbahbnhfhddlbaaW.PrintWords Go.Proofs.YtbahbnhfhddlbaaW.PrintMore Go.Proofs.Ytbahbnhfhddlbaa.Lib
set_option linter.unusedVariables false
def rng (N:Nat) (F:Nat→Int):List Int:=(List.range N).map F
theorem Jv (N:Nat) (F:Nat→Int):(rng N F).length=N:=by simp [rng]
theorem zDm {N:Nat} {F:Nat→Int} {j:Nat} (h:j<N):rd (rng N F) (j:Int)=F j:=by
 rw[zCC _ j (by rw[Jv];exact h)];simp [rng]
theorem JY {N:Nat} {F G:Nat→Int} (h : ∀ p,p<N→F p=G p):rng N F=rng N G:=by
 unfold rng;exact List.map_congr_left (fun p hp=>h p (List.mem_range.1 hp))
theorem zH0 (N:Nat) (F:Nat→Int) (j:Nat) (y:Int):(rng N F).set j y=rng N (fun p=>if p=j then y else F p):=by
 apply List.ext_getElem (by simp [rng])
 intro p h1 h2;rw[List.getElem_set];simp only [rng,List.getElem_map,List.getElem_range];by_cases e:j=p
 (rw[if_pos e,if_pos e.symm]);rw[if_neg e,if_neg (fun k=>e k.symm)]
theorem zFS (v:List Int):rng v.length (fun p=>v.getD p 0)=v:=by
 apply List.ext_getElem (by simp [rng])
 intro p h1 h2;simp [rng,List.getD_eq_getElem?_getD,h2]
theorem zIL (N:Nat) (x:Int):rng N (fun _=>x)=List.replicate N x:=by
 apply List.ext_getElem (by simp [rng])
 intro p h1 h2;simp [rng]
theorem zFT (N:Nat) (F:Nat→Int):rng (N+1) F=rng N F ++ [F N]:=by simp [rng,List.range_succ]
def Qs (i:Nat):Nat:=7*(i/4)+i%4
theorem pos_eq {i:Nat} (h:i≤1000):wrap64 (wrap64 (7*wrap64 (Int.tdiv (i:Int) 4))+Int.tmod (i:Int) 4)=((Qs i:Nat):Int):=by
 have e1:Int.tdiv (i:Int) 4=((i/4:Nat):Int):=by rw[Int.tdiv_eq_ediv_of_nonneg (by omega)];omega
 have e2:Int.tmod (i:Int) 4=((i%4:Nat):Int):=by rw[Int.tmod_eq_emod_of_nonneg (by omega)];omega
 rw[e1,e2,qZ (x:=((i/4:Nat):Int)) (by omega) (by omega),qZ (x:=7*((i/4:Nat):Int)) (by omega) (by omega),qZ (x:=7*((i/4:Nat):Int)+((i%4:Nat):Int)) (by omega) (by omega)];unfold Qs;omega
def zF5 (cls v:List Int) (c:Int):Nat→Int
 | 0=>1000
 | i+1=>if rd cls (i:Int)=c then mn (zF5 cls v c i) (v.getD (Qs i) 0)else zF5 cls v c i
theorem zFU (cls v:List Int) (c:Int) : ∀ i:Nat,zHc (fun p=>p%7<4∧ZF p<i∧rd cls (ZF p:Int)=c) v (zF5 cls v c i)
 | 0=>⟨Int.le_refl _,fun p hp=>absurd hp.2.1 (by omega),.inl rfl⟩
 | i+1=>by
  obtain⟨a1,a2,a3⟩:=zFU cls v c i;have hq:ZF (Qs i)=i∧Qs i%7<4:=by unfold ZF Qs;omega
  rw[zF5];by_cases e:rd cls (i:Int)=c
  case neg=>
   rw[if_neg e];refine⟨a1,fun p hp=>a2 p ⟨hp.1,?_,hp.2.2⟩,?_⟩
   next=>
    by_cases ep:ZF p=i
    (exact absurd (by rw[← ep];exact hp.2.2) e);have:=hp.2.1;omega
   rcases a3 with e|⟨p,hp,e⟩
   (exact .inl e);exact .inr ⟨p,⟨hp.1,by have:=hp.2.1;omega,hp.2.2⟩,e⟩
  rw[if_pos e,mn_eq];refine⟨by split <;> omega,fun p hp=>?_,?_⟩
  next=>
   by_cases ep:ZF p=i
   case neg=>
    have:=a2 p ⟨hp.1,by have:=hp.2.1;omega,hp.2.2⟩;split <;> omega
   have:p=Qs i:=by unfold ZF at ep;unfold Qs;have:=hp.1;omega
   subst this;split <;> omega
  by_cases hl:v.getD (Qs i) 0<zF5 cls v c i
  (rw[if_pos hl];exact .inr ⟨Qs i,⟨hq.2,by omega,by rw[hq.1];exact e⟩,rfl⟩);rw[if_neg hl];rcases a3 with e|⟨p,hp,e⟩
  (exact .inl e);exact .inr ⟨p,⟨hp.1,by have:=hp.2.1;omega,hp.2.2⟩,e⟩
section
variable {t : Tri} {v : List Int}
def kC (t:Tri) (v:List Int) (c:Int):Int:=times 1000 v (zDt t c)
theorem Jq (t:Tri) (c:Int):(zDt t c).length=7*t.length:=by unfold zDt;rw[zBj];simp
theorem zDn (t:Tri) (c:Int) {p:Nat} (hp:p<7*t.length):(zDt t c).getD p 0=if p%7<4∧rd (Qb t) (ZF p:Int)=c then 1 else 0:=by
 unfold zDt;rw[zFR _ _ _ _ _ _ (by simpa using hp)];have e0:(List.replicate (7*t.length) (0:Int)).getD p 0=0:=by simp [List.getD_eq_getElem?_getD,hp]
 rw[e0];by_cases h:p%7<4∧rd (Qb t) (ZF p:Int)=c
 (rw[if_pos h,if_pos ⟨h.1,by omega,by have:=h.1;unfold ZF;omega,h.2⟩]);rw[if_neg h,if_neg (fun k=>h ⟨k.1,k.2.2.2⟩)]
theorem zDo (t:Tri) (c:Int) : ∀ y∈zDt t c,y=0∨y=1:=by
 intro y hy;obtain⟨p,hp,rfl⟩:=List.getElem_of_mem hy;have h1:=zDn t c (p:=p) (by rw[Jq]at hp;exact hp);rw[List.getD_eq_getElem?_getD,List.getElem?_eq_getElem hp]at h1;have h2:(zDt t c)[p]=if p%7<4∧rd (Qb t) (ZF p:Int)=c then 1 else 0:=h1
 rw[h2];split
 next=>
  right;rfl
 left;rfl
theorem kC_eq (hv:v.length=7*t.length) (hs:zAS v) (c:Int):zF5 (Qb t) v c (4*t.length)=kC t v c:=by
 have hm:=zFU (Qb t) v c (4*t.length);obtain⟨b1,b2,b3⟩:=zCP v (zDt t c) 1000 (by rw[Jq];exact hv) (zDo t c);have key : ∀ p,(p%7<4∧ZF p<4*t.length∧rd (Qb t) (ZF p:Int)=c)↔(p<(zDt t c).length∧(zDt t c).getD p 0≠0):=fun p=>by
  rw[Jq];constructor
  next=>
   intro h;have hp:p<7*t.length:=by have:=h.1;have:=h.2.1;unfold ZF at this;omega
   refine⟨hp,?_⟩;rw[zDn t c hp,if_pos ⟨h.1,h.2.2⟩];decide
  rintro⟨hp,aa⟩;rw[zDn t c hp]at aa;by_cases h:p%7<4∧rd (Qb t) (ZF p:Int)=c
  (exact⟨h.1,by have:=h.1;unfold ZF;omega,h.2⟩);rw[if_neg h]at aa;exact absurd rfl aa
 refine hm.uniq ⟨b1,fun p hp=>b2 p ((key p).1 hp).1 ((key p).1 hp).2,?_⟩ (fun p hp=>?_)
 next=>
  rcases b3 with e|⟨q,h1,h2,h3⟩
  (exact .inl e);exact .inr ⟨q,(key q).2 ⟨h1,h2⟩,h3⟩
 have hl:p<v.length:=by have:=((key p).1 hp).1;rw[Jq]at this;omega
 rw[List.getD_eq_getElem?_getD,List.getElem?_eq_getElem hl];exact(hs _ (yoy hl)).2
theorem zIM (hv:v.length=7*t.length) (hs:zAS v) (c:Int):0≤kC t v c∧kC t v c≤1000:=by
 obtain⟨b1,b2,b3⟩:=zCP v (zDt t c) 1000 (by rw[Jq];exact hv) (zDo t c);refine⟨?_,b1⟩;rcases b3 with e|⟨q,h1,h2,h3⟩
 next=>
  unfold kC;omega
 unfold kC;rw[h3];have hl:q<v.length:=by rw[Jq]at h1;omega
 rw[List.getD_eq_getElem?_getD,List.getElem?_eq_getElem hl];exact(hs _ (yoy hl)).1
def Qi (t:Tri) (v:List Int):List Int:=rng (roots (Jc t).v (Jc t).v.length).length (fun c=>kC t v (c:Int))
def zDp (t:Tri) (v:List Int):List Int:=rng (7*t.length) (fun p=>v.getD p 0-(if p%7<4 then kC t v (rd (Qb t) (ZF p:Int))else 0))
theorem zBI (h:Zx t=true) (hv:v.length=7*t.length) (hs:zAS v) : ∀ (d i:Nat),i+d=4*t.length →
 Ev (fun k=>zb.l1 k (Qi t v) (rng (7*t.length) (fun p=>v.getD p 0-(if p%7<4∧ZF p<i then kC t v (rd (Qb t) (ZF p:Int))else 0))) (Qb t) ((Qb t).length:Int) (i:Int)) (Qi t v,zDp t v,0)
 | 0,i,hi=>by
  have hl:=JR h;refine qU (f:=fun _=>some (Qi t v,rng (7*t.length) (fun p=>v.getD p 0-(if p%7<4∧ZF p<i then kC t v (rd (Qb t) (ZF p:Int))else 0)),0)) (fun k=>by rw[zb.l1,if_neg (by omega)]) (Js ?_);have e:rng (7*t.length) (fun p=>v.getD p 0-(if p%7<4∧ZF p<i then kC t v (rd (Qb t) (ZF p:Int))else 0))=zDp t v:=JY (fun p hp=>by
   by_cases h4:p%7<4
   (rw[if_pos h4,if_pos ⟨h4,by unfold ZF;omega⟩]);rw[if_neg h4,if_neg (fun k=>h4 k.1)])
  rw[e]
 | d+1,i,hi=>by
  have h8:=(qn h).1;have hl:=JR h;have ih:=zBI h hv hs d (i+1) (by omega);have hb:=zDl h (k:=i) (by omega);have ag:=zBX h;obtain⟨c,hc⟩:=Int.eq_ofNat_of_zero_le hb.1;have ad:c<(roots (Jc t).v (Jc t).v.length).length:=by have:=hb.2;rw[hc]at this;unfold zBs at this;omega
  have ae:Qs i<7*t.length:=by unfold Qs;omega
  have ab:Qs i%7<4∧ZF (Qs i)=i:=by unfold Qs ZF;omega
  have ah:=zIM (t:=t) hv hs (c:Int);have ai:0≤v.getD (Qs i) 0∧v.getD (Qs i) 0≤1000:=by
   rw[List.getD_eq_getElem?_getD,List.getElem?_eq_getElem (by omega)];exact hs _ (yoy (by omega))
  have c1:(i:Int)<((Qb t).length:Int):=by omega
  have c2:(0:Int)≤(i:Int):=by omega
  have c3:(0:Int)≤((Qs i:Nat):Int):=by omega
  have c4:((Qs i:Nat):Int)<((rng (7*t.length) (fun p=>v.getD p 0-(if p%7<4∧ZF p<i then kC t v (rd (Qb t) (ZF p:Int))else 0))).length:Int):=by rw[Jv];omega
  have c5:(0:Int)≤(c:Int):=by omega
  have c6:(c:Int)<((Qi t v).length:Int):=by unfold Qi;rw[Jv];omega
  have g1:rd (rng (7*t.length) (fun p=>v.getD p 0-(if p%7<4∧ZF p<i then kC t v (rd (Qb t) (ZF p:Int))else 0))) ((Qs i:Nat):Int)=v.getD (Qs i) 0:=by
   rw[zDm ae,if_neg (by omega)];omega
  have g2:rd (Qi t v) (c:Int)=kC t v (c:Int):=by unfold Qi;rw[zDm ad]
  have g4:(rng (7*t.length) (fun p=>v.getD p 0-(if p%7<4∧ZF p<i then kC t v (rd (Qb t) (ZF p:Int))else 0))).set (Qs i) (v.getD (Qs i) 0-kC t v (c:Int))=rng (7*t.length) (fun p=>v.getD p 0-(if p%7<4∧ZF p<i+1 then kC t v (rd (Qb t) (ZF p:Int))else 0)):=by
   rw[zH0];refine JY (fun p hp=>?_);by_cases e:p=Qs i
   (rw[if_pos e,e,if_pos ⟨ab.1,by omega⟩,ab.2,hc]);rw[if_neg e];have af:p%7<4→ZF p≠i:=fun h4 k=>e (by unfold ZF at k;unfold Qs;omega)
   by_cases h4:p%7<4∧ZF p<i
   (rw[if_pos h4,if_pos ⟨h4.1,by omega⟩]);rw[if_neg h4,if_neg (fun k=>h4 ⟨k.1,by have:=af k.1;omega⟩)]
  have aa:=pos_eq (i:=i) (by omega);have g3:wrap64 (v.getD (Qs i) 0-kC t v (c:Int))=v.getD (Qs i) 0-kC t v (c:Int):=qZ (by clear aa;omega) (by clear aa;omega);have wi:wrap64 ((i:Int)+1)=((i+1:Nat):Int):=ZK (by clear aa g3;omega);refine qU (fun k=>by rw[zb.l1,if_pos c1,if_pos c2,if_pos c1,aa,if_pos c3,if_pos c4,hc,if_pos c5,if_pos c6,g1,g2,g3,yny,g4,wi]) ih
theorem zBJ (h:Zx t=true) (hv:v.length=7*t.length) (hs:zAS v) : ∀ (d i:Nat),i+d=4*t.length →
 Ev (fun k=>zb.l0 k v (Qb t) (rng (roots (Jc t).v (Jc t).v.length).length (fun c=>zF5 (Qb t) v (c:Int) i)) (Qb t) ((Qb t).length:Int) (i:Int)) (Qi t v,zDp t v,0)
 | 0,i,hi=>by
  have hl:=JR h;have h8:=(qn h).1;have e:rng (roots (Jc t).v (Jc t).v.length).length (fun c=>zF5 (Qb t) v (c:Int) i)=Qi t v:=JY (fun c _=>by
   have e4:i=4*t.length:=by omega
   rw[e4];exact kC_eq hv hs _)
  have:=zBI h hv hs (4*t.length) 0 (by omega);rw[show rng (7*t.length) (fun p=>v.getD p 0-(if p%7<4∧ZF p<0 then kC t v (rd (Qb t) (ZF p:Int))else 0))=v from by
   rw[← hv];refine(JY (fun p _=>?_)).trans (zFS v);rw[if_neg (by omega)];omega]at this
  refine qU (f:=fun k=>zb.l1 k (Qi t v) v (Qb t) ((Qb t).length:Int) 0) (fun k=>?_) this;rw[zb.l0,if_neg (by omega),e];unfold Zg.f;rw[if_pos (by omega),yfy]
 | d+1,i,hi=>by
  have h8:=(qn h).1;have hl:=JR h;have ih:=zBJ h hv hs d (i+1) (by omega);have hb:=zDl h (k:=i) (by omega);obtain⟨c,hc⟩:=Int.eq_ofNat_of_zero_le hb.1;have ab:c<(roots (Jc t).v (Jc t).v.length).length:=by have:=hb.2;rw[hc]at this;unfold zBs at this;omega
  have ad:Qs i<7*t.length:=by unfold Qs;omega
  have c1:(i:Int)<((Qb t).length:Int):=by omega
  have c2:(0:Int)≤(i:Int):=by omega
  have c3:(0:Int)≤((Qs i:Nat):Int):=by omega
  have c4:((Qs i:Nat):Int)<(v.length:Int):=by omega
  have c5:(0:Int)≤(c:Int):=by omega
  have c6:(c:Int)<((rng (roots (Jc t).v (Jc t).v.length).length (fun c=>zF5 (Qb t) v (c:Int) i)).length:Int):=by rw[Jv];omega
  have g1:rd (rng (roots (Jc t).v (Jc t).v.length).length (fun c=>zF5 (Qb t) v (c:Int) i)) (c:Int)=zF5 (Qb t) v (c:Int) i:=zDm ab;have g2:rd v ((Qs i:Nat):Int)=v.getD (Qs i) 0:=zBA v _;have g4:(rng (roots (Jc t).v (Jc t).v.length).length (fun c=>zF5 (Qb t) v (c:Int) i)).set c (mn (zF5 (Qb t) v (c:Int) i) (v.getD (Qs i) 0))=rng (roots (Jc t).v (Jc t).v.length).length (fun c=>zF5 (Qb t) v (c:Int) (i+1)):=by
   rw[zH0];refine JY (fun q hq=>?_);rw[zF5,hc];by_cases e:q=c
   (rw[if_pos e,e,if_pos rfl]);rw[if_neg e,if_neg (by omega)]
  have aa:=pos_eq (i:=i) (by omega);have wi:wrap64 ((i:Int)+1)=((i+1:Nat):Int):=ZK (by clear aa;omega);refine qU (fun k=>by rw[zb.l0,if_pos c1,if_pos c2,if_pos c1,hc,if_pos c5,if_pos c6,aa,if_pos c3,if_pos c4,g1,g2,yny,g4,wi]) ih
def zBl (t:Tri) (v:List Int):List Int × List Int × Int:=if zBE t=0 then(if Jm t v=true then(Qi t v,zDp t v,0)else([],[],5))else([],[],zBE t)
theorem zCR {t:Tri} {v:List Int} (h:Jm t v=true):(v.length:Int)=7*(t.length:Int)∧zAS v∧True:=by
 unfold Jm at h;by_cases hl:(v.length:Int)=7*(t.length:Int)
 case neg=>rw[if_neg hl]at h;cases h
 rw[if_pos hl]at h;by_cases ha:v.all inR=true
 case neg=>rw[if_neg ha]at h;cases h
 refine⟨hl,fun x hx=>?_,trivial⟩;have:=List.all_eq_true.1 ha x hx;unfold inR at this;simpa using this
theorem zFx {t:Tri} (h:zBE t=0) (v:List Int):zFP t v=Jm t v:=by unfold zFP;rw[if_pos h]
theorem zDq (hs:Small t) (v:List Int):Ev (fun k=>zb.f k t v) (zBl t v):=by
 refine Ev.bind (zDc hs) ?_;unfold zBl;by_cases hc:zBE t=0
 case neg=>exact Zp hc (Js (if_neg hc).symm)
 obtain⟨ht,h6⟩:=zAY hc;have aa:=zBX ht;refine qu hc (Ev.bind (Qp (zDe ht v)) ?_);rw[if_pos hc];by_cases hn:Jm t v=true
 case neg=>
  rw[if_neg hn];exact Zp hn (Ev.now _)
 obtain⟨hl,hp,_⟩:=zCR hn;rw[if_pos hn];refine qu hn (Ev.bind (Qp (zFw ht)) (Ev.bind (Qp (zDk ht)) (Ev.bind (a:=rng (roots (Jc t).v (Jc t).v.length).length (fun _=>1000)) (Qp ?_) ?_)));(unfold qa.f;rw[zIL];show(if 0≤zBs t∧zBs t≤1000000 then some (List.replicate (zBs t).toNat 1000)else none)=_;rw[if_pos (by omega)];unfold zBs;rw[yny])
 exact zBJ ht (by omega) hp (4*t.length) 0 (by omega)
theorem zD5 (u w:List Int) (k:Int) (hl:u.length=w.length) (hb:u.length≤1000000) (ad : -1000≤k) (ae:k≤0) (hu : ∀ x∈u, -1000≤x∧x≤1000) (hw : ∀ y∈w,y=0∨y=1) : ∀ d n:Nat,n+d=u.length →
 Ev (fun q=>qW.l0 q u w k (rng n (fun p=>u.getD p 0+k*w.getD p 0)) (n:Int)) (rng u.length (fun p=>u.getD p 0+k*w.getD p 0))
 | 0,n,hn=>by
  obtain rfl:n=u.length:=by omega
  exact qU (f:=fun _=>some (rng u.length (fun p=>u.getD p 0+k*w.getD p 0))) (fun q=>by rw[qW.l0,if_neg (by omega)]) (Ev.now _)
 | d+1,n,hn=>by
  have aa:n<u.length:=by omega
  have ab:n<w.length:=by omega
  have ih:=zD5 u w k hl hb ad ae hu hw d (n+1) (by omega);have h1:=hu u[n] (yoy aa);have h2:=hw w[n] (yoy ab);have e1:u.getD n 0=u[n]:=by simp [List.getD_eq_getElem?_getD,aa]
  have e2:w.getD n 0=w[n]:=by simp [List.getD_eq_getElem?_getD,ab]
  have hr:(rng n (fun p=>u.getD p 0+k*w.getD p 0)).length=n:=Jv _ _;have c1:(n:Int)<(u.length:Int):=by omega
  have c2:(0:Int)≤(n:Int):=by omega
  have c3:(n:Int)<(w.length:Int):=by omega
  have c4:(rng n (fun p=>u.getD p 0+k*w.getD p 0)).length<17592186044416:=by omega
  rw[zFT,e1,e2]at ih;have g1:wrap64 (u[n]+wrap64 (k*w[n]))=u[n]+k*w[n]:=by
   rcases h2 with h2|h2
   (rw[h2,Int.mul_zero,qZ (x:=0) (by omega) (by omega),qZ (x:=u[n]+0) (by omega) (by omega)]);rw[h2,Int.mul_one,qZ (x:=k) (by omega) (by omega),qZ (x:=u[n]+k) (by omega) (by omega)]
  have wi:wrap64 ((n:Int)+1)=((n+1:Nat):Int):=ZK (by clear g1;omega);exact qU (fun q=>by rw[qW.l0,if_pos c1,if_pos c2,if_pos c3,if_pos c4,zCC u n aa,zCC w n ab,g1,wi]) ih
def zAs (t:Tri) (v:List Int) (c:Int):List Int:=rng (7*t.length) (fun p=>v.getD p 0-(if p%7<4∧rd (Qb t) (ZF p:Int)<c then kC t v (rd (Qb t) (ZF p:Int))else 0))
theorem zIN {N:Nat} {F:Nat→Int} {x:Int} (h:x∈rng N F) : ∃ p,p<N∧x=F p:=by
 unfold rng at h;obtain⟨p,hp,e⟩:=List.mem_map.1 h;exact⟨p,List.mem_range.1 hp,e.symm⟩
theorem v_at (hv:v.length=7*t.length) (hs:zAS v) {p:Nat} (hp:p<7*t.length):0≤v.getD p 0∧v.getD p 0≤1000:=by
 rw[List.getD_eq_getElem?_getD,List.getElem?_eq_getElem (by omega)];exact hs _ (yoy (by omega))
theorem zFy (hv:v.length=7*t.length) (hs:zAS v) (c:Nat):rng (zAs t v (c:Int)).length (fun p=>(zAs t v (c:Int)).getD p 0 + -(kC t v (c:Int))*(zDt t (c:Int)).getD p 0)=zAs t v ((c+1:Nat):Int):=by
 have hl:(zAs t v (c:Int)).length=7*t.length:=Jv _ _;rw[hl];refine JY (fun p hp=>?_);have e1:(zAs t v (c:Int)).getD p 0=v.getD p 0-(if p%7<4∧rd (Qb t) (ZF p:Int)<(c:Int)then kC t v (rd (Qb t) (ZF p:Int))else 0):=by
  have:=zDm (N:=7*t.length) (F:=fun p=>v.getD p 0-(if p%7<4∧rd (Qb t) (ZF p:Int)<(c:Int)then kC t v (rd (Qb t) (ZF p:Int))else 0)) hp;rw[zBA]at this;exact this
 rw[e1,zDn t _ hp];by_cases h4:p%7<4
 case neg=>
  rw[if_neg (fun k=>h4 k.1),if_neg (fun k=>h4 k.1),if_neg (fun k=>h4 k.1),Int.mul_zero];omega
 by_cases hc:rd (Qb t) (ZF p:Int)=(c:Int)
 next=>
  rw[if_neg (by omega),if_pos ⟨h4,hc⟩,if_pos ⟨h4,by omega⟩,hc,Int.mul_one];omega
 rw[show(if p%7<4∧rd (Qb t) (ZF p:Int)=(c:Int)then(1:Int)else 0)=0 from if_neg (fun k=>hc k.2),Int.mul_zero];by_cases aa:rd (Qb t) (ZF p:Int)<(c:Int)
 next=>
  rw[if_pos ⟨h4,aa⟩,if_pos ⟨h4,by omega⟩];omega
 rw[if_neg (fun k=>aa k.2),if_neg (fun k=>hc (by have:=k.2;omega))];omega
theorem zBK (h:Zx t=true) (hv:v.length=7*t.length) (hs:zAS v) (x9:List Int) (h9:0<(x9.length:Int)) (aa:rd x9 0=zBs t) (B C:List (List Int)) : ∀ (d c:Nat),c+d=(roots (Jc t).v (Jc t).v.length).length →
 Ev (fun k=>qG.l0 k v x9 (rng c (fun q=>kC t v (q:Int))) (zAs t v (c:Int)) (c:Int) t (Qh 4 t.length (Qb t)) B C) (Qi t v,zDp t v,0)
 | 0,c,hc=>by
  have e:zAs t v (c:Int)=zDp t v:=JY (fun p hp=>by
   by_cases h4:p%7<4
   (have hb:=zDl h (k:=ZF p) (by unfold ZF;omega);rw[if_pos h4,if_pos ⟨h4,by have:=hb.2;unfold zBs at this;omega⟩]);rw[if_neg h4,if_neg (fun k=>h4 k.1)])
  have e2:rng c (fun q=>kC t v (q:Int))=Qi t v:=by unfold Qi;rw[← hc];rfl
  have c1 : ¬ ((c:Int)<zBs t):=by unfold zBs;omega
  rw[e,e2];exact qU (f:=fun _=>some (Qi t v,zDp t v,0)) (fun k=>by rw[qG.l0,if_pos h9,aa,if_neg c1]) (Ev.now _)
 | d+1,c,hc=>by
  have h8:=(qn h).1;have ab:=zBX h;have ih:=zBK h hv hs x9 h9 aa B C d (c+1) (by omega);have c1:(c:Int)<zBs t:=by unfold zBs;omega
  have ah:=zIM (t:=t) hv hs (c:Int);have af:zAS (zDt t (c:Int)):=fun x hx=>by rcases zDo t _ x hx with e|e <;> omega
  have ad:Ev (fun k=>qy.f k v (zDt t (c:Int))) (kC t v (c:Int)):=by
   have:=zA9 v (zDt t (c:Int)) (by rw[Jq];exact hv) (by omega) hs af v.length 0 1000 (by omega);rw[List.drop_zero,List.drop_zero]at this;exact this
  have ag:(zAs t v (c:Int)).length=7*t.length:=Jv _ _;have ae:Ev (fun k=>qW.f k (zAs t v (c:Int)) (zDt t (c:Int)) (wrap64 (-(kC t v (c:Int))))) (zAs t v ((c+1:Nat):Int)):=by
   have e:wrap64 (-(kC t v (c:Int))) = -(kC t v (c:Int)):=qZ (by omega) (by omega);rw[e];clear e;have:=zD5 (zAs t v (c:Int)) (zDt t (c:Int)) (-(kC t v (c:Int))) (by rw[ag,Jq]) (by omega) (by omega) (by omega) (fun x hx=>by
    obtain⟨p,hp,rfl⟩:=zIN hx;have:=v_at hv hs hp;have:=zIM (t:=t) hv hs (rd (Qb t) (ZF p:Int));split <;> omega) (zDo t _) (zAs t v (c:Int)).length 0 (by omega)
   rw[zFy hv hs c]at this;exact this
  have c2:(rng c (fun q=>kC t v (q:Int))).length<17592186044416:=by rw[Jv];unfold zBs at ab;omega
  have wi:wrap64 ((c:Int)+1)=((c+1:Nat):Int):=ZK (by clear ae ad;unfold zBs at ab;omega);refine qU (f:=fun k=>(qN.f k t (Qh 4 t.length (Qb t)) B C (c:Int)).bind fun t127=>(qy.f k v t127).bind fun t130=>if(rng c (fun q=>kC t v (q:Int))).length<17592186044416 then(qW.f k (zAs t v (c:Int)) t127 (wrap64 (-t130))).bind fun t134=>qG.l0 k v x9 (rng c (fun q=>kC t v (q:Int)) ++ [t130]) t134 (wrap64 ((c:Int)+1)) t (Qh 4 t.length (Qb t)) B C else none) (fun k=>by rw[qG.l0,if_pos h9,aa,if_pos c1]) ?_;refine Ev.bind (zET h (c:Int) B C) (Ev.bind ad (qu c2 (Ev.bind ae ?_)));rw[wi,← zFT];exact ih
theorem zDr (v:List Int) (aa:v.length≤4398046511104):Ev (fun k=>qG.f k t v) (zBl t v):=by
 refine Ev.bind (zBF t) ?_;unfold zBl;by_cases hc:zBE t=0
 case neg=>exact Zp hc (Js (if_neg hc).symm)
 obtain⟨ht,h6⟩:=zAY hc;have ad:=zBX ht;refine qu hc (Ev.bind (zCZ t v aa) ?_);rw[if_pos hc,zFx hc];by_cases hn:Jm t v=true
 case neg=>
  rw[if_neg hn];exact Zp hn (Ev.now _)
 obtain⟨hl,hp,_⟩:=zCR hn;rw[if_pos hn];refine qu hn (Ev.bind (zDj ht) (Ev.bind (a := []) (Ev.now _) (qu (by simp;omega) ?_)));have e0:zAs t v ((0:Nat):Int)=v:=by
  have ab:v.length=7*t.length:=by omega
  unfold zAs;rw[← ab];refine(JY (fun p ae=>?_)).trans (zFS v);by_cases h4:p%7<4
  case neg=>
   rw[if_neg (fun k=>h4 k.1)];omega
  have hb:=zDl ht (k:=ZF p) (by unfold ZF;omega);rw[if_neg (fun k=>by have:=k.2;omega)];omega
 have:=zBK ht (v:=v) (by omega) hp (zEQ t).2.2.2 (by simp [zEQ]) rfl (zEQ t).2.1 (zEQ t).2.2.1 _ 0 (Nat.zero_add _);rw[e0]at this;exact this
theorem zEU (t:Tri) (v:List Int):(zBl t v).1.length≤100∧(zBl t v).2.1.length≤100:=by
 unfold zBl;by_cases hc:zBE t=0
 case neg=>rw[if_neg hc];exact⟨Nat.zero_le _,Nat.zero_le _⟩
 rw[if_pos hc];obtain⟨ht,h6⟩:=zAY hc;by_cases hn:Jm t v=true
 case neg=>
  rw[if_neg hn];exact⟨Nat.zero_le _,Nat.zero_le _⟩
 rw[if_pos hn];have aa:=zBX ht;constructor
 next=>
  show(Qi t v).length≤100;unfold Qi;rw[Jv];unfold zBs at aa;omega
 show(zDp t v).length≤100;unfold zDp;rw[Jv];omega
end
end Go.Proofs.Ytbahbnhfhddlbaa.P
namespace Go.Proofs.Ytbahbnhfhddlbaa.P
open Go.RowKit Go.Proofs.YtbahbnhfhddlbaaW.PrintWords Go.Proofs.Ytbahbnhfhddlbaa.Lib
set_option linter.unusedVariables false
def mkR (a:Int):Nat→List zz
  | 0 => []
  | n+1=>⟨a,a+1⟩ :: mkR (a+2) n
theorem zBY (a:Int) (n:Nat):(mkR a n).length=n:=by
  induction n generalizing a with
  | zero=>rfl
  | succ n ih=>simp [mkR,ih]
theorem zHe (a:Int) (n:Nat):mkR a (n+1)=mkR a n ++ [⟨a+2*n,a+2*n+1⟩]:=by
  induction n generalizing a with
  | zero=>simp [mkR]
  | succ n ih=>
    rw[mkR,ih (a+2)];have e:a+2+2*(n:Int)=a+2*((n+1:Nat):Int):=by omega
    rw[e];rfl
theorem mk_set (l:List zz) (a:Int) (n:Nat) (h:n<l.length):(mkR a n++l.drop n).set n ⟨a+2*n,a+2*n+1⟩=mkR a (n+1)++l.drop (n+1):=by
  rw[List.set_append_right _ _ (by rw[zBY];exact yry _),zBY,Nat.sub_self,ypy h,yby,zHe,List.append_assoc];rfl
theorem zF6 (l:List zz) (n:Nat) (v:zz) (h:n<l.length):zJ (l.set n v) (n:Int)=v:=by
  rw[zAX _ n (by rw[List.length_set];exact h),List.getElem_set_self]
theorem zEV (l:List zz) (a:Int) (h:l.length≤1099511627776) (h0:0≤a) (h1:a≤9007199254740992):Ev (fun k=>qp.f k l a) (a+2*l.length,mkR a l.length):=by
  have hl:Ev (fun k=>qp.l0 k l a 0) (a+2*l.length,mkR a l.length):=by
    refine zA7 (fun k (s:List zz × Int × Int)=>qp.l0 k s.1 s.2.1 s.2.2) (fun s => ∃ n:Nat,n≤l.length∧s.2.2=n∧s.2.1=a+2*n∧s.1=mkR a n++l.drop n) (fun s=>l.length-s.2.2.toNat) (fun _=>(a+2*l.length,mkR a l.length)) ?_ (l,a,0) ⟨0,by omega,rfl,by simp,by simp [mkR]⟩;rintro⟨x,b,i⟩ ⟨n,hn,rfl,rfl,rfl⟩;dsimp only;have hlen:(mkR a n++l.drop n).length=l.length:=by simp [zBY];omega
    by_cases aa:n<l.length
    · refine .inr ⟨(mkR a (n+1)++l.drop (n+1),a+2*((n+1:Nat):Int),((n+1:Nat):Int)),⟨n+1,by omega,rfl,rfl,rfl⟩,by simp;omega,rfl,fun k=>?_⟩
      simp only [qp.l0];rw[if_pos (by rw[hlen];omega),if_pos (by omega),yfy,yny,zF6 _ n _ (by rw[hlen];exact aa),List.set_set,qZ (x:=a+2*(n:Int)+1) (by omega) (by omega),mk_set l a n aa,ZK (by omega),qZ (by omega) (by omega)];congr 1;omega
    · obtain rfl:n=l.length:=by omega
      refine .inl fun k=>?_
      simp only [qp.l0];rw[if_neg (by rw[hlen];omega)];simp
  exact hl
def zG2:Tri→Nat
  | []=>0
  | r :: rs=>2*r.length+zG2 rs
def mkT (a:Int):Tri→Tri
  | [] => []
  | r :: rs=>mkR a r.length :: mkT (a+2*r.length) rs
theorem zH1 (t:Tri) (h : ∀ r∈t,r.length≤1048576):zG2 t≤2097152*t.length:=by
  induction t with
  | nil=>simp [zG2]
  | cons r rs ih=>
    have h1:=h r (List.mem_cons_self ..);have h2:=ih (fun x hx=>h x (List.mem_cons_of_mem _ hx));simp only [zG2,List.length_cons];omega
theorem zEW : ∀ (aa:Tri) (pre:Tri) (a:Int),(∀ r∈aa,r.length≤1048576)→0≤a→a+zG2 aa≤9007199254740992→Ev (fun k=>ZT.go k aa.length (pre++aa) a pre.length) (a+zG2 aa,pre++mkT a aa)
  | [],pre,a,_,h0,h1=>zEC fun k=>by simp [ZT.go,zG2,mkT]
  | r :: rs,pre,a,hr,h0,h1=>by
    simp only [zG2]at h1;have hm:=zEV r a (by have:=hr r (List.mem_cons_self ..);omega) h0 (by omega);have ih:=zEW rs (pre ++ [mkR a r.length]) (a+2*r.length) (fun x hx=>hr x (List.mem_cons_of_mem _ hx)) (by omega) (by omega);simp only [List.length_cons,ZT.go];have e0:List.getD (pre++r :: rs) pre.length []=r:=by simp
    rw[e0];refine Ev.bind hm ?_;dsimp only;have e1:(pre++r :: rs).set pre.length (mkR a r.length)=pre ++ [mkR a r.length]++rs:=by
      rw[List.set_append_right _ _ (yry _),Nat.sub_self,yby];simp
    rw[e1];have e2:pre.length+1=(pre ++ [mkR a r.length]).length:=by simp
    rw[e2];have e3:(a+((zG2 (r :: rs):Nat):Int),pre++mkT a (r :: rs))=(a+2*r.length+(zG2 rs:Int),pre ++ [mkR a r.length]++mkT (a+2*r.length) rs):=by
      simp only [zG2,mkT,List.append_assoc,List.singleton_append];congr 1;omega
    rw[e3];exact ih
theorem zAd (t:Tri) (a:Int) (hs:Small t) (h0:0≤a) (h1:a≤1048576):Ev (fun k=>Zt.f k t a) (a+zG2 t,mkT a t):=by
  have:=zEW t [] a hs.2 h0 (by have:=zH1 t hs.2;have:=hs.1;omega);rw[List.nil_append,List.nil_append]at this;exact this
end Go.Proofs.Ytbahbnhfhddlbaa.P
namespace Go.Proofs.Ytbahbnhfhddlbaa.Pure
open Go.RowKit Go.Proofs.Ytbahbnhfhddlbaa.P Go.Proofs.Ytbahbnhfhddlbaa.Lib Go.Proofs.YtbahbnhfhddlbaaW.PrintWords
theorem zBZ (l:List (List qk)) (x:List Int) (h:Fits l) (hx:x.length≤9223372036854775807) : ∃ k,Zu.f k l x=some true:=by
  refine Ev.rounds ?_;by_cases ae:(x.length:Int)>1048576
  (exact qu ae (Ev.now true));refine Zp ae ?_;obtain⟨r,hr,hs⟩:=zBB l h;refine Ev.bind hr ?_;by_cases hn:r<0
  (exact qu hn (Ev.now true));have af:=hs hn;have ab:=zBC l af;have ad:=zEu x (by omega);have hS:=zGh af;have ai:=zH1 (cvT l) hS.2;have ak:=hS.1;have ho:=zEU (cvT l) x;have aj:=zDr (t:=cvT l) x (by omega);have ag:=zDq (t:=cvT l) hS x;generalize zBl (cvT l) x=o at *;obtain⟨al,an⟩:=ho;have heq:=zAq o.1 (by omega);have aa:=zAq o.2.1 (by omega);have hh:=zBG 1 o.1.length (by omega) (by omega) (by omega);have ah:=zBG (1+(o.1.length:Int)) o.2.1.length (by omega) (by omega) (by omega);have hex:=zAq x (by omega);refine Zp hn ?_;refine Ev.bind ab ?_;refine Ev.bind ad ?_;refine Ev.bind aj ?_;refine Ev.bind ab ?_;refine Ev.bind ad ?_;refine Ev.bind ag ?_;refine Ev.bind heq (qu rfl ?_);refine Ev.bind aa (qu rfl (qu rfl ?_));refine Ev.bind ab ?_;refine Ev.bind (zBD _ hS) (qu rfl ?_);refine Ev.bind ad ?_;refine Ev.bind hex (qu rfl ?_);refine Ev.bind (zAd _ 1 hS (by omega) (by omega)) ?_;refine Ev.bind (zA8 x _ (by omega) (by dsimp only;omega) (by dsimp only;omega)) ?_;refine Zp (by dsimp only;omega) ?_;refine Ev.bind heq (qu rfl ?_);refine Ev.bind aa (qu rfl (qu rfl ?_));refine Ev.bind (zA8 _ 1 (by omega) (by omega) (by omega)) ?_;refine Ev.bind (zA8 _ _ (by omega) (by dsimp only;omega) (by dsimp only;omega)) ?_;refine Ev.bind hh ?_;refine Zp (by omega) ?_;refine Ev.bind ah ?_;refine Zp (by omega) (qu rfl ?_);refine Ev.bind ab ?_;refine Ev.bind ad ?_;refine Ev.bind ag ?_;refine Ev.bind heq (qu rfl ?_);refine Ev.bind aa (qu rfl (qu rfl ?_));refine Ev.bind hh ?_;refine Zp (by omega) ?_;refine Ev.bind ah ?_;exact Zp (by omega) (qu rfl (Ev.now true))
end Go.Proofs.Ytbahbnhfhddlbaa.Pure
namespace Go.Proofs.Ytbahbnhfhddlbaa.Lib
open Go.RowKit Go.Proofs.YtbahbnhfhddlbaaW.PrintWords Go.Joins Go.Deep Go.WideShapes Go.ChangeShapes
set_option linter.unusedVariables false
def zFz (P:Program) (t:TypeId) {α:Type} (d:Kd α):Prop := ∀ (H:Type) (enc:TypeId × Value→H) (w:World) (base:Nat) (spare:Nat→Bool) (held:Bool) (fuel:Nat) (cs:List Value) (x:DataW H × List MemPlace),
  DataW.trod enc P w base spare held fuel t cs=some x → ∃ y,d.K w y cs
theorem zH2 {P:Program} {t:TypeId} {k:IntKind} (ht:P.underlying t=some (.int k)):zFz P t (Kd.int k):=by
  intro H enc w base spare held fuel cs x h;obtain⟨n,rfl,_,_⟩:=DataW.trod_int ht h;exact⟨n,rfl⟩
theorem zEX {α:Type} {R:Nat → α→Prop} : ∀ n,(∀ i,i<n → ∃ y,R i y) → ∃ ys:List α,ys.length=n ∧ ∀ j p,ys[j]?=some p→R j p
  | 0,_=>⟨[],rfl,fun j p h=>by simp at h⟩
  | n+1,h=>by
    obtain⟨ys,hl,hr⟩:=zEX n (fun i hi=>h i (by omega));obtain⟨y,hy⟩:=h n (by omega);refine⟨ys ++ [y],by simp [hl],fun j p hj=>?_⟩;by_cases ab:j<n
    (rw[List.getElem?_append_left (by omega)]at hj;exact hr j p hj)
    · have aa:j<(ys ++ [y]).length:=(List.getElem?_eq_some_iff.1 hj).1
      have:j=n:=by simp [hl]at aa;omega
      subst this;rw[List.getElem?_append_right (by omega),hl,Nat.sub_self]at hj;injection hj with hj
      rw[← hj];exact hy
theorem zAt {P:Program} {t e:TypeId} {α:Type} {d:Kd α} (ht:P.underlying t=some (.slice e)) (hc:P.cellsOf e=d.sz) (h:zFz P e d):zFz P t (Kd.slice e d):=by
  intro H enc w base spare held fuel cs x hx;rcases open_slice ht hx with ⟨rfl,_⟩|⟨a,len,cap,m,n,D,Pl,rfl,hb,hl,hm,ad,_,hi⟩
  (exact⟨[],none,0,rfl,yry _,Kd.C_nil d w⟩)
  · have each : ∀ i,i<len → ∃ y,∃ aa,w.cells? base (a.add (i*d.sz)) d.sz=some aa ∧ d.K w y aa:=by
      intro i ab;have ae:i<m:=by rw[ad];split <;> omega
      obtain⟨aa,h1,h2⟩:=hi i ae;obtain⟨y,hy⟩:=h H enc w base spare held n aa _ h2;rw[hc]at h1;exact⟨y,aa,h1,hy⟩
    obtain⟨ys,hlen,af⟩:=zEX len each;refine⟨ys,some a,cap,by rw[hlen],by omega,rfl,?_,fun _=>⟨a,rfl,fun j p hj=>?_⟩⟩
    · unfold maxLen at hm;omega
    · obtain⟨aa,h1,h2⟩:=af j p hj
      obtain⟨_,h3,h4⟩:=World.cells?_some h1;refine⟨aa,h3,h2,fun i u hu=>?_⟩;have ab:i<d.sz:=by rw[← h3];exact(List.getElem?_eq_some_iff.1 hu).1
      rw[← hu,← h4 i ab,Go.Deep.add_add]
theorem zDs {P:Program} {t:TypeId} {f0 f1:Field} {α:Type} (hs:P.underlying t=some (.struct #[f0,f1])) (aa:oneCellFields P #[f0,f1]=true) (hC:P.cellsOf t=2)
    (h0:P.underlying f0.type=some (.int .i64)) (h1:P.underlying f1.type=some (.int .i64)) (d:Kd α) (mk:Int→Int → α) (hK : ∀ w a b,d.K w (mk a b) [.int .i64 a,.int .i64 b]):zFz P t d:=by
  intro H enc w base spare held fuel cs x h;obtain⟨y0,y1,n,hx,hl,g0,g1⟩:=trod_struct2 hs h;obtain⟨o0,k0⟩:=hone_of aa 0 f0 rfl;obtain⟨o1,k1⟩:=hone_of aa 1 f1 rfl;rw[hC]at hl;match cs,hl with
  | [c0,c1],_=>
    rw[o0,k0]at g0;rw[o1,k1]at g1;obtain⟨a,e0,_,_⟩:=DataW.trod_int h0 g0;obtain⟨b,e1,_,_⟩:=DataW.trod_int h1 g1;simp at e0 e1
    subst e0 e1;exact⟨mk a b,hK w a b⟩
section
variable {H : Type} {enc : TypeId × Value → H} {P : Program} {w : World} {base : Nat} {spare : Nat → Bool} {held : Bool}
theorem array1 {α:Type} {cs:Array α} (h:cs.size=1) : ∃ c0,cs = #[c0]:=by
  obtain⟨l⟩:=cs;match l,h with
  | [c0],_=>exact⟨c0,rfl⟩
theorem zHf {r:Reach} {b0:Nat} {t e:TypeId} {α:Type} {d:Kd α} {v:Value} {D:DataW H} {p:List MemPlace} (hu:P.underlying t=some (.slice e)) (ho:zFz P t (Kd.slice e d)) (hv:Value.okWide P w r b0 t v) (h:DataW.Trod enc P w base spare held t v D p) :
    ∃ (A:Option Addr) (c:Nat) (l:List α),v = .slice A l.length c∧l.length≤c∧d.C w A l.length l:=by
  obtain⟨a0,len,cap,rfl⟩:=okWide_slice hu hv;obtain⟨fuel,hf⟩:=h;obtain⟨l,A,c,e1,hl,hC⟩:=ho H enc w base spare held fuel _ _ hf;simp [Value.cells]at e1
  obtain⟨rfl,rfl,rfl⟩:=e1;exact⟨_,_,l,rfl,hl,hC⟩
theorem zH3 {r:Reach} {b0:Nat} {t e:TypeId} {f0:Field} {α:Type} {d:Kd α} {v:Value} {D:DataW H} {p:List MemPlace} (hs:P.underlying t=some (.struct #[f0])) (aa:oneCellFields P #[f0]=true) (hC:P.cellsOf t=1)
    (ho:zFz P f0.type (Kd.slice e d)) (hv:Value.okWide P w r b0 t v) (h:DataW.Trod enc P w base spare held t v D p) :
    ∃ (A:Option Addr) (c:Nat) (l:List α),v = .agg #[.slice A l.length c]∧l.length≤c∧d.C w A l.length l:=by
  obtain⟨cs,rfl,ab⟩:=okWide_struct hs hv;obtain⟨c0,rfl⟩:=array1 (ab.trans hC);obtain⟨fuel,hf⟩:=h;obtain⟨y0,n,hx,_,h0⟩:=trod_struct1 hs hf;obtain⟨o0,k0⟩:=hone_of aa 0 f0 rfl;have ad : DataW.trod enc P w base spare held n f0.type [c0]=some y0:=by simpa [Value.cells,o0,k0]using h0
  obtain⟨l,A,c,e1,hl,ae⟩:=ho H enc w base spare held n _ _ ad;simp at e1
  subst e1;exact⟨A,c,l,rfl,hl,ae⟩
end
theorem zH4 {e:Nat} {α:Type} {d:Kd α} {w:World} {A:Option Addr} {l:List (List α)} (h:(Kd.slice e d).C w A l.length l):l.length≤9223372036854775807 ∧ ∀ r∈l,r.length≤9223372036854775807:=by
  refine⟨h.2.1,fun r hr=>?_⟩;obtain⟨j,hj,rfl⟩:=List.mem_iff_getElem.1 hr;obtain⟨ad,_,hc⟩:=h.2.2 (by omega);obtain⟨c,_,hK,_⟩:=hc j _ (List.getElem?_eq_getElem hj);obtain⟨A',c',_,_,hC⟩:=hK;exact hC.2.1
end Go.Proofs.Ytbahbnhfhddlbaa.Lib
