/- The statement FnExactLinkKindSaid, proved: part 7 of 9 (texts of this session and of the kit's print, put together and cut to what is used by a program of it). -/
import Derived.Test.YtembbpalgfikiaaMFnExactLinkKind6
namespace Go.Proofs.Ytembbpalgfikiaa.P
open Go.RowKit Go.Proofs.YtembbpalgfikiaaW.PrintWords Go.Proofs.YtembbpalgfikiaaW.PrintLast Go.Proofs.YtembbpalgfikiaaW.PrintMore
attribute [local go_sem] Ji Jj zAU zAV JK JL Jk Jl
set_option linter.unusedVariables false
set_option linter.unusedSimpArgs false
structure zBj where
 p:List Int
 s:List Int
 u:List Int
 n:Int
def zCV (b v f to_ pm:Int):Nat→List Int→List Int
 | 0,x=>x
 | w+1,x=>if(w:Int)=v then zCV b v f to_ pm w x else(if(w:Int)=f then zCV b v f to_ pm w x else Lib.joi (zCV b v f to_ pm w x) (b+(w:Int)) (to_+rd (qP pm) (w:Int)))
def zE8 (b v f:Int) (x:zv) (q:zBj):zBj:=if x.f0<0 then⟨q.p,q.s,q.u ++ [b+f],q.n+1⟩else⟨zCV b v f (16*x.f0+4*rd (qP x.f1) v) x.f1 4 q.p,Lib.joi q.s (b+f) (16*x.f0+4*rd (qP x.f1) v+rd (qP x.f1) f),q.u ++ [b+f],q.n⟩
def Ql (t:List (List zv)) (a v:Int):Nat→zBj→zBj
 | 0,q=>q
 | f+1,q=>if(f:Int)=v then Ql t a v f q else zE8 (16*a+4*v) v (f:Int) (zI (zE t a) (f:Int)) (Ql t a v f q)
def zAn (t:List (List zv)) (cs:List (List Int)):Nat→zBj→zBj
 | 0,q=>q
 | i+1,q=>Ql t (rd (qQ cs (i:Int)) 0) (rd (qQ cs (i:Int)) 1) 4 (zAn t cs i q)
def zEY (t:List (List zv)):zBj:=⟨Lib.ZP 0 (16*t.length),Lib.ZP 0 (16*t.length),[],0⟩
def zE9 (n:Nat) (x:zv):Bool:=decide (x.f0<0)||(decide (0≤x.f0)&&(decide (x.f0<(n:Int))&&(decide (0≤x.f1)&&decide (x.f1≤23))))
def zBC (n:Nat) (c:List Int):Bool:=decide (c.length=2)&&((decide (0≤rd c 0)&&decide (rd c 0<(n:Int)))&&(decide (0≤rd c 1)&&decide (rd c 1≤3)))
def zEo (t:List (List zv)) (cs:List (List Int)):Bool:=(decide (t.length≤8)&&decide (cs.length≤32))&&(t.all (fun r=>decide (r.length=4)&&r.all (zE9 t.length))&&cs.all (zBC t.length))
theorem zIl {t:List (List zv)} {cs:List (List Int)} (h:zEo t cs=true):t.length≤8∧cs.length≤32∧(∀ r∈t,r.length=4)∧(∀ r∈t,∀ x∈r,¬ x.f0<0→0≤x.f0∧x.f0<(t.length:Int)∧0≤x.f1∧x.f1≤23)∧(∀ c∈cs,c.length=2∧0≤rd c 0∧rd c 0<(t.length:Int)∧0≤rd c 1∧rd c 1≤3):=by
 unfold zEo at h
 simp only [Bool.and_eq_true,decide_eq_true_eq,List.all_eq_true]at h
 obtain⟨⟨h1,h2⟩,h3,h4⟩:=h
 refine⟨h1,h2,fun r hr=>(h3 r hr).1,fun r hr x hx hb=>?_,fun c hc=>?_⟩
 next=>
  have:=(h3 r hr).2 x hx
  unfold zE9 at this
  simp only [Bool.or_eq_true,Bool.and_eq_true,decide_eq_true_eq]at this
  rcases this with a|⟨a,b,c,d⟩
  next=>
   exact absurd a hb
  exact⟨a,b,c,d⟩
 have:=h4 c hc
 unfold zBC at this
 simp only [Bool.and_eq_true,decide_eq_true_eq]at this
 exact⟨this.1,this.2.1.1,this.2.1.2,this.2.2.1,this.2.2.2⟩
def zHq (k:Nat):Bool:=decide (∀ (m:Fin 24) (f:Fin 4),qi.f k (m.val:Int) (f.val:Int)=some (rd (qP (m.val:Int)) (f.val:Int)))
theorem zGo {k:Nat} (h:zHq k=true) {p f:Int} (h0:0≤p) (h1:p≤23) (h2:0≤f) (h3:f≤3):qi.f k p f=some (rd (qP p) f):=by
 unfold zHq at h
 rw[decide_eq_true_eq]at h
 obtain⟨m,rfl⟩ : ∃ m:Fin 24,p=(m.val:Int):=⟨⟨p.toNat,by omega⟩,by simp;omega⟩
 obtain⟨n,rfl⟩ : ∃ m:Fin 4,f=(m.val:Int):=⟨⟨f.toNat,by omega⟩,by simp;omega⟩
 exact h m n
structure zFS (N M:Nat) (q:zBj):Prop where
 lp:q.p.length=N
 ls:q.s.length=N
 u : ∀ v∈q.u,0≤v∧v<(N:Int)
 lu:q.u.length≤M
 n0:0≤q.n
 n1:q.n≤(M:Int)
theorem zAA (b v f to_ pm:Int) : ∀ (w:Nat) (x:List Int),(zCV b v f to_ pm w x).length=x.length
 | 0,x=>rfl
 | w+1,x=>by
  have:=zAA b v f to_ pm w x
  unfold zCV
  split
  next=>
   exact this
  split
  next=>
   exact this
  rw[Lib.QC];exact this
theorem zHr {N M:Nat} {q:zBj} (h:zFS N M q) {b v f:Int} (x:zv) (h0:0≤b+f) (h1:b+f<(N:Int)):zFS N (M+1) (zE8 b v f x q):=by
 have hu : ∀ u∈q.u ++ [b+f],0≤u∧u<(N:Int):=fun u hu=>by
  rcases List.mem_append.1 hu with hu|hu
  next=>
   exact h.u u hu
  rw[List.mem_singleton.1 hu];exact⟨h0,h1⟩
 have hl:(q.u ++ [b+f]).length≤M+1:=by rw[List.length_append];have:=h.lu;simp;omega
 have a:=h.n0
 have c:=h.n1
 unfold zE8
 split
 next=>
  exact⟨h.lp,h.ls,hu,hl,by dsimp only;omega,by dsimp only;omega⟩
 exact⟨by dsimp only;rw[zAA];exact h.lp,by dsimp only;rw[Lib.QC];exact h.ls,hu,hl,a,by dsimp only;omega⟩
theorem zAB {N M:Nat} {t:List (List zv)} {a v:Int} (h0:0≤a) (h1:16*a+16≤(N:Int)) (h2:0≤v) (h3:v≤3) {q:zBj} (h:zFS N M q) : ∀ f:Nat,f≤4→zFS N (M+f) (Ql t a v f q)
 | 0,_=>h
 | f+1,hf=>by
  have ih:=zAB (t:=t) h0 h1 h2 h3 h f (by omega)
  unfold Ql
  split
  next=>
   exact⟨ih.lp,ih.ls,ih.u,by have:=ih.lu;omega,ih.n0,by have:=ih.n1;omega⟩
  exact zHr ih _ (by omega) (by omega)
theorem zBD {t:List (List zv)} {cs:List (List Int)} (hc : ∀ c∈cs,c.length=2∧0≤rd c 0∧rd c 0<(t.length:Int)∧0≤rd c 1∧rd c 1≤3) {q:zBj} (h:zFS (16*t.length) 0 q) : ∀ i:Nat,i≤cs.length→zFS (16*t.length) (4*i) (zAn t cs i q)
 | 0,_=>h
 | i+1,hi=>by
  have ih:=zBD hc h i (by omega)
  have e:qQ cs (i:Int)=cs[i]:=by simp [qQ,show i<cs.length by omega]
  have h2:=hc cs[i] (yoy _)
  unfold zAn
  rw[e]
  exact zAB h2.2.1 (by have:=h2.2.2.1;omega) h2.2.2.2.1 h2.2.2.2.2 ih 4 (by omega)
theorem zAf (t:List (List zv)):zFS (16*t.length) 0 (zEY t):=⟨Lib.qU _ _,Lib.qU _ _,fun v hv=>absurd hv (List.not_mem_nil),yry _,Int.le_refl _,Int.le_refl _⟩
theorem zIJ {n:Nat} {a v f x pv pf:Int} (a0:0≤a) (a1:a<(n:Int)) (v0:0≤v) (v1:v≤3) (f0:0≤f) (f1:f<4) (x0:0≤x) (x1:x<(n:Int)) (p0:0≤pv) (p1:pv≤3) (q0:0≤pf) (q1:pf≤3):0≤16*a+4*v+f∧16*a+4*v+f<((16*n:Nat):Int)∧0≤16*x+4*pv+pf∧16*x+4*pv+pf<((16*n:Nat):Int):=by
 refine⟨by omega,by omega,by omega,by omega⟩
theorem num_wr {n:Nat} {x pv:Int} (hn:n≤8) (x0:0≤x) (x1:x<(n:Int)) (p0:0≤pv) (p1:pv≤3):wrap64 (wrap64 (16*x)+wrap64 (4*pv))=16*x+4*pv:=by
 rw[Lib.ql (show -9223372036854775808≤16*x by omega) (by omega),Lib.ql (show -9223372036854775808≤4*pv by omega) (by omega),Lib.ql (by omega) (by omega)]
def Zr.f (k:Nat) (t:List (List zv)) (cs:List (List Int)):Option (Int × Int × Int × Int):=if zEo t cs=true then((if zHq k=true then(qF.f k (16*(t.length:Int)))else none).bind fun u=>if u=Lib.ZP 0 (16*t.length)then((zj.f k (zAn t cs cs.length (zEY t)).p (zAn t cs cs.length (zEY t)).u).bind fun p=>(zj.f k (zAn t cs cs.length (zEY t)).s (zAn t cs cs.length (zEY t)).u).bind fun s=>some (p,s,(cs.length:Int),(zAn t cs cs.length (zEY t)).n))else none)else none
structure zB0 (w W:World) (m m2:Nat) (A0:Option Addr) (n c0:Nat) (vP vS vU:Value) (q:zBj):Prop where
 bT:W.heap[w.heap.size]?=some (.cells #[.slice A0 n c0] 35 (0,0))
 rP:Kd.R (Kd.int .i64) 2 W w.heap.size (fun k=>w.heap.size<k∧k<m) vP q.p
 rS:Kd.R (Kd.int .i64) 2 W w.heap.size (fun k=>m≤k∧k<m2) vS q.s
 rU:Kd.R (Kd.int .i64) 2 W w.heap.size (fun k=>m2≤k) vU q.u
 below:Below w.heap.size w W
 mm:w.heap.size<m∧m≤m2∧m2≤W.heap.size
section
variable {w W W1 : World} {m m2 : Nat} {A0 : Option Addr} {n c0 : Nat} {vP vS vU vU1 : Value} {q : zBj}
theorem zB0.stays (h:zB0 w W m m2 A0 n c0 vP vS vU q) (hb:Below W.heap.size W W1):zB0 w W1 m m2 A0 n c0 vP vS vU q:=⟨zO h.bT hb,Kd.qN h.rP hb,Kd.qN h.rS hb,Kd.qN h.rU hb,zM h.below hb,h.mm.1,h.mm.2.1,Nat.le_trans h.mm.2.2 hb.size⟩
theorem zB0.drew (h:zB0 w W m m2 A0 n c0 vP vS vU q):zB0 w W.drew m m2 A0 n c0 vP vS vU q:=⟨h.bT,Kd.zZ h.rP,Kd.zZ h.rS,Kd.zZ h.rU,zD h.below,h.mm⟩
theorem zB0.drewN (h:zB0 w W m m2 A0 n c0 vP vS vU q) (d:Nat):zB0 w (W.drewN d) m m2 A0 n c0 vP vS vU q:=h.stays (zB (ysy _ _) _)
theorem zB0.alloc (h:zB0 w W m m2 A0 n c0 vP vS vU q) (o:Obj):zB0 w (W.alloc o) m m2 A0 n c0 vP vS vU q:=h.stays (zC (ysy _ _) o)
theorem zB0.joinP (h:zB0 w W m m2 A0 n c0 vP vS vU q) {p:List Int} (h1:Kd.R (Kd.int .i64) 2 W1 w.heap.size (fun k=>w.heap.size<k∧k<m) vP p) (h2:Below w.heap.size w W1) (h3:Kept W W1 (fun k=>w.heap.size<k∧k<m)):zB0 w W1 m m2 A0 n c0 vP vS vU ⟨p,q.s,q.u,q.n⟩:=
 ⟨ZX h.bT h3 (by omega),h1,Kd.zAI h.rS h3 (fun k hk e=>by omega),Kd.zAI h.rU h3 (fun k hk e=>by have:=h.mm.2.1;omega),h2,h.mm.1,h.mm.2.1,Nat.le_trans h.mm.2.2 h3.1⟩
theorem zB0.joinS (h:zB0 w W m m2 A0 n c0 vP vS vU q) {s:List Int} (h1:Kd.R (Kd.int .i64) 2 W1 w.heap.size (fun k=>m≤k∧k<m2) vS s) (h2:Below w.heap.size w W1) (h3:Kept W W1 (fun k=>m≤k∧k<m2)):zB0 w W1 m m2 A0 n c0 vP vS vU ⟨q.p,s,q.u,q.n⟩:=
 ⟨ZX h.bT h3 (by have:=h.mm.1;omega),Kd.zAI h.rP h3 (fun k hk e=>by omega),h1,Kd.zAI h.rU h3 (fun k hk e=>by omega),h2,h.mm.1,h.mm.2.1,Nat.le_trans h.mm.2.2 h3.1⟩
theorem zB0.app (h:zB0 w W m m2 A0 n c0 vP vS vU q) {u:List Int} (ho:Kd.R (Kd.int .i64) 2 W1 w.heap.size (fun k=>m2≤k) vU1 u) (hb:Below w.heap.size w W1) (hg:W.grownBy W1 vU.ownBlock):zB0 w W1 m m2 A0 n c0 vP vS vU1 ⟨q.p,q.s,u,q.n⟩:=
 ⟨qj h.bT hg (Kd.zCU h.rU h.bT (by decide)),Kd.zBN h.rP hg (fun k hk e=>by have:=h.rU.1 k e.symm;have:=h.mm.2.1;omega),Kd.zBN h.rS hg (fun k hk e=>by have:=h.rU.1 k e.symm;omega),ho,hb,h.mm.1,h.mm.2.1,Nat.le_trans h.mm.2.2 hg.size⟩
theorem zB0.more (h:zB0 w W m m2 A0 n c0 vP vS vU q) (x:Int):zB0 w W m m2 A0 n c0 vP vS vU ⟨q.p,q.s,q.u,x⟩:=⟨h.bT,h.rP,h.rS,h.rU,h.below,h.mm⟩
theorem zB0.cell (h:zB0 w W m m2 A0 n c0 vP vS vU q):W.cell? ⟨w.heap.size,0,none⟩=some (.slice A0 n c0):=(zK h.bT 0).trans rfl
end
set_option maxHeartbeats 8000000 in
set_option maxRecDepth 100000 in
theorem Zr.calls (k:Nat) (ae:Option Addr) (ad:Nat) (aa:List (List zv)) (A1:Option Addr) (c1:Nat) (l1:List (List Int)) (r1 r2 r3 r4:Int) (w:World) (ah:Kd.C (Kd.slice 75 ZZ) w ae aa.length aa) (ai:aa.length≤ad) (aQ:Kd.C (Kd.slice 2 (Kd.int .i64)) w A1 l1.length l1) (aY:l1.length≤c1) (h:Zr.f k aa l1=some (r1,r2,r3,r4)) :
 Calls Try.prog 54 #[.agg #[.slice ae aa.length ad],.slice A1 l1.length c1] w fun e w'=>e = .returned (.tuple #[.int .i64 r1,.int .i64 r2,.int .i64 r3,.int .i64 r4])∧Below w.heap.size w w':=by
 unfold Zr.f at h
 by_cases hok:zEo aa l1=true
 case neg=>rw[if_neg hok]at h;cases h
 rw[if_pos hok]at h
 obtain⟨u,hu,h⟩:=ydy.mp h
 by_cases hat:zHq k=true
 case neg=>rw[if_neg hat]at hu;cases hu
 rw[if_pos hat]at hu
 by_cases hup:u=Lib.ZP 0 (16*aa.length)
 case neg=>rw[if_neg hup]at h;cases h
 rw[if_pos hup]at h
 subst hup;obtain⟨p,hp,h⟩:=ydy.mp h
 obtain⟨s,hs,h⟩:=ydy.mp h
 simp only [Option.some.injEq,Prod.mk.injEq]at h
 obtain⟨rfl,rfl,rfl,hrn⟩:=h
 obtain⟨aZ,a1,h4,hf,hc⟩:=zIl hok
 have HR:=zA.mk ah
 have HC:=zA.mk ai
 have a2:=zA.mk aQ
 have HP:=zA.mk hp
 have HS:=zA.mk hs
 have HN:=zA.mk hrn
 have H4:=zA.mk h4
 have HF:=zA.mk hf
 have HCS:=zA.mk hc
 have HFR:=zA.mk hu
 have HAT:=zA.mk hat
 clear ah ai aQ aY hp hs hrn h4 hf hc hok hu hat;have B0:=zA.mk (ZL (W:=w) rfl (.cells #[.slice ae aa.length ad] 35))
 have HB:=zA.mk (zC (ysy w.heap.size w) (.cells #[.slice ae aa.length ad] 35))
 go_enter Try.func54,Try.ntmps54
 go_wp2_with fail
 generalize World.alloc w _=w1 at B0 HB ⊢
 refine(qb.calls ae ad aa (aa.length:Int) w1 (Kd.qD HR.out HB.out) HC.out rfl).mono ?_
 rintro e w2 ⟨rfl,hb⟩
 have ar:=zA.mk (zO B0.out hb)
 have al:=zA.mk (zM HB.out hb)
 clear B0 HB hb;go_wp2_with fail
 refine(qF.calls k (16*(aa.length:Int)) _ w2 HFR.out).mono ?_
 rintro e w3 ⟨vP,rfl,ho,hb⟩
 have HO:=zA.mk (Kd.qx (Kd.qC (Kd.Zy ho) (ok':=fun k=>w.heap.size<k∧k<w3.heap.size) (fun k hk=>⟨by have:=qT ar.out;omega,hk.2.2.1⟩)) al.out.size)
 have B0:=zA.mk (zO ar.out hb)
 have HB:=zA.mk (zM al.out hb)
 clear ar al ho hb;have hT:w3.cell? ⟨w.heap.size,0,none⟩=some (.slice ae aa.length ad):=(zK B0.out 0).trans rfl
 go_wp2_with fail
 refine(qb.calls ae ad aa (aa.length:Int) w3 (Kd.qD HR.out HB.out) HC.out rfl).mono ?_
 rintro e w4 ⟨rfl,hb⟩
 have ar:=zA.mk (zO B0.out hb)
 have al:=zA.mk (zM HB.out hb)
 have aR:=zA.mk (Kd.qN HO.out hb)
 have HM:=zA.mk (show w.heap.size<w3.heap.size∧w3.heap.size≤w4.heap.size from⟨qT B0.out,hb.size⟩)
 clear B0 HB HO hb hT;go_wp2_with fail
 refine(qF.calls k (16*(aa.length:Int)) _ w4 HFR.out).mono ?_
 rintro e w5 ⟨vS,rfl,ho,hb⟩
 generalize w3.heap.size=m at *
 have aT:=zA.mk (Kd.qx (Kd.qC (Kd.Zy ho) (ok':=fun k=>m≤k∧k<w5.heap.size) (fun k hk=>⟨by have:=HM.out.2;omega,hk.2.2.1⟩)) al.out.size)
 have B0:=zA.mk (zO ar.out hb)
 have HO:=zA.mk (Kd.qN aR.out hb)
 have HB:=zA.mk (zM al.out hb)
 have HMM:=zA.mk (show w.heap.size<m∧m≤w5.heap.size from⟨HM.out.1,Nat.le_trans HM.out.2 hb.size⟩)
 clear ar al aR HM ho hb;go_wp2_with (first|((with_reducible refine zw (N:=28) rfl ?_);refine Kd.zBO (Kd.int .i64) _ 2 ?hg (N:=28) ?hd (xs:=([]:List Int)) (inner := []) (ok:=fun _=>True) (okp:=fun _=>True) ?hr ?hp (fun _ hk=>hk) trivial (ysy _ _) (yry _) (by simp) ?_;(case hd=>rfl);(case hg=>rfl);(case hr=>first|(go_simp;done)|(go_simp;rfl));(case hp=>exact(QN.none _ _));intro vU w6 ho hb hg_ hnew_;clear hg_ hnew_;have HI:zA (zB0 w w6 m w5.heap.size ae aa.length ad vP vS vU (zEY aa)):=⟨⟨zO B0.out hb,Kd.qN HO.out hb,Kd.qN aT.out hb,Kd.qx (Kd.qC (Kd.Zy ho) (ok':=fun k=>w5.heap.size≤k) (fun k hk=>hk.2.1)) HB.out.size,zM HB.out hb,HMM.out.1,HMM.out.2,hb.size⟩⟩;clear ho hb B0 HO aT HB HMM))
 generalize w5.heap.size=m2 at HI
 go_loopg [10,11,12] l1.length (fun gg v10 v11 a5 w' => ∃ i:Nat,i≤l1.length∧l1.length-i≤gg∧v11 = .int .i64 (zAn aa l1 i (zEY aa)).n∧a5 = .int .i64 i∧zA (zB0 w w' m m2 ae aa.length ad vP vS v10 (zAn aa l1 i (zEY aa))))
 case atStart=>exact⟨0,Nat.zero_le _,by omega,rfl,rfl,HI⟩
 case round=>
  clear HI;obtain⟨i,hi,hg,rfl,rfl,HI⟩:=hrel
  have HL:=zA.mk (zBD HCS.out (zAf aa) i hi)
  by_cases hlt:i<l1.length
  case neg=>
   obtain rfl:i=l1.length:=by omega
   rw[HN.out]
   generalize zAn aa l1 l1.length (zEY aa)=q at *
   obtain⟨AP,cP,eP⟩:=Kd.ZE HI.out.rP
   obtain⟨AS,cS,eS⟩:=Kd.ZE HI.out.rS
   obtain⟨AU,cU,eU⟩:=Kd.ZE HI.out.rU
   subst eP;subst eS;subst eU;go_wp2_with fail
   refine(zj.calls k AP cP q.p AU cU q.u p wr (Kd.zq HI.out.rP).2.2 (Kd.zq HI.out.rP).2.1 (Kd.zq HI.out.rU).2.2 (Kd.zq HI.out.rU).2.1 HP.out).mono ?_
   rintro e w8 ⟨rfl,hd⟩
   have ab:=zA.mk (HI.out.stays (qG.below hd))
   clear hd HI;go_wp2_with fail
   refine(zj.calls k AS cS q.s AU cU q.u s w8 (Kd.zq ab.out.rS).2.2 (Kd.zq ab.out.rS).2.1 (Kd.zq ab.out.rU).2.2 (Kd.zq ab.out.rU).2.1 HS.out).mono ?_
   rintro e w9 ⟨rfl,hd⟩
   have HB:=zA.mk (ab.out.stays (qG.below hd)).below
   clear hd ab;go_wp2;refine bodyPost_ret (zDs (rs := [.tmp 4,.tmp 5,.tmp 6,.tmp 7]) rfl (by simp) (.tmp (.tmp (.tmp (.tmp .nil))))) rfl ?_
   exact⟨rfl,HB.out⟩
  have hltz:(i:Int)<(l1.length:Int):=by omega
  obtain⟨bd,A3,c3,e4,hy,a6,ax⟩:=zAw a2.out (i:Int) (by omega) hltz
  subst e4;rw[yny]at hy
  have ex:qQ l1 (i:Int)=l1[i]:=by simp [qQ,hlt]
  have hcc:=HCS.out l1[i] (yoy hlt)
  have HNX:=zA.mk (show zAn aa l1 (i+1) (zEY aa)=Ql aa (rd (qQ l1 (i:Int)) 0) (rd (qQ l1 (i:Int)) 1) 4 (zAn aa l1 i (zEY aa))from rfl)
  rw[← ex]at hcc
  obtain⟨aU,an,aw,au,aA⟩:=hcc
  obtain⟨ada,ea,hya⟩:=Kd.qw ax 0 (by omega) (by omega)
  obtain⟨adv,ev,hyv⟩:=Kd.qw ax 1 (by omega) (by omega)
  subst ea;obtain rfl:ada=adv:=by injection ev
  clear ev a6 ax ex;rw[aU]at hy
  replace hy:=(HI.out.below.cell (yqy w _ hy)).trans hy
  replace hya:=(HI.out.below.cell (yqy w _ hya)).trans hya
  replace hyv:=(HI.out.below.cell (yqy w _ hyv)).trans hyv
  replace hya:wr.cell? ada=some (.int .i64 (rd (qQ l1 (i:Int)) 0)):=hya
  replace hyv:wr.cell? ⟨ada.block,ada.off+1,none⟩=some (.int .i64 (rd (qQ l1 (i:Int)) 1)):=hyv
  generalize rd (qQ l1 (i:Int)) 0=a at *
  generalize rd (qQ l1 (i:Int)) 1=v at *
  clear aU;generalize zAn aa l1 i (zEY aa)=q at *
  have bf:=HL.out.n0
  have bg:=HL.out.n1
  go_wp2;go_quiet (fail)
  try go_wp2
  clear hy hya hyv;have aV:=HI;go_loopg [10,11,15] 4 (fun gg v10 v11 a7 w' => ∃ f:Nat,f≤4∧4-f≤gg∧v11 = .int .i64 (Ql aa a v f q).n∧a7 = .int .i64 f∧zA (zB0 w w' m m2 ae aa.length ad vP vS v10 (Ql aa a v f q)))
  case atStart=>exact⟨0,by omega,by omega,rfl,rfl,⟨aV.out.drewN _⟩⟩
  case round=>
   clear HI aV;obtain⟨f,a8,hgf,rfl,rfl,HI⟩:=hrel
   have HLF:=zA.mk (zAB (t:=aa) an (by omega) au aA HL.out f a8)
   by_cases hlf:f<4
   case neg=>
    obtain rfl:f=4:=by omega
    go_wp2;go_roundg (l1.length-(i+1))
    case measure=>omega
    case rel=>exact⟨i+1,by omega,yry _,by rw[HNX.out],by go_num,⟨by rw[HNX.out];exact HI.out⟩⟩
   have HNF:=zA.mk (show Ql aa a v (f+1) q=if(f:Int)=v then Ql aa a v f q else zE8 (16*a+4*v) v (f:Int) (zI (zE aa a) (f:Int)) (Ql aa a v f q)from rfl)
   generalize Ql aa a v f q=q1 at *
   have hlfz:(f:Int)<4:=by omega
   by_cases e:(f:Int)=v
   next=>
    have ag:=zA.mk (HNF.out.trans (if_pos e))
    have eb:((f:Int)==v)=true:=by rw[e];exact beq_self_eq_true _
    clear HNF;go_wp2;go_roundg (4-(f+1))
    case measure=>omega
    case rel=>exact⟨f+1,by omega,by omega,by rw[ag.out],by go_num,⟨by rw[ag.out];exact HI.out⟩⟩
   have ag:=zA.mk (HNF.out.trans (if_neg e))
   have eb:((f:Int)==v)=false:=by simpa using e
   have HE:=zA.mk e
   clear HNF e;obtain⟨ay,A4,c4,e4,hz,a_,aW⟩:=ZY HR.out a an aw
   subst e4;have hrl:(zE aa a).length=4:=by
    obtain⟨d,rfl⟩:=Int.eq_ofNat_of_zero_le an
    have hd:d<aa.length:=by omega
    have e:zE aa (d:Int)=aa[d]:=by simp [zE,hd]
    rw[e];exact H4.out _ (yoy _)
   have HFB:=zA.mk (show ¬ (zI (zE aa a) (f:Int)).f0<0→0≤(zI (zE aa a) (f:Int)).f0∧(zI (zE aa a) (f:Int)).f0<(aa.length:Int)∧0≤(zI (zE aa a) (f:Int)).f1∧(zI (zE aa a) (f:Int)).f1≤23 from by
    obtain⟨d,rfl⟩:=Int.eq_ofNat_of_zero_le an
    have hd:d<aa.length:=by omega
    have e:zE aa (d:Int)=aa[d]:=by simp [zE,hd]
    rw[e]at hrl ⊢
    have hlf' : f<aa[d].length:=by omega
    have e2:zI aa[d] (f:Int)=aa[d][f]:=by simp [zI,hlf']
    rw[e2]
    exact fun hq=>HF.out aa[d] (yoy hd) aa[d][f] (yoy hlf') (by omega))
   obtain⟨az,e5,aj,ak⟩:=QF aW (f:Int) (by omega) (by omega)
   subst e5;rw[hrl]at hz
   have ba:=eq_true (show(f:Int)<4 by omega)
   rw[yny]at aj ak
   clear a_ aW hrl;generalize zI (zE aa a) (f:Int)=x at *
   obtain⟨f0,f1⟩:=x
   have p1:=eq_true an
   have p2:=eq_true aw
   have hul:=HLF.out.lu
   by_cases hb:f0<0
   next=>
    have HNF:=zA.mk (ag.out.trans (show zE8 (16*a+4*v) v (f:Int) ⟨f0,f1⟩ q1=⟨q1.p,q1.s,q1.u ++ [16*a+4*v+(f:Int)],q1.n+1⟩from if_pos hb))
    have bh:=HLF.out.n0
    have bj:=HLF.out.n1
    clear HFB ag;go_wp2_with (first|((with_reducible refine ZN (b := .append) (xs:=#[.tmp 59,.tmp 63]) rfl ?_);at_builtin;refine Kd.Qn (Kd.int .i64) (w0:=w) w.heap.size rfl (.tmp 59) (.tmp 63) 22 2 (.int .i64 0) 8 rfl Try.underlying22 Jp rfl (by decide) (by omega) u10 q1.u (16*a+4*v+(f:Int)) [.int .i64 (16*a+4*v+(f:Int))] (fun k=>m2≤k) (fun _=>False) rfl rfl ?aP (fun _ hk=>hk.elim) ?aF ?aO ?aB ?aS ?aL ?_;(case aP=>exact rfl);(case aB=>exact HI.out.below);(case aF=>exact fun k hk=>Nat.le_trans HI.out.mm.2.2 hk);(case aO=>exact HI.out.rU);(case aS=>exact HI.out.below.size);(case aL=>omega);intro aX w7 ho hb hg_ hat_;clear hat_;have ab:=zA.mk (HI.out.app ho hb hg_);have hT:=ab.out.cell;clear ho hb hg_ HI;replace hz:=(ab.out.below.cell (yqy w _ hz)).trans hz;replace aj:=(ab.out.below.cell (yqy w _ aj)).trans aj;replace ak:=(ab.out.below.cell (yqy w _ ak)).trans ak))
    go_roundg (4-(f+1))
    case measure=>omega
    case rel=>exact⟨f+1,by omega,by omega,by rw[HNF.out],by go_num,⟨by rw[HNF.out];exact(ab.out.alloc _).more _⟩⟩
   have HNF:=zA.mk (ag.out.trans (show zE8 (16*a+4*v) v (f:Int) ⟨f0,f1⟩ q1=⟨zCV (16*a+4*v) v (f:Int) (16*f0+4*rd (qP f1) v) f1 4 q1.p,Lib.joi q1.s (16*a+4*v+(f:Int)) (16*f0+4*rd (qP f1) v+rd (qP f1) (f:Int)),q1.u ++ [16*a+4*v+(f:Int)],q1.n⟩from if_neg hb))
   obtain⟨aC,aD,aE,aG⟩:=HFB.out hb
   have HPM:=zA.mk (show ∀ i:Int,0≤i→i<4→0≤rd (qP f1) i∧rd (qP f1) i≤3 from fun i h0 h1=>by obtain⟨a,b,c,d⟩:=Ja f1 aE aG;exact JW a b c d i h0 (by omega))
   have HAJ:=zA.mk (show ∀ i:Int,0≤i→i<4→qi.f k f1 i=some (rd (qP f1) i)from fun i h0 h1=>zGo HAT.out aE aG h0 (by omega))
   have HAV:=zA.mk (HAJ.out v au (by omega))
   have HAF:=zA.mk (HAJ.out (f:Int) (by omega) hlfz)
   obtain⟨ao,aq⟩:=HPM.out v au (by omega)
   obtain⟨aH,aI⟩:=HPM.out (f:Int) (by omega) hlfz
   clear ag HFB aE aG;go_wp2_with (first|((with_reducible refine ZN (b := .append) (xs:=#[.tmp 59,.tmp 63]) rfl ?_);at_builtin;refine Kd.Qn (Kd.int .i64) (w0:=w) w.heap.size rfl (.tmp 59) (.tmp 63) 22 2 (.int .i64 0) 8 rfl Try.underlying22 Jp rfl (by decide) (by omega) u10 q1.u (16*a+4*v+(f:Int)) [.int .i64 (16*a+4*v+(f:Int))] (fun k=>m2≤k) (fun _=>False) rfl rfl ?aP (fun _ hk=>hk.elim) ?aF ?aO ?aB ?aS ?aL ?_;(case aP=>exact rfl);(case aB=>exact HI.out.below);(case aF=>exact fun k hk=>Nat.le_trans HI.out.mm.2.2 hk);(case aO=>exact HI.out.rU);(case aS=>exact HI.out.below.size);(case aL=>omega);intro aX w7 ho hb hg_ hat_;clear hat_;have ab:=zA.mk (HI.out.app ho hb hg_);have hT:=ab.out.cell;clear ho hb hg_ HI;replace hz:=(ab.out.below.cell (yqy w _ hz)).trans hz;replace aj:=(ab.out.below.cell (yqy w _ aj)).trans aj;replace ak:=(ab.out.below.cell (yqy w _ ak)).trans ak))
   have BF:=zA.mk (ZL (W:=w7) rfl (.cells #[.int .i64 f0,.int .i64 f1] 75))
   have HI:=zA.mk (ab.out.alloc (.cells #[.int .i64 f0,.int .i64 f1] 75))
   have HGF:=zA.mk (show m2≤w7.heap.size from ab.out.mm.2.2)
   clear ab hz aj ak hT hb;generalize World.alloc w7 _=w9 at HI BF ⊢
   generalize w7.heap.size=gf at BF HGF ⊢
   generalize rd (qP f1) v=pv at *
   generalize rd (qP f1) (f:Int)=pf at *
   refine Zv (n:=10) (S:=fun w'=>w'.cell? ⟨gf,0,none⟩=some (.int .i64 f0)∧w'.cell? ⟨gf,1,none⟩=some (.int .i64 f1)) (ds := []) #[false,false,false,false,false,false,false,false,false,false] (by kernel_rfl) rfl rfl ⟨(zK BF.out 0).trans rfl,(zK BF.out 1).trans rfl⟩ (fun hHeld=>?_)
   have ab:=zA.mk HI.out.drew
   have af:=zA.mk (zJ BF.out)
   clear HI BF;have HI:=ab;have BF:=af;clear ab af;generalize w9.drew=bk at HI BF hHeld ⊢
   refine zg (i:=0) (N:=some 78) (v:=?_) (a':=?_) #[true,false,false,false,false,false,false,false,false,false] rfl rfl (by kernel_rfl) (fun _ _ _ h=>h) (Or.inl ⟨by rfl,?_⟩) ?_ ?_
   rotate_left
   next=>
    intro w';go_simp;with_reducible rfl
   rotate_left
   next=>
    simp only [Act.put,yay,yby,ycy,zX,za]
    rfl
   refine ZA (i:=1) (N:=some 79) (v:=?_) (a':=?_) #[true,true,false,false,false,false,false,false,false,false] rfl rfl (by kernel_rfl) (fun _ _ _ h=>h) (Or.inl ⟨by rfl,?_⟩) hHeld ?_ ?_
   rotate_left
   next=>
    rintro w' ⟨s0,s1⟩
    go_simp;with_reducible rfl
   rotate_left
   next=>
    simp only [Act.put,yay,yby,ycy,zX,za]
    rfl
   refine zg (i:=2) (N:=some 80) (v:=?_) (a':=?_) #[true,true,true,false,false,false,false,false,false,false] rfl rfl (by kernel_rfl) (fun _ _ _ h=>h) (Or.inl ⟨by rfl,?_⟩) ?_ ?_
   rotate_left
   next=>
    intro w';go_simp;with_reducible rfl
   rotate_left
   next=>
    simp only [Act.put,yay,yby,ycy,zX,za]
    rfl
   refine zg (i:=3) (N:=some 81) (v:=?_) (a':=?_) #[true,true,true,true,false,false,false,false,false,false] rfl rfl (by kernel_rfl) (fun _ _ _ h=>h) (Or.inl ⟨by rfl,?_⟩) ?_ ?_
   rotate_left
   next=>
    intro w';go_simp;with_reducible rfl
   rotate_left
   next=>
    simp only [Act.put,yay,yby,ycy,zX,za]
    rfl
   refine ZA (i:=4) (N:=some 82) (v:=?_) (a':=?_) #[true,true,true,true,true,false,false,false,false,false] rfl rfl (by kernel_rfl) (fun _ _ _ h=>h) (Or.inl ⟨by rfl,?_⟩) hHeld ?_ ?_
   rotate_left
   next=>
    rintro w' ⟨s0,s1⟩
    go_simp;with_reducible rfl
   rotate_left
   next=>
    simp only [Act.put,yay,yby,ycy,zX,za]
    rfl
   refine zg (i:=5) (N:=some 83) (v:=?_) (a':=?_) #[true,true,true,true,true,true,false,false,false,false] rfl rfl (by kernel_rfl) (fun _ _ _ h=>h) (Or.inl ⟨by rfl,?_⟩) ?_ ?_
   rotate_left
   next=>
    intro w';go_simp;with_reducible rfl
   rotate_left
   next=>
    simp only [Act.put,yay,yby,ycy,zX,za]
    rfl
   refine zA4 (i:=6) (N:=some 84) #[true,true,true,true,true,true,true,false,false,false] rfl rfl (by kernel_rfl) (by decide) (fun K hK=>?_)
   refine QO Try.func82 (by kernel_rfl) rfl #[.int .i64 f1,.int .i64 v] (by rfl) rfl rfl (by(try simp only [yiy,yjy,yky]);first|done|rfl) ?_
   refine(qi.calls k f1 v pv _ HAV.out).mono ?_
   rintro e w8 ⟨rfl,hb⟩
   refine⟨_,rfl,?_⟩
   have ab:=zA.mk (HI.out.stays hb)
   have af:=zA.mk (zO BF.out hb)
   clear HI BF;have HI:=ab;have BF:=af;clear ab af;clear hb;refine hK.out _ _ ⟨(zK BF.out 0).trans rfl,(zK BF.out 1).trans rfl⟩ (fun hHeld=>?_)
   clear hK K;refine QE (a':=?_) ?_ ?_
   rotate_left
   next=>
    show Act.put _ (some 84) _=_
    simp only [Act.put,yay,yby,ycy,zX,za]
    rfl
   refine zg (i:=7) (N:=some 85) (v:=?_) (a':=?_) #[true,true,true,true,true,true,true,true,false,false] rfl rfl (by kernel_rfl) (fun _ _ _ h=>h) (Or.inl ⟨by rfl,?_⟩) ?_ ?_
   rotate_left
   next=>
    intro w';go_simp;with_reducible rfl
   rotate_left
   next=>
    simp only [Act.put,yay,yby,ycy,zX,za]
    rfl
   refine zg (i:=8) (N:=some 86) (v:=?_) (a':=?_) #[true,true,true,true,true,true,true,true,true,false] rfl rfl (by kernel_rfl) (fun _ _ _ h=>h) (Or.inl ⟨by rfl,?_⟩) ?_ ?_
   rotate_left
   next=>
    intro w';go_simp;with_reducible rfl
   rotate_left
   next=>
    simp only [Act.put,yay,yby,ycy,zX,za]
    rfl
   refine zg (i:=9) (N:=some 18) (v:=?_) (a':=?_) #[true,true,true,true,true,true,true,true,true,true] rfl rfl (by kernel_rfl) (fun _ _ _ h=>h) (Or.inl ⟨by rfl,?_⟩) ?_ ?_
   rotate_left
   next=>
    intro w';go_simp;with_reducible rfl
   rotate_left
   next=>
    simp only [Act.put,yay,yby,ycy,zX,za]
    rfl
   refine Qo (by kernel_rfl) ?_
   clear hHeld;rw[num_wr aZ aC aD ao aq]
   have aJ:=(zK BF.out 1).trans (show _=some (Value.int .i64 f1)from rfl)
   go_wp2_with fail
   refine(qi.calls k f1 (f:Int) pf _ HAF.out).mono ?_
   rintro e aK ⟨rfl,hb⟩
   have ab:=zA.mk (HI.out.stays hb)
   have af:=zA.mk (zO BF.out hb)
   clear HI BF;have HI:=ab;have BF:=af;clear ab af;clear hb aJ;go_wp2_with fail
   refine(qz.calls (fun k=>m≤k∧k<m2) vS q1.s (16*a+4*v+(f:Int)) (16*f0+4*pv+pf) _ w aK HI.out.below HI.out.rS (if_pos (by rw[HLF.out.ls];exact zIJ an aw au aA (Int.natCast_nonneg f) hlfz aC aD ao aq aH aI))).mono ?_
   rintro e bb ⟨rfl,h1,h2,h3⟩
   have ab:=zA.mk (HI.out.joinS h1 h2 h3)
   have af:=zA.mk (ZX BF.out h3 (fun e=>Nat.lt_irrefl _ (Nat.lt_of_lt_of_le e.2 HGF.out)))
   clear HI BF;have HI:=ab;have BF:=af;clear ab af;clear h1 h2 h3 HAV HAF;go_wp2;go_loopg [19] 4 (fun gg bc w' => ∃ j:Nat,j≤4∧4-j≤gg∧bc = .int .i64 j∧zA (zB0 w w' m m2 (some ay) aa.length ad vP vS aX ⟨zCV (16*a+4*v) v (f:Int) (16*f0+4*pv) f1 j q1.p,Lib.joi q1.s (16*a+4*v+(f:Int)) (16*f0+4*pv+pf),q1.u ++ [16*a+4*v+(f:Int)],q1.n⟩)∧zA (w'.heap[gf]?=some (.cells #[.int .i64 f0,.int .i64 f1] 75 (0,0))))
   case atStart=>exact⟨0,by omega,by omega,rfl,HI,BF⟩
   case round=>
    clear HI BF;obtain⟨j,bl,hgj,rfl,HI,BF⟩:=hrel
    by_cases hlj:j<4
    case neg=>
     obtain rfl:j=4:=by omega
     go_wp2;go_roundg (4-(f+1))
     case measure=>omega
     case rel=>exact⟨f+1,by omega,by omega,by rw[HNF.out],by go_num,⟨by rw[HNF.out];exact HI.out⟩⟩
    have hljz:(j:Int)<4:=by omega
    have HW:=zA.mk (show zCV (16*a+4*v) v (f:Int) (16*f0+4*pv) f1 (j+1) q1.p=if(j:Int)=v then zCV (16*a+4*v) v (f:Int) (16*f0+4*pv) f1 j q1.p else(if(j:Int)=(f:Int)then zCV (16*a+4*v) v (f:Int) (16*f0+4*pv) f1 j q1.p else Lib.joi (zCV (16*a+4*v) v (f:Int) (16*f0+4*pv) f1 j q1.p) (16*a+4*v+(j:Int)) (16*f0+4*pv+rd (qP f1) (j:Int)))from rfl)
    have HWL:=zA.mk (zAA (16*a+4*v) v (f:Int) (16*f0+4*pv) f1 j q1.p)
    generalize zCV (16*a+4*v) v (f:Int) (16*f0+4*pv) f1 j q1.p=wj at *
    by_cases e1:(j:Int)=v
    next=>
     have av:=zA.mk (HW.out.trans (if_pos e1))
     have b1:((j:Int) != v)=false:=by rw[e1];simp
     clear HW;go_wp2;go_roundg (4-(j+1))
     case measure=>omega
     case rel=>exact⟨j+1,by omega,by omega,by go_num,⟨by rw[av.out];exact HI.out⟩,BF⟩
    have b1:((j:Int) != v)=true:=by simpa using e1
    by_cases e2:(j:Int)=(f:Int)
    next=>
     have av:=zA.mk (HW.out.trans ((if_neg e1).trans (if_pos e2)))
     have b2:((j:Int) != (f:Int))=false:=by rw[e2];simp
     clear HW e1 e2;go_wp2;go_roundg (4-(j+1))
     case measure=>omega
     case rel=>exact⟨j+1,by omega,by omega,by go_num,⟨by rw[av.out];exact HI.out⟩,BF⟩
    have av:=zA.mk (HW.out.trans ((if_neg e1).trans (if_neg e2)))
    have b2:((j:Int) != (f:Int))=true:=by simpa using e2
    have HAF:=zA.mk (HAJ.out (j:Int) (by omega) hljz)
    obtain⟨aM,aN⟩:=HPM.out (j:Int) (by omega) hljz
    generalize rd (qP f1) (j:Int)=pj at *
    have aJ:=(zK BF.out 1).trans (show _=some (Value.int .i64 f1)from rfl)
    clear HW e1 e2;go_wp2_with fail
    refine(qi.calls k f1 (j:Int) pj _ HAF.out).mono ?_
    rintro e aK ⟨rfl,hb⟩
    have ab:=zA.mk (HI.out.stays hb)
    have af:=zA.mk (zO BF.out hb)
    clear HI BF;have HI:=ab;have BF:=af;clear ab af;clear hb aJ;go_wp2_with fail
    refine(qz.calls (fun k=>w.heap.size<k∧k<m) vP wj (16*a+4*v+(j:Int)) (16*f0+4*pv+pj) _ w aK HI.out.below HI.out.rP (if_pos (by rw[HWL.out,HLF.out.lp];exact zIJ an aw au aA (Int.natCast_nonneg j) hljz aC aD ao aq aM aN))).mono ?_
    rintro e bb ⟨rfl,h1,h2,h3⟩
    have ab:=zA.mk (HI.out.joinP h1 h2 h3)
    have af:=zA.mk (ZX BF.out h3 (fun e=>Nat.lt_irrefl _ (Nat.lt_of_lt_of_le e.2 (Nat.le_trans HI.out.mm.2.1 HGF.out))))
    clear HI BF;have HI:=ab;have BF:=af;clear ab af;clear h1 h2 h3 HAF;go_wp2;go_roundg (4-(j+1))
    case measure=>omega
    case rel=>exact⟨j+1,by omega,by omega,by go_num,⟨by rw[av.out];exact HI.out⟩,BF⟩
mutual
def zn.l0:Nat→List Int→Int→Int→Option (Int)
  | 0,_,_,_=>none
  | k+1,x3,x4,x5=>if x5<4 then(zn.l1 k x3 x4 x5 0)else(some x4)
def zn.l1:Nat→List Int→Int→Int→Int→Option (Int)
  | 0,_,_,_,_=>none
  | k+1,x3,x4,x5,x6=>if x6<x5 then(if 0≤x6 then(if x6<(x3.length:Int)then(if 0≤x5 then(if x5<(x3.length:Int)then(if(rd x3 x6)>(rd x3 x5)then(zn.l1 k x3 (wrap64 (-x4)) x5 (wrap64 (x6+1)))else(zn.l1 k x3 x4 x5 (wrap64 (x6+1))))else(none))else(none))else(none))else(none))else(zn.l0 k x3 x4 (wrap64 (x5+1)))
end
def zn.f (k:Nat) (a0:Int):Option (Int):=(qp.f a0).bind fun t101=>(if t101=true then((zW.f k a0).bind fun t102=>(zn.l0 k t102 1 0))else(some 0))
theorem zn.Jn : ∀ k,(∀ y0 y1 y2,LeO (zn.l0 k y0 y1 y2) (zn.l0 (k+1) y0 y1 y2))∧(∀ y0 y1 y2 y3,LeO (zn.l1 k y0 y1 y2 y3) (zn.l1 (k+1) y0 y1 y2 y3))
  | 0=>⟨fun _ _ _ r h=>by simp [zn.l0]at h,fun _ _ _ _ r h=>by simp [zn.l1]at h⟩
  | k+1=>by
    obtain⟨aa,ab⟩:=zn.Jn k
    refine⟨?_,?_⟩
    · intro y0 y1 y2
      unfold zn.l0
      repeat' first
      | (with_reducible exact aa _ _ _)
      | (with_reducible exact ab _ _ _ _)
      | (with_reducible exact zW.mono _ _)
      | (with_reducible exact LeO.refl _)
      | (with_reducible exact LeO.none _)
      | (with_reducible refine LeO.ite ?_ ?_)
      | (with_reducible refine LeO.bind ?_ (fun _=>?_))
      | exact aa _ _ _
      | exact ab _ _ _ _
      | exact zW.mono _ _
      | exact LeO.none _
      | refine LeO.ite ?_ ?_
      | refine LeO.bind ?_ (fun _=>?_)
    · intro y0 y1 y2 y3
      unfold zn.l1
      repeat' first
      | (with_reducible exact aa _ _ _)
      | (with_reducible exact ab _ _ _ _)
      | (with_reducible exact zW.mono _ _)
      | (with_reducible exact LeO.refl _)
      | (with_reducible exact LeO.none _)
      | (with_reducible refine LeO.ite ?_ ?_)
      | (with_reducible refine LeO.bind ?_ (fun _=>?_))
      | exact aa _ _ _
      | exact ab _ _ _ _
      | exact zW.mono _ _
      | exact LeO.none _
      | refine LeO.ite ?_ ?_
      | refine LeO.bind ?_ (fun _=>?_)
theorem zn.mono : ∀ a0 k,LeO (zn.f k a0) (zn.f (k+1) a0):=by
  intro a0 k
  obtain⟨aa,ab⟩:=zn.Jn k
  unfold zn.f
  repeat' first
      | (with_reducible exact aa _ _ _)
      | (with_reducible exact ab _ _ _ _)
      | (with_reducible exact zW.mono _ _)
      | (with_reducible exact LeO.refl _)
      | (with_reducible exact LeO.none _)
      | (with_reducible refine LeO.ite ?_ ?_)
      | (with_reducible refine LeO.bind ?_ (fun _=>?_))
      | exact aa _ _ _
      | exact ab _ _ _ _
      | exact zW.mono _ _
      | exact LeO.none _
      | refine LeO.ite ?_ ?_
      | refine LeO.bind ?_ (fun _=>?_)
set_option maxHeartbeats 8000000 in
set_option maxRecDepth 100000 in
theorem zn.calls (k:Nat) (a0:Int) (r:Int) (w:World) (h:zn.f k a0=some r) :
    Calls Try.prog 67 #[.int .i64 a0] w fun e w'=>e = .returned (.int .i64 r)∧Below w.heap.size w w':=by
  have HB:=zA.mk (ysy w.heap.size w)
  have H:((qp.f a0).bind fun t101=>(if t101=true then((zW.f k a0).bind fun t102=>(zn.l0 k t102 1 0))else(some 0)))=some r:=h
  clear h;replace H:=ydy.mp H
  obtain⟨t101,aJ,H⟩:=H
  replace H:(if t101=true then((zW.f k a0).bind fun t102=>(zn.l0 k t102 1 0))else(some 0))=some r:=H
  have A2:=zA.mk aJ
  clear aJ;by_cases c3:t101=true
  · subst c3
    rw[if_pos rfl]at H
    replace H:=ydy.mp H
    obtain⟨t102,aK,H⟩:=H
    replace H:(zn.l0 k t102 1 0)=some r:=H
    have A4:=zA.mk aK
    clear aK;have H':=zA.mk H
    clear H;go_enter Try.func67,Try.ntmps67
    go_wp2_with (first|(go_at_call 81;(with_reducible refine(qp.calls a0 true _ A2.out).mono ?_);rintro e w' ⟨rfl,⟨nd,rfl⟩⟩;(try first|exact⟨rfl,_,World.drewN_drewN _ _ _⟩|exact⟨rfl,_,Eq.trans (World.drewN_drewN _ _ _) (congrArg (World.drewN _) (Nat.add_assoc _ _ _))⟩))|(go_at_call 110;(with_reducible refine(zW.calls k a0 t102 _ A4.out).mono ?_);rintro e w5 ⟨an,rfl,au,hb⟩;have av:=zA.mk (Kd.qx au (zQ (by repeat(first|(with_reducible first|exact HB.out|apply zC|apply zB|apply zD)|exact HB.out))));have aw:=zA.mk (zM (by repeat(first|(with_reducible first|exact HB.out|apply zC|apply zB|apply zD)|exact HB.out)) hb);clear HB;have aj:=av;have HB:=aw;clear av aw;(try clear hb);(try clear hb2);(try clear hk);(try clear hi);(try clear au)))
    repeat(go_quiet (first|(go_at_call 81;(with_reducible refine(qp.calls a0 true _ A2.out).mono ?_);rintro e w' ⟨rfl,⟨nd,rfl⟩⟩;(try first|exact⟨rfl,_,World.drewN_drewN _ _ _⟩|exact⟨rfl,_,Eq.trans (World.drewN_drewN _ _ _) (congrArg (World.drewN _) (Nat.add_assoc _ _ _))⟩))|(go_at_call 110;(with_reducible refine(zW.calls k a0 t102 _ A4.out).mono ?_);rintro e w5 ⟨an,rfl,au,hb⟩;have av:=zA.mk (Kd.qx au (zQ (by repeat(first|(with_reducible first|exact HB.out|apply zC|apply zB|apply zD)|exact HB.out))));have aw:=zA.mk (zM (by repeat(first|(with_reducible first|exact HB.out|apply zC|apply zB|apply zD)|exact HB.out)) hb);clear HB;have aj:=av;have HB:=aw;clear av aw;(try clear hb);(try clear hb2);(try clear hk);(try clear hi);(try clear au)));try go_wp2_with (first|(go_at_call 81;(with_reducible refine(qp.calls a0 true _ A2.out).mono ?_);rintro e w' ⟨rfl,⟨nd,rfl⟩⟩;(try first|exact⟨rfl,_,World.drewN_drewN _ _ _⟩|exact⟨rfl,_,Eq.trans (World.drewN_drewN _ _ _) (congrArg (World.drewN _) (Nat.add_assoc _ _ _))⟩))|(go_at_call 110;(with_reducible refine(zW.calls k a0 t102 _ A4.out).mono ?_);rintro e w5 ⟨an,rfl,au,hb⟩;have av:=zA.mk (Kd.qx au (zQ (by repeat(first|(with_reducible first|exact HB.out|apply zC|apply zB|apply zD)|exact HB.out))));have aw:=zA.mk (zM (by repeat(first|(with_reducible first|exact HB.out|apply zC|apply zB|apply zD)|exact HB.out)) hb);clear HB;have aj:=av;have HB:=aw;clear av aw;(try clear hb);(try clear hb2);(try clear hk);(try clear hi);(try clear au))))
    go_loopg [4,5] k (fun kq v4 v5 w' => ∃ (ao:Int) (aa:Int),v4 = .int .i64 ao∧v5 = .int .i64 aa∧zA (zn.l0 kq t102 ao aa=some r)∧zA (kq≤k)∧zA (Kd.R (Kd.int .i64) 2 w' w.heap.size (fun _=>True) an t102)∧zA (Below w.heap.size w w'))
    case atStart=>exact⟨(1),(0),(by first|rfl|(simp;done)|(simp [*];done)),(by first|rfl|(simp;done)|(simp [*];done)),H',⟨yry _⟩,⟨by(with_reducible repeat(first|apply Kd.zS|apply Kd.zT|apply Kd.zZ));exact aj.out⟩,⟨by repeat(first|(with_reducible first|exact HB.out|apply zC|apply zB|apply zD)|exact HB.out)⟩⟩
    case round=>
      clear H';(try clear p2);(try clear c3);obtain⟨ao,aa,rfl,rfl,HA,az,ad,HB⟩:=hrel
      cases gk with
      | zero=>exact absurd HA.out (by simp [zn.l0])
      | succ k1=>
        have H:=HA.out
        clear HA;simp only [zn.l0]at H
        by_cases c6:aa<4
        · rw[if_pos c6]at H
          have aC:decide (aa<4)=true:=ygy c6
          clear c6;have H':=zA.mk H
          clear H;go_wp2;repeat(go_quiet (fail);try go_wp2)
          go_loopg [4,6] k1 (fun kq v4 v6 w' => ∃ (ai:Int) (ab:Int),v4 = .int .i64 ai∧v6 = .int .i64 ab∧zA (zn.l1 kq t102 ai aa ab=some r)∧zA (kq≤k1)∧zA (Kd.R (Kd.int .i64) 2 w' w.heap.size (fun _=>True) an t102)∧zA (Below w.heap.size w w'))
          case atStart=>exact⟨(ao),(0),(by first|rfl|(simp;done)|(simp [*];done)),(by first|rfl|(simp;done)|(simp [*];done)),H',⟨yry _⟩,⟨by(with_reducible repeat(first|apply Kd.zS|apply Kd.zT|apply Kd.zZ));exact ad.out⟩,⟨by repeat(first|(with_reducible first|exact HB.out|apply zC|apply zB|apply zD)|exact HB.out)⟩⟩
          case round=>
            clear H';(try clear p2);(try clear c3);(try clear c6);(try clear aC);(try clear p2);obtain⟨ai,ab,rfl,rfl,HA,aA,ad,HB⟩:=hrel
            cases gk with
            | zero=>exact absurd HA.out (by simp [zn.l1])
            | succ k2=>
              have H:=HA.out
              clear HA;simp only [zn.l1]at H
              by_cases c7:ab<aa
              · rw[if_pos c7]at H
                have aG:decide (ab<aa)=true:=ygy c7
                clear c7;by_cases c8:0≤ab
                · rw[if_pos c8]at H
                  have aN:decide (0≤ab)=true:=ygy c8
                  clear c8;by_cases c9:ab<(t102.length:Int)
                  · rw[if_pos c9]at H
                    have aO:decide (ab<(t102.length:Int))=true:=ygy c9
                    clear c9;by_cases aE:0≤aa
                    · rw[if_pos aE]at H
                      have aL:decide (0≤aa)=true:=ygy aE
                      clear aE;by_cases aF:aa<(t102.length:Int)
                      · rw[if_pos aF]at H
                        have aM:decide (aa<(t102.length:Int))=true:=ygy aF
                        clear aF;by_cases aB:(rd t102 ab)>(rd t102 aa)
                        · rw[if_pos aB]at H
                          have aD:decide ((rd t102 aa)<(rd t102 ab))=true:=ygy aB
                          clear aB;have H':=zA.mk H
                          clear H;obtain⟨aP,aQ,aH⟩:=Kd.ZE ad.out
                          subst aH;have ae:0≤(ab:Int):=of_decide_eq_true (by first|(with_reducible assumption)|assumption)
                          have af:ab<(t102.length:Int):=of_decide_eq_true (by first|(with_reducible assumption)|assumption)
                          obtain⟨ak,ax,aq⟩:=Kd.qw (Kd.zq ad.out).2.2 ab ae af
                          cases ax
                          replace ae:=eq_true ae
                          replace af:=eq_true af
                          have ag:0≤(aa:Int):=of_decide_eq_true (by first|(with_reducible assumption)|assumption)
                          have ah:aa<(t102.length:Int):=of_decide_eq_true (by first|(with_reducible assumption)|assumption)
                          obtain⟨al,ay,ar⟩:=Kd.qw (Kd.zq ad.out).2.2 aa ag ah
                          obtain rfl:ak=al:=(by injection ay)
                          replace ag:=eq_true ag
                          replace ah:=eq_true ah
                          go_wp2;repeat(go_quiet (fail);try go_wp2)
                          go_roundg k2
                          case measure=>have:=az.out;have:=aA.out;omega
                          case rel=>exact⟨(wrap64 (-ai)),(wrap64 (ab+1)),(by first|rfl|(simp;done)|(simp [*];done)),(by first|rfl|(simp;done)|(simp [*];done)),H',⟨by have:=az.out;have:=aA.out;omega⟩,⟨by(with_reducible repeat(first|apply Kd.zS|apply Kd.zT|apply Kd.zZ));exact ad.out⟩,⟨by repeat(first|(with_reducible first|exact HB.out|apply zC|apply zB|apply zD)|exact HB.out)⟩⟩
                        · rw[if_neg aB]at H
                          have aD:decide ((rd t102 aa)<(rd t102 ab))=false:=yhy aB
                          clear aB;have H':=zA.mk H
                          clear H;obtain⟨aR,aS,aI⟩:=Kd.ZE ad.out
                          subst aI;have ae:0≤(ab:Int):=of_decide_eq_true (by first|(with_reducible assumption)|assumption)
                          have af:ab<(t102.length:Int):=of_decide_eq_true (by first|(with_reducible assumption)|assumption)
                          obtain⟨ak,ax,aq⟩:=Kd.qw (Kd.zq ad.out).2.2 ab ae af
                          cases ax
                          replace ae:=eq_true ae
                          replace af:=eq_true af
                          have ag:0≤(aa:Int):=of_decide_eq_true (by first|(with_reducible assumption)|assumption)
                          have ah:aa<(t102.length:Int):=of_decide_eq_true (by first|(with_reducible assumption)|assumption)
                          obtain⟨al,ay,ar⟩:=Kd.qw (Kd.zq ad.out).2.2 aa ag ah
                          obtain rfl:ak=al:=(by injection ay)
                          replace ag:=eq_true ag
                          replace ah:=eq_true ah
                          go_wp2;repeat(go_quiet (fail);try go_wp2)
                          go_roundg k2
                          case measure=>have:=az.out;have:=aA.out;omega
                          case rel=>exact⟨(ai),(wrap64 (ab+1)),(by first|rfl|(simp;done)|(simp [*];done)),(by first|rfl|(simp;done)|(simp [*];done)),H',⟨by have:=az.out;have:=aA.out;omega⟩,⟨by(with_reducible repeat(first|apply Kd.zS|apply Kd.zT|apply Kd.zZ));exact ad.out⟩,⟨by repeat(first|(with_reducible first|exact HB.out|apply zC|apply zB|apply zD)|exact HB.out)⟩⟩
                      · rw[if_neg aF]at H
                        exact absurd H (by simp)
                    · rw[if_neg aE]at H
                      exact absurd H (by simp)
                  · rw[if_neg c9]at H
                    exact absurd H (by simp)
                · rw[if_neg c8]at H
                  exact absurd H (by simp)
              · rw[if_neg c7]at H
                have aG:decide (ab<aa)=false:=yhy c7
                clear c7;have H':=zA.mk H
                clear H;go_wp2;repeat(go_quiet (fail);try go_wp2)
                go_roundg k2
                case measure=>have:=az.out;have:=aA.out;omega
                case rel=>exact⟨(ai),(wrap64 (aa+1)),(by first|rfl|(simp;done)|(simp [*];done)),(by first|rfl|(simp;done)|(simp [*];done)),H',⟨by have:=az.out;have:=aA.out;omega⟩,⟨by(with_reducible repeat(first|apply Kd.zS|apply Kd.zT|apply Kd.zZ));exact ad.out⟩,⟨by repeat(first|(with_reducible first|exact HB.out|apply zC|apply zB|apply zD)|exact HB.out)⟩⟩
        · rw[if_neg c6]at H
          have aC:decide (aa<4)=false:=yhy c6
          clear c6;obtain rfl:=yey H
          go_wp2;repeat(go_quiet (fail);try go_wp2)
          go_ret;exact⟨by first|rfl|(simp [zU,zV] <;> rfl)|(simp [*,zU,zV] <;> rfl),by repeat(first|(with_reducible first|exact HB.out|apply zC|apply zB|apply zD)|exact HB.out)⟩
  · replace c3:=Bool.eq_false_iff.mpr c3
    subst c3;rw[if_neg (show ¬ (false=true)by decide)]at H
    obtain rfl:=yey H
    go_enter Try.func67,Try.ntmps67
    go_wp2_with (first|(go_at_call 81;(with_reducible refine(qp.calls a0 false _ A2.out).mono ?_);rintro e w' ⟨rfl,⟨nd,rfl⟩⟩;(try first|exact⟨rfl,_,World.drewN_drewN _ _ _⟩|exact⟨rfl,_,Eq.trans (World.drewN_drewN _ _ _) (congrArg (World.drewN _) (Nat.add_assoc _ _ _))⟩)))
    repeat(go_quiet (first|(go_at_call 81;(with_reducible refine(qp.calls a0 false _ A2.out).mono ?_);rintro e w' ⟨rfl,⟨nd,rfl⟩⟩;(try first|exact⟨rfl,_,World.drewN_drewN _ _ _⟩|exact⟨rfl,_,Eq.trans (World.drewN_drewN _ _ _) (congrArg (World.drewN _) (Nat.add_assoc _ _ _))⟩)));try go_wp2_with (first|(go_at_call 81;(with_reducible refine(qp.calls a0 false _ A2.out).mono ?_);rintro e w' ⟨rfl,⟨nd,rfl⟩⟩;(try first|exact⟨rfl,_,World.drewN_drewN _ _ _⟩|exact⟨rfl,_,Eq.trans (World.drewN_drewN _ _ _) (congrArg (World.drewN _) (Nat.add_assoc _ _ _))⟩))))
    go_ret;exact⟨by first|rfl|(simp [zU,zV] <;> rfl)|(simp [*,zU,zV] <;> rfl),by repeat(first|(with_reducible first|exact HB.out|apply zC|apply zB|apply zD)|exact HB.out)⟩
def zJ2 (x:zv) (a v:Int) (s:List Int × List (List Int)):Option (List Int × List (List Int)):=
 if rd s.1 (4*x.f0+rd (qP x.f1) v)=0 then some (s.1.set (4*x.f0+rd (qP x.f1) v).toNat (wrap64 (wrap64 (-(rd s.1 (4*a+v)))*zBr x.f1)),s.2 ++ [[x.f0,rd (qP x.f1) v]])
 else(if rd s.1 (4*x.f0+rd (qP x.f1) v)=wrap64 (wrap64 (-(rd s.1 (4*a+v)))*zBr x.f1)then some s else none)
def zDn (t:List (List zv)) (a v:Int):Nat→Int→List Int × List (List Int)→Option (List Int × List (List Int))
 | 0,_,s=>some s
 | d+1,f,s=>if f=v then zDn t a v d (f+1) s else(if(zI (zE t a) f).f0<0 then zDn t a v d (f+1) s else(zJ2 (zI (zE t a) f) a v s).bind (zDn t a v d (f+1)))
def zEA (n:Nat) (s:List Int × List (List Int)) (i:Nat):Bool:=zBC n (qQ s.2 (i:Int))&&(decide (s.2.length<999000)&&decide (s.1.length=4*n))
def oriN (o:Option (List Int × List (List Int))) (g:List Int × List (List Int)→Option Bool):Option Bool:=match o with
 | none=>some false
 | some s=>g s
def zGp (t:List (List zv)):Nat→Nat→List Int × List (List Int)→Option Bool
 | 0,_,_=>none
 | k+1,i,s=>if i<s.2.length then(if zEA t.length s i=true then oriN (zDn t (rd (qQ s.2 (i:Int)) 0) (rd (qQ s.2 (i:Int)) 1) 4 0 s) (zGp t k (i+1))else none)else some true
def zG1 (t:List (List zv)) (cs:List (List Int)):Bool:=(decide (t.length≤8)&&decide (0<cs.length))&&(t.all (fun r=>decide (r.length=4)&&r.all (zE9 t.length))&&zBC t.length (qQ cs 0))
theorem zFT {n:Nat} {c:List Int} (h:zBC n c=true):c.length=2∧0≤rd c 0∧rd c 0<(n:Int)∧0≤rd c 1∧rd c 1≤3:=by
 unfold zBC at h
 simp only [Bool.and_eq_true,decide_eq_true_eq]at h
 exact⟨h.1,h.2.1.1,h.2.1.2,h.2.2.1,h.2.2.2⟩
theorem zIm {t:List (List zv)} {cs:List (List Int)} (h:zG1 t cs=true):t.length≤8∧0<cs.length∧(∀ r∈t,r.length=4)∧(∀ r∈t,∀ x∈r,¬ x.f0<0→0≤x.f0∧x.f0<(t.length:Int)∧0≤x.f1∧x.f1≤23)∧zBC t.length (qQ cs 0)=true:=by
 unfold zG1 at h
 simp only [Bool.and_eq_true,decide_eq_true_eq,List.all_eq_true]at h
 obtain⟨⟨h1,h2⟩,h3,h4⟩:=h
 refine⟨h1,h2,fun r hr=>(h3 r hr).1,fun r hr x hx hb=>?_,h4⟩
 have:=(h3 r hr).2 x hx
 unfold zE9 at this
 simp only [Bool.or_eq_true,Bool.and_eq_true,decide_eq_true_eq]at this
 rcases this with a|⟨a,b,c,d⟩
 next=>
  exact absurd a hb
 exact⟨a,b,c,d⟩
def zJ3 (k:Nat):Bool:=decide (∀ m:Fin 24,zn.f k (m.val:Int)=some (zBr (m.val:Int)))
theorem zIn {k:Nat} (h:zJ3 k=true) {p:Int} (h0:0≤p) (h1:p≤23):zn.f k p=some (zBr p):=by
 unfold zJ3 at h
 rw[decide_eq_true_eq]at h
 obtain⟨m,rfl⟩ : ∃ m:Fin 24,p=(m.val:Int):=⟨⟨p.toNat,by omega⟩,by simp;omega⟩
 exact h m
def ZD.f (k:Nat) (t:List (List zv)) (cs:List (List Int)):Option Bool:=if zG1 t cs=true then(if zHq k=true then(if zJ3 k=true then zGp t k 0 ((List.replicate (4*t.length) 0).set (4*rd (qQ cs 0) 0+rd (qQ cs 0) 1).toNat 1,[qQ cs 0])else none)else none)else none
structure zB1 (w W:World) (A0:Option Addr) (n c0 gs cS m:Nat) (vL:Value) (sg:List Int) (ls:List (List Int)):Prop where
 bT:W.heap[w.heap.size]?=some (.cells #[.slice A0 n c0] 35 (0,0))
 rS:Kd.R (Kd.int .i64) 2 W w.heap.size (fun k=>k=gs) (.slice (some ⟨gs,0,none⟩) m cS) sg
 len:sg.length=m
 rL:(Kd.mix 2 (Kd.int .i64) (Kd.int .i64) w).R 22 W w.heap.size (fun k=>k≠gs) vL ls
 below:Below w.heap.size w W
section
variable {w W W1 : World} {A0 : Option Addr} {n c0 gs cS m : Nat} {vL vL1 : Value} {sg : List Int} {ls : List (List Int)}
theorem zB1.stays (h:zB1 w W A0 n c0 gs cS m vL sg ls) (hb:Below W.heap.size W W1):zB1 w W1 A0 n c0 gs cS m vL sg ls:=⟨zO h.bT hb,Kd.qN h.rS hb,h.len,Kd.qN h.rL hb,zM h.below hb⟩
theorem zB1.drew (h:zB1 w W A0 n c0 gs cS m vL sg ls):zB1 w W.drew A0 n c0 gs cS m vL sg ls:=⟨h.bT,Kd.zZ h.rS,h.len,Kd.zZ h.rL,zD h.below⟩
theorem zB1.drewN (h:zB1 w W A0 n c0 gs cS m vL sg ls) (d:Nat):zB1 w (W.drewN d) A0 n c0 gs cS m vL sg ls:=h.stays (zB (ysy _ _) _)
theorem zB1.alloc (h:zB1 w W A0 n c0 gs cS m vL sg ls) (o:Obj):zB1 w (W.alloc o) A0 n c0 gs cS m vL sg ls:=h.stays (zC (ysy _ _) o)
theorem zB1.row (h:zB1 w W A0 n c0 gs cS m vL sg ls) : ∃ cells,W.heap[gs]?=some (.cells cells 2 (0,0)):=Kd.zAt h.rS gs (by simp [Value.ownBlock])
theorem zB1.sign (h:zB1 w W A0 n c0 gs cS m vL sg ls) (k v:Int):zB1 w (W.setCell ⟨gs,k.toNat,none⟩ (.int .i64 v)) A0 n c0 gs cS m vL (sg.set k.toNat v) ls:=by
 obtain⟨cells,hc⟩:=h.row
 refine⟨qJ (p:=⟨gs,k.toNat,none⟩) h.bT (Qz h.bT hc (by decide)) _,(Kd.zAF h.rS k v).1,by rw[List.length_set];exact h.len,Kd.ZR (p:=⟨gs,k.toNat,none⟩) h.rL (fun k hk=>hk) _,zF h.below (Kd.Zw h.rS gs (by simp [Value.ownBlock]))⟩
theorem zB1.app (h:zB1 w W A0 n c0 gs cS m vL sg ls) {l1:List (List Int)} (ho:(Kd.mix 2 (Kd.int .i64) (Kd.int .i64) w).R 22 W1 w.heap.size (fun k=>k≠gs) vL1 l1) (hb:Below w.heap.size w W1) (hg:W.grownBy W1 vL.ownBlock):zB1 w W1 A0 n c0 gs cS m vL1 sg l1:=
 ⟨qj h.bT hg (Kd.zCU h.rL h.bT (by decide)),Kd.zBN h.rS hg (fun k hk e=>by subst hk;exact h.rL.1 k e.symm rfl),h.len,ho,hb⟩
theorem zB1.cell (h:zB1 w W A0 n c0 gs cS m vL sg ls):W.cell? ⟨w.heap.size,0,none⟩=some (.slice A0 n c0):=(zK h.bT 0).trans rfl
theorem zB1.sgc (h:zB1 w W A0 n c0 gs cS m vL sg ls) (i:Int) (h0:0≤i) (h1:i<(m:Int)):W.cell? ⟨gs,i.toNat,none⟩=some (.int .i64 (rd sg i))∧W.frozen? ⟨gs,i.toNat,none⟩=false:=Kd.Zm 0 h.rS i h0 h1
theorem zB1.rows (h:zB1 w W A0 n c0 gs cS m vL sg ls) : ∃ A c,vL = .slice A ls.length c∧ls.length≤c∧Kd.C (Kd.slice 2 (Kd.int .i64)) W A ls.length ls:=by
 obtain⟨A,c,e,hl,hr⟩:=Kd.zAR h.rL
 exact⟨A,c,e,hl,hr.zCX (ysy _ _) (fun _ _ hp=>Kd.zHZ rfl (fun _ _ hk=>hk) h.below hp)⟩
end
theorem zIo {l:List Int} {k:Int} (h0:0≤k) (h1:k<(l.length:Int)) (v:Int):rd (l.set k.toNat v) k=v:=by
 have:k.toNat<l.length:=by omega
 unfold rd
 simp [List.getD_eq_getElem?_getD,this]
set_option maxHeartbeats 8000000 in
set_option maxRecDepth 100000 in
theorem ZD.calls (k:Nat) (ae:Option Addr) (ad:Nat) (aa:List (List zv)) (A1:Option Addr) (c1:Nat) (l1:List (List Int)) (r:Bool) (w:World) (al:Kd.C (Kd.slice 75 ZZ) w ae aa.length aa) (an:aa.length≤ad) (aW:Kd.C (Kd.slice 2 (Kd.int .i64)) w A1 l1.length l1) (bl:l1.length≤c1) (h:ZD.f k aa l1=some r) :
 Calls Try.prog 57 #[.agg #[.slice ae aa.length ad],.slice A1 l1.length c1] w fun e w'=>e = .returned (.bool r)∧Below w.heap.size w w':=by
 unfold ZD.f at h
 by_cases hok:zG1 aa l1=true
 case neg=>rw[if_neg hok]at h;cases h
 rw[if_pos hok]at h
 by_cases hat:zHq k=true
 case neg=>rw[if_neg hat]at h;cases h
 rw[if_pos hat]at h
 by_cases hsg:zJ3 k=true
 case neg=>rw[if_neg hsg]at h;cases h
 rw[if_pos hsg]at h
 obtain⟨bb,bm,h4,hf,aX⟩:=zIm hok
 obtain⟨aA,av,aH,aI,aT⟩:=zFT aX
 obtain⟨aY,A3,c3,e4,hy,aZ,aJ⟩:=zAw aW 0 (by omega) (by omega)
 subst e4;have hmx:(Kd.mix 2 (Kd.int .i64) (Kd.int .i64) w).M w w.heap.size (fun _=>False) (qQ l1 0) [.slice A3 (qQ l1 0).length c3]:=Kd.zHX aZ aJ
 have HMX:=zA.mk hmx
 obtain⟨ada,ea,hya⟩:=Kd.qw aJ 0 (by omega) (by omega)
 obtain⟨adv,ev,hyv⟩:=Kd.qw aJ 1 (by omega) (by omega)
 subst ea;obtain rfl:ada=adv:=by injection ev
 clear ev aZ aJ hmx;rw[aA]at hy HMX
 replace hy:w.cell? aY=some (.slice (some ada) 2 c3):=hy
 replace hya:w.cell? ada=some (.int .i64 (rd (qQ l1 0) 0)):=hya
 replace hyv:w.cell? ⟨ada.block,ada.off+1,none⟩=some (.int .i64 (rd (qQ l1 0) 1)):=hyv
 have HY:=zA.mk (And.intro hy (And.intro hya hyv))
 have HR:=zA.mk al
 have HC:=zA.mk an
 have H4:=zA.mk h4
 have HF:=zA.mk hf
 have HAT:=zA.mk hat
 have HSO:=zA.mk hsg
 have HH:=zA.mk h
 clear al an aW h4 hf hok hat hsg h aX aA hya hyv;generalize rd (qQ l1 0) 0=a0 at *
 generalize rd (qQ l1 0) 1=v0 at *
 generalize qQ l1 0=aC at *
 obtain⟨m,hm⟩ : ∃ m:Nat,4*aa.length=m:=⟨_,rfl⟩
 obtain⟨j0,hj⟩ : ∃ j:Int,4*a0+v0=j:=⟨_,rfl⟩
 have ag:wrap64 (4*a0)=4*a0:=Lib.ql (by omega) (by omega)
 have ah:wrap64 (4*a0+v0)=j0:=by rw[hj];exact Lib.ql (by omega) (by omega)
 have ao:0≤j0:=by omega
 have aq:j0<(m:Int):=by omega
 have a1:4*(aa.length:Int)=(m:Int):=by omega
 have bc:m≤32:=by omega
 rw[hj,hm]at HH
 have HW:=zA.mk (And.intro ag ah)
 clear ag ah hj bb;have B0:=zA.mk (ZL (W:=w) rfl (.cells #[.slice ae aa.length ad] 35))
 have HB:=zA.mk (zC (ysy w.heap.size w) (.cells #[.slice ae aa.length ad] 35))
 go_enter Try.func57,Try.ntmps57
 go_wp2_with fail
 generalize World.alloc w _=w1 at B0 HB ⊢
 refine(qb.calls ae ad aa (aa.length:Int) w1 (Kd.qD HR.out HB.out) HC.out rfl).mono ?_
 rintro e w2 ⟨rfl,hb⟩
 have a2:=zA.mk (zO B0.out hb)
 have aK:=zA.mk (zM HB.out hb)
 clear B0 HB hb hy;have hy:=(aK.out.cell (yqy w _ HY.out.1)).trans HY.out.1
 go_wp2_with (first
  | ((with_reducible refine zw (N:=17) rfl ?_);refine Kd.zDr (Kd.int .i64) (w0:=w) w.heap.size 2 rfl (N:=17) rfl 22 _ _ rfl (m:Int) (by first|rfl|(rw[← a1];rfl)) (by first|rfl|(rw[← a1];rfl)) Try.underlying22 (.int .i64 0) 8 Jp rfl (by decide) (by omega) 0 (ok:=fun _=>True) (okp:=fun _=>True) rfl (fun _ hk=>hk) trivial (by omega) (by omega) aK.out aK.out.size ?_;intro v1 w3 ho hb hg_ hnew;rw[yny]at ho;obtain⟨gs,hbs,hgs⟩:=hnew;obtain⟨cS,ev⟩:=zFM ho hbs;rw[List.length_replicate]at ev;subst ev;have HSR:=zA.mk (Kd.qC (ok':=fun k=>k=gs) (Kd.Qu rfl ho) (fun k hk=>by simpa [Value.ownBlock]using hk));have a5:=zA.mk (qj a2.out hg_ (by simp));have aM:=zA.mk hb;have a6:=zA.mk ((hb.cell (yqy w _ HY.out.1)).trans HY.out.1);have aD:=zA.mk (Kd.JO ho _ hbs);clear ho hb hg_ hbs hy hgs a2 aK;have hy:=a6.out)
  | ((with_reducible refine zw (N:=21) rfl ?_);refine Kd.zBO (Kd.mix 2 (Kd.int .i64) (Kd.int .i64) w) w.heap.size 22 ?hg (N:=21) ?hd (xs := [aC]) (inner := [.slice (some ada) 2 c3]) (ok:=fun k=>k≠gs) (okp:=fun _=>False) ?hr ?hp (fun _ hk=>hk.elim) (by have:=aD.out;omega) aM.out aM.out.size (by simp) ?_;(case hd=>rfl);(case hg=>rfl);(case hr=>first|(go_simp;done)|(go_simp;rfl));(case hp=>exact QN.one (Kd.zEa HMX.out aM.out) (QN.none _ _));intro vL w4 ho hb hg_ hnew_;clear hnew_;have HI:zA (zB1 w w4 ae aa.length ad gs cS m vL (List.replicate m 0) [aC]):=⟨⟨qj a5.out hg_ (by simp),Kd.zBN HSR.out hg_ (by simp),List.length_replicate,ho,hb⟩⟩;clear ho hb hg_ HSR a5 aM a6 aD hy HMX))
 have hy:=(HI.out.below.cell (yqy w _ HY.out.1)).trans HY.out.1
 have hya:=(HI.out.below.cell (yqy w _ HY.out.2.1)).trans HY.out.2.1
 have hyv:=(HI.out.below.cell (yqy w _ HY.out.2.2)).trans HY.out.2.2
 refine Zv (n:=15) (S:=fun w'=>w'.cell? aY=some (.slice (some ada) 2 c3)∧w'.cell? ada=some (.int .i64 a0)∧w'.cell? ⟨ada.block,ada.off+1,none⟩=some (.int .i64 v0)) (ds := [14]) #[false,false,false,false,false,false,false,false,false,false,false,false,false,false,false] (by kernel_rfl) rfl rfl ⟨hy,hya,hyv⟩ (fun hHeld=>?_)
 have ab:=zA.mk HI.out.drew
 clear HI;have HI:=ab;clear ab hy hya hyv;generalize w4.drew=w5 at HI hHeld ⊢
 have ag:=HW.out.1
 have ah:=HW.out.2
 have p0:=eq_true ao
 have p1:=eq_true aq
 have hfz:=(HI.out.sgc j0 ao aq).2
 have hcz:=(HI.out.sgc j0 ao aq).1
 refine zg (i:=0) (N:=some 22) (v:=?_) (a':=?_) #[true,false,false,false,false,false,false,false,false,false,false,false,false,false,false] rfl rfl (by kernel_rfl) (fun _ _ _ h=>h) (Or.inl ⟨by rfl,?_⟩) ?_ ?_
 rotate_left
 next=>
  intro w';go_simp;with_reducible rfl
 rotate_left
 next=>
  simp only [Act.put,yay,yby,ycy,zX,za]
  rfl
 refine zg (i:=1) (N:=some 23) (v:=?_) (a':=?_) #[true,true,false,false,false,false,false,false,false,false,false,false,false,false,false] rfl rfl (by kernel_rfl) (fun _ _ _ h=>h) (Or.inl ⟨by rfl,?_⟩) ?_ ?_
 rotate_left
 next=>
  intro w';go_simp;with_reducible rfl
 rotate_left
 next=>
  simp only [Act.put,yay,yby,ycy,zX,za]
  rfl
 refine zg (i:=2) (N:=some 24) (v:=?_) (a':=?_) #[true,true,true,false,false,false,false,false,false,false,false,false,false,false,false] rfl rfl (by kernel_rfl) (fun _ _ _ h=>h) (Or.inl ⟨by rfl,?_⟩) ?_ ?_
 rotate_left
 next=>
  intro w';go_simp;with_reducible rfl
 rotate_left
 next=>
  simp only [Act.put,yay,yby,ycy,zX,za]
  rfl
 refine ZA (i:=3) (N:=some 25) (v:=?_) (a':=?_) #[true,true,true,true,false,false,false,false,false,false,false,false,false,false,false] rfl rfl (by kernel_rfl) (fun _ _ _ h=>h) (Or.inl ⟨by rfl,?_⟩) hHeld ?_ ?_
 rotate_left
 next=>
  rintro w' ⟨s0,s1,s2⟩
  go_simp;with_reducible rfl
 rotate_left
 next=>
  simp only [Act.put,yay,yby,ycy,zX,za]
  rfl
 refine zg (i:=4) (N:=some 26) (v:=?_) (a':=?_) #[true,true,true,true,true,false,false,false,false,false,false,false,false,false,false] rfl rfl (by kernel_rfl) (fun _ _ _ h=>h) (Or.inl ⟨by rfl,?_⟩) ?_ ?_
 rotate_left
 next=>
  intro w';go_simp;with_reducible rfl
 rotate_left
 next=>
  simp only [Act.put,yay,yby,ycy,zX,za]
  rfl
 refine ZA (i:=5) (N:=some 27) (v:=?_) (a':=?_) #[true,true,true,true,true,true,false,false,false,false,false,false,false,false,false] rfl rfl (by kernel_rfl) (fun _ _ _ h=>h) (Or.inl ⟨by rfl,?_⟩) hHeld ?_ ?_
 rotate_left
 next=>
  rintro w' ⟨s0,s1,s2⟩
  go_simp;with_reducible rfl
 rotate_left
 next=>
  simp only [Act.put,yay,yby,ycy,zX,za]
  rfl
 refine zg (i:=6) (N:=some 28) (v:=?_) (a':=?_) #[true,true,true,true,true,true,true,false,false,false,false,false,false,false,false] rfl rfl (by kernel_rfl) (fun _ _ _ h=>h) (Or.inl ⟨by rfl,?_⟩) ?_ ?_
 rotate_left
 next=>
  intro w';go_simp;with_reducible rfl
 rotate_left
 next=>
  simp only [Act.put,yay,yby,ycy,zX,za]
  rfl
 refine zg (i:=7) (N:=some 29) (v:=?_) (a':=?_) #[true,true,true,true,true,true,true,true,false,false,false,false,false,false,false] rfl rfl (by kernel_rfl) (fun _ _ _ h=>h) (Or.inl ⟨by rfl,?_⟩) ?_ ?_
 rotate_left
 next=>
  intro w';go_simp;with_reducible rfl
 rotate_left
 next=>
  simp only [Act.put,yay,yby,ycy,zX,za]
  rfl
 refine zg (i:=8) (N:=some 30) (v:=?_) (a':=?_) #[true,true,true,true,true,true,true,true,true,false,false,false,false,false,false] rfl rfl (by kernel_rfl) (fun _ _ _ h=>h) (Or.inl ⟨by rfl,?_⟩) ?_ ?_
 rotate_left
 next=>
  intro w';go_simp;with_reducible rfl
 rotate_left
 next=>
  simp only [Act.put,yay,yby,ycy,zX,za]
  rfl
 refine ZA (i:=9) (N:=some 31) (v:=?_) (a':=?_) #[true,true,true,true,true,true,true,true,true,true,false,false,false,false,false] rfl rfl (by kernel_rfl) (fun _ _ _ h=>h) (Or.inl ⟨by rfl,?_⟩) hHeld ?_ ?_
 rotate_left
 next=>
  rintro w' ⟨s0,s1,s2⟩
  go_simp;with_reducible rfl
 rotate_left
 next=>
  simp only [Act.put,yay,yby,ycy,zX,za]
  rfl
 refine zg (i:=10) (N:=some 32) (v:=?_) (a':=?_) #[true,true,true,true,true,true,true,true,true,true,true,false,false,false,false] rfl rfl (by kernel_rfl) (fun _ _ _ h=>h) (Or.inl ⟨by rfl,?_⟩) ?_ ?_
 rotate_left
 next=>
  intro w';go_simp;with_reducible rfl
 rotate_left
 next=>
  simp only [Act.put,yay,yby,ycy,zX,za]
  rfl
 refine ZA (i:=11) (N:=some 33) (v:=?_) (a':=?_) #[true,true,true,true,true,true,true,true,true,true,true,true,false,false,false] rfl rfl (by kernel_rfl) (fun _ _ _ h=>h) (Or.inl ⟨by rfl,?_⟩) hHeld ?_ ?_
 rotate_left
 next=>
  rintro w' ⟨s0,s1,s2⟩
  go_simp;with_reducible rfl
 rotate_left
 next=>
  simp only [Act.put,yay,yby,ycy,zX,za]
  rfl
 refine zg (i:=12) (N:=some 34) (v:=?_) (a':=?_) #[true,true,true,true,true,true,true,true,true,true,true,true,true,false,false] rfl rfl (by kernel_rfl) (fun _ _ _ h=>h) (Or.inl ⟨by rfl,?_⟩) ?_ ?_
 rotate_left
 next=>
  intro w';go_simp;with_reducible rfl
 rotate_left
 next=>
  simp only [Act.put,yay,yby,ycy,zX,za]
  rfl
 refine zg (i:=13) (N:=some 35) (v:=?_) (a':=?_) #[true,true,true,true,true,true,true,true,true,true,true,true,true,true,false] rfl rfl (by kernel_rfl) (fun _ _ _ h=>h) (Or.inl ⟨by rfl,?_⟩) ?_ ?_
 rotate_left
 next=>
  intro w';go_simp;with_reducible rfl
 rotate_left
 next=>
  simp only [Act.put,yay,yby,ycy,zX,za]
  rfl
 refine zFs (i:=14) (N:=none) #[true,true,true,true,true,true,true,true,true,true,true,true,true,true,true] rfl rfl (by kernel_rfl) (by decide) (fun K hK=>?_)
 refine zIX (w1:=?_) (by rfl) rfl ?_ ?_
 rotate_left
 next=>
  go_simp;rfl
 refine hK.out _ _ ?_
 clear hK K;refine Qo (by kernel_rfl) ?_
 clear hHeld hfz hcz ag ah;have ab:=zA.mk (HI.out.sign j0 1)
 clear HI HW HY;have HI:=ab;clear ab ao aq p0 p1 av aH aI aT;generalize bd:w5.setCell _ _=w6 at HI ⊢
 clear bd;go_wp2;go_loopg [6,7] k (fun gg v6 v7 w' => ∃ (kq i:Nat) (sg:List Int) (ls:List (List Int)),kq≤gg∧v7 = .int .i64 i∧zA (zGp aa kq i (sg,ls)=some r)∧zA (zB1 w w' ae aa.length ad gs cS m v6 sg ls))
 case atStart=>exact⟨k,0,_,_,yry _,rfl,HH,HI⟩
 case round=>
  clear HH HI;obtain⟨kq,i,sg,ls,hg,rfl,HH,HI⟩:=hrel
  cases kq with
  | zero=>exact absurd HH.out (by simp [zGp])
  | succ k1=>
  have h:=HH.out
  rw[zGp]at h
  dsimp only at h
  obtain⟨AL,cL,e6,hlL,hCL⟩:=HI.out.rows
  subst e6;by_cases hlt:i<ls.length
  case neg=>
   rw[if_neg hlt]at h
   obtain rfl:true=r:=yey h
   have HB:=zA.mk HI.out.below
   clear h HH hCL;go_wp2;go_ret;exact⟨rfl,HB.out⟩
  rw[if_pos hlt]at h
  have hltz:(i:Int)<(ls.length:Int):=by omega
  by_cases hos:zEA aa.length (sg,ls) i=true
  case neg=>rw[if_neg hos]at h;cases h
  rw[if_pos hos]at h
  unfold zEA at hos
  simp only [Bool.and_eq_true,decide_eq_true_eq]at hos
  obtain⟨hoc,hll,hsl⟩:=hos
  obtain⟨aA,av,aH,aI,aT⟩:=zFT hoc
  have H:=zA.mk h
  clear h HH hoc hsl;obtain⟨adL,A5,c5,e5,hyL,bf,aU⟩:=zAw hCL (i:Int) (by omega) hltz
  subst e5;rw[yny]at hyL
  obtain⟨ai,ea,hya⟩:=Kd.qw aU 0 (by omega) (by omega)
  obtain⟨adv,ev,hyv⟩:=Kd.qw aU 1 (by omega) (by omega)
  subst ea;obtain rfl:ai=adv:=by injection ev
  clear ev bf aU hCL;rw[aA]at hyL
  replace hya:wr.cell? ai=some (.int .i64 (rd (qQ ls (i:Int)) 0)):=hya
  replace hyv:wr.cell? ⟨ai.block,ai.off+1,none⟩=some (.int .i64 (rd (qQ ls (i:Int)) 1)):=hyv
  generalize rd (qQ ls (i:Int)) 0=a at *
  generalize rd (qQ ls (i:Int)) 1=v at *
  clear aA;go_wp2;go_quiet (fail)
  try go_wp2
  clear hyL hya hyv;obtain⟨ja,hj⟩ : ∃ j:Int,4*a+v=j:=⟨_,rfl⟩
  have ag:wrap64 (4*a)=4*a:=Lib.ql (by omega) (by omega)
  have ah:wrap64 (4*a+v)=ja:=by rw[hj];exact Lib.ql (by omega) (by omega)
  have ao:0≤ja:=by omega
  have aq:ja<(m:Int):=by omega
  have bn:i<999000:=by omega
  have HW:=zA.mk (And.intro ag ah)
  have HJ:=zA.mk hj
  clear ag ah hj;generalize hO:zDn aa a v 4 0 (sg,ls)=O at H
  have HO:=zA.mk hO
  clear hO;have a7:=HI;go_loopg [6,10] 4 (fun gg v6 v10 w' => ∃ (f:Nat) (sg:List Int) (ls:List (List Int)),f≤4∧4-f≤gg∧ls.length<999000+f∧v10 = .int .i64 f∧zA (zDn aa a v (4-f) (f:Int) (sg,ls)=O)∧zA (zB1 w w' ae aa.length ad gs cS m v6 sg ls))
  case atStart=>exact⟨0,sg,ls,by omega,by omega,by omega,rfl,HO,⟨a7.out.drewN _⟩⟩
  case round=>
   clear HI a7 HO hll hlt hltz hlL;obtain⟨f,sg,ls,bo,hgf,hll,rfl,HO,HI⟩:=hrel
   by_cases hlf:f<4
   case neg=>
    obtain rfl:f=4:=by omega
    have h2:=HO.out
    rw[zDn]at h2
    have h3:=H.out
    rw[← h2]at h3
    have HH:=zA.mk (show zGp aa k1 (i+1) (sg,ls)=some r from h3)
    clear HO H h2 h3;go_wp2;go_roundg k1
    case measure=>omega
    case rel=>exact⟨k1,i+1,sg,ls,yry _,by go_num,HH,HI⟩
   have hlfz:(f:Int)<4:=by omega
   obtain⟨d,hd⟩ : ∃ d,4-f=d+1:=⟨3-f,by omega⟩
   have a8:4-(f+1)=d:=by omega
   have h2:=HO.out
   rw[hd,zDn,show(f:Int)+1=((f+1:Nat):Int)by omega,← a8]at h2
   clear HO hd a8;have HO:=zA.mk h2
   clear h2;obtain⟨ay,A4,c4,e4,hz,bg,a_⟩:=ZY HR.out a av aH
   subst e4;have hrl:(zE aa a).length=4:=by
    obtain⟨d,rfl⟩:=Int.eq_ofNat_of_zero_le av
    have hd:d<aa.length:=by omega
    have e:zE aa (d:Int)=aa[d]:=by simp [zE,hd]
    rw[e];exact H4.out _ (yoy _)
   have HFB:=zA.mk (show ¬ (zI (zE aa a) (f:Int)).f0<0→0≤(zI (zE aa a) (f:Int)).f0∧(zI (zE aa a) (f:Int)).f0<(aa.length:Int)∧0≤(zI (zE aa a) (f:Int)).f1∧(zI (zE aa a) (f:Int)).f1≤23 from by
    obtain⟨d,rfl⟩:=Int.eq_ofNat_of_zero_le av
    have hd:d<aa.length:=by omega
    have e:zE aa (d:Int)=aa[d]:=by simp [zE,hd]
    rw[e]at hrl ⊢
    have hlf' : f<aa[d].length:=by omega
    have e2:zI aa[d] (f:Int)=aa[d][f]:=by simp [zI,hlf']
    rw[e2]
    exact fun hq=>HF.out aa[d] (yoy hd) aa[d][f] (yoy hlf') (by omega))
   obtain⟨az,e5,aE,aG⟩:=QF a_ (f:Int) (by omega) (by omega)
   subst e5;rw[hrl]at hz
   have bh:=eq_true (show(f:Int)<4 by omega)
   rw[yny]at aE aG
   clear bg a_ hrl;generalize zI (zE aa a) (f:Int)=x at *
   obtain⟨f0,f1⟩:=x
   have p1:=eq_true av
   have p2:=eq_true aH
   replace hz:=(HI.out.below.cell (yqy w _ hz)).trans hz
   replace aE:=(HI.out.below.cell (yqy w _ aE)).trans aE
   replace aG:=(HI.out.below.cell (yqy w _ aG)).trans aG
   have hT:=HI.out.cell
   have BF:=zA.mk (ZL (W:=wr) rfl (.cells #[.int .i64 f0,.int .i64 f1] 75))
   have ab:=zA.mk (HI.out.alloc (.cells #[.int .i64 f0,.int .i64 f1] 75))
   by_cases e:(f:Int)=v
   next=>
    have h:=HO.out;rw[if_pos e]at h;have aw:=zA.mk h;clear h;have eb:((f:Int)==v)=true:=by rw[e];exact beq_self_eq_true _
    clear HO HFB e;go_wp2;go_roundg (4-(f+1))
    case measure=>omega
    case rel=>exact⟨f+1,sg,ls,by omega,by omega,by omega,by go_num,aw,ab⟩
   have h:=HO.out;rw[if_neg e]at h;have aw:=zA.mk h;clear h;have eb:((f:Int)==v)=false:=by simpa using e
   clear HO e;by_cases hb:f0<0
   next=>
    have h:=aw.out;rw[if_pos hb]at h;have aN:=zA.mk h;clear h;have db:decide (f0<0)=true:=ygy hb
    clear aw HFB;go_wp2;go_roundg (4-(f+1))
    case measure=>omega
    case rel=>exact⟨f+1,sg,ls,by omega,by omega,by omega,by go_num,aN,ab⟩
   have h:=aw.out;rw[if_neg hb]at h;have aN:=zA.mk h;clear h;have db:decide (f0<0)=false:=yhy hb
   clear aw;obtain⟨bp,bq,aQ,aR⟩:=HFB.out hb
   have HAV:=zA.mk (zGo HAT.out aQ aR aI aT)
   have HSG:=zA.mk (zIn HSO.out aQ aR)
   have hpv:0≤rd (qP f1) v∧rd (qP f1) v≤3:=by obtain⟨a,b,c,d⟩:=Ja f1 aQ aR;exact JW a b c d v aI (by omega)
   obtain⟨bj,bk⟩:=hpv
   have hx:=aN.out
   unfold zJ2 at hx
   dsimp only at hx
   have HX:=zA.mk hx
   clear HFB aQ aR hb aN hx;generalize rd (qP f1) v=pv at *
   go_wp2_with fail
   clear HI hz aE aG hT;have HI:=ab;clear ab;generalize World.alloc wr _=w7 at HI BF ⊢
   generalize wr.heap.size=gf at BF ⊢
   refine(qi.calls k f1 v pv _ HAV.out).mono ?_
   rintro e w8 ⟨rfl,hb⟩
   have ab:=zA.mk (HI.out.stays hb)
   have af:=zA.mk (zO BF.out hb)
   clear HI BF;have HI:=ab;have BF:=af;clear ab af;clear hb HAV;have ax:=(zK BF.out 0).trans (show _=some (Value.int .i64 f0)from rfl)
   go_wp2;clear ax;refine Zv (n:=13) (S:=fun w'=>w'.cell? ⟨gs,ja.toNat,none⟩=some (.int .i64 (rd sg ja))∧w'.cell? ⟨gf,1,none⟩=some (.int .i64 f1)) (ds := []) #[false,false,false,false,false,false,false,false,false,false,false,false,false] (by kernel_rfl) rfl rfl ⟨(HI.out.sgc ja ao aq).1,(zK BF.out 1).trans rfl⟩ (fun hHeld=>?_)
   have ab:=zA.mk HI.out.drew
   have af:=zA.mk (zJ BF.out)
   clear HI BF;have HI:=ab;have BF:=af;clear ab af;generalize w8.drew=w9 at HI BF hHeld ⊢
   have ag:=HW.out.1
   have ah:=HW.out.2
   have q0:=eq_true ao
   have q1:=eq_true aq
   refine zg (i:=0) (N:=some 78) (v:=?_) (a':=?_) #[true,false,false,false,false,false,false,false,false,false,false,false,false] rfl rfl (by kernel_rfl) (fun _ _ _ h=>h) (Or.inl ⟨by rfl,?_⟩) ?_ ?_
   rotate_left
   next=>
    intro w';go_simp;with_reducible rfl
   rotate_left
   next=>
    simp only [Act.put,yay,yby,ycy,zX,za]
    rfl
   refine zg (i:=1) (N:=some 79) (v:=?_) (a':=?_) #[true,true,false,false,false,false,false,false,false,false,false,false,false] rfl rfl (by kernel_rfl) (fun _ _ _ h=>h) (Or.inl ⟨by rfl,?_⟩) ?_ ?_
   rotate_left
   next=>
    intro w';go_simp;with_reducible rfl
   rotate_left
   next=>
    simp only [Act.put,yay,yby,ycy,zX,za]
    rfl
   refine zg (i:=2) (N:=some 80) (v:=?_) (a':=?_) #[true,true,true,false,false,false,false,false,false,false,false,false,false] rfl rfl (by kernel_rfl) (fun _ _ _ h=>h) (Or.inl ⟨by rfl,?_⟩) ?_ ?_
   rotate_left
   next=>
    intro w';go_simp;with_reducible rfl
   rotate_left
   next=>
    simp only [Act.put,yay,yby,ycy,zX,za]
    rfl
   refine zg (i:=3) (N:=some 81) (v:=?_) (a':=?_) #[true,true,true,true,false,false,false,false,false,false,false,false,false] rfl rfl (by kernel_rfl) (fun _ _ _ h=>h) (Or.inl ⟨by rfl,?_⟩) ?_ ?_
   rotate_left
   next=>
    intro w';go_simp;with_reducible rfl
   rotate_left
   next=>
    simp only [Act.put,yay,yby,ycy,zX,za]
    rfl
   refine zg (i:=4) (N:=some 82) (v:=?_) (a':=?_) #[true,true,true,true,true,false,false,false,false,false,false,false,false] rfl rfl (by kernel_rfl) (fun _ _ _ h=>h) (Or.inl ⟨by rfl,?_⟩) ?_ ?_
   rotate_left
   next=>
    intro w';go_simp;with_reducible rfl
   rotate_left
   next=>
    simp only [Act.put,yay,yby,ycy,zX,za]
    rfl
   refine zg (i:=5) (N:=some 83) (v:=?_) (a':=?_) #[true,true,true,true,true,true,false,false,false,false,false,false,false] rfl rfl (by kernel_rfl) (fun _ _ _ h=>h) (Or.inl ⟨by rfl,?_⟩) ?_ ?_
   rotate_left
   next=>
    intro w';go_simp;with_reducible rfl
   rotate_left
   next=>
    simp only [Act.put,yay,yby,ycy,zX,za]
    rfl
   refine ZA (i:=6) (N:=some 84) (v:=?_) (a':=?_) #[true,true,true,true,true,true,true,false,false,false,false,false,false] rfl rfl (by kernel_rfl) (fun _ _ _ h=>h) (Or.inl ⟨by rfl,?_⟩) hHeld ?_ ?_
   rotate_left
   next=>
    rintro w' ⟨s0,s1⟩
    go_simp;with_reducible rfl
   rotate_left
   next=>
    simp only [Act.put,yay,yby,ycy,zX,za]
    rfl
   refine zg (i:=7) (N:=some 85) (v:=?_) (a':=?_) #[true,true,true,true,true,true,true,true,false,false,false,false,false] rfl rfl (by kernel_rfl) (fun _ _ _ h=>h) (Or.inl ⟨by rfl,?_⟩) ?_ ?_
   rotate_left
   next=>
    intro w';go_simp;with_reducible rfl
   rotate_left
   next=>
    simp only [Act.put,yay,yby,ycy,zX,za]
    rfl
   refine zg (i:=8) (N:=some 86) (v:=?_) (a':=?_) #[true,true,true,true,true,true,true,true,true,false,false,false,false] rfl rfl (by kernel_rfl) (fun _ _ _ h=>h) (Or.inl ⟨by rfl,?_⟩) ?_ ?_
   rotate_left
   next=>
    intro w';go_simp;with_reducible rfl
   rotate_left
   next=>
    simp only [Act.put,yay,yby,ycy,zX,za]
    rfl
   refine ZA (i:=9) (N:=some 87) (v:=?_) (a':=?_) #[true,true,true,true,true,true,true,true,true,true,false,false,false] rfl rfl (by kernel_rfl) (fun _ _ _ h=>h) (Or.inl ⟨by rfl,?_⟩) hHeld ?_ ?_
   rotate_left
   next=>
    rintro w' ⟨s0,s1⟩
    go_simp;with_reducible rfl
   rotate_left
   next=>
    simp only [Act.put,yay,yby,ycy,zX,za]
    rfl
   refine zA4 (i:=10) (N:=some 88) #[true,true,true,true,true,true,true,true,true,true,true,false,false] rfl rfl (by kernel_rfl) (by decide) (fun K hK=>?_)
   refine QO Try.func67 (by kernel_rfl) rfl #[.int .i64 f1] (by rfl) rfl rfl (by(try simp only [yiy,yjy,yky]);first|done|rfl) ?_
   refine(zn.calls k f1 (zBr f1) _ HSG.out).mono ?_
   rintro e w8 ⟨rfl,hb⟩
   refine⟨_,rfl,?_⟩
   have ab:=zA.mk (HI.out.stays hb)
   have af:=zA.mk (zO BF.out hb)
   clear HI BF;have HI:=ab;have BF:=af;clear ab af;clear hb;refine hK.out _ _ ⟨(HI.out.sgc ja ao aq).1,(zK BF.out 1).trans rfl⟩ (fun hHeld=>?_)
   clear hK K;refine QE (a':=?_) ?_ ?_
   rotate_left
   next=>
    show Act.put _ (some 88) _=_
    simp only [Act.put,yay,yby,ycy,zX,za]
    rfl
   refine zg (i:=11) (N:=some 89) (v:=?_) (a':=?_) #[true,true,true,true,true,true,true,true,true,true,true,true,false] rfl rfl (by kernel_rfl) (fun _ _ _ h=>h) (Or.inl ⟨by rfl,?_⟩) ?_ ?_
   rotate_left
   next=>
    intro w';go_simp;with_reducible rfl
   rotate_left
   next=>
    simp only [Act.put,yay,yby,ycy,zX,za]
    rfl
   refine zg (i:=12) (N:=some 13) (v:=?_) (a':=?_) #[true,true,true,true,true,true,true,true,true,true,true,true,true] rfl rfl (by kernel_rfl) (fun _ _ _ h=>h) (Or.inl ⟨by rfl,?_⟩) ?_ ?_
   rotate_left
   next=>
    intro w';go_simp;with_reducible rfl
   rotate_left
   next=>
    simp only [Act.put,yay,yby,ycy,zX,za]
    rfl
   refine Qo (by kernel_rfl) ?_
   clear hHeld ag ah q0 q1 HSG;obtain⟨want,hwt⟩ : ∃ z,wrap64 (wrap64 (-(rd sg ja))*zBr f1)=z:=⟨_,rfl⟩
   rw[hwt]
   obtain⟨jb,hjb⟩ : ∃ j:Int,4*f0+pv=j:=⟨_,rfl⟩
   have aj:0≤jb:=by omega
   have ak:jb<(m:Int):=by omega
   have hx:=HX.out
   rw[HJ.out,hjb,hwt]at hx
   clear HX hwt;have hxg:=(HI.out.sgc jb aj ak).1
   have ax:=(zK BF.out 0).trans (show _=some (Value.int .i64 f0)from rfl)
   by_cases hz:rd sg jb=0
   next=>
    rw[if_pos hz,yfy]at hx
    have HX:=zA.mk hx
    clear hx;have ez:(rd sg jb==0)=true:=by rw[hz];rfl
    have hfz:=(HI.out.sgc jb aj ak).2
    generalize hqz:rd sg jb=q at *
    have hrs:=zA.mk (show rd (sg.set jb.toNat want) jb=want from zIo aj (by rw[HI.out.len];exact ak) want)
    have ew:(want != want)=false:=by simp
    clear hqz hz;go_wp2_with (first
     | ((with_reducible refine Zi (t:=2) (p:=106) rfl ?_);refine ZU (t:=2) (p:=106) (v:=?vo106) (w1:=(w8.setCell ⟨gs,jb.toNat,none⟩ (.int .i64 want))) ?hg ?ho ?hn ?hr ?_;(case ho=>rfl);(case hg=>rfl);(case hn=>rfl);(case hr=>first|(go_simp;done)|(go_simp;rfl));intro ba ar;have ab:=zA.mk (show zB1 w ba (some ay) aa.length ad gs cS m _ (sg.set jb.toNat want) ls by rw[ar];exact HI.out.sign jb want);have af:=zA.mk (show ba.heap[gf]?=some (.cells #[.int .i64 f0,.int .i64 f1] 75 (0,0))by rw[ar];exact qJ (p:=⟨gs,jb.toNat,none⟩) BF.out (Qz BF.out HI.out.row.choose_spec (by decide)) _);clear HI BF hxg hfz ar;have HI:=ab;have BF:=af;clear ab af ax;have ax:=(zK BF.out 0).trans (show _=some (Value.int .i64 f0)from rfl))
     | ((with_reducible refine zw (N:=111) rfl ?_);refine Kd.zBO (Kd.int .i64) _ 2 ?hg (N:=111) ?hd (xs:=([f0,pv]:List Int)) (inner := [.int .i64 f0,.int .i64 pv]) (ok:=fun _=>True) (okp:=fun _=>True) ?hr ?hp (fun _ hk=>hk) trivial (ysy _ _) (yry _) (by simp) ?_;(case hd=>rfl);(case hg=>rfl);(case hr=>first|(go_simp;done)|(go_simp;rfl));(case hp=>exact(QN.one (show Kd.M (Kd.int .i64) _ _ _ f0 [.int .i64 f0]from rfl) (QN.one (show Kd.M (Kd.int .i64) _ _ _ pv [.int .i64 pv]from rfl) (QN.none _ _))));intro vr br ho hb hg_ hnew_;clear hg_ hnew_;have au:=qT HI.out.row.choose_spec;have aV:=zA.mk (Kd.qx (Kd.qC (ok':=fun k=>k≠gs∧some k≠u6.ownBlock) (Kd.Zy ho) (fun k hk=>⟨by have:=hk.2.1;omega,fun e=>by have:=Kd.JO HI.out.rL k e.symm;have:=hk.2.1;omega⟩)) HI.out.below.size);have ab:=zA.mk (HI.out.stays hb);have af:=zA.mk (zO BF.out hb);clear HI BF ax hb ho au;have HI:=ab;have BF:=af;clear ab af;obtain⟨Ar,cr,er⟩:=Kd.ZE aV.out;subst er)
     | ((with_reducible refine ZN (b := .append) (xs:=#[.tmp 107,.tmp 112]) rfl ?_);at_builtin;have au:=qT HI.out.row.choose_spec;refine Kd.Qn (Kd.mix 2 (Kd.int .i64) (Kd.int .i64) w) (w0:=w) w.heap.size rfl (.tmp 107) (.tmp 112) 30 22 (.slice none 0 0) 24 rfl Try.underlying30 zFC rfl (show 0<1 by decide) (by omega) u6 ls [f0,pv] [.slice Ar ([f0,pv]:List Int).length cr] (fun k=>k≠gs) (fun k=>k≠gs∧some k≠u6.ownBlock) rfl rfl ?aP (fun _ hk=>hk) ?aF ?aO ?aB ?aS ?aL ?_;(case aP=>exact Kd.zHY aV.out);(case aF=>exact(fun k hk=>by omega));(case aO=>exact HI.out.rL);(case aB=>exact HI.out.below);(case aS=>exact HI.out.below.size);(case aL=>omega);intro bs bt ho hb hg_ hat_;have af:=zA.mk (qj BF.out hg_ (Kd.zCU HI.out.rL BF.out (by decide)));have ab:=zA.mk (HI.out.app ho hb hg_);clear hat_ au ho hb hg_ HI aV BF;have HI:=ab;have BF:=af;clear ab af;have ax:=(zK BF.out 0).trans (show _=some (Value.int .i64 f0)from rfl);have hxg:=(HI.out.sgc jb aj ak).1;rw[hrs.out]at hxg))
    go_roundg (4-(f+1))
    case measure=>omega
    case rel=>exact⟨f+1,_,_,by omega,by omega,by rw[List.length_append,List.length_singleton];omega,by go_num,HX,HI⟩
   rw[if_neg hz]at hx
   have ez:(rd sg jb==0)=false:=by simpa using hz
   by_cases hw:rd sg jb=want
   next=>
    rw[if_pos hw,yfy]at hx
    have HX:=zA.mk hx
    have ew:(rd sg jb != want)=false:=by rw[hw];simp
    clear hx;generalize rd sg jb=q at *
    go_wp2;go_roundg (4-(f+1))
    case measure=>omega
    case rel=>exact⟨f+1,sg,ls,by omega,by omega,by omega,by go_num,HX,HI⟩
   rw[if_neg hw]at hx
   have hO:O=none:=hx.symm
   have h3:=H.out
   rw[hO,oriN]at h3
   obtain rfl:false=r:=yey h3
   have ew:(rd sg jb != want)=true:=by simpa using hw
   have HB:=zA.mk HI.out.below
   clear hx H h3;generalize rd sg jb=q at *
   go_wp2;go_ret;exact⟨rfl,HB.out⟩
mutual
def zl.j0:Nat→List (List Int)→Int→Int→Bool→List (List (zv))→Option (Int)
 | 0,_,_,_,_,_=>none
 | k+1,x1,x8,x9,x23,x102000=>if x23=true then(some 0)else(if x8>0 then(zl.j1 k x1 x8 x9 (x9==1) x102000)else(zl.j1 k x1 x8 x9 false x102000))
def zl.j1:Nat→List (List Int)→Int→Int→Bool→List (List (zv))→Option (Int)
 | 0,_,_,_,_,_=>none
 | k+1,x1,x8,x9,x30,x102000=>if x30=true then(some 1)else(if x8=0 then(if x9=0 then((ZD.f k x102000 x1).bind fun t106=>(zl.j2 k x8 x9 t106))else(zl.j2 k x8 x9 false))else(zl.j2 k x8 x9 false))
def zl.j2:Nat→Int→Int→Bool→Option (Int)
 | 0,_,_,_=>none
 | k+1,x8,x9,x37=>if x37=true then(some 2)else(if x8=0 then(if x9=0 then(some 3)else(some 4))else(some 4))
end
def zl.f (k:Nat) (l0_0:List (List (zv))) (l1:List (List Int)):Option (Int):=(Zr.f k l0_0 l1).bind fun bt102=>(if bt102.2.2.2=0 then(zl.j0 k l1 bt102.2.2.2 (wrap64 ((wrap64 (bt102.1-bt102.2.1))+bt102.2.2.1)) ((wrap64 ((wrap64 (bt102.1-bt102.2.1))+bt102.2.2.1))==2) l0_0)else(zl.j0 k l1 bt102.2.2.2 (wrap64 ((wrap64 (bt102.1-bt102.2.1))+bt102.2.2.1)) false l0_0))
set_option maxHeartbeats 8000000 in
set_option maxRecDepth 100000 in
theorem zl.calls (k:Nat) (ag:Option Addr) (ah:Nat) (ab:List (List (zv))) (A1:Option Addr) (c1:Nat) (l1:List (List Int)) (r:Int) (w:World) (ax:Kd.C (Kd.slice 75 ZZ) w ag ab.length ab) (ay:ab.length≤ah) (aY:Kd.C (Kd.slice 2 (Kd.int .i64)) w A1 l1.length l1) (aZ:l1.length≤c1) (h:zl.f k ab l1=some r) :
 Calls Try.prog 59 #[.agg #[.slice ag ab.length ah],.slice A1 l1.length c1] w fun e w'=>e = .returned (.int .i64 r)∧Below w.heap.size w w':=by
 have a_:=Try.underlying35
 have az:=zA.mk ax
 have aA:=zA.mk ay
 clear ax ay;have a1:=zA.mk aY
 have a2:=zA.mk aZ
 clear aY aZ;have HB:=zA.mk (ysy w.heap.size w)
 have H:((Zr.f k ab l1).bind fun ae=>(if ae.2.2.2=0 then(zl.j0 k l1 ae.2.2.2 (wrap64 ((wrap64 (ae.1-ae.2.1))+ae.2.2.1)) ((wrap64 ((wrap64 (ae.1-ae.2.1))+ae.2.2.1))==2) ab)else(zl.j0 k l1 ae.2.2.2 (wrap64 ((wrap64 (ae.1-ae.2.1))+ae.2.2.1)) false ab)))=some r:=h
 clear h;replace H:=ydy.mp H
 obtain⟨⟨t102,t103,t104,t105⟩,a5,H⟩:=H
 replace H:(if t105=0 then(zl.j0 k l1 t105 (wrap64 ((wrap64 (t102-t103))+t104)) ((wrap64 ((wrap64 (t102-t103))+t104))==2) ab)else(zl.j0 k l1 t105 (wrap64 ((wrap64 (t102-t103))+t104)) false ab))=some r:=H
 have A3:=zA.mk a5
 clear a5;have aV:=zA.mk H
 clear H;go_enter Try.func59,Try.ntmps59
 go_upto_region 3 with (first|((with_reducible refine zw (N:=2) rfl ?_);refine zz ?hg (N:=2) ?hd (cs:=#[.slice ag ab.length ah]) (t:=35) ?hr ?_;(case hd=>rfl);(case hg=>rfl);(case hr=>first|(go_simp;done)|(go_simp;rfl));intro af hg w5 hbox hb;have aB:=zA.mk (zM (by repeat(first|(with_reducible first|exact HB.out|apply zC|apply zB|apply zD)|exact HB.out)) hb);have aC:=zA.mk (hbox);have a6:=zA.mk ((by rw[hg];exact(zQ (by repeat(first|(with_reducible first|exact HB.out|apply zC|apply zB|apply zD)|exact HB.out))):w.heap.size≤af));have a7:=zA.mk ((by rw[hg];exact(zQ (by repeat(first|(with_reducible first|exact HB.out|apply zC|apply zB|apply zD)|exact HB.out))):w.heap.size≤af));clear HB;have HB:=aB;have aa:=aC;have a8:=a6;have ad:=a7;clear aB aC a6 a7;clear hb hbox hg;have an:w5.cell? ⟨af,0,none⟩=some (.slice ag ab.length ah):=(zK aa.out 0).trans rfl;have ao:=zP aa.out 0)|((with_reducible refine zd (f:=54) rfl ?_);refine qV (some 13) rfl rfl Try.func54 (by kernel_rfl) rfl #[.agg #[.slice ag ab.length ah],.slice A1 l1.length c1] rfl (by(try simp only [yiy,yjy,yky]);first|done|rfl|(simp only [yly,ymy];rfl)) ?_;(with_reducible refine(Zr.calls k _ _ ab _ _ l1 t102 t103 t104 t105 _ ?side1 ?side2 ?side3 ?side4 A3.out).mono ?_);(case side1=>repeat(first|exact(Kd.qD az.out HB.out)|(with_reducible refine Kd.zy ?_ _)|(with_reducible refine Kd.qA ?_ _)|(with_reducible refine Kd.qR ?_)));(case side2=>exact aA.out);(case side3=>repeat(first|exact(Kd.qD a1.out HB.out)|(with_reducible refine Kd.zy ?_ _)|(with_reducible refine Kd.qA ?_ _)|(with_reducible refine Kd.qR ?_)));(case side4=>exact a2.out);rintro e w7 ⟨rfl,hb⟩;refine⟨_,rfl,?_⟩;have aB:=zA.mk (zO (g:=af) (o := .cells #[.slice ag ab.length ah] 35 (0,0)) (by(with_reducible repeat(first|refine zH ?_ _|refine zJ ?_|refine zG ?_ _));exact aa.out) hb);have aC:=zA.mk (zM (by repeat(first|(with_reducible first|exact HB.out|apply zC|apply zB|apply zD|refine zF ?_ ad.out)|exact HB.out)) hb);clear aa;clear HB;have aa:=aB;have HB:=aC;clear aB aC;(try clear hb);(try clear hb2);(try clear hk);(try clear hi)))
 (try simp only [Act.put,yay,yby,ycy])
 go_cut [23] (fun v23 wc => ∃ (kq:Nat) (aq:Bool),v23 = .bool aq∧zA (zl.j0 kq l1 t105 (wrap64 ((wrap64 (t102-t103))+t104)) aq ab=some r)∧zA (kq≤k)∧zA (wc.heap[af]?=some (.cells #[(.slice ag ab.length ah)] 35 (0,0)))∧zA (Below w.heap.size w wc))
 case first=>
  have H:=aV.out
  clear aV;by_cases c8:t105=0
  case neg=>
   rw[if_neg c8]at H
   have al:(t105==0)=false:=beq_eq_false_iff_ne.mpr c8
   have au:(t105 != 0)=true:=bne_iff_ne.mpr c8
   (first|rw[al]|(simp only [zX,za];rw[al])|skip)
   have H':=zA.mk H
   clear H;go_wp2;go_meet
   case rel=>exact⟨_,(false),(by first|rfl|(simp;done)|(simp [*];done)),H',⟨by first|omega|exact yry _⟩,⟨by(with_reducible repeat(first|refine zH ?_ _|refine zJ ?_|refine zG ?_ _));exact aa.out⟩,⟨by repeat(first|(with_reducible first|exact HB.out|apply zC|apply zB|apply zD|refine zF ?_ ad.out)|exact HB.out)⟩⟩
  rw[if_pos c8]at H
  have al:(t105==0)=true:=beq_iff_eq.mpr c8
  have au:(t105 != 0)=false:=bne_eq_false_iff_eq.mpr c8
  clear c8
  (first|rw[al]|(simp only [zX,za];rw[al])|skip)
  have H':=zA.mk H
  clear H;go_wp2;go_meet
  case rel=>exact⟨_,(((wrap64 ((wrap64 (t102-t103))+t104))==2)),(by first|rfl|(simp;done)|(simp [*];done)),H',⟨by first|omega|exact yry _⟩,⟨by(with_reducible repeat(first|refine zH ?_ _|refine zJ ?_|refine zG ?_ _));exact aa.out⟩,⟨by repeat(first|(with_reducible first|exact HB.out|apply zC|apply zB|apply zD|refine zF ?_ ad.out)|exact HB.out)⟩⟩
 case rest=>
  clear aV;(try clear c1);(try clear p2);(try clear c5);(try clear p6);(try clear c8);(try clear al);(try clear au);(try clear an);(try clear ao);obtain⟨kq,aq,rfl,HA,aN,aa,HB⟩:=hcut
  cases kq with
  | zero=>exact absurd HA.out (by simp [zl.j0])
  | succ ba=>
   have H:=HA.out
   clear HA;simp only [zl.j0]at H
   by_cases c9:aq=true
   next=>
    subst c9;rw[if_pos rfl]at H
    obtain rfl:=yey H
    go_wp2;go_ret;exact⟨by first|rfl|(simp [zU,zV] <;> rfl)|(simp [*,zU,zV] <;> rfl),by repeat(first|(with_reducible first|exact HB.out|apply zC|apply zB|apply zD|refine zF ?_ ad.out)|exact HB.out)⟩
   replace c9:=Bool.eq_false_iff.mpr c9
   subst c9;rw[if_neg (show ¬ (false=true)by decide)]at H
   have aJ:=zA.mk H
   clear H;go_upto_region 5 with (fail)
   go_cut [30] (fun v30 wc => ∃ (kq:Nat) (ar:Bool),v30 = .bool ar∧zA (zl.j1 kq l1 t105 (wrap64 ((wrap64 (t102-t103))+t104)) ar ab=some r)∧zA (kq≤ba)∧zA (wc.heap[af]?=some (.cells #[(.slice ag ab.length ah)] 35 (0,0)))∧zA (Below w.heap.size w wc))
   case first=>
    have H:=aJ.out
    clear aJ;by_cases aD:t105>0
    next=>
     rw[if_pos aD]at H
     have ai:decide (0<t105)=true:=ygy aD
     clear aD
     (first|rw[ai]|(simp only [zX,za];rw[ai])|skip)
     have H':=zA.mk H
     clear H;go_wp2;go_meet
     case rel=>exact⟨_,(((wrap64 ((wrap64 (t102-t103))+t104))==1)),(by first|rfl|(simp;done)|(simp [*];done)),H',⟨by have:=aN.out;first|omega|exact yry _⟩,⟨by(with_reducible repeat(first|refine zH ?_ _|refine zJ ?_|refine zG ?_ _));exact aa.out⟩,⟨by repeat(first|(with_reducible first|exact HB.out|apply zC|apply zB|apply zD|refine zF ?_ ad.out)|exact HB.out)⟩⟩
    rw[if_neg aD]at H
    have ai:decide (0<t105)=false:=yhy aD
    clear aD
    (first|rw[ai]|(simp only [zX,za];rw[ai])|skip)
    have H':=zA.mk H
    clear H;go_wp2;go_meet
    case rel=>exact⟨_,(false),(by first|rfl|(simp;done)|(simp [*];done)),H',⟨by have:=aN.out;first|omega|exact yry _⟩,⟨by(with_reducible repeat(first|refine zH ?_ _|refine zJ ?_|refine zG ?_ _));exact aa.out⟩,⟨by repeat(first|(with_reducible first|exact HB.out|apply zC|apply zB|apply zD|refine zF ?_ ad.out)|exact HB.out)⟩⟩
   case rest=>
    clear aJ;(try clear c1);(try clear p2);(try clear c5);(try clear p6);(try clear c8);(try clear al);(try clear au);(try clear c9);(try clear aD);(try clear ai);(try clear an);(try clear ao);(try clear p2);(try clear p6);obtain⟨kq,ar,rfl,HA,aW,aa,HB⟩:=hcut
    cases kq with
    | zero=>exact absurd HA.out (by simp [zl.j1])
    | succ aX=>
     have H:=HA.out
     clear HA;simp only [zl.j1]at H
     by_cases aO:ar=true
     next=>
      subst aO;rw[if_pos rfl]at H
      obtain rfl:=yey H
      go_wp2;go_ret;exact⟨by first|rfl|(simp [zU,zV] <;> rfl)|(simp [*,zU,zV] <;> rfl),by repeat(first|(with_reducible first|exact HB.out|apply zC|apply zB|apply zD|refine zF ?_ ad.out)|exact HB.out)⟩
     replace aO:=Bool.eq_false_iff.mpr aO
     subst aO;rw[if_neg (show ¬ (false=true)by decide)]at H
     have aK:=zA.mk H
     clear H;go_upto_region 7 with (fail)
     go_cut [37] (fun bb wc => ∃ (kq:Nat) (ak:Bool),bb = .bool ak∧zA (zl.j2 kq t105 (wrap64 ((wrap64 (t102-t103))+t104)) ak=some r)∧zA (kq≤aX)∧zA (wc.heap[af]?=some (.cells #[(.slice ag ab.length ah)] 35 (0,0)))∧zA (Below w.heap.size w wc))
     case first=>
      have H:=aK.out
      clear aK;by_cases aE:t105=0
      case neg=>
       rw[if_neg aE]at H
       have aj:(t105==0)=false:=beq_eq_false_iff_ne.mpr aE
       have aF:(t105 != 0)=true:=bne_iff_ne.mpr aE
       (first|rw[aj]|(simp only [zX,za];rw[aj])|skip)
       have H':=zA.mk H
       clear H;go_wp2;go_meet
       case rel=>exact⟨_,(false),(by first|rfl|(simp;done)|(simp [*];done)),H',⟨by have:=aN.out;have:=aW.out;first|omega|exact yry _⟩,⟨by(with_reducible repeat(first|refine zH ?_ _|refine zJ ?_|refine zG ?_ _));exact aa.out⟩,⟨by repeat(first|(with_reducible first|exact HB.out|apply zC|apply zB|apply zD|refine zF ?_ ad.out)|exact HB.out)⟩⟩
      rw[if_pos aE]at H
      have aj:(t105==0)=true:=beq_iff_eq.mpr aE
      have aF:(t105 != 0)=false:=bne_eq_false_iff_eq.mpr aE
      clear aE
      (first|rw[aj]|(simp only [zX,za];rw[aj])|skip)
      by_cases aG:(wrap64 ((wrap64 (t102-t103))+t104))=0
      case neg=>
       rw[if_neg aG]at H
       have aH:((wrap64 ((wrap64 (t102-t103))+t104))==0)=false:=beq_eq_false_iff_ne.mpr aG
       have aI:((wrap64 ((wrap64 (t102-t103))+t104)) != 0)=true:=bne_iff_ne.mpr aG
       have H':=zA.mk H
       clear H;go_wp2;go_meet
       case rel=>exact⟨_,(false),(by first|rfl|(simp;done)|(simp [*];done)),H',⟨by have:=aN.out;have:=aW.out;first|omega|exact yry _⟩,⟨by(with_reducible repeat(first|refine zH ?_ _|refine zJ ?_|refine zG ?_ _));exact aa.out⟩,⟨by repeat(first|(with_reducible first|exact HB.out|apply zC|apply zB|apply zD|refine zF ?_ ad.out)|exact HB.out)⟩⟩
      rw[if_pos aG]at H
      have aH:((wrap64 ((wrap64 (t102-t103))+t104))==0)=true:=beq_iff_eq.mpr aG
      have aI:((wrap64 ((wrap64 (t102-t103))+t104)) != 0)=false:=bne_eq_false_iff_eq.mpr aG
      clear aG;replace H:=ydy.mp H
      obtain⟨t106,aP,H⟩:=H
      replace H:(zl.j2 aX t105 (wrap64 ((wrap64 (t102-t103))+t104)) t106)=some r:=H
      have bc:=zA.mk aP
      clear aP;have H':=zA.mk H
      clear H;have av:wc.cell? ⟨af,0,none⟩=some (.slice ag ab.length ah):=(zK aa.out 0).trans rfl
      have aw:=zP aa.out 0
      go_wp2_with (first|(go_at_call 57;(with_reducible refine(ZD.calls aX _ _ ab _ _ l1 t106 _ ?side1 ?side2 ?side3 ?side4 bc.out).mono ?_);(case side1=>repeat(first|exact(Kd.qD az.out HB.out)|(with_reducible refine Kd.zy ?_ _)|(with_reducible refine Kd.qA ?_ _)|(with_reducible refine Kd.qR ?_)));(case side2=>exact aA.out);(case side3=>repeat(first|exact(Kd.qD a1.out HB.out)|(with_reducible refine Kd.zy ?_ _)|(with_reducible refine Kd.qA ?_ _)|(with_reducible refine Kd.qR ?_)));(case side4=>exact a2.out);rintro e bg ⟨rfl,hb⟩;have aB:=zA.mk (zO (g:=af) (o := .cells #[.slice ag ab.length ah] 35 (0,0)) (by(with_reducible repeat(first|refine zH ?_ _|refine zJ ?_|refine zG ?_ _));exact aa.out) hb);have aC:=zA.mk (zM (by repeat(first|(with_reducible first|exact HB.out|apply zC|apply zB|apply zD|refine zF ?_ ad.out)|exact HB.out)) hb);clear aa;clear HB;have aa:=aB;have HB:=aC;clear aB aC;(try clear hb);(try clear hb2);(try clear hk);(try clear hi)))
      go_meet
      case rel=>exact⟨_,(t106),(by first|rfl|(simp;done)|(simp [*];done)),H',⟨by have:=aN.out;have:=aW.out;first|omega|exact yry _⟩,⟨by(with_reducible repeat(first|refine zH ?_ _|refine zJ ?_|refine zG ?_ _));exact aa.out⟩,⟨by repeat(first|(with_reducible first|exact HB.out|apply zC|apply zB|apply zD|refine zF ?_ ad.out)|exact HB.out)⟩⟩
     case rest=>
      clear aK;(try clear c1);(try clear p2);(try clear c5);(try clear p6);(try clear c8);(try clear al);(try clear au);(try clear c9);(try clear aD);(try clear ai);(try clear aO);(try clear aE);(try clear aj);(try clear aF);(try clear aG);(try clear aH);(try clear aI);(try clear av);(try clear an);(try clear aw);(try clear ao);(try clear p2);(try clear p6);obtain⟨kq,ak,rfl,HA,bd,aa,HB⟩:=hcut
      cases kq with
      | zero=>exact absurd HA.out (by simp [zl.j2])
      | succ bf=>
       have H:=HA.out
       clear HA;simp only [zl.j2]at H
       by_cases aU:ak=true
       next=>
        subst aU;rw[if_pos rfl]at H
        obtain rfl:=yey H
        go_wp2;go_ret;exact⟨by first|rfl|(simp [zU,zV] <;> rfl)|(simp [*,zU,zV] <;> rfl),by repeat(first|(with_reducible first|exact HB.out|apply zC|apply zB|apply zD|refine zF ?_ ad.out)|exact HB.out)⟩
       replace aU:=Bool.eq_false_iff.mpr aU
       subst aU;rw[if_neg (show ¬ (false=true)by decide)]at H
       by_cases aL:t105=0
       case neg=>
        rw[if_neg aL]at H
        have aQ:(t105==0)=false:=beq_eq_false_iff_ne.mpr aL
        have aR:(t105 != 0)=true:=bne_iff_ne.mpr aL
        obtain rfl:=yey H
        go_wp2;go_ret;exact⟨by first|rfl|(simp [zU,zV] <;> rfl)|(simp [*,zU,zV] <;> rfl),by repeat(first|(with_reducible first|exact HB.out|apply zC|apply zB|apply zD|refine zF ?_ ad.out)|exact HB.out)⟩
       rw[if_pos aL]at H
       have aQ:(t105==0)=true:=beq_iff_eq.mpr aL
       have aR:(t105 != 0)=false:=bne_eq_false_iff_eq.mpr aL
       clear aL;by_cases aM:(wrap64 ((wrap64 (t102-t103))+t104))=0
       case neg=>
        rw[if_neg aM]at H
        have aS:((wrap64 ((wrap64 (t102-t103))+t104))==0)=false:=beq_eq_false_iff_ne.mpr aM
        have aT:((wrap64 ((wrap64 (t102-t103))+t104)) != 0)=true:=bne_iff_ne.mpr aM
        obtain rfl:=yey H
        go_wp2;go_ret;exact⟨by first|rfl|(simp [zU,zV] <;> rfl)|(simp [*,zU,zV] <;> rfl),by repeat(first|(with_reducible first|exact HB.out|apply zC|apply zB|apply zD|refine zF ?_ ad.out)|exact HB.out)⟩
       rw[if_pos aM]at H
       have aS:((wrap64 ((wrap64 (t102-t103))+t104))==0)=true:=beq_iff_eq.mpr aM
       have aT:((wrap64 ((wrap64 (t102-t103))+t104)) != 0)=false:=bne_eq_false_iff_eq.mpr aM
       clear aM;obtain rfl:=yey H
       go_wp2;go_ret;exact⟨by first|rfl|(simp [zU,zV] <;> rfl)|(simp [*,zU,zV] <;> rfl),by repeat(first|(with_reducible first|exact HB.out|apply zC|apply zB|apply zD|refine zF ?_ ad.out)|exact HB.out)⟩
def Zl.f (k:Nat) (l0_0:List (List (zv))) (a1:Int):Option (Int):=(Zu.f k l0_0 a1).bind fun bt102=>(if bt102.2=0 then((zl.f k l0_0 bt102.1).bind fun t106=>(some t106))else(some (-1)))
set_option maxHeartbeats 8000000 in
set_option maxRecDepth 100000 in
theorem Zl.calls (k:Nat) (ae:Option Addr) (af:Nat) (ab:List (List (zv))) (a1:Int) (r:Int) (w:World) (ao:Kd.C (Kd.slice 75 ZZ) w ae ab.length ab) (aq:ab.length≤af) (h:Zl.f k ab a1=some r) :
    Calls Try.prog 31 #[.agg #[.slice ae ab.length af],.int .i64 a1] w fun e w'=>e = .returned (.int .i64 r)∧Below w.heap.size w w':=by
  have aL:=Try.underlying35
  have al:=zA.mk ao
  have an:=zA.mk aq
  clear ao aq;have HB:=zA.mk (ysy w.heap.size w)
  have H:((Zu.f k ab a1).bind fun ar=>(if ar.2=0 then((zl.f k ab ar.1).bind fun t106=>(some t106))else(some (-1))))=some r:=h
  clear h;replace H:=ydy.mp H
  obtain⟨⟨t102,t105⟩,aJ,H⟩:=H
  replace H:(if t105=0 then((zl.f k ab t102).bind fun t106=>(some t106))else(some (-1)))=some r:=H
  have A3:=zA.mk aJ
  clear aJ;by_cases c4:t105=0
  · rw[if_pos c4]at H
    have az:(t105==0)=true:=beq_iff_eq.mpr c4
    have aA:(t105 != 0)=false:=bne_eq_false_iff_eq.mpr c4
    clear c4;replace H:=ydy.mp H
    obtain⟨t106,aK,H⟩:=H
    replace H:(some t106)=some r:=H
    have A5:=zA.mk aK
    clear aK;obtain rfl:=yey H
    go_enter Try.func31,Try.ntmps31
    go_wp2_with (first|((with_reducible refine zw (N:=2) rfl ?_);refine zz ?hg (N:=2) ?hd (cs:=#[.slice ae ab.length af]) (t:=35) ?hr ?_;(case hd=>rfl);(case hg=>rfl);(case hr=>first|(go_simp;done)|(go_simp;rfl));intro ad hg w6 hbox hb;have ai:=zA.mk (zM (by repeat(first|(with_reducible first|exact HB.out|apply zC|apply zB|apply zD)|exact HB.out)) hb);have aj:=zA.mk (hbox);have ak:=zA.mk ((by rw[hg];exact(zQ (by repeat(first|(with_reducible first|exact HB.out|apply zC|apply zB|apply zD)|exact HB.out))):w.heap.size≤ad));have au:=zA.mk ((by rw[hg];exact(zQ (by repeat(first|(with_reducible first|exact HB.out|apply zC|apply zB|apply zD)|exact HB.out))):w.heap.size≤ad));clear HB;have HB:=ai;have aa:=aj;have av:=ak;have ag:=au;clear ai aj ak au;clear hb hbox hg;have aB:w6.cell? ⟨ad,0,none⟩=some (.slice ae ab.length af):=(zK aa.out 0).trans rfl;have aC:=zP aa.out 0)|((with_reducible refine zd (f:=17) rfl ?_);refine qV (some 10) rfl rfl Try.func17 (by kernel_rfl) rfl #[.agg #[.slice ae ab.length af],.int .i64 a1] rfl (by(try simp only [yiy,yjy,yky]);first|done|rfl|(simp only [yly,ymy];rfl)) ?_;(with_reducible refine(Zu.calls k _ _ ab a1 t102 t105 _ ?side1 ?side2 A3.out).mono ?_);(case side1=>repeat(first|exact(Kd.qD al.out HB.out)|(with_reducible refine Kd.zy ?_ _)|(with_reducible refine Kd.qA ?_ _)|(with_reducible refine Kd.qR ?_)));(case side2=>exact an.out);rintro e w8 ⟨aD,rfl,aw,hb⟩;refine⟨_,rfl,?_⟩;have ai:=zA.mk (Kd.QA aw (zQ (by repeat(first|(with_reducible first|exact HB.out|apply zC|apply zB|apply zD|refine zF ?_ ag.out)|exact HB.out))));have aj:=zA.mk (zO (g:=ad) (o := .cells #[.slice ae ab.length af] 35 (0,0)) (by(with_reducible repeat(first|refine zH ?_ _|refine zJ ?_|refine zG ?_ _));exact aa.out) hb);have ak:=zA.mk (zM (by repeat(first|(with_reducible first|exact HB.out|apply zC|apply zB|apply zD|refine zF ?_ ag.out)|exact HB.out)) hb);clear aa;clear HB;have ah:=ai;have aa:=aj;have HB:=ak;clear ai aj ak;(try clear hb);(try clear hb2);(try clear hk);(try clear hi);(try clear aw);have aE:w8.cell? ⟨ad,0,none⟩=some (.slice ae ab.length af):=(zK aa.out 0).trans rfl;have aF:=zP aa.out 0;obtain⟨aG,aH,aI⟩:=Kd.QM ah.out;subst aI)|((with_reducible refine zd (f:=59) rfl ?_);refine qV (some 17) rfl rfl Try.func59 (by kernel_rfl) rfl #[.agg #[.slice ae ab.length af],.slice aG t102.length aH] rfl (by(try simp only [yiy,yjy,yky]);first|done|rfl|(simp only [yly,ymy];rfl)) ?_;(with_reducible refine(zl.calls k _ _ ab _ _ t102 t106 _ ?side1 ?side2 ?side3 ?side4 A5.out).mono ?_);(case side1=>repeat(first|exact(Kd.qD al.out HB.out)|(with_reducible refine Kd.zy ?_ _)|(with_reducible refine Kd.qA ?_ _)|(with_reducible refine Kd.qR ?_)));(case side2=>exact an.out);(case side3=>repeat(first|exact(Kd.ZF ah.out).2.2|(with_reducible refine Kd.zy ?_ _)|(with_reducible refine Kd.qA ?_ _)|(with_reducible refine Kd.qR ?_)));(case side4=>exact(Kd.ZF ah.out).2.1);rintro e aN ⟨rfl,hb⟩;refine⟨_,rfl,?_⟩;have ai:=zA.mk (Kd.Zf (by(with_reducible repeat(first|apply Kd.zh|apply Kd.zi|apply Kd.zx));exact ah.out) hb);have aj:=zA.mk (zO (g:=ad) (o := .cells #[.slice ae ab.length af] 35 (0,0)) (by(with_reducible repeat(first|refine zH ?_ _|refine zJ ?_|refine zG ?_ _));exact aa.out) hb);have ak:=zA.mk (zM (by repeat(first|(with_reducible first|exact HB.out|apply zC|apply zB|apply zD|refine zF ?_ ag.out)|exact HB.out)) hb);clear ah;clear aa;clear HB;have ah:=ai;have aa:=aj;have HB:=ak;clear ai aj ak;(try clear hb);(try clear hb2);(try clear hk);(try clear hi)))
    go_ret;exact⟨by first|rfl|(simp [zU,zV] <;> rfl)|(simp [*,zU,zV] <;> rfl),by repeat(first|(with_reducible first|exact HB.out|apply zC|apply zB|apply zD|refine zF ?_ ag.out)|exact HB.out)⟩
  · rw[if_neg c4]at H
    have az:(t105==0)=false:=beq_eq_false_iff_ne.mpr c4
    have aA:(t105 != 0)=true:=bne_iff_ne.mpr c4
    obtain rfl:=yey H
    go_enter Try.func31,Try.ntmps31
    go_wp2_with (first|((with_reducible refine zw (N:=2) rfl ?_);refine zz ?hg (N:=2) ?hd (cs:=#[.slice ae ab.length af]) (t:=35) ?hr ?_;(case hd=>rfl);(case hg=>rfl);(case hr=>first|(go_simp;done)|(go_simp;rfl));intro ad hg aM hbox hb;have ai:=zA.mk (zM (by repeat(first|(with_reducible first|exact HB.out|apply zC|apply zB|apply zD)|exact HB.out)) hb);have aj:=zA.mk (hbox);have ak:=zA.mk ((by rw[hg];exact(zQ (by repeat(first|(with_reducible first|exact HB.out|apply zC|apply zB|apply zD)|exact HB.out))):w.heap.size≤ad));have au:=zA.mk ((by rw[hg];exact(zQ (by repeat(first|(with_reducible first|exact HB.out|apply zC|apply zB|apply zD)|exact HB.out))):w.heap.size≤ad));clear HB;have HB:=ai;have aa:=aj;have av:=ak;have ag:=au;clear ai aj ak au;clear hb hbox hg;have ax:aM.cell? ⟨ad,0,none⟩=some (.slice ae ab.length af):=(zK aa.out 0).trans rfl;have ay:=zP aa.out 0)|((with_reducible refine zd (f:=17) rfl ?_);refine qV (some 10) rfl rfl Try.func17 (by kernel_rfl) rfl #[.agg #[.slice ae ab.length af],.int .i64 a1] rfl (by(try simp only [yiy,yjy,yky]);first|done|rfl|(simp only [yly,ymy];rfl)) ?_;(with_reducible refine(Zu.calls k _ _ ab a1 t102 t105 _ ?side1 ?side2 A3.out).mono ?_);(case side1=>repeat(first|exact(Kd.qD al.out HB.out)|(with_reducible refine Kd.zy ?_ _)|(with_reducible refine Kd.qA ?_ _)|(with_reducible refine Kd.qR ?_)));(case side2=>exact an.out);rintro e aO ⟨aD,rfl,aw,hb⟩;refine⟨_,rfl,?_⟩;have ai:=zA.mk (Kd.QA aw (zQ (by repeat(first|(with_reducible first|exact HB.out|apply zC|apply zB|apply zD|refine zF ?_ ag.out)|exact HB.out))));have aj:=zA.mk (zO (g:=ad) (o := .cells #[.slice ae ab.length af] 35 (0,0)) (by(with_reducible repeat(first|refine zH ?_ _|refine zJ ?_|refine zG ?_ _));exact aa.out) hb);have ak:=zA.mk (zM (by repeat(first|(with_reducible first|exact HB.out|apply zC|apply zB|apply zD|refine zF ?_ ag.out)|exact HB.out)) hb);clear aa;clear HB;have ah:=ai;have aa:=aj;have HB:=ak;clear ai aj ak;(try clear hb);(try clear hb2);(try clear hk);(try clear hi);(try clear aw)))
    go_ret;exact⟨by first|rfl|(simp [zU,zV] <;> rfl)|(simp [*,zU,zV] <;> rfl),by repeat(first|(with_reducible first|exact HB.out|apply zC|apply zB|apply zD|refine zF ?_ ag.out)|exact HB.out)⟩
def QI.f (k:Nat) (l0_0:List (List (qZ))) (a1:Int):Option (Bool):=(ZB.f k l0_0 1048576).bind fun t102=>(if t102<0 then(some true)else((zo.f k l0_0).bind fun t103=>((Zl.f k t103 a1).bind fun t106=>((zo.f k l0_0).bind fun t107=>((ZT.f k t107 a1).bind fun t111=>(if t111=t106 then((zo.f k l0_0).bind fun t112=>((qY.f k t107 t112).bind fun t115=>(if t115=true then(some true)else(some false))))else(some false)))))))
set_option maxHeartbeats 8000000 in
set_option maxRecDepth 100000 in
theorem QI.calls (k:Nat) (ai:Option Addr) (aj:Nat) (ae:List (List (qZ))) (a1:Int) (r:Bool) (w:World) (aJ:Kd.C (Kd.slice 118 Qd) w ai ae.length ae) (aK:ae.length≤aj) (h:QI.f k ae a1=some r) :
 Calls Try.prog 8 #[.agg #[.slice ai ae.length aj],.int .i64 a1] w fun e w'=>e = .returned (.bool r)∧Below w.heap.size w w':=by
 have b6:=Try.underlying28
 have b7:=Try.underlying35
 have ax:=zA.mk aJ
 have ay:=zA.mk aK
 clear aJ aK;have HB:=zA.mk (ysy w.heap.size w)
 have H:((ZB.f k ae 1048576).bind fun t102=>(if t102<0 then(some true)else((zo.f k ae).bind fun t103=>((Zl.f k t103 a1).bind fun t106=>((zo.f k ae).bind fun t107=>((ZT.f k t107 a1).bind fun t111=>(if t111=t106 then((zo.f k ae).bind fun t112=>((qY.f k t107 t112).bind fun t115=>(if t115=true then(some true)else(some false))))else(some false))))))))=some r:=h
 clear h;replace H:=ydy.mp H
 obtain⟨t102,bV,H⟩:=H
 replace H:(if t102<0 then(some true)else((zo.f k ae).bind fun t103=>((Zl.f k t103 a1).bind fun t106=>((zo.f k ae).bind fun t107=>((ZT.f k t107 a1).bind fun t111=>(if t111=t106 then((zo.f k ae).bind fun t112=>((qY.f k t107 t112).bind fun t115=>(if t115=true then(some true)else(some false))))else(some false)))))))=some r:=H
 have A3:=zA.mk bV
 clear bV;by_cases c4:t102<0
 next=>
  rw[if_pos c4]at H
  have bD:decide (t102<0)=true:=ygy c4
  clear c4;obtain rfl:=yey H
  go_enter Try.func8,Try.ntmps8
  go_wp2_with (first|((with_reducible refine zw (N:=2) rfl ?_);refine zz ?hg (N:=2) ?hd (cs:=#[.slice ai ae.length aj]) (t:=28) ?hr ?_;(case hd=>rfl);(case hg=>rfl);(case hr=>first|(go_simp;done)|(go_simp;rfl));intro ad hg w5 hbox hb;have al:=zA.mk (zM (by repeat(first|(with_reducible first|exact HB.out|apply zC|apply zB|apply zD)|exact HB.out)) hb);have an:=zA.mk (hbox);have ao:=zA.mk ((by rw[hg];exact(zQ (by repeat(first|(with_reducible first|exact HB.out|apply zC|apply zB|apply zD)|exact HB.out))):w.heap.size≤ad));have ar:=zA.mk ((by rw[hg];exact(zQ (by repeat(first|(with_reducible first|exact HB.out|apply zC|apply zB|apply zD)|exact HB.out))):w.heap.size≤ad));clear HB;have HB:=al;have aa:=an;have aH:=ao;have ah:=ar;clear al an ao ar;clear hb hbox hg;have bE:w5.cell? ⟨ad,0,none⟩=some (.slice ai ae.length aj):=(zK aa.out 0).trans rfl;have bF:=zP aa.out 0)|((with_reducible refine zd (f:=16) rfl ?_);refine qV (some 11) rfl rfl Try.func16 (by kernel_rfl) rfl #[.agg #[.slice ai ae.length aj],.int .i64 1048576] rfl (by(try simp only [yiy,yjy,yky]);first|done|rfl|(simp only [yly,ymy];rfl)) ?_;(with_reducible refine(ZB.calls k _ _ ae 1048576 t102 _ ?side1 ?side2 A3.out).mono ?_);(case side1=>repeat(first|exact(Kd.qD ax.out HB.out)|(with_reducible refine Kd.zy ?_ _)|(with_reducible refine Kd.qA ?_ _)|(with_reducible refine Kd.qR ?_)));(case side2=>exact ay.out);rintro e w7 ⟨rfl,hb⟩;refine⟨_,rfl,?_⟩;have al:=zA.mk (zO (g:=ad) (o := .cells #[.slice ai ae.length aj] 28 (0,0)) (by(with_reducible repeat(first|refine zH ?_ _|refine zJ ?_|refine zG ?_ _));exact aa.out) hb);have an:=zA.mk (zM (by repeat(first|(with_reducible first|exact HB.out|apply zC|apply zB|apply zD|refine zF ?_ ah.out)|exact HB.out)) hb);clear aa;clear HB;have aa:=al;have HB:=an;clear al an;(try clear hb);(try clear hb2);(try clear hk);(try clear hi)))
  go_ret;exact⟨by first|rfl|(simp [zU,zV] <;> rfl)|(simp [*,zU,zV] <;> rfl),by repeat(first|(with_reducible first|exact HB.out|apply zC|apply zB|apply zD|refine zF ?_ ah.out)|exact HB.out)⟩
 rw[if_neg c4]at H
 have bD:decide (t102<0)=false:=yhy c4
 clear c4;replace H:=ydy.mp H
 obtain⟨t103,bW,H⟩:=H
 replace H:((Zl.f k t103 a1).bind fun t106=>((zo.f k ae).bind fun t107=>((ZT.f k t107 a1).bind fun t111=>(if t111=t106 then((zo.f k ae).bind fun t112=>((qY.f k t107 t112).bind fun t115=>(if t115=true then(some true)else(some false))))else(some false)))))=some r:=H
 have A8:=zA.mk bW
 clear bW;replace H:=ydy.mp H
 obtain⟨t106,bX,H⟩:=H
 replace H:((zo.f k ae).bind fun t107=>((ZT.f k t107 a1).bind fun t111=>(if t111=t106 then((zo.f k ae).bind fun t112=>((qY.f k t107 t112).bind fun t115=>(if t115=true then(some true)else(some false))))else(some false))))=some r:=H
 have A9:=zA.mk bX
 clear bX;replace H:=ydy.mp H
 obtain⟨t107,aQ,H⟩:=H
 replace H:((ZT.f k t107 a1).bind fun t111=>(if t111=t106 then((zo.f k ae).bind fun t112=>((qY.f k t107 t112).bind fun t115=>(if t115=true then(some true)else(some false))))else(some false)))=some r:=H
 have bG:=zA.mk aQ
 clear aQ;replace H:=ydy.mp H
 obtain⟨t111,aR,H⟩:=H
 replace H:(if t111=t106 then((zo.f k ae).bind fun t112=>((qY.f k t107 t112).bind fun t115=>(if t115=true then(some true)else(some false))))else(some false))=some r:=H
 have bH:=zA.mk aR
 clear aR;by_cases aP:t111=t106
 case neg=>
  rw[if_neg aP]at H
  have aS:(t111==t106)=false:=beq_eq_false_iff_ne.mpr aP
  have aT:(t111 != t106)=true:=bne_iff_ne.mpr aP
  obtain rfl:=yey H
  go_enter Try.func8,Try.ntmps8
  go_wp2_with (first|((with_reducible refine zw (N:=2) rfl ?_);refine zz ?hg (N:=2) ?hd (cs:=#[.slice ai ae.length aj]) (t:=28) ?hr ?_;(case hd=>rfl);(case hg=>rfl);(case hr=>first|(go_simp;done)|(go_simp;rfl));intro ad hg b8 hbox hb;have al:=zA.mk (zM (by repeat(first|(with_reducible first|exact HB.out|apply zC|apply zB|apply zD)|exact HB.out)) hb);have an:=zA.mk (hbox);have ao:=zA.mk ((by rw[hg];exact(zQ (by repeat(first|(with_reducible first|exact HB.out|apply zC|apply zB|apply zD)|exact HB.out))):w.heap.size≤ad));have ar:=zA.mk ((by rw[hg];exact(zQ (by repeat(first|(with_reducible first|exact HB.out|apply zC|apply zB|apply zD)|exact HB.out))):w.heap.size≤ad));clear HB;have HB:=al;have aa:=an;have aH:=ao;have ah:=ar;clear al an ao ar;clear hb hbox hg;have ba:b8.cell? ⟨ad,0,none⟩=some (.slice ai ae.length aj):=(zK aa.out 0).trans rfl;have bb:=zP aa.out 0)|((with_reducible refine zd (f:=16) rfl ?_);refine qV (some 11) rfl rfl Try.func16 (by kernel_rfl) rfl #[.agg #[.slice ai ae.length aj],.int .i64 1048576] rfl (by(try simp only [yiy,yjy,yky]);first|done|rfl|(simp only [yly,ymy];rfl)) ?_;(with_reducible refine(ZB.calls k _ _ ae 1048576 t102 _ ?side1 ?side2 A3.out).mono ?_);(case side1=>repeat(first|exact(Kd.qD ax.out HB.out)|(with_reducible refine Kd.zy ?_ _)|(with_reducible refine Kd.qA ?_ _)|(with_reducible refine Kd.qR ?_)));(case side2=>exact ay.out);rintro e b9 ⟨rfl,hb⟩;refine⟨_,rfl,?_⟩;have al:=zA.mk (zO (g:=ad) (o := .cells #[.slice ai ae.length aj] 28 (0,0)) (by(with_reducible repeat(first|refine zH ?_ _|refine zJ ?_|refine zG ?_ _));exact aa.out) hb);have an:=zA.mk (zM (by repeat(first|(with_reducible first|exact HB.out|apply zC|apply zB|apply zD|refine zF ?_ ah.out)|exact HB.out)) hb);clear aa;clear HB;have aa:=al;have HB:=an;clear al an;(try clear hb);(try clear hb2);(try clear hk);(try clear hi);have bc:b9.cell? ⟨ad,0,none⟩=some (.slice ai ae.length aj):=(zK aa.out 0).trans rfl;have bd:=zP aa.out 0)|((with_reducible refine zd (f:=18) rfl ?_);refine qV (some 15) rfl rfl Try.func18 (by kernel_rfl) rfl #[.agg #[.slice ai ae.length aj]] rfl (by(try simp only [yiy,yjy,yky]);first|done|rfl|(simp only [yly,ymy];rfl)) ?_;(with_reducible refine(zo.calls k _ _ ae t103 _ ?side1 ?side2 A8.out).mono ?_);(case side1=>repeat(first|exact(Kd.qD ax.out HB.out)|(with_reducible refine Kd.zy ?_ _)|(with_reducible refine Kd.qA ?_ _)|(with_reducible refine Kd.qR ?_)));(case side2=>exact ay.out);rintro e cn ⟨aU,rfl,aA,hb⟩;refine⟨_,rfl,?_⟩;have al:=zA.mk (Kd.QA aA (zQ (by repeat(first|(with_reducible first|exact HB.out|apply zC|apply zB|apply zD|refine zF ?_ ah.out)|exact HB.out))));have an:=zA.mk (zO (g:=ad) (o := .cells #[.slice ai ae.length aj] 28 (0,0)) (by(with_reducible repeat(first|refine zH ?_ _|refine zJ ?_|refine zG ?_ _));exact aa.out) hb);have ao:=zA.mk (zM (by repeat(first|(with_reducible first|exact HB.out|apply zC|apply zB|apply zD|refine zF ?_ ah.out)|exact HB.out)) hb);clear aa;clear HB;have ab:=al;have aa:=an;have HB:=ao;clear al an ao;(try clear hb);(try clear hb2);(try clear hk);(try clear hi);(try clear aA);obtain⟨aV,aW,bI⟩:=Kd.QM ab.out;subst bI)|((with_reducible refine zd (f:=31) rfl ?_);refine qV (some 17) rfl rfl Try.func31 (by kernel_rfl) rfl #[.agg #[.slice aV t103.length aW],.int .i64 a1] rfl (by(try simp only [yiy,yjy,yky]);first|done|rfl|(simp only [yly,ymy];rfl)) ?_;(with_reducible refine(Zl.calls k _ _ t103 a1 t106 _ ?side1 ?side2 A9.out).mono ?_);(case side1=>repeat(first|exact(Kd.ZF ab.out).2.2|(with_reducible refine Kd.zy ?_ _)|(with_reducible refine Kd.qA ?_ _)|(with_reducible refine Kd.qR ?_)));(case side2=>exact(Kd.ZF ab.out).2.1);rintro e b_ ⟨rfl,hb⟩;refine⟨_,rfl,?_⟩;have al:=zA.mk (Kd.Zf (by(with_reducible repeat(first|apply Kd.zh|apply Kd.zi|apply Kd.zx));exact ab.out) hb);have an:=zA.mk (zO (g:=ad) (o := .cells #[.slice ai ae.length aj] 28 (0,0)) (by(with_reducible repeat(first|refine zH ?_ _|refine zJ ?_|refine zG ?_ _));exact aa.out) hb);have ao:=zA.mk (zM (by repeat(first|(with_reducible first|exact HB.out|apply zC|apply zB|apply zD|refine zF ?_ ah.out)|exact HB.out)) hb);clear ab;clear aa;clear HB;have ab:=al;have aa:=an;have HB:=ao;clear al an ao;(try clear hb);(try clear hb2);(try clear hk);(try clear hi);have bf:b_.cell? ⟨ad,0,none⟩=some (.slice ai ae.length aj):=(zK aa.out 0).trans rfl;have bg:=zP aa.out 0)|((with_reducible refine zd (f:=18) rfl ?_);refine qV (some 19) rfl rfl Try.func18 (by kernel_rfl) rfl #[.agg #[.slice ai ae.length aj]] rfl (by(try simp only [yiy,yjy,yky]);first|done|rfl|(simp only [yly,ymy];rfl)) ?_;(with_reducible refine(zo.calls k _ _ ae t107 _ ?side1 ?side2 bG.out).mono ?_);(case side1=>repeat(first|exact(Kd.qD ax.out HB.out)|(with_reducible refine Kd.zy ?_ _)|(with_reducible refine Kd.qA ?_ _)|(with_reducible refine Kd.qR ?_)));(case side2=>exact ay.out);rintro e cp ⟨aX,rfl,aA,hb⟩;refine⟨_,rfl,?_⟩;have al:=zA.mk (Kd.Zt (by(with_reducible repeat(first|apply Kd.zh|apply Kd.zi|apply Kd.zx));exact ab.out) (Kd.Jx aA) hb);have an:=zA.mk (Kd.QA (Kd.QL aA (Kd.zEX (by(with_reducible repeat(first|apply Kd.zh|apply Kd.zi|apply Kd.zx));exact ab.out))) (zQ (by repeat(first|(with_reducible first|exact HB.out|apply zC|apply zB|apply zD|refine zF ?_ ah.out)|exact HB.out))));have ao:=zA.mk (zO (g:=ad) (o := .cells #[.slice ai ae.length aj] 28 (0,0)) (by(with_reducible repeat(first|refine zH ?_ _|refine zJ ?_|refine zG ?_ _));exact aa.out) hb);have ar:=zA.mk (zM (by repeat(first|(with_reducible first|exact HB.out|apply zC|apply zB|apply zD|refine zF ?_ ah.out)|exact HB.out)) hb);clear ab;clear aa;clear HB;have ab:=al;have af:=an;have aa:=ao;have HB:=ar;clear al an ao ar;(try clear hb);(try clear hb2);(try clear hk);(try clear hi);(try clear aA))|((with_reducible refine zw (N:=7) rfl ?_);refine zz ?hg (N:=7) ?hd (cs:=#[.slice none 0 0]) (t:=35) ?hr ?_;(case hd=>rfl);(case hg=>rfl);(case hr=>first|(go_simp;done)|(go_simp;rfl));intro ak hg ca hbox hb;have al:=zA.mk (Kd.Zf (by(with_reducible repeat(first|apply Kd.zh|apply Kd.zi|apply Kd.zx));exact ab.out) hb);have an:=zA.mk (Kd.Zf (by(with_reducible repeat(first|apply Kd.zh|apply Kd.zi|apply Kd.zx));exact af.out) hb);have ao:=zA.mk (zO (g:=ad) (o := .cells #[.slice ai ae.length aj] 28 (0,0)) (by(with_reducible repeat(first|refine zH ?_ _|refine zJ ?_|refine zG ?_ _));exact aa.out) hb);have ar:=zA.mk (zM (by repeat(first|(with_reducible first|exact HB.out|apply zC|apply zB|apply zD|refine zF ?_ ah.out)|exact HB.out)) hb);have az:=zA.mk (hbox);have aD:=zA.mk ((by rw[hg];exact(zQ (by repeat(first|(with_reducible first|exact HB.out|apply zC|apply zB|apply zD|refine zF ?_ ah.out)|exact HB.out))):w.heap.size≤ak));have aL:=zA.mk ((by rw[hg];exact(zQ (by repeat(first|(with_reducible first|exact HB.out|apply zC|apply zB|apply zD|refine zF ?_ ah.out)|exact HB.out))):w.heap.size≤ak));have aM:=zA.mk ((by rw[hg];exact Nat.ne_of_lt (qT (g:=ad) (o := .cells #[.slice ai ae.length aj] 28 (0,0)) (by(with_reducible repeat(first|refine zH ?_ _|refine zJ ?_|refine zG ?_ _));exact aa.out)):ad≠ak));have aN:=zA.mk ((by rw[hg];exact Nat.ne_of_gt (qT (g:=ad) (o := .cells #[.slice ai ae.length aj] 28 (0,0)) (by(with_reducible repeat(first|refine zH ?_ _|refine zJ ?_|refine zG ?_ _));exact aa.out)):ak≠ad));clear ab;clear af;clear aa;clear HB;have ab:=al;have af:=an;have aa:=ao;have HB:=ar;have ag:=az;have aO:=aD;have au:=aL;have aq:=aM;have av:=aN;clear al an ao ar az aD aL aM aN;clear hb hbox hg;obtain⟨aI,aG,bJ⟩:=Kd.QM af.out;subst bJ;have bY:=av.out;have bZ:=aq.out;have bh:ca.cell? ⟨ak,0,none⟩=some (.slice none 0 0):=(zK ag.out 0).trans rfl;have bj:=zP ag.out 0)|((with_reducible refine zd (f:=32) rfl ?_);refine qV (some 22) rfl rfl Try.func32 (by kernel_rfl) rfl #[.agg #[.slice aI t107.length aG],.int .i64 a1] rfl (by(try simp only [yiy,yjy,yky]);first|done|rfl|(simp only [yly,ymy];rfl)) ?_;(with_reducible refine(ZT.calls k _ _ t107 a1 t111 _ ?side1 ?side2 bH.out).mono ?_);(case side1=>refine(Kd.ZF (e:=76) (base:=w.heap.size) (ok:=fun k_=>(True∧some k_≠(.slice aV t103.length aW:Value).ownBlock)) (n:=t107.length) (c:=aG) ?_).2.2;exact(by(with_reducible repeat(first|apply Kd.zh|apply Kd.zi|apply Kd.zx));exact(Kd.ZC (Kd.QD (p:=⟨ak,0,none⟩) (Kd.Zo af.out ag.out (by decide)) (fun _ hk=>hk.2) (.slice aI t107.length aG)) (fun _ h_=>h_.1))));(case side2=>exact(Kd.ZF af.out).2.1);rintro e cq ⟨rfl,hb⟩;refine⟨_,rfl,?_⟩;have al:=zA.mk (Kd.Zf (by(with_reducible repeat(first|apply Kd.zh|apply Kd.zi|apply Kd.zx));exact(Kd.ZC (Kd.QD (p:=⟨ak,0,none⟩) (Kd.Zo ab.out ag.out (by decide)) (fun _ hk=>hk.2) (.slice aI t107.length aG)) (fun _ h_=>h_.1))) hb);have an:=zA.mk (Kd.Zf (by(with_reducible repeat(first|apply Kd.zh|apply Kd.zi|apply Kd.zx));exact(Kd.ZC (Kd.QD (p:=⟨ak,0,none⟩) (Kd.Zo af.out ag.out (by decide)) (fun _ hk=>hk.2) (.slice aI t107.length aG)) (fun _ h_=>h_.1))) hb);have ao:=zA.mk (zO (g:=ad) (o := .cells #[.slice ai ae.length aj] 28 (0,0)) (by(with_reducible repeat(first|refine zH ?_ _|refine zJ ?_|refine zG ?_ _));refine qJ ?_ aq.out _;(with_reducible repeat(first|refine zH ?_ _|refine zJ ?_|refine zG ?_ _));exact aa.out) hb);have ar:=zA.mk (zO (g:=ak) (o := .cells #[.slice aI t107.length aG] 35 (0,0)) (by(with_reducible repeat(first|refine zH ?_ _|refine zJ ?_|refine zG ?_ _));refine qf (cs:=#[.slice none 0 0]) ?_ 0 _ rfl;(with_reducible repeat(first|refine zH ?_ _|refine zJ ?_|refine zG ?_ _));exact ag.out) hb);have az:=zA.mk (zM (by repeat(first|(with_reducible first|exact HB.out|apply zC|apply zB|apply zD|refine zF ?_ ah.out|refine zF ?_ au.out)|exact HB.out)) hb);clear ab;clear af;clear aa;clear ag;clear HB;have ab:=al;have af:=an;have aa:=ao;have ag:=ar;have HB:=az;clear al an ao ar az;(try clear hb);(try clear hb2);(try clear hk);(try clear hi)))
  go_ret;exact⟨by first|rfl|(simp [zU,zV] <;> rfl)|(simp [*,zU,zV] <;> rfl),by repeat(first|(with_reducible first|exact HB.out|apply zC|apply zB|apply zD|refine zF ?_ ah.out|refine zF ?_ au.out)|exact HB.out)⟩
 rw[if_pos aP]at H
 have aS:(t111==t106)=true:=beq_iff_eq.mpr aP
 have aT:(t111 != t106)=false:=bne_eq_false_iff_eq.mpr aP
 clear aP;replace H:=ydy.mp H
 obtain⟨t112,aY,H⟩:=H
 replace H:((qY.f k t107 t112).bind fun t115=>(if t115=true then(some true)else(some false)))=some r:=H
 have b0:=zA.mk aY
 clear aY;replace H:=ydy.mp H
 obtain⟨t115,aZ,H⟩:=H
 replace H:(if t115=true then(some true)else(some false))=some r:=H
 have b1:=zA.mk aZ
 clear aZ;by_cases bk:t115=true
 next=>
  subst bk;rw[if_pos rfl]at H
  obtain rfl:=yey H
  go_enter Try.func8,Try.ntmps8
  try go_wp2_with (first|((with_reducible refine zw (N:=2) rfl ?_);refine zz ?hg (N:=2) ?hd (cs:=#[.slice ai ae.length aj]) (t:=28) ?hr ?_;(case hd=>rfl);(case hg=>rfl);(case hr=>first|(go_simp;done)|(go_simp;rfl));intro ad hg cb hbox hb;have al:=zA.mk (zM (by repeat(first|(with_reducible first|exact HB.out|apply zC|apply zB|apply zD)|exact HB.out)) hb);have an:=zA.mk (hbox);have ao:=zA.mk ((by rw[hg];exact(zQ (by repeat(first|(with_reducible first|exact HB.out|apply zC|apply zB|apply zD)|exact HB.out))):w.heap.size≤ad));have ar:=zA.mk ((by rw[hg];exact(zQ (by repeat(first|(with_reducible first|exact HB.out|apply zC|apply zB|apply zD)|exact HB.out))):w.heap.size≤ad));clear HB;have HB:=al;have aa:=an;have aH:=ao;have ah:=ar;clear al an ao ar;clear hb hbox hg;have bl:cb.cell? ⟨ad,0,none⟩=some (.slice ai ae.length aj):=(zK aa.out 0).trans rfl;have bm:=zP aa.out 0)|((with_reducible refine zd (f:=16) rfl ?_);refine qV (some 11) rfl rfl Try.func16 (by kernel_rfl) rfl #[.agg #[.slice ai ae.length aj],.int .i64 1048576] rfl (by(try simp only [yiy,yjy,yky]);first|done|rfl|(simp only [yly,ymy];rfl)) ?_;(with_reducible refine(ZB.calls k _ _ ae 1048576 t102 _ ?side1 ?side2 A3.out).mono ?_);(case side1=>repeat(first|exact(Kd.qD ax.out HB.out)|(with_reducible refine Kd.zy ?_ _)|(with_reducible refine Kd.qA ?_ _)|(with_reducible refine Kd.qR ?_)));(case side2=>exact ay.out);rintro e cc ⟨rfl,hb⟩;refine⟨_,rfl,?_⟩;have al:=zA.mk (zO (g:=ad) (o := .cells #[.slice ai ae.length aj] 28 (0,0)) (by(with_reducible repeat(first|refine zH ?_ _|refine zJ ?_|refine zG ?_ _));exact aa.out) hb);have an:=zA.mk (zM (by repeat(first|(with_reducible first|exact HB.out|apply zC|apply zB|apply zD|refine zF ?_ ah.out)|exact HB.out)) hb);clear aa;clear HB;have aa:=al;have HB:=an;clear al an;(try clear hb);(try clear hb2);(try clear hk);(try clear hi);have bn:cc.cell? ⟨ad,0,none⟩=some (.slice ai ae.length aj):=(zK aa.out 0).trans rfl;have bo:=zP aa.out 0)|((with_reducible refine zd (f:=18) rfl ?_);refine qV (some 15) rfl rfl Try.func18 (by kernel_rfl) rfl #[.agg #[.slice ai ae.length aj]] rfl (by(try simp only [yiy,yjy,yky]);first|done|rfl|(simp only [yly,ymy];rfl)) ?_;(with_reducible refine(zo.calls k _ _ ae t103 _ ?side1 ?side2 A8.out).mono ?_);(case side1=>repeat(first|exact(Kd.qD ax.out HB.out)|(with_reducible refine Kd.zy ?_ _)|(with_reducible refine Kd.qA ?_ _)|(with_reducible refine Kd.qR ?_)));(case side2=>exact ay.out);rintro e cr ⟨aU,rfl,aA,hb⟩;refine⟨_,rfl,?_⟩;have al:=zA.mk (Kd.QA aA (zQ (by repeat(first|(with_reducible first|exact HB.out|apply zC|apply zB|apply zD|refine zF ?_ ah.out)|exact HB.out))));have an:=zA.mk (zO (g:=ad) (o := .cells #[.slice ai ae.length aj] 28 (0,0)) (by(with_reducible repeat(first|refine zH ?_ _|refine zJ ?_|refine zG ?_ _));exact aa.out) hb);have ao:=zA.mk (zM (by repeat(first|(with_reducible first|exact HB.out|apply zC|apply zB|apply zD|refine zF ?_ ah.out)|exact HB.out)) hb);clear aa;clear HB;have ab:=al;have aa:=an;have HB:=ao;clear al an ao;(try clear hb);(try clear hb2);(try clear hk);(try clear hi);(try clear aA);obtain⟨a2,a5,bK⟩:=Kd.QM ab.out;subst bK)|((with_reducible refine zd (f:=31) rfl ?_);refine qV (some 17) rfl rfl Try.func31 (by kernel_rfl) rfl #[.agg #[.slice a2 t103.length a5],.int .i64 a1] rfl (by(try simp only [yiy,yjy,yky]);first|done|rfl|(simp only [yly,ymy];rfl)) ?_;(with_reducible refine(Zl.calls k _ _ t103 a1 t106 _ ?side1 ?side2 A9.out).mono ?_);(case side1=>repeat(first|exact(Kd.ZF ab.out).2.2|(with_reducible refine Kd.zy ?_ _)|(with_reducible refine Kd.qA ?_ _)|(with_reducible refine Kd.qR ?_)));(case side2=>exact(Kd.ZF ab.out).2.1);rintro e cd ⟨rfl,hb⟩;refine⟨_,rfl,?_⟩;have al:=zA.mk (Kd.Zf (by(with_reducible repeat(first|apply Kd.zh|apply Kd.zi|apply Kd.zx));exact ab.out) hb);have an:=zA.mk (zO (g:=ad) (o := .cells #[.slice ai ae.length aj] 28 (0,0)) (by(with_reducible repeat(first|refine zH ?_ _|refine zJ ?_|refine zG ?_ _));exact aa.out) hb);have ao:=zA.mk (zM (by repeat(first|(with_reducible first|exact HB.out|apply zC|apply zB|apply zD|refine zF ?_ ah.out)|exact HB.out)) hb);clear ab;clear aa;clear HB;have ab:=al;have aa:=an;have HB:=ao;clear al an ao;(try clear hb);(try clear hb2);(try clear hk);(try clear hi);have bp:cd.cell? ⟨ad,0,none⟩=some (.slice ai ae.length aj):=(zK aa.out 0).trans rfl;have bq:=zP aa.out 0)|((with_reducible refine zd (f:=18) rfl ?_);refine qV (some 19) rfl rfl Try.func18 (by kernel_rfl) rfl #[.agg #[.slice ai ae.length aj]] rfl (by(try simp only [yiy,yjy,yky]);first|done|rfl|(simp only [yly,ymy];rfl)) ?_;(with_reducible refine(zo.calls k _ _ ae t107 _ ?side1 ?side2 bG.out).mono ?_);(case side1=>repeat(first|exact(Kd.qD ax.out HB.out)|(with_reducible refine Kd.zy ?_ _)|(with_reducible refine Kd.qA ?_ _)|(with_reducible refine Kd.qR ?_)));(case side2=>exact ay.out);rintro e ct ⟨aX,rfl,aA,hb⟩;refine⟨_,rfl,?_⟩;have al:=zA.mk (Kd.Zt (by(with_reducible repeat(first|apply Kd.zh|apply Kd.zi|apply Kd.zx));exact ab.out) (Kd.Jx aA) hb);have an:=zA.mk (Kd.QA (Kd.QL aA (Kd.zEX (by(with_reducible repeat(first|apply Kd.zh|apply Kd.zi|apply Kd.zx));exact ab.out))) (zQ (by repeat(first|(with_reducible first|exact HB.out|apply zC|apply zB|apply zD|refine zF ?_ ah.out)|exact HB.out))));have ao:=zA.mk (zO (g:=ad) (o := .cells #[.slice ai ae.length aj] 28 (0,0)) (by(with_reducible repeat(first|refine zH ?_ _|refine zJ ?_|refine zG ?_ _));exact aa.out) hb);have ar:=zA.mk (zM (by repeat(first|(with_reducible first|exact HB.out|apply zC|apply zB|apply zD|refine zF ?_ ah.out)|exact HB.out)) hb);clear ab;clear aa;clear HB;have ab:=al;have af:=an;have aa:=ao;have HB:=ar;clear al an ao ar;(try clear hb);(try clear hb2);(try clear hk);(try clear hi);(try clear aA))|((with_reducible refine zw (N:=7) rfl ?_);refine zz ?hg (N:=7) ?hd (cs:=#[.slice none 0 0]) (t:=35) ?hr ?_;(case hd=>rfl);(case hg=>rfl);(case hr=>first|(go_simp;done)|(go_simp;rfl));intro ak hg cf hbox hb;have al:=zA.mk (Kd.Zf (by(with_reducible repeat(first|apply Kd.zh|apply Kd.zi|apply Kd.zx));exact ab.out) hb);have an:=zA.mk (Kd.Zf (by(with_reducible repeat(first|apply Kd.zh|apply Kd.zi|apply Kd.zx));exact af.out) hb);have ao:=zA.mk (zO (g:=ad) (o := .cells #[.slice ai ae.length aj] 28 (0,0)) (by(with_reducible repeat(first|refine zH ?_ _|refine zJ ?_|refine zG ?_ _));exact aa.out) hb);have ar:=zA.mk (zM (by repeat(first|(with_reducible first|exact HB.out|apply zC|apply zB|apply zD|refine zF ?_ ah.out)|exact HB.out)) hb);have az:=zA.mk (hbox);have aD:=zA.mk ((by rw[hg];exact(zQ (by repeat(first|(with_reducible first|exact HB.out|apply zC|apply zB|apply zD|refine zF ?_ ah.out)|exact HB.out))):w.heap.size≤ak));have aL:=zA.mk ((by rw[hg];exact(zQ (by repeat(first|(with_reducible first|exact HB.out|apply zC|apply zB|apply zD|refine zF ?_ ah.out)|exact HB.out))):w.heap.size≤ak));have aM:=zA.mk ((by rw[hg];exact Nat.ne_of_lt (qT (g:=ad) (o := .cells #[.slice ai ae.length aj] 28 (0,0)) (by(with_reducible repeat(first|refine zH ?_ _|refine zJ ?_|refine zG ?_ _));exact aa.out)):ad≠ak));have aN:=zA.mk ((by rw[hg];exact Nat.ne_of_gt (qT (g:=ad) (o := .cells #[.slice ai ae.length aj] 28 (0,0)) (by(with_reducible repeat(first|refine zH ?_ _|refine zJ ?_|refine zG ?_ _));exact aa.out)):ak≠ad));clear ab;clear af;clear aa;clear HB;have ab:=al;have af:=an;have aa:=ao;have HB:=ar;have ag:=az;have aO:=aD;have au:=aL;have aq:=aM;have av:=aN;clear al an ao ar az aD aL aM aN;clear hb hbox hg;obtain⟨aE,aB,bL⟩:=Kd.QM af.out;subst bL;have b2:=av.out;have b3:=aq.out;have br:cf.cell? ⟨ak,0,none⟩=some (.slice none 0 0):=(zK ag.out 0).trans rfl;have bs:=zP ag.out 0)|((with_reducible refine zd (f:=32) rfl ?_);refine qV (some 22) rfl rfl Try.func32 (by kernel_rfl) rfl #[.agg #[.slice aE t107.length aB],.int .i64 a1] rfl (by(try simp only [yiy,yjy,yky]);first|done|rfl|(simp only [yly,ymy];rfl)) ?_;(with_reducible refine(ZT.calls k _ _ t107 a1 t111 _ ?side1 ?side2 bH.out).mono ?_);(case side1=>refine(Kd.ZF (e:=76) (base:=w.heap.size) (ok:=fun k_=>(True∧some k_≠(.slice a2 t103.length a5:Value).ownBlock)) (n:=t107.length) (c:=aB) ?_).2.2;exact(by(with_reducible repeat(first|apply Kd.zh|apply Kd.zi|apply Kd.zx));exact(Kd.ZC (Kd.QD (p:=⟨ak,0,none⟩) (Kd.Zo af.out ag.out (by decide)) (fun _ hk=>hk.2) (.slice aE t107.length aB)) (fun _ h_=>h_.1))));(case side2=>exact(Kd.ZF af.out).2.1);rintro e cg ⟨rfl,hb⟩;refine⟨_,rfl,?_⟩;have al:=zA.mk (Kd.Zf (by(with_reducible repeat(first|apply Kd.zh|apply Kd.zi|apply Kd.zx));exact(Kd.ZC (Kd.QD (p:=⟨ak,0,none⟩) (Kd.Zo ab.out ag.out (by decide)) (fun _ hk=>hk.2) (.slice aE t107.length aB)) (fun _ h_=>h_.1))) hb);have an:=zA.mk (Kd.Zf (by(with_reducible repeat(first|apply Kd.zh|apply Kd.zi|apply Kd.zx));exact(Kd.ZC (Kd.QD (p:=⟨ak,0,none⟩) (Kd.Zo af.out ag.out (by decide)) (fun _ hk=>hk.2) (.slice aE t107.length aB)) (fun _ h_=>h_.1))) hb);have ao:=zA.mk (zO (g:=ad) (o := .cells #[.slice ai ae.length aj] 28 (0,0)) (by(with_reducible repeat(first|refine zH ?_ _|refine zJ ?_|refine zG ?_ _));refine qJ ?_ aq.out _;(with_reducible repeat(first|refine zH ?_ _|refine zJ ?_|refine zG ?_ _));exact aa.out) hb);have ar:=zA.mk (zO (g:=ak) (o := .cells #[.slice aE t107.length aB] 35 (0,0)) (by(with_reducible repeat(first|refine zH ?_ _|refine zJ ?_|refine zG ?_ _));refine qf (cs:=#[.slice none 0 0]) ?_ 0 _ rfl;(with_reducible repeat(first|refine zH ?_ _|refine zJ ?_|refine zG ?_ _));exact ag.out) hb);have az:=zA.mk (zM (by repeat(first|(with_reducible first|exact HB.out|apply zC|apply zB|apply zD|refine zF ?_ ah.out|refine zF ?_ au.out)|exact HB.out)) hb);clear ab;clear af;clear aa;clear ag;clear HB;have ab:=al;have af:=an;have aa:=ao;have ag:=ar;have HB:=az;clear al an ao ar az;(try clear hb);(try clear hb2);(try clear hk);(try clear hi)))
  have al:=zA.mk (Kd.zx ab.out)
  have an:=zA.mk (Kd.zx af.out)
  have ao:=zA.mk (zJ aa.out)
  have ar:=zA.mk (zJ ag.out)
  have az:=zA.mk (zD HB.out)
  clear ab;clear af;clear aa;clear ag;clear HB;have ab:=al;have af:=an;have aa:=ao;have ag:=ar;have HB:=az;clear al an ao ar az;refine Zv (n:=5) (S:=fun w'=>w'.cell? ⟨ak,0,none⟩=some (.slice aE t107.length aB)∧w'.cell? ⟨ad,0,none⟩=some (.slice ai ae.length aj)) (ds := []) #[false,false,false,false,false] (by kernel_rfl) rfl rfl ⟨(zK ag.out 0).trans rfl,(zK aa.out 0).trans rfl⟩ (fun hHeld=>?_)
  generalize cg.drew=cu at ab af aa ag HB hHeld ⊢
  refine ZA (i:=0) (N:=some 26) (v:=?_) (a':=?_) #[true,false,false,false,false] rfl rfl (by kernel_rfl) (fun _ _ _ h=>h) (Or.inl ⟨by rfl,?_⟩) hHeld ?_ ?_
  rotate_left
  next=>
   rintro w' ⟨s0,s1⟩
   go_simp;with_reducible rfl
  rotate_left
  next=>
   simp only [Act.put,yay,yby,ycy,zX,za]
   rfl
  refine ZA (i:=1) (N:=some 27) (v:=?_) (a':=?_) #[true,true,false,false,false] rfl rfl (by kernel_rfl) (fun _ _ _ h=>h) (Or.inl ⟨by rfl,?_⟩) hHeld ?_ ?_
  rotate_left
  next=>
   rintro w' ⟨s0,s1⟩
   go_simp;with_reducible rfl
  rotate_left
  next=>
   simp only [Act.put,yay,yby,ycy,zX,za]
   rfl
  refine zA4 (i:=2) (N:=some 28) #[true,true,true,false,false] rfl rfl (by kernel_rfl) (by decide) (fun K hK=>?_)
  refine QO Try.func18 (by kernel_rfl) rfl #[.agg #[.slice ai ae.length aj]] (by rfl) rfl rfl (by(try simp only [yiy,yjy,yky]);first|done|rfl|(simp only [yly,ymy];rfl)) ?_
  with_reducible refine(zo.calls k _ _ ae t112 _ ?side1 ?side2 b0.out).mono ?_
  (case side1=>repeat(first|exact(Kd.qD ax.out HB.out)|(with_reducible refine Kd.zy ?_ _)|(with_reducible refine Kd.qA ?_ _)|(with_reducible refine Kd.qR ?_)))
  (case side2=>exact ay.out)
  rintro e cv ⟨bM,rfl,aA,hb⟩
  refine⟨_,rfl,?_⟩
  have al:=zA.mk (Kd.Zt (by(with_reducible repeat(first|apply Kd.zh|apply Kd.zi|apply Kd.zx));exact ab.out) (Kd.Jx aA) hb)
  have an:=zA.mk (Kd.Zt (by(with_reducible repeat(first|apply Kd.zh|apply Kd.zi|apply Kd.zx));exact af.out) (Kd.Jx aA) hb)
  have ao:=zA.mk (Kd.QA (Kd.QL (Kd.QL aA (Kd.zEX (by(with_reducible repeat(first|apply Kd.zh|apply Kd.zi|apply Kd.zx));exact ab.out))) (Kd.zEX (by(with_reducible repeat(first|apply Kd.zh|apply Kd.zi|apply Kd.zx));exact af.out))) (zQ (by repeat(first|(with_reducible first|exact HB.out|apply zC|apply zB|apply zD|refine zF ?_ ah.out|refine zF ?_ au.out)|exact HB.out))))
  have ar:=zA.mk (zO (g:=ad) (o := .cells #[.slice ai ae.length aj] 28 (0,0)) (by(with_reducible repeat(first|refine zH ?_ _|refine zJ ?_|refine zG ?_ _));exact aa.out) hb)
  have az:=zA.mk (zO (g:=ak) (o := .cells #[.slice aE t107.length aB] 35 (0,0)) (by(with_reducible repeat(first|refine zH ?_ _|refine zJ ?_|refine zG ?_ _));exact ag.out) hb)
  have aD:=zA.mk (zM (by repeat(first|(with_reducible first|exact HB.out|apply zC|apply zB|apply zD|refine zF ?_ ah.out|refine zF ?_ au.out)|exact HB.out)) hb)
  clear ab;clear af;clear aa;clear ag;clear HB;have ab:=al;have af:=an;have aw:=ao;have aa:=ar;have ag:=az;have HB:=aD;clear al an ao ar az aD
  (try clear hb)
  (try clear hb2)
  (try clear hk)
  (try clear hi)
  (try clear aA)
  obtain⟨bN,bO,a6⟩:=Kd.QM aw.out
  (first|subst a6|(injection a6 with f1_ f2_ f3_;have bP:=f1_.symm;have bQ:=f3_.symm;clear f1_ f2_ f3_;subst bP;subst bQ))
  refine hK.out _ _ ⟨(zK ag.out 0).trans rfl,(zK aa.out 0).trans rfl⟩ (fun hHeld=>?_)
  clear hK K;refine QE (a':=?_) ?_ ?_
  rotate_left
  next=>
   show Act.put _ (some 28) _=_
   simp only [Act.put,yay,yby,ycy,zX,za]
   rfl
  refine zA4 (i:=3) (N:=some 29) #[true,true,true,true,false] rfl rfl (by kernel_rfl) (by decide) (fun K hK=>?_)
  refine QO Try.func21 (by kernel_rfl) rfl #[.agg #[.slice aE t107.length aB],.agg #[.slice bN t112.length bO]] (by rfl) rfl rfl (by(try simp only [yiy,yjy,yky]);first|done|rfl|(simp only [yly,ymy];rfl)) ?_
  with_reducible refine(qY.calls k _ _ t107 _ _ t112 true _ ?side1 ?side2 ?side3 ?side4 b1.out).mono ?_
  (case side1=>repeat(first|exact(Kd.ZF af.out).2.2|(with_reducible refine Kd.zy ?_ _)|(with_reducible refine Kd.qA ?_ _)|(with_reducible refine Kd.qR ?_)))
  (case side2=>exact(Kd.ZF af.out).2.1)
  (case side3=>repeat(first|exact(Kd.ZF aw.out).2.2|(with_reducible refine Kd.zy ?_ _)|(with_reducible refine Kd.qA ?_ _)|(with_reducible refine Kd.qR ?_)))
  (case side4=>exact(Kd.ZF aw.out).2.1)
  rintro e cw ⟨rfl,hb⟩
  refine⟨_,rfl,?_⟩
  have al:=zA.mk (Kd.Zf (by(with_reducible repeat(first|apply Kd.zh|apply Kd.zi|apply Kd.zx));exact ab.out) hb)
  have an:=zA.mk (Kd.Zf (by(with_reducible repeat(first|apply Kd.zh|apply Kd.zi|apply Kd.zx));exact af.out) hb)
  have ao:=zA.mk (Kd.Zf (by(with_reducible repeat(first|apply Kd.zh|apply Kd.zi|apply Kd.zx));exact aw.out) hb)
  have ar:=zA.mk (zO (g:=ad) (o := .cells #[.slice ai ae.length aj] 28 (0,0)) (by(with_reducible repeat(first|refine zH ?_ _|refine zJ ?_|refine zG ?_ _));exact aa.out) hb)
  have az:=zA.mk (zO (g:=ak) (o := .cells #[.slice aE t107.length aB] 35 (0,0)) (by(with_reducible repeat(first|refine zH ?_ _|refine zJ ?_|refine zG ?_ _));exact ag.out) hb)
  have aD:=zA.mk (zM (by repeat(first|(with_reducible first|exact HB.out|apply zC|apply zB|apply zD|refine zF ?_ ah.out|refine zF ?_ au.out)|exact HB.out)) hb)
  clear ab;clear af;clear aw;clear aa;clear ag;clear HB;have ab:=al;have af:=an;have aw:=ao;have aa:=ar;have ag:=az;have HB:=aD;clear al an ao ar az aD
  (try clear hb)
  (try clear hb2)
  (try clear hk)
  (try clear hi)
  refine hK.out _ _ ⟨(zK ag.out 0).trans rfl,(zK aa.out 0).trans rfl⟩ (fun hHeld=>?_)
  clear hK K;refine QE (a':=?_) ?_ ?_
  rotate_left
  next=>
   show Act.put _ (some 29) _=_
   simp only [Act.put,yay,yby,ycy,zX,za]
   rfl
  refine zg (i:=4) (N:=some 30) (v:=?_) (a':=?_) #[true,true,true,true,true] rfl rfl (by kernel_rfl) (fun _ _ _ h=>h) (Or.inl ⟨by rfl,?_⟩) ?_ ?_
  rotate_left
  next=>
   intro w';go_simp;with_reducible rfl
  rotate_left
  next=>
   simp only [Act.put,yay,yby,ycy,zX,za]
   rfl
  refine Qo (by kernel_rfl) ?_
  try go_wp2
  go_ret;exact⟨by first|rfl|(simp [zU,zV] <;> rfl)|(simp [*,zU,zV] <;> rfl),by repeat(first|(with_reducible first|exact HB.out|apply zC|apply zB|apply zD|refine zF ?_ ah.out|refine zF ?_ au.out)|exact HB.out)⟩
 replace bk:=Bool.eq_false_iff.mpr bk
 subst bk;rw[if_neg (show ¬ (false=true)by decide)]at H
 obtain rfl:=yey H
 go_enter Try.func8,Try.ntmps8
 try go_wp2_with (first|((with_reducible refine zw (N:=2) rfl ?_);refine zz ?hg (N:=2) ?hd (cs:=#[.slice ai ae.length aj]) (t:=28) ?hr ?_;(case hd=>rfl);(case hg=>rfl);(case hr=>first|(go_simp;done)|(go_simp;rfl));intro ad hg ch hbox hb;have al:=zA.mk (zM (by repeat(first|(with_reducible first|exact HB.out|apply zC|apply zB|apply zD)|exact HB.out)) hb);have an:=zA.mk (hbox);have ao:=zA.mk ((by rw[hg];exact(zQ (by repeat(first|(with_reducible first|exact HB.out|apply zC|apply zB|apply zD)|exact HB.out))):w.heap.size≤ad));have ar:=zA.mk ((by rw[hg];exact(zQ (by repeat(first|(with_reducible first|exact HB.out|apply zC|apply zB|apply zD)|exact HB.out))):w.heap.size≤ad));clear HB;have HB:=al;have aa:=an;have aH:=ao;have ah:=ar;clear al an ao ar;clear hb hbox hg;have bt:ch.cell? ⟨ad,0,none⟩=some (.slice ai ae.length aj):=(zK aa.out 0).trans rfl;have bu:=zP aa.out 0)|((with_reducible refine zd (f:=16) rfl ?_);refine qV (some 11) rfl rfl Try.func16 (by kernel_rfl) rfl #[.agg #[.slice ai ae.length aj],.int .i64 1048576] rfl (by(try simp only [yiy,yjy,yky]);first|done|rfl|(simp only [yly,ymy];rfl)) ?_;(with_reducible refine(ZB.calls k _ _ ae 1048576 t102 _ ?side1 ?side2 A3.out).mono ?_);(case side1=>repeat(first|exact(Kd.qD ax.out HB.out)|(with_reducible refine Kd.zy ?_ _)|(with_reducible refine Kd.qA ?_ _)|(with_reducible refine Kd.qR ?_)));(case side2=>exact ay.out);rintro e cj ⟨rfl,hb⟩;refine⟨_,rfl,?_⟩;have al:=zA.mk (zO (g:=ad) (o := .cells #[.slice ai ae.length aj] 28 (0,0)) (by(with_reducible repeat(first|refine zH ?_ _|refine zJ ?_|refine zG ?_ _));exact aa.out) hb);have an:=zA.mk (zM (by repeat(first|(with_reducible first|exact HB.out|apply zC|apply zB|apply zD|refine zF ?_ ah.out)|exact HB.out)) hb);clear aa;clear HB;have aa:=al;have HB:=an;clear al an;(try clear hb);(try clear hb2);(try clear hk);(try clear hi);have bw:cj.cell? ⟨ad,0,none⟩=some (.slice ai ae.length aj):=(zK aa.out 0).trans rfl;have bx:=zP aa.out 0)|((with_reducible refine zd (f:=18) rfl ?_);refine qV (some 15) rfl rfl Try.func18 (by kernel_rfl) rfl #[.agg #[.slice ai ae.length aj]] rfl (by(try simp only [yiy,yjy,yky]);first|done|rfl|(simp only [yly,ymy];rfl)) ?_;(with_reducible refine(zo.calls k _ _ ae t103 _ ?side1 ?side2 A8.out).mono ?_);(case side1=>repeat(first|exact(Kd.qD ax.out HB.out)|(with_reducible refine Kd.zy ?_ _)|(with_reducible refine Kd.qA ?_ _)|(with_reducible refine Kd.qR ?_)));(case side2=>exact ay.out);rintro e cx ⟨aU,rfl,aA,hb⟩;refine⟨_,rfl,?_⟩;have al:=zA.mk (Kd.QA aA (zQ (by repeat(first|(with_reducible first|exact HB.out|apply zC|apply zB|apply zD|refine zF ?_ ah.out)|exact HB.out))));have an:=zA.mk (zO (g:=ad) (o := .cells #[.slice ai ae.length aj] 28 (0,0)) (by(with_reducible repeat(first|refine zH ?_ _|refine zJ ?_|refine zG ?_ _));exact aa.out) hb);have ao:=zA.mk (zM (by repeat(first|(with_reducible first|exact HB.out|apply zC|apply zB|apply zD|refine zF ?_ ah.out)|exact HB.out)) hb);clear aa;clear HB;have ab:=al;have aa:=an;have HB:=ao;clear al an ao;(try clear hb);(try clear hb2);(try clear hk);(try clear hi);(try clear aA);obtain⟨a7,a8,bR⟩:=Kd.QM ab.out;subst bR)|((with_reducible refine zd (f:=31) rfl ?_);refine qV (some 17) rfl rfl Try.func31 (by kernel_rfl) rfl #[.agg #[.slice a7 t103.length a8],.int .i64 a1] rfl (by(try simp only [yiy,yjy,yky]);first|done|rfl|(simp only [yly,ymy];rfl)) ?_;(with_reducible refine(Zl.calls k _ _ t103 a1 t106 _ ?side1 ?side2 A9.out).mono ?_);(case side1=>repeat(first|exact(Kd.ZF ab.out).2.2|(with_reducible refine Kd.zy ?_ _)|(with_reducible refine Kd.qA ?_ _)|(with_reducible refine Kd.qR ?_)));(case side2=>exact(Kd.ZF ab.out).2.1);rintro e ck ⟨rfl,hb⟩;refine⟨_,rfl,?_⟩;have al:=zA.mk (Kd.Zf (by(with_reducible repeat(first|apply Kd.zh|apply Kd.zi|apply Kd.zx));exact ab.out) hb);have an:=zA.mk (zO (g:=ad) (o := .cells #[.slice ai ae.length aj] 28 (0,0)) (by(with_reducible repeat(first|refine zH ?_ _|refine zJ ?_|refine zG ?_ _));exact aa.out) hb);have ao:=zA.mk (zM (by repeat(first|(with_reducible first|exact HB.out|apply zC|apply zB|apply zD|refine zF ?_ ah.out)|exact HB.out)) hb);clear ab;clear aa;clear HB;have ab:=al;have aa:=an;have HB:=ao;clear al an ao;(try clear hb);(try clear hb2);(try clear hk);(try clear hi);have bz:ck.cell? ⟨ad,0,none⟩=some (.slice ai ae.length aj):=(zK aa.out 0).trans rfl;have bA:=zP aa.out 0)|((with_reducible refine zd (f:=18) rfl ?_);refine qV (some 19) rfl rfl Try.func18 (by kernel_rfl) rfl #[.agg #[.slice ai ae.length aj]] rfl (by(try simp only [yiy,yjy,yky]);first|done|rfl|(simp only [yly,ymy];rfl)) ?_;(with_reducible refine(zo.calls k _ _ ae t107 _ ?side1 ?side2 bG.out).mono ?_);(case side1=>repeat(first|exact(Kd.qD ax.out HB.out)|(with_reducible refine Kd.zy ?_ _)|(with_reducible refine Kd.qA ?_ _)|(with_reducible refine Kd.qR ?_)));(case side2=>exact ay.out);rintro e cy ⟨aX,rfl,aA,hb⟩;refine⟨_,rfl,?_⟩;have al:=zA.mk (Kd.Zt (by(with_reducible repeat(first|apply Kd.zh|apply Kd.zi|apply Kd.zx));exact ab.out) (Kd.Jx aA) hb);have an:=zA.mk (Kd.QA (Kd.QL aA (Kd.zEX (by(with_reducible repeat(first|apply Kd.zh|apply Kd.zi|apply Kd.zx));exact ab.out))) (zQ (by repeat(first|(with_reducible first|exact HB.out|apply zC|apply zB|apply zD|refine zF ?_ ah.out)|exact HB.out))));have ao:=zA.mk (zO (g:=ad) (o := .cells #[.slice ai ae.length aj] 28 (0,0)) (by(with_reducible repeat(first|refine zH ?_ _|refine zJ ?_|refine zG ?_ _));exact aa.out) hb);have ar:=zA.mk (zM (by repeat(first|(with_reducible first|exact HB.out|apply zC|apply zB|apply zD|refine zF ?_ ah.out)|exact HB.out)) hb);clear ab;clear aa;clear HB;have ab:=al;have af:=an;have aa:=ao;have HB:=ar;clear al an ao ar;(try clear hb);(try clear hb2);(try clear hk);(try clear hi);(try clear aA))|((with_reducible refine zw (N:=7) rfl ?_);refine zz ?hg (N:=7) ?hd (cs:=#[.slice none 0 0]) (t:=35) ?hr ?_;(case hd=>rfl);(case hg=>rfl);(case hr=>first|(go_simp;done)|(go_simp;rfl));intro ak hg cl hbox hb;have al:=zA.mk (Kd.Zf (by(with_reducible repeat(first|apply Kd.zh|apply Kd.zi|apply Kd.zx));exact ab.out) hb);have an:=zA.mk (Kd.Zf (by(with_reducible repeat(first|apply Kd.zh|apply Kd.zi|apply Kd.zx));exact af.out) hb);have ao:=zA.mk (zO (g:=ad) (o := .cells #[.slice ai ae.length aj] 28 (0,0)) (by(with_reducible repeat(first|refine zH ?_ _|refine zJ ?_|refine zG ?_ _));exact aa.out) hb);have ar:=zA.mk (zM (by repeat(first|(with_reducible first|exact HB.out|apply zC|apply zB|apply zD|refine zF ?_ ah.out)|exact HB.out)) hb);have az:=zA.mk (hbox);have aD:=zA.mk ((by rw[hg];exact(zQ (by repeat(first|(with_reducible first|exact HB.out|apply zC|apply zB|apply zD|refine zF ?_ ah.out)|exact HB.out))):w.heap.size≤ak));have aL:=zA.mk ((by rw[hg];exact(zQ (by repeat(first|(with_reducible first|exact HB.out|apply zC|apply zB|apply zD|refine zF ?_ ah.out)|exact HB.out))):w.heap.size≤ak));have aM:=zA.mk ((by rw[hg];exact Nat.ne_of_lt (qT (g:=ad) (o := .cells #[.slice ai ae.length aj] 28 (0,0)) (by(with_reducible repeat(first|refine zH ?_ _|refine zJ ?_|refine zG ?_ _));exact aa.out)):ad≠ak));have aN:=zA.mk ((by rw[hg];exact Nat.ne_of_gt (qT (g:=ad) (o := .cells #[.slice ai ae.length aj] 28 (0,0)) (by(with_reducible repeat(first|refine zH ?_ _|refine zJ ?_|refine zG ?_ _));exact aa.out)):ak≠ad));clear ab;clear af;clear aa;clear HB;have ab:=al;have af:=an;have aa:=ao;have HB:=ar;have ag:=az;have aO:=aD;have au:=aL;have aq:=aM;have av:=aN;clear al an ao ar az aD aL aM aN;clear hb hbox hg;obtain⟨aF,aC,bS⟩:=Kd.QM af.out;subst bS;have b4:=av.out;have b5:=aq.out;have bB:cl.cell? ⟨ak,0,none⟩=some (.slice none 0 0):=(zK ag.out 0).trans rfl;have bC:=zP ag.out 0)|((with_reducible refine zd (f:=32) rfl ?_);refine qV (some 22) rfl rfl Try.func32 (by kernel_rfl) rfl #[.agg #[.slice aF t107.length aC],.int .i64 a1] rfl (by(try simp only [yiy,yjy,yky]);first|done|rfl|(simp only [yly,ymy];rfl)) ?_;(with_reducible refine(ZT.calls k _ _ t107 a1 t111 _ ?side1 ?side2 bH.out).mono ?_);(case side1=>refine(Kd.ZF (e:=76) (base:=w.heap.size) (ok:=fun k_=>(True∧some k_≠(.slice a7 t103.length a8:Value).ownBlock)) (n:=t107.length) (c:=aC) ?_).2.2;exact(by(with_reducible repeat(first|apply Kd.zh|apply Kd.zi|apply Kd.zx));exact(Kd.ZC (Kd.QD (p:=⟨ak,0,none⟩) (Kd.Zo af.out ag.out (by decide)) (fun _ hk=>hk.2) (.slice aF t107.length aC)) (fun _ h_=>h_.1))));(case side2=>exact(Kd.ZF af.out).2.1);rintro e cm ⟨rfl,hb⟩;refine⟨_,rfl,?_⟩;have al:=zA.mk (Kd.Zf (by(with_reducible repeat(first|apply Kd.zh|apply Kd.zi|apply Kd.zx));exact(Kd.ZC (Kd.QD (p:=⟨ak,0,none⟩) (Kd.Zo ab.out ag.out (by decide)) (fun _ hk=>hk.2) (.slice aF t107.length aC)) (fun _ h_=>h_.1))) hb);have an:=zA.mk (Kd.Zf (by(with_reducible repeat(first|apply Kd.zh|apply Kd.zi|apply Kd.zx));exact(Kd.ZC (Kd.QD (p:=⟨ak,0,none⟩) (Kd.Zo af.out ag.out (by decide)) (fun _ hk=>hk.2) (.slice aF t107.length aC)) (fun _ h_=>h_.1))) hb);have ao:=zA.mk (zO (g:=ad) (o := .cells #[.slice ai ae.length aj] 28 (0,0)) (by(with_reducible repeat(first|refine zH ?_ _|refine zJ ?_|refine zG ?_ _));refine qJ ?_ aq.out _;(with_reducible repeat(first|refine zH ?_ _|refine zJ ?_|refine zG ?_ _));exact aa.out) hb);have ar:=zA.mk (zO (g:=ak) (o := .cells #[.slice aF t107.length aC] 35 (0,0)) (by(with_reducible repeat(first|refine zH ?_ _|refine zJ ?_|refine zG ?_ _));refine qf (cs:=#[.slice none 0 0]) ?_ 0 _ rfl;(with_reducible repeat(first|refine zH ?_ _|refine zJ ?_|refine zG ?_ _));exact ag.out) hb);have az:=zA.mk (zM (by repeat(first|(with_reducible first|exact HB.out|apply zC|apply zB|apply zD|refine zF ?_ ah.out|refine zF ?_ au.out)|exact HB.out)) hb);clear ab;clear af;clear aa;clear ag;clear HB;have ab:=al;have af:=an;have aa:=ao;have ag:=ar;have HB:=az;clear al an ao ar az;(try clear hb);(try clear hb2);(try clear hk);(try clear hi)))
 have al:=zA.mk (Kd.zx ab.out)
 have an:=zA.mk (Kd.zx af.out)
 have ao:=zA.mk (zJ aa.out)
 have ar:=zA.mk (zJ ag.out)
 have az:=zA.mk (zD HB.out)
 clear ab;clear af;clear aa;clear ag;clear HB;have ab:=al;have af:=an;have aa:=ao;have ag:=ar;have HB:=az;clear al an ao ar az;refine Zv (n:=5) (S:=fun w'=>w'.cell? ⟨ak,0,none⟩=some (.slice aF t107.length aC)∧w'.cell? ⟨ad,0,none⟩=some (.slice ai ae.length aj)) (ds := []) #[false,false,false,false,false] (by kernel_rfl) rfl rfl ⟨(zK ag.out 0).trans rfl,(zK aa.out 0).trans rfl⟩ (fun hHeld=>?_)
 generalize cm.drew=cz at ab af aa ag HB hHeld ⊢
 refine ZA (i:=0) (N:=some 26) (v:=?_) (a':=?_) #[true,false,false,false,false] rfl rfl (by kernel_rfl) (fun _ _ _ h=>h) (Or.inl ⟨by rfl,?_⟩) hHeld ?_ ?_
 rotate_left
 next=>
  rintro w' ⟨s0,s1⟩
  go_simp;with_reducible rfl
 rotate_left
 next=>
  simp only [Act.put,yay,yby,ycy,zX,za]
  rfl
 refine ZA (i:=1) (N:=some 27) (v:=?_) (a':=?_) #[true,true,false,false,false] rfl rfl (by kernel_rfl) (fun _ _ _ h=>h) (Or.inl ⟨by rfl,?_⟩) hHeld ?_ ?_
 rotate_left
 next=>
  rintro w' ⟨s0,s1⟩
  go_simp;with_reducible rfl
 rotate_left
 next=>
  simp only [Act.put,yay,yby,ycy,zX,za]
  rfl
 refine zA4 (i:=2) (N:=some 28) #[true,true,true,false,false] rfl rfl (by kernel_rfl) (by decide) (fun K hK=>?_)
 refine QO Try.func18 (by kernel_rfl) rfl #[.agg #[.slice ai ae.length aj]] (by rfl) rfl rfl (by(try simp only [yiy,yjy,yky]);first|done|rfl|(simp only [yly,ymy];rfl)) ?_
 with_reducible refine(zo.calls k _ _ ae t112 _ ?side1 ?side2 b0.out).mono ?_
 (case side1=>repeat(first|exact(Kd.qD ax.out HB.out)|(with_reducible refine Kd.zy ?_ _)|(with_reducible refine Kd.qA ?_ _)|(with_reducible refine Kd.qR ?_)))
 (case side2=>exact ay.out)
 rintro e cA ⟨bM,rfl,aA,hb⟩
 refine⟨_,rfl,?_⟩
 have al:=zA.mk (Kd.Zt (by(with_reducible repeat(first|apply Kd.zh|apply Kd.zi|apply Kd.zx));exact ab.out) (Kd.Jx aA) hb)
 have an:=zA.mk (Kd.Zt (by(with_reducible repeat(first|apply Kd.zh|apply Kd.zi|apply Kd.zx));exact af.out) (Kd.Jx aA) hb)
 have ao:=zA.mk (Kd.QA (Kd.QL (Kd.QL aA (Kd.zEX (by(with_reducible repeat(first|apply Kd.zh|apply Kd.zi|apply Kd.zx));exact ab.out))) (Kd.zEX (by(with_reducible repeat(first|apply Kd.zh|apply Kd.zi|apply Kd.zx));exact af.out))) (zQ (by repeat(first|(with_reducible first|exact HB.out|apply zC|apply zB|apply zD|refine zF ?_ ah.out|refine zF ?_ au.out)|exact HB.out))))
 have ar:=zA.mk (zO (g:=ad) (o := .cells #[.slice ai ae.length aj] 28 (0,0)) (by(with_reducible repeat(first|refine zH ?_ _|refine zJ ?_|refine zG ?_ _));exact aa.out) hb)
 have az:=zA.mk (zO (g:=ak) (o := .cells #[.slice aF t107.length aC] 35 (0,0)) (by(with_reducible repeat(first|refine zH ?_ _|refine zJ ?_|refine zG ?_ _));exact ag.out) hb)
 have aD:=zA.mk (zM (by repeat(first|(with_reducible first|exact HB.out|apply zC|apply zB|apply zD|refine zF ?_ ah.out|refine zF ?_ au.out)|exact HB.out)) hb)
 clear ab;clear af;clear aa;clear ag;clear HB;have ab:=al;have af:=an;have aw:=ao;have aa:=ar;have ag:=az;have HB:=aD;clear al an ao ar az aD
 (try clear hb)
 (try clear hb2)
 (try clear hk)
 (try clear hi)
 (try clear aA)
 obtain⟨bT,bU,a_⟩:=Kd.QM aw.out
 (first|subst a_|(injection a_ with f1_ f2_ f3_;have bP:=f1_.symm;have bQ:=f3_.symm;clear f1_ f2_ f3_;subst bP;subst bQ))
 refine hK.out _ _ ⟨(zK ag.out 0).trans rfl,(zK aa.out 0).trans rfl⟩ (fun hHeld=>?_)
 clear hK K;refine QE (a':=?_) ?_ ?_
 rotate_left
 next=>
  show Act.put _ (some 28) _=_
  simp only [Act.put,yay,yby,ycy,zX,za]
  rfl
 refine zA4 (i:=3) (N:=some 29) #[true,true,true,true,false] rfl rfl (by kernel_rfl) (by decide) (fun K hK=>?_)
 refine QO Try.func21 (by kernel_rfl) rfl #[.agg #[.slice aF t107.length aC],.agg #[.slice bT t112.length bU]] (by rfl) rfl rfl (by(try simp only [yiy,yjy,yky]);first|done|rfl|(simp only [yly,ymy];rfl)) ?_
 with_reducible refine(qY.calls k _ _ t107 _ _ t112 false _ ?side1 ?side2 ?side3 ?side4 b1.out).mono ?_
 (case side1=>repeat(first|exact(Kd.ZF af.out).2.2|(with_reducible refine Kd.zy ?_ _)|(with_reducible refine Kd.qA ?_ _)|(with_reducible refine Kd.qR ?_)))
 (case side2=>exact(Kd.ZF af.out).2.1)
 (case side3=>repeat(first|exact(Kd.ZF aw.out).2.2|(with_reducible refine Kd.zy ?_ _)|(with_reducible refine Kd.qA ?_ _)|(with_reducible refine Kd.qR ?_)))
 (case side4=>exact(Kd.ZF aw.out).2.1)
 rintro e cB ⟨rfl,hb⟩
 refine⟨_,rfl,?_⟩
 have al:=zA.mk (Kd.Zf (by(with_reducible repeat(first|apply Kd.zh|apply Kd.zi|apply Kd.zx));exact ab.out) hb)
 have an:=zA.mk (Kd.Zf (by(with_reducible repeat(first|apply Kd.zh|apply Kd.zi|apply Kd.zx));exact af.out) hb)
 have ao:=zA.mk (Kd.Zf (by(with_reducible repeat(first|apply Kd.zh|apply Kd.zi|apply Kd.zx));exact aw.out) hb)
 have ar:=zA.mk (zO (g:=ad) (o := .cells #[.slice ai ae.length aj] 28 (0,0)) (by(with_reducible repeat(first|refine zH ?_ _|refine zJ ?_|refine zG ?_ _));exact aa.out) hb)
 have az:=zA.mk (zO (g:=ak) (o := .cells #[.slice aF t107.length aC] 35 (0,0)) (by(with_reducible repeat(first|refine zH ?_ _|refine zJ ?_|refine zG ?_ _));exact ag.out) hb)
 have aD:=zA.mk (zM (by repeat(first|(with_reducible first|exact HB.out|apply zC|apply zB|apply zD|refine zF ?_ ah.out|refine zF ?_ au.out)|exact HB.out)) hb)
 clear ab;clear af;clear aw;clear aa;clear ag;clear HB;have ab:=al;have af:=an;have aw:=ao;have aa:=ar;have ag:=az;have HB:=aD;clear al an ao ar az aD
 (try clear hb)
 (try clear hb2)
 (try clear hk)
 (try clear hi)
 refine hK.out _ _ ⟨(zK ag.out 0).trans rfl,(zK aa.out 0).trans rfl⟩ (fun hHeld=>?_)
 clear hK K;refine QE (a':=?_) ?_ ?_
 rotate_left
 next=>
  show Act.put _ (some 29) _=_
  simp only [Act.put,yay,yby,ycy,zX,za]
  rfl
 refine zg (i:=4) (N:=some 30) (v:=?_) (a':=?_) #[true,true,true,true,true] rfl rfl (by kernel_rfl) (fun _ _ _ h=>h) (Or.inl ⟨by rfl,?_⟩) ?_ ?_
 rotate_left
 next=>
  intro w';go_simp;with_reducible rfl
 rotate_left
 next=>
  simp only [Act.put,yay,yby,ycy,zX,za]
  rfl
 refine Qo (by kernel_rfl) ?_
 try go_wp2
 go_ret;exact⟨by first|rfl|(simp [zU,zV] <;> rfl)|(simp [*,zU,zV] <;> rfl),by repeat(first|(with_reducible first|exact HB.out|apply zC|apply zB|apply zD|refine zF ?_ ah.out|refine zF ?_ au.out)|exact HB.out)⟩
end Go.Proofs.Ytembbpalgfikiaa.P
namespace Go.Proofs.Ytembbpalgfikiaa.P
open Go.RowKit Go.Proofs.YtembbpalgfikiaaW.PrintWords Go.Proofs.Ytembbpalgfikiaa.Lib
set_option linter.unusedVariables false
theorem zBT (a b c:Int):qv.f a b c=some (decide (b≤a)&&decide (a≤c)):=by
  unfold qv.f
  by_cases h:b≤a <;> simp [h]
theorem zHs (a b c:Int):Qg.f a b c=some (decide (b≤a)&&decide (a≤c)):=by
  unfold Qg.f
  by_cases h:b≤a <;> simp [h]
theorem zEp (a:Int):qp.f a=some (decide (0≤a)&&decide (a≤23)):=by
  unfold qp.f
  by_cases h:0≤a
  · rw[if_pos h];simp [h];omega
  · rw[if_neg h];simp [h]
theorem zGq (a:Int):QT.f a=some (decide (0≤a)&&decide (a≤23)):=by
  unfold QT.f;rw[zBT];rfl
theorem zEB {p:Int} (h0:0≤p) (h1:p≤23) : ∃ m:Fin 24,p=(m.val:Int):=⟨⟨p.toNat,by omega⟩,by simp;omega⟩
theorem zEC {p:Int} (h0:0≤p) (h1:p≤23):Ev (fun k=>zW.f k p) (qP p):=by
  obtain⟨m,rfl⟩:=zEB h0 h1
  have key : ∀ m:Fin 24,zW.f 5 (m.val:Int)=some (qP (m.val:Int)):=by decide +kernel
  exact Ev.of (fun k=>zW.mono _ k) (key m)
theorem zGr (p:Int):(qP p).length=4:=rfl
theorem Zg {p f:Int} (h0:0≤p) (h1:p≤23) (aa:0≤f) (ab:f≤3):0≤rd (qP p) f∧rd (qP p) f≤3:=by
  obtain⟨a,b,c,d⟩:=Ja p h0 h1
  exact JW a b c d f aa ab
theorem zAg {p f:Int} (h0:0≤p) (h1:p≤23) (aa:0≤f) (ab:f≤3):Ev (fun k=>qi.f k p f) (rd (qP p) f):=by
  refine Ev.bind (zEC h0 h1) ?_
  exact ZJ aa (ZJ (by rw[zGr];omega) (Ev.now _))
theorem zG2 {p:Int} (h0:0≤p) (h1:p≤23):Ev (fun k=>qM.f k p) (zEm p):=by
  obtain⟨m,rfl⟩:=zEB h0 h1
  have key : ∀ m:Fin 24,qM.f 40 (m.val:Int)=some (zEm (m.val:Int)):=by decide +kernel
  exact Ev.of (fun k=>qM.mono _ k) (key m)
theorem zGs {q p f:Int} (h0:0≤p) (h1:p≤23) (aa:0≤f) (ab:f≤3):ZS.f q p f=some (rd (qP p) f):=if_pos ⟨h0,h1,aa,ab⟩
theorem zG3 {q p a:Int} (h0:0≤p) (h1:p≤23):ZH.f q p a=some (a,zEm p):=by
  unfold ZH.f Qq.f
  rw[if_pos ⟨h0,h1⟩];rfl
abbrev Tri:=List (List zv)
def Small (t:Tri):Prop:=t.length≤1048576 ∧ ∀ r∈t,r.length≤1048576
def zFU (t:List (List qZ)):Prop:=t.length≤1048576 ∧ ∀ r∈t,r.length≤1048576
def Fits (t:List (List qZ)):Prop:=t.length≤9223372036854775807 ∧ ∀ r∈t,r.length≤9223372036854775807
theorem Jr (t:List (List qZ)) (n:Nat) (h:n<t.length):Zb t (n:Int)=t[n]:=by simp [Zb,h]
theorem Qr (t:Tri) (n:Nat) (h:n<t.length):zE t (n:Int)=t[n]:=by simp [zE,h]
theorem zDQ (t:List qZ) (n:Nat) (h:n<t.length):QV t (n:Int)=t[n]:=by simp [QV,h]
theorem zAh (t:List zv) (n:Nat) (h:n<t.length):zI t (n:Int)=t[n]:=by simp [zI,h]
theorem zCq (r:List qZ) (a:Int) (h0:0≤a) (h1:a≤1048576) (h:r.length≤9223372036854775807):Qc.f r a=some (if a-r.length<0 then -1 else a-r.length):=by
  unfold Qc.f
  rw[ql (by omega) (by omega)]
  split <;> rfl
theorem zEq (t:List (List qZ)) (h:Fits t) (hl:t.length≤1048576) : ∃ r,Ev (fun k=>qa.l0 k t (1048576-t.length) 0) r∧(0≤r → ∀ x∈t,x.length≤1048576):=by
  have key : ∀ d n:Nat,∀ a:Int,n+d=t.length→0≤a→a≤1048576 → ∃ r,Ev (fun k=>qa.l0 k t a (n:Int)) r∧(0≤r → ∀ x∈t.drop n,x.length≤1048576):=by
    intro d;induction d with
    | zero=>
      intro n a hn h0 h1
      refine⟨a,qW (f:=fun _=>some a) (fun k=>?_) (Ev.now a),fun _ x hx=>?_⟩
      · simp only [qa.l0];rw[if_neg (by omega)]
      · rw[List.drop_eq_nil_of_le (by omega)]at hx;cases hx
    | succ d ih=>
      intro n a hn h0 h1
      have hlt:n<t.length:=by omega
      have hf:=h.2 t[n] (yoy hlt)
      by_cases hc:a-t[n].length<0
      · refine⟨-1,qW (f:=fun _=>some (-1)) (fun k=>?_) (Ev.now (-1)),fun h=>by omega⟩
        simp only [qa.l0]
        rw[if_pos (by omega),if_pos (by omega),Jr t n hlt,zCq _ a h0 h1 hf,yfy,if_pos hc]
        rfl
      · obtain⟨r,hr,aa⟩:=ih (n+1) (a-t[n].length) (by omega) (by omega) (by omega)
        refine⟨r,qW (fun k=>?_) hr,fun h x hx=>?_⟩
        · simp only [qa.l0]
          rw[if_pos (by omega),if_pos (by omega),Jr t n hlt,zCq _ a h0 h1 hf,yfy,if_neg hc,if_neg (by omega),Zc (by omega)]
        · rw[ypy hlt]at hx
          rcases List.mem_cons.1 hx with rfl|hx
          · omega
          · exact aa h x hx
  obtain⟨r,hr,aa⟩:=key t.length 0 (1048576-t.length) (by omega) (by omega) (by omega)
  exact⟨r,hr,fun h=>by have:=aa h;rwa [List.drop_zero]at this⟩
theorem zBE (t:List (List qZ)) (h:Fits t) : ∃ r,Ev (fun k=>ZB.f k t 1048576) r∧(¬ r<0→zFU t):=by
  by_cases hl:(1048576-(t.length:Int))<0
  · refine⟨-1,?_,fun h=>by omega⟩
    refine Ev.bind (a := -1) (zE2 (fun k=>?_)) (ZJ (by omega) (Ev.now _))
    unfold qa.f
    have:=h.1
    rw[ql (by omega) (by omega),if_pos hl]
  · obtain⟨r,hr,aa⟩:=zEq t h (by omega)
    have h2:Ev (fun k=>qa.f k t 1048576) r:=by
      refine Ev.congr (fun k=>?_) hr
      unfold qa.f
      rw[ql (by omega) (by omega),if_neg hl]
    by_cases hn:r<0
    · exact⟨-1,Ev.bind h2 (ZJ hn (Ev.now _)),fun h=>by omega⟩
    · exact⟨r,Ev.bind h2 (Qi hn (Ev.now _)),fun _=>⟨by omega,aa (by omega)⟩⟩
def cvF (x:qZ):zv:=⟨x.f0,x.f1⟩
def cvR (r:List qZ):List zv:=r.map cvF
def cvT (t:List (List qZ)):Tri:=t.map cvR
theorem zGt {t:List (List qZ)} (h:zFU t):Small (cvT t):=by
  refine⟨by simp [cvT];exact h.1,fun r hr=>?_⟩
  obtain⟨s,hs,rfl⟩:=List.mem_map.1 hr
  simp [cvR];exact h.2 s hs
theorem zBk {α β:Type} (f : α → β) (l:List α) (z : β) (n:Nat) (h:n<l.length) :
    ((l.take n).map f++List.replicate (l.length-n) z).set n (f l[n])=(l.take (n+1)).map f++List.replicate (l.length-(n+1)) z:=by
  have e:l.length-n=(l.length-(n+1))+1:=by omega
  rw[e,List.replicate_succ,List.set_append_right _ _ (by simp;omega)]
  have:n-((l.take n).map f).length=0:=by simp;omega
  rw[this,yby,List.take_succ_eq_append_getElem h,List.map_append,List.append_assoc]
  rfl
theorem zG4 (l:List qZ) (h:l.length≤1048576):Ev (fun k=>qn.f k l) (cvR l):=by
  have hl:Ev (fun k=>qn.l0 k l (List.replicate l.length zB9) 0) (cvR l):=by
    refine zFE (fun k (s:List zv × Int)=>qn.l0 k l s.1 s.2) (fun s => ∃ n:Nat,n≤l.length∧s.2=n∧s.1=(l.take n).map cvF++List.replicate (l.length-n) zB9) (fun s=>l.length-s.2.toNat) (fun _=>cvR l) ?_ (List.replicate l.length zB9,0) ⟨0,by omega,rfl,by simp⟩
    rintro⟨a,i⟩ ⟨n,hn,rfl,rfl⟩
    dsimp only
    by_cases hlt:n<l.length
    · refine .inr ⟨((l.take (n+1)).map cvF++List.replicate (l.length-(n+1)) zB9,((n+1:Nat):Int)),⟨n+1,by omega,rfl,rfl⟩,by simp;omega,rfl,fun k=>?_⟩
      simp only [qn.l0,Je.f,yfy]
      rw[if_pos (by omega),if_pos (by omega),if_pos (by simp;omega),Zc (by omega),yny,zDQ l n hlt]
      have:=zBk cvF l zB9 n hlt
      rw[← this]
      rfl
    · obtain rfl:n=l.length:=by omega
      refine .inl fun k=>?_
      simp only [qn.l0]
      rw[if_neg (by omega)]
      simp [cvR]
  refine Ev.congr (fun k=>?_) hl
  unfold qn.f
  rw[if_pos (by omega),if_pos (by simp;omega),yny]
theorem zEr (l:List (List qZ)) (h:zFU l):Ev (fun k=>qh.f k l) (cvT l):=by
  have hl:Ev (fun k=>qh.l0 k l (List.replicate l.length []) 0) (cvT l):=by
    refine zEg (fun k (s:Tri × Int)=>qh.l0 k l s.1 s.2) (fun s => ∃ n:Nat,n≤l.length∧s.2=n∧s.1=(l.take n).map cvR++List.replicate (l.length-n) []) (fun s=>l.length-s.2.toNat) (fun _=>cvT l) ?_ (List.replicate l.length [],0) ⟨0,by omega,rfl,by simp⟩
    rintro⟨a,i⟩ ⟨n,hn,rfl,rfl⟩
    dsimp only
    by_cases hlt:n<l.length
    · obtain⟨K,hK⟩:=zG4 l[n] (h.2 _ (yoy hlt))
      refine .inr ⟨((l.take (n+1)).map cvR++List.replicate (l.length-(n+1)) [],((n+1:Nat):Int)),K,⟨n+1,by omega,rfl,rfl⟩,by simp;omega,rfl,fun k hk=>?_⟩
      have e:qn.f k l[n]=some _:=hK k hk
      have h1:=h.1
      simp only [qh.l0]
      rw[if_pos (by omega),if_pos (by omega),Jr l n hlt,e,yfy,if_pos (by simp;omega),Zc (by omega),yny,zBk cvR l [] n hlt]
    · obtain rfl:n=l.length:=by omega
      refine .inl ⟨0,fun k _=>?_⟩
      simp only [qh.l0]
      rw[if_neg (by omega)]
      simp [cvT]
  have h1:=h.1
  refine Ev.congr (fun k=>?_) hl
  unfold qh.f
  rw[if_pos (by omega),if_pos (by simp;omega),yny]
theorem zBF (l:List (List qZ)) (h:zFU l):Ev (fun k=>zo.f k l) (cvT l):=Ev.bind (zEr l h) (Ev.now _)
theorem zG5 (l:List zv) (h:l.length≤1048576):Ev (fun k=>qO.f k l l) true:=by
  have hl:Ev (fun k=>qO.l0 k l l 0) true:=by
    refine zFE (fun k (s:Int)=>qO.l0 k l l s) (fun s => ∃ n:Nat,n≤l.length∧s=n) (fun s=>l.length-s.toNat) (fun _=>true) ?_ 0 ⟨0,by omega,rfl⟩
    rintro i ⟨n,hn,rfl⟩
    by_cases hlt:n<l.length
    · refine .inr ⟨((n+1:Nat):Int),⟨n+1,by omega,rfl⟩,by simp;omega,rfl,fun k=>?_⟩
      simp only [qO.l0,JD.f]
      rw[if_pos (by omega),if_pos (by omega),if_pos (by omega),if_pos trivial,if_pos trivial,yfy,if_pos rfl,Zc (by omega)]
    · refine .inl fun k=>?_
      simp only [qO.l0]
      rw[if_neg (by omega)]
  refine Ev.congr (fun k=>?_) hl
  unfold qO.f
  rw[if_pos rfl]
theorem zBG (l:Tri) (h:Small l):Ev (fun k=>qY.f k l l) true:=by
  have hl:Ev (fun k=>qH.l0 k l l 0) true:=by
    refine zEg (fun k (s:Int)=>qH.l0 k l l s) (fun s => ∃ n:Nat,n≤l.length∧s=n) (fun s=>l.length-s.toNat) (fun _=>true) ?_ 0 ⟨0,by omega,rfl⟩
    rintro i ⟨n,hn,rfl⟩
    by_cases hlt:n<l.length
    · obtain⟨K,hK⟩:=zG5 l[n] (h.2 _ (yoy hlt))
      refine .inr ⟨((n+1:Nat):Int),K,⟨n+1,by omega,rfl⟩,by simp;omega,rfl,fun k hk=>?_⟩
      have e:qO.f k l[n] l[n]=some _:=hK k hk
      have h1:=h.1
      simp only [qH.l0]
      rw[if_pos (by omega),if_pos (by omega),if_pos (by omega),Qr l n hlt,e,yfy,if_pos rfl,Zc (by omega)]
    · refine .inl ⟨0,fun k _=>?_⟩
      simp only [qH.l0]
      rw[if_neg (by omega)]
  have h2:Ev (fun k=>qH.f k l l) true:=by
    refine Ev.congr (fun k=>?_) hl
    unfold qH.f
    rw[if_pos rfl]
  exact Ev.bind h2 (ZJ rfl (Ev.now _))
abbrev fc (t:Tri) (a f:Int):zv:=zI (zE t a) f
def zBs (t:Tri) (a f:Int):Bool:=
  if(fc t a f).f0 = -1 then(fc t a f).f1==0
  else if 0≤(fc t a f).f0∧(fc t a f).f0<(t.length:Int)∧0≤(fc t a f).f1∧(fc t a f).f1≤23 then
    ((fc t (fc t a f).f0 (rd (qP (fc t a f).f1) f)).f0==a&&(fc t (fc t a f).f0 (rd (qP (fc t a f).f1) f)).f1==zEm (fc t a f).f1) && !((fc t a f).f0==a&&rd (qP (fc t a f).f1) f==f)
  else false
def zA2 (t:Tri) (a:Int):Int→Nat→Bool
  | _,0=>true
  | f,d+1=>zBs t a f&&zA2 t a (f+1) d
def zAp (t:Tri):Int→Nat→Bool
  | _,0=>true
  | a,d+1=>zA2 t a 0 4&&zAp t (a+1) d
def ZG (t:Tri):Bool:=decide (t.length≤8)&&(t.all (fun r=>decide (r.length=4))&&zAp t 0 t.length)
section
variable {t : Tri}
theorem row4 (h4 : ∀ r∈t,r.length=4) {a:Int} (h0:0≤a) (h1:a<t.length):(zE t a).length=4:=by
  obtain⟨n,rfl⟩:=Int.eq_ofNat_of_zero_le h0
  rw[Qr t n (by omega)]
  exact h4 _ (yoy _)
theorem zCd (h4 : ∀ r∈t,r.length=4) (hn:t.length≤8) {a f:Int} (h0:0≤a) (h1:a<t.length) (aa:0≤f) (ab:f≤3):Ev (fun k=>zY.f k t a f) (zBs t a f):=by
  have hr:=row4 h4 h0 h1
  refine Ev.congr (fun k=>by unfold zY.f;rw[if_pos h0,if_pos h1,if_pos aa,if_pos (by omega)]) ?_
  change Ev (fun k=>if(fc t a f).f0 = -1 then some ((fc t a f).f1==0)else _) (zBs t a f)
  unfold zBs
  by_cases hb:(fc t a f).f0 = -1
  · rw[if_pos hb];exact ZJ hb (Ev.now _)
  · refine Qi hb ?_
    rw[if_neg hb]
    have hix:qq.f t (fc t a f).f0=some (decide (0≤(fc t a f).f0)&&decide ((fc t a f).f0≤(t.length:Int)-1)):=by
      unfold qq.f qX.f
      rw[yfy,ql (by omega) (by omega),zBT];rfl
    have hfalse:Ev (fun k=>zY.j0 k a f true t (fc t a f).f0 (fc t a f).f1) false:=qW (fun k=>by rw[zY.j0,if_pos rfl]) (Ev.now false)
    refine Ev.bind (Qw hix) ?_
    by_cases hi:0≤(fc t a f).f0∧(fc t a f).f0<(t.length:Int)
    · refine ZJ (by simp;omega) ?_
      refine Ev.bind (Qw (zGq _)) ?_
      by_cases hp:0≤(fc t a f).f1∧(fc t a f).f1≤23
      · rw[if_pos ⟨hi.1,hi.2,hp.1,hp.2⟩]
        have e:(!(decide (0≤(fc t a f).f1)&&decide ((fc t a f).f1≤23)))=false:=by simp [hp]
        rw[e]
        refine qW (fun k=>by rw[zY.j0,if_neg (by simp),zGs hp.1 hp.2 aa ab,yfy]) ?_
        obtain⟨ad,af⟩:=Zg hp.1 hp.2 aa ab
        have ae:=row4 h4 hi.1 hi.2
        refine ZJ hi.1 (ZJ hi.2 (ZJ ad (ZJ (by rw[ae];omega) ?_)))
        refine Ev.bind (Qw (zG3 hp.1 hp.2)) ?_
        change Ev (fun k=>if((fc t (fc t a f).f0 (rd (qP (fc t a f).f1) f)).f0==a&&(fc t (fc t a f).f0 (rd (qP (fc t a f).f1) f)).f1==zEm (fc t a f).f1)=true then _ else _) _
        generalize ((fc t (fc t a f).f0 (rd (qP (fc t a f).f1) f)).f0==a&&(fc t (fc t a f).f0 (rd (qP (fc t a f).f1) f)).f1==zEm (fc t a f).f1)=b
        cases b with
        | false=>refine Qi (by simp) ?_;rw[Bool.false_and];exact Ev.now false
        | true=>
          refine ZJ rfl ?_
          rw[Bool.true_and]
          by_cases ha:(fc t a f).f0=a
          · refine ZJ ha (zDF ?_)
            rw[ha];simp [bne]
          · refine Qi ha (zDF ?_)
            simp [ha]
      · rw[if_neg (by omega)]
        have e:(!(decide (0≤(fc t a f).f1)&&decide ((fc t a f).f1≤23)))=true:=by
          rw[Bool.not_eq_true',Bool.and_eq_false_iff,decide_eq_false_iff_not,decide_eq_false_iff_not];omega
        rw[e]
        exact hfalse
    · rw[if_neg (by omega)]
      refine Qi ?_ hfalse
      rw[Bool.and_eq_true,decide_eq_true_eq,decide_eq_true_eq];omega
theorem zCr (h4 : ∀ r∈t,r.length=4) (hn:t.length≤8) {a:Int} (h0:0≤a) (h1:a<t.length) {R:Bool} (hR:Ev (fun k=>zb.l0 k (t.length:Int) (a+1) t) R) :
    ∀ (d:Nat) (f:Int),0≤f→f+d=4→Ev (fun k=>zb.l1 k a (t.length:Int) a f t) (zA2 t a f d&&R)
  | 0,f,hf,he=>by
    refine qW (fun k=>by rw[zb.l1,if_neg (by omega),ql (by omega) (by omega)]) ?_
    rw[zA2,Bool.true_and];exact hR
  | d+1,f,hf,he=>by
    refine qW (fun k=>by rw[zb.l1,if_pos (by omega)]) ?_
    refine Ev.bind (zCd h4 hn h0 h1 hf (by omega)) ?_
    rw[zA2]
    cases hg:zBs t a f with
    | false=>exact Qi (by simp) (by rw[Bool.false_and,Bool.false_and];exact Ev.now false)
    | true=>
      refine ZJ rfl ?_
      rw[Bool.true_and]
      exact Ev.congr (fun k=>by rw[ql (by omega) (by omega)]) (zCr h4 hn h0 h1 hR d (f+1) (by omega) (by omega))
theorem zCs (h4 : ∀ r∈t,r.length=4) (hn:t.length≤8) : ∀ (d:Nat) (a:Int),0≤a→a+d=t.length→Ev (fun k=>zb.l0 k (t.length:Int) a t) (zAp t a d)
  | 0,a,ha,he=>by
    refine qW (fun k=>by rw[zb.l0,if_neg (by omega)]) ?_
    exact Ev.now true
  | d+1,a,ha,he=>by
    refine qW (fun k=>by rw[zb.l0,if_pos (by omega)]) ?_
    rw[zAp]
    exact zCr h4 hn ha (by omega) (zCs h4 hn d (a+1) (by omega) (by omega)) 4 0 (by omega) (by omega)
theorem zDR:t.all (fun r=>decide (r.length=4))=true ↔ ∀ r∈t,r.length=4:=by simp
theorem zGu (h:Small t):zr.f t=some (!(t.all fun r=>decide (r.length=4))):=by
  unfold zr.f qL.f
  rw[contO (p:=fun r => !(decide (r.length=4))) t (fun r _=>by
    show qo.f r=_
    unfold qo.f
    congr 1
    by_cases h:r.length=4
    · simp [h]
    · have : ¬ ((r.length:Int)=4):=by omega
      simp [h,this]),List.not_all_eq_any_not]
theorem zDS (h:Small t):Ev (fun k=>zb.f k t) (ZG t):=by
  have hfalse:Ev (fun k=>zb.j0 k true t) false:=qW (fun k=>by rw[zb.j0,if_pos rfl]) (Ev.now false)
  unfold ZG
  by_cases h8:t.length≤8
  · refine Ev.congr (fun k=>by unfold zb.f;rw[if_neg (by omega),zGu h,yfy]) ?_
    rw[ygy h8,Bool.true_and]
    cases hall:t.all (fun r=>decide (r.length=4))with
    | false=>rw[Bool.false_and];exact hfalse
    | true=>
      rw[Bool.true_and]
      refine qW (fun k=>by rw[zb.j0,if_neg (by simp)]) ?_
      exact zCs (zDR.1 hall) h8 t.length 0 (by omega) (by omega)
  · refine Ev.congr (fun k=>by unfold zb.f;rw[if_pos (by omega)]) ?_
    rw[yhy h8,Bool.false_and];exact hfalse
theorem zCt (h4 : ∀ r∈t,r.length=4) (hn:t.length≤8) {a:Int} (h0:0≤a) (h1:a<t.length) {R:Bool} (hR:Ev (fun k=>zN.l1 k (a+1) t) R) :
    ∀ (d:Nat) (f:Int),0≤f→f+d=4→Ev (fun k=>zN.l2 k a f t) (zA2 t a f d&&R)
  | 0,f,hf,he=>by
    refine qW (fun k=>by rw[zN.l2,if_neg (by omega),ql (by omega) (by omega)]) ?_
    rw[zA2,Bool.true_and];exact hR
  | d+1,f,hf,he=>by
    have hr:=row4 h4 h0 h1
    have ih:Ev (fun k=>zN.l2 k a (wrap64 (f+1)) t) (zA2 t a (f+1) d&&R):=Ev.congr (fun k=>by rw[ql (by omega) (by omega)]) (zCt h4 hn h0 h1 hR d (f+1) (by omega) (by omega))
    refine qW (fun k=>by rw[zN.l2,if_pos (by omega),if_pos h0,if_pos h1,if_pos hf,if_pos (by omega)]) ?_
    change Ev (fun k=>if(fc t a f).f0 = -1 then zN.j3 k a f ((fc t a f).f1==0) t (fc t a f).f0 (fc t a f).f1 else zN.j3 k a f false t (fc t a f).f0 (fc t a f).f1) _
    rw[zA2]
    have hstop : ∀ b,Ev (fun k=>zN.j4 k a f true t (fc t a f).f0 (fc t a f).f1) (false&&b):=fun b=>by
      rw[Bool.false_and];exact qW (fun k=>by rw[zN.j4,if_pos rfl]) (Ev.now false)
    have hgo:Ev (fun k=>zN.j3 k a f true t (fc t a f).f0 (fc t a f).f1) (zA2 t a (f+1) d&&R):=qW (fun k=>by rw[zN.j3,if_pos rfl]) ih
    have hrest:(¬ ((fc t a f).f0 = -1∧(fc t a f).f1=0))→Ev (fun k=>zN.j3 k a f false t (fc t a f).f0 (fc t a f).f1) (zBs t a f&&zA2 t a (f+1) d&&R):=by
      intro hnb;refine qW (fun k=>by rw[zN.j3,qb.f,if_neg (by simp),yfy,zHs,yfy,ql (by omega) (by omega)]) ?_
      unfold zBs
      by_cases hi:0≤(fc t a f).f0∧(fc t a f).f0<(t.length:Int)
      · refine ZJ (by simp;omega) ?_
        refine Ev.bind (Qw (zEp _)) ?_
        rw[if_neg (by omega)]
        by_cases hp:0≤(fc t a f).f1∧(fc t a f).f1≤23
        · rw[if_pos ⟨hi.1,hi.2,hp.1,hp.2⟩]
          have e:(!(decide (0≤(fc t a f).f1)&&decide ((fc t a f).f1≤23)))=false:=by simp [hp]
          rw[e]
          obtain⟨ab,ae⟩:=Zg hp.1 hp.2 hf (by omega)
          have ad:=row4 h4 hi.1 hi.2
          refine qW (fun k=>by rw[zN.j4,if_neg (by simp)]) ?_
          refine Ev.bind (zAg hp.1 hp.2 hf (by omega)) ?_
          refine Ev.bind (zG2 hp.1 hp.2) ?_
          refine ZJ hi.1 (ZJ hi.2 (ZJ ab (ZJ (by rw[ad];omega) ?_)))
          change Ev (fun k=>if(!((fc t (fc t a f).f0 (rd (qP (fc t a f).f1) f)).f0==a) || !((fc t (fc t a f).f0 (rd (qP (fc t a f).f1) f)).f1==zEm (fc t a f).f1))=true then _ else _) _
          generalize ((fc t (fc t a f).f0 (rd (qP (fc t a f).f1) f)).f0==a)=b1
          generalize ((fc t (fc t a f).f0 (rd (qP (fc t a f).f1) f)).f1==zEm (fc t a f).f1)=b2
          cases b1 with
          | false=>exact ZJ rfl (by rw[Bool.false_and,Bool.false_and,Bool.false_and,Bool.false_and];exact Ev.now false)
          | true=>
            cases b2 with
            | false=>exact ZJ rfl (by rw[Bool.true_and,Bool.false_and,Bool.false_and,Bool.false_and];exact Ev.now false)
            | true=>
              refine Qi (by simp) ?_
              rw[Bool.true_and,Bool.true_and]
              by_cases ha:(fc t a f).f0=a
              · refine ZJ ha ?_
                by_cases hg:rd (qP (fc t a f).f1) f=f
                · refine ZJ hg ?_
                  rw[ha,hg]
                  simp
                  exact Ev.now false
                · refine Qi hg ?_
                  have:(rd (qP (fc t a f).f1) f==f)=false:=by simp [hg]
                  rw[this,Bool.and_false,Bool.not_false,Bool.true_and]
                  exact ih
              · refine Qi ha ?_
                have:((fc t a f).f0==a)=false:=by simp [ha]
                rw[this,Bool.false_and,Bool.not_false,Bool.true_and]
                exact ih
        · rw[if_neg (by omega)]
          have e:(!(decide (0≤(fc t a f).f1)&&decide ((fc t a f).f1≤23)))=true:=by
            rw[Bool.not_eq_true',Bool.and_eq_false_iff,decide_eq_false_iff_not,decide_eq_false_iff_not];omega
          rw[e,Bool.false_and]
          exact hstop R
      · have hg:(if(fc t a f).f0 = -1 then((fc t a f).f1==0)else if 0≤(fc t a f).f0∧(fc t a f).f0<(t.length:Int)∧0≤(fc t a f).f1∧(fc t a f).f1≤23 then
            ((fc t (fc t a f).f0 (rd (qP (fc t a f).f1) f)).f0==a&&(fc t (fc t a f).f0 (rd (qP (fc t a f).f1) f)).f1==zEm (fc t a f).f1) && !((fc t a f).f0==a&&rd (qP (fc t a f).f1) f==f)else false)=false:=by
          by_cases hb:(fc t a f).f0 = -1
          · rw[if_pos hb];simp;intro h;exact hnb ⟨hb,h⟩
          · rw[if_neg hb,if_neg (by omega)]
        rw[hg,Bool.false_and]
        refine Qi ?_ (hstop R)
        rw[Bool.and_eq_true,decide_eq_true_eq,decide_eq_true_eq];omega
    by_cases hb:(fc t a f).f0 = -1
    · refine ZJ hb ?_
      by_cases aa : (fc t a f).f1=0
      · have e:zBs t a f=true:=by unfold zBs;rw[if_pos hb];simp [aa]
        rw[e,Bool.true_and]
        have e2:((fc t a f).f1==0)=true:=by simp [aa]
        rw[e2];exact hgo
      · have e2:((fc t a f).f1==0)=false:=by simp [aa]
        rw[e2];exact hrest (fun h=>aa h.2)
    · exact Qi hb (hrest (fun h=>hb h.1))
theorem zCu (h4 : ∀ r∈t,r.length=4) (hn:t.length≤8) : ∀ (d:Nat) (a:Int),0≤a→a+d=t.length→Ev (fun k=>zN.l1 k a t) (zAp t a d)
  | 0,a,ha,he=>by
    refine qW (fun k=>by rw[zN.l1,qb.f,yfy,if_neg (by omega)]) ?_
    exact Ev.now true
  | d+1,a,ha,he=>by
    refine qW (fun k=>by rw[zN.l1,qb.f,yfy,if_pos (by omega)]) ?_
    rw[zAp]
    exact zCt h4 hn ha (by omega) (zCu h4 hn d (a+1) (by omega) (by omega)) 4 0 (by omega) (by omega)
theorem zG6 (h8:t.length≤8) (d:Nat) : ∀ n:Nat,n+d=t.length→(t.all (fun r=>decide (r.length=4))=(t.drop n).all (fun r=>decide (r.length=4)))→Ev (fun k=>zN.l0 k (n:Int) t) (t.all (fun r=>decide (r.length=4))&&zAp t 0 t.length):=by
  induction d with
  | zero=>
    intro n hn ha
    refine qW (fun k=>by rw[zN.l0,if_neg (by omega)]) ?_
    have hall:t.all (fun r=>decide (r.length=4))=true:=by rw[ha,List.drop_eq_nil_of_le (by omega)];rfl
    rw[hall,Bool.true_and]
    exact zCu (zDR.1 hall) h8 t.length 0 (by omega) (by omega)
  | succ d ih=>
    intro n hn ha
    have hlt:n<t.length:=by omega
    refine qW (fun k=>by rw[zN.l0,if_pos (by omega),if_pos (by omega),Qr t n hlt]) ?_
    rw[ypy hlt,List.all_cons]at ha
    by_cases h:t[n].length=4
    · refine ZJ (by omega) ?_
      refine Ev.congr (fun k=>by rw[Zc (by omega)]) (ih (n+1) (by omega) ?_)
      rw[ha,ygy h,Bool.true_and]
    · refine Qi (by omega) ?_
      rw[ha,yhy h,Bool.false_and,Bool.false_and]
      exact Ev.now false
theorem zDT (t:Tri):Ev (fun k=>zN.f k t) (ZG t):=by
  refine Ev.congr (fun k=>by unfold zN.f qb.f;rw[yfy]) ?_
  unfold ZG
  by_cases h8:t.length≤8
  · refine Qi (by omega) ?_
    rw[ygy h8,Bool.true_and]
    exact zG6 h8 t.length 0 (by omega) (by rw[List.drop_zero])
  · refine ZJ (by omega) ?_
    rw[yhy h8,Bool.false_and]
    exact Ev.now false
end
theorem qt {t:Tri} (h:ZG t=true):t.length≤8∧(∀ r∈t,r.length=4)∧zAp t 0 t.length=true:=by
  unfold ZG at h
  rw[Bool.and_eq_true,Bool.and_eq_true,decide_eq_true_eq]at h
  exact⟨h.1,zDR.1 h.2.1,h.2.2⟩
theorem zGv (t:Tri) (a:Int) (d:Nat) : ∀ f,zA2 t a f d=true → ∀ g,f≤g→g<f+d→zBs t a g=true:=by
  induction d with
  | zero=>intro f _ g h1 h2;omega
  | succ d ih=>
    intro f h g h1 h2
    rw[zA2,Bool.and_eq_true]at h
    by_cases e:g=f
    · rw[e];exact h.1
    · exact ih (f+1) h.2 g (by omega) (by omega)
theorem zGw (t:Tri) (d:Nat) : ∀ a,zAp t a d=true → ∀ b,a≤b→b<a+d → ∀ g,0≤g→g≤3→zBs t b g=true:=by
  induction d with
  | zero=>intro a _ b h1 h2;omega
  | succ d ih=>
    intro a h b h1 h2 g aa ab
    rw[zAp,Bool.and_eq_true]at h
    by_cases e:b=a
    · rw[e];exact zGv t a 4 0 h.1 g aa (by omega)
    · exact ih (a+1) h.2 b (by omega) (by omega) g aa ab
theorem zAY {t:Tri} (h:ZG t=true) {a f:Int} (h0:0≤a) (h1:a<t.length) (aa:0≤f) (ab:f≤3) :
    ((fc t a f).f0 = -1∧(fc t a f).f1=0) ∨
    ((0≤(fc t a f).f0∧(fc t a f).f0<(t.length:Int)∧0≤(fc t a f).f1∧(fc t a f).f1≤23) ∧
      (fc t (fc t a f).f0 (rd (qP (fc t a f).f1) f)).f0=a∧(fc t (fc t a f).f0 (rd (qP (fc t a f).f1) f)).f1=zEm (fc t a f).f1 ∧ ¬ ((fc t a f).f0=a∧rd (qP (fc t a f).f1) f=f)):=by
  have hg:=zGw t t.length 0 (qt h).2.2 a h0 (by omega) f aa ab
  unfold zBs at hg
  by_cases hb:(fc t a f).f0 = -1
  · rw[if_pos hb]at hg
    exact .inl ⟨hb,by simpa using hg⟩
  · rw[if_neg hb]at hg
    by_cases hi:0≤(fc t a f).f0∧(fc t a f).f0<(t.length:Int)∧0≤(fc t a f).f1∧(fc t a f).f1≤23
    · rw[if_pos hi,Bool.and_eq_true,Bool.and_eq_true,Bool.not_eq_true']at hg
      refine .inr ⟨hi,eq_of_beq hg.1.1,eq_of_beq hg.1.2,fun hc=>?_⟩
      have:=hg.2
      rw[Bool.and_eq_false_iff]at this
      rcases this with h2|h2
      · exact absurd hc.1 (by simpa using h2)
      · exact absurd hc.2 (by simpa using h2)
    · rw[if_neg hi]at hg;cases hg
theorem zIK {t:Tri} (h:ZG t=true) {a:Int} (h0:0≤a) (h1:a<t.length):(zE t a).length=4:=row4 (qt h).2.1 h0 h1
theorem zHt {p:Int} (h0:0≤p) (h1:p≤23):zBr p=1∨zBr p = -1:=by
  obtain⟨m,rfl⟩:=zEB h0 h1
  have key : ∀ m:Fin 24,zBr (m.val:Int)=1∨zBr (m.val:Int) = -1:=by decide +kernel
  exact key m
theorem zED {p:Int} (h0:0≤p) (h1:p≤23):Ev (fun k=>zn.f k p) (zBr p):=by
  obtain⟨m,rfl⟩:=zEB h0 h1
  have key : ∀ m:Fin 24,zn.f 40 (m.val:Int)=some (zBr (m.val:Int)):=by decide +kernel
  exact Ev.of (fun k=>zn.mono _ k) (key m)
def zc:List Int→Nat
  | []=>0
  | x :: xs=>(if x=0 then 1 else 0)+zc xs
theorem zc_le (l:List Int):zc l≤l.length:=by
  induction l with
  | nil=>simp [zc]
  | cons x xs ih=>simp only [zc,List.length_cons];split <;> omega
theorem zIL : ∀ (l:List Int) (n:Nat) (v:Int),n<l.length→l.getD n 0=0→v≠0→zc (l.set n v)+1=zc l
  | [],n,v,h,_,_=>by simp at h
  | x :: xs,0,v,_,hz,hv=>by
    have hx:x=0:=by simpa using hz
    simp [zc,hx,hv];omega
  | x :: xs,n+1,v,h,hz,hv=>by
    have:=zIL xs n v (by simpa using h) (by simpa using hz) hv
    simp only [ycy,zc];omega
abbrev pm (x:Int):Prop:=x=1∨x = -1
structure Inv (n:Nat) (sg qu:List Int):Prop where
  len:sg.length=n
  small : ∀ x:Int,0≤x→x<n→rd sg x=0∨pm (rd sg x)
  queue : ∀ x∈qu,0≤x∧x<n∧pm (rd sg x)
theorem zAq {l:List Int} {a b v:Int} (aa:0≤a) (ab:a<l.length) (hb:0≤b):rd (l.set a.toNat v) b=if b=a then v else rd l b:=by
  unfold rd
  by_cases e:b=a
  · subst e
    rw[if_pos rfl]
    have:b.toNat<l.length:=by omega
    simp [List.getD_eq_getElem?_getD,this]
  · rw[if_neg e]
    have:a.toNat≠b.toNat:=by omega
    simp [List.getD_eq_getElem?_getD,List.getElem?_set_ne this]
theorem zFV {l:List Int} {i:Int} (h0:0≤i) (h1:i<l.length):rd l i∈l:=by
  obtain⟨n,rfl⟩:=Int.eq_ofNat_of_zero_le h0
  rw[zBA l n (by omega)]
  exact yoy _
theorem Inv.set {n:Nat} {sg qu:List Int} (h:Inv n sg qu) {k v:Int} (h0:0≤k) (h1:k<n) (hv:pm v):Inv n (sg.set k.toNat v) (qu ++ [k]):=by
  have hl:=h.len
  refine⟨by rw[List.length_set];exact hl,fun x aa ab=>?_,fun x hx=>?_⟩
  · rw[zAq h0 (by omega) aa]
    split
    · exact .inr hv
    · exact h.small x aa ab
  · rcases List.mem_append.1 hx with hx|hx
    · obtain⟨a,b,c⟩:=h.queue x hx
      refine⟨a,b,?_⟩
      rw[zAq h0 (by omega) a]
      split
      · exact hv
      · exact c
    · rw[List.mem_singleton.1 hx]
      refine⟨h0,h1,?_⟩
      rw[zAq h0 (by omega) h0,if_pos rfl]
      exact hv
theorem zGx {s p:Int} (hs:pm s) (hp:pm p):wrap64 (s*wrap64 (-p))=wrap64 (wrap64 (-s)*p)∧pm (wrap64 (wrap64 (-s)*p)):=by
  rcases hs with rfl|rfl <;> rcases hp with rfl|rfl <;> decide +kernel
theorem zHu {n:Nat} {sg qu:List Int} (h:Inv n sg qu) (ok:Bool) {i k p:Int} (aa:0≤i) (ab:i<qu.length) (h0:0≤k) (h1:k<n) (hp:pm p) :
    ∃ (sg' qu' : List Int) (c:Bool),vis sg qu ok i k (wrap64 (-p))=(sg',qu',ok&&c)∧Inv n sg' qu' ∧ qu.length≤qu'.length∧rd qu' i=rd qu i∧zc sg' + qu'.length=zc sg+qu.length ∧
      (rd sg k=0→sg' = sg.set k.toNat (wrap64 (wrap64 (-(rd sg (rd qu i)))*p))∧qu' = qu ++ [k]∧c=true) ∧
      (rd sg k≠0→sg' = sg∧qu' = qu∧(c=true↔rd sg k=wrap64 (wrap64 (-(rd sg (rd qu i)))*p))):=by
  obtain⟨q0,q1,qs⟩:=h.queue _ (zFV aa ab)
  obtain⟨we,wp⟩:=zGx qs hp
  unfold vis
  rw[we]
  generalize wrap64 (wrap64 (-(rd sg (rd qu i)))*p)=want at wp ⊢
  have hl:=h.len
  by_cases hz:rd sg k=0
  · rw[if_pos hz]
    refine⟨sg.set k.toNat want,qu ++ [k],true,by simp,h.set h0 h1 wp,by simp,zIG qu k i aa ab,?_,fun _=>⟨rfl,rfl,rfl⟩,fun hn=>absurd hz hn⟩
    have:=zIL sg k.toNat want (by omega) hz (by rcases wp with rfl|rfl <;> decide)
    simp;omega
  · rw[if_neg hz]
    have hs:=(h.small k h0 h1).resolve_left hz
    by_cases hc:rd sg k=wrap64 (-want)
    · rw[if_pos hc]
      refine⟨sg,qu,false,by simp,h,yry _,rfl,rfl,fun hn=>absurd hn hz,fun _=>⟨rfl,rfl,?_⟩⟩
      constructor
      · intro hf;cases hf
      · intro he
        rw[he]at hc
        rcases wp with rfl|rfl <;> revert hc <;> decide +kernel
    · rw[if_neg hc]
      refine⟨sg,qu,true,by simp,h,yry _,rfl,rfl,fun hn=>absurd hn hz,fun _=>⟨rfl,rfl,?_⟩⟩
      refine⟨fun _=>?_,fun _=>rfl⟩
      rcases hs with e|e <;> rcases wp with rfl|rfl <;> rw[e]at hc ⊢ <;> first|rfl|(exact absurd rfl hc)|(revert hc;decide +kernel)
section
variable {t : Tri}
theorem zFW (h:ZG t=true) {a f:Int} (h0:0≤a) (h1:a<t.length) (aa:0≤f) (ab:f≤3) (hb : ¬ (fc t a f).f0<0):(0≤(fc t a f).f0∧(fc t a f).f0<(t.length:Int))∧(0≤(fc t a f).f1∧(fc t a f).f1≤23):=by
  rcases zAY h h0 h1 aa ab with ⟨e,_⟩|⟨e,_⟩
  · omega
  · exact⟨⟨e.1,e.2.1⟩,e.2.2⟩
end
def zEs (m u:List Int) (i:Nat):Nat→Nat→Bool
  | 0,_=>true
  | d+1,j=>(rd m (rd u (j:Int)) != rd m (rd u (i:Int)))&&zEs m u i d (j+1)
def zCW (m u:List Int):Nat→Nat→Int
  | 0,_=>0
  | d+1,i=>(if zEs m u i i 0=true then 1 else 0)+zCW m u d (i+1)
theorem zEt (m u:List Int) : ∀ d i,0≤zCW m u d i∧zCW m u d i≤d
  | 0,_=>⟨by simp [zCW],by simp [zCW]⟩
  | d+1,i=>by
    have:=zEt m u d (i+1)
    unfold zCW
    split <;> constructor <;> omega
theorem zIp {x0 x1:List Int} {r x5:Int} (h : ∀ v∈x1,0≤v∧v<(x0.length:Int)) (hl:x1.length≤1000000) (h5:0≤x5) (ad:x5≤1000000) {i:Nat} (hi:i<x1.length) :
    ∀ d j:Nat,j+d=i → ∀ b:Bool,Ev (fun k=>zj.l0 k x0 x1 (x5+(if(b&&zEs x0 x1 i d j)=true then 1 else 0)) ((i+1:Nat):Int)) r→Ev (fun k=>zj.l1 k x0 x1 x5 (i:Int) b (j:Int)) r:=by
  have hw:wrap64 ((i:Int)+1)=((i+1:Nat):Int):=Zc (by omega)
  have ab:wrap64 (x5+1)=x5+1:=ql (by omega) (by omega)
  intro d;induction d with
  | zero=>
    intro j hj b hN
    have c1 : ¬ (j:Int)<(i:Int):=by omega
    cases b with
    | true=>
      simp only [zEs,Bool.and_self,if_true]at hN
      exact qW (fun k=>by rw[zj.l1,if_neg c1,if_pos rfl,hw,ab]) hN
    | false=>
      simp only [zEs,Bool.false_and,Bool.false_eq_true,if_false,Int.add_zero]at hN
      exact qW (fun k=>by rw[zj.l1,if_neg c1,if_neg (by decide),hw]) hN
  | succ d ih=>
    intro j hj b hN
    have c1:(j:Int)<(i:Int):=by omega
    have hwj:wrap64 ((j:Int)+1)=((j+1:Nat):Int):=Zc (by omega)
    have aa:j<x1.length:=by omega
    cases b with
    | false=>
      have hr:=ih (j+1) (by omega) false (by simpa only [Bool.false_and]using hN)
      exact qW (fun k=>by rw[zj.l1,if_pos c1,if_neg (by decide),hwj]) hr
    | true=>
      have a1:(0:Int)≤(j:Int):=by omega
      have a2:(j:Int)<(x1.length:Int):=by omega
      have a3:(0:Int)≤(i:Int):=by omega
      have a4:(i:Int)<(x1.length:Int):=by omega
      have b1:=h _ (yoy aa)
      have b2:=h _ (yoy hi)
      rw[← zBA x1 j aa]at b1
      rw[← zBA x1 i hi]at b2
      have hr:=ih (j+1) (by omega) (rd x0 (rd x1 (j:Int)) != rd x0 (rd x1 (i:Int))) (by simpa only [zEs,Bool.true_and]using hN)
      exact qW (fun k=>by rw[zj.l1,if_pos c1,if_pos rfl,if_pos a1,if_pos a2,if_pos b1.1,if_pos b1.2,if_pos a3,if_pos a4,if_pos b2.1,if_pos b2.2,hwj]) hr
theorem zIq {x0 x1:List Int} (h : ∀ v∈x1,0≤v∧v<(x0.length:Int)) (hl:x1.length≤1000000) : ∀ d i:Nat,i+d=x1.length → ∀ x5:Int,0≤x5→x5≤i→Ev (fun k=>zj.l0 k x0 x1 x5 (i:Int)) (x5+zCW x0 x1 d i):=by
  intro d;induction d with
  | zero=>
    intro i hi x5 h0 h1
    have c1 : ¬ (i:Int)<(x1.length:Int):=by omega
    rw[zCW,Int.add_zero]
    exact qW (f:=fun _=>some x5) (fun k=>by rw[zj.l0,if_neg c1]) (Ev.now _)
  | succ d ih=>
    intro i hi x5 h0 h1
    have c1:(i:Int)<(x1.length:Int):=by omega
    have e:x5+zCW x0 x1 (d+1) i=(x5+(if zEs x0 x1 i i 0=true then 1 else 0))+zCW x0 x1 d (i+1):=by rw[zCW];omega
    rw[e]
    have hN:=ih (i+1) (by omega) (x5+(if zEs x0 x1 i i 0=true then 1 else 0)) (by split <;> omega) (by split <;> omega)
    have hr:=zIp (r:=(x5+(if zEs x0 x1 i i 0=true then 1 else 0))+zCW x0 x1 d (i+1)) h hl h0 (by omega) (i:=i) (by omega) i 0 (by omega) true (by simpa only [Bool.true_and]using hN)
    exact qW (fun k=>by rw[zj.l0,if_pos c1];rfl) hr
theorem zGy {x0 x1:List Int} (h : ∀ v∈x1,0≤v∧v<(x0.length:Int)) (hl:x1.length≤1000000):Ev (fun k=>zj.f k x0 x1) (zCW x0 x1 x1.length 0):=by
  have:=zIq h hl x1.length 0 (by omega) 0 (by omega) (by omega)
  rw[Int.zero_add]at this
  exact this
end Go.Proofs.Ytembbpalgfikiaa.P
namespace Go.Proofs.Ytembbpalgfikiaa.Lib
open Go.RowKit Go.Proofs.YtembbpalgfikiaaW.PrintWords
set_option linter.unusedVariables false
def Low (s:List Int):Prop := ∀ i:Nat,i<s.length→0≤s.getD i 0∧s.getD i 0≤i∧s.getD (s.getD i 0).toNat 0=s.getD i 0
theorem zGz (n:Nat):Low (ZP 0 n):=by
  intro i hi
  rw[qU]at hi
  have h:=zCk 0 n i hi
  rw[Int.zero_add]at h
  rw[h]
  refine⟨by omega,by omega,?_⟩
  rw[yny,h]
theorem zEu {s:List Int} (h:Low s) {i k:Int} (aa:0≤i) (ab:i<s.length) (ad:0≤k) (ae:k<s.length):Low (joi s i k):=by
  have a1:=h i.toNat (by omega)
  have a2:=h k.toNat (by omega)
  rw[← zGe]at a1 a2
  intro n hn
  rw[QC]at hn
  have a3:=h n hn
  have gt : ∀ m:Nat,m<s.length→(joi s i k).getD m 0=if s.getD m 0=max (rd s i) (rd s k)then min (rd s i) (rd s k)else s.getD m 0:=fun m hm=>zEh s i k m hm
  generalize rd s i=p at *
  generalize rd s k=q at *
  rw[gt n hn]
  generalize hx:s.getD n 0=x at *
  have lm : ∀ y:Int,0≤y→y<s.length→s.getD y.toNat 0=y→(joi s i k).getD y.toNat 0=if y=max p q then min p q else y:=fun y h0 h1 h2=>by rw[gt y.toNat (by omega),h2]
  by_cases e:x=max p q
  · rw[if_pos e]
    refine⟨by omega,by omega,?_⟩
    rcases Int.le_total p q with hpq|hpq
    · have e1:min p q=p:=by omega
      have e2:max p q=q:=by omega
      rw[e1,lm p (by omega) (by omega) a1.2.2,e1,e2]
      split
      · rfl
      · rfl
    · have e1:min p q=q:=by omega
      have e2:max p q=p:=by omega
      rw[e1,lm q (by omega) (by omega) a2.2.2,e1,e2]
      split
      · rfl
      · rfl
  · rw[if_neg e]
    refine⟨a3.1,a3.2.1,?_⟩
    rw[lm x a3.1 (by omega) a3.2.2,if_neg e]
def roots (m:List Int):Nat→List Int
  | 0 => []
  | i+1=>if m.getD i 0=i then roots m i ++ [(i:Int)]else roots m i
theorem zBw (m:List Int) : ∀ (i:Nat) (x:Int),x∈roots m i→0≤x∧x<i∧m.getD x.toNat 0=x
  | 0,x,h=>by cases h
  | i+1,x,h=>by
    rw[roots]at h
    split at h
    · rename_i hc
      rcases List.mem_append.1 h with h|h
      · have:=zBw m i x h;exact⟨this.1,by omega,this.2.2⟩
      · have e:x=(i:Int):=by simpa using h
        subst e;exact⟨by omega,by omega,by rw[yny];exact hc⟩
    · have:=zBw m i x h;exact⟨this.1,by omega,this.2.2⟩
theorem zBH (m:List Int) (j:Nat) (hj:m.getD j 0=j) : ∀ i:Nat,j<i→(j:Int)∈roots m i∧(roots m i).idxOf (j:Int)=(roots m j).length
  | 0,h=>by omega
  | i+1,h=>by
    rw[roots]
    by_cases e:j=i
    · subst e
      have hn:(j:Int) ∉ roots m j:=fun hm=>by have:=zBw m j _ hm;omega
      rw[if_pos hj]
      refine⟨by simp,?_⟩
      rw[List.idxOf_append,if_neg hn];simp
    · obtain⟨h1,h2⟩:=zBH m j hj i (by omega)
      split
      · refine⟨List.mem_append_left _ h1,?_⟩
        rw[List.idxOf_append,if_pos h1,h2]
      · exact⟨h1,h2⟩
theorem zBU (m:List Int) (i:Nat) : ∀ d:Nat,(roots m i).length≤(roots m (i+d)).length
  | 0=>yry _
  | d+1=>by
    have:=zBU m i d
    rw[← Nat.add_assoc,roots]
    split
    · simp;omega
    · exact this
def zG7 (m:List Int) (x:Int):Int:=((roots m x.toNat).length:Int)
theorem zEE {m:List Int} (h:Low m) : ∀ (d i:Nat),i+d=m.length→zAi (roots m i) (m.drop i)=(m.drop i).map (zG7 m)
  | 0,i,hi=>by rw[List.drop_eq_nil_of_le (by omega)];rfl
  | d+1,i,hi=>by
    have hlt:i<m.length:=by omega
    have hg:m.getD i 0=m[i]:=by simp [hlt]
    obtain⟨h0,h1,h2⟩:=h i hlt
    rw[hg]at h0 h1 h2
    rw[ypy hlt,zAi,yjy]
    have ih:=zEE h d (i+1) (by omega)
    rw[roots,hg]at ih
    by_cases e:m[i]=(i:Int)
    · have hn:m[i] ∉ roots m i:=fun hm=>by have:=zBw m i _ hm;omega
      rw[if_neg hn]
      rw[if_pos e,← e]at ih
      rw[ih]
      have er:zG7 m m[i]=((roots m i).length:Int):=by unfold zG7;rw[e,yny]
      rw[er]
    · obtain⟨j,hj⟩:=Int.eq_ofNat_of_zero_le h0
      rw[hj,yny]at h2
      obtain⟨k1,k2⟩:=zBH m j h2 i (by omega)
      rw[if_neg e]at ih
      rw[ih]
      have er:zG7 m m[i]=((roots m j).length:Int):=by unfold zG7;rw[hj,yny]
      rw[er,hj,if_pos k1,k2]
theorem zBx {m:List Int} (h:Low m):zDG m=m.map (zG7 m):=by
  have:=zEE h m.length 0 (by omega)
  rw[List.drop_zero]at this
  exact this
def zG8 (m:List Int):Nat→Nat→List Int × Int→List Int × Int
  | _,0,s=>s
  | i,d+1,s=>zG8 m (i+1) d (if rd m (i:Int)=(i:Int)then(s.1.set i s.2,s.2+1)else s)
theorem zCK (m:List Int) : ∀ (d i:Nat) (s:List Int × Int),(zG8 m i d s).1.length=s.1.length
  | 0,_,_=>rfl
  | d+1,i,s=>by
    rw[zG8,zCK m d (i+1)]
    split <;> simp
theorem zDU (m:List Int) : ∀ (d i:Nat) (s:List Int × Int),i+d=m.length→s.1.length=m.length→s.2=((roots m i).length:Int)→(∀ j:Nat,j<i→m.getD j 0=j→s.1.getD j 0=((roots m j).length:Int)) →
    (zG8 m i d s).2=((roots m m.length).length:Int) ∧ ∀ j:Nat,j<m.length→m.getD j 0=j→(zG8 m i d s).1.getD j 0=((roots m j).length:Int)
  | 0,i,s,hi,hl,h2,h1=>by
    obtain rfl:i=m.length:=by omega
    exact⟨h2,h1⟩
  | d+1,i,s,hi,hl,h2,h1=>by
    have hlt:i<m.length:=by omega
    rw[zG8]
    by_cases e:m.getD i 0=(i:Int)
    · rw[if_pos (by rw[JZ];exact e)]
      refine zDU m d (i+1) _ (by omega) (by simp [hl]) ?_ ?_
      · rw[roots,if_pos e];simp [h2]
      · intro j hj hjm
        show(s.1.set i s.2).getD j 0=_
        by_cases ej:j=i
        · subst ej
          simp [List.getD_eq_getElem?_getD,hl,hlt,h2]
        · have h3:=h1 j (by omega) hjm
          have e3:(s.1.set i s.2).getD j 0=s.1.getD j 0:=by
            simp only [List.getD_eq_getElem?_getD]
            rw[List.getElem?_set_ne (fun hh=>ej hh.symm)]
          rw[e3,h3]
    · rw[if_neg (by rw[JZ];exact e)]
      refine zDU m d (i+1) s (by omega) hl ?_ ?_
      · rw[roots,if_neg e];exact h2
      · intro j hj hjm
        by_cases ej:j=i
        · subst ej;exact absurd hjm e
        · exact h1 j (by omega) hjm
def Qm (w:Nat):Nat→List Int→List (List Int)
  | 0,_ => []
  | q+1,xs=>xs.take w :: Qm w q (xs.drop w)
theorem JT (w:Nat) : ∀ (q:Nat) (xs:List Int),(Qm w q xs).length=q
  | 0,_=>rfl
  | q+1,xs=>by rw[Qm,List.length_cons,JT w q]
theorem zCv (w:Nat) : ∀ (q:Nat) (xs:List Int) (a:Nat),a<q→(Qm w q xs)[a]?=some ((xs.drop (w*a)).take w)
  | 0,_,a,h=>by omega
  | q+1,xs,0,h=>by simp [Qm]
  | q+1,xs,a+1,h=>by
    rw[Qm,List.getElem?_cons_succ,zCv w q _ a (by omega),List.drop_drop,Nat.mul_succ,Nat.add_comm (w*a)]
theorem zHv {m:List Int} (h:Low m):m.map (rd (zG8 m 0 m.length (List.replicate m.length 0,0)).1)=zDG m∧(zG8 m 0 m.length (List.replicate m.length 0,0)).2=((roots m m.length).length:Int):=by
  obtain⟨h1,h2⟩:=zDU m m.length 0 (List.replicate m.length 0,0) (by omega) (by simp) rfl (fun j hj=>by omega)
  refine⟨?_,h1⟩
  rw[zBx h]
  apply List.map_congr_left
  intro x hx
  obtain⟨i,hi,rfl⟩:=List.getElem_of_mem hx
  obtain⟨q0,q1,q2⟩:=h i hi
  have hg:m.getD i 0=m[i]:=by simp [hi]
  rw[hg]at q0 q1 q2
  generalize m[i]=x at *
  obtain⟨j,rfl⟩:=Int.eq_ofNat_of_zero_le q0
  rw[yny]at q2
  rw[JZ,h2 j (by omega) q2]
  unfold zG7
  rw[yny]
theorem zEv (xs:List Int) : ∀ x:Int,x≤xs.foldl mx x ∧ ∀ y∈xs,y≤xs.foldl mx x:=by
  induction xs with
  | nil=>intro x;exact⟨Int.le_refl _,fun y hy=>by cases hy⟩
  | cons z xs ih=>
    intro x;obtain⟨h1,h2⟩:=ih (mx x z)
    have h3:x≤mx x z∧z≤mx x z:=by unfold mx;split <;> omega
    rw[List.foldl_cons]
    refine⟨by omega,fun y hy=>?_⟩
    rcases List.mem_cons.1 hy with rfl|hy
    · omega
    · exact h2 y hy
theorem zEF (xs:List Int) : ∀ x:Int,xs.foldl mx x=x∨xs.foldl mx x∈xs:=by
  induction xs with
  | nil=>intro x;exact .inl rfl
  | cons z xs ih=>
    intro x;rw[List.foldl_cons]
    rcases ih (mx x z)with h|h
    · rw[h]
      unfold mx
      split
      · exact .inr (List.mem_cons_self ..)
      · exact .inl rfl
    · exact .inr (List.mem_cons_of_mem _ h)
theorem maxl {l:List Int} {M:Int} (h1 : ∀ y∈l,y≤M) (h2:M∈l) : ∃ x xs,l=x :: xs∧xs.foldl mx x=M:=by
  cases l with
  | nil=>cases h2
  | cons x xs=>
    refine⟨x,xs,rfl,?_⟩
    obtain⟨k1,k2⟩:=zEv xs x
    have k3:xs.foldl mx x≤M:=by
      rcases zEF xs x with h|h
      · rw[h];exact h1 x (List.mem_cons_self ..)
      · exact h1 _ (List.mem_cons_of_mem _ h)
    have k4:M≤xs.foldl mx x:=by
      rcases List.mem_cons.1 h2 with h|h
      · rw[h];exact k1
      · exact k2 M h
    omega
theorem zCw (m:List Int) : ∀ i:Nat,0<(roots m i).length → ∃ j:Nat,j<i∧m.getD j 0=j∧(roots m j).length+1=(roots m i).length
  | 0,h=>by simp [roots]at h
  | i+1,h=>by
    rw[roots]at h ⊢
    by_cases e:m.getD i 0=(i:Int)
    · rw[if_pos e]
      exact⟨i,by omega,e,by simp⟩
    · rw[if_neg e]at h ⊢
      obtain⟨j,h1,h2,h3⟩:=zCw m i h
      exact⟨j,by omega,h2,h3⟩
theorem zHw {m:List Int} (h:Low m) (hp:0<m.length) : ∃ x xs,zDG m=x :: xs∧xs.foldl mx x=((roots m m.length).length:Int)-1:=by
  have aa:=h 0 hp
  have e0:m.getD 0 0=((0:Nat):Int):=by have:=aa.1;have:=aa.2.1;omega
  have hpos:0<(roots m m.length).length:=by
    have:=(zBH m 0 e0 m.length hp).1
    exact List.length_pos_of_mem this
  rw[zBx h]
  refine maxl ?_ ?_
  · intro y hy
    obtain⟨x,hx,rfl⟩:=List.mem_map.1 hy
    obtain⟨i,hi,rfl⟩:=List.getElem_of_mem hx
    obtain⟨q0,q1,q2⟩:=h i hi
    have hg:m.getD i 0=m[i]:=by simp [hi]
    rw[hg]at q0 q1 q2
    generalize m[i]=x at *
    obtain⟨j,rfl⟩:=Int.eq_ofNat_of_zero_le q0
    rw[yny]at q2
    have k:=zBU m (j+1) (m.length-(j+1))
    rw[show j+1+(m.length-(j+1))=m.length by omega,roots,if_pos q2]at k
    unfold zG7
    rw[yny]
    simp at k
    omega
  · obtain⟨j,h1,h2,h3⟩:=zCw m m.length hpos
    refine List.mem_map.2 ⟨(j:Int),?_,?_⟩
    · have:m.getD j 0=m[j]:=by simp [h1]
      rw[← h2,this];exact yoy _
    · unfold zG7
      rw[yny];omega
end Go.Proofs.Ytembbpalgfikiaa.Lib
namespace Go.Proofs.Ytembbpalgfikiaa.P
open Go.RowKit Go.Proofs.YtembbpalgfikiaaW.PrintWords Go.Proofs.Ytembbpalgfikiaa.Lib
set_option linter.unusedVariables false
theorem zFX (n:Nat) (hn:n≤1000000) : ∀ (d i:Nat) (xs:List Int),i+d=n→xs.length=i→Ev (fun k=>qF.l0 k (n:Int) xs (i:Int)) (xs++ZP (i:Int) d)
  | 0,i,xs,h,hl=>by
    refine qW (fun k=>by rw[qF.l0,if_neg (by omega)]) ?_
    rw[ZP,List.append_nil];exact Ev.now _
  | d+1,i,xs,h,hl=>by
    refine qW (fun k=>by rw[qF.l0,if_pos (by omega),if_pos (by omega),Zc (by omega)]) ?_
    have:=zFX n hn d (i+1) (xs ++ [(i:Int)]) (by omega) (by simp [hl])
    rw[List.append_assoc]at this
    exact this
theorem zBy (n:Nat) (hn:n≤1000000):Ev (fun k=>qF.f k (n:Int)) (ZP 0 n):=by
  have:=zFX n hn n 0 [] (by omega) rfl
  exact this
theorem zEw (l:List Int) {i k:Int} (hl:l.length≤1000000) (aa:0≤i) (ab:i<l.length) (ad:0≤k) (ae:k<l.length):Ev (fun _=>qz.f l i k) (joi l i k):=Qw (if_pos ⟨aa,ab,ad,ae⟩)
def zHP (e:Int):Int:=rd [0,0,0,1,1,2] e
def zGF (e:Int):Int:=rd [1,2,3,2,3,3] e
theorem zIr {e:Int} (h0:0≤e) (h1:e<6):qy.f e=some (zHP e,zGF e):=by
  show(if 0≤e then if e<6 then(if e<6 then some (zHP e,zGF e)else none)else none else none)=_
  rw[if_pos h0,if_pos h1,if_pos h1]
theorem zH0 {e:Int} (h0:0≤e) (h1:e<6):sm (zHP e)∧sm (zGF e)∧zHP e≠zGF e:=by
  rcases(show e=0∨e=1∨e=2∨e=3∨e=4∨e=5 by omega)with rfl|rfl|rfl|rfl|rfl|rfl <;> (unfold sm;decide)
def eix (a b:Int):Int:=(qI.f 8 a b).getD 0
theorem zH1 {a b:Int} (ha:sm a) (hb:sm b) (hne:a≠b):Ev (fun k=>qI.f k a b) (eix a b)∧0≤eix a b∧eix a b<6:=by
  obtain⟨aa,ab⟩:=ha
  obtain⟨ad,ae⟩:=hb
  have key:qI.f 8 a b=some (eix a b)∧0≤eix a b∧eix a b<6:=by
    rcases(show a=0∨a=1∨a=2∨a=3 by omega)with rfl|rfl|rfl|rfl <;> rcases(show b=0∨b=1∨b=2∨b=3 by omega)with rfl|rfl|rfl|rfl <;> first|exact absurd rfl hne|decide +kernel
  exact⟨Ev.of (fun k=>qI.mono _ _ k) key.1,key.2⟩
def Js (j b:Int) (p:List Int):List Int→List Int→List Int
  | [],s=>s
  | c :: cs,s=>Js j b p cs (joi s (4*j+c) (4*b+rd p c))
theorem zAr (j b:Int) (p:List Int) : ∀ (L s:List Int),(Js j b p L s).length=s.length
  | [],_=>rfl
  | c :: cs,s=>by rw[Js,zAr j b p cs,QC]
def zAZ (j f b:Int) (p:List Int):List Int→List Int→List Int
  | [],s=>s
  | e :: es,s=>zAZ j f b p es (if zHP e=f∨zGF e=f then s else joi s (6*j+e) (6*b+eix (rd p (zHP e)) (rd p (zGF e))))
theorem zAs (j f b:Int) (p:List Int) : ∀ (L s:List Int),(zAZ j f b p L s).length=s.length
  | [],_=>rfl
  | c :: cs,s=>by
    rw[zAZ,zAs j f b p cs]
    split
    · rfl
    · rw[QC]
structure Sk where
  v:List Int
  e:List Int
  f:List Int
def zAM (s:Sk) (j f:Nat) (x:zv):Sk:=
  ⟨Js j x.f0 (qP x.f1) (Qt [(f:Int)]) s.v,zAZ j f x.f0 (qP x.f1) (ZP 0 6) s.e,joi s.f (4*(j:Int)+f) (4*x.f0+rd (qP x.f1) f)⟩
def Sk.ok (n:Nat) (s:Sk):Prop:=s.v.length=4*n∧s.e.length=6*n∧s.f.length=4*n
theorem zEG {n:Nat} {s:Sk} (h:s.ok n) (j f:Nat) (x:zv):(zAM s j f x).ok n:=⟨by rw[zAM,zAr];exact h.1,by rw[zAM,zAs];exact h.2.1,by rw[zAM,QC];exact h.2.2⟩
section
variable {t : Tri}
theorem zDV (h:ZG t=true) {j f:Nat} (hj:j<t.length) (hf:f<4) : ∃ hf' : f<t[j].length,fc t (j:Int) (f:Int)=t[j][f]:=by
  have h4:t[j].length=4:=(qt h).2.1 _ (yoy hj)
  exact⟨by omega,by unfold fc;rw[Qr t j hj,zAh _ f (by omega)]⟩
theorem JE (h:ZG t=true) {j f:Nat} {x:zv} (hF:Zq t j f x) (hb : ¬ x.f0<0):j<t.length∧f≤3∧0≤x.f0∧x.f0<(t.length:Int)∧0≤x.f1∧x.f1≤23:=by
  obtain⟨h1,h2,h3⟩:=hF
  have h4:t[j].length=4:=(qt h).2.1 _ (yoy h1)
  obtain⟨_,hfc⟩:=zDV h h1 (f:=f) (by omega)
  have:=zAY (a:=(j:Int)) (f:=(f:Int)) h (by omega) (by omega) (by omega) (by omega)
  rw[hfc,h3]at this
  rcases this with ⟨e,_⟩|⟨⟨g0,g1,g2,g3⟩,_⟩
  · omega
  · exact⟨h1,by omega,g0,g1,g2,g3⟩
theorem zEH (h:ZG t=true):zDM t:=by
  obtain⟨h8,h4,_⟩:=qt h
  refine⟨h8,fun r hr=>by rw[h4 r hr];omega,fun r hr x hx hb=>?_⟩
  obtain⟨j,hj,rfl⟩:=List.getElem_of_mem hr
  obtain⟨f,hf,rfl⟩:=List.getElem_of_mem hx
  have:=JE h (j:=j) (f:=f) ⟨hj,hf,rfl⟩ hb
  exact⟨this.2.2.2.1,this.2.2.2.2⟩
theorem zEI {σ τ:Type} {Rel : σ → τ→Prop} {s1 : σ→Nat→Nat→zv → σ} {s2 : τ→Nat→Nat→zv → τ} (h : ∀ a b j f x,Zq t j f x → ¬ x.f0<0→Rel a b→Rel (s1 a j f x) (s2 b j f x)) (j:Nat) (hj:j<t.length) :
    ∀ (d f:Nat) (a : σ) (b : τ),f+d=t[j].length→Rel a b→Rel (zEl s1 j (t[j].drop f) f a) (zEl s2 j (t[j].drop f) f b)
  | 0,f,a,b,hf,hr=>by rw[List.drop_eq_nil_of_le (by omega)];exact hr
  | d+1,f,a,b,hf,hr=>by
    have hlt:f<t[j].length:=by omega
    rw[ypy hlt,zEl,zEl]
    refine zEI h j hj d (f+1) _ _ (by omega) ?_
    by_cases hb:t[j][f].f0<0
    · rw[if_pos hb,if_pos hb];exact hr
    · rw[if_neg hb,if_neg hb]
      exact h _ _ _ _ _ ⟨hj,hlt,rfl⟩ hb hr
theorem zEJ {σ τ:Type} {Rel : σ → τ→Prop} {s1 : σ→Nat→Nat→zv → σ} {s2 : τ→Nat→Nat→zv → τ} (h : ∀ a b j f x,Zq t j f x → ¬ x.f0<0→Rel a b→Rel (s1 a j f x) (s2 b j f x)) :
    ∀ (d j:Nat) (a : σ) (b : τ),j+d=t.length→Rel a b→Rel (zBg s1 (t.drop j) j a) (zBg s2 (t.drop j) j b)
  | 0,j,a,b,hj,hr=>by rw[List.drop_eq_nil_of_le (by omega)];exact hr
  | d+1,j,a,b,hj,hr=>by
    have hlt:j<t.length:=by omega
    rw[ypy hlt,zBg,zBg]
    refine zEJ h d (j+1) _ _ (by omega) ?_
    have:=zEI h j hlt t[j].length 0 a b (by omega) hr
    rwa [List.drop_zero]at this
theorem zEK {σ τ:Type} {Rel : σ → τ→Prop} {s1 : σ→Nat→Nat→zv → σ} {s2 : τ→Nat→Nat→zv → τ} (h : ∀ a b j f x,Zq t j f x → ¬ x.f0<0→Rel a b→Rel (s1 a j f x) (s2 b j f x)) (a : σ) (b : τ) (hr:Rel a b):Rel (zBg s1 t 0 a) (zBg s2 t 0 b):=by
  have:=zEJ h t.length 0 a b (by omega) hr
  rwa [List.drop_zero]at this
variable {ρ : Type}
theorem zEx (h:ZG t=true) {r:(List (List Int)) × (List (List Int)) × (List (List Int)) × List Int} {j f b p:Int} (ad:0≤j) (ae:j<t.length) (af:0≤b) (ag:b<t.length) (aa:0≤p) (ab:p≤23) (E F:List Int) :
    ∀ (d:Nat) (c:Int) (V:List Int),0≤c→c+d=4→V.length=4*t.length→Ev (fun k=>zR.l3 k (t.length:Int) (Js j b (qP p) ((ZP c d).filter fun x => ![f].contains x) V) E F j f 0 t b p) r →
      Ev (fun k=>zR.l2 k (t.length:Int) V E F j f c t b p) r
  | 0,c,V,hc,he,hl,hr=>by
    refine qW (fun k=>by rw[zR.l2,if_neg (by omega)]) ?_
    exact hr
  | d+1,c,V,hc,he,hl,hr=>by
    have h8:=(qt h).1
    by_cases hcf:c=f
    · refine qW (fun k=>by rw[zR.l2,if_pos (by omega),if_pos hcf,ql (by omega) (by omega)]) ?_
      refine zEx h ad ae af ag aa ab E F d (c+1) V (by omega) (by omega) hl ?_
      have e1:(![f].contains c)=false:=by simp [hcf]
      rwa [ZP,List.filter_cons,e1,if_neg (by simp)]at hr
    · have e1:(![f].contains c)=true:=by simp [hcf]
      have hd:=Zg aa ab hc (show c≤3 by omega)
      refine qW (fun k=>by rw[zR.l2,if_pos (by omega),if_neg hcf]) ?_
      refine Ev.bind (zAg aa ab hc (by omega)) ?_
      refine Ev.congr (fun k=>by rw[ql (show -9223372036854775808≤4*j by omega) (by omega),ql (show -9223372036854775808≤4*b by omega) (by omega),ql (show -9223372036854775808≤4*j+c by omega) (by omega),ql (show -9223372036854775808≤4*b+rd (qP p) c by omega) (by omega),ql (show -9223372036854775808≤c+1 by omega) (by omega)]) ?_
      refine Ev.bind (zEw V (by omega) (by omega) (by omega) (by omega) (by omega)) ?_
      refine zEx h ad ae af ag aa ab E F d (c+1) _ (by omega) (by omega) (by rw[QC];exact hl) ?_
      rwa [ZP,List.filter_cons,e1,if_pos rfl,Js]at hr
theorem zEy {p a b:Int} (aa:0≤p) (ab:p≤23) (ha:sm a) (hb:sm b) (hne:a≠b):rd (qP p) a≠rd (qP p) b:=by
  obtain⟨ad,ae⟩:=ha
  obtain⟨af,ag⟩:=hb
  obtain⟨n,rfl⟩:=Int.eq_ofNat_of_zero_le aa
  have key : ∀ m:Fin 24,zp (m.val:Int) 0≠zp (m.val:Int) 1∧zp (m.val:Int) 0≠zp (m.val:Int) 2∧zp (m.val:Int) 0≠zp (m.val:Int) 3∧zp (m.val:Int) 1≠zp (m.val:Int) 2∧zp (m.val:Int) 1≠zp (m.val:Int) 3∧zp (m.val:Int) 2≠zp (m.val:Int) 3:=by decide
  obtain⟨k1,k2,k3,k4,k5,k6⟩:=key ⟨n,by omega⟩
  dsimp only at k1 k2 k3 k4 k5 k6
  rcases(show a=0∨a=1∨a=2∨a=3 by omega)with rfl|rfl|rfl|rfl <;> rcases(show b=0∨b=1∨b=2∨b=3 by omega)with rfl|rfl|rfl|rfl <;> first|exact absurd rfl hne|assumption|exact Ne.symm (by assumption)
theorem zEz (h:ZG t=true) {r:(List (List Int)) × (List (List Int)) × (List (List Int)) × List Int} {j f b p:Int} (ad:0≤j) (ae:j<t.length) (af:0≤f) (ag:f≤3) (ah:0≤b) (ai:b<t.length) (aa:0≤p) (ab:p≤23) (V F:List Int) :
    ∀ (d:Nat) (e:Int) (E:List Int),0≤e→e+d=6→E.length=6*t.length→Ev (fun k=>zR.l1 k (t.length:Int) V (zAZ j f b (qP p) (ZP e d) E) F j (f+1) t) r →
      Ev (fun k=>zR.l3 k (t.length:Int) V E F j f e t b p) r
  | 0,e,E,hc,he,hl,hr=>by
    refine qW (fun k=>by rw[zR.l3,if_neg (by omega),ql (by omega) (by omega)]) ?_
    exact hr
  | d+1,e,E,hc,he,hl,hr=>by
    have h8:=(qt h).1
    obtain⟨sa,sb,hab⟩:=zH0 hc (show e<6 by omega)
    rw[ZP,zAZ]at hr
    have hskip:(zHP e=f∨zGF e=f)→Ev (fun k=>zR.j4 k (t.length:Int) V E F j f e (zHP e) (zGF e) false t b p) r:=fun hq=>by
      rw[if_pos hq]at hr
      refine qW (fun k=>by rw[zR.j4,if_neg (by simp),ql (by omega) (by omega)]) ?_
      exact zEz h ad ae af ag ah ai aa ab V F d (e+1) E (by omega) (by omega) hl hr
    refine qW (fun k=>by rw[zR.l3,if_pos (by omega),zIr hc (by omega),yfy]) ?_
    dsimp only
    by_cases ea:zHP e=f
    · exact ZJ ea (hskip (.inl ea))
    · refine Qi ea ?_
      by_cases eb:zGF e=f
      · have e9:(zGF e != f)=false:=by simp [eb]
        rw[e9];exact hskip (.inr eb)
      · have e9:(zGF e != f)=true:=by simp [eb]
        rw[e9]
        rw[if_neg (fun hq=>hq.elim ea eb)]at hr
        obtain⟨k1,k2,k3⟩:=zH1 (Zg aa ab sa.1 sa.2) (Zg aa ab sb.1 sb.2) (zEy aa ab sa sb hab)
        refine qW (fun k=>by rw[zR.j4,if_pos rfl]) ?_
        refine Ev.bind (zAg aa ab sa.1 sa.2) (Ev.bind (zAg aa ab sb.1 sb.2) (Ev.bind k1 ?_))
        refine Ev.congr (fun k=>by rw[ql (show -9223372036854775808≤6*j by omega) (by omega),ql (show -9223372036854775808≤6*b by omega) (by omega),ql (show -9223372036854775808≤6*j+e by omega) (by omega),ql (show -9223372036854775808≤6*b+eix (rd (qP p) (zHP e)) (rd (qP p) (zGF e))by omega) (by omega),ql (show -9223372036854775808≤e+1 by omega) (by omega)]) ?_
        refine Ev.bind (zEw E (by omega) (by omega) (by omega) (by omega) (by omega)) ?_
        exact zEz h ad ae af ag ah ai aa ab V F d (e+1) _ (by omega) (by omega) (by rw[QC];exact hl) hr
theorem zF0 (h:ZG t=true) {r:(List (List Int)) × (List (List Int)) × (List (List Int)) × List Int} (j:Nat) (hj:j<t.length) :
    ∀ (d f:Nat) (s:Sk),f+d=4→s.ok t.length→(∀ s' : Sk,s'.ok t.length→s' = zEl zAM j (t[j].drop f) f s→Ev (fun k=>zR.l0 k (t.length:Int) s'.v s'.e s'.f ((j+1:Nat):Int) t) r) →
      Ev (fun k=>zR.l1 k (t.length:Int) s.v s.e s.f (j:Int) (f:Int) t) r
  | 0,f,s,hf,hs,hr=>by
    have h8:=(qt h).1
    have h4:t[j].length=4:=(qt h).2.1 _ (yoy hj)
    refine qW (fun k=>by rw[zR.l1,if_neg (by omega),Zc (by omega)]) ?_
    exact hr s hs (by rw[List.drop_eq_nil_of_le (by omega)];rfl)
  | d+1,f,s,hf,hs,hr=>by
    have h8:=(qt h).1
    obtain⟨hlt,hfc⟩:=zDV h hj (f:=f) (by omega)
    have hrl:=zIK h (a:=(j:Int)) (by omega) (by omega)
    have e0:(zI (zE t (j:Int)) (f:Int))=t[j][f]:=hfc
    rw[ypy hlt,zEl]at hr
    refine qW (fun k=>by rw[zR.l1,if_pos (by omega),if_pos (by omega),if_pos (by omega),if_pos (by omega),if_pos (by omega),e0]) ?_
    by_cases hb:t[j][f].f0<0
    · rw[if_pos hb]at hr
      refine ZJ hb (Ev.congr (fun k=>by rw[Zc (by omega)]) ?_)
      exact zF0 h j hj d (f+1) s (by omega) hs hr
    · rw[if_neg hb]at hr
      refine Qi hb ?_
      obtain⟨_,_,b0,b1,p0,p1⟩:=JE h (j:=j) (f:=f) (x:=t[j][f]) ⟨hj,hlt,rfl⟩ hb
      generalize t[j][f]=x at *
      have hd:=Zg p0 p1 (show(0:Int)≤(f:Int)by omega) (by omega)
      refine Ev.bind (zAg p0 p1 (by omega) (by omega)) ?_
      refine Ev.congr (fun k=>by rw[ql (show -9223372036854775808≤4*(j:Int)by omega) (by omega),ql (show -9223372036854775808≤4*x.f0 by omega) (by omega),ql (show -9223372036854775808≤4*(j:Int)+(f:Int)by omega) (by omega),ql (show -9223372036854775808≤4*x.f0+rd (qP x.f1) (f:Int)by omega) (by omega)]) ?_
      have aa:=hs.1
      have ab:=hs.2.1
      have ad:=hs.2.2
      refine Ev.bind (zEw s.f (by omega) (by omega) (by omega) (by omega) (by omega)) ?_
      refine zEx h (by omega) (by omega) b0 b1 p0 p1 s.e _ 4 0 s.v (by omega) (by omega) aa ?_
      refine zEz h (by omega) (by omega) (by omega) (by omega) b0 b1 p0 p1 _ _ 6 0 s.e (by omega) (by omega) ab ?_
      have e1:((f:Int)+1)=((f+1:Nat):Int):=by omega
      rw[e1]
      exact zF0 h j hj d (f+1) (zAM s j f x) (by omega) (zEG hs _ _ _) hr
end
theorem zH2 {m:List Int} {w:Nat} {x6:List Int} {x7:Int} (hm : ∀ x∈m,0≤x∧x<x6.length) (hL:m.length≤1000000) (hw:w≤1000) {r:List (List Int) × Int} {o:Nat} (ho:o+w≤m.length) (x8:List (List Int)) (h8:x8.length≤1000000) :
    ∀ (d i:Nat) (acc:List Int),i+d=o+w→acc.length+d=w→Ev (fun k=>zf.l1 k m (w:Int) x6 x7 (x8 ++ [acc++((m.map (rd x6)).drop i).take d]) ((o+w:Nat):Int)) r→Ev (fun k=>zf.l2 k m (w:Int) x6 x7 x8 (o:Int) acc (i:Int)) r
  | 0,i,acc,hi,ha,hr=>by
    refine qW (fun k=>by rw[zf.l2,ql (show -9223372036854775808≤(o:Int)+(w:Int)by omega) (by omega),if_neg (by omega),if_pos (by omega)]) ?_
    rw[List.take_zero,List.append_nil]at hr
    exact hr
  | d+1,i,acc,hi,ha,hr=>by
    have hlt:i<m.length:=by omega
    have hb:=hm m[i] (yoy hlt)
    have hg:=zBA m i hlt
    refine qW (fun k=>by rw[zf.l2,ql (show -9223372036854775808≤(o:Int)+(w:Int)by omega) (by omega),if_pos (by omega),if_pos (by omega),if_pos (by omega),hg,if_pos hb.1,if_pos hb.2,if_pos (by omega),Zc (by omega)]) ?_
    refine zH2 hm hL hw ho x8 h8 d (i+1) _ (by omega) (by simp;omega) ?_
    have e:((m.map (rd x6)).drop i).take (d+1)=rd x6 m[i] :: ((m.map (rd x6)).drop (i+1)).take d:=by
      rw[ypy (by simpa using hlt),List.take_succ_cons,List.getElem_map]
    rw[e]at hr
    rw[List.append_assoc]
    exact hr
theorem zH3 {m:List Int} {w:Nat} {x6:List Int} {x7:Int} (hm : ∀ x∈m,0≤x∧x<x6.length) (hL:m.length≤1000000) (hw:w≤1000) (aa:0<w) :
    ∀ (q o:Nat) (x8:List (List Int)),o+w*q=m.length→x8.length+q≤1000000→Ev (fun k=>zf.l1 k m (w:Int) x6 x7 x8 (o:Int)) (x8++Qm w q ((m.map (rd x6)).drop o),x7)
  | 0,o,x8,ho,h8=>by
    refine qW (fun k=>by rw[zf.l1,if_neg (by omega)]) ?_
    rw[Qm,List.append_nil];exact Ev.now _
  | q+1,o,x8,ho,h8=>by
    rw[Nat.mul_succ]at ho
    refine qW (fun k=>by rw[zf.l1,if_pos (by omega)]) ?_
    refine zH2 hm hL hw (by omega) x8 (by omega) w o [] (by omega) (by simp) ?_
    rw[List.nil_append]
    have:=zH3 (x7:=x7) hm hL hw aa q (o+w) (x8 ++ [((m.map (rd x6)).drop o).take w]) (by omega) (by simp;omega)
    rw[Qm,List.drop_drop]
    rwa [List.append_assoc]at this
theorem zF1 {m:List Int} (w:Int) (hL:m.length≤1000000) {r:List (List Int) × Int} : ∀ (d i:Nat) (s:List Int × Int),i+d=m.length→s.1.length=m.length→0≤s.2→s.2≤i →
    Ev (fun k=>zf.l1 k m w (zG8 m i d s).1 (zG8 m i d s).2 [] 0) r→Ev (fun k=>zf.l0 k m w s.1 s.2 [] (i:Int)) r
  | 0,i,s,hi,hs,h0,h1,hr=>by
    refine qW (fun k=>by rw[zf.l0,if_neg (by omega)]) ?_
    exact hr
  | d+1,i,s,hi,hs,h0,h1,hr=>by
    rw[zG8]at hr
    by_cases e:rd m (i:Int)=(i:Int)
    · rw[if_pos e]at hr
      refine qW (fun k=>by rw[zf.l0,if_pos (by omega),if_pos (by omega),if_pos e,if_pos (by omega),ql (show -9223372036854775808≤s.2+1 by omega) (by omega),Zc (by omega),yny]) ?_
      exact zF1 w hL d (i+1) (s.1.set i s.2,s.2+1) (by omega) (by simp [hs]) (by dsimp only;omega) (by dsimp only;omega) hr
    · rw[if_neg e]at hr
      refine qW (fun k=>by rw[zf.l0,if_pos (by omega),if_pos (by omega),if_neg e,Zc (by omega)]) ?_
      exact zF1 w hL d (i+1) s (by omega) hs h0 (by omega) hr
theorem zIs {m:List Int} (h:Low m) : ∀ x∈m,0≤x∧x<m.length:=by
  intro x hx
  obtain⟨i,hi,rfl⟩:=List.getElem_of_mem hx
  obtain⟨q0,q1,_⟩:=h i hi
  have hg:m.getD i 0=m[i]:=by simp [hi]
  rw[hg]at q0 q1
  omega
theorem zF2 {m:List Int} (h:Low m) {w q:Nat} (hq:m.length=w*q) (aa:0<w) (hw:w≤1000) (hL:m.length≤1000000):Ev (fun k=>zf.f k m (w:Int)) (Qm w q (zDG m),((roots m m.length).length:Int)):=by
  obtain⟨e1,e2⟩:=zHv h
  have hqb:q≤m.length:=by rw[hq];exact Nat.le_mul_of_pos_left q aa
  refine ZJ (by omega) (ZJ (by omega) ?_)
  rw[yny]
  refine zF1 (w:Int) hL m.length 0 (List.replicate m.length 0,0) (by omega) (by simp) (by dsimp only;omega) (by dsimp only;omega) ?_
  have hlen:=zCK m m.length 0 (List.replicate m.length 0,0)
  rw[List.length_replicate]at hlen
  have:=zH3 (x7:=(zG8 m 0 m.length (List.replicate m.length 0,0)).2) (x6:=(zG8 m 0 m.length (List.replicate m.length 0,0)).1) (fun x hx=>by rw[hlen];exact zIs h x hx) hL hw aa q 0 [] (by omega) (by simp;omega)
  rw[List.nil_append,List.drop_zero,e1,e2]at this
  rw[e2]
  exact this
section
variable {t : Tri}
def Sk.low (s:Sk):Prop:=Low s.v∧Low s.e∧Low s.f
theorem zIM {j b p:Int} {n:Nat} (ad:0≤j) (ae:j<n) (af:0≤b) (ag:b<n) (aa:0≤p) (ab:p≤23) : ∀ (L s:List Int),(∀ c∈L,sm c)→Low s→s.length=4*n→Low (Js j b (qP p) L s)
  | [],s,_,hs,_=>hs
  | c :: cs,s,hc,hs,hl=>by
    rw[Js]
    obtain⟨c0,c1⟩:=hc c (List.mem_cons_self ..)
    have hd:=Zg aa ab c0 c1
    exact zIM ad ae af ag aa ab cs _ (fun x hx=>hc x (List.mem_cons_of_mem _ hx)) (zEu hs (by omega) (by omega) (by omega) (by omega)) (by rw[QC];exact hl)
theorem zIN {j f b p:Int} {n:Nat} (ad:0≤j) (ae:j<n) (af:0≤b) (ag:b<n) (aa:0≤p) (ab:p≤23) : ∀ (L s:List Int),(∀ e∈L,0≤e∧e<6)→Low s→s.length=6*n→Low (zAZ j f b (qP p) L s)
  | [],s,_,hs,_=>hs
  | e :: es,s,he,hs,hl=>by
    rw[zAZ]
    obtain⟨e0,e1⟩:=he e (List.mem_cons_self ..)
    obtain⟨sa,sb,hab⟩:=zH0 e0 e1
    obtain⟨_,k2,k3⟩:=zH1 (Zg aa ab sa.1 sa.2) (Zg aa ab sb.1 sb.2) (zEy aa ab sa sb hab)
    refine zIN ad ae af ag aa ab es _ (fun x hx=>he x (List.mem_cons_of_mem _ hx)) ?_ ?_
    · split
      · exact hs
      · exact zEu hs (by omega) (by omega) (by omega) (by omega)
    · split
      · exact hl
      · rw[QC];exact hl
theorem zG9 (h:ZG t=true) {s:Sk} (ho:s.ok t.length) (hl:s.low) {j f:Nat} {x:zv} (hF:Zq t j f x) (hb : ¬ x.f0<0):(zAM s j f x).low:=by
  obtain⟨h1,h2,b0,b1,p0,p1⟩:=JE h hF hb
  obtain⟨o1,o2,o3⟩:=ho
  have hd:=Zg p0 p1 (show(0:Int)≤(f:Int)by omega) (by omega)
  refine⟨zIM (by omega) (by omega) b0 b1 p0 p1 _ _ (fun c hc=>(QX hc).1) hl.1 o1,zIN (by omega) (by omega) b0 b1 p0 p1 _ _ (fun e he=>?_) hl.2.1 o2,zEu hl.2.2 (by omega) (by omega) (by omega) (by omega)⟩
  have:=(zGg 0 e 6).1 he
  omega
def sk0 (t:Tri):Sk:=⟨ZP 0 (4*t.length),ZP 0 (6*t.length),ZP 0 (4*t.length)⟩
theorem zIO:(sk0 t).ok t.length:=⟨qU _ _,qU _ _,qU _ _⟩
def zAN (t:Tri):Sk:=zBg zAM t 0 (sk0 t)
theorem Jt (h:ZG t=true):(zAN t).ok t.length∧(zAN t).low:=by
  have:=zEK (t:=t) (σ:=Sk) (τ:=Sk) (Rel:=fun a _=>a.ok t.length∧a.low) (s1:=zAM) (s2:=zAM) (fun a b j f x hF hb hr=>⟨zEG hr.1 _ _ _,zG9 h hr.1 hr.2 hF hb⟩) (sk0 t) (sk0 t) ⟨zIO,zGz _,zGz _,zGz _⟩
  exact this
def ZW (t:Tri):List Int:=zDG (zAN t).v
def zEL (t:Tri):Int:=((roots (zAN t).v (zAN t).v.length).length:Int)
def countF (t:Tri):(List (List Int)) × (List (List Int)) × (List (List Int)) × List Int:=
  (Qm 4 t.length (ZW t),Qm 6 t.length (zDG (zAN t).e),Qm 4 t.length (zDG (zAN t).f),[zEL t,((roots (zAN t).e (zAN t).e.length).length:Int),((roots (zAN t).f (zAN t).f.length).length:Int),(t.length:Int)])
theorem zH4 (h:ZG t=true) {r:(List (List Int)) × (List (List Int)) × (List (List Int)) × List Int} :
    ∀ (d j:Nat) (s:Sk),j+d=t.length→s.ok t.length→(∀ s' : Sk,s' = zBg zAM (t.drop j) j s→Ev (fun k=>zR.l0 k (t.length:Int) s'.v s'.e s'.f (t.length:Int) t) r) →
      Ev (fun k=>zR.l0 k (t.length:Int) s.v s.e s.f (j:Int) t) r
  | 0,j,s,hj,hs,hr=>by
    obtain rfl:j=t.length:=by omega
    exact hr s (by rw[List.drop_length];rfl)
  | d+1,j,s,hj,hs,hr=>by
    have hlt:j<t.length:=by omega
    rw[ypy hlt,zBg]at hr
    refine qW (fun k=>by rw[zR.l0,if_pos (by omega)]) ?_
    refine zF0 h j hlt 4 0 s (by omega) hs (fun s' hs' he=>?_)
    rw[List.drop_zero]at he
    subst he;exact zH4 h d (j+1) _ (by omega) hs' hr
theorem zDW (h:ZG t=true):Ev (fun k=>zR.f k t) (countF t):=by
  have h8:=(qt h).1
  obtain⟨⟨o1,o2,o3⟩,w1,w2,w3⟩:=Jt h
  refine Ev.bind (Qw (by unfold qb.f;rfl)) ?_
  have e4:wrap64 (4*(t.length:Int))=((4*t.length:Nat):Int):=by rw[ql (by omega) (by omega)];push_cast;rfl
  have e6:wrap64 (6*(t.length:Int))=((6*t.length:Nat):Int):=by rw[ql (by omega) (by omega)];push_cast;rfl
  refine Ev.congr (fun k=>by rw[e4,e6]) ?_
  refine Ev.bind (zBy (4*t.length) (by omega)) (Ev.bind (zBy (6*t.length) (by omega)) (Ev.bind (zBy (4*t.length) (by omega)) ?_))
  refine zH4 h t.length 0 (sk0 t) (by omega) zIO (fun s' hs'=>?_)
  rw[List.drop_zero]at hs'
  subst hs';refine qW (fun k=>by rw[zR.l0,if_neg (by omega)]) ?_
  refine Ev.bind (Ev.now _) ?_
  refine Ev.bind (zF2 (m:=(zAN t).v) (w:=4) (q:=t.length) w1 o1 (by omega) (by omega) (by omega)) ?_
  refine ZJ (by simp) ?_
  refine Ev.bind (zF2 (m:=(zAN t).e) (w:=6) (q:=t.length) w2 o2 (by omega) (by omega) (by omega)) ?_
  refine ZJ (by simp) ?_
  refine Ev.bind (zF2 (m:=(zAN t).f) (w:=4) (q:=t.length) w3 o3 (by omega) (by omega) (by omega)) ?_
  refine ZJ (by simp) ?_
  exact Ev.now _
theorem zEM {j b p:Int} {n:Nat} (ad:0≤j) (ae:j<n) (af:0≤b) (ag:b<n) (aa:0≤p) (ab:p≤23) : ∀ (L a s:List Int),(∀ c∈L,sm c)→Ker a s→a.length=4*n→(∀ x∈a,0≤x∧x<4*(n:Int)) →
    Ker (Qb j b (qP p) L a) (Js j b (qP p) L s)∧(∀ x∈Qb j b (qP p) L a,0≤x∧x<4*(n:Int))
  | [],a,s,_,hk,_,hr=>⟨hk,hr⟩
  | c :: cs,a,s,hc,hk,hl,hr=>by
    rw[Qb,Js]
    obtain⟨c0,c1⟩:=hc c (List.mem_cons_self ..)
    have hd:=Zg aa ab c0 c1
    have i0:0≤4*j+c:=by omega
    have i1:4*j+c<a.length:=by omega
    have k0:0≤4*b+rd (qP p) c:=by omega
    have k1:4*b+rd (qP p) c<a.length:=by omega
    refine zEM ad ae af ag aa ab cs _ _ (fun x hx=>hc x (List.mem_cons_of_mem _ hx)) (hk.zIe i0 i1 k0 k1) (by rw[Zj];exact hl) (fun x hx=>?_)
    unfold uni at hx
    obtain⟨y,hy,rfl⟩:=List.mem_map.1 hx
    split
    · refine hr _ ?_
      obtain⟨m,hm⟩:=Int.eq_ofNat_of_zero_le i0
      rw[hm,zBA a m (by omega)]
      exact yoy _
    · exact hr y hy
theorem zH5 (h:ZG t=true):Ker (zA8 t) (zAN t).v∧(zA8 t).length=4*t.length∧(∀ x∈zA8 t,0≤x∧x<4*(t.length:Int)):=by
  refine zEK (t:=t) (σ:=List Int) (τ:=Sk) (Rel:=fun a b=>Ker a b.v∧a.length=4*t.length∧(∀ x∈a,0≤x∧x<4*(t.length:Int))) (s1:=zAL) (s2:=zAM) (fun a b j f x hF hb hr=>?_) (ZP 0 (4*t.length)) (sk0 t) ⟨Ker.refl _,qU _ _,fun x hx=>by have:=(zGg 0 x _).1 hx;push_cast at this;omega⟩
  obtain⟨h1,h2,b0,b1,p0,p1⟩:=JE h hF hb
  obtain⟨q1,q2⟩:=zEM (n:=t.length) (show(0:Int)≤(j:Int)by omega) (by omega) b0 b1 p0 p1 (Qt [(f:Int)]) a b.v (fun c hc=>(QX hc).1) hr.1 hr.2.1 hr.2.2
  exact⟨q1,by unfold zAL;rw[JH];exact hr.2.1,q2⟩
theorem zBV (h:ZG t=true):zk.f t=some (ZW t):=by
  have h8:=(qt h).1
  obtain⟨hk,hl,hr⟩:=zH5 h
  have h1:zEj (zA8 t)=true:=by
    unfold zEj
    rw[Bool.and_eq_true,decide_eq_true_eq,List.all_eq_true]
    exact⟨by omega,fun x hx=>ygy (by have:=hr x hx;omega)⟩
  unfold zk.f
  rw[if_pos ⟨zEH h,h1⟩,hk.zDG]
  rfl
theorem zAC (h:ZG t=true):(ZW t).length=4*t.length:=by
  unfold ZW;rw[zEi];exact(Jt h).1.1
theorem zCL (m:List Int) : ∀ i:Nat,(roots m i).length≤i
  | 0=>yry _
  | i+1=>by
    have:=zCL m i
    rw[roots]
    split
    · simp;omega
    · omega
theorem zH6 (h:ZG t=true):0≤zEL t∧zEL t≤32:=by
  have h8:=(qt h).1
  have:=zCL (zAN t).v (zAN t).v.length
  have:=(Jt h).1.1
  unfold zEL;omega
theorem zDX (h:ZG t=true):ZM.f (ZW t)=some (zEL t):=by
  have hb:=zH6 h
  have hl:=zAC h
  unfold ZM.f
  by_cases h0:t.length=0
  · rw[if_pos (by omega)]
    have:=(Jt h).1.1
    have:=zCL (zAN t).v (zAN t).v.length
    unfold zEL at hb ⊢
    congr 1;omega
  · rw[if_neg (by omega)]
    obtain⟨x,xs,e1,e2⟩:=zHw (Jt h).2.1 (by have:=(Jt h).1.1;omega)
    have e3:ZW t=x :: xs:=e1
    rw[e3]
    unfold Zx.f
    rw[yfy,e2]
    unfold zEL at hb ⊢
    rw[ql (by omega) (by omega)]
    congr 1;omega
end
end Go.Proofs.Ytembbpalgfikiaa.P
