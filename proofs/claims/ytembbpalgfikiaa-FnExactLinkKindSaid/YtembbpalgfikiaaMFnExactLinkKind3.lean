/- The statement FnExactLinkKindSaid, proved: part 3 of 9 (texts of this session and of the kit's print, put together and cut to what is used by a program of it). -/
import Derived.Test.YtembbpalgfikiaaMFnExactLinkKind2
namespace Go.Proofs.Ytembbpalgfikiaa.P
open Go.RowKit Go.Proofs.YtembbpalgfikiaaW.PrintWords Go.Proofs.YtembbpalgfikiaaW.PrintLast Go.Proofs.YtembbpalgfikiaaW.PrintMore
attribute [local go_sem] Ji Jj zAU zAV JK JL Jk Jl
set_option linter.unusedVariables false
set_option linter.unusedSimpArgs false
def zFz (t:List (List zv)) (x:List Int) (f:Int):Bool:=decide ((zI (zE t (rd x 0)) f).f0<0)
set_option maxHeartbeats 8000000 in
set_option maxRecDepth 100000 in
theorem zAl.calls (gb gx:Nat) (A0:Option Addr) (c0:Nat) (t:List (List zv)) (A1:Option Addr) (c1:Nat) (x:List Int) (f:Int) (w:World) (hb:w.heap[gb]?=some (.cells #[.slice A0 t.length c0] 35 (0,0))) (hx:w.heap[gx]?=some (.cells #[.slice A1 x.length c1] 22 (0,0)))
    (ae:Kd.C (Kd.slice 75 ZZ) w A0 t.length t) (af:Kd.C (Kd.int .i64) w A1 x.length x) (h2:0<x.length) (g0:0≤rd x 0) (g1:rd x 0<(t.length:Int)) (g3:0≤f) (g4:f<((zE t (rd x 0)).length:Int)) :
    Calls Try.prog 97 #[.int .i64 f,.pointer (some ⟨gb,0,none⟩),.pointer (some ⟨gx,0,none⟩)] w fun e w'=>e = .returned (.bool (zFz t x f))∧Below w.heap.size w w':=by
  have hcb:w.cell? ⟨gb,0,none⟩=some (.slice A0 t.length c0):=(zK hb 0).trans rfl
  have hcx:w.cell? ⟨gx,0,none⟩=some (.slice A1 x.length c1):=(zK hx 0).trans rfl
  obtain⟨ad,q0,ag⟩:=Kd.qw af 0 (by omega) (by omega)
  cases q0
  obtain⟨ay,A3,c3,e4,hy,aj,ah⟩:=ZY ae (rd x 0) g0 g1
  subst e4;obtain⟨az,e5,ab,hz⟩:=QF ah f g3 g4
  subst e5;have aa:w.cell? ad=some (.int .i64 (rd x 0)):=ag
  have p0:=eq_true (show(0:Int)<(x.length:Int)by omega)
  have ak:=eq_true h2
  have p1:=eq_true g0
  have p2:=eq_true g1
  have p3:=eq_true g3
  have p4:=eq_true g4
  unfold zFz
  clear ag hb hx ae af h2 g0 g1 g3 g4 aj ah;generalize (zI (zE t (rd x 0)) f).f0=z0 at ab ⊢
  generalize (zI (zE t (rd x 0)) f).f1=z1 at hz
  generalize (zE t (rd x 0)).length=rl at hy p4
  generalize rd x 0=x0 at *
  have HQ:=zA.mk (show qe.f z0 z1=some (decide (z0<0))by unfold qe.f;rfl)
  generalize decide (z0<0)=q at HQ ⊢
  have HB:=zA.mk (zD (ysy w.heap.size w))
  go_enter Try.func97,Try.ntmps97
  go_wp2;refine Zv (n:=12) (S:=fun w'=>w'.cell? ⟨gb,0,none⟩=some (.slice (some ay) t.length c0)∧w'.cell? ⟨gx,0,none⟩=some (.slice (some ad) x.length c1)∧w'.cell? ad=some (.int .i64 x0)∧w'.cell? (ay.add x0.toNat)=some (.slice (some az) rl c3)∧w'.cell? (az.add (f.toNat*2))=some (.int .i64 z0)∧w'.cell? ⟨(az.add (f.toNat*2)).block,(az.add (f.toNat*2)).off+1,none⟩=some (.int .i64 z1)) (ds := []) #[false,false,false,false,false,false,false,false,false,false,false,false] (by kernel_rfl) rfl rfl ⟨hcb,hcx,aa,hy,ab,hz⟩ (fun hHeld=>?_)
  replace hcb:w.drew.cell? ⟨gb,0,none⟩=some (.slice (some ay) t.length c0):=hcb
  replace hcx:w.drew.cell? ⟨gx,0,none⟩=some (.slice (some ad) x.length c1):=hcx
  replace aa:w.drew.cell? ad=some (.int .i64 x0):=aa
  replace hy:w.drew.cell? (ay.add x0.toNat)=some (.slice (some az) rl c3):=hy
  replace ab:w.drew.cell? (az.add (f.toNat*2))=some (.int .i64 z0):=ab
  replace hz:w.drew.cell? ⟨(az.add (f.toNat*2)).block,(az.add (f.toNat*2)).off+1,none⟩=some (.int .i64 z1):=hz
  generalize w.drew=w5 at HB hcb hcx aa hy ab hz hHeld ⊢
  refine zg (i:=0) (N:=some 5) (v:=?_) (a':=?_) #[true,false,false,false,false,false,false,false,false,false,false,false] rfl rfl (by kernel_rfl) (fun _ _ _ h=>h) (Or.inl ⟨by rfl,?_⟩) ?_ ?_
  rotate_left
  · intro w'
    go_simp;with_reducible rfl
  rotate_left
  · simp only [Act.put,yay,yby,ycy,zX,za]
    rfl
  refine ZA (i:=1) (N:=some 6) (v:=?_) (a':=?_) #[true,true,false,false,false,false,false,false,false,false,false,false] rfl rfl (by kernel_rfl) (fun _ _ _ h=>h) (Or.inl ⟨by rfl,?_⟩) hHeld ?_ ?_
  rotate_left
  · rintro w' ⟨s0,s1,s2,s3,s4,s5⟩
    go_simp;with_reducible rfl
  rotate_left
  · simp only [Act.put,yay,yby,ycy,zX,za]
    rfl
  refine ZA (i:=2) (N:=some 7) (v:=?_) (a':=?_) #[true,true,true,false,false,false,false,false,false,false,false,false] rfl rfl (by kernel_rfl) (fun _ _ _ h=>h) (Or.inl ⟨by rfl,?_⟩) hHeld ?_ ?_
  rotate_left
  · rintro w' ⟨s0,s1,s2,s3,s4,s5⟩
    go_simp;with_reducible rfl
  rotate_left
  · simp only [Act.put,yay,yby,ycy,zX,za]
    rfl
  refine zg (i:=3) (N:=some 8) (v:=?_) (a':=?_) #[true,true,true,true,false,false,false,false,false,false,false,false] rfl rfl (by kernel_rfl) (fun _ _ _ h=>h) (Or.inl ⟨by rfl,?_⟩) ?_ ?_
  rotate_left
  · intro w'
    go_simp;with_reducible rfl
  rotate_left
  · simp only [Act.put,yay,yby,ycy,zX,za]
    rfl
  refine ZA (i:=4) (N:=some 9) (v:=?_) (a':=?_) #[true,true,true,true,true,false,false,false,false,false,false,false] rfl rfl (by kernel_rfl) (fun _ _ _ h=>h) (Or.inl ⟨by rfl,?_⟩) hHeld ?_ ?_
  rotate_left
  · rintro w' ⟨s0,s1,s2,s3,s4,s5⟩
    go_simp;with_reducible rfl
  rotate_left
  · simp only [Act.put,yay,yby,ycy,zX,za]
    rfl
  refine zg (i:=5) (N:=some 10) (v:=?_) (a':=?_) #[true,true,true,true,true,true,false,false,false,false,false,false] rfl rfl (by kernel_rfl) (fun _ _ _ h=>h) (Or.inl ⟨by rfl,?_⟩) ?_ ?_
  rotate_left
  · intro w'
    go_simp;with_reducible rfl
  rotate_left
  · simp only [Act.put,yay,yby,ycy,zX,za]
    rfl
  refine ZA (i:=6) (N:=some 11) (v:=?_) (a':=?_) #[true,true,true,true,true,true,true,false,false,false,false,false] rfl rfl (by kernel_rfl) (fun _ _ _ h=>h) (Or.inl ⟨by rfl,?_⟩) hHeld ?_ ?_
  rotate_left
  · rintro w' ⟨s0,s1,s2,s3,s4,s5⟩
    go_simp;with_reducible rfl
  rotate_left
  · simp only [Act.put,yay,yby,ycy,zX,za]
    rfl
  refine zg (i:=7) (N:=some 12) (v:=?_) (a':=?_) #[true,true,true,true,true,true,true,true,false,false,false,false] rfl rfl (by kernel_rfl) (fun _ _ _ h=>h) (Or.inl ⟨by rfl,?_⟩) ?_ ?_
  rotate_left
  · intro w'
    go_simp;with_reducible rfl
  rotate_left
  · simp only [Act.put,yay,yby,ycy,zX,za]
    rfl
  refine zg (i:=8) (N:=some 13) (v:=?_) (a':=?_) #[true,true,true,true,true,true,true,true,true,false,false,false] rfl rfl (by kernel_rfl) (fun _ _ _ h=>h) (Or.inl ⟨by rfl,?_⟩) ?_ ?_
  rotate_left
  · intro w'
    go_simp;with_reducible rfl
  rotate_left
  · simp only [Act.put,yay,yby,ycy,zX,za]
    rfl
  refine ZA (i:=9) (N:=some 14) (v:=?_) (a':=?_) #[true,true,true,true,true,true,true,true,true,true,false,false] rfl rfl (by kernel_rfl) (fun _ _ _ h=>h) (Or.inl ⟨by rfl,?_⟩) hHeld ?_ ?_
  rotate_left
  · rintro w' ⟨s0,s1,s2,s3,s4,s5⟩
    go_simp;with_reducible rfl
  rotate_left
  · simp only [Act.put,yay,yby,ycy,zX,za]
    rfl
  refine zA4 (i:=10) (N:=some 15) #[true,true,true,true,true,true,true,true,true,true,true,false] rfl rfl (by kernel_rfl) (by decide) (fun K hK=>?_)
  refine QO Try.func77 (by kernel_rfl) rfl #[.agg #[.int .i64 z0,.int .i64 z1]] (by rfl) rfl rfl (by(try simp only [yiy,yjy,yky]);first|done|rfl) ?_
  refine(qe.calls z0 z1 q w5 HQ.out).mono ?_
  rintro e w6 ⟨rfl,hb⟩
  refine⟨_,rfl,?_⟩
  have ai:=zA.mk (zM HB.out hb)
  replace hcb:=(hb.cell (yqy _ _ hcb)).trans hcb
  replace hcx:=(hb.cell (yqy _ _ hcx)).trans hcx
  replace aa:=(hb.cell (yqy _ _ aa)).trans aa
  replace hy:=(hb.cell (yqy _ _ hy)).trans hy
  replace ab:=(hb.cell (yqy _ _ ab)).trans ab
  replace hz:=(hb.cell (yqy _ _ hz)).trans hz
  clear hb HB;have HB:=ai;clear ai;refine hK.out _ _ ⟨hcb,hcx,aa,hy,ab,hz⟩ (fun hHeld=>?_)
  clear hK K;refine QE (a':=?_) ?_ ?_
  rotate_left
  · show Act.put _ (some 15) _=_
    simp only [Act.put,yay,yby,ycy,zX,za]
    rfl
  refine zg (i:=11) (N:=some 4) (v:=?_) (a':=?_) #[true,true,true,true,true,true,true,true,true,true,true,true] rfl rfl (by kernel_rfl) (fun _ _ _ h=>h) (Or.inl ⟨by rfl,?_⟩) ?_ ?_
  rotate_left
  · intro w'
    go_simp;with_reducible rfl
  rotate_left
  · simp only [Act.put,yay,yby,ycy,zX,za]
    rfl
  refine Qo (by kernel_rfl) ?_
  go_wp2;go_ret;exact⟨rfl,HB.out⟩
def zBB (t:List (List zv)) (x:List Int):Bool:=(Qt [rd x 1]).any (zFz t x)
set_option maxHeartbeats 8000000 in
set_option maxRecDepth 100000 in
theorem zAz.calls (gb:Nat) (A0:Option Addr) (c0:Nat) (t:List (List zv)) (A1:Option Addr) (c1:Nat) (x:List Int) (w:World) (hb:w.heap[gb]?=some (.cells #[.slice A0 t.length c0] 35 (0,0)))
    (af:Kd.C (Kd.slice 75 ZZ) w A0 t.length t) (ad:Kd.C (Kd.int .i64) w A1 x.length x) (h2:x.length=2) (g0:0≤rd x 0) (g1:rd x 0<(t.length:Int)) (h4:(zE t (rd x 0)).length=4) :
    Calls Try.prog 94 #[.slice A1 x.length c1,.pointer (some ⟨gb,0,none⟩)] w fun e w'=>e = .returned (.bool (zBB t x))∧Below w.heap.size w w':=by
  obtain⟨ab,q0,ak⟩:=Kd.qw ad 0 (by omega) (by omega)
  obtain⟨al,q1,ag⟩:=Kd.qw ad 1 (by omega) (by omega)
  cases q0
  cases q1
  have aa:w.cell? ⟨ab.block,ab.off+1,none⟩=some (.int .i64 (rd x 1)):=ag
  have p1:=eq_true (show(1:Int)<(x.length:Int)by omega)
  have an:=eq_true (show 1<x.length by omega)
  have ah:=zA.mk hb
  have HR:=zA.mk af
  have HL:=zA.mk ad
  have HG:=zA.mk (show 0<x.length∧0≤rd x 0∧rd x 0<(t.length:Int)∧(zE t (rd x 0)).length=4 from⟨by omega,g0,g1,h4⟩)
  clear ak ag hb af ad h2 g0 g1 h4;unfold zBB
  generalize rd x 1=v at aa ⊢
  have HLM:=zA.mk (show ∀ c∈Qt [v],0≤c∧c<4 from fun c hc=>by
    have h:=(List.mem_filter.1 hc).1
    simp only [List.mem_cons,List.not_mem_nil,or_false]at h
    omega)
  have HLE:=zA.mk (show Zk.f [v]=some (Qt [v])from rfl)
  generalize Qt [v]=L at HLM HLE ⊢
  have hu:=Try.underlying22
  go_enter Try.func94,Try.ntmps94
  go_wp2_with (first|((with_reducible refine zw (N:=2) rfl ?_);refine zz ?hg (N:=2) ?hd (cs:=#[.slice (some ab) x.length c1]) (t:=22) ?hr ?_;(case hd=>rfl);(case hg=>rfl);(case hr=>first|(go_simp;done)|(go_simp;rfl));intro gx hg w1 hbox hb;have BX:=zA.mk hbox;have HB:=zA.mk hb;have B0:=zA.mk (zO ah.out hb);replace aa:=(hb.cell (yqy _ _ aa)).trans aa;have hxb:w1.cell? ⟨gx,0,none⟩=some (.slice (some ab) x.length c1):=(zK hbox 0).trans rfl;clear hbox hb ah hg))
  have HCF:zA (Kd.C (Kd.int .i64) (w1.alloc (.cells #[.int .i64 v] 2)) (some ⟨w1.heap.size,0,none⟩) 1 [v]):=⟨(Kd.zq (show Kd.R (Kd.int .i64) 2 (w1.alloc (.cells #[.int .i64 v] 2)) w1.heap.size (fun _=>True) (.slice (some ⟨w1.heap.size,0,none⟩) 1 1) [v]from
    Kd.JG ⟨by simp [zAo],.inr ⟨w1.heap.size,1,#[.int .i64 v],rfl,yry _,ZL rfl _,yry 1,by decide,rfl,rfl⟩⟩ (fun _ _=>trivial))).2.2⟩
  have ae:=zA.mk (zC HB.out (.cells #[.int .i64 v] 2))
  have ai:=zA.mk (zG B0.out (.cells #[.int .i64 v] 2))
  have aj:=zA.mk (zG BX.out (.cells #[.int .i64 v] 2))
  clear HB B0 BX;generalize w1.alloc (.cells #[.int .i64 v] 2)=w2 at *
  refine(Zk.calls (some ⟨w1.heap.size,0,none⟩) 1 [v] L w2 HCF.out (yry 1) HLE.out).mono ?_
  rintro e w3 ⟨v8,rfl,ho,hb⟩
  obtain⟨A8,c8,ev⟩:=Kd.ZE ho
  subst ev;have HO:=zA.mk (Kd.zq ho).2.2
  have HB:=zA.mk (zM ae.out hb)
  have B0:=zA.mk (zO ai.out hb)
  have BX:=zA.mk (zO aj.out hb)
  clear ho hb ae ai aj HCF HLE aa hxb;go_wp2_with fail
  refine(JC.calls (zFz t x) (.pointer (some ⟨gb,0,none⟩)) (.pointer (some ⟨gx,0,none⟩)) A8 c8 L w3 HO.out (fun W f hf hW=>zAl.calls gb gx A0 c0 t (some ab) c1 x f W (zO B0.out hW) (zO BX.out hW) (Kd.qD HR.out (zM HB.out hW)) (Kd.qD HL.out (zM HB.out hW)) HG.out.1 HG.out.2.1 HG.out.2.2.1 (HLM.out f hf).1 (by rw[HG.out.2.2.2];exact(HLM.out f hf).2))).mono ?_
  rintro e w4 ⟨rfl,hb⟩
  have ae:=zA.mk (zM HB.out hb)
  clear hb HB;go_wp2;go_ret;exact⟨rfl,ae.out⟩
def zG0 (t:List (List zv)) (cs:List (List Int)):Bool:=cs.all (fun x=>decide (x.length=2)&&(decide (0≤rd x 0)&&(decide (rd x 0<(t.length:Int))&&decide ((zE t (rd x 0)).length=4))))
theorem zIi {t:List (List zv)} {cs:List (List Int)} (h:zG0 t cs=true) : ∀ x∈cs,x.length=2∧0≤rd x 0∧rd x 0<(t.length:Int)∧(zE t (rd x 0)).length=4:=by
  unfold zG0 at h
  simp only [Bool.and_eq_true,decide_eq_true_eq,List.all_eq_true]at h
  exact h
def qd.f (k:Nat) (t:List (List zv)) (c:Int):Option Bool:=(ze.f k t c).bind fun cs=>if zG0 t cs=true then some (!(cs.any (zBB t)))else none
set_option maxHeartbeats 8000000 in
set_option maxRecDepth 100000 in
theorem qd.calls (k:Nat) (ab:Option Addr) (ad:Nat) (aa:List (List zv)) (a1:Int) (r:Bool) (w:World) (ae:Kd.C (Kd.slice 75 ZZ) w ab aa.length aa) (af:aa.length≤ad) (h:qd.f k aa a1=some r) :
    Calls Try.prog 55 #[.agg #[.slice ab aa.length ad],.int .i64 a1] w fun e w'=>e = .returned (.bool r)∧Below w.heap.size w w':=by
  unfold qd.f at h
  obtain⟨cs,hn,h2⟩:=ydy.mp h
  clear h;by_cases hok:zG0 aa cs=true
  case neg=>rw[if_neg hok]at h2;cases h2
  rw[if_pos hok]at h2
  obtain rfl:=yey h2
  have HK:=zA.mk (zIi hok)
  have HR:=zA.mk ae
  have HC:=zA.mk af
  have HN:=zA.mk hn
  clear ae af hn h2 hok;have hu:=Try.underlying35
  have HBR:=zA.mk (ysy w.heap.size w)
  go_enter Try.func55,Try.ntmps55
  go_wp2_with (first|((with_reducible refine zw (N:=2) rfl ?_);refine zz ?hg (N:=2) ?hd (cs:=#[.slice ab aa.length ad]) (t:=35) ?hr ?_;(case hd=>rfl);(case hg=>rfl);(case hr=>first|(go_simp;done)|(go_simp;rfl));intro gb hg w1 hbox hb;have BX:=zA.mk hbox;have HB:=zA.mk hb;have hxb:w1.cell? ⟨gb,0,none⟩=some (.slice ab aa.length ad):=(zK hbox 0).trans rfl;clear hbox hb hg HBR))
  refine(ze.calls k ab ad aa a1 cs w1 (Kd.qD HR.out HB.out) HC.out HN.out).mono ?_
  rintro e w2 ⟨v7,rfl,ho,hb⟩
  obtain⟨A7,c7,ev⟩:=Kd.QM ho
  subst ev;have HO:=zA.mk (Kd.ZF ho).2.2
  have ag:=zA.mk (zM HB.out hb)
  have ah:=zA.mk (zO BX.out hb)
  clear ho hb HB BX hxb HN;generalize hq:cs.any (zBB aa)=q
  have HQ:=zA.mk hq
  clear hq;go_wp2_with fail
  refine(by have h9:=JM.calls (zBB aa) (.pointer (some ⟨gb,0,none⟩)) A7 c7 cs w2 HO.out (fun W x A1 c1 hx hW hc _=>zAz.calls gb ab ad aa A1 c1 x W (zO ah.out hW) (Kd.qD HR.out (zM ag.out hW)) hc (HK.out x hx).1 (HK.out x hx).2.1 (HK.out x hx).2.2.1 (HK.out x hx).2.2.2);rw[HQ.out]at h9;exact h9:Calls _ _ _ _ _).mono ?_
  rintro e w3 ⟨rfl,hb⟩
  have ai:=zA.mk (zM ag.out hb)
  clear hb ag ah;go_wp2;go_ret;exact⟨by rw[HQ.out];rfl,ai.out⟩
def sgJ (l:List Int) (i:Nat) (s:Int):Nat→Int
  | 0=>s
  | j+1=>if rd l j>rd l i then -(sgJ l i s j)else sgJ l i s j
def sgI (l:List Int):Nat→Int
  | 0=>1
  | i+1=>sgJ l i (sgI l i) i
def zBr (p:Int):Int:=sgI (qP p) 4
theorem zCp (l:List Int) (i:Nat) (s:Int) (h : -1≤s∧s≤1) : ∀ j, -1≤sgJ l i s j∧sgJ l i s j≤1
  | 0=>h
  | j+1=>by have:=zCp l i s h j;unfold sgJ;split <;> omega
theorem zGk (l:List Int) : ∀ i, -1≤sgI l i∧sgI l i≤1
  | 0=>by unfold sgI;omega
  | i+1=>zCp l i _ (zGk l i) i
def Jd.f (a0:Int):Option Int:=if 0≤a0∧a0≤23 then some (zBr a0)else none
set_option maxHeartbeats 8000000 in
set_option maxRecDepth 100000 in
theorem Jd.calls (a0:Int) (r:Int) (w:World) (h:Jd.f a0=some r) :
    Calls Try.prog 73 #[.int .i64 a0] w fun e w'=>e = .returned (.int .i64 r)∧Below w.heap.size w w':=by
  unfold Jd.f at h
  by_cases hc:0≤a0∧a0≤23
  case neg=>rw[if_neg hc]at h;exact absurd h (by simp)
  rw[if_pos hc]at h
  have hr:zBr a0=r:=yey h
  clear h;subst hr;obtain⟨h0,h1⟩:=hc
  have H0:=zA.mk h0
  have H1:=zA.mk h1
  clear h0 h1;go_enter Try.func73,Try.ntmps73
  go_wp2_with fail
  refine(zAW.calls _ _ H0.out H1.out).mono ?_
  rintro e w1 ⟨rfl,hb⟩
  have HB:=zA.mk hb
  clear hb;have HPL:=zA.mk (show qP a0 = [zp a0 0,zp a0 1,zp a0 2,zp a0 3]from rfl)
  have HIP:=zA.mk (show zBr a0=sgI (qP a0) 4 from rfl)
  generalize qP a0=l at HPL HIP
  generalize zp a0 0=x0 at HPL ⊢
  generalize zp a0 1=x1 at HPL ⊢
  generalize zp a0 2=x2 at HPL ⊢
  generalize zp a0 3=x3 at HPL ⊢
  have HL:=zA.mk (zGk l)
  go_wp2_with fail
  go_loopg [4,12] 4 (fun gg v4 ag w' => ∃ i:Nat,i≤4∧4-i≤gg∧ag = .int .i64 i∧v4 = .int .i64 (sgI l i) ∧
    zA (w'.heap[w1.heap.size]?=some (.cells #[.int .i64 x0,.int .i64 x1,.int .i64 x2,.int .i64 x3] 101 (0,0)))∧zA (Below w.heap.size w w'))
  case atStart=>exact⟨0,by omega,by omega,rfl,rfl,⟨ZL rfl _⟩,⟨zC HB.out _⟩⟩
  case round=>
    clear HB;obtain⟨i,hi,hg,rfl,rfl,B,HB⟩:=hrel
    rcases(show i=4∨i=3∨i=2∨i=1∨i=0 by omega)with rfl|rfl|rfl|rfl|rfl
    · go_wp2
      go_ret;exact⟨by rw[HIP.out];rfl,HB.out⟩
    · have HD:=zA.mk (show ∀ j:Nat,sgJ l 3 (sgI l 3) (j+1)=if rd l j>rd l (3:Nat)then -(sgJ l 3 (sgI l 3) j)else sgJ l 3 (sgI l 3) j from fun _=>rfl)
      have HE:=zA.mk (show sgI l (3+1)=sgJ l 3 (sgI l 3) 3 from rfl)
      have HJ:=zA.mk (zCp l 3 _ (HL.out 3))
      have HX:=zA.mk (show rd l (3:Nat)=x3 by rw[HPL.out];rfl)
      have HZ:=zA.mk (show sgI l 3=sgJ l 3 (sgI l 3) 0 from rfl)
      have hidx : ∀ w_:World,(Instr.index 101 (.agg #[.int .i64 x0,.int .i64 x1,.int .i64 x2,.int .i64 x3]) (.int .i64 3)).run Try.prog w_ = .ok (.int .i64 x3) w_:=Qk x0 x1 x2 x3 3 (by omega) (by omega)
      go_wp2_with fail
      go_loopg [4,19] 3 (fun gg v4 ad w' => ∃ j:Nat,j≤3∧3-j≤gg∧ad = .int .i64 j∧v4 = .int .i64 (sgJ l 3 (sgI l 3) j)∧w' = wr)
      case atStart=>exact⟨0,by omega,by omega,rfl,by rw[← HZ.out],rfl⟩
      case round=>
        obtain⟨j,hj,af,rfl,rfl,rfl⟩:=hrel
        by_cases hlt:j<3
        · have hltz:(j:Int)<3:=by omega
          have bj:wr.cell? ⟨w1.heap.size,j,none⟩=some (.int .i64 (rd l (j:Nat))):=by
            have:=Qe B.out (j:Int) (by omega) (by omega)
            rw[← HPL.out,yny]at this
            exact this
          have hbd:=HJ.out j
          obtain⟨aa,ab⟩:=hbd
          have HN:=zA.mk (HD.out j)
          rw[HX.out]at HN
          generalize sgJ l 3 (sgI l 3) j=sv at HN aa ab ⊢
          generalize rd l (j:Nat)=xj at bj HN
          by_cases hless:xj>x3
          · have ae:decide (x3<xj)=true:=ygy hless
            go_wp2;go_roundg (3-(j+1))
            case measure=>omega
            case rel=>exact⟨j+1,by omega,by omega,by go_num,by rw[HN.out,if_pos hless],rfl⟩
          · have ae:decide (x3<xj)=false:=yhy hless
            go_wp2;go_roundg (3-(j+1))
            case measure=>omega
            case rel=>exact⟨j+1,by omega,by omega,by go_num,by rw[HN.out,if_neg (by omega)],rfl⟩
        · obtain rfl:j=3:=by omega
          have HK:=zA.mk HE.out.symm
          generalize sgJ l 3 (sgI l 3) 3=sv at HK ⊢
          go_wp2;go_roundg (4-(3+1))
          case measure=>omega
          case rel=>exact⟨3+1,by omega,by omega,by first|rfl|go_num,by rw[HK.out],B,HB⟩
    · have HD:=zA.mk (show ∀ j:Nat,sgJ l 2 (sgI l 2) (j+1)=if rd l j>rd l (2:Nat)then -(sgJ l 2 (sgI l 2) j)else sgJ l 2 (sgI l 2) j from fun _=>rfl)
      have HE:=zA.mk (show sgI l (2+1)=sgJ l 2 (sgI l 2) 2 from rfl)
      have HJ:=zA.mk (zCp l 2 _ (HL.out 2))
      have HX:=zA.mk (show rd l (2:Nat)=x2 by rw[HPL.out];rfl)
      have HZ:=zA.mk (show sgI l 2=sgJ l 2 (sgI l 2) 0 from rfl)
      have hidx : ∀ w_:World,(Instr.index 101 (.agg #[.int .i64 x0,.int .i64 x1,.int .i64 x2,.int .i64 x3]) (.int .i64 2)).run Try.prog w_ = .ok (.int .i64 x2) w_:=Qk x0 x1 x2 x3 2 (by omega) (by omega)
      go_wp2_with fail
      go_loopg [4,19] 2 (fun gg v4 ad w' => ∃ j:Nat,j≤2∧2-j≤gg∧ad = .int .i64 j∧v4 = .int .i64 (sgJ l 2 (sgI l 2) j)∧w' = wr)
      case atStart=>exact⟨0,by omega,by omega,rfl,by rw[← HZ.out],rfl⟩
      case round=>
        obtain⟨j,hj,af,rfl,rfl,rfl⟩:=hrel
        by_cases hlt:j<2
        · have hltz:(j:Int)<2:=by omega
          have bj:wr.cell? ⟨w1.heap.size,j,none⟩=some (.int .i64 (rd l (j:Nat))):=by
            have:=Qe B.out (j:Int) (by omega) (by omega)
            rw[← HPL.out,yny]at this
            exact this
          have hbd:=HJ.out j
          obtain⟨aa,ab⟩:=hbd
          have HN:=zA.mk (HD.out j)
          rw[HX.out]at HN
          generalize sgJ l 2 (sgI l 2) j=sv at HN aa ab ⊢
          generalize rd l (j:Nat)=xj at bj HN
          by_cases hless:xj>x2
          · have ae:decide (x2<xj)=true:=ygy hless
            go_wp2;go_roundg (2-(j+1))
            case measure=>omega
            case rel=>exact⟨j+1,by omega,by omega,by go_num,by rw[HN.out,if_pos hless],rfl⟩
          · have ae:decide (x2<xj)=false:=yhy hless
            go_wp2;go_roundg (2-(j+1))
            case measure=>omega
            case rel=>exact⟨j+1,by omega,by omega,by go_num,by rw[HN.out,if_neg (by omega)],rfl⟩
        · obtain rfl:j=2:=by omega
          have HK:=zA.mk HE.out.symm
          generalize sgJ l 2 (sgI l 2) 2=sv at HK ⊢
          go_wp2;go_roundg (4-(2+1))
          case measure=>omega
          case rel=>exact⟨2+1,by omega,by omega,by first|rfl|go_num,by rw[HK.out],B,HB⟩
    · have HD:=zA.mk (show ∀ j:Nat,sgJ l 1 (sgI l 1) (j+1)=if rd l j>rd l (1:Nat)then -(sgJ l 1 (sgI l 1) j)else sgJ l 1 (sgI l 1) j from fun _=>rfl)
      have HE:=zA.mk (show sgI l (1+1)=sgJ l 1 (sgI l 1) 1 from rfl)
      have HJ:=zA.mk (zCp l 1 _ (HL.out 1))
      have HX:=zA.mk (show rd l (1:Nat)=x1 by rw[HPL.out];rfl)
      have HZ:=zA.mk (show sgI l 1=sgJ l 1 (sgI l 1) 0 from rfl)
      have hidx : ∀ w_:World,(Instr.index 101 (.agg #[.int .i64 x0,.int .i64 x1,.int .i64 x2,.int .i64 x3]) (.int .i64 1)).run Try.prog w_ = .ok (.int .i64 x1) w_:=Qk x0 x1 x2 x3 1 (by omega) (by omega)
      go_wp2_with fail
      go_loopg [4,19] 1 (fun gg v4 ad w' => ∃ j:Nat,j≤1∧1-j≤gg∧ad = .int .i64 j∧v4 = .int .i64 (sgJ l 1 (sgI l 1) j)∧w' = wr)
      case atStart=>exact⟨0,by omega,by omega,rfl,by rw[← HZ.out],rfl⟩
      case round=>
        obtain⟨j,hj,af,rfl,rfl,rfl⟩:=hrel
        by_cases hlt:j<1
        · have hltz:(j:Int)<1:=by omega
          have bj:wr.cell? ⟨w1.heap.size,j,none⟩=some (.int .i64 (rd l (j:Nat))):=by
            have:=Qe B.out (j:Int) (by omega) (by omega)
            rw[← HPL.out,yny]at this
            exact this
          have hbd:=HJ.out j
          obtain⟨aa,ab⟩:=hbd
          have HN:=zA.mk (HD.out j)
          rw[HX.out]at HN
          generalize sgJ l 1 (sgI l 1) j=sv at HN aa ab ⊢
          generalize rd l (j:Nat)=xj at bj HN
          by_cases hless:xj>x1
          · have ae:decide (x1<xj)=true:=ygy hless
            go_wp2;go_roundg (1-(j+1))
            case measure=>omega
            case rel=>exact⟨j+1,by omega,by omega,by go_num,by rw[HN.out,if_pos hless],rfl⟩
          · have ae:decide (x1<xj)=false:=yhy hless
            go_wp2;go_roundg (1-(j+1))
            case measure=>omega
            case rel=>exact⟨j+1,by omega,by omega,by go_num,by rw[HN.out,if_neg (by omega)],rfl⟩
        · obtain rfl:j=1:=by omega
          have HK:=zA.mk HE.out.symm
          generalize sgJ l 1 (sgI l 1) 1=sv at HK ⊢
          go_wp2;go_roundg (4-(1+1))
          case measure=>omega
          case rel=>exact⟨1+1,by omega,by omega,by first|rfl|go_num,by rw[HK.out],B,HB⟩
    · have HD:=zA.mk (show ∀ j:Nat,sgJ l 0 (sgI l 0) (j+1)=if rd l j>rd l (0:Nat)then -(sgJ l 0 (sgI l 0) j)else sgJ l 0 (sgI l 0) j from fun _=>rfl)
      have HE:=zA.mk (show sgI l (0+1)=sgJ l 0 (sgI l 0) 0 from rfl)
      have HJ:=zA.mk (zCp l 0 _ (HL.out 0))
      have HX:=zA.mk (show rd l (0:Nat)=x0 by rw[HPL.out];rfl)
      have HZ:=zA.mk (show sgI l 0=sgJ l 0 (sgI l 0) 0 from rfl)
      have hidx : ∀ w_:World,(Instr.index 101 (.agg #[.int .i64 x0,.int .i64 x1,.int .i64 x2,.int .i64 x3]) (.int .i64 0)).run Try.prog w_ = .ok (.int .i64 x0) w_:=Qk x0 x1 x2 x3 0 (by omega) (by omega)
      go_wp2_with fail
      go_loopg [4,19] 0 (fun gg v4 ad w' => ∃ j:Nat,j≤0∧0-j≤gg∧ad = .int .i64 j∧v4 = .int .i64 (sgJ l 0 (sgI l 0) j)∧w' = wr)
      case atStart=>exact⟨0,by omega,by omega,rfl,by rw[← HZ.out],rfl⟩
      case round=>
        obtain⟨j,hj,af,rfl,rfl,rfl⟩:=hrel
        by_cases hlt:j<0
        · have hltz:(j:Int)<0:=by omega
          have bj:wr.cell? ⟨w1.heap.size,j,none⟩=some (.int .i64 (rd l (j:Nat))):=by
            have:=Qe B.out (j:Int) (by omega) (by omega)
            rw[← HPL.out,yny]at this
            exact this
          have hbd:=HJ.out j
          obtain⟨aa,ab⟩:=hbd
          have HN:=zA.mk (HD.out j)
          rw[HX.out]at HN
          generalize sgJ l 0 (sgI l 0) j=sv at HN aa ab ⊢
          generalize rd l (j:Nat)=xj at bj HN
          by_cases hless:xj>x0
          · have ae:decide (x0<xj)=true:=ygy hless
            go_wp2;go_roundg (0-(j+1))
            case measure=>omega
            case rel=>exact⟨j+1,by omega,by omega,by go_num,by rw[HN.out,if_pos hless],rfl⟩
          · have ae:decide (x0<xj)=false:=yhy hless
            go_wp2;go_roundg (0-(j+1))
            case measure=>omega
            case rel=>exact⟨j+1,by omega,by omega,by go_num,by rw[HN.out,if_neg (by omega)],rfl⟩
        · obtain rfl:j=0:=by omega
          have HK:=zA.mk HE.out.symm
          generalize sgJ l 0 (sgI l 0) 0=sv at HK ⊢
          go_wp2;go_roundg (4-(0+1))
          case measure=>omega
          case rel=>exact⟨0+1,by omega,by omega,by first|rfl|go_num,by rw[HK.out],B,HB⟩
def vis (sg qu:List Int) (ok:Bool) (i k t:Int):List Int × List Int × Bool:=
  if rd sg k=0 then(sg.set k.toNat (wrap64 (rd sg (rd qu i)*t)),qu ++ [k],ok)else if rd sg k=wrap64 (-(wrap64 (rd sg (rd qu i)*t)))then(sg,qu,false)else(sg,qu,ok)
structure Sg0 (w0 w:World) (gs gq gi go bs cs:Nat) (i:Int) (sg qu:List Int) (ok:Bool) (vq vr:Value):Prop where
  below:Below w0.heap.size w0 w
  bS:w.heap[gs]?=some (.cells #[.slice (some ⟨bs,0,none⟩) sg.length cs] 22 (0,0))
  bQ:w.heap[gq]?=some (.cells #[vq] 22 (0,0))
  bI:w.heap[gi]?=some (.cells #[.int .i64 i] 3 (0,0))
  bO:w.heap[go]?=some (.cells #[.bool ok] 4 (0,0))
  rS:Kd.R (Kd.int .i64) 2 w w0.heap.size (fun k=>k=bs) (.slice (some ⟨bs,0,none⟩) sg.length cs) sg
  rQ:Kd.R (Kd.int .i64) 2 w w0.heap.size (fun k=>k≠bs) vr qu
  nsq:gs≠gq
  own:w0.heap.size≤gq∧w0.heap.size≤go∧w0.heap.size≤gi
abbrev Sg (w0 w:World) (gs gq gi go bs cs:Nat) (i:Int) (sg qu:List Int) (ok:Bool) (vq:Value):Prop:=Sg0 w0 w gs gq gi go bs cs i sg qu ok vq vq
section
variable {w0 w w1 : World} {gs gq gi go bs cs : Nat} {i : Int} {sg qu qu' : List Int} {ok : Bool} {vq vr v1 : Value}
theorem Sg0.row (h:Sg0 w0 w gs gq gi go bs cs i sg qu ok vq vr) : ∃ cells,w.heap[bs]?=some (.cells cells 2 (0,0)):=Kd.zAt h.rS bs (by simp [Value.ownBlock])
theorem Sg0.far (h:Sg0 w0 w gs gq gi go bs cs i sg qu ok vq vr):gs≠bs∧gq≠bs∧gi≠bs∧go≠bs:=by
  obtain⟨cells,hc⟩:=h.row
  exact⟨Qz h.bS hc (by decide),Qz h.bQ hc (by decide),Qz h.bI hc (by decide),Qz h.bO hc (by decide)⟩
theorem Sg0.drew (h:Sg0 w0 w gs gq gi go bs cs i sg qu ok vq vr):Sg0 w0 w.drew gs gq gi go bs cs i sg qu ok vq vr:=
  ⟨zD h.below,h.bS,h.bQ,h.bI,h.bO,Kd.zZ h.rS,Kd.zZ h.rQ,h.nsq,h.own⟩
theorem Sg0.stays (h:Sg0 w0 w gs gq gi go bs cs i sg qu ok vq vr) (hb:Below w.heap.size w w1):Sg0 w0 w1 gs gq gi go bs cs i sg qu ok vq vr:=
  ⟨zM h.below hb,zO h.bS hb,zO h.bQ hb,zO h.bI hb,zO h.bO hb,Kd.qN h.rS hb,Kd.qN h.rQ hb,h.nsq,h.own⟩
theorem Sg0.sign (h:Sg0 w0 w gs gq gi go bs cs i sg qu ok vq vr) (k v:Int):Sg0 w0 (w.setCell ⟨bs,k.toNat,none⟩ (.int .i64 v)) gs gq gi go bs cs i (sg.set k.toNat v) qu ok vq vr:=by
  obtain⟨f1,f2,f3,f4⟩:=h.far
  refine⟨zF h.below (Kd.Zw h.rS bs (by simp [Value.ownBlock])),?_,qJ (p:=⟨bs,k.toNat,none⟩) h.bQ f2 _,qJ (p:=⟨bs,k.toNat,none⟩) h.bI f3 _,qJ (p:=⟨bs,k.toNat,none⟩) h.bO f4 _,?_,Kd.ZR (p:=⟨bs,k.toNat,none⟩) h.rQ (fun _ hk=>hk) _,h.nsq,h.own⟩
  · rw[List.length_set];exact qJ (p:=⟨bs,k.toNat,none⟩) h.bS f1 _
  · rw[List.length_set];exact(Kd.zAF h.rS k v).1
theorem Sg0.grown (h:Sg0 w0 w gs gq gi go bs cs i sg qu ok vq vr) (ho:Kd.R (Kd.int .i64) 2 w1 w0.heap.size (fun k=>k≠bs) v1 qu') (hb:Below w0.heap.size w0 w1) (hg:w.grownBy w1 vr.ownBlock):Sg0 w0 w1 gs gq gi go bs cs i sg qu' ok vq v1:=by
  have hty:=Kd.zAt h.rQ
  have hne : ∀ (g:Nat) (T:TypeId) (c:Array Value),T≠2→w.heap[g]?=some (.cells c T (0,0))→some g≠vr.ownBlock:=fun g T c hT hc e=>by
    obtain⟨cells,aa⟩:=hty g e.symm
    exact Qz hc aa hT rfl
  exact⟨hb,qj h.bS hg (hne _ _ _ (by decide) h.bS),qj h.bQ hg (hne _ _ _ (by decide) h.bQ),qj h.bI hg (hne _ _ _ (by decide) h.bI),qj h.bO hg (hne _ _ _ (by decide) h.bO),Kd.zBN h.rS hg (fun k hk e=>h.rQ.1 k e.symm hk),ho,h.nsq,h.own⟩
theorem Sg0.queue (h:Sg0 w0 w gs gq gi go bs cs i sg qu ok vq vr):Sg0 w0 (w.setCell ⟨gq,0,none⟩ vr) gs gq gi go bs cs i sg qu ok vr vr:=by
  obtain⟨f1,f2,f3,f4⟩:=h.far
  refine⟨zF h.below h.own.1,qJ (p:=⟨gq,0,none⟩) h.bS h.nsq _,qf h.bQ 0 _ rfl,qJ (p:=⟨gq,0,none⟩) h.bI (Qz h.bI h.bQ (by decide)) _,qJ (p:=⟨gq,0,none⟩) h.bO (Qz h.bO h.bQ (by decide)) _,Kd.ZR (p:=⟨gq,0,none⟩) h.rS (fun k hk=>by rw[hk];exact fun e=>f2 e.symm) _,Kd.qC (Kd.R_set h.rQ h.bQ (by decide) 0 _) (fun _ hk=>hk),h.nsq,h.own⟩
theorem Sg0.fails (h:Sg0 w0 w gs gq gi go bs cs i sg qu ok vq vr) (b:Bool):Sg0 w0 (w.setCell ⟨go,0,none⟩ (.bool b)) gs gq gi go bs cs i sg qu b vq vr:=by
  obtain⟨f1,f2,f3,f4⟩:=h.far
  refine⟨zF h.below h.own.2.1,qJ (p:=⟨go,0,none⟩) h.bS (Qz h.bS h.bO (by decide)) _,qJ (p:=⟨go,0,none⟩) h.bQ (Qz h.bQ h.bO (by decide)) _,qJ (p:=⟨go,0,none⟩) h.bI (Qz h.bI h.bO (by decide)) _,qf h.bO 0 _ rfl,Kd.ZR (p:=⟨go,0,none⟩) h.rS (fun k hk=>by rw[hk];exact fun e=>f4 e.symm) _,Kd.qC (Kd.R_set h.rQ h.bO (by decide) 0 _) (fun _ hk=>hk),h.nsq,h.own⟩
end
section
variable {w0 w w1 w2 : World} {gs gq gi go bs cs : Nat} {i : Int} {sg qu qu' : List Int} {ok : Bool} {vq vr v1 : Value}
end
abbrev QS (bs gq go:Nat) (b0:Option Nat) (k:Nat):Prop:=k=bs∨k=gq∨k=go∨some k=b0
set_option maxHeartbeats 8000000 in
set_option maxRecDepth 100000 in
theorem zDO.calls (gs gq gi go bs cs:Nat) (i k t:Int) (sg qu:List Int) (ok:Bool) (vq:Value) (w0 w:World) (hS:Sg w0 w gs gq gi go bs cs i sg qu ok vq)
    (al:0≤i) (an:i<qu.length) (aj:0≤rd qu i) (ak:rd qu i<sg.length) (ao:0≤k) (aq:k<sg.length) (hn:qu.length<1000000) :
    Calls Try.prog 126 #[.int .i64 k,.int .i64 t,.pointer (some ⟨gs,0,none⟩),.pointer (some ⟨gq,0,none⟩),.pointer (some ⟨gi,0,none⟩),.pointer (some ⟨go,0,none⟩)] w
      fun e w'=>e = .returned (.tuple #[]) ∧ ∃ vq',Sg w0 w' gs gq gi go bs cs i (vis sg qu ok i k t).1 (vis sg qu ok i k t).2.1 (vis sg qu ok i k t).2.2 vq' ∧ Kept w w' (QS bs gq go vq.ownBlock)∧(vq'.ownBlock=vq.ownBlock ∨ ∃ b,vq'.ownBlock=some b∧w.heap.size≤b):=by
  obtain⟨bq,cq,rfl,hbq,hbl,_,HGQ⟩:=Kd.Jw hS.rQ (by omega)
  have hqs:bq≠bs:=hS.rQ.1 bq (by simp [Value.ownBlock])
  have hxS:w.cell? ⟨gs,0,none⟩=some (.slice (some ⟨bs,0,none⟩) sg.length cs):=(zK hS.bS 0).trans rfl
  have hxQ:w.cell? ⟨gq,0,none⟩=some (.slice (some ⟨bq,0,none⟩) qu.length cq):=(zK hS.bQ 0).trans rfl
  have hxI:w.cell? ⟨gi,0,none⟩=some (.int .i64 i):=(zK hS.bI 0).trans rfl
  have hxO:w.cell? ⟨go,0,none⟩=some (.bool ok):=(zK hS.bO 0).trans rfl
  have hfQ:=zP hS.bQ 0
  have hfO:=zP hS.bO 0
  obtain⟨ae,_⟩:=Kd.Zm 0 hS.rQ i al an
  obtain⟨ab,_⟩:=Kd.Zm 0 hS.rS (rd qu i) aj ak
  obtain⟨ad,ag⟩:=Kd.Zm 0 hS.rS k ao aq
  replace ae:w.cell? ⟨bq,i.toNat,none⟩=some (.int .i64 (rd qu i)):=ae
  replace ab:w.cell? ⟨bs,(rd qu i).toNat,none⟩=some (.int .i64 (rd sg (rd qu i))):=ab
  replace ad:w.cell? ⟨bs,k.toNat,none⟩=some (.int .i64 (rd sg k)):=ad
  have HV:=zA.mk (show vis sg qu ok i k t=if rd sg k=0 then(sg.set k.toNat (wrap64 (rd sg (rd qu i)*t)),qu ++ [k],ok)else if rd sg k=wrap64 (-(wrap64 (rd sg (rd qu i)*t)))then(sg,qu,false)else(sg,qu,ok)from rfl)
  have HS:=zA.mk hS
  have HN:=zA.mk hn
  clear hS HGQ hbl hn;have HQ:=zA.mk (And.intro hqs hbq)
  clear hqs hbq;generalize vis sg qu ok i k t=res at HV ⊢
  generalize rd qu i=q at ae ab aj ak HV
  generalize rd sg q=s at ab HV
  generalize hsk:rd sg k=sk at ad HV
  have HSK:=zA.mk hsk
  clear hsk;go_enter Try.func126,Try.ntmps126
  try go_wp2
  refine Zv (n:=10) (S:=fun w'=>w'.cell? ⟨gs,0,none⟩=some (.slice (some ⟨bs,0,none⟩) sg.length cs)∧w'.cell? ⟨gq,0,none⟩=some (.slice (some ⟨bq,0,none⟩) qu.length cq)∧w'.cell? ⟨gi,0,none⟩=some (.int .i64 i)∧w'.cell? ⟨bq,i.toNat,none⟩=some (.int .i64 q)∧w'.cell? ⟨bs,q.toNat,none⟩=some (.int .i64 s)) (ds := []) #[false,false,false,false,false,false,false,false,false,false] (by kernel_rfl) rfl rfl ⟨hxS,hxQ,hxI,ae,ab⟩ (fun hHeld=>?_)
  refine ZA (i:=0) (N:=some 9) (v:=?_) (a':=?_) #[true,false,false,false,false,false,false,false,false,false] rfl rfl (by kernel_rfl) (fun _ _ _ h=>h) (Or.inl ⟨by rfl,?_⟩) hHeld ?_ ?_
  rotate_left
  · rintro w' ⟨s0,s1,s2,s3,s4⟩
    go_simp;with_reducible rfl
  rotate_left
  · simp only [Act.put,yay,yby,ycy,zX,za]
    rfl
  refine ZA (i:=1) (N:=some 10) (v:=?_) (a':=?_) #[true,true,false,false,false,false,false,false,false,false] rfl rfl (by kernel_rfl) (fun _ _ _ h=>h) (Or.inl ⟨by rfl,?_⟩) hHeld ?_ ?_
  rotate_left
  · rintro w' ⟨s0,s1,s2,s3,s4⟩
    go_simp;with_reducible rfl
  rotate_left
  · simp only [Act.put,yay,yby,ycy,zX,za]
    rfl
  refine ZA (i:=2) (N:=some 11) (v:=?_) (a':=?_) #[true,true,true,false,false,false,false,false,false,false] rfl rfl (by kernel_rfl) (fun _ _ _ h=>h) (Or.inl ⟨by rfl,?_⟩) hHeld ?_ ?_
  rotate_left
  · rintro w' ⟨s0,s1,s2,s3,s4⟩
    go_simp;with_reducible rfl
  rotate_left
  · simp only [Act.put,yay,yby,ycy,zX,za]
    rfl
  refine zg (i:=3) (N:=some 12) (v:=?_) (a':=?_) #[true,true,true,true,false,false,false,false,false,false] rfl rfl (by kernel_rfl) (fun _ _ _ h=>h) (Or.inl ⟨by rfl,?_⟩) ?_ ?_
  rotate_left
  · intro w'
    go_simp;with_reducible rfl
  rotate_left
  · simp only [Act.put,yay,yby,ycy,zX,za]
    rfl
  refine ZA (i:=4) (N:=some 13) (v:=?_) (a':=?_) #[true,true,true,true,true,false,false,false,false,false] rfl rfl (by kernel_rfl) (fun _ _ _ h=>h) (Or.inl ⟨by rfl,?_⟩) hHeld ?_ ?_
  rotate_left
  · rintro w' ⟨s0,s1,s2,s3,s4⟩
    go_simp;with_reducible rfl
  rotate_left
  · simp only [Act.put,yay,yby,ycy,zX,za]
    rfl
  refine zg (i:=5) (N:=some 14) (v:=?_) (a':=?_) #[true,true,true,true,true,true,false,false,false,false] rfl rfl (by kernel_rfl) (fun _ _ _ h=>h) (Or.inl ⟨by rfl,?_⟩) ?_ ?_
  rotate_left
  · intro w'
    go_simp;with_reducible rfl
  rotate_left
  · simp only [Act.put,yay,yby,ycy,zX,za]
    rfl
  refine ZA (i:=6) (N:=some 15) (v:=?_) (a':=?_) #[true,true,true,true,true,true,true,false,false,false] rfl rfl (by kernel_rfl) (fun _ _ _ h=>h) (Or.inl ⟨by rfl,?_⟩) hHeld ?_ ?_
  rotate_left
  · rintro w' ⟨s0,s1,s2,s3,s4⟩
    go_simp;with_reducible rfl
  rotate_left
  · simp only [Act.put,yay,yby,ycy,zX,za]
    rfl
  refine zg (i:=7) (N:=some 16) (v:=?_) (a':=?_) #[true,true,true,true,true,true,true,true,false,false] rfl rfl (by kernel_rfl) (fun _ _ _ h=>h) (Or.inl ⟨by rfl,?_⟩) ?_ ?_
  rotate_left
  · intro w'
    go_simp;with_reducible rfl
  rotate_left
  · simp only [Act.put,yay,yby,ycy,zX,za]
    rfl
  refine zg (i:=8) (N:=some 17) (v:=?_) (a':=?_) #[true,true,true,true,true,true,true,true,true,false] rfl rfl (by kernel_rfl) (fun _ _ _ h=>h) (Or.inl ⟨by rfl,?_⟩) ?_ ?_
  rotate_left
  · intro w'
    go_simp;with_reducible rfl
  rotate_left
  · simp only [Act.put,yay,yby,ycy,zX,za]
    rfl
  refine zg (i:=9) (N:=some 8) (v:=?_) (a':=?_) #[true,true,true,true,true,true,true,true,true,true] rfl rfl (by kernel_rfl) (fun _ _ _ h=>h) (Or.inl ⟨by rfl,?_⟩) ?_ ?_
  rotate_left
  · intro w'
    go_simp;with_reducible rfl
  rotate_left
  · simp only [Act.put,yay,yby,ycy,zX,za]
    rfl
  refine Qo (by kernel_rfl) ?_
  have af:=zA.mk HS.out.drew
  have HO:=zA.mk (Kept.drew (Kept.refl w (QS bs gq go (Value.slice (some ⟨bq,0,none⟩) qu.length cq).ownBlock)))
  clear HS hHeld;replace hxS:w.drew.cell? ⟨gs,0,none⟩=some (.slice (some ⟨bs,0,none⟩) sg.length cs):=hxS
  replace hxQ:w.drew.cell? ⟨gq,0,none⟩=some (.slice (some ⟨bq,0,none⟩) qu.length cq):=hxQ
  replace ad:w.drew.cell? ⟨bs,k.toNat,none⟩=some (.int .i64 sk):=ad
  replace ag:w.drew.frozen? ⟨bs,k.toNat,none⟩=false:=ag
  replace hfQ:w.drew.frozen? ⟨gq,0,none⟩=false:=hfQ
  replace hfO:w.drew.frozen? ⟨go,0,none⟩=false:=hfO
  replace hxO:w.drew.cell? ⟨go,0,none⟩=some (.bool ok):=hxO
  clear ae ab hxI;generalize w.drew=wd at *
  generalize wrap64 (s*t)=want at HV ⊢
  by_cases c0:sk=0
  · subst c0
    rw[if_pos rfl]at HV
    clear hxO hfO;go_wp2_with (first
      | ((with_reducible refine Zi (t:=2) (p:=27) rfl ?_);refine ZU (t:=2) (p:=27) (v:=?vo) (w1:=(wd.setCell ⟨bs,k.toNat,none⟩ (.int .i64 want))) ?hg ?ho ?hn ?hr ?_;(case ho=>rfl);(case hg=>rfl);(case hn=>rfl);(case hr=>first|(go_simp;done)|(go_simp;rfl));intro w2 hw;have aa:=zA.mk (show Sg0 w0 w2 gs gq gi go bs cs i (sg.set k.toNat want) qu ok _ _ by rw[hw];exact af.out.sign k want);have ah:=zA.mk (show Kept w w2 (QS bs gq go (Value.slice (some ⟨bq,0,none⟩) qu.length cq).ownBlock)by rw[hw];exact HO.out.setCell (p:=⟨bs,k.toNat,none⟩) (.inl (.inl rfl)) _);clear af HO hw hxS hxQ ad ag hfQ;have hxQ:w2.cell? ⟨gq,0,none⟩=some (.slice (some ⟨bq,0,none⟩) qu.length cq):=(zK aa.out.bQ 0).trans rfl)
      | ((with_reducible refine ZN (b := .append) (xs:=#[.tmp 28,.tmp 30]) rfl ?_);at_builtin;refine Kd.Qn (Kd.int .i64) (w0:=w0) w0.heap.size rfl (.tmp 28) (.tmp 30) 22 2 (.int .i64 0) 8 rfl Try.underlying22 Jp rfl (by decide) (by omega) (.slice (some ⟨bq,0,none⟩) qu.length cq) qu k [.int .i64 k] (fun k=>k≠bs) (fun _=>False) rfl rfl ?aP (fun _ hk=>hk.elim) ?aF ?aO ?aB ?aS ?aL ?_;(case aP=>exact rfl);(case aB=>exact aa.out.below);(case aF=>exact(fun k_ hk_ e_=>by obtain⟨_,hc_⟩:=aa.out.row;have:=qT hc_;omega));(case aO=>exact aa.out.rQ);(case aS=>exact zQ aa.out.below);(case aL=>have:=HN.out;omega);intro v1 w3 ho hb hg hat;obtain⟨A1,c1,rfl⟩:=Kd.ZE ho;have ai:=zA.mk (aa.out.grown ho hb hg);have HAT:zA ((Value.slice A1 (qu ++ [k]).length c1).ownBlock=(Value.slice (some ⟨bq,0,none⟩) qu.length cq).ownBlock ∨ ∃ b,(Value.slice A1 (qu ++ [k]).length c1).ownBlock=some b∧w.heap.size≤b):=⟨by rcases hat with h_|⟨b_,ar,au⟩;exact .inl h_;exact .inr ⟨b_,ar,Nat.le_trans ah.out.1 au⟩⟩;have av:=zA.mk (Kept.zDC hg ah.out (fun k_ hk_ => .inl (.inr (.inr (.inr hk_.symm)))));clear ah aa ho hb hg hat hxQ;have hxQ:w3.cell? ⟨gq,0,none⟩=some (.slice (some ⟨bq,0,none⟩) qu.length cq):=(zK ai.out.bQ 0).trans rfl;have hfQ:=zP ai.out.bQ 0))
    try go_wp2
    first|go_end0|((try simp only [Exit.inBlock,Exit.then]);refine bodyPost_ret (results_none rfl _ _ _) rfl ?_)
    refine⟨?_,.slice A1 (qu.length+1) c1,?_,av.out.setCell (p:=⟨gq,0,none⟩) (.inl (.inr (.inl rfl))) _,by have q_:=HAT.out;rw[List.length_append]at q_;exact q_⟩
    · first|rfl|(simp <;> rfl)
    · rw[HV.out]
      have h5:=ai.out.queue
      rw[List.length_append]at h5
      exact h5
  · have d0:(sk==0)=false:=by simp [c0]
    have ax : decide (sk=0)=false:=yhy c0
    rw[if_neg c0]at HV
    by_cases c1:sk=wrap64 (-want)
    · rw[if_pos c1]at HV
      have d1:(sk==wrap64 (-want))=true:=beq_iff_eq.mpr c1
      have aw : decide (sk=wrap64 (-want))=true:=ygy c1
      clear c0 c1;try go_wp2
      first|go_end0|((try simp only [Exit.inBlock,Exit.then]);refine bodyPost_ret (results_none rfl _ _ _) rfl ?_)
      refine⟨?_,_,by rw[HV.out];exact af.out.fails false,HO.out.setCell (p:=⟨go,0,none⟩) (.inl (.inr (.inr (.inl rfl)))) _,.inl rfl⟩
      first|rfl|(simp <;> rfl)
    · rw[if_neg c1]at HV
      have d1:(sk==wrap64 (-want))=false:=by simp [c1]
      have aw : decide (sk=wrap64 (-want))=false:=yhy c1
      clear c0 c1;go_wp2;first|go_end0|((try simp only [Exit.inBlock,Exit.then]);refine bodyPost_ret (results_none rfl _ _ _) rfl ?_)
      refine⟨?_,_,by rw[HV.out];exact af.out,HO.out,.inl rfl⟩
      first|rfl|(simp <;> rfl)
def zBi (t:List (List zv)) (cls:List Int) (c i x:Int):List Int→List Int × List Int × Bool→List Int × List Int × Bool
 | [],s=>s
 | f :: fs,s=>zBi t cls c i x fs (if rd cls x=c ∧ ¬ (zI (zE t (x/4)) f).f0<0 then vis s.1 s.2.1 s.2.2 i (4*(zI (zE t (x/4)) f).f0+rd (qP (zI (zE t (x/4)) f).f1) (x%4)) (wrap64 (-(zBr (zI (zE t (x/4)) f).f1)))else s)
theorem lo_sg (sg qu:List Int) (ok:Bool) (i k t:Int):(vis sg qu ok i k t).1.length=sg.length:=by
 unfold vis
 split
 next=>
  simp
 split <;> rfl
theorem lo_qu (sg qu:List Int) (ok:Bool) (i k t:Int):(vis sg qu ok i k t).2.1=qu∨(vis sg qu ok i k t).2.1=qu ++ [k]:=by
 unfold vis
 split
 next=>
  right;rfl
 split <;> (left;rfl)
theorem zIG (qu:List Int) (k i:Int) (h0:0≤i) (h1:i<qu.length):rd (qu ++ [k]) i=rd qu i:=by
 obtain⟨n,rfl⟩:=Int.eq_ofNat_of_zero_le h0
 rw[rd,rd,yny,List.getD_eq_getElem?_getD,List.getD_eq_getElem?_getD,List.getElem?_append_left (by omega)]
theorem zHp {w w' : World} {b bs gq go:Nat} {b0 b1:Option Nat} {v:Value} {L:List Int} (h:Kd.R (Kd.int .i64) 2 w b (fun k=>k≠bs∧k≠gq∧k≠go∧some k≠b0) v L) (hk:Kept w w' (QS bs gq go b0)) (hq:b1=b0 ∨ ∃ q,b1=some q∧w.heap.size≤q):Kd.R (Kd.int .i64) 2 w' b (fun k=>k≠bs∧k≠gq∧k≠go∧some k≠b1) v L:=by
 refine Kd.qC (Kd.zAI (Kd.Zy h) hk (fun k h1 h2=>?_)) (fun k h1=>⟨h1.1.1,h1.1.2.1,h1.1.2.2.1,fun e=>?_⟩)
 next=>
  rcases h2 with e|e|e|e
  next=>
   exact h1.1.1 e
  next=>
   exact h1.1.2.1 e
  next=>
   exact h1.1.2.2.1 e
  exact h1.1.2.2.2 e
 rcases hq with rfl|⟨q,rfl,hq⟩
 next=>
  exact h1.1.2.2.2 e
 cases e
 have:=h1.2.2.1
 omega
theorem lo_bd (p:Int) : -1≤zBr p∧zBr p≤1:=zGk _ _
set_option maxHeartbeats 8000000 in
set_option maxRecDepth 100000 in
theorem zA9.calls (l:List (List zv)) (A0:Option Addr) (c0 gt gK ge:Nat) (AK:Option Addr) (ck:Nat) (cls:List Int) (c x:Int) (gs gq gi go bs cs:Nat) (i:Int) (ai ae:List Int) (ak:Bool) (az:Value) (w0 w:World)
 (hS:Sg w0 w gs gq gi go bs cs i ai ae ak az) (bT:w0.heap[gt]?=some (.cells #[.slice A0 l.length c0] 35 (0,0))) (hT:Kd.C (Kd.slice 75 ZZ) w0 A0 l.length l)
 (bK:w0.heap[gK]?=some (.cells #[.slice AK cls.length ck] 22 (0,0))) (hK:Kd.C (Kd.int .i64) w0 AK cls.length cls) (bE:w0.heap[ge]?=some (.cells #[.int .i64 c] 2 (0,0)))
 (bh:l.length≤8) (hcl:cls.length=4*l.length) (aq:0≤x) (bj:x<4*(l.length:Int)) (hsg:ai.length=4*l.length) (aF:0≤i) (aG:i<ae.length) (aH:0≤rd ae i) (aI:rd ae i<4*(l.length:Int))
 (hr : ∀ r∈l,r.length=4) (hF : ∀ r∈l,∀ y∈r,¬ y.f0<0→0≤y.f0∧y.f0<(l.length:Int)∧0≤y.f1∧y.f1≤23) (hn:ae.length<999000) :
 Calls Try.prog 104 #[.int .i64 x,.func (.func 126) #[] #[.pointer (some ⟨gs,0,none⟩),.pointer (some ⟨gq,0,none⟩),.pointer (some ⟨gi,0,none⟩),.pointer (some ⟨go,0,none⟩)],.pointer (some ⟨gt,0,none⟩),.pointer (some ⟨gK,0,none⟩),.pointer (some ⟨ge,0,none⟩)] w
  fun e w'=>e = .returned (.tuple #[]) ∧ ∃ vq',Sg w0 w' gs gq gi go bs cs i (zBi l cls c i x (Qt [x%4]) (ai,ae,ak)).1 (zBi l cls c i x (Qt [x%4]) (ai,ae,ak)).2.1 (zBi l cls c i x (Qt [x%4]) (ai,ae,ak)).2.2 vq':=by
 have hdv:Int.tdiv x 4=x/4:=Int.tdiv_eq_ediv_of_nonneg aq
 have hmd:Int.tmod x 4=x%4:=Int.tmod_eq_emod_of_nonneg aq
 have hwd:wrap64 (Int.tdiv x 4)=x/4:=by rw[hdv];exact Lib.ql (by omega) (by omega)
 have aJ:0≤x/4:=by omega
 have aK:x/4<(l.length:Int):=by omega
 have aL:0≤x%4:=by omega
 have aM:x%4≤3:=by omega
 have HV:=zA.mk (show ∀ L s,zBi l cls c i x L s=zBi l cls c i x L s from fun _ _=>rfl)
 have hrd:zE l (x/4)∈l:=by
  obtain⟨d,hd⟩:=Int.eq_ofNat_of_zero_le aJ
  rw[hd]at aK ⊢
  have aY:d<l.length:=by omega
  have e:zE l (d:Int)=l[d]:=by simp [zE,aY]
  rw[e];exact yoy _
 have av:=hr _ hrd
 have hFr:=hF _ hrd
 obtain⟨aZ,A1,c1,e1,aw,bk,aN⟩:=ZY hT (x/4) aJ aK
 subst e1;obtain⟨adk,ek,hkx⟩:=Kd.qw hK x aq (by omega)
 subst ek;have hyT:w0.cell? ⟨gt,0,none⟩=some (.slice (some aZ) l.length c0):=(zK bT 0).trans rfl
 have hyK:w0.cell? ⟨gK,0,none⟩=some (.slice (some adk) cls.length ck):=(zK bK 0).trans rfl
 have hyE:w0.cell? ⟨ge,0,none⟩=some (.int .i64 c):=(zK bE 0).trans rfl
 have aO:=zA.mk hyT
 have aP:=zA.mk hyK
 have aQ:=zA.mk hyE
 have aA:=zA.mk aw
 have aR:=zA.mk hkx
 have a1:=zA.mk aN
 have HS:=zA.mk hS
 have HF:=zA.mk hFr
 have HR:=zA.mk (And.intro av (And.intro hsg hn))
 have HQ:=zA.mk (And.intro aF (And.intro aG (And.intro aH aI)))
 clear aN hS hF hr hsg hn aF aG aH aI hT bT hK bK bE hrd av hFr hyT hyK hyE aw hkx HV;have HCF:zA (∀ (W:World) (g:Nat),W.heap.size=g→Kd.C (Kd.int .i64) (W.alloc (.cells #[.int .i64 (x%4)] 2)) (some ⟨g,0,none⟩) 1 [x%4]):=⟨fun W g hg=>by subst hg;exact(Kd.zq (show Kd.R (Kd.int .i64) 2 (W.alloc (.cells #[.int .i64 (x%4)] 2)) W.heap.size (fun _=>True) (.slice (some ⟨W.heap.size,0,none⟩) 1 1) [x%4]from
  Kd.JG ⟨by simp [zAo],.inr ⟨W.heap.size,1,#[.int .i64 (x%4)],rfl,yry _,ZL rfl _,yry 1,by decide,rfl,rfl⟩⟩ (fun _ _=>trivial))).2.2⟩
 generalize hRR:zBi l cls c i x (Qt [x%4]) (ai,ae,ak)=RR
 have HRR:=zA.mk hRR
 clear hRR;go_enter Try.func104,Try.ntmps104
 go_wp2_with fail
 refine(Zk.calls _ 1 [x%4] (Qt [x%4]) _ (HCF.out _ _ rfl) (yry 1) rfl).mono ?_
 rintro ed w2 ⟨v0,rfl,ho,hb⟩
 have aS:Below w.heap.size w w2:=zM (zC (ysy _ _) _) hb
 have hgq:=qT HS.out.bQ
 have hgo:=qT HS.out.bO
 have hbs:=qT HS.out.row.choose_spec
 have hvq:=Kd.JO HS.out.rQ
 have a2:=HS.out.below.size
 have hsz:(w.alloc (.cells #[.int .i64 (x%4)] 2)).heap.size=w.heap.size+1:=by simp
 have HO:zA (Kd.R (Kd.int .i64) 2 w2 w0.heap.size (fun k=>k≠bs∧k≠gq∧k≠go∧some k≠az.ownBlock) v0 (Qt [x%4])):=⟨Kd.qx (Kd.qC (Kd.Zy ho) (fun k hk=>by
  have h1:=hk.2.1
  rw[hsz]at h1
  exact⟨by omega,by omega,by omega,fun e=>by have:=hvq k e.symm;omega⟩)) (by omega)⟩
 have aT:=zA.mk (HS.out.stays aS)
 have HLM:=zA.mk (show ∀ q∈Qt [x%4],sm q from fun q hq=>(QX hq).1)
 have a5:(Qt [x%4]).length≤4:=List.length_filter_le _ _
 clear HS ho hb aS hgq hgo hbs hvq a2 hsz HCF;have HS:=aT;clear aT;obtain⟨A2,c2,ev⟩:=Kd.ZE HO.out
 subst ev;generalize Qt [x%4]=L at HO HLM a5 HRR ⊢
 have aU:zA (zBi l cls c i x (L.drop 0) (ai,ae,ak)=RR):=⟨by rw[List.drop_zero];exact HRR.out⟩
 generalize hgA:x/4=a at *
 generalize hgV:x%4=v at *
 go_wp2;go_loopg [20] L.length (fun gg v20 w' => ∃ (j:Nat) (sg qu:List Int) (ok:Bool) (vq:Value),j≤L.length∧L.length-j≤gg∧v20 = .int .i64 j∧zA (zBi l cls c i x (L.drop j) (sg,qu,ok)=RR)∧zA (Sg w0 w' gs gq gi go bs cs i sg qu ok vq)∧zA (sg.length=4*l.length∧i<qu.length∧rd qu i=rd ae i∧qu.length≤ae.length+j)∧zA (Kd.R (Kd.int .i64) 2 w' w0.heap.size (fun k=>k≠bs∧k≠gq∧k≠go∧some k≠vq.ownBlock) (.slice A2 L.length c2) L))
 case atStart=>exact⟨0,ai,ae,ak,az,Nat.zero_le _,by omega,rfl,aU,HS,⟨HR.out.2.1,HQ.out.2.1,rfl,by omega⟩,HO⟩
 case round=>
  clear HS aU HO;obtain⟨j,sg,qu,ok,vq,hj,hg,rfl,HA,HS,HX,HO⟩:=hrel
  by_cases hlt:j<L.length
  case neg=>
   obtain rfl:j=L.length:=by omega
   go_wp2;first|go_end0|((try simp only [Exit.inBlock,Exit.then]);refine bodyPost_ret (results_none rfl _ _ _) rfl ?_)
   have an:=HA.out
   rw[List.drop_length,zBi]at an
   refine⟨?_,vq,?_⟩
   next=>
    first|rfl|(simp <;> rfl)
   rw[← an];exact HS.out
  have hltz:(j:Int)<(L.length:Int):=by omega
  obtain⟨bl,e2,aB⟩:=Kd.qw (Kd.zq HO.out).2.2 (j:Int) (by omega) hltz
  have ex:rd L (j:Int)=L[j]:=by simp [rd,hlt]
  rw[ex,yny]at aB
  obtain⟨aC,a6⟩:=HLM.out L[j] (yoy hlt)
  have an:=HA.out
  rw[ypy hlt,zBi,hgA,hgV]at an
  have aj:=zA.mk an
  clear HA an ex;generalize L[j]=f at aB aC a6 aj
  have a7:f<4:=by omega
  have av:(zE l a).length=4:=HR.out.1
  obtain⟨adf,ef,ar,au⟩:=QF a1.out f aC (by omega)
  subst ef;rw[av]at aA
  have HFB:=zA.mk (show ¬ (zI (zE l a) f).f0<0→0≤(zI (zE l a) f).f0∧(zI (zE l a) f).f0<(l.length:Int)∧0≤(zI (zE l a) f).f1∧(zI (zE l a) f).f1≤23 from by
   obtain⟨fn,hfn⟩:=Int.eq_ofNat_of_zero_le aC
   rw[hfn]at a7 ⊢
   have hlf:fn<(zE l a).length:=by omega
   have e2:zI (zE l a) (fn:Int)=(zE l a)[fn]:=by simp [zI,hlf]
   rw[e2]
   exact fun hq=>HF.out _ (yoy hlf) (by omega))
  have hyT:=(HS.out.below.cell (yqy w0 _ aO.out)).trans aO.out
  have aw:=(HS.out.below.cell (yqy w0 _ aA.out)).trans aA.out
  replace ar:=(HS.out.below.cell (yqy w0 _ ar)).trans ar
  replace au:=(HS.out.below.cell (yqy w0 _ au)).trans au
  have HCC:=zA.mk ((HS.out.below.cell (yqy w0 _ aP.out)).trans aP.out)
  have HCE:=zA.mk ((HS.out.below.cell (yqy w0 _ aR.out)).trans aR.out)
  have HCL:=zA.mk ((HS.out.below.cell (yqy w0 _ aQ.out)).trans aQ.out)
  generalize zI (zE l a) f=y at ar au HFB aj
  obtain⟨f0,f1⟩:=y
  subst e2;dsimp only at aj HFB
  go_wp2;have BF:=zA.mk (ZL (W:=wr) rfl (.cells #[.int .i64 f0,.int .i64 f1] 75))
  have hal:Below wr.heap.size wr (wr.alloc (.cells #[.int .i64 f0,.int .i64 f1] 75)):=zC (ysy _ _) _
  have aa:=zA.mk (HS.out.stays hal)
  have ab:=zA.mk (Kd.qN HO.out hal)
  have af:=(hal.cell (yqy _ _ HCC.out)).trans HCC.out
  have ag:=(hal.cell (yqy _ _ HCL.out)).trans HCL.out
  have ah:=(hal.cell (yqy _ _ HCE.out)).trans HCE.out
  clear HS HO HCC HCL HCE hal hyT aw ar au aB;have HS:=aa;have HO:=ab;have HCC:=zA.mk af
  have HCL:=zA.mk ag
  have HCE:=zA.mk ah
  clear aa ab af ag ah;generalize World.alloc wr _=w3 at BF HS HO HCC HCL HCE ⊢
  generalize wr.heap.size=gf at BF ⊢
  obtain⟨y,hyx⟩ : ∃ y,rd cls x=y:=⟨_,rfl⟩
  rw[hyx]at aj HCE
  have a8:=aq;have px:=eq_true aq
  have bm:=eq_true (show x<(cls.length:Int)by omega)
  obtain⟨bb,hbb⟩ : ∃ b,decide (f0<0)=b:=⟨_,rfl⟩
  have HISB:=zA.mk (show qe.f f0 f1=some bb by unfold qe.f;rw[hbb])
  have HBB:=zA.mk hbb
  clear hbb;by_cases hcc:y=c
  case neg=>
   have b1:(y==c)=false:=by simpa using hcc
   have ao:=zA.mk (show zBi l cls c i x (L.drop (j+1)) (sg,qu,ok)=RR by have h9:=aj.out;rwa [if_neg (fun k=>hcc k.1)]at h9)
   clear aj HISB HBB;refine Zv (n:=11) (S:=fun w'=>w'.cell? ⟨gK,0,none⟩=some (.slice (some adk) cls.length ck)∧w'.cell? (adk.add x.toNat)=some (.int .i64 y)∧w'.cell? ⟨ge,0,none⟩=some (.int .i64 c)∧w'.cell? ⟨gf,0,none⟩=some (.int .i64 f0)∧w'.cell? ⟨gf,1,none⟩=some (.int .i64 f1)) (ds := []) #[false,false,false,false,false,false,false,false,false,false,false] (by kernel_rfl) rfl rfl ⟨HCC.out,HCE.out,HCL.out,(zK BF.out 0).trans rfl,(zK BF.out 1).trans rfl⟩ (fun hHeld=>?_)
   have aa:=zA.mk HS.out.drew
   have ad:=zA.mk (zJ BF.out)
   have ab:=zA.mk (Kd.zZ HO.out)
   replace HCC:=zA.mk (show w3.drew.cell? ⟨gK,0,none⟩=_ from HCC.out)
   replace HCE:=zA.mk (show w3.drew.cell? (adk.add x.toNat)=_ from HCE.out)
   replace HCL:=zA.mk (show w3.drew.cell? ⟨ge,0,none⟩=_ from HCL.out)
   clear HS BF HO;have HS:=aa;have BF:=ad;have HO:=ab;clear aa ad ab;generalize w3.drew=w4 at HS BF HO HCC HCL HCE hHeld ⊢
   refine ZA (i:=0) (N:=some 32) (v:=?_) (a':=?_) #[true,false,false,false,false,false,false,false,false,false,false] rfl rfl (by kernel_rfl) (fun _ _ _ h=>h) (Or.inl ⟨by rfl,?_⟩) hHeld ?_ ?_
   rotate_left
   next=>
    rintro w' ⟨s0,s1,s2,s3,s4⟩
    go_simp;with_reducible rfl
   rotate_left
   next=>
    simp only [Act.put,yay,yby,ycy,zX,za]
    rfl
   refine zg (i:=1) (N:=some 33) (v:=?_) (a':=?_) #[true,true,false,false,false,false,false,false,false,false,false] rfl rfl (by kernel_rfl) (fun _ _ _ h=>h) (Or.inl ⟨by rfl,?_⟩) ?_ ?_
   rotate_left
   next=>
    intro w';go_simp;with_reducible rfl
   rotate_left
   next=>
    simp only [Act.put,yay,yby,ycy,zX,za]
    rfl
   refine zg (i:=2) (N:=some 34) (v:=?_) (a':=?_) #[true,true,true,false,false,false,false,false,false,false,false] rfl rfl (by kernel_rfl) (fun _ _ _ h=>h) (Or.inl ⟨by rfl,?_⟩) ?_ ?_
   rotate_left
   next=>
    intro w';go_simp;with_reducible rfl
   rotate_left
   next=>
    simp only [Act.put,yay,yby,ycy,zX,za]
    rfl
   refine ZA (i:=3) (N:=some 35) (v:=?_) (a':=?_) #[true,true,true,true,false,false,false,false,false,false,false] rfl rfl (by kernel_rfl) (fun _ _ _ h=>h) (Or.inl ⟨by rfl,?_⟩) hHeld ?_ ?_
   rotate_left
   next=>
    rintro w' ⟨s0,s1,s2,s3,s4⟩
    go_simp;with_reducible rfl
   rotate_left
   next=>
    simp only [Act.put,yay,yby,ycy,zX,za]
    rfl
   refine ZA (i:=4) (N:=some 36) (v:=?_) (a':=?_) #[true,true,true,true,true,false,false,false,false,false,false] rfl rfl (by kernel_rfl) (fun _ _ _ h=>h) (Or.inl ⟨by rfl,?_⟩) hHeld ?_ ?_
   rotate_left
   next=>
    rintro w' ⟨s0,s1,s2,s3,s4⟩
    go_simp;with_reducible rfl
   rotate_left
   next=>
    simp only [Act.put,yay,yby,ycy,zX,za]
    rfl
   refine zg (i:=5) (N:=some 37) (v:=?_) (a':=?_) #[true,true,true,true,true,true,false,false,false,false,false] rfl rfl (by kernel_rfl) (fun _ _ _ h=>h) (Or.inl ⟨by rfl,?_⟩) ?_ ?_
   rotate_left
   next=>
    intro w';go_simp;with_reducible rfl
   rotate_left
   next=>
    simp only [Act.put,yay,yby,ycy,zX,za]
    rfl
   refine zg (i:=6) (N:=some 38) (v:=?_) (a':=?_) #[true,true,true,true,true,true,true,false,false,false,false] rfl rfl (by kernel_rfl) (fun _ _ _ h=>h) (Or.inl ⟨by rfl,?_⟩) ?_ ?_
   rotate_left
   next=>
    intro w';go_simp;with_reducible rfl
   rotate_left
   next=>
    simp only [Act.put,yay,yby,ycy,zX,za]
    rfl
   refine zg (i:=7) (N:=some 39) (v:=undef) (a':=?_) #[true,true,true,true,true,true,true,true,false,false,false] rfl rfl (by kernel_rfl) (fun _ _ _ h=>h) (Or.inr ⟨by rfl,rfl⟩) ?_ ?_
   rotate_left
   next=>
    simp only [Act.put,yay,yby,ycy,zX,za]
    rfl
   refine zg (i:=8) (N:=some 40) (v:=undef) (a':=?_) #[true,true,true,true,true,true,true,true,true,false,false] rfl rfl (by kernel_rfl) (fun _ _ _ h=>h) (Or.inr ⟨by rfl,rfl⟩) ?_ ?_
   rotate_left
   next=>
    simp only [Act.put,yay,yby,ycy,zX,za]
    rfl
   refine zg (i:=9) (N:=some 41) (v:=undef) (a':=?_) #[true,true,true,true,true,true,true,true,true,true,false] rfl rfl (by kernel_rfl) (fun _ _ _ h=>h) (Or.inr ⟨by rfl,rfl⟩) ?_ ?_
   rotate_left
   next=>
    simp only [Act.put,yay,yby,ycy,zX,za]
    rfl
   refine zg (i:=10) (N:=some 42) (v:=?_) (a':=?_) #[true,true,true,true,true,true,true,true,true,true,true] rfl rfl (by kernel_rfl) (fun _ _ _ h=>h) (Or.inl ⟨by rfl,?_⟩) ?_ ?_
   rotate_left
   next=>
    intro w';go_simp;with_reducible rfl
   rotate_left
   next=>
    simp only [Act.put,yay,yby,ycy,zX,za]
    rfl
   refine Qo (by kernel_rfl) ?_
   clear hHeld HCC HCL HCE;go_wp2;go_roundg (L.length-(j+1))
   case measure=>omega
   case rel=>exact⟨j+1,sg,qu,ok,vq,by omega,by omega,by go_num,ao,HS,⟨HX.out.1,HX.out.2.1,HX.out.2.2.1,by have:=HX.out.2.2.2;omega⟩,HO⟩
  have b1:(y==c)=true:=by rw[hcc];exact beq_self_eq_true _
  have ao:zA (zBi l cls c i x (L.drop (j+1)) (if ¬ f0<0 then vis sg qu ok i (4*f0+rd (qP f1) v) (wrap64 (-(zBr f1)))else(sg,qu,ok))=RR):=⟨by
   have h9:=aj.out
   by_cases hb:f0<0
   next=>
    rw[if_neg (fun k=>by have:=k.2;omega)]at h9
    rw[if_neg (fun k=>k hb)];exact h9
   rw[if_pos ⟨hcc,by omega⟩]at h9
   rw[if_pos hb];exact h9⟩
  clear aj;refine Zv (n:=11) (S:=fun w'=>w'.cell? ⟨gK,0,none⟩=some (.slice (some adk) cls.length ck)∧w'.cell? (adk.add x.toNat)=some (.int .i64 y)∧w'.cell? ⟨ge,0,none⟩=some (.int .i64 c)∧w'.cell? ⟨gf,0,none⟩=some (.int .i64 f0)∧w'.cell? ⟨gf,1,none⟩=some (.int .i64 f1)) (ds := []) #[false,false,false,false,false,false,false,false,false,false,false] (by kernel_rfl) rfl rfl ⟨HCC.out,HCE.out,HCL.out,(zK BF.out 0).trans rfl,(zK BF.out 1).trans rfl⟩ (fun hHeld=>?_)
  have aa:=zA.mk HS.out.drew
  have ad:=zA.mk (zJ BF.out)
  have ab:=zA.mk (Kd.zZ HO.out)
  replace HCC:=zA.mk (show w3.drew.cell? ⟨gK,0,none⟩=_ from HCC.out)
  replace HCE:=zA.mk (show w3.drew.cell? (adk.add x.toNat)=_ from HCE.out)
  replace HCL:=zA.mk (show w3.drew.cell? ⟨ge,0,none⟩=_ from HCL.out)
  clear HS BF HO;have HS:=aa;have BF:=ad;have HO:=ab;clear aa ad ab;generalize w3.drew=w4 at HS BF HO HCC HCL HCE hHeld ⊢
  refine ZA (i:=0) (N:=some 32) (v:=?_) (a':=?_) #[true,false,false,false,false,false,false,false,false,false,false] rfl rfl (by kernel_rfl) (fun _ _ _ h=>h) (Or.inl ⟨by rfl,?_⟩) hHeld ?_ ?_
  rotate_left
  next=>
   rintro w' ⟨s0,s1,s2,s3,s4⟩
   go_simp;with_reducible rfl
  rotate_left
  next=>
   simp only [Act.put,yay,yby,ycy,zX,za]
   rfl
  refine zg (i:=1) (N:=some 33) (v:=?_) (a':=?_) #[true,true,false,false,false,false,false,false,false,false,false] rfl rfl (by kernel_rfl) (fun _ _ _ h=>h) (Or.inl ⟨by rfl,?_⟩) ?_ ?_
  rotate_left
  next=>
   intro w';go_simp;with_reducible rfl
  rotate_left
  next=>
   simp only [Act.put,yay,yby,ycy,zX,za]
   rfl
  refine zg (i:=2) (N:=some 34) (v:=?_) (a':=?_) #[true,true,true,false,false,false,false,false,false,false,false] rfl rfl (by kernel_rfl) (fun _ _ _ h=>h) (Or.inl ⟨by rfl,?_⟩) ?_ ?_
  rotate_left
  next=>
   intro w';go_simp;with_reducible rfl
  rotate_left
  next=>
   simp only [Act.put,yay,yby,ycy,zX,za]
   rfl
  refine ZA (i:=3) (N:=some 35) (v:=?_) (a':=?_) #[true,true,true,true,false,false,false,false,false,false,false] rfl rfl (by kernel_rfl) (fun _ _ _ h=>h) (Or.inl ⟨by rfl,?_⟩) hHeld ?_ ?_
  rotate_left
  next=>
   rintro w' ⟨s0,s1,s2,s3,s4⟩
   go_simp;with_reducible rfl
  rotate_left
  next=>
   simp only [Act.put,yay,yby,ycy,zX,za]
   rfl
  refine ZA (i:=4) (N:=some 36) (v:=?_) (a':=?_) #[true,true,true,true,true,false,false,false,false,false,false] rfl rfl (by kernel_rfl) (fun _ _ _ h=>h) (Or.inl ⟨by rfl,?_⟩) hHeld ?_ ?_
  rotate_left
  next=>
   rintro w' ⟨s0,s1,s2,s3,s4⟩
   go_simp;with_reducible rfl
  rotate_left
  next=>
   simp only [Act.put,yay,yby,ycy,zX,za]
   rfl
  refine zg (i:=5) (N:=some 37) (v:=?_) (a':=?_) #[true,true,true,true,true,true,false,false,false,false,false] rfl rfl (by kernel_rfl) (fun _ _ _ h=>h) (Or.inl ⟨by rfl,?_⟩) ?_ ?_
  rotate_left
  next=>
   intro w';go_simp;with_reducible rfl
  rotate_left
  next=>
   simp only [Act.put,yay,yby,ycy,zX,za]
   rfl
  refine zg (i:=6) (N:=some 38) (v:=?_) (a':=?_) #[true,true,true,true,true,true,true,false,false,false,false] rfl rfl (by kernel_rfl) (fun _ _ _ h=>h) (Or.inl ⟨by rfl,?_⟩) ?_ ?_
  rotate_left
  next=>
   intro w';go_simp;with_reducible rfl
  rotate_left
  next=>
   simp only [Act.put,yay,yby,ycy,zX,za]
   rfl
  refine ZA (i:=7) (N:=some 39) (v:=?_) (a':=?_) #[true,true,true,true,true,true,true,true,false,false,false] rfl rfl (by kernel_rfl) (fun _ _ _ h=>h) (Or.inl ⟨by rfl,?_⟩) hHeld ?_ ?_
  rotate_left
  next=>
   rintro w' ⟨s0,s1,s2,s3,s4⟩
   go_simp;with_reducible rfl
  rotate_left
  next=>
   simp only [Act.put,yay,yby,ycy,zX,za]
   rfl
  refine zA4 (i:=8) (N:=some 40) #[true,true,true,true,true,true,true,true,true,false,false] rfl rfl (by kernel_rfl) (by decide) (fun K hK=>?_)
  refine QO Try.func77 (by kernel_rfl) rfl #[.agg #[.int .i64 f0,.int .i64 f1]] (by rfl) rfl rfl (by(try simp only [yiy,yjy,yky]);first|done|rfl) ?_
  refine(qe.calls f0 f1 bb _ HISB.out).mono ?_
  rintro ed w8 ⟨rfl,hnd⟩
  refine⟨_,rfl,?_⟩
  have aa:=zA.mk (HS.out.stays hnd)
  have ad:=zA.mk (zO BF.out hnd)
  have ab:=zA.mk (Kd.qN HO.out hnd)
  have af:=(hnd.cell (yqy _ _ HCC.out)).trans HCC.out
  have ag:=(hnd.cell (yqy _ _ HCL.out)).trans HCL.out
  have ah:=(hnd.cell (yqy _ _ HCE.out)).trans HCE.out
  clear HS BF HO HCC HCL HCE hnd;have HS:=aa;have BF:=ad;have HO:=ab;have HCC:=zA.mk af
  have HCL:=zA.mk ag
  have HCE:=zA.mk ah
  clear aa ad ab af ag ah;refine hK.out _ _ ⟨HCC.out,HCE.out,HCL.out,(zK BF.out 0).trans rfl,(zK BF.out 1).trans rfl⟩ (fun hHeld=>?_)
  clear hK K;refine QE (a':=?_) ?_ ?_
  rotate_left
  next=>
   show Act.put _ (some 40) _=_
   simp only [Act.put,yay,yby,ycy,zX,za]
   rfl
  refine zg (i:=9) (N:=some 41) (v:=?_) (a':=?_) #[true,true,true,true,true,true,true,true,true,true,false] rfl rfl (by kernel_rfl) (fun _ _ _ h=>h) (Or.inl ⟨by rfl,?_⟩) ?_ ?_
  rotate_left
  next=>
   intro w';go_simp;with_reducible rfl
  rotate_left
  next=>
   simp only [Act.put,yay,yby,ycy,zX,za]
   rfl
  refine zg (i:=10) (N:=some 42) (v:=?_) (a':=?_) #[true,true,true,true,true,true,true,true,true,true,true] rfl rfl (by kernel_rfl) (fun _ _ _ h=>h) (Or.inl ⟨by rfl,?_⟩) ?_ ?_
  rotate_left
  next=>
   intro w';go_simp;with_reducible rfl
  rotate_left
  next=>
   simp only [Act.put,yay,yby,ycy,zX,za]
   rfl
  refine Qo (by kernel_rfl) ?_
  clear hHeld HCC HCL HCE
  cases bb with
  | true=>
   have hb:f0<0:=of_decide_eq_true HBB.out
   have al:=zA.mk (show zBi l cls c i x (L.drop (j+1)) (sg,qu,ok)=RR by have h9:=ao.out;rwa [if_neg (fun k=>k hb)]at h9)
   clear ao;go_wp2;go_roundg (L.length-(j+1))
   case measure=>omega
   case rel=>exact⟨j+1,sg,qu,ok,vq,by omega,by omega,by go_num,al,HS,⟨HX.out.1,HX.out.2.1,HX.out.2.2.1,by have:=HX.out.2.2.2;omega⟩,HO⟩
  | false=>
   have hb : ¬ f0<0:=of_decide_eq_false HBB.out
   have al:=zA.mk (show zBi l cls c i x (L.drop (j+1)) (vis sg qu ok i (4*f0+rd (qP f1) v) (wrap64 (-(zBr f1))))=RR by have h9:=ao.out;rwa [if_pos hb]at h9)
   obtain⟨bn,bo,ax,ay⟩:=HFB.out (by first|exact hb|omega)
   have HP:=zA.mk (And.intro ax ay)
   have HSG:=zA.mk (show Jd.f f1=some (zBr f1)from if_pos ⟨ax,ay⟩)
   have hbd:=lo_bd f1
   have ix:=Qk (zp f1 0) (zp f1 1) (zp f1 2) (zp f1 3) v aL aM
   have hpv:0≤rd (qP f1) v∧rd (qP f1) v≤3:=by obtain⟨z1,z2,z3,z4⟩:=Ja f1 ax ay;exact JW z1 z2 z3 z4 v aL aM
   rw[show rd [zp f1 0,zp f1 1,zp f1 2,zp f1 3] v=rd (qP f1) v from rfl]at ix
   generalize rd (qP f1) v=pv at ix hpv al
   generalize zBr f1=sv at hbd HSG al
   obtain⟨a_,ba⟩:=hpv
   have HWP:=zA.mk (show wrap64 (wrap64 (4*f0)+pv)=4*f0+pv by rw[Lib.ql (x:=4*f0) (by omega) (by omega),Lib.ql (x:=4*f0+pv) (by omega) (by omega)])
   have bp:v<4:=by omega
   clear ao HFB HISB HBB ax ay;obtain⟨bq,cq,eq_,_,_,_⟩:=Kd.Jw HS.out.rQ (by have:=HX.out.2.1;have:=HQ.out.1;omega)
   go_wp2;refine Zv (n:=15) (S:=fun w'=>w'.cell? ⟨gf,0,none⟩=some (.int .i64 f0)∧w'.cell? ⟨gf,1,none⟩=some (.int .i64 f1)) (ds := [14]) #[false,false,false,false,false,false,false,false,false,false,false,false,false,false,false] (by kernel_rfl) rfl rfl ⟨(zK BF.out 0).trans rfl,(zK BF.out 1).trans rfl⟩ (fun hHeld=>?_)
   have aa:=zA.mk HS.out.drew
   have ad:=zA.mk (zJ BF.out)
   have ab:=zA.mk (Kd.zZ HO.out)
   clear HS BF HO;have HS:=aa;have BF:=ad;have HO:=ab;clear aa ad ab;generalize World.drew _=w6 at HS BF HO hHeld ⊢
   refine zg (i:=0) (N:=some 43) (v:=?_) (a':=?_) #[true,false,false,false,false,false,false,false,false,false,false,false,false,false,false] rfl rfl (by kernel_rfl) (fun _ _ _ h=>h) (Or.inl ⟨by rfl,?_⟩) ?_ ?_
   rotate_left
   next=>
    intro w';go_simp;with_reducible rfl
   rotate_left
   next=>
    simp only [Act.put,yay,yby,ycy,zX,za]
    rfl
   refine zg (i:=1) (N:=some 44) (v:=?_) (a':=?_) #[true,true,false,false,false,false,false,false,false,false,false,false,false,false,false] rfl rfl (by kernel_rfl) (fun _ _ _ h=>h) (Or.inl ⟨by rfl,?_⟩) ?_ ?_
   rotate_left
   next=>
    intro w';go_simp;with_reducible rfl
   rotate_left
   next=>
    simp only [Act.put,yay,yby,ycy,zX,za]
    rfl
   refine ZA (i:=2) (N:=some 45) (v:=?_) (a':=?_) #[true,true,true,false,false,false,false,false,false,false,false,false,false,false,false] rfl rfl (by kernel_rfl) (fun _ _ _ h=>h) (Or.inl ⟨by rfl,?_⟩) hHeld ?_ ?_
   rotate_left
   next=>
    rintro w' ⟨s0,s1⟩
    go_simp;with_reducible rfl
   rotate_left
   next=>
    simp only [Act.put,yay,yby,ycy,zX,za]
    rfl
   refine zg (i:=3) (N:=some 46) (v:=?_) (a':=?_) #[true,true,true,true,false,false,false,false,false,false,false,false,false,false,false] rfl rfl (by kernel_rfl) (fun _ _ _ h=>h) (Or.inl ⟨by rfl,?_⟩) ?_ ?_
   rotate_left
   next=>
    intro w';go_simp;with_reducible rfl
   rotate_left
   next=>
    simp only [Act.put,yay,yby,ycy,zX,za]
    rfl
   refine zg (i:=4) (N:=some 47) (v:=?_) (a':=?_) #[true,true,true,true,true,false,false,false,false,false,false,false,false,false,false] rfl rfl (by kernel_rfl) (fun _ _ _ h=>h) (Or.inl ⟨by rfl,?_⟩) ?_ ?_
   rotate_left
   next=>
    intro w';go_simp;with_reducible rfl
   rotate_left
   next=>
    simp only [Act.put,yay,yby,ycy,zX,za]
    rfl
   refine ZA (i:=5) (N:=some 48) (v:=?_) (a':=?_) #[true,true,true,true,true,true,false,false,false,false,false,false,false,false,false] rfl rfl (by kernel_rfl) (fun _ _ _ h=>h) (Or.inl ⟨by rfl,?_⟩) hHeld ?_ ?_
   rotate_left
   next=>
    rintro w' ⟨s0,s1⟩
    go_simp;with_reducible rfl
   rotate_left
   next=>
    simp only [Act.put,yay,yby,ycy,zX,za]
    rfl
   refine zg (i:=7) (N:=some 50) (v:=?_) (a':=?_) #[true,true,true,true,true,true,false,true,false,false,false,false,false,false,false] rfl rfl (by kernel_rfl) (fun _ _ _ h=>h) (Or.inl ⟨by rfl,?_⟩) ?_ ?_
   rotate_left
   next=>
    intro w';go_simp;with_reducible rfl
   rotate_left
   next=>
    simp only [Act.put,yay,yby,ycy,zX,za]
    rfl
   refine zg (i:=10) (N:=some 53) (v:=?_) (a':=?_) #[true,true,true,true,true,true,false,true,false,false,true,false,false,false,false] rfl rfl (by kernel_rfl) (fun _ _ _ h=>h) (Or.inl ⟨by rfl,?_⟩) ?_ ?_
   rotate_left
   next=>
    intro w';go_simp;with_reducible rfl
   rotate_left
   next=>
    simp only [Act.put,yay,yby,ycy,zX,za]
    rfl
   refine ZA (i:=11) (N:=some 54) (v:=?_) (a':=?_) #[true,true,true,true,true,true,false,true,false,false,true,true,false,false,false] rfl rfl (by kernel_rfl) (fun _ _ _ h=>h) (Or.inl ⟨by rfl,?_⟩) hHeld ?_ ?_
   rotate_left
   next=>
    rintro w' ⟨s0,s1⟩
    go_simp;with_reducible rfl
   rotate_left
   next=>
    simp only [Act.put,yay,yby,ycy,zX,za]
    rfl
   refine zA4 (i:=6) (N:=some 49) #[true,true,true,true,true,true,true,true,false,false,true,true,false,false,false] rfl rfl (by kernel_rfl) (by decide) (fun K hK=>?_)
   refine QO Try.func105 (by kernel_rfl) rfl #[.int .i64 f1] (by rfl) rfl rfl (by(try simp only [yiy,yjy,yky]);first|done|rfl) ?_
   refine(zAW.calls f1 _ HP.out.1 HP.out.2).mono ?_
   rintro ed w9 ⟨rfl,hnd⟩
   refine⟨_,rfl,?_⟩
   have aa:=zA.mk (HS.out.stays hnd)
   have ad:=zA.mk (zO BF.out hnd)
   have ab:=zA.mk (Kd.qN HO.out hnd)
   clear HS BF HO hnd;have HS:=aa;have BF:=ad;have HO:=ab;clear aa ad ab;refine hK.out _ _ ⟨(zK BF.out 0).trans rfl,(zK BF.out 1).trans rfl⟩ (fun hHeld=>?_)
   clear hK K;refine QE (a':=?_) ?_ ?_
   rotate_left
   next=>
    show Act.put _ (some 49) _=_
    simp only [Act.put,yay,yby,ycy,zX,za]
    rfl
   refine zg (i:=8) (N:=some 51) (v:=?_) (a':=?_) #[true,true,true,true,true,true,true,true,true,false,true,true,false,false,false] rfl rfl (by kernel_rfl) (fun _ _ _ h=>h) (Or.inl ⟨by rfl,?_⟩) ?_ ?_
   rotate_left
   next=>
    intro w';go_simp;with_reducible rfl
   rotate_left
   next=>
    simp only [Act.put,yay,yby,ycy,zX,za]
    rfl
   refine zg (i:=9) (N:=some 52) (v:=?_) (a':=?_) #[true,true,true,true,true,true,true,true,true,true,true,true,false,false,false] rfl rfl (by kernel_rfl) (fun _ _ _ h=>h) (Or.inl ⟨by rfl,?_⟩) ?_ ?_
   rotate_left
   next=>
    intro w';go_simp;with_reducible rfl
   rotate_left
   next=>
    simp only [Act.put,yay,yby,ycy,zX,za]
    rfl
   refine zA4 (i:=12) (N:=some 55) #[true,true,true,true,true,true,true,true,true,true,true,true,true,false,false] rfl rfl (by kernel_rfl) (by decide) (fun K hK=>?_)
   refine QO Try.func73 (by kernel_rfl) rfl #[.int .i64 f1] (by rfl) rfl rfl (by(try simp only [yiy,yjy,yky]);first|done|rfl) ?_
   refine(Jd.calls f1 sv _ HSG.out).mono ?_
   rintro ed br ⟨rfl,hnd⟩
   refine⟨_,rfl,?_⟩
   have aa:=zA.mk (HS.out.stays hnd)
   have ad:=zA.mk (zO BF.out hnd)
   have ab:=zA.mk (Kd.qN HO.out hnd)
   clear HS BF HO hnd;have HS:=aa;have BF:=ad;have HO:=ab;clear aa ad ab;refine hK.out _ _ ⟨(zK BF.out 0).trans rfl,(zK BF.out 1).trans rfl⟩ (fun hHeld=>?_)
   clear hK K;refine QE (a':=?_) ?_ ?_
   rotate_left
   next=>
    show Act.put _ (some 55) _=_
    simp only [Act.put,yay,yby,ycy,zX,za]
    rfl
   refine zg (i:=13) (N:=some 56) (v:=?_) (a':=?_) #[true,true,true,true,true,true,true,true,true,true,true,true,true,true,false] rfl rfl (by kernel_rfl) (fun _ _ _ h=>h) (Or.inl ⟨by rfl,?_⟩) ?_ ?_
   rotate_left
   next=>
    intro w';go_simp;with_reducible rfl
   rotate_left
   next=>
    simp only [Act.put,yay,yby,ycy,zX,za]
    rfl
   refine zFs (i:=14) (N:=some 57) #[true,true,true,true,true,true,true,true,true,true,true,true,true,true,true] rfl rfl (by kernel_rfl) (by decide) (fun K hK=>?_)
   refine zIF (f:=126) Try.func126 (by kernel_rfl) rfl #[.int .i64 (wrap64 (wrap64 (4*f0)+pv)),.int .i64 (wrap64 (-sv))] #[.int .i64 (wrap64 (wrap64 (4*f0)+pv)),.int .i64 (wrap64 (-sv)),.pointer (some ⟨gs,0,none⟩),.pointer (some ⟨gq,0,none⟩),.pointer (some ⟨gi,0,none⟩),.pointer (some ⟨go,0,none⟩)] (by rfl) rfl rfl rfl (by(try simp only [yiy,yjy,yky]);first|done|rfl) (by rfl) ?_
   rw[HWP.out]
   refine(zDO.calls gs gq gi go bs cs i (4*f0+pv) (wrap64 (-sv)) sg qu ok _ w0 _ HS.out HQ.out.1 HX.out.2.1 (by rw[HX.out.2.2.1];exact HQ.out.2.2.1) (by rw[HX.out.2.2.1,HX.out.1];have:=HQ.out.2.2.2;omega) (by omega) (by rw[HX.out.1];omega) (by have:=HX.out.2.2.2;have:=HR.out.2.2;omega)).mono ?_
   rintro ed bt ⟨rfl,vq',aV,aW,aX⟩
   refine⟨_,rfl,?_⟩
   have aD:=zA.mk aV
   have bc:=zA.mk (zHp HO.out aW aX)
   clear aV aW aX HS HO BF;refine hK.out _ _ ?_
   clear hK K;refine Qo (by kernel_rfl) ?_
   have aE:=zA.mk (show(vis sg qu ok i (4*f0+pv) (wrap64 (-sv))).1.length=4*l.length∧i<(vis sg qu ok i (4*f0+pv) (wrap64 (-sv))).2.1.length∧rd (vis sg qu ok i (4*f0+pv) (wrap64 (-sv))).2.1 i=rd ae i∧(vis sg qu ok i (4*f0+pv) (wrap64 (-sv))).2.1.length≤ae.length+(j+1)from by
    obtain⟨x1,x2,x3,x4⟩:=HX.out
    refine⟨by rw[lo_sg];exact x1,?_,?_,?_⟩ <;> rcases lo_qu sg qu ok i (4*f0+pv) (wrap64 (-sv))with e_|e_ <;> rw[e_]
    next=>
     exact x2
    next=>
     rw[List.length_append];have:=x2;simp;omega
    next=>
     exact x3
    next=>
     rw[zIG qu _ i HQ.out.1 x2];exact x3
    next=>
     omega
    rw[List.length_append];simp;omega)
   generalize vis sg qu ok i (4*f0+pv) (wrap64 (-sv))=st at aD al aE
   obtain⟨bd,bf,bg⟩:=st
   dsimp only at aD al aE
   clear HWP HSG HP ix;go_wp2;go_roundg (L.length-(j+1))
   case measure=>omega
   case rel=>exact⟨j+1,bd,bf,bg,vq',by omega,by omega,by go_num,al,aD,aE,bc⟩
abbrev okQ (l:List (List zv)) (x:Int) (m:Nat):Prop:=0≤x∧x<4*(l.length:Int)∧m<999000
def zE7 (t:List (List zv)) (cls:List Int):Bool:=(decide (t.length≤8)&&decide (cls.length=4*t.length))&&t.all (fun r=>decide (r.length=4)&&r.all (fun x=>decide (x.f0<0)||((decide (0≤x.f0)&&decide (x.f0<(t.length:Int)))&&(decide (0≤x.f1)&&decide (x.f1≤23)))))
theorem zGl {t:List (List zv)} {cls:List Int} (h:zE7 t cls=true):t.length≤8∧cls.length=4*t.length∧(∀ r∈t,r.length=4)∧(∀ r∈t,∀ x∈r,¬ x.f0<0→0≤x.f0∧x.f0<(t.length:Int)∧0≤x.f1∧x.f1≤23):=by
  unfold zE7 at h
  simp only [Bool.and_eq_true,decide_eq_true_eq,List.all_eq_true,Bool.or_eq_true]at h
  refine⟨h.1.1,h.1.2,fun r hr=>(h.2 r hr).1,fun r hr x hx hb=>?_⟩
  rcases(h.2 r hr).2 x hx with a|a
  · exact absurd a hb
  · exact⟨a.1.1,a.1.2,a.2.1,a.2.2⟩
def zDm (l:List (List zv)) (cls:List Int) (c:Int):Nat→Int→List Int × List Int × Bool→Option (List Int × Bool)
  | 0,_,_=>none
  | k+1,i,s=>if i<s.2.1.length then(if okQ l (rd s.2.1 i) s.2.1.length then zDm l cls c k (i+1) (zBi l cls c i (rd s.2.1 i) (Qt [rd s.2.1 i%4]) s)else none)else some (s.1,s.2.2)
def zAm (l:List (List zv)) (cls:List Int) (c:Int) (k:Nat):Nat→Int→List Int→Bool→Option (List Int × Bool)
  | 0,_,sg,ok=>some (sg,ok)
  | d+1,a,sg,ok=>if rd sg a=0 then(zDm l cls c k 0 (sg.set a.toNat 1,[a],ok)).bind fun s=>zAm l cls c k d (a+1) s.1 s.2 else zAm l cls c k d (a+1) sg ok
def zFR (k:Nat) (l:List (List zv)) (cls:List Int) (c:Int):Option (List Int × Bool):=if zE7 l cls=true then zAm l cls c k (4*l.length) 0 (List.replicate (4*l.length) 0) true else none
theorem zEn (l:List (List zv)) (cls:List Int) (c i x:Int) : ∀ (r:List Int) (s:List Int × List Int × Bool),(zBi l cls c i x r s).1.length=s.1.length
  | [],_=>rfl
  | f :: fs,s=>by
    rw[zBi,zEn l cls c i x fs]
    split
    · exact lo_sg _ _ _ _ _ _
    · rfl
theorem zGm (l:List (List zv)) (cls:List Int) (c:Int) : ∀ k i s r,zDm l cls c k i s=some r→r.1.length=s.1.length
  | 0,_,_,_,h=>by simp [zDm]at h
  | k+1,i,s,r,h=>by
    rw[zDm]at h
    split at h
    · split at h
      · rw[zGm l cls c k _ _ _ h,zEn]
      · cases h
    · rw[← yey h]
structure SgP (w0 w:World) (gs go bs cs:Nat) (sg:List Int) (ok:Bool):Prop where
  below:Below w0.heap.size w0 w
  bS:w.heap[gs]?=some (.cells #[.slice (some ⟨bs,0,none⟩) sg.length cs] 22 (0,0))
  bO:w.heap[go]?=some (.cells #[.bool ok] 4 (0,0))
  rS:Kd.R (Kd.int .i64) 2 w w0.heap.size (fun k=>k=bs) (.slice (some ⟨bs,0,none⟩) sg.length cs) sg
  own:w0.heap.size≤go
section
variable {w0 w w1 : World} {gs gq gi go bs cs : Nat} {i : Int} {sg qu : List Int} {ok : Bool} {vq vr : Value}
theorem Sg0.closeP (h:Sg0 w0 w gs gq gi go bs cs i sg qu ok vq vr):SgP w0 w gs go bs cs sg ok:=⟨h.below,h.bS,h.bO,h.rS,h.own.2.1⟩
theorem SgP.drew (h:SgP w0 w gs go bs cs sg ok):SgP w0 w.drew gs go bs cs sg ok:=⟨zD h.below,h.bS,h.bO,Kd.zZ h.rS,h.own⟩
theorem SgP.row (h:SgP w0 w gs go bs cs sg ok) : ∃ cells,w.heap[bs]?=some (.cells cells 2 (0,0)):=Kd.zAt h.rS bs (by simp [Value.ownBlock])
theorem SgP.sign (h:SgP w0 w gs go bs cs sg ok) (k v:Int):SgP w0 (w.setCell ⟨bs,k.toNat,none⟩ (.int .i64 v)) gs go bs cs (sg.set k.toNat v) ok:=by
  obtain⟨cells,hc⟩:=h.row
  refine⟨zF h.below (Kd.Zw h.rS bs (by simp [Value.ownBlock])),?_,qJ (p:=⟨bs,k.toNat,none⟩) h.bO (Qz h.bO hc (by decide)) _,?_,h.own⟩
  · rw[List.length_set];exact qJ (p:=⟨bs,k.toNat,none⟩) h.bS (Qz h.bS hc (by decide)) _
  · rw[List.length_set];exact(Kd.zAF h.rS k v).1
theorem SgP.start (h:SgP w0 w gs go bs cs sg ok) (a:Int) :
    Sg w0 (((w.alloc (.cells #[.int .i64 a] 2)).alloc (.cells #[.slice (some ⟨w.heap.size,0,none⟩) 1 1] 22)).alloc (.cells #[.int .i64 0] 3)) gs (w.heap.size+1) (w.heap.size+1+1) go bs cs 0 sg [a] ok (.slice (some ⟨w.heap.size,0,none⟩) 1 1):=by
  have hbs:=qT h.row.choose_spec
  have hsz:=zQ h.below
  refine⟨zC (zC (zC h.below _) _) _,zG (zG (zG h.bS _) _) _,zG (ZL (by simp) _) _,ZL (by simp) _,zG (zG (zG h.bO _) _) _,Kd.zS (Kd.zS (Kd.zS h.rS _) _) _,?_,by have:=qT h.bS;omega,by omega,h.own,by omega⟩
  refine Kd.JG ⟨by simp [zAo],.inr ⟨w.heap.size,1,#[.int .i64 a],rfl,hsz,?_,yry 1,by decide,rfl,rfl⟩⟩ (fun k hk=>?_)
  rotate_left
  · have e:w.heap.size=k:=by simpa [Value.ownBlock]using hk
    show k≠bs
    omega
  exact zG (zG (ZL rfl _) _) _
theorem Sg0.nextP (h:Sg0 w0 w gs gq gi go bs cs i sg qu ok vq vr) (j:Int) :
    Sg0 w0 (w.alloc (.cells #[.int .i64 j] 3)) gs gq w.heap.size go bs cs j sg qu ok vq vr:=by
  have h1:=h.stays (zC (ysy _ _) (.cells #[.int .i64 j] 3))
  exact⟨h1.below,h1.bS,h1.bQ,ZL rfl _,h1.bO,h1.rS,h1.rQ,h.nsq,h.own.1,h.own.2.1,zQ h.below⟩
end
set_option maxHeartbeats 8000000 in
set_option maxRecDepth 100000 in
theorem zDP.calls (k:Nat) (l:List (List zv)) (A0:Option Addr) (c0 gt:Nat) (gK ge:Nat) (AK:Option Addr) (ck:Nat) (cls:List Int) (c:Int) (r1:List Int) (r2:Bool) (w:World) (bT:w.heap[gt]?=some (.cells #[.slice A0 l.length c0] 35 (0,0))) (hT:Kd.C (Kd.slice 75 ZZ) w A0 l.length l) (bK:w.heap[gK]?=some (.cells #[.slice AK cls.length ck] 22 (0,0))) (hK:Kd.C (Kd.int .i64) w AK cls.length cls) (bE:w.heap[ge]?=some (.cells #[.int .i64 c] 2 (0,0))) (h:zFR k l cls c=some (r1,r2)) :
    Calls Try.prog 103 #[.int .i64 ((4*l.length:Nat):Int),.func (.func 104) #[] #[.pointer (some ⟨gt,0,none⟩),.pointer (some ⟨gK,0,none⟩),.pointer (some ⟨ge,0,none⟩)]] w fun e w' => ∃ ai:Value,e = .returned (.tuple #[ai,.bool r2])∧Kd.R (Kd.int .i64) 2 w' w.heap.size (fun _=>True) ai r1∧Below w.heap.size w w':=by
  unfold zFR at h
  by_cases af:zE7 l cls=true
  case neg=>rw[if_neg af]at h;cases h
  rw[if_pos af]at h
  have HKS:=zA.mk (zGl af)
  have hl:4*l.length≤100000:=by have:=HKS.out.1;omega
  have BK:=zA.mk bK
  have HKC:=zA.mk hK
  have BE:=zA.mk bE
  clear bK hK bE af;obtain⟨n,hn⟩ : ∃ n,4*l.length=n:=⟨_,rfl⟩
  rw[hn]at h hl ⊢
  have HN:=zA.mk hn
  clear hn;have H:=zA.mk h
  have BT:=zA.mk bT
  have HTC:=zA.mk hT
  have HL:=zA.mk hl
  clear h bT hT;go_enter Try.func103,Try.ntmps103
  go_wp2_with (first
    | ((with_reducible refine zw (N:=12) rfl ?_);refine Kd.zDr (Kd.int .i64) (w0:=w) w.heap.size 2 rfl (N:=12) rfl 22 _ _ rfl (n:Int) rfl rfl Try.underlying22 (.int .i64 0) 8 Jp rfl (by decide) (by omega) 0 (ok:=fun _=>True) (okp:=fun _=>True) rfl (fun _ hk=>hk) trivial (by omega) (by omega) (ysy _ _) (yry _) ?_;intro v1 w1 ho hb _ hnew;obtain⟨bs,hbs,_⟩:=hnew;obtain⟨cs,rfl⟩:=zFM ho hbs;rw[yny]at ho;have HR:=zA.mk ho;have HB:=zA.mk hb;have HBS:=zA.mk hbs;clear ho hb hbs))
  have HO:=zA.mk (show SgP w ((w1.alloc (.cells #[.slice (some ⟨bs,0,none⟩) n cs] 22)).alloc (.cells #[.bool true] 4)) w1.heap.size (w1.heap.size+1) bs cs (List.replicate n 0) true from
    ⟨zC (zC HB.out _) _,by rw[List.length_replicate];exact zG (ZL rfl _) _,ZL (by simp) _,Kd.zS (Kd.zS (Kd.qC (Kd.Qu rfl HR.out) (fun k_ hk_=>by simpa [Value.ownBlock]using hk_)) _) _,by have:=zQ HB.out;omega⟩)
  clear HR HB HBS;generalize w1.heap.size+1=go at HO ⊢
  generalize w1.heap.size=gs at HO ⊢
  generalize World.alloc _ _=wA at HO ⊢
  go_loopg [14] n (fun gg av w' => ∃ (d a:Nat) (sg:List Int) (ok:Bool),a+d=n∧d≤gg∧av = .int .i64 a∧zA (zAm l cls c k d a sg ok=some (r1,r2))∧zA (sg.length=n)∧zA (SgP w w' gs go bs cs sg ok))
  case atStart=>exact⟨n,0,List.replicate n 0,true,by omega,yry _,rfl,H,⟨List.length_replicate⟩,HO⟩
  case round=>
    clear H HO;obtain⟨d,a,sg,ok,had,hg,rfl,HA,HG,HO⟩:=hrel
    have hxS:wr.cell? ⟨gs,0,none⟩=some (.slice (some ⟨bs,0,none⟩) sg.length cs):=(zK HO.out.bS 0).trans rfl
    have hxO:wr.cell? ⟨go,0,none⟩=some (.bool ok):=(zK HO.out.bO 0).trans rfl
    cases d with
    | zero=>
      obtain rfl:a=n:=by omega
      have H2:=HA.out
      rw[zAm]at H2
      obtain⟨e1,e2⟩:=Prod.mk.inj (yey H2)
      subst e1 e2;clear H2 HA;try go_wp2
      refine Zv (n:=4) (S:=fun w'=>w'.cell? ⟨gs,0,none⟩=some (.slice (some ⟨bs,0,none⟩) sg.length cs)∧w'.cell? ⟨go,0,none⟩=some (.bool ok)) (ds := []) #[false,false,false,false] (by kernel_rfl) rfl rfl ⟨hxS,hxO⟩ (fun hHeld=>?_)
      refine ZA (i:=0) (N:=some 42) (v:=?_) (a':=?_) #[true,false,false,false] rfl rfl (by kernel_rfl) (fun _ _ _ h=>h) (Or.inl ⟨by rfl,?_⟩) hHeld ?_ ?_
      rotate_left
      · rintro w' ⟨s0,s1⟩
        go_simp;with_reducible rfl
      rotate_left
      · simp only [Act.put,yay,yby,ycy,zX,za]
        rfl
      refine ZA (i:=1) (N:=some 43) (v:=?_) (a':=?_) #[true,true,false,false] rfl rfl (by kernel_rfl) (fun _ _ _ h=>h) (Or.inl ⟨by rfl,?_⟩) hHeld ?_ ?_
      rotate_left
      · rintro w' ⟨s0,s1⟩
        go_simp;with_reducible rfl
      rotate_left
      · simp only [Act.put,yay,yby,ycy,zX,za]
        rfl
      refine zg (i:=2) (N:=some 4) (v:=?_) (a':=?_) #[true,true,true,false] rfl rfl (by kernel_rfl) (fun _ _ _ h=>h) (Or.inl ⟨by rfl,?_⟩) ?_ ?_
      rotate_left
      · intro w'
        go_simp;with_reducible rfl
      rotate_left
      · simp only [Act.put,yay,yby,ycy,zX,za]
        rfl
      refine zg (i:=3) (N:=some 5) (v:=?_) (a':=?_) #[true,true,true,true] rfl rfl (by kernel_rfl) (fun _ _ _ h=>h) (Or.inl ⟨by rfl,?_⟩) ?_ ?_
      rotate_left
      · intro w'
        go_simp;with_reducible rfl
      rotate_left
      · simp only [Act.put,yay,yby,ycy,zX,za]
        rfl
      refine Qo (by kernel_rfl) ?_
      try go_wp2
      go_ret2
      refine⟨_,rfl,?_,?_⟩
      · exact Kd.qC (HO.out.drew).rS (fun _ _=>trivial)
      · exact HO.out.drew.below
    | succ d=>
      have hltz:(a:Int)<(n:Int):=by omega
      have h1:(a:Int)<(sg.length:Int):=by rw[HG.out];exact hltz
      obtain⟨ad,aj⟩:=Kd.Zm 0 HO.out.rS (a:Int) (by omega) h1
      rw[yny]at ad aj
      replace ad:wr.cell? ⟨bs,a,none⟩=some (.int .i64 (rd sg (a:Int))):=ad
      have ab:=HA.out
      rw[zAm]at ab
      clear HA;by_cases hz:rd sg (a:Int)=0
      · rw[if_pos hz]at ab
        rw[hz]at ad
        obtain⟨st,hst,ab⟩:=ydy.mp ab
        have HA:=zA.mk ab
        have HI:=zA.mk hst
        have HGS:=zA.mk (zGm l cls c k _ _ _ hst)
        clear ab hst hz;rw[yny]at HI HGS
        go_wp2_with (first
          | ((with_reducible refine Zi (t:=2) (p:=24) rfl ?_);refine ZU (t:=2) (p:=24) (v:=?vo) (w1:=(wr.setCell ⟨bs,a,none⟩ (.int .i64 1))) ?hg ?ho ?hn ?hr ?_;(case ho=>rfl);(case hg=>rfl);(case hn=>rfl);(case hr=>first|(go_simp;done)|(go_simp;rfl));intro w2 hw;have ak:=zA.mk (show SgP w w2 gs go bs cs (sg.set a 1) ok by rw[hw];have:=HO.out.sign (a:Int) 1;rwa [yny]at this);clear HO hw hxS hxO ad aj))
        have HS:=zA.mk (ak.out.start (a:Int))
        clear ak;have al:=zA.mk (show(sg.set a 1).length=n by rw[List.length_set];exact HG.out)
        clear HG;generalize sg.set a 1=aw at HS HI al HGS
        generalize hgq:w2.heap.size+1=gq at HS ⊢
        generalize hgi:gq+1=gi at HS ⊢
        generalize (Value.slice (some ⟨w2.heap.size,0,none⟩) 1 1)=vq at HS
        generalize World.alloc _ _=wB at HS ⊢
        go_loopg [10] k (fun kq v10 w' => ∃ (i:Int) (gi:Nat) (sg qu:List Int) (ok:Bool) (vq:Value),v10 = .pointer (some ⟨gi,0,none⟩)∧zA (kq≤k)∧zA (zDm l cls c kq i (sg,qu,ok)=some st)∧zA (Sg w w' gs gq gi go bs cs i sg qu ok vq)∧zA (sg.length=n∧0≤i))
        case atStart=>exact⟨0,gi,aw,[(a:Int)],ok,vq,rfl,⟨yry _⟩,HI,HS,⟨al.out,by omega⟩⟩
        case round=>
          clear HS HI;obtain⟨i,ah,an,qu,ao,ay,rfl,HK,HI,HS,ae⟩:=hrel
          have hxI:wr.cell? ⟨ah,0,none⟩=some (.int .i64 i):=(zK HS.out.bI 0).trans rfl
          obtain⟨Aq,cq,eq_⟩:=Kd.ZE HS.out.rQ
          subst eq_;have hxQ:wr.cell? ⟨gq,0,none⟩=some (.slice Aq qu.length cq):=(zK HS.out.bQ 0).trans rfl
          cases gk with
          | zero=>exact absurd HI.out (by simp [zDm])
          | succ gk=>
            have aa:=HI.out
            rw[zDm]at aa
            clear HI;dsimp only at aa
            by_cases hlt:i<(qu.length:Int)
            · rw[if_pos hlt]at aa
              by_cases hok:okQ l (rd qu i) qu.length
              case neg=>rw[if_neg hok]at aa;cases aa
              rw[if_pos hok]at aa
              have HI:=zA.mk aa
              have HOK:=zA.mk hok
              clear aa hok;have ax:=ae.out.2
              obtain⟨bq,az,eA,_,_,_⟩:=Kd.Jw HS.out.rQ (by omega)
              injection eA with eA _ eC
              subst eA eC;obtain⟨ag,_⟩:=Kd.Zm 0 HS.out.rQ i ax hlt
              replace ag:wr.cell? ⟨bq,i.toNat,none⟩=some (.int .i64 (rd qu i)):=ag
              have HQ:=zA.mk (show rd qu i=rd qu i from rfl)
              have aA:i<1000000:=by have:=HOK.out.2.2;omega
              generalize hq_:rd qu i=q at ag HOK HI HQ
              have aq:=zA.mk hq_
              clear hq_ HQ;go_wp2_with (first|(go_at_call 104;refine(zA9.calls l A0 c0 gt gK ge AK ck cls c q gs gq ah go bs cs i an qu ao _ w _ HS.out BT.out HTC.out BK.out HKC.out BE.out HKS.out.1 HKS.out.2.1 HOK.out.1 HOK.out.2.1 (by rw[ae.out.1];exact HN.out.symm) ae.out.2 hlt (by rw[aq.out];exact HOK.out.1) (by rw[aq.out];exact HOK.out.2.1) HKS.out.2.2.1 (fun r hr x hx hb=>HKS.out.2.2.2 r hr x hx (by first|exact hb|omega)) HOK.out.2.2).mono ?_;rintro e w4 ⟨rfl,vq',ar⟩;have au:=zA.mk ar;clear ar HS hxI hxQ ag;have hxI:w4.cell? ⟨ah,0,none⟩=some (.int .i64 i):=(zK au.out.bI 0).trans rfl))
              go_roundg gk
              case measure=>omega
              case rel=>exact⟨i+1,w4.heap.size,_,_,_,vq',rfl,⟨by have:=HK.out;omega⟩,HI,⟨au.out.nextP (i+1)⟩,⟨by rw[zEn];exact ae.out.1,by omega⟩⟩
            · rw[if_neg hlt]at aa
              have e_:=yey aa
              subst e_;clear aa;have hge : ¬ i<(qu.length:Int):=hlt
              have d0:decide (i<(qu.length:Int))=false:=yhy hlt
              go_wp2;go_roundg d
              case measure=>omega
              case rel=>exact⟨d,a+1,an,ao,by omega,by omega,by go_num,by simpa using HA,⟨ae.out.1⟩,⟨HS.out.closeP⟩⟩
      · rw[if_neg hz]at ab
        have HA:=zA.mk ab
        clear ab;generalize rd sg (a:Int)=sa at ad hz
        have d0:(sa==0)=false:=by simp [hz]
        have d1:(sa != 0)=true:=by simp [bne,d0]
        go_wp2;go_roundg d
        case measure=>omega
        case rel=>exact⟨d,a+1,sg,ok,by omega,by omega,by go_num,by simpa using HA,HG,HO⟩
def qK.f (k:Nat) (t:List (List zv)) (c:Int):Option Bool:=(zk.f t).bind fun cls=>(zFR k t cls c).bind fun r=>some r.2
set_option maxHeartbeats 8000000 in
set_option maxRecDepth 100000 in
theorem qK.calls (k:Nat) (ab:Option Addr) (ad:Nat) (aa:List (List zv)) (a1:Int) (r:Bool) (w:World) (ae:Kd.C (Kd.slice 75 ZZ) w ab aa.length aa) (af:aa.length≤ad) (h:qK.f k aa a1=some r) :
    Calls Try.prog 58 #[.agg #[.slice ab aa.length ad],.int .i64 a1] w fun e w'=>e = .returned (.bool r)∧Below w.heap.size w w':=by
  unfold qK.f at h
  obtain⟨cls,hcls,h⟩:=ydy.mp h
  obtain⟨⟨sg,ok⟩,hsg,h⟩:=ydy.mp h
  obtain rfl:ok=r:=yey h
  have hok:zE7 aa cls=true:=by
    unfold zFR at hsg
    by_cases q:zE7 aa cls=true
    · exact q
    · rw[if_neg q]at hsg;cases hsg
  have ay:=(zGl hok).1
  have HR:=zA.mk ae
  have HC:=zA.mk af
  have HV:=zA.mk hcls
  have HG:=zA.mk hsg
  clear ae af h hcls hsg hok;have B0:=zA.mk (zG (ZL (W:=w) rfl (.cells #[.slice ab aa.length ad] 35)) (.cells #[.int .i64 a1] 2))
  have BE:=zA.mk (ZL (W:=w.alloc (.cells #[.slice ab aa.length ad] 35)) (n:=w.heap.size+1) (by simp) (.cells #[.int .i64 a1] 2))
  have HB:=zA.mk (zC (zC (ysy w.heap.size w) (.cells #[.slice ab aa.length ad] 35)) (.cells #[.int .i64 a1] 2))
  go_enter Try.func58,Try.ntmps58
  go_wp2_with fail
  generalize World.alloc (World.alloc w _) _=w1 at B0 BE HB ⊢
  generalize w.heap.size+1=ge at BE ⊢
  refine(zk.calls ab ad aa cls w1 (Kd.qD HR.out HB.out) HC.out HV.out).mono ?_
  rintro ed w2 ⟨v9,rfl,ho,hb⟩
  have al:=zA.mk (zO B0.out hb)
  have an:=zA.mk (zO BE.out hb)
  have ao:=zA.mk (zM HB.out hb)
  obtain⟨AK,ck,ev⟩:=Kd.ZE ho
  subst ev;have HK:=zA.mk (Kd.zq ho).2.2
  clear ho hb B0 BE HB;have ag:=zA.mk (zG al.out (.cells #[.slice AK cls.length ck] 22))
  have aj:=zA.mk (zG an.out (.cells #[.slice AK cls.length ck] 22))
  have ah:=zA.mk (ZL (W:=w2) rfl (.cells #[.slice AK cls.length ck] 22))
  have ai:=zA.mk (zC ao.out (.cells #[.slice AK cls.length ck] 22))
  have ak:=zA.mk (Kd.zy HK.out (.cells #[.slice AK cls.length ck] 22))
  clear HK;have hT:(w2.alloc (.cells #[.slice AK cls.length ck] 22)).cell? ⟨w.heap.size,0,none⟩=some (.slice ab aa.length ad):=(zK ag.out 0).trans rfl
  go_wp2_with fail
  generalize World.alloc w2 _=w3 at ag aj ah ai ak hT ⊢
  generalize w2.heap.size=gK at ah ⊢
  refine(qX.calls ab ad aa (aa.length:Int) w3 (Kd.qD HR.out ai.out) HC.out rfl).mono ?_
  rintro ed w4 ⟨rfl,hd⟩
  have hb:=qG.below hd
  have ar:=zA.mk (zO ag.out hb)
  have au:=zA.mk (zO aj.out hb)
  have av:=zA.mk (zO ah.out hb)
  have aq:=zA.mk (zM ai.out hb)
  have aw:=zA.mk (Kd.qD ak.out hb)
  clear ag aj ah ai ak hT hd hb al an ao;go_wp2_with fail
  have e4:(4*(aa.length:Int))=((4*aa.length:Nat):Int):=by omega
  rw[e4]
  refine(zDP.calls k aa ab ad w.heap.size gK ge AK ck cls a1 sg ok w4 ar.out (Kd.qD HR.out aq.out) av.out aw.out au.out HG.out).mono ?_
  rintro ed w5 ⟨az,rfl,ho,hb⟩
  have ax:=zA.mk (zM aq.out hb)
  clear ho hb;dsimp only
  go_wp2_with fail
  go_ret;exact⟨rfl,ax.out⟩
mutual
def zL.j0:Nat→Int→Int→Bool→Bool→List (List (zv))→Option (Int)
 | 0,_,_,_,_,_=>none
 | k+1,x1,x5,x6,x13,x102000=>if x13=true then(some 0)else(if x6=true then(zL.j1 k x1 x5 x6 false x102000)else(zL.j1 k x1 x5 x6 (x5==1) x102000))
def zL.j1:Nat→Int→Int→Bool→Bool→List (List (zv))→Option (Int)
 | 0,_,_,_,_,_=>none
 | k+1,x1,x5,x6,x19,x102000=>if x19=true then(some 1)else(if x6=true then(if x5=0 then((qK.f k x102000 x1).bind fun t104=>(zL.j2 k x5 x6 t104))else(zL.j2 k x5 x6 false))else(zL.j2 k x5 x6 false))
def zL.j2:Nat→Int→Bool→Bool→Option (Int)
 | 0,_,_,_=>none
 | k+1,x5,x6,x26=>if x26=true then(some 2)else(if x6=true then(if x5=0 then(some 3)else(some 4))else(some 4))
end
def zL.f (k:Nat) (l0_0:List (List (zv))) (a1:Int):Option (Int):=(zu.f k l0_0 a1).bind fun t102=>((qd.f k l0_0 a1).bind fun t103=>(if t103=true then(zL.j0 k a1 t102 t103 (t102==2) l0_0)else(zL.j0 k a1 t102 t103 false l0_0)))
def zL.T1:Bool × List (List Nat × List Nat):=(true,[([],[]),([],[]),([0,1],[0,1]),([],[]),([],[]),([3,4,2],[3,4]),([2,5,0,1,2],[2]),([5,6,0,1,2,3,4,5,6],[5])])
def zL.B1:List Nat := [0,0,3,0,0,31,63,127]
theorem zL.tab1:Jg .any (opsOf Try.f60 1)=zL.T1:=by kernel_rfl
theorem zL.zGj:QK zL.T1.2 zL.B1=true:=by kernel_rfl
set_option maxHeartbeats 8000000 in
set_option maxRecDepth 100000 in
theorem zL.calls (k:Nat) (af:Option Addr) (ag:Nat) (ab:List (List (zv))) (a1:Int) (r:Int) (w:World) (av:Kd.C (Kd.slice 75 ZZ) w af ab.length ab) (aw:ab.length≤ag) (h:zL.f k ab a1=some r) :
 Calls Try.prog 60 #[.agg #[.slice af ab.length ag],.int .i64 a1] w fun e w'=>e = .returned (.int .i64 r)∧Below w.heap.size w w':=by
 have aV:=Try.underlying35
 have ao:=zA.mk av
 have aq:=zA.mk aw
 clear av aw;have HB:=zA.mk (ysy w.heap.size w)
 have H:((zu.f k ab a1).bind fun t102=>((qd.f k ab a1).bind fun t103=>(if t103=true then(zL.j0 k a1 t102 t103 (t102==2) ab)else(zL.j0 k a1 t102 t103 false ab))))=some r:=h
 clear h;replace H:=ydy.mp H
 obtain⟨t102,aQ,H⟩:=H
 replace H:((qd.f k ab a1).bind fun t103=>(if t103=true then(zL.j0 k a1 t102 t103 (t102==2) ab)else(zL.j0 k a1 t102 t103 false ab)))=some r:=H
 have A3:=zA.mk aQ
 clear aQ;replace H:=ydy.mp H
 obtain⟨t103,aR,H⟩:=H
 replace H:(if t103=true then(zL.j0 k a1 t102 t103 (t102==2) ab)else(zL.j0 k a1 t102 t103 false ab))=some r:=H
 have A4:=zA.mk aR
 clear aR;have aP:=zA.mk H
 clear H;go_enter Try.func60,Try.ntmps60
 try go_wp2_with (first|((with_reducible refine zw (N:=2) rfl ?_);refine zz ?hg (N:=2) ?hd (cs:=#[.slice af ab.length ag]) (t:=35) ?hr ?_;(case hd=>rfl);(case hg=>rfl);(case hr=>first|(go_simp;done)|(go_simp;rfl));intro ae hg w6 hbox hb;have ak:=zA.mk (zM (by repeat(first|(with_reducible first|exact HB.out|apply zC|apply zB|apply zD)|exact HB.out)) hb);have al:=zA.mk (hbox);have aS:=zA.mk ((by rw[hg];exact(zQ (by repeat(first|(with_reducible first|exact HB.out|apply zC|apply zB|apply zD)|exact HB.out))):w.heap.size≤ae));have aT:=zA.mk ((by rw[hg];exact(zQ (by repeat(first|(with_reducible first|exact HB.out|apply zC|apply zB|apply zD)|exact HB.out))):w.heap.size≤ae));clear HB;have HB:=ak;have aa:=al;have aU:=aS;have ad:=aT;clear ak al aS aT;clear hb hbox hg))
 have ak:=zA.mk (zJ aa.out)
 have al:=zA.mk (zD HB.out)
 clear aa;clear HB;have aa:=ak;have HB:=al;clear ak al;refine Zv (n:=8) (S:=fun w'=>w'.cell? ⟨ae,0,none⟩=some (.slice af ab.length ag)) (ds := []) #[false,false,false,false,false,false,false,false] (by kernel_rfl) rfl rfl ((zK aa.out 0).trans rfl) (fun hHeld=>?_);refine Zn zL.tab1 zL.zGj (fun HT_ HW_=>?_)
 generalize w6.drew=w7 at aa HB hHeld ⊢
 refine zg (i:=1) (N:=some 8) (v:=?_) (a':=?_) #[false,true,false,false,false,false,false,false] rfl rfl (zm HT_.out (by kernel_rfl)) (fun _ _ _ h=>h) (Or.inl ⟨by rfl,?_⟩) ?_ ?_
 rotate_left
 next=>
  intro w';go_simp;with_reducible rfl
 rotate_left
 next=>
  simp only [Act.put,yay,yby,ycy,zX,za]
  rfl
 refine zg (i:=4) (N:=some 11) (v:=?_) (a':=?_) #[false,true,false,false,true,false,false,false] rfl rfl (zm HT_.out (by kernel_rfl)) (fun _ _ _ h=>h) (Or.inl ⟨by rfl,?_⟩) ?_ ?_
 rotate_left
 next=>
  intro w';go_simp;with_reducible rfl
 rotate_left
 next=>
  simp only [Act.put,yay,yby,ycy,zX,za]
  rfl
 refine ZA (i:=0) (N:=some 7) (v:=?_) (a':=?_) #[true,true,false,false,true,false,false,false] rfl rfl (qm HT_.out HW_.out (by kernel_rfl)) (fun _ _ _ h=>h) (Or.inl ⟨by rfl,?_⟩) hHeld ?_ ?_
 rotate_left
 next=>
  intro w' s0
  go_simp;with_reducible rfl
 rotate_left
 next=>
  simp only [Act.put,yay,yby,ycy,zX,za]
  rfl
 refine ZA (i:=3) (N:=some 10) (v:=?_) (a':=?_) #[true,true,false,true,true,false,false,false] rfl rfl (qm HT_.out HW_.out (by kernel_rfl)) (fun _ _ _ h=>h) (Or.inl ⟨by rfl,?_⟩) hHeld ?_ ?_
 rotate_left
 next=>
  intro w' s0
  go_simp;with_reducible rfl
 rotate_left
 next=>
  simp only [Act.put,yay,yby,ycy,zX,za]
  rfl
 refine zA4 (i:=2) (N:=some 9) #[true,true,true,true,true,false,false,false] rfl rfl (QG HT_.out (by kernel_rfl)) (by decide) (fun K hK=>?_)
 refine QO Try.func56 (by kernel_rfl) rfl #[.agg #[.slice af ab.length ag],.int .i64 a1] (by rfl) rfl rfl (by(try simp only [yiy,yjy,yky]);first|done|rfl|(simp only [yly,ymy];rfl)) ?_
 with_reducible refine(zu.calls k _ _ ab a1 t102 _ ?side1 ?side2 A3.out).mono ?_
 (case side1=>repeat(first|exact(Kd.qD ao.out HB.out)|(with_reducible refine Kd.zy ?_ _)|(with_reducible refine Kd.qA ?_ _)|(with_reducible refine Kd.qR ?_)))
 (case side2=>exact aq.out)
 rintro e w8 ⟨rfl,hb⟩
 refine⟨_,rfl,?_⟩
 have ak:=zA.mk (zO (g:=ae) (o := .cells #[.slice af ab.length ag] 35 (0,0)) (by(with_reducible repeat(first|refine zH ?_ _|refine zJ ?_|refine zG ?_ _));exact aa.out) hb)
 have al:=zA.mk (zM (by repeat(first|(with_reducible first|exact HB.out|apply zC|apply zB|apply zD|refine zF ?_ ad.out)|exact HB.out)) hb)
 clear aa;clear HB;have aa:=ak;have HB:=al;clear ak al
 (try clear hb)
 (try clear hb2)
 (try clear hk)
 (try clear hi)
 refine hK.out _ _ ((zK aa.out 0).trans rfl) (fun hHeld=>?_)
 clear hK K;refine QE (a':=?_) ?_ ?_
 rotate_left
 next=>
  show Act.put _ (some 9) _=_
  simp only [Act.put,yay,yby,ycy,zX,za]
  rfl
 refine zA4 (i:=5) (N:=some 12) #[true,true,true,true,true,true,false,false] rfl rfl (QG HT_.out (by kernel_rfl)) (by decide) (fun K hK=>?_)
 refine QO Try.func55 (by kernel_rfl) rfl #[.agg #[.slice af ab.length ag],.int .i64 a1] (by rfl) rfl rfl (by(try simp only [yiy,yjy,yky]);first|done|rfl|(simp only [yly,ymy];rfl)) ?_
 with_reducible refine(qd.calls k _ _ ab a1 t103 _ ?side1 ?side2 A4.out).mono ?_
 (case side1=>repeat(first|exact(Kd.qD ao.out HB.out)|(with_reducible refine Kd.zy ?_ _)|(with_reducible refine Kd.qA ?_ _)|(with_reducible refine Kd.qR ?_)))
 (case side2=>exact aq.out)
 rintro e w9 ⟨rfl,hb⟩
 refine⟨_,rfl,?_⟩
 have ak:=zA.mk (zO (g:=ae) (o := .cells #[.slice af ab.length ag] 35 (0,0)) (by(with_reducible repeat(first|refine zH ?_ _|refine zJ ?_|refine zG ?_ _));exact aa.out) hb)
 have al:=zA.mk (zM (by repeat(first|(with_reducible first|exact HB.out|apply zC|apply zB|apply zD|refine zF ?_ ad.out)|exact HB.out)) hb)
 clear aa;clear HB;have aa:=ak;have HB:=al;clear ak al
 (try clear hb)
 (try clear hb2)
 (try clear hk)
 (try clear hi)
 refine hK.out _ _ ((zK aa.out 0).trans rfl) (fun hHeld=>?_)
 clear hK K;refine QE (a':=?_) ?_ ?_
 rotate_left
 next=>
  show Act.put _ (some 12) _=_
  simp only [Act.put,yay,yby,ycy,zX,za]
  rfl
 refine zg (i:=6) (N:=some 5) (v:=?_) (a':=?_) #[true,true,true,true,true,true,true,false] rfl rfl (zm HT_.out (by kernel_rfl)) (fun _ _ _ h=>h) (Or.inl ⟨by rfl,?_⟩) ?_ ?_
 rotate_left
 next=>
  intro w';go_simp;with_reducible rfl
 rotate_left
 next=>
  simp only [Act.put,yay,yby,ycy,zX,za]
  rfl
 refine zg (i:=7) (N:=some 6) (v:=?_) (a':=?_) #[true,true,true,true,true,true,true,true] rfl rfl (zm HT_.out (by kernel_rfl)) (fun _ _ _ h=>h) (Or.inl ⟨by rfl,?_⟩) ?_ ?_
 rotate_left
 next=>
  intro w';go_simp;with_reducible rfl
 rotate_left
 next=>
  simp only [Act.put,yay,yby,ycy,zX,za]
  rfl
 refine Qo (Qp HT_.out (by kernel_rfl)) ?_
 go_upto_region 2 with (fail)
 go_cut [13] (fun aW wc => ∃ (kq:Nat) (an:Bool),aW = .bool an∧zA (zL.j0 kq a1 t102 t103 an ab=some r)∧zA (kq≤k)∧zA (wc.heap[ae]?=some (.cells #[(.slice af ab.length ag)] 35 (0,0)))∧zA (Below w.heap.size w wc))
 case first=>
  have H:=aP.out
  clear aP;by_cases az:t103=true
  next=>
   subst az;rw[if_pos rfl]at H
   have H':=zA.mk H
   clear H;go_wp2;go_meet
   case rel=>exact⟨_,((t102==2)),(by first|rfl|(simp;done)|(simp [*];done)),H',⟨by first|omega|exact yry _⟩,⟨by(with_reducible repeat(first|refine zH ?_ _|refine zJ ?_|refine zG ?_ _));exact aa.out⟩,⟨by repeat(first|(with_reducible first|exact HB.out|apply zC|apply zB|apply zD|refine zF ?_ ad.out)|exact HB.out)⟩⟩
  replace az:=Bool.eq_false_iff.mpr az
  subst az;rw[if_neg (show ¬ (false=true)by decide)]at H
  have H':=zA.mk H
  clear H;go_wp2;go_meet
  case rel=>exact⟨_,(false),(by first|rfl|(simp;done)|(simp [*];done)),H',⟨by first|omega|exact yry _⟩,⟨by(with_reducible repeat(first|refine zH ?_ _|refine zJ ?_|refine zG ?_ _));exact aa.out⟩,⟨by repeat(first|(with_reducible first|exact HB.out|apply zC|apply zB|apply zD|refine zF ?_ ad.out)|exact HB.out)⟩⟩
 case rest=>
  clear aP;(try clear c1);(try clear p2);(try clear c5);(try clear c6);(try clear az);obtain⟨kq,an,rfl,HA,aH,aa,HB⟩:=hcut
  cases kq with
  | zero=>exact absurd HA.out (by simp [zL.j0])
  | succ aX=>
   have H:=HA.out
   clear HA;simp only [zL.j0]at H
   by_cases aF:an=true
   next=>
    subst aF;rw[if_pos rfl]at H
    obtain rfl:=yey H
    go_wp2;go_ret;exact⟨by first|rfl|(simp [zU,zV] <;> rfl)|(simp [*,zU,zV] <;> rfl),by repeat(first|(with_reducible first|exact HB.out|apply zC|apply zB|apply zD|refine zF ?_ ad.out)|exact HB.out)⟩
   replace aF:=Bool.eq_false_iff.mpr aF
   subst aF;rw[if_neg (show ¬ (false=true)by decide)]at H
   have aA:=zA.mk H
   clear H;go_upto_region 4 with (fail)
   go_cut [19] (fun aY wc => ∃ (kq:Nat) (ai:Bool),aY = .bool ai∧zA (zL.j1 kq a1 t102 t103 ai ab=some r)∧zA (kq≤aX)∧zA (wc.heap[ae]?=some (.cells #[(.slice af ab.length ag)] 35 (0,0)))∧zA (Below w.heap.size w wc))
   case first=>
    have H:=aA.out
    clear aA;by_cases aG:t103=true
    next=>
     subst aG;rw[if_pos rfl]at H
     have H':=zA.mk H
     clear H;go_wp2;go_meet
     case rel=>exact⟨_,(false),(by first|rfl|(simp;done)|(simp [*];done)),H',⟨by have:=aH.out;first|omega|exact yry _⟩,⟨by(with_reducible repeat(first|refine zH ?_ _|refine zJ ?_|refine zG ?_ _));exact aa.out⟩,⟨by repeat(first|(with_reducible first|exact HB.out|apply zC|apply zB|apply zD|refine zF ?_ ad.out)|exact HB.out)⟩⟩
    replace aG:=Bool.eq_false_iff.mpr aG
    subst aG;rw[if_neg (show ¬ (false=true)by decide)]at H
    have H':=zA.mk H
    clear H;go_wp2;go_meet
    case rel=>exact⟨_,((t102==1)),(by first|rfl|(simp;done)|(simp [*];done)),H',⟨by have:=aH.out;first|omega|exact yry _⟩,⟨by(with_reducible repeat(first|refine zH ?_ _|refine zJ ?_|refine zG ?_ _));exact aa.out⟩,⟨by repeat(first|(with_reducible first|exact HB.out|apply zC|apply zB|apply zD|refine zF ?_ ad.out)|exact HB.out)⟩⟩
   case rest=>
    clear aA;(try clear c1);(try clear p2);(try clear c5);(try clear c6);(try clear az);(try clear aF);(try clear aG);(try clear p2);obtain⟨kq,ai,rfl,HA,aB,aa,HB⟩:=hcut
    cases kq with
    | zero=>exact absurd HA.out (by simp [zL.j1])
    | succ aC=>
     have H:=HA.out
     clear HA;simp only [zL.j1]at H
     by_cases aI:ai=true
     next=>
      subst aI;rw[if_pos rfl]at H
      obtain rfl:=yey H
      go_wp2;go_ret;exact⟨by first|rfl|(simp [zU,zV] <;> rfl)|(simp [*,zU,zV] <;> rfl),by repeat(first|(with_reducible first|exact HB.out|apply zC|apply zB|apply zD|refine zF ?_ ad.out)|exact HB.out)⟩
     replace aI:=Bool.eq_false_iff.mpr aI
     subst aI;rw[if_neg (show ¬ (false=true)by decide)]at H
     have aD:=zA.mk H
     clear H;go_upto_region 6 with (fail)
     go_cut [26] (fun v26 wc => ∃ (kq:Nat) (aj:Bool),v26 = .bool aj∧zA (zL.j2 kq t102 t103 aj=some r)∧zA (kq≤aC)∧zA (wc.heap[ae]?=some (.cells #[(.slice af ab.length ag)] 35 (0,0)))∧zA (Below w.heap.size w wc))
     case first=>
      have H:=aD.out
      clear aD;by_cases aJ:t103=true
      case neg=>
       replace aJ:=Bool.eq_false_iff.mpr aJ
       subst aJ;rw[if_neg (show ¬ (false=true)by decide)]at H
       have H':=zA.mk H
       clear H;go_wp2;go_meet
       case rel=>exact⟨_,(false),(by first|rfl|(simp;done)|(simp [*];done)),H',⟨by have:=aH.out;have:=aB.out;first|omega|exact yry _⟩,⟨by(with_reducible repeat(first|refine zH ?_ _|refine zJ ?_|refine zG ?_ _));exact aa.out⟩,⟨by repeat(first|(with_reducible first|exact HB.out|apply zC|apply zB|apply zD|refine zF ?_ ad.out)|exact HB.out)⟩⟩
      subst aJ;rw[if_pos rfl]at H
      by_cases ax:t102=0
      case neg=>
       rw[if_neg ax]at H
       have ah:(t102==0)=false:=beq_eq_false_iff_ne.mpr ax
       have ay:(t102 != 0)=true:=bne_iff_ne.mpr ax
       (first|rw[ah]|(simp only [zX,za];rw[ah])|skip)
       have H':=zA.mk H
       clear H;go_wp2;go_meet
       case rel=>exact⟨_,(false),(by first|rfl|(simp;done)|(simp [*];done)),H',⟨by have:=aH.out;have:=aB.out;first|omega|exact yry _⟩,⟨by(with_reducible repeat(first|refine zH ?_ _|refine zJ ?_|refine zG ?_ _));exact aa.out⟩,⟨by repeat(first|(with_reducible first|exact HB.out|apply zC|apply zB|apply zD|refine zF ?_ ad.out)|exact HB.out)⟩⟩
      rw[if_pos ax]at H
      have ah:(t102==0)=true:=beq_iff_eq.mpr ax
      have ay:(t102 != 0)=false:=bne_eq_false_iff_eq.mpr ax
      clear ax
      (first|rw[ah]|(simp only [zX,za];rw[ah])|skip)
      replace H:=ydy.mp H
      obtain⟨t104,aK,H⟩:=H
      replace H:(zL.j2 aC t102 true t104)=some r:=H
      have aZ:=zA.mk aK
      clear aK;have H':=zA.mk H
      clear H;have ar:wc.cell? ⟨ae,0,none⟩=some (.slice af ab.length ag):=(zK aa.out 0).trans rfl
      have au:=zP aa.out 0
      go_wp2_with (first|(go_at_call 58;(with_reducible refine(qK.calls aC _ _ ab a1 t104 _ ?side1 ?side2 aZ.out).mono ?_);(case side1=>repeat(first|exact(Kd.qD ao.out HB.out)|(with_reducible refine Kd.zy ?_ _)|(with_reducible refine Kd.qA ?_ _)|(with_reducible refine Kd.qR ?_)));(case side2=>exact aq.out);rintro e a6 ⟨rfl,hb⟩;have ak:=zA.mk (zO (g:=ae) (o := .cells #[.slice af ab.length ag] 35 (0,0)) (by(with_reducible repeat(first|refine zH ?_ _|refine zJ ?_|refine zG ?_ _));exact aa.out) hb);have al:=zA.mk (zM (by repeat(first|(with_reducible first|exact HB.out|apply zC|apply zB|apply zD|refine zF ?_ ad.out)|exact HB.out)) hb);clear aa;clear HB;have aa:=ak;have HB:=al;clear ak al;(try clear hb);(try clear hb2);(try clear hk);(try clear hi)))
      go_meet
      case rel=>exact⟨_,(t104),(by first|rfl|(simp;done)|(simp [*];done)),H',⟨by have:=aH.out;have:=aB.out;first|omega|exact yry _⟩,⟨by(with_reducible repeat(first|refine zH ?_ _|refine zJ ?_|refine zG ?_ _));exact aa.out⟩,⟨by repeat(first|(with_reducible first|exact HB.out|apply zC|apply zB|apply zD|refine zF ?_ ad.out)|exact HB.out)⟩⟩
     case rest=>
      clear aD;(try clear c1);(try clear p2);(try clear c5);(try clear c6);(try clear az);(try clear aF);(try clear aG);(try clear aI);(try clear aJ);(try clear ax);(try clear ah);(try clear ay);(try clear ar);(try clear au);(try clear p2);obtain⟨kq,aj,rfl,HA,a2,aa,HB⟩:=hcut
      cases kq with
      | zero=>exact absurd HA.out (by simp [zL.j2])
      | succ a5=>
       have H:=HA.out
       clear HA;simp only [zL.j2]at H
       by_cases aN:aj=true
       next=>
        subst aN;rw[if_pos rfl]at H
        obtain rfl:=yey H
        go_wp2;go_ret;exact⟨by first|rfl|(simp [zU,zV] <;> rfl)|(simp [*,zU,zV] <;> rfl),by repeat(first|(with_reducible first|exact HB.out|apply zC|apply zB|apply zD|refine zF ?_ ad.out)|exact HB.out)⟩
       replace aN:=Bool.eq_false_iff.mpr aN
       subst aN;rw[if_neg (show ¬ (false=true)by decide)]at H
       by_cases aO:t103=true
       case neg=>
        replace aO:=Bool.eq_false_iff.mpr aO
        subst aO;rw[if_neg (show ¬ (false=true)by decide)]at H
        obtain rfl:=yey H
        go_wp2;go_ret;exact⟨by first|rfl|(simp [zU,zV] <;> rfl)|(simp [*,zU,zV] <;> rfl),by repeat(first|(with_reducible first|exact HB.out|apply zC|apply zB|apply zD|refine zF ?_ ad.out)|exact HB.out)⟩
       subst aO;rw[if_pos rfl]at H
       by_cases aE:t102=0
       case neg=>
        rw[if_neg aE]at H
        have aL:(t102==0)=false:=beq_eq_false_iff_ne.mpr aE
        have aM:(t102 != 0)=true:=bne_iff_ne.mpr aE
        obtain rfl:=yey H
        go_wp2;go_ret;exact⟨by first|rfl|(simp [zU,zV] <;> rfl)|(simp [*,zU,zV] <;> rfl),by repeat(first|(with_reducible first|exact HB.out|apply zC|apply zB|apply zD|refine zF ?_ ad.out)|exact HB.out)⟩
       rw[if_pos aE]at H
       have aL:(t102==0)=true:=beq_iff_eq.mpr aE
       have aM:(t102 != 0)=false:=bne_eq_false_iff_eq.mpr aE
       clear aE;obtain rfl:=yey H
       go_wp2;go_ret;exact⟨by first|rfl|(simp [zU,zV] <;> rfl)|(simp [*,zU,zV] <;> rfl),by repeat(first|(with_reducible first|exact HB.out|apply zC|apply zB|apply zD|refine zF ?_ ad.out)|exact HB.out)⟩
def Zx.f (l0:List Int):Option Int:=match l0 with
  | []=>none
  | x :: xs=>some (xs.foldl mx x)
set_option maxHeartbeats 8000000 in
set_option maxRecDepth 100000 in
theorem Zx.calls (A0:Option Addr) (c0:Nat) (l0:List Int) (r:Int) (w:World) (ae:Kd.C (Kd.int .i64) w A0 l0.length l0) (ag:l0.length≤c0) (h:Zx.f l0=some r) :
    Calls Try.prog 119 #[.slice A0 l0.length c0] w fun e w'=>e = .returned (.int .i64 r)∧qG w w':=by
  obtain⟨x0,xs,rfl⟩ : ∃ x xs,l0=x :: xs:=by
    cases l0 with
    | nil=>cases h
    | cons x xs=>exact⟨x,xs,rfl⟩
  have hr:xs.foldl mx x0=r:=yey h
  have hbig:(x0 :: xs).length≤9223372036854775807:=ae.2.1
  have HR:=zA.mk ae
  have HA:zA (((x0 :: xs).drop 1).foldl mx x0=r):=⟨hr⟩
  obtain⟨ad,e1,hx⟩:=Kd.qw ae 0 (by omega) (by simp)
  have hlen:1≤(x0 :: xs).length:=by simp
  have ex:rd (x0 :: xs) 0=x0:=by simp [rd]
  rw[ex]at hx
  replace hx:w.cell? ad=some (.int .i64 x0):=by have h2:=hx;rwa [show ad.add (Int.toNat 0)=ad from by cases ad;rfl]at h2
  clear hr h ae ag ex;generalize x0 :: xs=l at *
  cases e1
  go_enter Try.func119,Try.ntmps119
  have b1:decide ((l.length:Int)<1)=false:=yhy (by omega)
  go_wp2;go_loopg [3,4] l.length (fun gg v3 v4 w' => ∃ (i:Nat) (m:Int),1≤i∧i≤l.length∧l.length-i≤gg∧v3 = .int .i64 m∧v4 = .int .i64 i∧w' = w∧zA ((l.drop i).foldl mx m=r))
  case atStart=>exact⟨1,x0,yry _,hlen,by omega,rfl,rfl,rfl,HA⟩
  case round=>
    clear HA;obtain⟨i,m,h1,hi,hg,rfl,rfl,rfl,HA⟩:=hrel
    by_cases hlt:i<l.length
    · have hltz:(i:Int)<(l.length:Int):=by omega
      obtain⟨ai,e2,hy⟩:=Kd.qw HR.out (i:Int) (by omega) hltz
      have ex:rd l (i:Int)=l[i]:=by simp [rd,hlt]
      rw[ex,yny]at hy
      have aa:=HA.out
      rw[ypy hlt,List.foldl_cons]at aa
      have ab:=zA.mk aa
      clear HA aa ex;generalize l[i]=y at hy ab
      cases e2
      by_cases hmy:m<y
      · have af:zA ((l.drop (i+1)).foldl mx y=r):=⟨by have q:=ab.out;rwa [show mx m y=y from by unfold mx;exact if_pos hmy]at q⟩
        clear ab;go_wp2;go_roundg (l.length-(i+1))
        case measure=>omega
        case rel=>exact⟨i+1,y,by omega,by omega,by omega,rfl,by go_num,rfl,af⟩
      · have af:zA ((l.drop (i+1)).foldl mx m=r):=⟨by have q:=ab.out;rwa [show mx m y=m from by unfold mx;exact if_neg hmy]at q⟩
        clear ab;have ah:y≤m:=by omega
        clear hmy;go_wp2;go_roundg (l.length-(i+1))
        case measure=>omega
        case rel=>exact⟨i+1,m,by omega,by omega,by omega,rfl,by go_num,rfl,af⟩
    · obtain rfl:i=l.length:=by omega
      have aa:=HA.out
      rw[List.drop_length,List.foldl_nil]at aa
      have HM:=zA.mk aa
      clear HA aa;go_wp2;go_ret;exact⟨by rw[← HM.out];rfl,0,rfl⟩
def ZM.f (l0:List Int):Option (Int):=if(l0.length:Int)=0 then(some 0)else((Zx.f l0).bind fun t101=>(some (wrap64 (t101+1))))
set_option maxHeartbeats 8000000 in
set_option maxRecDepth 100000 in
theorem ZM.calls (A0:Option Addr) (c0:Nat) (l0:List Int) (r:Int) (w:World) (ad:Kd.C (Kd.int .i64) w A0 l0.length l0) (ae:l0.length≤c0) (h:ZM.f l0=some r) :
    Calls Try.prog 87 #[.slice A0 l0.length c0] w fun e w'=>e = .returned (.int .i64 r)∧qG w w':=by
  have ag:=zA.mk ad
  have ah:=zA.mk ae
  clear ad ae;have H:(if(l0.length:Int)=0 then(some 0)else((Zx.f l0).bind fun t101=>(some (wrap64 (t101+1)))))=some r:=h
  clear h;by_cases c2:(l0.length:Int)=0
  · rw[if_pos c2]at H
    have aa:((l0.length:Int)==0)=true:=beq_iff_eq.mpr c2
    have ab:((l0.length:Int) != 0)=false:=bne_eq_false_iff_eq.mpr c2
    clear c2;obtain rfl:=yey H
    go_enter Try.func87,Try.ntmps87
    go_wp2;go_ret;exact⟨by first|rfl|(simp;done)|(simp [*];done),by repeat(first|exact qG.refl _|apply qG.step)⟩
  · rw[if_neg c2]at H
    have aa:((l0.length:Int)==0)=false:=beq_eq_false_iff_ne.mpr c2
    have ab:((l0.length:Int) != 0)=true:=bne_iff_ne.mpr c2
    have ai : ¬ (l0 = []):=fun h_=>c2 (by rw[h_];rfl)
    replace H:=ydy.mp H
    obtain⟨t101,af,H⟩:=H
    replace H:(some (wrap64 (t101+1)))=some r:=H
    have A3:=zA.mk af
    clear af;obtain rfl:=yey H
    go_enter Try.func87,Try.ntmps87
    go_wp2_with (first|((with_reducible refine zd (f:=119) rfl ?_);refine qV (some 7) rfl rfl Try.func119 (by kernel_rfl) rfl #[.slice A0 l0.length c0] rfl (by(try simp only [yiy,yjy,yky]);first|done|rfl|(simp only [yly,ymy];rfl)) ?_;(with_reducible refine(Zx.calls _ _ l0 t101 _ ?side1 ?side2 A3.out).mono ?_);(case side1=>repeat(first|exact ag.out|(with_reducible refine Kd.zy ?_ _)|(with_reducible refine Kd.qA ?_ _)|(with_reducible refine Kd.qR ?_)));(case side2=>exact ah.out);rintro e w' ⟨rfl,⟨nd,rfl⟩⟩;refine⟨_,rfl,?_⟩))
    go_ret;exact⟨by first|rfl|(simp;done)|(simp [*];done),by repeat(first|exact qG.refl _|apply qG.step)⟩
def qv.f (a0:Int) (a1:Int) (a2:Int):Option (Bool):=if a1≤a0 then(some (decide (a0≤a2)))else(some false)
set_option maxHeartbeats 8000000 in
set_option maxRecDepth 100000 in
theorem qv.calls (a0:Int) (a1:Int) (a2:Int) (r:Bool) (w:World) (h:qv.f a0 a1 a2=some r) :
    Calls Try.prog 86 #[.int .i64 a0,.int .i64 a1,.int .i64 a2] w fun e w'=>e = .returned (.bool r)∧qG w w':=by
  have H:(if a1≤a0 then(some (decide (a0≤a2)))else(some false))=some r:=h
  clear h;by_cases c4:a1≤a0
  · rw[if_pos c4]at H
    have aa:decide (a1≤a0)=true:=ygy c4
    clear c4;obtain rfl:=yey H
    go_enter Try.func86,Try.ntmps86
    go_wp2;go_ret;exact⟨by first|rfl|(simp;done)|(simp [*];done),by repeat(first|exact qG.refl _|apply qG.step)⟩
  · rw[if_neg c4]at H
    have aa:decide (a1≤a0)=false:=yhy c4
    clear c4;obtain rfl:=yey H
    go_enter Try.func86,Try.ntmps86
    go_wp2;go_ret;exact⟨by first|rfl|(simp;done)|(simp [*];done),by repeat(first|exact qG.refl _|apply qG.step)⟩
theorem eqA75 (d:Nat) (w:World) (x0 y0:Int) (x1 y1:Int) :
    (Op.equalIn (d+2) 75 (.agg #[.int .i64 x0,.int .i64 x1]) (.agg #[.int .i64 y0,.int .i64 y1])).run Try.prog w = .ok (x0==y0&&(x1==y1)) w:=by
  refine eqA_of Try.underlying75 (by kernel_rfl) ?_
  refine zHk (by rfl) (by go_simp;rfl) (by go_simp;rfl) (by go_simp) ?_
  exact zHj (by rfl) (by go_simp;rfl) (by go_simp;rfl) (by go_simp)
def Qq.f (a0:Int):Option Int:=if 0≤a0∧a0≤23 then some (zEm a0)else none
set_option maxHeartbeats 8000000 in
set_option maxRecDepth 100000 in
theorem Qq.calls (a0:Int) (r:Int) (w:World) (h:Qq.f a0=some r) :
    Calls Try.prog 133 #[.int .i64 a0] w fun e w'=>e = .returned (.int .i64 r)∧Below w.heap.size w w':=by
  unfold Qq.f at h
  by_cases hc:0≤a0∧a0≤23
  case neg=>rw[if_neg hc]at h;exact absurd h (by simp)
  rw[if_pos hc]at h
  have hr:zEm a0=r:=yey h
  clear h;subst hr;obtain⟨h0,h1⟩:=hc
  have HS:=zA.mk (Ja a0 h0 h1)
  have H0:=zA.mk h0
  have H1:=zA.mk h1
  clear h0 h1;go_enter Try.func133,Try.ntmps133
  go_wp2_with fail
  refine(zAW.calls _ _ H0.out H1.out).mono ?_
  rintro e w1 ⟨rfl,hb⟩
  have B3:=zA.mk (zO (ZL (W:=w) rfl (.cells #[.int .i64 0,.int .i64 0,.int .i64 0,.int .i64 0] 101)) hb)
  have HB:=zA.mk (zM (zC (ysy _ _) _) hb)
  clear hb;have HPL:=zA.mk (show qP a0 = [zp a0 0,zp a0 1,zp a0 2,zp a0 3]from rfl)
  have HIP:=zA.mk (show zEm a0=idxL (Jb (qP a0) 4)from rfl)
  generalize qP a0=pl at HPL HIP
  generalize zp a0 0=x0 at HS HPL ⊢
  generalize zp a0 1=x1 at HS HPL ⊢
  generalize zp a0 2=x2 at HS HPL ⊢
  generalize zp a0 3=x3 at HS HPL ⊢
  go_wp2_with fail
  go_loopg [8] 4 (fun gg v8 w' => ∃ (i:Nat) (b0 b1 b2 b3:Int),i≤4∧4-i≤gg∧v8 = .int .i64 i∧zA ([b0,b1,b2,b3]=Jb pl i) ∧
    zA (w'.heap[w.heap.size]?=some (.cells #[.int .i64 b0,.int .i64 b1,.int .i64 b2,.int .i64 b3] 101 (0,0)))∧zA (Below w.heap.size w w'))
  case atStart=>exact⟨0,0,0,0,0,by omega,by omega,rfl,⟨rfl⟩,B3,HB⟩
  case round=>
    clear HB B3;obtain⟨i,b0,b1,b2,b3,hi,hg,rfl,HI,B3,HB⟩:=hrel
    rcases(show i=4∨i=3∨i=2∨i=1∨i=0 by omega)with rfl|rfl|rfl|rfl|rfl
    · have c0:wr.cell? ⟨w.heap.size,0,none⟩=some (.int .i64 b0):=(zK B3.out 0).trans rfl
      have c1:wr.cell? ⟨w.heap.size,1,none⟩=some (.int .i64 b1):=(zK B3.out 1).trans rfl
      have c2:wr.cell? ⟨w.heap.size,2,none⟩=some (.int .i64 b2):=(zK B3.out 2).trans rfl
      have c3:wr.cell? ⟨w.heap.size,3,none⟩=some (.int .i64 b3):=(zK B3.out 3).trans rfl
      have ht:=Try.underlying101
      go_wp2_with fail
      have hsm:=zCn pl 4 (by omega)
      rw[← HI.out]at hsm
      refine(zE4.calls b0 b1 b2 b3 _ (hsm _ (by simp)) (hsm _ (by simp)) (hsm _ (by simp)) (hsm _ (by simp))).mono ?_
      rintro e w2 ⟨rfl,hb⟩
      have ae:=zA.mk (zM HB.out hb)
      clear hb hsm;go_wp2;go_ret;exact⟨by rw[HIP.out,← HI.out];rfl,ae.out⟩
    · have ix:=Qk x0 x1 x2 x3 3 (by omega) (by omega)
      have hx:rd [x0,x1,x2,x3] 3=x3:=rfl
      rw[hx]at ix
      have hs:sm x3:=HS.out.2.2.2
      obtain⟨aa,ab⟩:=hs
      have c3:=Qe B3.out x3 aa ab
      have f3:=zP B3.out x3.toNat
      have ad:=zA.mk (zDI B3.out x3 3 aa ab)
      have HN : [b0,b1,b2,b3].set x3.toNat 3=Jb pl (3+1):=by rw[HI.out,HPL.out];rfl
      have hlen:([b0,b1,b2,b3].set x3.toNat (3:Int)).length=4:=by simp
      have HF:=zA.mk ((zDJ hlen).symm.trans HN)
      clear hx HN hlen;go_wp2;go_roundg (4-(3+1))
      case measure=>omega
      case rel=>exact⟨3+1,_,_,_,_,by omega,by omega,by first|rfl|go_num,HF,ad,⟨zF HB.out (yry _)⟩⟩
    · have ix:=Qk x0 x1 x2 x3 2 (by omega) (by omega)
      have hx:rd [x0,x1,x2,x3] 2=x2:=rfl
      rw[hx]at ix
      have hs:sm x2:=HS.out.2.2.1
      obtain⟨aa,ab⟩:=hs
      have c3:=Qe B3.out x2 aa ab
      have f3:=zP B3.out x2.toNat
      have ad:=zA.mk (zDI B3.out x2 2 aa ab)
      have HN : [b0,b1,b2,b3].set x2.toNat 2=Jb pl (2+1):=by rw[HI.out,HPL.out];rfl
      have hlen:([b0,b1,b2,b3].set x2.toNat (2:Int)).length=4:=by simp
      have HF:=zA.mk ((zDJ hlen).symm.trans HN)
      clear hx HN hlen;go_wp2;go_roundg (4-(2+1))
      case measure=>omega
      case rel=>exact⟨2+1,_,_,_,_,by omega,by omega,by first|rfl|go_num,HF,ad,⟨zF HB.out (yry _)⟩⟩
    · have ix:=Qk x0 x1 x2 x3 1 (by omega) (by omega)
      have hx:rd [x0,x1,x2,x3] 1=x1:=rfl
      rw[hx]at ix
      have hs:sm x1:=HS.out.2.1
      obtain⟨aa,ab⟩:=hs
      have c3:=Qe B3.out x1 aa ab
      have f3:=zP B3.out x1.toNat
      have ad:=zA.mk (zDI B3.out x1 1 aa ab)
      have HN : [b0,b1,b2,b3].set x1.toNat 1=Jb pl (1+1):=by rw[HI.out,HPL.out];rfl
      have hlen:([b0,b1,b2,b3].set x1.toNat (1:Int)).length=4:=by simp
      have HF:=zA.mk ((zDJ hlen).symm.trans HN)
      clear hx HN hlen;go_wp2;go_roundg (4-(1+1))
      case measure=>omega
      case rel=>exact⟨1+1,_,_,_,_,by omega,by omega,by first|rfl|go_num,HF,ad,⟨zF HB.out (yry _)⟩⟩
    · have ix:=Qk x0 x1 x2 x3 0 (by omega) (by omega)
      have hx:rd [x0,x1,x2,x3] 0=x0:=rfl
      rw[hx]at ix
      have hs:sm x0:=HS.out.1
      obtain⟨aa,ab⟩:=hs
      have c3:=Qe B3.out x0 aa ab
      have f3:=zP B3.out x0.toNat
      have ad:=zA.mk (zDI B3.out x0 0 aa ab)
      have HN : [b0,b1,b2,b3].set x0.toNat 0=Jb pl (0+1):=by rw[HI.out,HPL.out];rfl
      have hlen:([b0,b1,b2,b3].set x0.toNat (0:Int)).length=4:=by simp
      have HF:=zA.mk ((zDJ hlen).symm.trans HN)
      clear hx HN hlen;go_wp2;go_roundg (4-(0+1))
      case measure=>omega
      case rel=>exact⟨0+1,_,_,_,_,by omega,by omega,by first|rfl|go_num,HF,ad,⟨zF HB.out (yry _)⟩⟩
def ZH.f (a0_0:Int) (a0_1:Int) (a1:Int):Option (Int × Int):=(Qq.f a0_1).bind fun t103=>(some (a1,t103))
set_option maxHeartbeats 8000000 in
set_option maxRecDepth 100000 in
theorem ZH.calls (ag:Int) (af:Int) (a1:Int) (r1:Int) (r2:Int) (w:World) (h:ZH.f ag af a1=some (r1,r2)) :
    Calls Try.prog 131 #[.agg #[.int .i64 ag,.int .i64 af],.int .i64 a1] w fun e w'=>e = .returned (.agg #[.int .i64 r1,.int .i64 r2])∧Below w.heap.size w w':=by
  have aH:=Try.underlying75
  have HB:=zA.mk (ysy w.heap.size w)
  have H:((Qq.f af).bind fun t103=>(some (a1,t103)))=some (r1,r2):=h
  clear h;replace H:=ydy.mp H
  obtain⟨t103,aB,H⟩:=H
  replace H:(some (a1,t103))=some (r1,r2):=H
  have A3:=zA.mk aB
  clear aB;simp only [Option.some.injEq,Prod.mk.injEq]at H
  obtain⟨rfl,rfl⟩:=H
  go_enter Try.func131,Try.ntmps131
  go_wp2_with (first|((with_reducible refine zw (N:=2) rfl ?_);refine zz ?hg (N:=2) ?hd (cs:=#[.int .i64 ag,.int .i64 af]) (t:=75) ?hr ?_;(case hd=>rfl);(case hg=>rfl);(case hr=>first|(go_simp;done)|(go_simp;rfl));intro ab hg w4 hbox hb;have ak:=zA.mk (zM (by repeat(first|(with_reducible first|exact HB.out|apply zC|apply zB|apply zD)|exact HB.out)) hb);have al:=zA.mk (hbox);have an:=zA.mk ((by rw[hg];exact(zQ (by repeat(first|(with_reducible first|exact HB.out|apply zC|apply zB|apply zD)|exact HB.out))):w.heap.size≤ab));have aq:=zA.mk ((by rw[hg];exact(zQ (by repeat(first|(with_reducible first|exact HB.out|apply zC|apply zB|apply zD)|exact HB.out))):w.heap.size≤ab));clear HB;have HB:=ak;have aa:=al;have aC:=an;have ah:=aq;clear ak al an aq;clear hb hbox hg)|((with_reducible refine zw (N:=4) rfl ?_);refine zz ?hg (N:=4) ?hd (cs:=#[.int .i64 0,.int .i64 0]) (t:=75) ?hr ?_;(case hd=>rfl);(case hg=>rfl);(case hr=>first|(go_simp;done)|(go_simp;rfl));intro ad hg w5 hbox hb;have ak:=zA.mk (zO (g:=ab) (o := .cells #[.int .i64 ag,.int .i64 af] 75 (0,0)) (by(with_reducible repeat(first|refine zH ?_ _|refine zJ ?_|refine zG ?_ _));exact aa.out) hb);have al:=zA.mk (zM (by repeat(first|(with_reducible first|exact HB.out|apply zC|apply zB|apply zD|refine zF ?_ ah.out)|exact HB.out)) hb);have an:=zA.mk (hbox);have aq:=zA.mk ((by rw[hg];exact(zQ (by repeat(first|(with_reducible first|exact HB.out|apply zC|apply zB|apply zD|refine zF ?_ ah.out)|exact HB.out))):w.heap.size≤ad));have aD:=zA.mk ((by rw[hg];exact(zQ (by repeat(first|(with_reducible first|exact HB.out|apply zC|apply zB|apply zD|refine zF ?_ ah.out)|exact HB.out))):w.heap.size≤ad));have aE:=zA.mk ((by rw[hg];exact Nat.ne_of_lt (qT (g:=ab) (o := .cells #[.int .i64 ag,.int .i64 af] 75 (0,0)) (by(with_reducible repeat(first|refine zH ?_ _|refine zJ ?_|refine zG ?_ _));exact aa.out)):ab≠ad));have aF:=zA.mk ((by rw[hg];exact Nat.ne_of_gt (qT (g:=ab) (o := .cells #[.int .i64 ag,.int .i64 af] 75 (0,0)) (by(with_reducible repeat(first|refine zH ?_ _|refine zJ ?_|refine zG ?_ _));exact aa.out)):ad≠ab));clear aa;clear HB;have aa:=ak;have HB:=al;have ae:=an;have aG:=aq;have ao:=aD;have ai:=aE;have aj:=aF;clear ak al an aq aD aE aF;clear hb hbox hg;have aI:=ai.out;have aJ:=aj.out;have ar:w5.cell? ⟨ab,0,none⟩=some (.int .i64 ag):=(zK aa.out 0).trans rfl;have au:w5.cell? ⟨ab,1,none⟩=some (.int .i64 af):=(zK aa.out 1).trans rfl;have av:=zP aa.out 0;have aw:=zP aa.out 1)|((with_reducible refine zd (f:=133) rfl ?_);refine qV (some 8) rfl rfl Try.func133 (by kernel_rfl) rfl #[.int .i64 af] rfl (by(try simp only [yiy,yjy,yky]);first|done|rfl|(simp only [yly,ymy];rfl)) ?_;(with_reducible refine(Qq.calls af t103 _ A3.out).mono ?_);rintro e w8 ⟨rfl,hb⟩;refine⟨_,rfl,?_⟩;have ak:=zA.mk (zO (g:=ab) (o := .cells #[.int .i64 ag,.int .i64 af] 75 (0,0)) (by(with_reducible repeat(first|refine zH ?_ _|refine zJ ?_|refine zG ?_ _));exact aa.out) hb);have al:=zA.mk (zO (g:=ad) (o := .cells #[.int .i64 0,.int .i64 0] 75 (0,0)) (by(with_reducible repeat(first|refine zH ?_ _|refine zJ ?_|refine zG ?_ _));exact ae.out) hb);have an:=zA.mk (zM (by repeat(first|(with_reducible first|exact HB.out|apply zC|apply zB|apply zD|refine zF ?_ ah.out|refine zF ?_ ao.out)|exact HB.out)) hb);clear aa;clear ae;clear HB;have aa:=ak;have ae:=al;have HB:=an;clear ak al an;(try clear hb);(try clear hb2);(try clear hk);(try clear hi);have ax:w8.cell? ⟨ad,0,none⟩=some (.int .i64 0):=(zK ae.out 0).trans rfl;have ay:w8.cell? ⟨ad,1,none⟩=some (.int .i64 0):=(zK ae.out 1).trans rfl;have az:=zP ae.out 0;have aA:=zP ae.out 1))
  refine bodyPost_ret (results_cell_row rfl _ _ ad 75 #[.int .i64 a1,.int .i64 t103] (0,0) _ rfl (by(with_reducible repeat(first|refine zH ?_ _|refine zJ ?_|refine zG ?_ _));refine qf (cs:=#[.int .i64 a1,.int .i64 0]) ?_ 1 _ rfl;(with_reducible repeat(first|refine zH ?_ _|refine zJ ?_|refine zG ?_ _));refine qf (cs:=#[.int .i64 0,.int .i64 0]) ?_ 0 _ rfl;(with_reducible repeat(first|refine zH ?_ _|refine zJ ?_|refine zG ?_ _));exact ae.out) Try.underlying75 rfl (by kernel_rfl)) rfl ?_
  exact⟨by first|rfl|(simp [zU,zV] <;> rfl)|(simp [*,zU,zV] <;> rfl),by repeat(first|(with_reducible first|exact HB.out|apply zC|apply zB|apply zD|refine zF ?_ ah.out|refine zF ?_ ao.out)|exact HB.out)⟩
def ZS.f (a0_0:Int) (a0_1:Int) (a1:Int):Option Int:=if 0≤a0_1∧a0_1≤23∧0≤a1∧a1≤3 then some (rd (qP a0_1) a1)else none
set_option maxHeartbeats 800000 in
set_option maxRecDepth 100000 in
theorem ZS.calls (ab:Int) (aa:Int) (a1:Int) (r:Int) (w:World) (h:ZS.f ab aa a1=some r) :
    Calls Try.prog 130 #[.agg #[.int .i64 ab,.int .i64 aa],.int .i64 a1] w fun e w'=>e = .returned (.int .i64 r)∧Below w.heap.size w w':=by
  unfold ZS.f at h
  by_cases hc:0≤aa∧aa≤23∧0≤a1∧a1≤3
  · rw[if_pos hc]at h
    obtain⟨h0,h1,ad,ae⟩:=hc
    have ix:=Qk (zp aa 0) (zp aa 1) (zp aa 2) (zp aa 3) a1 ad ae
    have H0:=zA.mk h0
    have H1:=zA.mk h1
    clear h0 h1;have hr:rd [zp aa 0,zp aa 1,zp aa 2,zp aa 3] a1=r:=yey h
    rw[hr]at ix
    clear hr h;go_enter Try.func130,Try.ntmps130
    go_wp2_with fail
    refine(zAW.calls _ _ H0.out H1.out).mono ?_
    rintro e w' ⟨rfl,hb⟩
    have HB:=zA.mk (zM (zC (ysy _ _) _) hb)
    clear hb;go_wp2;go_ret;exact⟨rfl,HB.out⟩
  · rw[if_neg hc]at h
    exact absurd h (by simp)
def qq.f (l0:List (List (zv))) (a1:Int):Option (Bool):=(qX.f l0).bind fun t101=>((qv.f a1 0 (wrap64 (t101-1))).bind fun t102=>(some t102))
set_option maxHeartbeats 8000000 in
set_option maxRecDepth 100000 in
theorem qq.calls (A0:Option Addr) (c0:Nat) (l0:List (List (zv))) (a1:Int) (r:Bool) (w:World) (aa:Kd.C (Kd.slice 75 ZZ) w A0 l0.length l0) (ab:l0.length≤c0) (h:qq.f l0 a1=some r) :
    Calls Try.prog 70 #[.slice A0 l0.length c0,.int .i64 a1] w fun e w'=>e = .returned (.bool r)∧qG w w':=by
  have af:=zA.mk aa
  have ag:=zA.mk ab
  clear aa ab;have H:((qX.f l0).bind fun t101=>((qv.f a1 0 (wrap64 (t101-1))).bind fun t102=>(some t102)))=some r:=h
  clear h;replace H:=ydy.mp H
  obtain⟨t101,ad,H⟩:=H
  replace H:((qv.f a1 0 (wrap64 (t101-1))).bind fun t102=>(some t102))=some r:=H
  have A3:=zA.mk ad
  clear ad;replace H:=ydy.mp H
  obtain⟨t102,ae,H⟩:=H
  replace H:(some t102)=some r:=H
  have A4:=zA.mk ae
  clear ae;obtain rfl:=yey H
  go_enter Try.func70,Try.ntmps70
  go_wp2_with (first|((with_reducible refine zd (f:=75) rfl ?_);refine qV (some 7) rfl rfl Try.func75 (by kernel_rfl) rfl #[.slice A0 l0.length c0] rfl (by(try simp only [yiy,yjy,yky]);first|done|rfl|(simp only [yly,ymy];rfl)) ?_;(with_reducible refine(qX.calls _ _ l0 t101 _ ?side1 ?side2 A3.out).mono ?_);(case side1=>repeat(first|exact af.out|(with_reducible refine Kd.zy ?_ _)|(with_reducible refine Kd.qA ?_ _)|(with_reducible refine Kd.qR ?_)));(case side2=>exact ag.out);rintro e w' ⟨rfl,⟨nd,rfl⟩⟩;refine⟨_,rfl,?_⟩)|((with_reducible refine zd (f:=86) rfl ?_);refine qV (some 9) rfl rfl Try.func86 (by kernel_rfl) rfl #[.int .i64 a1,.int .i64 0,.int .i64 (wrap64 (t101-1))] rfl (by(try simp only [yiy,yjy,yky]);first|done|rfl|(simp only [yly,ymy];rfl)) ?_;(with_reducible refine(qv.calls a1 0 (wrap64 (t101-1)) t102 _ A4.out).mono ?_);rintro e w' ⟨rfl,⟨nd,rfl⟩⟩;refine⟨_,rfl,?_⟩))
  go_ret;exact⟨by first|rfl|(simp;done)|(simp [*];done),by repeat(first|exact qG.refl _|apply qG.step)⟩
def QT.f (a0:Int):Option (Bool):=(qv.f a0 0 23).bind fun t101=>(some t101)
set_option maxHeartbeats 8000000 in
set_option maxRecDepth 100000 in
theorem QT.calls (a0:Int) (r:Bool) (w:World) (h:QT.f a0=some r) :
    Calls Try.prog 129 #[.int .i64 a0] w fun e w'=>e = .returned (.bool r)∧qG w w':=by
  have H:((qv.f a0 0 23).bind fun t101=>(some t101))=some r:=h
  clear h;replace H:=ydy.mp H
  obtain⟨t101,aa,H⟩:=H
  replace H:(some t101)=some r:=H
  have A2:=zA.mk aa
  clear aa;obtain rfl:=yey H
  go_enter Try.func129,Try.ntmps129
  go_wp2_with (first|((with_reducible refine zd (f:=86) rfl ?_);refine qV (some 4) rfl rfl Try.func86 (by kernel_rfl) rfl #[.int .i64 a0,.int .i64 0,.int .i64 23] rfl (by(try simp only [yiy,yjy,yky]);first|done|rfl|(simp only [yly,ymy];rfl)) ?_;(with_reducible refine(qv.calls a0 0 23 t101 _ A2.out).mono ?_);rintro e w' ⟨rfl,⟨nd,rfl⟩⟩;refine⟨_,rfl,?_⟩))
  go_ret;exact⟨by first|rfl|(simp;done)|(simp [*];done),by repeat(first|exact qG.refl _|apply qG.step)⟩
section
attribute [local go_sem high] eqA75
def zY.j0:Nat→Int→Int→Bool→List (List (zv))→Int→Int→Option (Bool)
 | 0,_,_,_,_,_,_=>none
 | k+1,x1,x2,x34,x102000,x105000,x105001=>if x34=true then(some false)else((ZS.f x105000 x105001 x2).bind fun t107=>(if 0≤x105000 then(if x105000<(x102000.length:Int)then(if 0≤t107 then(if t107<((zE x102000 x105000).length:Int)then((ZH.f x105000 x105001 x1).bind fun bt110=>(if(((zI (zE x102000 x105000) t107).f0)==bt110.1&&(((zI (zE x102000 x105000) t107).f1)==bt110.2))=true then(if x105000=x1 then(some (t107 != x2))else(some true))else(some false)))else(none))else(none))else(none))else(none)))
def zY.f (k:Nat) (l0_0:List (List (zv))) (a1:Int) (a2:Int):Option (Bool):=if 0≤a1 then(if a1<(l0_0.length:Int)then(if 0≤a2 then(if a2<((zE l0_0 a1).length:Int)then(if((zI (zE l0_0 a1) a2).f0)=(-1)then(some (((zI (zE l0_0 a1) a2).f1)==0))else((qq.f l0_0 ((zI (zE l0_0 a1) a2).f0)).bind fun t105=>(if t105=true then((QT.f ((zI (zE l0_0 a1) a2).f1)).bind fun t106=>(zY.j0 k a1 a2 (!t106) l0_0 ((zI (zE l0_0 a1) a2).f0) ((zI (zE l0_0 a1) a2).f1)))else(zY.j0 k a1 a2 true l0_0 ((zI (zE l0_0 a1) a2).f0) ((zI (zE l0_0 a1) a2).f1)))))else(none))else(none))else(none))else(none)
def zY.T7:Bool × List (List Nat × List Nat):=(true,[([],[]),([0],[0]),([],[]),([2],[2]),([1,3],[1,3]),([4],[4]),([],[]),([5,6],[5,6]),([7],[7]),([],[]),([],[]),([9,10],[9,10]),([8,11],[8,11]),([12,11],[12]),([13],[13]),([14,13],[13,14]),([13],[13]),([15,16,13],[13,15,16]),([17,13,13],[13,17]),([18],[18]),([18],[18]),([19,20,18],[18,19,20]),([18,21,13],[13,18,21]),([13,22],[13,22]),([23,18,0,1,2,3,4,5,6,7,8,9,10,11,12,13,14,15,16,17,18,19,20,21,22,23],[23])])
def zY.B7:List Nat := [0,1,0,4,15,31,0,127,255,0,0,1536,4095,8191,16383,32767,16383,131071,262143,524287,524287,2097151,4194303,8388607,16777215]
theorem zY.tab7:Jg .any (opsOf Try.f108 7)=zY.T7:=by kernel_rfl
theorem zY.zIj:QK zY.T7.2 zY.B7=true:=by kernel_rfl
set_option maxHeartbeats 8000000 in
set_option maxRecDepth 100000 in
theorem zY.calls (k:Nat) (aW:Option Addr) (au:Nat) (aa:List (List (zv))) (a1:Int) (a2:Int) (r:Bool) (w:World) (bA:Kd.C (Kd.slice 75 ZZ) w aW aa.length aa) (bB:aa.length≤au) (h:zY.f k aa a1 a2=some r) :
 Calls Try.prog 108 #[.agg #[.slice aW aa.length au],.int .i64 a1,.int .i64 a2] w fun e w'=>e = .returned (.bool r)∧Below w.heap.size w w':=by
 have cO:=Try.underlying35
 have cP:=Try.underlying75
 have aI:=zA.mk bA
 have bC:=zA.mk bB
 clear bA bB;have HB:=zA.mk (ysy w.heap.size w)
 have H:(if 0≤a1 then(if a1<(aa.length:Int)then(if 0≤a2 then(if a2<((zE aa a1).length:Int)then(if((zI (zE aa a1) a2).f0)=(-1)then(some (((zI (zE aa a1) a2).f1)==0))else((qq.f aa ((zI (zE aa a1) a2).f0)).bind fun t105=>(if t105=true then((QT.f ((zI (zE aa a1) a2).f1)).bind fun t106=>(zY.j0 k a1 a2 (!t106) aa ((zI (zE aa a1) a2).f0) ((zI (zE aa a1) a2).f1)))else(zY.j0 k a1 a2 true aa ((zI (zE aa a1) a2).f0) ((zI (zE aa a1) a2).f1)))))else(none))else(none))else(none))else(none))=some r:=h
 clear h;by_cases c4:0≤a1
 case neg=>
  rw[if_neg c4]at H
  exact absurd H (by simp)
 rw[if_pos c4]at H
 have cl:decide (0≤a1)=true:=ygy c4
 clear c4;by_cases c5:a1<(aa.length:Int)
 case neg=>
  rw[if_neg c5]at H
  exact absurd H (by simp)
 rw[if_pos c5]at H
 have cm:decide (a1<(aa.length:Int))=true:=ygy c5
 clear c5;by_cases c6:0≤a2
 case neg=>
  rw[if_neg c6]at H
  exact absurd H (by simp)
 rw[if_pos c6]at H
 have cn:decide (0≤a2)=true:=ygy c6
 clear c6;by_cases c7:a2<((zE aa a1).length:Int)
 case neg=>
  rw[if_neg c7]at H
  exact absurd H (by simp)
 rw[if_pos c7]at H
 have cp:decide (a2<((zE aa a1).length:Int))=true:=ygy c7
 clear c7;by_cases c8:((zI (zE aa a1) a2).f0)=(-1)
 next=>
  rw[if_pos c8]at H
  have bL:(((zI (zE aa a1) a2).f0)==(-1))=true:=beq_iff_eq.mpr c8
  have bM:(((zI (zE aa a1) a2).f0) != (-1))=false:=bne_eq_false_iff_eq.mpr c8
  clear c8;obtain rfl:=yey H
  go_enter Try.func108,Try.ntmps108
  go_wp2_with (first|((with_reducible refine zw (N:=3) rfl ?_);refine zz ?hg (N:=3) ?hd (cs:=#[.slice aW aa.length au]) (t:=35) ?hr ?_;(case hd=>rfl);(case hg=>rfl);(case hr=>first|(go_simp;done)|(go_simp;rfl));intro ag hg w9 hbox hb;have aD:=zA.mk (zM (by repeat(first|(with_reducible first|exact HB.out|apply zC|apply zB|apply zD)|exact HB.out)) hb);have aE:=zA.mk (hbox);have aF:=zA.mk ((by rw[hg];exact(zQ (by repeat(first|(with_reducible first|exact HB.out|apply zC|apply zB|apply zD)|exact HB.out))):w.heap.size≤ag));have aX:=zA.mk ((by rw[hg];exact(zQ (by repeat(first|(with_reducible first|exact HB.out|apply zC|apply zB|apply zD)|exact HB.out))):w.heap.size≤ag));clear HB;have HB:=aD;have ad:=aE;have bN:=aF;have aq:=aX;clear aD aE aF aX;clear hb hbox hg;have a7:w9.cell? ⟨ag,0,none⟩=some (.slice aW aa.length au):=(zK ad.out 0).trans rfl;have a8:=zP ad.out 0;have aQ:0≤(a1:Int):=of_decide_eq_true (by first|(with_reducible assumption)|assumption);have aR:a1<(aa.length:Int):=of_decide_eq_true (by first|(with_reducible assumption)|assumption);obtain⟨ak,bF,bG,bH,aw,aG,aH⟩:=ZY aI.out a1 aQ aR;cases bH;replace aw:=(HB.out.cell (yqy w _ aw)).trans aw;have aO:=zA.mk aH;have a_:=zA.mk aG;clear aH aG;replace aQ:=eq_true aQ;replace aR:=eq_true aR;have aS:0≤(a2:Int):=of_decide_eq_true (by first|(with_reducible assumption)|assumption);have aT:a2<((zE aa a1).length:Int):=of_decide_eq_true (by first|(with_reducible assumption)|assumption);obtain⟨bO,bI,ax,ay⟩:=QF aO.out a2 aS aT;cases bI;replace ax:=(HB.out.cell (yqy w _ ax)).trans ax;replace ay:=(HB.out.cell (yqy w _ ay)).trans ay;replace aS:=eq_true aS;replace aT:=eq_true aT)|((with_reducible refine zw (N:=7) rfl ?_);refine zz ?hg (N:=7) ?hd (cs:=#[.int .i64 0,.int .i64 0]) (t:=75) ?hr ?_;(case hd=>rfl);(case hg=>rfl);(case hr=>first|(go_simp;done)|(go_simp;rfl));intro ae hg ct hbox hb;have aD:=zA.mk (zO (g:=ag) (o := .cells #[.slice (some ak) aa.length au] 35 (0,0)) (by(with_reducible repeat(first|refine zH ?_ _|refine zJ ?_|refine zG ?_ _));exact ad.out) hb);have aE:=zA.mk (zM (by repeat(first|(with_reducible first|exact HB.out|apply zC|apply zB|apply zD|refine zF ?_ aq.out)|exact HB.out)) hb);have aF:=zA.mk (hbox);have aX:=zA.mk ((by rw[hg];exact(zQ (by repeat(first|(with_reducible first|exact HB.out|apply zC|apply zB|apply zD|refine zF ?_ aq.out)|exact HB.out))):w.heap.size≤ae));have bP:=zA.mk ((by rw[hg];exact(zQ (by repeat(first|(with_reducible first|exact HB.out|apply zC|apply zB|apply zD|refine zF ?_ aq.out)|exact HB.out))):w.heap.size≤ae));have bQ:=zA.mk ((by rw[hg];exact Nat.ne_of_lt (qT (g:=ag) (o := .cells #[.slice (some ak) aa.length au] 35 (0,0)) (by(with_reducible repeat(first|refine zH ?_ _|refine zJ ?_|refine zG ?_ _));exact ad.out)):ag≠ae));have bR:=zA.mk ((by rw[hg];exact Nat.ne_of_gt (qT (g:=ag) (o := .cells #[.slice (some ak) aa.length au] 35 (0,0)) (by(with_reducible repeat(first|refine zH ?_ _|refine zJ ?_|refine zG ?_ _));exact ad.out)):ae≠ag));clear ad;clear HB;have ad:=aD;have HB:=aE;have ab:=aF;have bS:=aX;have av:=bP;have af:=bQ;have ar:=bR;clear aD aE aF aX bP bQ bR;clear hb hbox hg;have cu:=ar.out;have cv:=af.out;have ba:ct.cell? ⟨ae,0,none⟩=some (.int .i64 0):=(zK ab.out 0).trans rfl;have bb:ct.cell? ⟨ae,1,none⟩=some (.int .i64 0):=(zK ab.out 1).trans rfl;have bc:=zP ab.out 0;have bd:=zP ab.out 1))
  go_ret;exact⟨by first|rfl|(simp [zU,zV] <;> rfl)|(simp [*,zU,zV] <;> rfl),by repeat(first|(with_reducible first|exact HB.out|apply zC|apply zB|apply zD|refine zF ?_ aq.out|refine zF ?_ av.out)|exact HB.out)⟩
 rw[if_neg c8]at H
 have bL:(((zI (zE aa a1) a2).f0)==(-1))=false:=beq_eq_false_iff_ne.mpr c8
 have bM:(((zI (zE aa a1) a2).f0) != (-1))=true:=bne_iff_ne.mpr c8
 have bJ:=zA.mk H
 clear H;go_enter Try.func108,Try.ntmps108
 go_upto_region 4 with (first|((with_reducible refine zw (N:=3) rfl ?_);refine zz ?hg (N:=3) ?hd (cs:=#[.slice aW aa.length au]) (t:=35) ?hr ?_;(case hd=>rfl);(case hg=>rfl);(case hr=>first|(go_simp;done)|(go_simp;rfl));intro ag hg cQ hbox hb;have aD:=zA.mk (zM (by repeat(first|(with_reducible first|exact HB.out|apply zC|apply zB|apply zD)|exact HB.out)) hb);have aE:=zA.mk (hbox);have aF:=zA.mk ((by rw[hg];exact(zQ (by repeat(first|(with_reducible first|exact HB.out|apply zC|apply zB|apply zD)|exact HB.out))):w.heap.size≤ag));have aX:=zA.mk ((by rw[hg];exact(zQ (by repeat(first|(with_reducible first|exact HB.out|apply zC|apply zB|apply zD)|exact HB.out))):w.heap.size≤ag));clear HB;have HB:=aD;have ad:=aE;have bN:=aF;have aq:=aX;clear aD aE aF aX;clear hb hbox hg;have bf:cQ.cell? ⟨ag,0,none⟩=some (.slice aW aa.length au):=(zK ad.out 0).trans rfl;have bg:=zP ad.out 0;have aQ:0≤(a1:Int):=of_decide_eq_true (by first|(with_reducible assumption)|assumption);have aR:a1<(aa.length:Int):=of_decide_eq_true (by first|(with_reducible assumption)|assumption);obtain⟨ak,bF,bG,bH,aw,aG,aH⟩:=ZY aI.out a1 aQ aR;cases bH;replace aw:=(HB.out.cell (yqy w _ aw)).trans aw;have aO:=zA.mk aH;have a_:=zA.mk aG;clear aH aG;replace aQ:=eq_true aQ;replace aR:=eq_true aR;have aS:0≤(a2:Int):=of_decide_eq_true (by first|(with_reducible assumption)|assumption);have aT:a2<((zE aa a1).length:Int):=of_decide_eq_true (by first|(with_reducible assumption)|assumption);obtain⟨bO,bI,ax,ay⟩:=QF aO.out a2 aS aT;cases bI;replace ax:=(HB.out.cell (yqy w _ ax)).trans ax;replace ay:=(HB.out.cell (yqy w _ ay)).trans ay;replace aS:=eq_true aS;replace aT:=eq_true aT)|((with_reducible refine zw (N:=7) rfl ?_);refine zz ?hg (N:=7) ?hd (cs:=#[.int .i64 0,.int .i64 0]) (t:=75) ?hr ?_;(case hd=>rfl);(case hg=>rfl);(case hr=>first|(go_simp;done)|(go_simp;rfl));intro ae hg bD hbox hb;have aD:=zA.mk (zO (g:=ag) (o := .cells #[.slice (some ak) aa.length au] 35 (0,0)) (by(with_reducible repeat(first|refine zH ?_ _|refine zJ ?_|refine zG ?_ _));exact ad.out) hb);have aE:=zA.mk (zM (by repeat(first|(with_reducible first|exact HB.out|apply zC|apply zB|apply zD|refine zF ?_ aq.out)|exact HB.out)) hb);have aF:=zA.mk (hbox);have aX:=zA.mk ((by rw[hg];exact(zQ (by repeat(first|(with_reducible first|exact HB.out|apply zC|apply zB|apply zD|refine zF ?_ aq.out)|exact HB.out))):w.heap.size≤ae));have bP:=zA.mk ((by rw[hg];exact(zQ (by repeat(first|(with_reducible first|exact HB.out|apply zC|apply zB|apply zD|refine zF ?_ aq.out)|exact HB.out))):w.heap.size≤ae));have bQ:=zA.mk ((by rw[hg];exact Nat.ne_of_lt (qT (g:=ag) (o := .cells #[.slice (some ak) aa.length au] 35 (0,0)) (by(with_reducible repeat(first|refine zH ?_ _|refine zJ ?_|refine zG ?_ _));exact ad.out)):ag≠ae));have bR:=zA.mk ((by rw[hg];exact Nat.ne_of_gt (qT (g:=ag) (o := .cells #[.slice (some ak) aa.length au] 35 (0,0)) (by(with_reducible repeat(first|refine zH ?_ _|refine zJ ?_|refine zG ?_ _));exact ad.out)):ae≠ag));clear ad;clear HB;have ad:=aD;have HB:=aE;have ab:=aF;have bS:=aX;have av:=bP;have af:=bQ;have ar:=bR;clear aD aE aF aX bP bQ bR;clear hb hbox hg;have cw:=ar.out;have cx:=af.out;have bh:bD.cell? ⟨ae,0,none⟩=some (.int .i64 0):=(zK ab.out 0).trans rfl;have bj:bD.cell? ⟨ae,1,none⟩=some (.int .i64 0):=(zK ab.out 1).trans rfl;have bk:=zP ab.out 0;have bl:=zP ab.out 1))
 (try simp only [Act.put,yay,yby,ycy])
 go_cut [34] (fun cR wc => ∃ (kq:Nat) (aP:Bool),cR = .bool aP∧zA (zY.j0 kq a1 a2 aP aa ((zI (zE aa a1) a2).f0) ((zI (zE aa a1) a2).f1)=some r)∧zA (kq≤k)∧zA (wc.heap[ag]?=some (.cells #[(.slice (some ak) aa.length au)] 35 (0,0)))∧zA (wc.heap[ae]?=some (.cells #[.int .i64 ((zI (zE aa a1) a2).f0),.int .i64 ((zI (zE aa a1) a2).f1)] 75 (0,0)))∧zA (Below w.heap.size w wc))
 case first=>
  have H:=bJ.out
  clear bJ;replace H:=ydy.mp H
  obtain⟨t105,bT,H⟩:=H
  replace H:(if t105=true then((QT.f ((zI (zE aa a1) a2).f1)).bind fun t106=>(zY.j0 k a1 a2 (!t106) aa ((zI (zE aa a1) a2).f0) ((zI (zE aa a1) a2).f1)))else(zY.j0 k a1 a2 true aa ((zI (zE aa a1) a2).f0) ((zI (zE aa a1) a2).f1)))=some r:=H
  have cy:=zA.mk bT
  clear bT;by_cases bU:t105=true
  case neg=>
   replace bU:=Bool.eq_false_iff.mpr bU
   subst bU;rw[if_neg (show ¬ (false=true)by decide)]at H
   have H':=zA.mk H
   clear H;have cz:=af.out
   have cA:=ar.out
   have bm:bD.cell? ⟨ag,0,none⟩=some (.slice (some ak) aa.length au):=(zK ad.out 0).trans rfl
   have bn:=zP ad.out 0
   have bo:bD.cell? ⟨ae,0,none⟩=some (.int .i64 0):=(zK ab.out 0).trans rfl
   have bp:bD.cell? ⟨ae,1,none⟩=some (.int .i64 0):=(zK ab.out 1).trans rfl
   have bq:=zP ab.out 0
   have br:=zP ab.out 1
   go_wp2_with (first|((with_reducible refine zd (f:=70) rfl ?_);refine qV (some 27) rfl rfl Try.func70 (by kernel_rfl) rfl #[.slice (some ak) aa.length au,.int .i64 ((zI (zE aa a1) a2).f0)] rfl (by(try simp only [yiy,yjy,yky]);first|done|rfl|(simp only [yly,ymy];rfl)) ?_;(with_reducible refine(qq.calls _ _ aa ((zI (zE aa a1) a2).f0) false _ ?side1 ?side2 cy.out).mono ?_);(case side1=>exact Kd.qD aI.out (by repeat(first|(with_reducible first|exact HB.out|apply zC|apply zB|apply zD|refine zF ?_ aq.out|refine zF ?_ av.out)|exact HB.out)));(case side2=>exact bC.out);rintro e w' ⟨rfl,⟨nd,rfl⟩⟩;refine⟨_,rfl,?_⟩))
   go_meet
   case rel=>exact⟨_,(true),(by first|rfl|(simp;done)|(simp [*];done)),H',⟨by first|omega|exact yry _⟩,⟨by(with_reducible repeat(first|refine zH ?_ _|refine zJ ?_|refine zG ?_ _));refine qJ ?_ af.out _;(with_reducible repeat(first|refine zH ?_ _|refine zJ ?_|refine zG ?_ _));refine qJ ?_ af.out _;(with_reducible repeat(first|refine zH ?_ _|refine zJ ?_|refine zG ?_ _));exact ad.out⟩,⟨by(with_reducible repeat(first|refine zH ?_ _|refine zJ ?_|refine zG ?_ _));refine qf (cs:=#[.int .i64 ((zI (zE aa a1) a2).f0),.int .i64 0]) ?_ 1 _ rfl;(with_reducible repeat(first|refine zH ?_ _|refine zJ ?_|refine zG ?_ _));refine qf (cs:=#[.int .i64 0,.int .i64 0]) ?_ 0 _ rfl;(with_reducible repeat(first|refine zH ?_ _|refine zJ ?_|refine zG ?_ _));exact ab.out⟩,⟨by repeat(first|(with_reducible first|exact HB.out|apply zC|apply zB|apply zD|refine zF ?_ aq.out|refine zF ?_ av.out)|exact HB.out)⟩⟩
  subst bU;rw[if_pos rfl]at H
  replace H:=ydy.mp H
  obtain⟨t106,bV,H⟩:=H
  replace H:(zY.j0 k a1 a2 (!t106) aa ((zI (zE aa a1) a2).f0) ((zI (zE aa a1) a2).f1))=some r:=H
  have cS:=zA.mk bV
  clear bV;have H':=zA.mk H
  clear H;have cB:=af.out
  have cC:=ar.out
  have bs:bD.cell? ⟨ag,0,none⟩=some (.slice (some ak) aa.length au):=(zK ad.out 0).trans rfl
  have bt:=zP ad.out 0
  have bu:bD.cell? ⟨ae,0,none⟩=some (.int .i64 0):=(zK ab.out 0).trans rfl
  have bw:bD.cell? ⟨ae,1,none⟩=some (.int .i64 0):=(zK ab.out 1).trans rfl
  have bx:=zP ab.out 0
  have bz:=zP ab.out 1
  go_wp2_with (first|((with_reducible refine zd (f:=70) rfl ?_);refine qV (some 27) rfl rfl Try.func70 (by kernel_rfl) rfl #[.slice (some ak) aa.length au,.int .i64 ((zI (zE aa a1) a2).f0)] rfl (by(try simp only [yiy,yjy,yky]);first|done|rfl|(simp only [yly,ymy];rfl)) ?_;(with_reducible refine(qq.calls _ _ aa ((zI (zE aa a1) a2).f0) true _ ?side1 ?side2 cy.out).mono ?_);(case side1=>exact Kd.qD aI.out (by repeat(first|(with_reducible first|exact HB.out|apply zC|apply zB|apply zD|refine zF ?_ aq.out|refine zF ?_ av.out)|exact HB.out)));(case side2=>exact bC.out);rintro e w' ⟨rfl,⟨nd,rfl⟩⟩;refine⟨_,rfl,?_⟩)|(go_at_call 129;(with_reducible refine(QT.calls ((zI (zE aa a1) a2).f1) t106 _ cS.out).mono ?_);rintro e w' ⟨rfl,⟨nd,rfl⟩⟩))
  go_meet
  case rel=>exact⟨_,(!t106),(by first|rfl|(simp;done)|(simp [*];done)),H',⟨by first|omega|exact yry _⟩,⟨by(with_reducible repeat(first|refine zH ?_ _|refine zJ ?_|refine zG ?_ _));refine qJ ?_ af.out _;(with_reducible repeat(first|refine zH ?_ _|refine zJ ?_|refine zG ?_ _));refine qJ ?_ af.out _;(with_reducible repeat(first|refine zH ?_ _|refine zJ ?_|refine zG ?_ _));exact ad.out⟩,⟨by(with_reducible repeat(first|refine zH ?_ _|refine zJ ?_|refine zG ?_ _));refine qf (cs:=#[.int .i64 ((zI (zE aa a1) a2).f0),.int .i64 0]) ?_ 1 _ rfl;(with_reducible repeat(first|refine zH ?_ _|refine zJ ?_|refine zG ?_ _));refine qf (cs:=#[.int .i64 0,.int .i64 0]) ?_ 0 _ rfl;(with_reducible repeat(first|refine zH ?_ _|refine zJ ?_|refine zG ?_ _));exact ab.out⟩,⟨by repeat(first|(with_reducible first|exact HB.out|apply zC|apply zB|apply zD|refine zF ?_ aq.out|refine zF ?_ av.out)|exact HB.out)⟩⟩
 case rest=>
  clear bJ;(try clear c1);(try clear p1);(try clear q1);(try clear hx1);(try clear c2);(try clear p2);(try clear c4);(try clear cl);(try clear c5);(try clear cm);(try clear c6);(try clear cn);(try clear c7);(try clear cp);(try clear c8);(try clear bL);(try clear bM);(try clear c10);(try clear p10);(try clear q10);(try clear hx10);(try clear c12);(try clear c18);(try clear bU);(try clear c23);(try clear c26);(try clear a7);(try clear ba);(try clear bb);(try clear bf);(try clear bh);(try clear bj);(try clear bs);(try clear bu);(try clear bw);(try clear bm);(try clear bo);(try clear bp);(try clear a8);(try clear bc);(try clear bd);(try clear bg);(try clear bk);(try clear bl);(try clear bt);(try clear bx);(try clear bz);(try clear bn);(try clear bq);(try clear br);(try clear aw);(try clear ax);(try clear ay);(try clear aQ);(try clear aS);(try clear aR);(try clear aT);obtain⟨kq,aP,rfl,HA,cT,ad,ab,HB⟩:=hcut
  cases kq with
  | zero=>exact absurd HA.out (by simp [zY.j0])
  | succ cU=>
   have H:=HA.out
   clear HA;simp only [zY.j0]at H
   by_cases b3:aP=true
   next=>
    subst b3;rw[if_pos rfl]at H
    obtain rfl:=yey H
    go_wp2;go_ret;exact⟨by first|rfl|(simp [zU,zV] <;> rfl)|(simp [*,zU,zV] <;> rfl),by repeat(first|(with_reducible first|exact HB.out|apply zC|apply zB|apply zD|refine zF ?_ aq.out|refine zF ?_ av.out)|exact HB.out)⟩
   replace b3:=Bool.eq_false_iff.mpr b3
   subst b3;rw[if_neg (show ¬ (false=true)by decide)]at H
   replace H:=ydy.mp H
   obtain⟨t107,bW,H⟩:=H
   replace H:(if 0≤((zI (zE aa a1) a2).f0)then(if((zI (zE aa a1) a2).f0)<(aa.length:Int)then(if 0≤t107 then(if t107<((zE aa ((zI (zE aa a1) a2).f0)).length:Int)then((ZH.f ((zI (zE aa a1) a2).f0) ((zI (zE aa a1) a2).f1) a1).bind fun bE=>(if(((zI (zE aa ((zI (zE aa a1) a2).f0)) t107).f0)==bE.1&&(((zI (zE aa ((zI (zE aa a1) a2).f0)) t107).f1)==bE.2))=true then(if((zI (zE aa a1) a2).f0)=a1 then(some (t107 != a2))else(some true))else(some false)))else(none))else(none))else(none))else(none))=some r:=H
   have cq:=zA.mk bW
   clear bW;by_cases b4:0≤((zI (zE aa a1) a2).f0)
   case neg=>
    rw[if_neg b4]at H
    exact absurd H (by simp)
   rw[if_pos b4]at H
   have cD:decide (0≤((zI (zE aa a1) a2).f0))=true:=ygy b4
   clear b4;by_cases b5:((zI (zE aa a1) a2).f0)<(aa.length:Int)
   case neg=>
    rw[if_neg b5]at H
    exact absurd H (by simp)
   rw[if_pos b5]at H
   have cE:decide (((zI (zE aa a1) a2).f0)<(aa.length:Int))=true:=ygy b5
   clear b5;by_cases b6:0≤t107
   case neg=>
    rw[if_neg b6]at H
    exact absurd H (by simp)
   rw[if_pos b6]at H
   have cF:decide (0≤t107)=true:=ygy b6
   clear b6;by_cases b7:t107<((zE aa ((zI (zE aa a1) a2).f0)).length:Int)
   case neg=>
    rw[if_neg b7]at H
    exact absurd H (by simp)
   rw[if_pos b7]at H
   have cG:decide (t107<((zE aa ((zI (zE aa a1) a2).f0)).length:Int))=true:=ygy b7
   clear b7;replace H:=ydy.mp H
   obtain⟨⟨t110,t111⟩,bX,H⟩:=H
   replace H:(if(((zI (zE aa ((zI (zE aa a1) a2).f0)) t107).f0)==t110&&(((zI (zE aa ((zI (zE aa a1) a2).f0)) t107).f1)==t111))=true then(if((zI (zE aa a1) a2).f0)=a1 then(some (t107 != a2))else(some true))else(some false))=some r:=H
   have cr:=zA.mk bX
   clear bX;by_cases aY:(((zI (zE aa ((zI (zE aa a1) a2).f0)) t107).f0)==t110&&(((zI (zE aa ((zI (zE aa a1) a2).f0)) t107).f1)==t111))=true
   case neg=>
    rw[if_neg aY]at H
    have bY:(((zI (zE aa ((zI (zE aa a1) a2).f0)) t107).f0)==t110&&(((zI (zE aa ((zI (zE aa a1) a2).f0)) t107).f1)==t111))=false:=by simpa using aY
    (try(have bZ:decide (((zI (zE aa ((zI (zE aa a1) a2).f0)) t107).f0)=t110&&(((zI (zE aa ((zI (zE aa a1) a2).f0)) t107).f1)==t111))=false:=by simpa using aY))
    (try(have b0:(((zI (zE aa ((zI (zE aa a1) a2).f0)) t107).f0)==t110&&(((zI (zE aa ((zI (zE aa a1) a2).f0)) t107).f1)==t111))=false:=by simpa using aY))
    (try(have cH : ¬ (((zI (zE aa ((zI (zE aa a1) a2).f0)) t107).f0)=t110&&(((zI (zE aa ((zI (zE aa a1) a2).f0)) t107).f1)==t111)):=by simpa using aY))
    clear aY;obtain rfl:=yey H
    have cI:=ar.out
    have cJ:=af.out
    have b8:wc.cell? ⟨ae,0,none⟩=some (.int .i64 ((zI (zE aa a1) a2).f0)):=(zK ab.out 0).trans rfl
    have b9:wc.cell? ⟨ae,1,none⟩=some (.int .i64 ((zI (zE aa a1) a2).f1)):=(zK ab.out 1).trans rfl
    have b_:=zP ab.out 0
    have ca:=zP ab.out 1
    try go_wp2_with (first|((with_reducible refine zd (f:=130) rfl ?_);refine qV (some 37) rfl rfl Try.func130 (by kernel_rfl) rfl #[.agg #[.int .i64 ((zI (zE aa a1) a2).f0),.int .i64 ((zI (zE aa a1) a2).f1)],.int .i64 a2] rfl (by(try simp only [yiy,yjy,yky]);first|done|rfl|(simp only [yly,ymy];rfl)) ?_;(with_reducible refine(ZS.calls ((zI (zE aa a1) a2).f0) ((zI (zE aa a1) a2).f1) a2 t107 _ cq.out).mono ?_);rintro e cV ⟨rfl,hb⟩;refine⟨_,rfl,?_⟩;have aD:=zA.mk (zO (g:=ag) (o := .cells #[.slice (some ak) aa.length au] 35 (0,0)) (by(with_reducible repeat(first|refine zH ?_ _|refine zJ ?_|refine zG ?_ _));exact ad.out) hb);have aE:=zA.mk (zO (g:=ae) (o := .cells #[.int .i64 ((zI (zE aa a1) a2).f0),.int .i64 ((zI (zE aa a1) a2).f1)] 75 (0,0)) (by(with_reducible repeat(first|refine zH ?_ _|refine zJ ?_|refine zG ?_ _));exact ab.out) hb);have aF:=zA.mk (zM (by repeat(first|(with_reducible first|exact HB.out|apply zC|apply zB|apply zD|refine zF ?_ aq.out|refine zF ?_ av.out)|exact HB.out)) hb);clear ad;clear ab;clear HB;have ad:=aD;have ab:=aE;have HB:=aF;clear aD aE aF;(try clear hb);(try clear hb2);(try clear hk);(try clear hi)))
    have aD:=zA.mk (zJ ad.out)
    have aE:=zA.mk (zJ ab.out)
    have aF:=zA.mk (zD HB.out)
    clear ad;clear ab;clear HB;have ad:=aD;have ab:=aE;have HB:=aF;clear aD aE aF;have aJ:0≤(((zI (zE aa a1) a2).f0):Int):=of_decide_eq_true (by first|(with_reducible assumption)|assumption)
    have aK:((zI (zE aa a1) a2).f0)<(aa.length:Int):=of_decide_eq_true (by first|(with_reducible assumption)|assumption)
    obtain⟨aU,aZ,aL,a5,ah,az,aA⟩:=ZY aI.out ((zI (zE aa a1) a2).f0) aJ aK
    have al:=ah;obtain rfl:ak=aU:=(by injection a5)
    replace ah:=(HB.out.cell (yqy w _ ah)).trans ah
    have aB:=zA.mk aA
    have aV:=zA.mk az
    clear aA az;replace aJ:=eq_true aJ
    replace aK:=eq_true aK
    have aM:0≤(t107:Int):=of_decide_eq_true (by first|(with_reducible assumption)|assumption)
    have aN:t107<((zE aa ((zI (zE aa a1) a2).f0)).length:Int):=of_decide_eq_true (by first|(with_reducible assumption)|assumption)
    obtain⟨aC,a6,ai,aj⟩:=QF aB.out t107 aM aN
    have an:=aj;have ao:=ai
    cases a6
    replace ai:=(HB.out.cell (yqy w _ ai)).trans ai
    replace aj:=(HB.out.cell (yqy w _ aj)).trans aj
    replace aM:=eq_true aM
    replace aN:=eq_true aN
    refine Zv (n:=25) (S:=fun w'=>w'.cell? ⟨ag,0,none⟩=some (.slice (some ak) aa.length au)∧w'.cell? ⟨ae,0,none⟩=some (.int .i64 ((zI (zE aa a1) a2).f0))∧w'.cell? ⟨ae,1,none⟩=some (.int .i64 ((zI (zE aa a1) a2).f1))∧w'.cell? (ak.add (((zI (zE aa a1) a2).f0)).toNat)=some (.slice (some aC) (zE aa ((zI (zE aa a1) a2).f0)).length aL)∧w'.cell? (aC.add ((t107).toNat*2))=some (.int .i64 ((zI (zE aa ((zI (zE aa a1) a2).f0)) t107).f0))∧w'.cell? ⟨(aC.add ((t107).toNat*2)).block,(aC.add ((t107).toNat*2)).off+1,none⟩=some (.int .i64 ((zI (zE aa ((zI (zE aa a1) a2).f0)) t107).f1))) (ds := []) #[false,false,false,false,false,false,false,false,false,false,false,false,false,false,false,false,false,false,false,false,false,false,false,false,false] (by kernel_rfl) rfl rfl ⟨(zK ad.out 0).trans rfl,(zK ab.out 0).trans rfl,(zK ab.out 1).trans rfl,((HB.out.cell (yqy w _ al)).trans al),((HB.out.cell (yqy w _ ao)).trans ao),((HB.out.cell (yqy w _ an)).trans an)⟩ (fun hHeld=>?_);refine Zn zY.tab7 zY.zIj (fun HT_ HW_=>?_)
    generalize cV.drew=cY at ad ab HB aB ah ai aj hHeld ⊢
    refine zg (i:=0) (N:=some 38) (v:=?_) (a':=?_) #[true,false,false,false,false,false,false,false,false,false,false,false,false,false,false,false,false,false,false,false,false,false,false,false,false] rfl rfl (zm HT_.out (by kernel_rfl)) (fun _ _ _ h=>h) (Or.inl ⟨by rfl,?_⟩) ?_ ?_
    rotate_left
    next=>
     intro w';go_simp;with_reducible rfl
    rotate_left
    next=>
     simp only [Act.put,yay,yby,ycy,zX,za]
     rfl
    refine zg (i:=2) (N:=some 40) (v:=?_) (a':=?_) #[true,false,true,false,false,false,false,false,false,false,false,false,false,false,false,false,false,false,false,false,false,false,false,false,false] rfl rfl (zm HT_.out (by kernel_rfl)) (fun _ _ _ h=>h) (Or.inl ⟨by rfl,?_⟩) ?_ ?_
    rotate_left
    next=>
     intro w';go_simp;with_reducible rfl
    rotate_left
    next=>
     simp only [Act.put,yay,yby,ycy,zX,za]
     rfl
    refine zg (i:=6) (N:=some 44) (v:=?_) (a':=?_) #[true,false,true,false,false,false,true,false,false,false,false,false,false,false,false,false,false,false,false,false,false,false,false,false,false] rfl rfl (zm HT_.out (by kernel_rfl)) (fun _ _ _ h=>h) (Or.inl ⟨by rfl,?_⟩) ?_ ?_
    rotate_left
    next=>
     intro w';go_simp;with_reducible rfl
    rotate_left
    next=>
     simp only [Act.put,yay,yby,ycy,zX,za]
     rfl
    refine zg (i:=10) (N:=some 48) (v:=?_) (a':=?_) #[true,false,true,false,false,false,true,false,false,false,true,false,false,false,false,false,false,false,false,false,false,false,false,false,false] rfl rfl (zm HT_.out (by kernel_rfl)) (fun _ _ _ h=>h) (Or.inl ⟨by rfl,?_⟩) ?_ ?_
    rotate_left
    next=>
     intro w';go_simp;with_reducible rfl
    rotate_left
    next=>
     simp only [Act.put,yay,yby,ycy,zX,za]
     rfl
    refine ZA (i:=1) (N:=some 39) (v:=?_) (a':=?_) #[true,true,true,false,false,false,true,false,false,false,true,false,false,false,false,false,false,false,false,false,false,false,false,false,false] rfl rfl (qm HT_.out HW_.out (by kernel_rfl)) (fun _ _ _ h=>h) (Or.inl ⟨by rfl,?_⟩) hHeld ?_ ?_
    rotate_left
    next=>
     rintro w' ⟨s0,s1,s2,s3,s4,s5⟩
     go_simp;with_reducible rfl
    rotate_left
    next=>
     simp only [Act.put,yay,yby,ycy,zX,za]
     rfl
    refine ZA (i:=3) (N:=some 41) (v:=?_) (a':=?_) #[true,true,true,true,false,false,true,false,false,false,true,false,false,false,false,false,false,false,false,false,false,false,false,false,false] rfl rfl (qm HT_.out HW_.out (by kernel_rfl)) (fun _ _ _ h=>h) (Or.inl ⟨by rfl,?_⟩) hHeld ?_ ?_
    rotate_left
    next=>
     rintro w' ⟨s0,s1,s2,s3,s4,s5⟩
     go_simp;with_reducible rfl
    rotate_left
    next=>
     simp only [Act.put,yay,yby,ycy,zX,za]
     rfl
    refine zg (i:=4) (N:=some 42) (v:=?_) (a':=?_) #[true,true,true,true,true,false,true,false,false,false,true,false,false,false,false,false,false,false,false,false,false,false,false,false,false] rfl rfl (zm HT_.out (by kernel_rfl)) (fun _ _ _ h=>h) (Or.inl ⟨by rfl,?_⟩) ?_ ?_
    rotate_left
    next=>
     intro w';go_simp;with_reducible rfl
    rotate_left
    next=>
     simp only [Act.put,yay,yby,ycy,zX,za]
     rfl
    refine ZA (i:=5) (N:=some 43) (v:=?_) (a':=?_) #[true,true,true,true,true,true,true,false,false,false,true,false,false,false,false,false,false,false,false,false,false,false,false,false,false] rfl rfl (qm HT_.out HW_.out (by kernel_rfl)) (fun _ _ _ h=>h) (Or.inl ⟨by rfl,?_⟩) hHeld ?_ ?_
    rotate_left
    next=>
     rintro w' ⟨s0,s1,s2,s3,s4,s5⟩
     go_simp;with_reducible rfl
    rotate_left
    next=>
     simp only [Act.put,yay,yby,ycy,zX,za]
     rfl
    refine zg (i:=7) (N:=some 45) (v:=?_) (a':=?_) #[true,true,true,true,true,true,true,true,false,false,true,false,false,false,false,false,false,false,false,false,false,false,false,false,false] rfl rfl (zm HT_.out (by kernel_rfl)) (fun _ _ _ h=>h) (Or.inl ⟨by rfl,?_⟩) ?_ ?_
    rotate_left
    next=>
     intro w';go_simp;with_reducible rfl
    rotate_left
    next=>
     simp only [Act.put,yay,yby,ycy,zX,za]
     rfl
    refine ZA (i:=8) (N:=some 46) (v:=?_) (a':=?_) #[true,true,true,true,true,true,true,true,true,false,true,false,false,false,false,false,false,false,false,false,false,false,false,false,false] rfl rfl (qm HT_.out HW_.out (by kernel_rfl)) (fun _ _ _ h=>h) (Or.inl ⟨by rfl,?_⟩) hHeld ?_ ?_
    rotate_left
    next=>
     rintro w' ⟨s0,s1,s2,s3,s4,s5⟩
     go_simp;with_reducible rfl
    rotate_left
    next=>
     simp only [Act.put,yay,yby,ycy,zX,za]
     rfl
    refine ZA (i:=9) (N:=some 47) (v:=?_) (a':=?_) #[true,true,true,true,true,true,true,true,true,true,true,false,false,false,false,false,false,false,false,false,false,false,false,false,false] rfl rfl (qm HT_.out HW_.out (by kernel_rfl)) (fun _ _ _ h=>h) (Or.inl ⟨by rfl,?_⟩) hHeld ?_ ?_
    rotate_left
    next=>
     rintro w' ⟨s0,s1,s2,s3,s4,s5⟩
     go_simp;with_reducible rfl
    rotate_left
    next=>
     simp only [Act.put,yay,yby,ycy,zX,za]
     rfl
    refine zA4 (i:=11) (N:=some 49) #[true,true,true,true,true,true,true,true,true,true,true,true,false,false,false,false,false,false,false,false,false,false,false,false,false] rfl rfl (QG HT_.out (by kernel_rfl)) (by decide) (fun K hK=>?_)
    refine QO Try.func131 (by kernel_rfl) rfl #[.agg #[.int .i64 ((zI (zE aa a1) a2).f0),.int .i64 ((zI (zE aa a1) a2).f1)],.int .i64 a1] (by rfl) rfl rfl (by(try simp only [yiy,yjy,yky]);first|done|rfl|(simp only [yly,ymy];rfl)) ?_
    with_reducible refine(ZH.calls ((zI (zE aa a1) a2).f0) ((zI (zE aa a1) a2).f1) a1 t110 t111 _ cr.out).mono ?_
    rintro e cZ ⟨rfl,hb⟩
    refine⟨_,rfl,?_⟩
    have aD:=zA.mk (zO (g:=ag) (o := .cells #[.slice (some ak) aa.length au] 35 (0,0)) (by(with_reducible repeat(first|refine zH ?_ _|refine zJ ?_|refine zG ?_ _));exact ad.out) hb)
    have aE:=zA.mk (zO (g:=ae) (o := .cells #[.int .i64 ((zI (zE aa a1) a2).f0),.int .i64 ((zI (zE aa a1) a2).f1)] 75 (0,0)) (by(with_reducible repeat(first|refine zH ?_ _|refine zJ ?_|refine zG ?_ _));exact ab.out) hb)
    have aF:=zA.mk (zM (by repeat(first|(with_reducible first|exact HB.out|apply zC|apply zB|apply zD|refine zF ?_ aq.out|refine zF ?_ av.out)|exact HB.out)) hb)
    clear ad;clear ab;clear HB;have ad:=aD;have ab:=aE;have HB:=aF;clear aD aE aF
    (try clear hb)
    (try clear hb2)
    (try clear hk)
    (try clear hi)
    refine hK.out _ _ ⟨(zK ad.out 0).trans rfl,(zK ab.out 0).trans rfl,(zK ab.out 1).trans rfl,((HB.out.cell (yqy w _ al)).trans al),((HB.out.cell (yqy w _ ao)).trans ao),((HB.out.cell (yqy w _ an)).trans an)⟩ (fun hHeld=>?_)
    clear hK K;refine QE (a':=?_) ?_ ?_
    rotate_left
    next=>
     show Act.put _ (some 49) _=_
     simp only [Act.put,yay,yby,ycy,zX,za]
     rfl
    refine zg (i:=12) (N:=some 50) (v:=?_) (a':=?_) #[true,true,true,true,true,true,true,true,true,true,true,true,true,false,false,false,false,false,false,false,false,false,false,false,false] rfl rfl (zm HT_.out (by kernel_rfl)) (fun _ _ _ h=>h) (Or.inl ⟨by rfl,?_⟩) ?_ ?_
    rotate_left
    next=>
     intro w';go_simp;with_reducible rfl
    rotate_left
    next=>
     simp only [Act.put,yay,yby,ycy,zX,za]
     rfl
    refine zg (i:=13) (N:=some 51) (v:=?_) (a':=?_) #[true,true,true,true,true,true,true,true,true,true,true,true,true,true,false,false,false,false,false,false,false,false,false,false,false] rfl rfl (zm HT_.out (by kernel_rfl)) (fun _ _ _ h=>h) (Or.inl ⟨by rfl,?_⟩) ?_ ?_
    rotate_left
    next=>
     intro w';go_simp;with_reducible rfl
    rotate_left
    next=>
     simp only [Act.put,yay,yby,ycy,zX,za]
     rfl
    refine zg (i:=14) (N:=some 52) (v:=undef) (a':=?_) #[true,true,true,true,true,true,true,true,true,true,true,true,true,true,true,false,false,false,false,false,false,false,false,false,false] rfl rfl (zm HT_.out (by kernel_rfl)) (fun _ _ _ h=>h) (Or.inr ⟨by rfl,rfl⟩) ?_ ?_
    rotate_left
    next=>
     simp only [Act.put,yay,yby,ycy,zX,za]
     rfl
    refine zg (i:=15) (N:=some 53) (v:=undef) (a':=?_) #[true,true,true,true,true,true,true,true,true,true,true,true,true,true,true,true,false,false,false,false,false,false,false,false,false] rfl rfl (zm HT_.out (by kernel_rfl)) (fun _ _ _ h=>h) (Or.inr ⟨by rfl,rfl⟩) ?_ ?_
    rotate_left
    next=>
     simp only [Act.put,yay,yby,ycy,zX,za]
     rfl
    refine zg (i:=16) (N:=some 54) (v:=undef) (a':=?_) #[true,true,true,true,true,true,true,true,true,true,true,true,true,true,true,true,true,false,false,false,false,false,false,false,false] rfl rfl (zm HT_.out (by kernel_rfl)) (fun _ _ _ h=>h) (Or.inr ⟨by rfl,rfl⟩) ?_ ?_
    rotate_left
    next=>
     simp only [Act.put,yay,yby,ycy,zX,za]
     rfl
    refine zg (i:=17) (N:=some 55) (v:=undef) (a':=?_) #[true,true,true,true,true,true,true,true,true,true,true,true,true,true,true,true,true,true,false,false,false,false,false,false,false] rfl rfl (zm HT_.out (by kernel_rfl)) (fun _ _ _ h=>h) (Or.inr ⟨by rfl,rfl⟩) ?_ ?_
    rotate_left
    next=>
     simp only [Act.put,yay,yby,ycy,zX,za]
     rfl
    refine zg (i:=18) (N:=some 56) (v:=undef) (a':=?_) #[true,true,true,true,true,true,true,true,true,true,true,true,true,true,true,true,true,true,true,false,false,false,false,false,false] rfl rfl (zm HT_.out (by kernel_rfl)) (fun _ _ _ h=>h) (Or.inr ⟨by rfl,rfl⟩) ?_ ?_
    rotate_left
    next=>
     simp only [Act.put,yay,yby,ycy,zX,za]
     rfl
    refine zg (i:=19) (N:=some 57) (v:=undef) (a':=?_) #[true,true,true,true,true,true,true,true,true,true,true,true,true,true,true,true,true,true,true,true,false,false,false,false,false] rfl rfl (zm HT_.out (by kernel_rfl)) (fun _ _ _ h=>h) (Or.inr ⟨by rfl,rfl⟩) ?_ ?_
    rotate_left
    next=>
     simp only [Act.put,yay,yby,ycy,zX,za]
     rfl
    refine zg (i:=20) (N:=some 58) (v:=undef) (a':=?_) #[true,true,true,true,true,true,true,true,true,true,true,true,true,true,true,true,true,true,true,true,true,false,false,false,false] rfl rfl (zm HT_.out (by kernel_rfl)) (fun _ _ _ h=>h) (Or.inr ⟨by rfl,rfl⟩) ?_ ?_
    rotate_left
    next=>
     simp only [Act.put,yay,yby,ycy,zX,za]
     rfl
    refine zg (i:=21) (N:=some 59) (v:=undef) (a':=?_) #[true,true,true,true,true,true,true,true,true,true,true,true,true,true,true,true,true,true,true,true,true,true,false,false,false] rfl rfl (zm HT_.out (by kernel_rfl)) (fun _ _ _ h=>h) (Or.inr ⟨by rfl,rfl⟩) ?_ ?_
    rotate_left
    next=>
     simp only [Act.put,yay,yby,ycy,zX,za]
     rfl
    refine zg (i:=22) (N:=some 60) (v:=undef) (a':=?_) #[true,true,true,true,true,true,true,true,true,true,true,true,true,true,true,true,true,true,true,true,true,true,true,false,false] rfl rfl (zm HT_.out (by kernel_rfl)) (fun _ _ _ h=>h) (Or.inr ⟨by rfl,rfl⟩) ?_ ?_
    rotate_left
    next=>
     simp only [Act.put,yay,yby,ycy,zX,za]
     rfl
    refine zg (i:=23) (N:=some 61) (v:=?_) (a':=?_) #[true,true,true,true,true,true,true,true,true,true,true,true,true,true,true,true,true,true,true,true,true,true,true,true,false] rfl rfl (zm HT_.out (by kernel_rfl)) (fun _ _ _ h=>h) (Or.inl ⟨by rfl,?_⟩) ?_ ?_
    rotate_left
    next=>
     intro w';go_simp;with_reducible rfl
    rotate_left
    next=>
     simp only [Act.put,yay,yby,ycy,zX,za]
     rfl
    refine zg (i:=24) (N:=some 6) (v:=?_) (a':=?_) #[true,true,true,true,true,true,true,true,true,true,true,true,true,true,true,true,true,true,true,true,true,true,true,true,true] rfl rfl (zm HT_.out (by kernel_rfl)) (fun _ _ _ h=>h) (Or.inl ⟨by rfl,?_⟩) ?_ ?_
    rotate_left
    next=>
     intro w';go_simp;with_reducible rfl
    rotate_left
    next=>
     simp only [Act.put,yay,yby,ycy,zX,za]
     rfl
    refine Qo (Qp HT_.out (by kernel_rfl)) ?_
    try go_wp2
    go_ret;exact⟨by first|rfl|(simp [zU,zV] <;> rfl)|(simp [*,zU,zV] <;> rfl),by repeat(first|(with_reducible first|exact HB.out|apply zC|apply zB|apply zD|refine zF ?_ aq.out|refine zF ?_ av.out)|exact HB.out)⟩
   rw[if_pos aY]at H
   have bY:(((zI (zE aa ((zI (zE aa a1) a2).f0)) t107).f0)==t110&&(((zI (zE aa ((zI (zE aa a1) a2).f0)) t107).f1)==t111))=true:=aY
   (try(have bZ:decide (((zI (zE aa ((zI (zE aa a1) a2).f0)) t107).f0)=t110&&(((zI (zE aa ((zI (zE aa a1) a2).f0)) t107).f1)==t111))=true:=by simpa using aY))
   (try(have b0:(((zI (zE aa ((zI (zE aa a1) a2).f0)) t107).f0)==t110&&(((zI (zE aa ((zI (zE aa a1) a2).f0)) t107).f1)==t111))=true:=by simpa using aY))
   clear aY;by_cases bK:((zI (zE aa a1) a2).f0)=a1
   case neg=>
    rw[if_neg bK]at H
    have b1:(((zI (zE aa a1) a2).f0)==a1)=false:=beq_eq_false_iff_ne.mpr bK
    have b2:(((zI (zE aa a1) a2).f0) != a1)=true:=bne_iff_ne.mpr bK
    obtain rfl:=yey H
    have cK:=ar.out
    have cL:=af.out
    have cb:wc.cell? ⟨ae,0,none⟩=some (.int .i64 ((zI (zE aa a1) a2).f0)):=(zK ab.out 0).trans rfl
    have cc:wc.cell? ⟨ae,1,none⟩=some (.int .i64 ((zI (zE aa a1) a2).f1)):=(zK ab.out 1).trans rfl
    have cd:=zP ab.out 0
    have cf:=zP ab.out 1
    try go_wp2_with (first|((with_reducible refine zd (f:=130) rfl ?_);refine qV (some 37) rfl rfl Try.func130 (by kernel_rfl) rfl #[.agg #[.int .i64 ((zI (zE aa a1) a2).f0),.int .i64 ((zI (zE aa a1) a2).f1)],.int .i64 a2] rfl (by(try simp only [yiy,yjy,yky]);first|done|rfl|(simp only [yly,ymy];rfl)) ?_;(with_reducible refine(ZS.calls ((zI (zE aa a1) a2).f0) ((zI (zE aa a1) a2).f1) a2 t107 _ cq.out).mono ?_);rintro e cW ⟨rfl,hb⟩;refine⟨_,rfl,?_⟩;have aD:=zA.mk (zO (g:=ag) (o := .cells #[.slice (some ak) aa.length au] 35 (0,0)) (by(with_reducible repeat(first|refine zH ?_ _|refine zJ ?_|refine zG ?_ _));exact ad.out) hb);have aE:=zA.mk (zO (g:=ae) (o := .cells #[.int .i64 ((zI (zE aa a1) a2).f0),.int .i64 ((zI (zE aa a1) a2).f1)] 75 (0,0)) (by(with_reducible repeat(first|refine zH ?_ _|refine zJ ?_|refine zG ?_ _));exact ab.out) hb);have aF:=zA.mk (zM (by repeat(first|(with_reducible first|exact HB.out|apply zC|apply zB|apply zD|refine zF ?_ aq.out|refine zF ?_ av.out)|exact HB.out)) hb);clear ad;clear ab;clear HB;have ad:=aD;have ab:=aE;have HB:=aF;clear aD aE aF;(try clear hb);(try clear hb2);(try clear hk);(try clear hi)))
    have aD:=zA.mk (zJ ad.out)
    have aE:=zA.mk (zJ ab.out)
    have aF:=zA.mk (zD HB.out)
    clear ad;clear ab;clear HB;have ad:=aD;have ab:=aE;have HB:=aF;clear aD aE aF;have aJ:0≤(((zI (zE aa a1) a2).f0):Int):=of_decide_eq_true (by first|(with_reducible assumption)|assumption)
    have aK:((zI (zE aa a1) a2).f0)<(aa.length:Int):=of_decide_eq_true (by first|(with_reducible assumption)|assumption)
    obtain⟨aU,aZ,aL,a5,ah,az,aA⟩:=ZY aI.out ((zI (zE aa a1) a2).f0) aJ aK
    have al:=ah;obtain rfl:ak=aU:=(by injection a5)
    replace ah:=(HB.out.cell (yqy w _ ah)).trans ah
    have aB:=zA.mk aA
    have aV:=zA.mk az
    clear aA az;replace aJ:=eq_true aJ
    replace aK:=eq_true aK
    have aM:0≤(t107:Int):=of_decide_eq_true (by first|(with_reducible assumption)|assumption)
    have aN:t107<((zE aa ((zI (zE aa a1) a2).f0)).length:Int):=of_decide_eq_true (by first|(with_reducible assumption)|assumption)
    obtain⟨aC,a6,ai,aj⟩:=QF aB.out t107 aM aN
    have an:=aj;have ao:=ai
    cases a6
    replace ai:=(HB.out.cell (yqy w _ ai)).trans ai
    replace aj:=(HB.out.cell (yqy w _ aj)).trans aj
    replace aM:=eq_true aM
    replace aN:=eq_true aN
    refine Zv (n:=25) (S:=fun w'=>w'.cell? ⟨ag,0,none⟩=some (.slice (some ak) aa.length au)∧w'.cell? ⟨ae,0,none⟩=some (.int .i64 ((zI (zE aa a1) a2).f0))∧w'.cell? ⟨ae,1,none⟩=some (.int .i64 ((zI (zE aa a1) a2).f1))∧w'.cell? (ak.add (((zI (zE aa a1) a2).f0)).toNat)=some (.slice (some aC) (zE aa ((zI (zE aa a1) a2).f0)).length aL)∧w'.cell? (aC.add ((t107).toNat*2))=some (.int .i64 ((zI (zE aa ((zI (zE aa a1) a2).f0)) t107).f0))∧w'.cell? ⟨(aC.add ((t107).toNat*2)).block,(aC.add ((t107).toNat*2)).off+1,none⟩=some (.int .i64 ((zI (zE aa ((zI (zE aa a1) a2).f0)) t107).f1))) (ds := []) #[false,false,false,false,false,false,false,false,false,false,false,false,false,false,false,false,false,false,false,false,false,false,false,false,false] (by kernel_rfl) rfl rfl ⟨(zK ad.out 0).trans rfl,(zK ab.out 0).trans rfl,(zK ab.out 1).trans rfl,((HB.out.cell (yqy w _ al)).trans al),((HB.out.cell (yqy w _ ao)).trans ao),((HB.out.cell (yqy w _ an)).trans an)⟩ (fun hHeld=>?_);refine Zn zY.tab7 zY.zIj (fun HT_ HW_=>?_)
    generalize cW.drew=c0 at ad ab HB aB ah ai aj hHeld ⊢
    refine zg (i:=0) (N:=some 38) (v:=?_) (a':=?_) #[true,false,false,false,false,false,false,false,false,false,false,false,false,false,false,false,false,false,false,false,false,false,false,false,false] rfl rfl (zm HT_.out (by kernel_rfl)) (fun _ _ _ h=>h) (Or.inl ⟨by rfl,?_⟩) ?_ ?_
    rotate_left
    next=>
     intro w';go_simp;with_reducible rfl
    rotate_left
    next=>
     simp only [Act.put,yay,yby,ycy,zX,za]
     rfl
    refine zg (i:=2) (N:=some 40) (v:=?_) (a':=?_) #[true,false,true,false,false,false,false,false,false,false,false,false,false,false,false,false,false,false,false,false,false,false,false,false,false] rfl rfl (zm HT_.out (by kernel_rfl)) (fun _ _ _ h=>h) (Or.inl ⟨by rfl,?_⟩) ?_ ?_
    rotate_left
    next=>
     intro w';go_simp;with_reducible rfl
    rotate_left
    next=>
     simp only [Act.put,yay,yby,ycy,zX,za]
     rfl
    refine zg (i:=6) (N:=some 44) (v:=?_) (a':=?_) #[true,false,true,false,false,false,true,false,false,false,false,false,false,false,false,false,false,false,false,false,false,false,false,false,false] rfl rfl (zm HT_.out (by kernel_rfl)) (fun _ _ _ h=>h) (Or.inl ⟨by rfl,?_⟩) ?_ ?_
    rotate_left
    next=>
     intro w';go_simp;with_reducible rfl
    rotate_left
    next=>
     simp only [Act.put,yay,yby,ycy,zX,za]
     rfl
    refine zg (i:=10) (N:=some 48) (v:=?_) (a':=?_) #[true,false,true,false,false,false,true,false,false,false,true,false,false,false,false,false,false,false,false,false,false,false,false,false,false] rfl rfl (zm HT_.out (by kernel_rfl)) (fun _ _ _ h=>h) (Or.inl ⟨by rfl,?_⟩) ?_ ?_
    rotate_left
    next=>
     intro w';go_simp;with_reducible rfl
    rotate_left
    next=>
     simp only [Act.put,yay,yby,ycy,zX,za]
     rfl
    refine ZA (i:=1) (N:=some 39) (v:=?_) (a':=?_) #[true,true,true,false,false,false,true,false,false,false,true,false,false,false,false,false,false,false,false,false,false,false,false,false,false] rfl rfl (qm HT_.out HW_.out (by kernel_rfl)) (fun _ _ _ h=>h) (Or.inl ⟨by rfl,?_⟩) hHeld ?_ ?_
    rotate_left
    next=>
     rintro w' ⟨s0,s1,s2,s3,s4,s5⟩
     go_simp;with_reducible rfl
    rotate_left
    next=>
     simp only [Act.put,yay,yby,ycy,zX,za]
     rfl
    refine ZA (i:=3) (N:=some 41) (v:=?_) (a':=?_) #[true,true,true,true,false,false,true,false,false,false,true,false,false,false,false,false,false,false,false,false,false,false,false,false,false] rfl rfl (qm HT_.out HW_.out (by kernel_rfl)) (fun _ _ _ h=>h) (Or.inl ⟨by rfl,?_⟩) hHeld ?_ ?_
    rotate_left
    next=>
     rintro w' ⟨s0,s1,s2,s3,s4,s5⟩
     go_simp;with_reducible rfl
    rotate_left
    next=>
     simp only [Act.put,yay,yby,ycy,zX,za]
     rfl
    refine zg (i:=4) (N:=some 42) (v:=?_) (a':=?_) #[true,true,true,true,true,false,true,false,false,false,true,false,false,false,false,false,false,false,false,false,false,false,false,false,false] rfl rfl (zm HT_.out (by kernel_rfl)) (fun _ _ _ h=>h) (Or.inl ⟨by rfl,?_⟩) ?_ ?_
    rotate_left
    next=>
     intro w';go_simp;with_reducible rfl
    rotate_left
    next=>
     simp only [Act.put,yay,yby,ycy,zX,za]
     rfl
    refine ZA (i:=5) (N:=some 43) (v:=?_) (a':=?_) #[true,true,true,true,true,true,true,false,false,false,true,false,false,false,false,false,false,false,false,false,false,false,false,false,false] rfl rfl (qm HT_.out HW_.out (by kernel_rfl)) (fun _ _ _ h=>h) (Or.inl ⟨by rfl,?_⟩) hHeld ?_ ?_
    rotate_left
    next=>
     rintro w' ⟨s0,s1,s2,s3,s4,s5⟩
     go_simp;with_reducible rfl
    rotate_left
    next=>
     simp only [Act.put,yay,yby,ycy,zX,za]
     rfl
    refine zg (i:=7) (N:=some 45) (v:=?_) (a':=?_) #[true,true,true,true,true,true,true,true,false,false,true,false,false,false,false,false,false,false,false,false,false,false,false,false,false] rfl rfl (zm HT_.out (by kernel_rfl)) (fun _ _ _ h=>h) (Or.inl ⟨by rfl,?_⟩) ?_ ?_
    rotate_left
    next=>
     intro w';go_simp;with_reducible rfl
    rotate_left
    next=>
     simp only [Act.put,yay,yby,ycy,zX,za]
     rfl
    refine ZA (i:=8) (N:=some 46) (v:=?_) (a':=?_) #[true,true,true,true,true,true,true,true,true,false,true,false,false,false,false,false,false,false,false,false,false,false,false,false,false] rfl rfl (qm HT_.out HW_.out (by kernel_rfl)) (fun _ _ _ h=>h) (Or.inl ⟨by rfl,?_⟩) hHeld ?_ ?_
    rotate_left
    next=>
     rintro w' ⟨s0,s1,s2,s3,s4,s5⟩
     go_simp;with_reducible rfl
    rotate_left
    next=>
     simp only [Act.put,yay,yby,ycy,zX,za]
     rfl
    refine ZA (i:=9) (N:=some 47) (v:=?_) (a':=?_) #[true,true,true,true,true,true,true,true,true,true,true,false,false,false,false,false,false,false,false,false,false,false,false,false,false] rfl rfl (qm HT_.out HW_.out (by kernel_rfl)) (fun _ _ _ h=>h) (Or.inl ⟨by rfl,?_⟩) hHeld ?_ ?_
    rotate_left
    next=>
     rintro w' ⟨s0,s1,s2,s3,s4,s5⟩
     go_simp;with_reducible rfl
    rotate_left
    next=>
     simp only [Act.put,yay,yby,ycy,zX,za]
     rfl
    refine zA4 (i:=11) (N:=some 49) #[true,true,true,true,true,true,true,true,true,true,true,true,false,false,false,false,false,false,false,false,false,false,false,false,false] rfl rfl (QG HT_.out (by kernel_rfl)) (by decide) (fun K hK=>?_)
    refine QO Try.func131 (by kernel_rfl) rfl #[.agg #[.int .i64 ((zI (zE aa a1) a2).f0),.int .i64 ((zI (zE aa a1) a2).f1)],.int .i64 a1] (by rfl) rfl rfl (by(try simp only [yiy,yjy,yky]);first|done|rfl|(simp only [yly,ymy];rfl)) ?_
    with_reducible refine(ZH.calls ((zI (zE aa a1) a2).f0) ((zI (zE aa a1) a2).f1) a1 t110 t111 _ cr.out).mono ?_
    rintro e c3 ⟨rfl,hb⟩
    refine⟨_,rfl,?_⟩
    have aD:=zA.mk (zO (g:=ag) (o := .cells #[.slice (some ak) aa.length au] 35 (0,0)) (by(with_reducible repeat(first|refine zH ?_ _|refine zJ ?_|refine zG ?_ _));exact ad.out) hb)
    have aE:=zA.mk (zO (g:=ae) (o := .cells #[.int .i64 ((zI (zE aa a1) a2).f0),.int .i64 ((zI (zE aa a1) a2).f1)] 75 (0,0)) (by(with_reducible repeat(first|refine zH ?_ _|refine zJ ?_|refine zG ?_ _));exact ab.out) hb)
    have aF:=zA.mk (zM (by repeat(first|(with_reducible first|exact HB.out|apply zC|apply zB|apply zD|refine zF ?_ aq.out|refine zF ?_ av.out)|exact HB.out)) hb)
    clear ad;clear ab;clear HB;have ad:=aD;have ab:=aE;have HB:=aF;clear aD aE aF
    (try clear hb)
    (try clear hb2)
    (try clear hk)
    (try clear hi)
    refine hK.out _ _ ⟨(zK ad.out 0).trans rfl,(zK ab.out 0).trans rfl,(zK ab.out 1).trans rfl,((HB.out.cell (yqy w _ al)).trans al),((HB.out.cell (yqy w _ ao)).trans ao),((HB.out.cell (yqy w _ an)).trans an)⟩ (fun hHeld=>?_)
    clear hK K;refine QE (a':=?_) ?_ ?_
    rotate_left
    next=>
     show Act.put _ (some 49) _=_
     simp only [Act.put,yay,yby,ycy,zX,za]
     rfl
    refine zg (i:=12) (N:=some 50) (v:=?_) (a':=?_) #[true,true,true,true,true,true,true,true,true,true,true,true,true,false,false,false,false,false,false,false,false,false,false,false,false] rfl rfl (zm HT_.out (by kernel_rfl)) (fun _ _ _ h=>h) (Or.inl ⟨by rfl,?_⟩) ?_ ?_
    rotate_left
    next=>
     intro w';go_simp;with_reducible rfl
    rotate_left
    next=>
     simp only [Act.put,yay,yby,ycy,zX,za]
     rfl
    refine zg (i:=13) (N:=some 51) (v:=?_) (a':=?_) #[true,true,true,true,true,true,true,true,true,true,true,true,true,true,false,false,false,false,false,false,false,false,false,false,false] rfl rfl (zm HT_.out (by kernel_rfl)) (fun _ _ _ h=>h) (Or.inl ⟨by rfl,?_⟩) ?_ ?_
    rotate_left
    next=>
     intro w';go_simp;with_reducible rfl
    rotate_left
    next=>
     simp only [Act.put,yay,yby,ycy,zX,za]
     rfl
    refine zg (i:=14) (N:=some 52) (v:=?_) (a':=?_) #[true,true,true,true,true,true,true,true,true,true,true,true,true,true,true,false,false,false,false,false,false,false,false,false,false] rfl rfl (zm HT_.out (by kernel_rfl)) (fun _ _ _ h=>h) (Or.inl ⟨by rfl,?_⟩) ?_ ?_
    rotate_left
    next=>
     intro w';go_simp;with_reducible rfl
    rotate_left
    next=>
     simp only [Act.put,yay,yby,ycy,zX,za]
     rfl
    refine zg (i:=16) (N:=some 54) (v:=?_) (a':=?_) #[true,true,true,true,true,true,true,true,true,true,true,true,true,true,true,false,true,false,false,false,false,false,false,false,false] rfl rfl (zm HT_.out (by kernel_rfl)) (fun _ _ _ h=>h) (Or.inl ⟨by rfl,?_⟩) ?_ ?_
    rotate_left
    next=>
     intro w';go_simp;with_reducible rfl
    rotate_left
    next=>
     simp only [Act.put,yay,yby,ycy,zX,za]
     rfl
    refine ZA (i:=15) (N:=some 53) (v:=?_) (a':=?_) #[true,true,true,true,true,true,true,true,true,true,true,true,true,true,true,true,true,false,false,false,false,false,false,false,false] rfl rfl (qm HT_.out HW_.out (by kernel_rfl)) (fun _ _ _ h=>h) (Or.inl ⟨by rfl,?_⟩) hHeld ?_ ?_
    rotate_left
    next=>
     rintro w' ⟨s0,s1,s2,s3,s4,s5⟩
     go_simp;with_reducible rfl
    rotate_left
    next=>
     simp only [Act.put,yay,yby,ycy,zX,za]
     rfl
    refine zg (i:=17) (N:=some 55) (v:=?_) (a':=?_) #[true,true,true,true,true,true,true,true,true,true,true,true,true,true,true,true,true,true,false,false,false,false,false,false,false] rfl rfl (zm HT_.out (by kernel_rfl)) (fun _ _ _ h=>h) (Or.inl ⟨by rfl,?_⟩) ?_ ?_
    rotate_left
    next=>
     intro w';go_simp;with_reducible rfl
    rotate_left
    next=>
     simp only [Act.put,yay,yby,ycy,zX,za]
     rfl
    refine zg (i:=18) (N:=some 56) (v:=?_) (a':=?_) #[true,true,true,true,true,true,true,true,true,true,true,true,true,true,true,true,true,true,true,false,false,false,false,false,false] rfl rfl (zm HT_.out (by kernel_rfl)) (fun _ _ _ h=>h) (Or.inl ⟨by rfl,?_⟩) ?_ ?_
    rotate_left
    next=>
     intro w';go_simp;with_reducible rfl
    rotate_left
    next=>
     simp only [Act.put,yay,yby,ycy,zX,za]
     rfl
    refine zg (i:=19) (N:=some 57) (v:=undef) (a':=?_) #[true,true,true,true,true,true,true,true,true,true,true,true,true,true,true,true,true,true,true,true,false,false,false,false,false] rfl rfl (zm HT_.out (by kernel_rfl)) (fun _ _ _ h=>h) (Or.inr ⟨by rfl,rfl⟩) ?_ ?_
    rotate_left
    next=>
     simp only [Act.put,yay,yby,ycy,zX,za]
     rfl
    refine zg (i:=20) (N:=some 58) (v:=undef) (a':=?_) #[true,true,true,true,true,true,true,true,true,true,true,true,true,true,true,true,true,true,true,true,true,false,false,false,false] rfl rfl (zm HT_.out (by kernel_rfl)) (fun _ _ _ h=>h) (Or.inr ⟨by rfl,rfl⟩) ?_ ?_
    rotate_left
    next=>
     simp only [Act.put,yay,yby,ycy,zX,za]
     rfl
    refine zg (i:=21) (N:=some 59) (v:=undef) (a':=?_) #[true,true,true,true,true,true,true,true,true,true,true,true,true,true,true,true,true,true,true,true,true,true,false,false,false] rfl rfl (zm HT_.out (by kernel_rfl)) (fun _ _ _ h=>h) (Or.inr ⟨by rfl,rfl⟩) ?_ ?_
    rotate_left
    next=>
     simp only [Act.put,yay,yby,ycy,zX,za]
     rfl
    refine zg (i:=22) (N:=some 60) (v:=?_) (a':=?_) #[true,true,true,true,true,true,true,true,true,true,true,true,true,true,true,true,true,true,true,true,true,true,true,false,false] rfl rfl (zm HT_.out (by kernel_rfl)) (fun _ _ _ h=>h) (Or.inl ⟨by rfl,?_⟩) ?_ ?_
    rotate_left
    next=>
     intro w';go_simp;with_reducible rfl
    rotate_left
    next=>
     simp only [Act.put,yay,yby,ycy,zX,za]
     rfl
    refine zg (i:=23) (N:=some 61) (v:=?_) (a':=?_) #[true,true,true,true,true,true,true,true,true,true,true,true,true,true,true,true,true,true,true,true,true,true,true,true,false] rfl rfl (zm HT_.out (by kernel_rfl)) (fun _ _ _ h=>h) (Or.inl ⟨by rfl,?_⟩) ?_ ?_
    rotate_left
    next=>
     intro w';go_simp;with_reducible rfl
    rotate_left
    next=>
     simp only [Act.put,yay,yby,ycy,zX,za]
     rfl
    refine zg (i:=24) (N:=some 6) (v:=?_) (a':=?_) #[true,true,true,true,true,true,true,true,true,true,true,true,true,true,true,true,true,true,true,true,true,true,true,true,true] rfl rfl (zm HT_.out (by kernel_rfl)) (fun _ _ _ h=>h) (Or.inl ⟨by rfl,?_⟩) ?_ ?_
    rotate_left
    next=>
     intro w';go_simp;with_reducible rfl
    rotate_left
    next=>
     simp only [Act.put,yay,yby,ycy,zX,za]
     rfl
    refine Qo (Qp HT_.out (by kernel_rfl)) ?_
    try go_wp2
    go_ret;exact⟨by first|rfl|(simp [zU,zV] <;> rfl)|(simp [*,zU,zV] <;> rfl),by repeat(first|(with_reducible first|exact HB.out|apply zC|apply zB|apply zD|refine zF ?_ aq.out|refine zF ?_ av.out)|exact HB.out)⟩
   rw[if_pos bK]at H
   have b1:(((zI (zE aa a1) a2).f0)==a1)=true:=beq_iff_eq.mpr bK
   have b2:(((zI (zE aa a1) a2).f0) != a1)=false:=bne_eq_false_iff_eq.mpr bK
   clear bK;obtain rfl:=yey H
   have cM:=ar.out
   have cN:=af.out
   have cg:wc.cell? ⟨ae,0,none⟩=some (.int .i64 ((zI (zE aa a1) a2).f0)):=(zK ab.out 0).trans rfl
   have ch:wc.cell? ⟨ae,1,none⟩=some (.int .i64 ((zI (zE aa a1) a2).f1)):=(zK ab.out 1).trans rfl
   have cj:=zP ab.out 0
   have ck:=zP ab.out 1
   try go_wp2_with (first|((with_reducible refine zd (f:=130) rfl ?_);refine qV (some 37) rfl rfl Try.func130 (by kernel_rfl) rfl #[.agg #[.int .i64 ((zI (zE aa a1) a2).f0),.int .i64 ((zI (zE aa a1) a2).f1)],.int .i64 a2] rfl (by(try simp only [yiy,yjy,yky]);first|done|rfl|(simp only [yly,ymy];rfl)) ?_;(with_reducible refine(ZS.calls ((zI (zE aa a1) a2).f0) ((zI (zE aa a1) a2).f1) a2 t107 _ cq.out).mono ?_);rintro e cX ⟨rfl,hb⟩;refine⟨_,rfl,?_⟩;have aD:=zA.mk (zO (g:=ag) (o := .cells #[.slice (some ak) aa.length au] 35 (0,0)) (by(with_reducible repeat(first|refine zH ?_ _|refine zJ ?_|refine zG ?_ _));exact ad.out) hb);have aE:=zA.mk (zO (g:=ae) (o := .cells #[.int .i64 ((zI (zE aa a1) a2).f0),.int .i64 ((zI (zE aa a1) a2).f1)] 75 (0,0)) (by(with_reducible repeat(first|refine zH ?_ _|refine zJ ?_|refine zG ?_ _));exact ab.out) hb);have aF:=zA.mk (zM (by repeat(first|(with_reducible first|exact HB.out|apply zC|apply zB|apply zD|refine zF ?_ aq.out|refine zF ?_ av.out)|exact HB.out)) hb);clear ad;clear ab;clear HB;have ad:=aD;have ab:=aE;have HB:=aF;clear aD aE aF;(try clear hb);(try clear hb2);(try clear hk);(try clear hi)))
   have aD:=zA.mk (zJ ad.out)
   have aE:=zA.mk (zJ ab.out)
   have aF:=zA.mk (zD HB.out)
   clear ad;clear ab;clear HB;have ad:=aD;have ab:=aE;have HB:=aF;clear aD aE aF;have aJ:0≤(((zI (zE aa a1) a2).f0):Int):=of_decide_eq_true (by first|(with_reducible assumption)|assumption)
   have aK:((zI (zE aa a1) a2).f0)<(aa.length:Int):=of_decide_eq_true (by first|(with_reducible assumption)|assumption)
   obtain⟨aU,aZ,aL,a5,ah,az,aA⟩:=ZY aI.out ((zI (zE aa a1) a2).f0) aJ aK
   have al:=ah;obtain rfl:ak=aU:=(by injection a5)
   replace ah:=(HB.out.cell (yqy w _ ah)).trans ah
   have aB:=zA.mk aA
   have aV:=zA.mk az
   clear aA az;replace aJ:=eq_true aJ
   replace aK:=eq_true aK
   have aM:0≤(t107:Int):=of_decide_eq_true (by first|(with_reducible assumption)|assumption)
   have aN:t107<((zE aa ((zI (zE aa a1) a2).f0)).length:Int):=of_decide_eq_true (by first|(with_reducible assumption)|assumption)
   obtain⟨aC,a6,ai,aj⟩:=QF aB.out t107 aM aN
   have an:=aj;have ao:=ai
   cases a6
   replace ai:=(HB.out.cell (yqy w _ ai)).trans ai
   replace aj:=(HB.out.cell (yqy w _ aj)).trans aj
   replace aM:=eq_true aM
   replace aN:=eq_true aN
   refine Zv (n:=25) (S:=fun w'=>w'.cell? ⟨ag,0,none⟩=some (.slice (some ak) aa.length au)∧w'.cell? ⟨ae,0,none⟩=some (.int .i64 ((zI (zE aa a1) a2).f0))∧w'.cell? ⟨ae,1,none⟩=some (.int .i64 ((zI (zE aa a1) a2).f1))∧w'.cell? (ak.add (((zI (zE aa a1) a2).f0)).toNat)=some (.slice (some aC) (zE aa ((zI (zE aa a1) a2).f0)).length aL)∧w'.cell? (aC.add ((t107).toNat*2))=some (.int .i64 ((zI (zE aa ((zI (zE aa a1) a2).f0)) t107).f0))∧w'.cell? ⟨(aC.add ((t107).toNat*2)).block,(aC.add ((t107).toNat*2)).off+1,none⟩=some (.int .i64 ((zI (zE aa ((zI (zE aa a1) a2).f0)) t107).f1))) (ds := []) #[false,false,false,false,false,false,false,false,false,false,false,false,false,false,false,false,false,false,false,false,false,false,false,false,false] (by kernel_rfl) rfl rfl ⟨(zK ad.out 0).trans rfl,(zK ab.out 0).trans rfl,(zK ab.out 1).trans rfl,((HB.out.cell (yqy w _ al)).trans al),((HB.out.cell (yqy w _ ao)).trans ao),((HB.out.cell (yqy w _ an)).trans an)⟩ (fun hHeld=>?_);refine Zn zY.tab7 zY.zIj (fun HT_ HW_=>?_)
   generalize cX.drew=c9 at ad ab HB aB ah ai aj hHeld ⊢
   refine zg (i:=0) (N:=some 38) (v:=?_) (a':=?_) #[true,false,false,false,false,false,false,false,false,false,false,false,false,false,false,false,false,false,false,false,false,false,false,false,false] rfl rfl (zm HT_.out (by kernel_rfl)) (fun _ _ _ h=>h) (Or.inl ⟨by rfl,?_⟩) ?_ ?_
   rotate_left
   next=>
    intro w';go_simp;with_reducible rfl
   rotate_left
   next=>
    simp only [Act.put,yay,yby,ycy,zX,za]
    rfl
   refine zg (i:=2) (N:=some 40) (v:=?_) (a':=?_) #[true,false,true,false,false,false,false,false,false,false,false,false,false,false,false,false,false,false,false,false,false,false,false,false,false] rfl rfl (zm HT_.out (by kernel_rfl)) (fun _ _ _ h=>h) (Or.inl ⟨by rfl,?_⟩) ?_ ?_
   rotate_left
   next=>
    intro w';go_simp;with_reducible rfl
   rotate_left
   next=>
    simp only [Act.put,yay,yby,ycy,zX,za]
    rfl
   refine zg (i:=6) (N:=some 44) (v:=?_) (a':=?_) #[true,false,true,false,false,false,true,false,false,false,false,false,false,false,false,false,false,false,false,false,false,false,false,false,false] rfl rfl (zm HT_.out (by kernel_rfl)) (fun _ _ _ h=>h) (Or.inl ⟨by rfl,?_⟩) ?_ ?_
   rotate_left
   next=>
    intro w';go_simp;with_reducible rfl
   rotate_left
   next=>
    simp only [Act.put,yay,yby,ycy,zX,za]
    rfl
   refine zg (i:=10) (N:=some 48) (v:=?_) (a':=?_) #[true,false,true,false,false,false,true,false,false,false,true,false,false,false,false,false,false,false,false,false,false,false,false,false,false] rfl rfl (zm HT_.out (by kernel_rfl)) (fun _ _ _ h=>h) (Or.inl ⟨by rfl,?_⟩) ?_ ?_
   rotate_left
   next=>
    intro w';go_simp;with_reducible rfl
   rotate_left
   next=>
    simp only [Act.put,yay,yby,ycy,zX,za]
    rfl
   refine ZA (i:=1) (N:=some 39) (v:=?_) (a':=?_) #[true,true,true,false,false,false,true,false,false,false,true,false,false,false,false,false,false,false,false,false,false,false,false,false,false] rfl rfl (qm HT_.out HW_.out (by kernel_rfl)) (fun _ _ _ h=>h) (Or.inl ⟨by rfl,?_⟩) hHeld ?_ ?_
   rotate_left
   next=>
    rintro w' ⟨s0,s1,s2,s3,s4,s5⟩
    go_simp;with_reducible rfl
   rotate_left
   next=>
    simp only [Act.put,yay,yby,ycy,zX,za]
    rfl
   refine ZA (i:=3) (N:=some 41) (v:=?_) (a':=?_) #[true,true,true,true,false,false,true,false,false,false,true,false,false,false,false,false,false,false,false,false,false,false,false,false,false] rfl rfl (qm HT_.out HW_.out (by kernel_rfl)) (fun _ _ _ h=>h) (Or.inl ⟨by rfl,?_⟩) hHeld ?_ ?_
   rotate_left
   next=>
    rintro w' ⟨s0,s1,s2,s3,s4,s5⟩
    go_simp;with_reducible rfl
   rotate_left
   next=>
    simp only [Act.put,yay,yby,ycy,zX,za]
    rfl
   refine zg (i:=4) (N:=some 42) (v:=?_) (a':=?_) #[true,true,true,true,true,false,true,false,false,false,true,false,false,false,false,false,false,false,false,false,false,false,false,false,false] rfl rfl (zm HT_.out (by kernel_rfl)) (fun _ _ _ h=>h) (Or.inl ⟨by rfl,?_⟩) ?_ ?_
   rotate_left
   next=>
    intro w';go_simp;with_reducible rfl
   rotate_left
   next=>
    simp only [Act.put,yay,yby,ycy,zX,za]
    rfl
   refine ZA (i:=5) (N:=some 43) (v:=?_) (a':=?_) #[true,true,true,true,true,true,true,false,false,false,true,false,false,false,false,false,false,false,false,false,false,false,false,false,false] rfl rfl (qm HT_.out HW_.out (by kernel_rfl)) (fun _ _ _ h=>h) (Or.inl ⟨by rfl,?_⟩) hHeld ?_ ?_
   rotate_left
   next=>
    rintro w' ⟨s0,s1,s2,s3,s4,s5⟩
    go_simp;with_reducible rfl
   rotate_left
   next=>
    simp only [Act.put,yay,yby,ycy,zX,za]
    rfl
   refine zg (i:=7) (N:=some 45) (v:=?_) (a':=?_) #[true,true,true,true,true,true,true,true,false,false,true,false,false,false,false,false,false,false,false,false,false,false,false,false,false] rfl rfl (zm HT_.out (by kernel_rfl)) (fun _ _ _ h=>h) (Or.inl ⟨by rfl,?_⟩) ?_ ?_
   rotate_left
   next=>
    intro w';go_simp;with_reducible rfl
   rotate_left
   next=>
    simp only [Act.put,yay,yby,ycy,zX,za]
    rfl
   refine ZA (i:=8) (N:=some 46) (v:=?_) (a':=?_) #[true,true,true,true,true,true,true,true,true,false,true,false,false,false,false,false,false,false,false,false,false,false,false,false,false] rfl rfl (qm HT_.out HW_.out (by kernel_rfl)) (fun _ _ _ h=>h) (Or.inl ⟨by rfl,?_⟩) hHeld ?_ ?_
   rotate_left
   next=>
    rintro w' ⟨s0,s1,s2,s3,s4,s5⟩
    go_simp;with_reducible rfl
   rotate_left
   next=>
    simp only [Act.put,yay,yby,ycy,zX,za]
    rfl
   refine ZA (i:=9) (N:=some 47) (v:=?_) (a':=?_) #[true,true,true,true,true,true,true,true,true,true,true,false,false,false,false,false,false,false,false,false,false,false,false,false,false] rfl rfl (qm HT_.out HW_.out (by kernel_rfl)) (fun _ _ _ h=>h) (Or.inl ⟨by rfl,?_⟩) hHeld ?_ ?_
   rotate_left
   next=>
    rintro w' ⟨s0,s1,s2,s3,s4,s5⟩
    go_simp;with_reducible rfl
   rotate_left
   next=>
    simp only [Act.put,yay,yby,ycy,zX,za]
    rfl
   refine zA4 (i:=11) (N:=some 49) #[true,true,true,true,true,true,true,true,true,true,true,true,false,false,false,false,false,false,false,false,false,false,false,false,false] rfl rfl (QG HT_.out (by kernel_rfl)) (by decide) (fun K hK=>?_)
   refine QO Try.func131 (by kernel_rfl) rfl #[.agg #[.int .i64 ((zI (zE aa a1) a2).f0),.int .i64 ((zI (zE aa a1) a2).f1)],.int .i64 a1] (by rfl) rfl rfl (by(try simp only [yiy,yjy,yky]);first|done|rfl|(simp only [yly,ymy];rfl)) ?_
   with_reducible refine(ZH.calls ((zI (zE aa a1) a2).f0) ((zI (zE aa a1) a2).f1) a1 t110 t111 _ cr.out).mono ?_
   rintro e c_ ⟨rfl,hb⟩
   refine⟨_,rfl,?_⟩
   have aD:=zA.mk (zO (g:=ag) (o := .cells #[.slice (some ak) aa.length au] 35 (0,0)) (by(with_reducible repeat(first|refine zH ?_ _|refine zJ ?_|refine zG ?_ _));exact ad.out) hb)
   have aE:=zA.mk (zO (g:=ae) (o := .cells #[.int .i64 ((zI (zE aa a1) a2).f0),.int .i64 ((zI (zE aa a1) a2).f1)] 75 (0,0)) (by(with_reducible repeat(first|refine zH ?_ _|refine zJ ?_|refine zG ?_ _));exact ab.out) hb)
   have aF:=zA.mk (zM (by repeat(first|(with_reducible first|exact HB.out|apply zC|apply zB|apply zD|refine zF ?_ aq.out|refine zF ?_ av.out)|exact HB.out)) hb)
   clear ad;clear ab;clear HB;have ad:=aD;have ab:=aE;have HB:=aF;clear aD aE aF
   (try clear hb)
   (try clear hb2)
   (try clear hk)
   (try clear hi)
   refine hK.out _ _ ⟨(zK ad.out 0).trans rfl,(zK ab.out 0).trans rfl,(zK ab.out 1).trans rfl,((HB.out.cell (yqy w _ al)).trans al),((HB.out.cell (yqy w _ ao)).trans ao),((HB.out.cell (yqy w _ an)).trans an)⟩ (fun hHeld=>?_)
   clear hK K;refine QE (a':=?_) ?_ ?_
   rotate_left
   next=>
    show Act.put _ (some 49) _=_
    simp only [Act.put,yay,yby,ycy,zX,za]
    rfl
   refine zg (i:=12) (N:=some 50) (v:=?_) (a':=?_) #[true,true,true,true,true,true,true,true,true,true,true,true,true,false,false,false,false,false,false,false,false,false,false,false,false] rfl rfl (zm HT_.out (by kernel_rfl)) (fun _ _ _ h=>h) (Or.inl ⟨by rfl,?_⟩) ?_ ?_
   rotate_left
   next=>
    intro w';go_simp;with_reducible rfl
   rotate_left
   next=>
    simp only [Act.put,yay,yby,ycy,zX,za]
    rfl
   refine zg (i:=13) (N:=some 51) (v:=?_) (a':=?_) #[true,true,true,true,true,true,true,true,true,true,true,true,true,true,false,false,false,false,false,false,false,false,false,false,false] rfl rfl (zm HT_.out (by kernel_rfl)) (fun _ _ _ h=>h) (Or.inl ⟨by rfl,?_⟩) ?_ ?_
   rotate_left
   next=>
    intro w';go_simp;with_reducible rfl
   rotate_left
   next=>
    simp only [Act.put,yay,yby,ycy,zX,za]
    rfl
   refine zg (i:=14) (N:=some 52) (v:=?_) (a':=?_) #[true,true,true,true,true,true,true,true,true,true,true,true,true,true,true,false,false,false,false,false,false,false,false,false,false] rfl rfl (zm HT_.out (by kernel_rfl)) (fun _ _ _ h=>h) (Or.inl ⟨by rfl,?_⟩) ?_ ?_
   rotate_left
   next=>
    intro w';go_simp;with_reducible rfl
   rotate_left
   next=>
    simp only [Act.put,yay,yby,ycy,zX,za]
    rfl
   refine zg (i:=16) (N:=some 54) (v:=?_) (a':=?_) #[true,true,true,true,true,true,true,true,true,true,true,true,true,true,true,false,true,false,false,false,false,false,false,false,false] rfl rfl (zm HT_.out (by kernel_rfl)) (fun _ _ _ h=>h) (Or.inl ⟨by rfl,?_⟩) ?_ ?_
   rotate_left
   next=>
    intro w';go_simp;with_reducible rfl
   rotate_left
   next=>
    simp only [Act.put,yay,yby,ycy,zX,za]
    rfl
   refine ZA (i:=15) (N:=some 53) (v:=?_) (a':=?_) #[true,true,true,true,true,true,true,true,true,true,true,true,true,true,true,true,true,false,false,false,false,false,false,false,false] rfl rfl (qm HT_.out HW_.out (by kernel_rfl)) (fun _ _ _ h=>h) (Or.inl ⟨by rfl,?_⟩) hHeld ?_ ?_
   rotate_left
   next=>
    rintro w' ⟨s0,s1,s2,s3,s4,s5⟩
    go_simp;with_reducible rfl
   rotate_left
   next=>
    simp only [Act.put,yay,yby,ycy,zX,za]
    rfl
   refine zg (i:=17) (N:=some 55) (v:=?_) (a':=?_) #[true,true,true,true,true,true,true,true,true,true,true,true,true,true,true,true,true,true,false,false,false,false,false,false,false] rfl rfl (zm HT_.out (by kernel_rfl)) (fun _ _ _ h=>h) (Or.inl ⟨by rfl,?_⟩) ?_ ?_
   rotate_left
   next=>
    intro w';go_simp;with_reducible rfl
   rotate_left
   next=>
    simp only [Act.put,yay,yby,ycy,zX,za]
    rfl
   refine zg (i:=18) (N:=some 56) (v:=?_) (a':=?_) #[true,true,true,true,true,true,true,true,true,true,true,true,true,true,true,true,true,true,true,false,false,false,false,false,false] rfl rfl (zm HT_.out (by kernel_rfl)) (fun _ _ _ h=>h) (Or.inl ⟨by rfl,?_⟩) ?_ ?_
   rotate_left
   next=>
    intro w';go_simp;with_reducible rfl
   rotate_left
   next=>
    simp only [Act.put,yay,yby,ycy,zX,za]
    rfl
   refine zg (i:=19) (N:=some 57) (v:=?_) (a':=?_) #[true,true,true,true,true,true,true,true,true,true,true,true,true,true,true,true,true,true,true,true,false,false,false,false,false] rfl rfl (zm HT_.out (by kernel_rfl)) (fun _ _ _ h=>h) (Or.inl ⟨by rfl,?_⟩) ?_ ?_
   rotate_left
   next=>
    intro w';go_simp;with_reducible rfl
   rotate_left
   next=>
    simp only [Act.put,yay,yby,ycy,zX,za]
    rfl
   refine zg (i:=20) (N:=some 58) (v:=?_) (a':=?_) #[true,true,true,true,true,true,true,true,true,true,true,true,true,true,true,true,true,true,true,true,true,false,false,false,false] rfl rfl (zm HT_.out (by kernel_rfl)) (fun _ _ _ h=>h) (Or.inl ⟨by rfl,?_⟩) ?_ ?_
   rotate_left
   next=>
    intro w';go_simp;with_reducible rfl
   rotate_left
   next=>
    simp only [Act.put,yay,yby,ycy,zX,za]
    rfl
   refine zg (i:=21) (N:=some 59) (v:=?_) (a':=?_) #[true,true,true,true,true,true,true,true,true,true,true,true,true,true,true,true,true,true,true,true,true,true,false,false,false] rfl rfl (zm HT_.out (by kernel_rfl)) (fun _ _ _ h=>h) (Or.inl ⟨by rfl,?_⟩) ?_ ?_
   rotate_left
   next=>
    intro w';go_simp;with_reducible rfl
   rotate_left
   next=>
    simp only [Act.put,yay,yby,ycy,zX,za]
    rfl
   refine zg (i:=22) (N:=some 60) (v:=?_) (a':=?_) #[true,true,true,true,true,true,true,true,true,true,true,true,true,true,true,true,true,true,true,true,true,true,true,false,false] rfl rfl (zm HT_.out (by kernel_rfl)) (fun _ _ _ h=>h) (Or.inl ⟨by rfl,?_⟩) ?_ ?_
   rotate_left
   next=>
    intro w';go_simp;with_reducible rfl
   rotate_left
   next=>
    simp only [Act.put,yay,yby,ycy,zX,za]
    rfl
   refine zg (i:=23) (N:=some 61) (v:=?_) (a':=?_) #[true,true,true,true,true,true,true,true,true,true,true,true,true,true,true,true,true,true,true,true,true,true,true,true,false] rfl rfl (zm HT_.out (by kernel_rfl)) (fun _ _ _ h=>h) (Or.inl ⟨by rfl,?_⟩) ?_ ?_
   rotate_left
   next=>
    intro w';go_simp;with_reducible rfl
   rotate_left
   next=>
    simp only [Act.put,yay,yby,ycy,zX,za]
    rfl
   refine zg (i:=24) (N:=some 6) (v:=?_) (a':=?_) #[true,true,true,true,true,true,true,true,true,true,true,true,true,true,true,true,true,true,true,true,true,true,true,true,true] rfl rfl (zm HT_.out (by kernel_rfl)) (fun _ _ _ h=>h) (Or.inl ⟨by rfl,?_⟩) ?_ ?_
   rotate_left
   next=>
    intro w';go_simp;with_reducible rfl
   rotate_left
   next=>
    simp only [Act.put,yay,yby,ycy,zX,za]
    rfl
   refine Qo (Qp HT_.out (by kernel_rfl)) ?_
   try go_wp2
   go_ret;exact⟨by first|rfl|(simp [zU,zV] <;> rfl)|(simp [*,zU,zV] <;> rfl),by repeat(first|(with_reducible first|exact HB.out|apply zC|apply zB|apply zD|refine zF ?_ aq.out|refine zF ?_ av.out)|exact HB.out)⟩
end
def qo.f (l0:List (zv)):Option (Bool):=some ((l0.length:Int) != 4)
set_option maxHeartbeats 8000000 in
set_option maxRecDepth 100000 in
theorem qo.calls (A0:Option Addr) (c0:Nat) (l0:List (zv)) (r:Bool) (w:World) (aa:Kd.C ZZ w A0 l0.length l0) (ab:l0.length≤c0) (h:qo.f l0=some r) :
    Calls Try.prog 107 #[.slice A0 l0.length c0] w fun e w'=>e = .returned (.bool r)∧qG w w':=by
  have ad:=zA.mk aa
  have ae:=zA.mk ab
  clear aa ab;have H:(some ((l0.length:Int) != 4))=some r:=h
  clear h;obtain rfl:=yey H
  go_enter Try.func107,Try.ntmps107
  go_wp2;go_ret;exact⟨by first|rfl|(simp;done)|(simp [*];done),by repeat(first|exact qG.refl _|apply qG.step)⟩
end Go.Proofs.Ytembbpalgfikiaa.P
namespace Go.Proofs.Ytembbpalgfikiaa.P
open Go.RowKit Go.Proofs.YtembbpalgfikiaaW.PrintWords Go.Proofs.YtembbpalgfikiaaW.PrintLast Go.Proofs.YtembbpalgfikiaaW.PrintMore
attribute [local go_sem] Ji Jj zAU zAV JK JL Jk Jl
set_option linter.unusedVariables false
set_option linter.unusedSimpArgs false
open Go.Proofs.Ytembbpalgfikiaa.Lib
def qL.f (l0:List (List (zv))):Option Int:=zHm (fun x=>qo.f x) 0 l0
set_option maxHeartbeats 8000000 in
set_option maxRecDepth 100000 in
theorem qL.calls (A0:Option Addr) (c0:Nat) (l0:List (List (zv))) (r:Int) (w:World) (ag:Kd.C (Kd.slice 75 ZZ) w A0 l0.length l0) (ak:l0.length≤c0) (h:qL.f l0=some r) :
    Calls Try.prog 128 #[.slice A0 l0.length c0,.func (.func 107) #[] #[]] w fun e w'=>e = .returned (.int .i64 r)∧Below w.heap.size w w':=by
  have ah:=zA.mk ag
  clear ag ak;have hbig:l0.length≤9223372036854775807:=ah.out.2.1
  have HB:=zA.mk (ysy w.heap.size w)
  have H':=zA.mk (show zHm (fun x=>qo.f x) 0 l0=some r from h)
  clear h;go_enter Try.func128,Try.ntmps128
  go_wp2;go_loopg [5,8] l0.length (fun gg v5 v8 w' => ∃ kk:Nat,kk≤l0.length∧l0.length-kk≤gg∧v8 = .int .i64 kk∧zA (zHm (fun x=>qo.f x) kk (l0.drop kk)=some r)∧zA (Below w.heap.size w w'))
  case atStart=>exact⟨0,Nat.zero_le _,by omega,rfl,H',HB⟩
  case round=>
    clear H' HB;obtain⟨kk,hkk,hg,rfl,HA,HB⟩:=hrel
    by_cases hlt:kk<l0.length
    · have hltz:(kk:Int)<(l0.length:Int):=by omega
      have H:=HA.out
      clear HA;rw[ypy hlt,zE1]at H
      replace H:=ydy.mp H
      obtain⟨b,hb,H⟩:=H
      obtain⟨ad,A1,c1,ae,hx,ab,aa⟩:=ZY ah.out (kk:Int) (by omega) (by omega)
      have ex:zE l0 (kk:Int)=l0[kk]:=by simp [zE,hlt]
      rw[ex]at hx ab aa
      rw[yny]at hx
      replace hx:=(HB.out.cell (yqy w _ hx)).trans hx
      replace aa:=Kd.qD aa HB.out
      generalize l0[kk]=y at hx ab aa hb
      have ai:=zA.mk aa
      have aj:=zA.mk ab
      clear ex aa ab
      cases ae
      have HC:=zA.mk hb
      clear hb
      cases b with
      | true=>
        have H2:=zA.mk H
        clear H;go_wp2_with fail
        refine(qo.calls _ _ _ _ _ ai.out aj.out HC.out).mono ?_
        rintro e w' ⟨rfl,hd⟩
        have af:=zA.mk (zM HB.out hd.below)
        clear hd HB;go_wp2;go_ret;exact⟨by rw[yey H2.out];rfl,af.out⟩
      | false=>
        have H2:=zA.mk H
        clear H;go_wp2_with fail
        refine(qo.calls _ _ _ _ _ ai.out aj.out HC.out).mono ?_
        rintro e w' ⟨rfl,hd⟩
        have af:=zA.mk (zM HB.out hd.below)
        clear hd HB;go_wp2;go_roundg (l0.length-(kk+1))
        case measure=>omega
        case rel=>exact⟨kk+1,by omega,by omega,by go_num,H2,af⟩
    · have hltz : ¬ (kk:Int)<(l0.length:Int):=by omega
      have e:kk=l0.length:=by omega
      subst e;have H2:=zA.mk (yey (by simpa [zHm]using HA.out))
      clear HA;go_wp2;go_ret;exact⟨by rw[← H2.out];rfl,HB.out⟩
def zr.f (l0:List (List (zv))):Option Bool:=(qL.f l0).bind fun i=>some (decide (0≤i))
set_option maxHeartbeats 8000000 in
set_option maxRecDepth 100000 in
theorem zr.calls (A0:Option Addr) (c0:Nat) (l0:List (List (zv))) (r:Bool) (w:World) (aa:Kd.C (Kd.slice 75 ZZ) w A0 l0.length l0) (ab:l0.length≤c0) (h:zr.f l0=some r) :
    Calls Try.prog 106 #[.slice A0 l0.length c0,.func (.func 107) #[] #[]] w fun e w'=>e = .returned (.bool r)∧Below w.heap.size w w':=by
  obtain⟨i,hi,h⟩:=ydy.mp h
  have H:=zA.mk (yey h)
  clear h;have HI:=zA.mk hi
  clear hi;have ad:=zA.mk aa
  have ae:=zA.mk ab
  clear aa ab;go_enter Try.func106,Try.ntmps106
  go_wp2_with fail
  refine(qL.calls _ _ _ _ _ ad.out ae.out HI.out).mono ?_
  rintro e w' ⟨rfl,hd⟩
  have HB:=zA.mk hd
  clear hd;go_wp2;go_ret;exact⟨by rw[← H.out];rfl,HB.out⟩
end Go.Proofs.Ytembbpalgfikiaa.P
