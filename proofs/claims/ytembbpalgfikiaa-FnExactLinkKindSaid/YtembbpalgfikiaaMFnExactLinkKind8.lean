/- The statement FnExactLinkKindSaid, proved: part 8 of 9 (texts of this session and of the kit's print, put together and cut to what is used by a program of it). -/
import Derived.Test.YtembbpalgfikiaaMFnExactLinkKind7
import Derived.Deep.Slices
import Derived.ChangeSame
import Derived.ChangeArms
import Derived.WideShapes
import Derived.Lib.SmallJoins
import Derived.ChangeShapes
namespace Go.Proofs.Ytembbpalgfikiaa.P
open Go.RowKit Go.Proofs.YtembbpalgfikiaaW.PrintWords Go.Proofs.Ytembbpalgfikiaa.Lib
set_option linter.unusedVariables false
def Qh (cls:List Int) (c:Int):Nat→Nat→List (List Int)
  | 0,_ => []
  | d+1,i=>(if rd cls (i:Int)=c then[[((i/4:Nat):Int),((i%4:Nat):Int)]]else[])++Qh cls c d (i+1)
theorem Jf (cls:List Int) (c:Int) : ∀ d i:Nat,(Qh cls c d i).length≤d
  | 0,_=>yry _
  | d+1,i=>by
    have:=Jf cls c d (i+1)
    rw[Qh,List.length_append]
    split <;> simp <;> omega
theorem zBz (cls:List Int) (c:Int) : ∀ (d i:Nat) (x:List Int),x∈Qh cls c d i → ∃ k:Nat,i≤k∧k<i+d∧x = [((k/4:Nat):Int),((k%4:Nat):Int)]∧rd cls (k:Int)=c
  | 0,i,x,h=>by cases h
  | d+1,i,x,h=>by
    rw[Qh]at h
    rcases List.mem_append.1 h with h|h
    · split at h
      · rename_i e
        have:x = [((i/4:Nat):Int),((i%4:Nat):Int)]:=by simpa using h
        exact⟨i,yry _,by omega,this,e⟩
      · cases h
    · obtain⟨k,h1,h2,h3⟩:=zBz cls c d (i+1) x h
      exact⟨k,by omega,by omega,h3⟩
theorem zBW (cls:List Int) (c:Int) (n:Nat) (hn:n≤cls.length) (hL:cls.length≤1000000) : ∀ (d i:Nat) (acc:List (List Int)),i+d=n→acc.length≤i→Ev (fun k=>ze.l0 k c acc cls (n:Int) (i:Int)) (acc++Qh cls c d i)
  | 0,i,acc,hi,ha=>by
    refine qW (fun k=>by rw[ze.l0,if_neg (by omega)]) ?_
    rw[Qh,List.append_nil];exact Ev.now _
  | d+1,i,acc,hi,ha=>by
    have e1:wrap64 (Int.tdiv (i:Int) 4)=((i/4:Nat):Int):=by
      rw[Int.tdiv_eq_ediv_of_nonneg (by omega),ql (by omega) (by omega)];rfl
    have e2:Int.tmod (i:Int) 4=((i%4:Nat):Int):=by
      rw[Int.tmod_eq_emod_of_nonneg (by omega)];rfl
    rw[Qh]
    by_cases e:rd cls (i:Int)=c
    · refine qW (fun k=>by rw[ze.l0,if_pos (by omega),if_pos (by omega),if_pos (by omega),if_pos e,if_pos (by omega),e1,e2,Zc (by omega)]) ?_
      have:=zBW cls c n hn hL d (i+1) (acc ++ [[((i/4:Nat):Int),((i%4:Nat):Int)]]) (by omega) (by simp;omega)
      rw[if_pos e,← List.append_assoc]
      exact this
    · refine qW (fun k=>by rw[ze.l0,if_pos (by omega),if_pos (by omega),if_pos (by omega),if_neg e,Zc (by omega)]) ?_
      rw[if_neg e,List.nil_append]
      exact zBW cls c n hn hL d (i+1) acc (by omega) (by omega)
section
variable {t : Tri}
theorem zCx (h:ZG t=true) (c:Int):Ev (fun k=>ze.f k t c) (Qh (ZW t) c (4*t.length) 0):=by
  have h8:=(qt h).1
  have hl:=zAC h
  refine Ev.bind (Qw (zBV h)) ?_
  have:=zBW (ZW t) c (ZW t).length (yry _) (by omega) (ZW t).length 0 [] (by omega) (by simp)
  rw[List.nil_append]at this
  rw[← hl]
  exact this
def zBX (t:Tri) (c:Int):Int:=if ZG t=true then(if 0≤c∧c≤zEL t-1 then 0 else 2)else 1
theorem zFY (hs:Small t) (c:Int):Ev (fun k=>Zz.f k t c) (zBX t c):=by
  refine Ev.bind (zDS hs) ?_
  unfold zBX
  cases h:ZG t with
  | false=>exact Qi (by simp) (Ev.now _)
  | true=>
    have hb:=zH6 h
    refine ZJ rfl (Ev.bind (Qw (zBV h)) (Ev.bind (Qw (zDX h)) (Ev.bind (Qw (zBT _ _ _)) ?_)))
    rw[ql (by omega) (by omega),if_pos rfl]
    by_cases hc:0≤c∧c≤zEL t-1
    · rw[if_pos hc]
      exact ZJ (by rw[ygy hc.1,ygy hc.2];rfl) (Ev.now _)
    · rw[if_neg hc]
      refine Qi ?_ (Ev.now _)
      rw[Bool.and_eq_true,decide_eq_true_eq,decide_eq_true_eq]
      exact hc
theorem zIt (h:ZG t=true) {a x:Nat} (ha:a<t.length) (hx:x<4):rd (qQ (Qm 4 t.length (ZW t)) (a:Int)) (x:Int)=rd (ZW t) ((4*a+x:Nat):Int)∧(qQ (Qm 4 t.length (ZW t)) (a:Int)).length=4:=by
  have hl:=zAC h
  have hg:=zCv 4 t.length (ZW t) a ha
  have e:qQ (Qm 4 t.length (ZW t)) (a:Int)=((ZW t).drop (4*a)).take 4:=by
    simp [qQ,List.getD_eq_getElem?_getD,hg]
  rw[e]
  refine⟨?_,by rw[ymy,yly];omega⟩
  rw[JZ,JZ]
  simp only [List.getD_eq_getElem?_getD]
  rw[List.getElem?_take,if_pos hx,List.getElem?_drop]
end
theorem zH7 (t:Tri) (a v:Int) (q:zBj) : ∀ f:Nat,q.n≤(Ql t a v f q).n∧(Ql t a v f q).n≤q.n+f∧((Ql t a v f q).n=q.n ↔ ∀ g:Nat,g<f→(g:Int)≠v → ¬ (zI (zE t a) (g:Int)).f0<0)
  | 0=>⟨by simp [Ql],by simp [Ql],by simp [Ql]⟩
  | f+1=>by
    obtain⟨h1,h2,h3⟩:=zH7 t a v q f
    unfold Ql
    by_cases e:(f:Int)=v
    · rw[if_pos e]
      refine⟨h1,by omega,h3.trans ⟨fun h g hg hv=>?_,fun h g hg=>h g (by omega)⟩⟩
      by_cases e2:g=f
      · subst e2;exact absurd e hv
      · exact h g (by omega) hv
    · rw[if_neg e]
      by_cases hb:(zI (zE t a) (f:Int)).f0<0
      · have e2:(zE8 (16*a+4*v) v (f:Int) (zI (zE t a) (f:Int)) (Ql t a v f q)).n=(Ql t a v f q).n+1:=by unfold zE8;rw[if_pos hb]
        rw[e2]
        exact⟨by omega,by omega,⟨fun h=>by omega,fun h=>absurd hb (h f (by omega) e)⟩⟩
      · have e2:(zE8 (16*a+4*v) v (f:Int) (zI (zE t a) (f:Int)) (Ql t a v f q)).n=(Ql t a v f q).n:=by unfold zE8;rw[if_neg hb]
        rw[e2]
        refine⟨h1,by omega,h3.trans ⟨fun h g hg hv=>?_,fun h g hg=>h g (by omega)⟩⟩
        by_cases e3:g=f
        · subst e3;exact hb
        · exact h g (by omega) hv
theorem zH8 {v:Int} (h0:0≤v) (h1:v≤3) (f:Int):f∈Qt [v] ↔ ∃ g:Nat,g<4∧(g:Int)≠v∧f=(g:Int):=by
  obtain rfl|rfl|rfl|rfl:v=0∨v=1∨v=2∨v=3:=by omega
  · rw[show Qt [0] = [1,2,3]from by decide]
    simp only [List.mem_cons,List.not_mem_nil,or_false]
    exact⟨fun h=>⟨f.toNat,by omega,by omega,by omega⟩,fun⟨g,hg,hv,e⟩=>by omega⟩
  · rw[show Qt [1] = [0,2,3]from by decide]
    simp only [List.mem_cons,List.not_mem_nil,or_false]
    exact⟨fun h=>⟨f.toNat,by omega,by omega,by omega⟩,fun⟨g,hg,hv,e⟩=>by omega⟩
  · rw[show Qt [2] = [0,1,3]from by decide]
    simp only [List.mem_cons,List.not_mem_nil,or_false]
    exact⟨fun h=>⟨f.toNat,by omega,by omega,by omega⟩,fun⟨g,hg,hv,e⟩=>by omega⟩
  · rw[show Qt [3] = [0,1,2]from by decide]
    simp only [List.mem_cons,List.not_mem_nil,or_false]
    exact⟨fun h=>⟨f.toNat,by omega,by omega,by omega⟩,fun⟨g,hg,hv,e⟩=>by omega⟩
theorem zH9 {t:Tri} {x:List Int} (h0:0≤rd x 1) (h1:rd x 1≤3) (q:zBj):zBB t x=false↔(Ql t (rd x 0) (rd x 1) 4 q).n=q.n:=by
  rw[(zH7 t (rd x 0) (rd x 1) q 4).2.2]
  unfold zBB
  rw[List.any_eq_false]
  constructor
  · intro h g hg hv hb
    have:=h (g:Int) ((zH8 h0 h1 _).2 ⟨g,hg,hv,rfl⟩)
    unfold zFz at this
    exact this (ygy hb)
  · intro h f hf
    obtain⟨g,hg,hv,rfl⟩:=(zH8 h0 h1 f).1 hf
    unfold zFz
    rw[decide_eq_true_eq]
    exact h g hg hv
theorem zIP {t:Tri} {cs:List (List Int)} (hc : ∀ c∈cs,c.length=2∧0≤rd c 0∧rd c 0<(t.length:Int)∧0≤rd c 1∧rd c 1≤3) (q:zBj) : ∀ i:Nat,i≤cs.length→q.n≤(zAn t cs i q).n∧((zAn t cs i q).n=q.n ↔ ∀ c∈cs.take i,zBB t c=false)
  | 0,_=>⟨by simp [zAn],by simp [zAn]⟩
  | i+1,hi=>by
    obtain⟨h1,h2⟩:=zIP hc q i (by omega)
    have e:qQ cs (i:Int)=cs[i]:=by simp [qQ,show i<cs.length by omega]
    have h3:=hc cs[i] (yoy _)
    have h4:=zH9 (t:=t) h3.2.2.2.1 h3.2.2.2.2 (zAn t cs i q)
    have h5:=(zH7 t (rd cs[i] 0) (rd cs[i] 1) (zAn t cs i q) 4).1
    unfold zAn
    rw[e,List.take_succ_eq_append_getElem (by omega)]
    refine⟨by omega,⟨fun h c hm=>?_,fun h=>?_⟩⟩
    · rcases List.mem_append.1 hm with hm|hm
      · exact h2.1 (by omega) c hm
      · rw[List.mem_singleton.1 hm];exact h4.2 (by omega)
    · have a:=h2.2 (fun c hm=>h c (List.mem_append_left _ hm))
      have b:=h4.1 (h _ (List.mem_append_right _ (List.mem_singleton.2 rfl)))
      omega
section
variable {t : Tri}
theorem Ju (h:ZG t=true) (c:Int) : ∀ x∈Qh (ZW t) c (4*t.length) 0,x.length=2∧0≤rd x 0∧rd x 0<(t.length:Int)∧0≤rd x 1∧rd x 1≤3:=by
  intro x hx
  obtain⟨k,h0,h1,e,_⟩:=zBz _ _ _ _ _ hx
  have e0:rd [((k/4:Nat):Int),((k%4:Nat):Int)] 0=((k/4:Nat):Int):=rfl
  have e1:rd [((k/4:Nat):Int),((k%4:Nat):Int)] 1=((k%4:Nat):Int):=rfl
  rw[e,e0,e1]
  exact⟨rfl,by omega,by omega,by omega,by omega⟩
theorem zEN (h:ZG t=true) (c:Int):zEo t (Qh (ZW t) c (4*t.length) 0)=true:=by
  obtain⟨h8,h4,_⟩:=qt h
  unfold zEo
  simp only [Bool.and_eq_true,decide_eq_true_eq,List.all_eq_true]
  refine⟨⟨h8,by have:=Jf (ZW t) c (4*t.length) 0;omega⟩,fun r hr=>⟨h4 r hr,fun x hx=>?_⟩,fun x hx=>?_⟩
  · unfold zE9
    simp only [Bool.or_eq_true,Bool.and_eq_true,decide_eq_true_eq]
    obtain⟨a,ha,rfl⟩:=List.getElem_of_mem hr
    obtain⟨f,hf,rfl⟩:=List.getElem_of_mem hx
    have:=zAY h (a:=(a:Int)) (f:=(f:Int)) (by omega) (by omega) (by omega) (by rw[h4 _ (yoy ha)]at hf;omega)
    have e:fc t (a:Int) (f:Int)=t[a][f]:=by unfold fc;rw[Qr t a ha,zAh _ f hf]
    rw[e]at this
    rcases this with ⟨e1,_⟩|⟨⟨g0,g1,g2,g3⟩,_⟩
    · left;omega
    · right;exact⟨g0,g1,g2,g3⟩
  · have:=Ju h c x hx
    unfold zBC
    simp only [Bool.and_eq_true,decide_eq_true_eq]
    exact⟨this.1,⟨this.2.1,this.2.2.1⟩,this.2.2.2.1,this.2.2.2.2⟩
def Jh (t:Tri) (c:Int):zBj:=zAn t (Qh (ZW t) c (4*t.length) 0) (Qh (ZW t) c (4*t.length) 0).length (zEY t)
def euP (t:Tri) (c:Int):Int:=zCW (Jh t c).p (Jh t c).u (Jh t c).u.length 0
def euS (t:Tri) (c:Int):Int:=zCW (Jh t c).s (Jh t c).u (Jh t c).u.length 0
theorem zC0 (h:ZG t=true) (c:Int):zFS (16*t.length) 128 (Jh t c):=by
  have h8:=(qt h).1
  have a:=Jf (ZW t) c (4*t.length) 0
  have:=zBD (Ju h c) (zAf t) _ (yry _)
  exact⟨this.lp,this.ls,this.u,by have:=this.lu;unfold Jh;omega,this.n0,by have:=this.n1;unfold Jh;omega⟩
theorem zHA : ∃ k0:Nat,∀ k,k0≤k→zHq k=true:=by
  have h : ∀ (m:Fin 24) (f:Fin 4),∃ k0:Nat,∀ k,k0≤k→qi.f k (m.val:Int) (f.val:Int)=some (rd (qP (m.val:Int)) (f.val:Int)):=fun m f=>zAg (by omega) (by omega) (by omega) (by omega)
  have h2 : ∀ m:Fin 24,∃ k0:Nat,∀ k,k0≤k → ∀ f:Fin 4,qi.f k (m.val:Int) (f.val:Int)=some (rd (qP (m.val:Int)) (f.val:Int)):=fun m=>by
    obtain⟨k0,h0⟩:=h m 0
    obtain⟨k1,h1⟩:=h m 1
    obtain⟨k2,h2⟩:=h m 2
    obtain⟨k3,h3⟩:=h m 3
    refine⟨k0+k1+k2+k3,fun k hk f=>?_⟩
    match f with
    | 0=>exact h0 k (by omega)
    | 1=>exact h1 k (by omega)
    | 2=>exact h2 k (by omega)
    | 3=>exact h3 k (by omega)
  have h3 : ∀ n:Nat,n≤24 → ∃ k0:Nat,∀ k,k0≤k → ∀ m:Fin 24,m.val<n → ∀ f:Fin 4,qi.f k (m.val:Int) (f.val:Int)=some (rd (qP (m.val:Int)) (f.val:Int)):=fun n=>by
    induction n with
    | zero=>exact fun _=>⟨0,fun k _ m hm=>absurd hm (by omega)⟩
    | succ n ih=>
      intro hn;obtain⟨k0,h0⟩:=ih (by omega)
      obtain⟨k1,h1⟩:=h2 ⟨n,by omega⟩
      refine⟨k0+k1,fun k hk m hm f=>?_⟩
      by_cases e:m.val=n
      · have em:m=⟨n,by omega⟩:=Fin.ext e
        rw[em]
        exact h1 k (by omega) f
      · exact h0 k (by omega) m (by omega) f
  obtain⟨k0,h0⟩:=h3 24 (yry _)
  refine⟨k0,fun k hk=>?_⟩
  unfold zHq
  rw[decide_eq_true_eq]
  exact fun m f=>h0 k hk m m.isLt f
theorem zCM (h:ZG t=true) (c:Int):Ev (fun k=>Zr.f k t (Qh (ZW t) c (4*t.length) 0)) (euP t c,euS t c,((Qh (ZW t) c (4*t.length) 0).length:Int),(Jh t c).n):=by
  have hI:=zC0 h c
  have d1:=zGy (x0:=(Jh t c).p) (x1:=(Jh t c).u) (by rw[hI.lp];exact hI.u) (by have:=hI.lu;omega)
  have d2:=zGy (x0:=(Jh t c).s) (x1:=(Jh t c).u) (by rw[hI.ls];exact hI.u) (by have:=hI.lu;omega)
  unfold Zr.f
  refine ZJ (zEN h c) ?_
  have hfr:Ev (fun k=>if zHq k=true then qF.f k (16*(t.length:Int))else none) (ZP 0 (16*t.length)):=by
    have hf:=zBy (16*t.length) (by have:=(qt h).1;omega)
    obtain⟨k0,aa⟩:=hf
    obtain⟨k1,ab⟩:=zHA
    refine⟨k0+k1,fun k hk=>?_⟩
    have e:(16*(t.length:Int))=((16*t.length:Nat):Int):=by omega
    rw[e]
    exact(if_pos (ab k (by omega))).trans (aa k (by omega))
  exact Ev.bind hfr (ZJ rfl (Ev.bind d1 (Ev.bind d2 (Ev.now _))))
theorem zHx (h:ZG t=true) (c:Int):((Jh t c).n=0↔(Qh (ZW t) c (4*t.length) 0).any (zBB t)=false)∧0≤(Jh t c).n:=by
  have:=zIP (Ju h c) (zEY t) _ (yry _)
  refine⟨this.2.trans ?_,this.1⟩
  rw[List.take_length,List.any_eq_false]
  exact⟨fun h c hc=>by rw[h c hc];simp,fun h c hc=>by have:=h c hc;simpa using this⟩
end
def In (s:List Int) (x:Int):Prop:=0≤x∧x<(s.length:Int)
theorem zHB (s:List Int) (i k:Int) {x y:Int} (hx:In s x) (hy:In s y):rd (uni s i k) x=rd (uni s i k) y↔(rd s x=rd s y∨((rd s x=rd s i∨rd s x=rd s k)∧(rd s y=rd s i∨rd s y=rd s k))):=by
  have h1:=hx.1
  have h2:=hx.2
  have h3:=hy.1
  have h4:=hy.2
  exact zFG s i k x.toNat y.toNat (by omega) (by omega)
theorem zHC (s:List Int) (i k:Int) {x y:Int} (hx:In s x) (hy:In s y):rd (joi s i k) x=rd (joi s i k) y↔(rd s x=rd s y∨((rd s x=rd s i∨rd s x=rd s k)∧(rd s y=rd s i∨rd s y=rd s k))):=by
  have h1:=hx.1
  have h2:=hx.2
  have h3:=hy.1
  have h4:=hy.2
  exact zFH s i k x.toNat y.toNat (by omega) (by omega)
def Snd {α:Type} (g:Int → α) (s:List Int):Prop := ∀ x y,In s x→In s y→rd s x=rd s y→g x=g y
section
variable {α : Type} {g : Int → α} {s : List Int} {i k : Int}
theorem zIQ {s2:List Int} (hl:s2.length=s.length) (hrd : ∀ x y,In s x→In s y→(rd s2 x=rd s2 y↔(rd s x=rd s y∨((rd s x=rd s i∨rd s x=rd s k)∧(rd s y=rd s i∨rd s y=rd s k))))) (h:Snd g s) (hi:In s i) (hk:In s k) (e:g i=g k):Snd g s2:=by
  intro x y hx hy hxy
  have hx' : In s x:=⟨hx.1,by have:=hx.2;rw[hl]at this;exact this⟩
  have hy' : In s y:=⟨hy.1,by have:=hy.2;rw[hl]at this;exact this⟩
  rcases(hrd x y hx' hy').1 hxy with h1|⟨h1,h2⟩
  · exact h x y hx' hy' h1
  · have a:g x=g i:=by
      rcases h1 with h1|h1
      · exact h x i hx' hi h1
      · exact(h x k hx' hk h1).trans e.symm
    have b:g y=g i:=by
      rcases h2 with h2|h2
      · exact h y i hy' hi h2
      · exact(h y k hy' hk h2).trans e.symm
    exact a.trans b.symm
theorem zF3 (h:Snd g s) (hi:In s i) (hk:In s k) (e:g i=g k):Snd g (uni s i k):=zIQ (Zj s i k) (fun x y hx hy=>zHB s i k hx hy) h hi hk e
theorem zHD (h:Snd g s) (hi:In s i) (hk:In s k) (e:g i=g k):Snd g (joi s i k):=zIQ (QC s i k) (fun x y hx hy=>zHC s i k hx hy) h hi hk e
theorem zDY {x y:Int} (hx:In s x) (hy:In s y) (h:rd s x=rd s y):rd (uni s i k) x=rd (uni s i k) y:=(zHB s i k hx hy).2 (.inl h)
theorem zC1 {x y:Int} (hx:In s x) (hy:In s y) (h:rd s x=rd s y):rd (joi s i k) x=rd (joi s i k) y:=(zHC s i k hx hy).2 (.inl h)
theorem zF4 (hi:In s i) (hk:In s k):rd (uni s i k) i=rd (uni s i k) k:=(zHB s i k hi hk).2 (.inr ⟨.inl rfl,.inr rfl⟩)
theorem zHE (hi:In s i) (hk:In s k):rd (joi s i k) i=rd (joi s i k) k:=(zHC s i k hi hk).2 (.inr ⟨.inl rfl,.inr rfl⟩)
theorem Qs {x:Int} (h:In s x):In (uni s i k) x:=⟨h.1,by rw[Zj];exact h.2⟩
theorem zEO (n:Nat):Snd g (ZP 0 n):=by
  intro x y hx hy h
  have e : ∀ z,In (ZP 0 n) z→rd (ZP 0 n) z=z:=fun z hz=>by
    have h1:=hz.1
    have h2:=hz.2
    rw[qU]at h2
    obtain⟨m,rfl⟩:=Int.eq_ofNat_of_zero_le h1
    rw[JZ,zCk 0 n m (by omega)]
    omega
  rw[e x hx,e y hy]at h
  rw[h]
end
section
variable {α : Type} {g : Int → α}
theorem zHF {b to_:Int} {p:List Int} : ∀ (L x:List Int),(∀ w∈L,In x (b+w)∧In x (to_+rd p w)∧g (b+w)=g (to_+rd p w))→Snd g x→Snd g (leP b to_ p L x)
  | [],x,_,h=>h
  | w :: ws,x,hL,h=>by
    obtain⟨a1,a2,a3⟩:=hL w (List.mem_cons_self ..)
    exact zHF ws _ (fun u hu=>by
      obtain⟨b1,b2,b3⟩:=hL u (List.mem_cons_of_mem _ hu)
      exact⟨Qs b1,Qs b2,b3⟩) (zF3 h a1 a2 a3)
theorem zDZ {b to_:Int} {p:List Int} {u v:Int} : ∀ (L x:List Int),In x u→In x v→rd x u=rd x v→rd (leP b to_ p L x) u=rd (leP b to_ p L x) v
  | [],x,_,_,h=>h
  | w :: ws,x,hu,hv,h=>zDZ ws _ (Qs hu) (Qs hv) (zDY hu hv h)
theorem zHG {b to_:Int} {p:List Int} {w:Int} : ∀ (L x:List Int),w∈L→(∀ u∈L,In x (b+u)∧In x (to_+rd p u))→rd (leP b to_ p L x) (b+w)=rd (leP b to_ p L x) (to_+rd p w)
  | [],x,h,_=>by cases h
  | u :: us,x,h,hL=>by
    obtain⟨a1,a2⟩:=hL u (List.mem_cons_self ..)
    rcases List.mem_cons.1 h with rfl|h
    · exact zDZ us _ (Qs a1) (Qs a2) (zF4 a1 a2)
    · exact zHG us _ h (fun z hz=>by
        obtain⟨b1,b2⟩:=hL z (List.mem_cons_of_mem _ hz)
        exact⟨Qs b1,Qs b2⟩)
def LeR (n:Nat) (j f b:Int) (p:List Int):Prop := ∀ v w:Int,0≤v→v≤3→0≤w→w≤3→(0≤16*j+4*v+w∧16*j+4*v+w<(n:Int))∧(0≤16*b+4*rd p v+rd p w∧16*b+4*rd p v+rd p w<(n:Int))
theorem zBl {n:Nat} {j f b:Int} {p:List Int} (hR:LeR n j f b p) : ∀ (L:List Int) (s:List Int × List Int),s.1.length=n→(∀ v∈L,sm v ∧ ∀ w∈Qt [f,v],g (16*j+4*v+w)=g (16*b+4*rd p v+rd p w))→Snd g s.1→Snd g (QB j f b p L s).1
  | [],s,_,_,h=>h
  | v :: vs,s,hl,hL,h=>by
    obtain⟨hv,hw⟩:=hL v (List.mem_cons_self ..)
    refine zBl hR vs _ (by rw[Qf];exact hl) (fun u hu=>hL u (List.mem_cons_of_mem _ hu)) ?_
    refine zHF _ _ (fun w aa=>?_) h
    have hsw:=(Qy aa).1
    have:=hR v w hv.1 hv.2 hsw.1 hsw.2
    exact⟨by unfold In;rw[hl];exact this.1,by unfold In;rw[hl];exact this.2,hw w aa⟩
theorem zBm {n:Nat} {j f b:Int} {p:List Int} (hf:sm f) (hR:LeR n j f b p) : ∀ (L:List Int) (s:List Int × List Int),s.2.length=n→(∀ v∈L,sm v∧g (16*j+4*v+f)=g (16*b+4*rd p v+rd p f))→Snd g s.2→Snd g (QB j f b p L s).2
  | [],s,_,_,h=>h
  | v :: vs,s,hl,hL,h=>by
    obtain⟨hv,hw⟩:=hL v (List.mem_cons_self ..)
    refine zBm hf hR vs _ (by rw[Zj];exact hl) (fun u hu=>hL u (List.mem_cons_of_mem _ hu)) ?_
    have:=hR v f hv.1 hv.2 hf.1 hf.2
    exact zF3 h (by unfold In;rw[hl];exact this.1) (by unfold In;rw[hl];exact this.2) hw
theorem zAD {j f b:Int} {p:List Int} {x y:Int} : ∀ (L:List Int) (s:List Int × List Int),In s.1 x→In s.1 y→rd s.1 x=rd s.1 y→rd (QB j f b p L s).1 x=rd (QB j f b p L s).1 y
  | [],s,_,_,h=>h
  | v :: vs,s,hx,hy,h=>zAD vs _ ⟨hx.1,by rw[Qf];exact hx.2⟩ ⟨hy.1,by rw[Qf];exact hy.2⟩ (zDZ _ _ hx hy h)
theorem zAE {j f b:Int} {p:List Int} {x y:Int} : ∀ (L:List Int) (s:List Int × List Int),In s.2 x→In s.2 y→rd s.2 x=rd s.2 y→rd (QB j f b p L s).2 x=rd (QB j f b p L s).2 y
  | [],s,_,_,h=>h
  | v :: vs,s,hx,hy,h=>zAE vs _ (Qs hx) (Qs hy) (zDY hx hy h)
theorem zBn {n:Nat} {j f b:Int} {p:List Int} (hR:LeR n j f b p) {v w:Int} (hw:w∈Qt [f,v]) : ∀ (L:List Int) (s:List Int × List Int),s.1.length=n→v∈L→(∀ u∈L,sm u)→rd (QB j f b p L s).1 (16*j+4*v+w)=rd (QB j f b p L s).1 (16*b+4*rd p v+rd p w)
  | [],s,_,h,_=>by cases h
  | u :: us,s,hl,h,hL=>by
    have hsw:=(Qy hw).1
    have hu:=hL u (List.mem_cons_self ..)
    rcases List.mem_cons.1 h with rfl|h
    · have hr:=hR v w hu.1 hu.2 hsw.1 hsw.2
      refine zAD us _ ⟨hr.1.1,by rw[Qf,hl];exact hr.1.2⟩ ⟨hr.2.1,by rw[Qf,hl];exact hr.2.2⟩ ?_
      refine zHG _ _ hw (fun z hz=>?_)
      have aa:=(Qy hz).1
      have ab:=hR v z hu.1 hu.2 aa.1 aa.2
      exact⟨by unfold In;rw[hl];exact ab.1,by unfold In;rw[hl];exact ab.2⟩
    · exact zBn hR hw us _ (by rw[Qf];exact hl) h (fun z hz=>hL z (List.mem_cons_of_mem _ hz))
theorem zBo {n:Nat} {j f b:Int} {p:List Int} (hf:sm f) (hR:LeR n j f b p) {v:Int} : ∀ (L:List Int) (s:List Int × List Int),s.2.length=n→v∈L→(∀ u∈L,sm u)→rd (QB j f b p L s).2 (16*j+4*v+f)=rd (QB j f b p L s).2 (16*b+4*rd p v+rd p f)
  | [],s,_,h,_=>by cases h
  | u :: us,s,hl,h,hL=>by
    have hu:=hL u (List.mem_cons_self ..)
    rcases List.mem_cons.1 h with rfl|h
    · have hr:=hR v f hu.1 hu.2 hf.1 hf.2
      exact zAE us _ (Qs (by unfold In;rw[hl];exact hr.1)) (Qs (by unfold In;rw[hl];exact hr.2)) (zF4 (by unfold In;rw[hl];exact hr.1) (by unfold In;rw[hl];exact hr.2))
    · exact zBo hf hR us _ (by rw[Zj];exact hl) h (fun z hz=>hL z (List.mem_cons_of_mem _ hz))
theorem zAa {j b:Int} {p:List Int} {x y:Int} : ∀ (L s:List Int),In s x→In s y→rd s x=rd s y→rd (Qb j b p L s) x=rd (Qb j b p L s) y
  | [],s,_,_,h=>h
  | v :: vs,s,hx,hy,h=>zAa vs _ (Qs hx) (Qs hy) (zDY hx hy h)
theorem zCN {j b:Int} {p:List Int} {v:Int} : ∀ (L s:List Int),v∈L→(∀ u∈L,In s (4*j+u)∧In s (4*b+rd p u))→rd (Qb j b p L s) (4*j+v)=rd (Qb j b p L s) (4*b+rd p v)
  | [],s,h,_=>by cases h
  | u :: us,s,h,hL=>by
    obtain⟨a1,a2⟩:=hL u (List.mem_cons_self ..)
    rcases List.mem_cons.1 h with rfl|h
    · exact zAa us _ (Qs a1) (Qs a2) (zF4 a1 a2)
    · exact zCN us _ h (fun z hz=>by
        obtain⟨b1,b2⟩:=hL z (List.mem_cons_of_mem _ hz)
        exact⟨Qs b1,Qs b2⟩)
end
section
variable {t : Tri} {σ : Type} {step : σ → Nat → Nat → zv → σ} {I Q : σ → Prop}
theorem zDa (hI : ∀ a j f x,Zq t j f x → ¬ x.f0<0→I a→I (step a j f x)) (hQ : ∀ a j f x,Zq t j f x → ¬ x.f0<0→I a→Q a→Q (step a j f x)) (j:Nat) (hj:j<t.length) :
    ∀ (d f:Nat) (a : σ),f+d=t[j].length→I a→I (zEl step j (t[j].drop f) f a)∧((Q a ∨ ∃ f0 x0,f≤f0∧Zq t j f0 x0 ∧ ¬ x0.f0<0 ∧ ∀ a,I a→Q (step a j f0 x0))→Q (zEl step j (t[j].drop f) f a))
  | 0,f,a,hf,hr=>by
    rw[List.drop_eq_nil_of_le (by omega)]
    refine⟨hr,fun h=>?_⟩
    rcases h with h|⟨f0,x0,h1,⟨h2,h3,_⟩,_⟩
    · exact h
    · omega
  | d+1,f,a,hf,hr=>by
    have hlt:f<t[j].length:=by omega
    rw[ypy hlt,zEl]
    by_cases hb:t[j][f].f0<0
    · rw[if_pos hb]
      obtain⟨a1,a2⟩:=zDa hI hQ j hj d (f+1) a (by omega) hr
      refine⟨a1,fun h=>a2 ?_⟩
      rcases h with h|⟨f0,x0,h1,h2,h3,h4⟩
      · exact .inl h
      · refine .inr ⟨f0,x0,?_,h2,h3,h4⟩
        by_cases e:f0=f
        · subst e
          obtain⟨_,_,e2⟩:=h2
          rw[e2]at hb
          exact absurd hb h3
        · omega
    · rw[if_neg hb]
      have hF:Zq t j f t[j][f]:=⟨hj,hlt,rfl⟩
      obtain⟨a1,a2⟩:=zDa hI hQ j hj d (f+1) (step a j f t[j][f]) (by omega) (hI _ _ _ _ hF hb hr)
      refine⟨a1,fun h=>a2 ?_⟩
      rcases h with h|⟨f0,x0,h1,h2,h3,h4⟩
      · exact .inl (hQ _ _ _ _ hF hb hr h)
      · by_cases e:f0=f
        · subst e
          obtain⟨_,_,e2⟩:=h2
          rw[e2]
          exact .inl (h4 a hr)
        · exact .inr ⟨f0,x0,by omega,h2,h3,h4⟩
theorem zDb (hI : ∀ a j f x,Zq t j f x → ¬ x.f0<0→I a→I (step a j f x)) (hQ : ∀ a j f x,Zq t j f x → ¬ x.f0<0→I a→Q a→Q (step a j f x)) :
    ∀ (d j:Nat) (a : σ),j+d=t.length→I a→I (zBg step (t.drop j) j a)∧((Q a ∨ ∃ j0 f0 x0,j≤j0∧Zq t j0 f0 x0 ∧ ¬ x0.f0<0 ∧ ∀ a,I a→Q (step a j0 f0 x0))→Q (zBg step (t.drop j) j a))
  | 0,j,a,hj,hr=>by
    rw[List.drop_eq_nil_of_le (by omega)]
    refine⟨hr,fun h=>?_⟩
    rcases h with h|⟨j0,f0,x0,h1,⟨h2,_,_⟩,_⟩
    · exact h
    · omega
  | d+1,j,a,hj,hr=>by
    have hlt:j<t.length:=by omega
    rw[ypy hlt,zBg]
    have hg:=zDa hI hQ j hlt t[j].length 0 a (by omega) hr
    rw[List.drop_zero]at hg
    obtain⟨a1,a2⟩:=zDb hI hQ d (j+1) _ (by omega) hg.1
    refine⟨a1,fun h=>a2 ?_⟩
    rcases h with h|⟨j0,f0,x0,h1,h2,h3,h4⟩
    · exact .inl (hg.2 (.inl h))
    · by_cases e:j0=j
      · subst e
        exact .inl (hg.2 (.inr ⟨f0,x0,Nat.zero_le _,h2,h3,h4⟩))
      · exact .inr ⟨j0,f0,x0,by omega,h2,h3,h4⟩
theorem zBI {a : σ} (hI : ∀ a j f x,Zq t j f x → ¬ x.f0<0→I a→I (step a j f x)) (ha:I a):I (zBg step t 0 a):=by
  have:=(zDb (Q:=fun _=>True) hI (fun _ _ _ _ _ _ _ _=>trivial) t.length 0 a (by omega) ha).1
  rwa [List.drop_zero]at this
theorem zDc {a : σ} (hI : ∀ a j f x,Zq t j f x → ¬ x.f0<0→I a→I (step a j f x)) (hQ : ∀ a j f x,Zq t j f x → ¬ x.f0<0→I a→Q a→Q (step a j f x)) (ha:I a) {j f:Nat} {x:zv} (hF:Zq t j f x) (hb : ¬ x.f0<0) (h : ∀ a,I a→Q (step a j f x)):Q (zBg step t 0 a):=by
  have:=(zDb hI hQ t.length 0 a (by omega) ha).2 (.inr ⟨j,f,x,Nat.zero_le _,hF,hb,h⟩)
  rwa [List.drop_zero]at this
end
theorem zFZ (cls:List Int) (c:Int) : ∀ (d i k:Nat),i≤k→k<i+d→rd cls (k:Int)=c→0<(Qh cls c d i).length
  | 0,i,k,h1,h2,_=>by omega
  | d+1,i,k,h1,h2,h3=>by
    rw[Qh,List.length_append]
    by_cases e:i=k
    · subst e
      rw[if_pos h3];simp;omega
    · have:=zFZ cls c d (i+1) k (by omega) (by omega) h3
      omega
theorem zDd (m:List Int) : ∀ (i c:Nat),c<(roots m i).length → ∃ j:Nat,j<i∧m.getD j 0=j∧(roots m j).length=c
  | 0,c,h=>by simp [roots]at h
  | i+1,c,h=>by
    rw[roots]at h
    by_cases e:m.getD i 0=(i:Int)
    · rw[if_pos e,List.length_append,List.length_singleton]at h
      by_cases hc:c<(roots m i).length
      · obtain⟨j,h1,h2⟩:=zDd m i c hc
        exact⟨j,by omega,h2⟩
      · exact⟨i,by omega,e,by omega⟩
    · rw[if_neg e]at h
      obtain⟨j,h1,h2⟩:=zDd m i c h
      exact⟨j,by omega,h2⟩
section
variable {t : Tri}
theorem zC2 (h:ZG t=true) {k:Nat} (hk:k<4*t.length) : ∃ j:Nat,(zAN t).v.getD k 0=(j:Int)∧j≤k∧(zAN t).v.getD j 0=(j:Int)∧rd (ZW t) (k:Int)=((roots (zAN t).v j).length:Int):=by
  obtain⟨⟨o1,_⟩,hw,_⟩:=Jt h
  obtain⟨q0,q1,q2⟩:=hw k (by omega)
  obtain⟨j,hj⟩:=Int.eq_ofNat_of_zero_le q0
  rw[hj]at q1 q2
  rw[yny]at q2
  refine⟨j,hj,by omega,q2,?_⟩
  have hlt:k<(zAN t).v.length:=by omega
  have e:rd (ZW t) (k:Int)=zG7 (zAN t).v ((zAN t).v.getD k 0):=by
    unfold ZW
    rw[zBx hw,JZ]
    simp [List.getD_eq_getElem?_getD,hlt]
  rw[e,hj]
  unfold zG7
  rw[yny]
theorem zIu (h:ZG t=true) {k:Nat} (hk:k<4*t.length):0≤rd (ZW t) (k:Int)∧rd (ZW t) (k:Int)≤zEL t-1:=by
  have o1:=(Jt h).1.1
  obtain⟨j,h1,h2,h3,h4⟩:=zC2 h hk
  have k1:=zBU (zAN t).v (j+1) ((zAN t).v.length-(j+1))
  rw[show j+1+((zAN t).v.length-(j+1))=(zAN t).v.length by omega,roots,if_pos h3,List.length_append,List.length_singleton]at k1
  unfold zEL
  omega
theorem zHy (h:ZG t=true) {c:Int} (h0:0≤c) (h1:c≤zEL t-1) : ∃ k:Nat,k<4*t.length∧rd (ZW t) (k:Int)=c:=by
  have o1:=(Jt h).1.1
  obtain⟨n,rfl⟩:=Int.eq_ofNat_of_zero_le h0
  unfold zEL at h1
  obtain⟨j,h2,h3,h4⟩:=zDd (zAN t).v (zAN t).v.length n (by omega)
  refine⟨j,by omega,?_⟩
  obtain⟨i,k1,k2,k3,k4⟩:=zC2 h (k:=j) (by omega)
  have e:i=j:=by
    have:((i:Nat):Int)=(j:Int):=k1.symm.trans h3
    omega
  subst e;rw[k4,h4]
theorem zEP (h:ZG t=true) (c:Int):(Qh (ZW t) c (4*t.length) 0).length=0 ↔ ¬ (0≤c∧c≤zEL t-1):=by
  constructor
  · rintro h0 ⟨h1,h2⟩
    obtain⟨k,h3,h4⟩:=zHy h h1 h2
    have:=zFZ (ZW t) c (4*t.length) 0 k (by omega) (by omega) h4
    omega
  · intro hn
    cases hc:Qh (ZW t) c (4*t.length) 0 with
    | nil=>rfl
    | cons x xs=>
      exfalso
      obtain⟨k,_,h2,_,h4⟩:=zBz (ZW t) c (4*t.length) 0 x (by rw[hc];exact List.mem_cons_self ..)
      have:=zIu h (k:=k) (by omega)
      rw[h4]at this
      exact hn this
end
theorem zFa (cls:List Int) (c:Int) (e:Nat) : ∀ (d i:Nat),Qh cls c (d+e) i=Qh cls c d i++Qh cls c e (i+d)
  | 0,i=>by rw[Nat.zero_add,Qh,Nat.add_zero];rfl
  | d+1,i=>by
    have h:=zFa cls c e d (i+1)
    rw[Nat.succ_add,Qh,Qh,h,List.append_assoc]
    congr 3
    omega
section
variable {t : Tri}
theorem zAb (h:ZG t=true) (c:Int) (B C:List (List Int)) {r:List (List Int)} {a:Nat} (ha:a<t.length) : ∀ (d x:Nat) (acc:List (List Int)),x+d=4→acc.length≤4*a+x →
    (∀ acc' : List (List Int),acc'.length≤4*(a+1)→acc' = acc++Qh (ZW t) c d (4*a+x)→Ev (fun k=>zt.l0 k c acc' ((a+1:Nat):Int) (Qm 4 t.length (ZW t)) B C) r) →
    Ev (fun k=>zt.l1 k c acc (a:Int) (x:Int) (Qm 4 t.length (ZW t)) B C) r
  | 0,x,acc,hx,hv,hr=>by
    have h8:=(qt h).1
    refine qW (fun k=>by rw[zt.l1,if_neg (by omega),Zc (by omega)]) ?_
    exact hr acc (by omega) (by rw[Qh,List.append_nil])
  | d+1,x,acc,hx,hv,hr=>by
    have h8:=(qt h).1
    obtain⟨e1,e2⟩:=zIt h ha (x:=x) (by omega)
    have hcl:=JT 4 t.length (ZW t)
    rw[Qh]at hr
    have ed:(4*a+x)/4=a:=by omega
    have em:(4*a+x)%4=x:=by omega
    rw[ed,em]at hr
    clear ed em;by_cases e:rd (ZW t) ((4*a+x:Nat):Int)=c
    · rw[if_pos e]at hr
      refine qW (fun k=>by rw[zt.l1,if_pos (by omega),if_pos (by omega),if_pos (by omega),if_pos (by omega),if_pos (by omega),e1,if_pos e,if_pos (by omega),Zc (by omega)]) ?_
      refine zAb h c B C ha d (x+1) _ (by omega) (by simp;omega) (fun acc' h1 h2=>hr acc' h1 ?_)
      rw[h2,List.append_assoc];rfl
    · rw[if_neg e,List.nil_append]at hr
      refine qW (fun k=>by rw[zt.l1,if_pos (by omega),if_pos (by omega),if_pos (by omega),if_pos (by omega),if_pos (by omega),e1,if_neg e,Zc (by omega)]) ?_
      exact zAb h c B C ha d (x+1) acc (by omega) (by omega) hr
theorem zBp (h:ZG t=true) (c:Int) (B C:List (List Int)) : ∀ (d a:Nat) (acc:List (List Int)),a+d=t.length→acc.length≤4*a→Ev (fun k=>zt.l0 k c acc (a:Int) (Qm 4 t.length (ZW t)) B C) (acc++Qh (ZW t) c (4*d) (4*a))
  | 0,a,acc,ha,hv=>by
    have hcl:=JT 4 t.length (ZW t)
    refine qW (fun k=>by rw[zt.l0,if_neg (by omega)]) ?_
    rw[Qh,List.append_nil];exact Ev.now _
  | d+1,a,acc,ha,hv=>by
    have hcl:=JT 4 t.length (ZW t)
    refine qW (fun k=>by rw[zt.l0,if_pos (by omega)]) ?_
    refine zAb h c B C (by omega) 4 0 acc (by omega) (by omega) (fun acc' h1 h2=>?_)
    have:=zBp h c B C d (a+1) acc' (by omega) h1
    have e4:4*(d+1)=4+4*d:=by omega
    rw[e4,zFa,← List.append_assoc]
    rw[h2]at this ⊢
    exact this
theorem zEQ (h:ZG t=true) (c:Int):Ev (fun k=>zt.f k t c) (Qh (ZW t) c (4*t.length) 0):=by
  refine Ev.bind (zDW h) ?_
  have:=zBp h c (Qm 6 t.length (zDG (zAN t).e)) (Qm 4 t.length (zDG (zAN t).f)) t.length 0 [] (by omega) (by simp)
  rw[List.nil_append]at this
  exact this
def zGA (t:Tri) (c:Int):List (List Int) × Int:=if zBX t c=0 then(Qh (ZW t) c (4*t.length) 0,0)else([],zBX t c)
theorem zGB {c:Int} (h:zBX t c=0):ZG t=true∧0≤c∧c≤zEL t-1:=by
  unfold zBX at h
  cases ht:ZG t with
  | false=>rw[ht]at h;simp at h
  | true=>
    rw[ht,if_pos rfl]at h
    by_cases hc:0≤c∧c≤zEL t-1
    · exact⟨rfl,hc⟩
    · rw[if_neg hc]at h;simp at h
theorem zBJ (t:Tri) (c:Int):Ev (fun k=>Zu.f k t c) (zGA t c):=by
  refine Ev.bind (zDT t) ?_
  by_cases ht:ZG t=true
  · have hn:=zEP ht c
    refine ZJ ht (Ev.bind (zEQ ht c) ?_)
    by_cases hc:0≤c∧c≤zEL t-1
    · have hv:zBX t c=0:=by unfold zBX;rw[if_pos ht,if_pos hc]
      have hp : ¬ (Qh (ZW t) c (4*t.length) 0).length=0:=fun e=>hn.1 e hc
      unfold zGA
      rw[if_pos hv]
      exact Qi (fun e=>hp (by omega)) (Ev.now _)
    · have hv:zBX t c=2:=by unfold zBX;rw[if_pos ht,if_neg hc]
      have hp:=hn.2 hc
      unfold zGA
      rw[hv,if_neg (show ¬ (2:Int)=0 by decide)]
      exact ZJ (by omega) (Ev.now _)
  · have hv:zBX t c=1:=by unfold zBX;rw[if_neg ht]
    unfold zGA
    rw[hv,if_neg (show ¬ (1:Int)=0 by decide)]
    exact Qi ht (Ev.now _)
end
section
variable {t : Tri}
theorem fc_of {j f:Nat} {x:zv} (hF:Zq t j f x):zI (zE t (j:Int)) (f:Int)=x:=by
  obtain⟨h1,h2,h3⟩:=hF
  rw[Qr t j h1,zAh _ f h2];exact h3
theorem JU (h:ZG t=true) {j f:Nat} {x:zv} (hF:Zq t j f x) (hb : ¬ x.f0<0):LeR (16*t.length) (j:Int) (f:Int) x.f0 (qP x.f1):=by
  obtain⟨a1,a2,a3,a4,a5,a6⟩:=JE h hF hb
  intro v w aa ab ad ae
  have p1:=Zg a5 a6 aa ab
  have p2:=Zg a5 a6 ad ae
  exact⟨⟨by omega,by omega⟩,by omega,by omega⟩
def zHz (n:Nat) (s:List Int × List Int):Prop:=s.1.length=n∧s.2.length=n
theorem JX {n:Nat} {s:List Int × List Int} (h:zHz n s) (j f:Nat) (x:zv):zHz n (Jz s j f x):=by
  unfold Jz zHz
  rw[(JI _ _ _ _ _ _).1,(JI _ _ _ _ _ _).2];exact h
theorem zER (t:Tri):zHz (16*t.length) (JB t):=zBI (fun _ j f x _ _ h=>JX h j f x) ⟨qU _ _,qU _ _⟩
theorem zDe {f v:Int} (hv:sm v) (hne:v≠f):v∈Qt [f]:=by
  have:v ∈ [0,1,2,3]:=by have:=hv.1;have:=hv.2;simp only [List.mem_cons,List.not_mem_nil,or_false];omega
  exact List.mem_filter.2 ⟨this,by simpa using hne⟩
theorem zHH {f v w:Int} (hw:sm w) (h1:w≠f) (h2:w≠v):w∈Qt [f,v]:=by
  have:w ∈ [0,1,2,3]:=by have:=hw.1;have:=hw.2;simp only [List.mem_cons,List.not_mem_nil,or_false];omega
  exact List.mem_filter.2 ⟨this,by simp [h1,h2]⟩
theorem zIv (h:ZG t=true) {j f:Nat} {x:zv} (hF:Zq t j f x) (hb : ¬ x.f0<0) {v w:Int} (hv:sm v) (hvf:v≠(f:Int)) (hw:w∈Qt [(f:Int),v]):rd (JB t).1 (16*(j:Int)+4*v+w)=rd (JB t).1 (16*x.f0+4*rd (qP x.f1) v+rd (qP x.f1) w):=by
  have hR:=JU h hF hb
  have hsw:=(Qy hw).1
  have hr:=hR v w hv.1 hv.2 hsw.1 hsw.2
  refine zDc (t:=t) (step:=Jz) (I:=zHz (16*t.length)) (Q:=fun s=>rd s.1 (16*(j:Int)+4*v+w)=rd s.1 (16*x.f0+4*rd (qP x.f1) v+rd (qP x.f1) w)) (fun _ j f x _ _ h=>JX h j f x) (fun a j2 f2 x2 _ _ hI hq=>?_) ⟨qU _ _,qU _ _⟩ hF hb (fun a hI=>?_)
  · exact zAD _ _ (by unfold In;rw[hI.1];exact hr.1) (by unfold In;rw[hI.1];exact hr.2) hq
  · exact zBn hR hw _ _ hI.1 (zDe hv hvf) (fun u hu=>(QX hu).1)
theorem zIw (h:ZG t=true) {j f:Nat} {x:zv} (hF:Zq t j f x) (hb : ¬ x.f0<0) {v:Int} (hv:sm v) (hvf:v≠(f:Int)):rd (JB t).2 (16*(j:Int)+4*v+(f:Int))=rd (JB t).2 (16*x.f0+4*rd (qP x.f1) v+rd (qP x.f1) (f:Int)):=by
  have hR:=JU h hF hb
  have aa:sm (f:Int):=⟨by omega,by have:=(JE h hF hb).2.1;omega⟩
  have hr:=hR v (f:Int) hv.1 hv.2 aa.1 aa.2
  refine zDc (t:=t) (step:=Jz) (I:=zHz (16*t.length)) (Q:=fun s=>rd s.2 (16*(j:Int)+4*v+(f:Int))=rd s.2 (16*x.f0+4*rd (qP x.f1) v+rd (qP x.f1) (f:Int))) (fun _ j f x _ _ h=>JX h j f x) (fun a j2 f2 x2 _ _ hI hq=>?_) ⟨qU _ _,qU _ _⟩ hF hb (fun a hI=>?_)
  · exact zAE _ _ (by unfold In;rw[hI.2];exact hr.1) (by unfold In;rw[hI.2];exact hr.2) hq
  · exact zBo aa hR _ _ hI.2 (zDe hv hvf) (fun u hu=>(QX hu).1)
theorem zIx (h:ZG t=true) {α:Type} {g:Int → α} (hg : ∀ (j f:Nat) (x:zv),Zq t j f x → ¬ x.f0<0 → ∀ v,sm v→v≠(f:Int) → ∀ w∈Qt [(f:Int),v],g (16*(j:Int)+4*v+w)=g (16*x.f0+4*rd (qP x.f1) v+rd (qP x.f1) w)):Snd g (JB t).1:=by
  refine(zBI (t:=t) (step:=Jz) (I:=fun s=>zHz (16*t.length) s∧Snd g s.1) (fun a j f x hF hb hI=>⟨JX hI.1 j f x,?_⟩) ⟨⟨qU _ _,qU _ _⟩,zEO _⟩).2
  exact zBl (JU h hF hb) _ _ hI.1.1 (fun v hv=>⟨(QX hv).1,hg j f x hF hb v (QX hv).1 (QX hv).2⟩) hI.2
theorem zIy (h:ZG t=true) {α:Type} {g:Int → α} (hg : ∀ (j f:Nat) (x:zv),Zq t j f x → ¬ x.f0<0 → ∀ v,sm v→v≠(f:Int)→g (16*(j:Int)+4*v+(f:Int))=g (16*x.f0+4*rd (qP x.f1) v+rd (qP x.f1) (f:Int))):Snd g (JB t).2:=by
  refine(zBI (t:=t) (step:=Jz) (I:=fun s=>zHz (16*t.length) s∧Snd g s.2) (fun a j f x hF hb hI=>⟨JX hI.1 j f x,?_⟩) ⟨⟨qU _ _,qU _ _⟩,zEO _⟩).2
  have aa:sm (f:Int):=⟨by omega,by have:=(JE h hF hb).2.1;omega⟩
  exact zBm aa (JU h hF hb) _ _ hI.1.2 (fun v hv=>⟨(QX hv).1,hg j f x hF hb v (QX hv).1 (QX hv).2⟩) hI.2
theorem zBY (h:ZG t=true) {j f:Nat} {x:zv} (hF:Zq t j f x) (hb : ¬ x.f0<0) {v:Int} (hv:sm v) (hvf:v≠(f:Int)):rd (ZW t) (4*(j:Int)+v)=rd (ZW t) (4*x.f0+rd (qP x.f1) v):=by
  obtain⟨a1,a2,a3,a4,a5,a6⟩:=JE h hF hb
  have p1:=Zg a5 a6 hv.1 hv.2
  have af:=hv.1
  have ag:=hv.2
  have hlen : ∀ a:List Int,a.length=4*t.length → ∀ u,sm u→In a (4*(j:Int)+u)∧In a (4*x.f0+rd (qP x.f1) u):=fun a ha u hu=>by
    have q:=Zg a5 a6 hu.1 hu.2
    have h0:=hu.1
    have h1:=hu.2
    unfold In;rw[ha]
    exact⟨⟨by omega,by omega⟩,by omega,by omega⟩
  have hm:rd (zA8 t) (4*(j:Int)+v)=rd (zA8 t) (4*x.f0+rd (qP x.f1) v):=by
    refine zDc (t:=t) (step:=zAL) (I:=fun s=>s.length=4*t.length) (Q:=fun s=>rd s (4*(j:Int)+v)=rd s (4*x.f0+rd (qP x.f1) v)) (fun a j f x _ _ hI=>by unfold zAL;rw[JH];exact hI) (fun a j2 f2 x2 _ _ hI hq=>?_) (qU _ _) hF hb (fun a hI=>?_)
    · exact zAa _ _ (hlen a hI v hv).1 (hlen a hI v hv).2 hq
    · exact zCN _ _ (zDe hv hvf) (fun u hu=>hlen a hI u (QX hu).1)
  obtain⟨hk,hkl,_⟩:=zH5 h
  obtain⟨x1,aa⟩:=Int.eq_ofNat_of_zero_le (show 0≤4*(j:Int)+v by omega)
  obtain⟨x2,ab⟩:=Int.eq_ofNat_of_zero_le (show 0≤4*x.f0+rd (qP x.f1) v by omega)
  rw[aa,ab]at hm ⊢
  rw[JZ,JZ]at hm
  have ad:x1<(zA8 t).length:=by omega
  have ae:x2<(zA8 t).length:=by omega
  have hs:=(hk.2 x1 x2 ad ae).1 hm
  have ah:(zAN t).v.length=(zA8 t).length:=hk.1.symm
  unfold ZW
  rw[zBx (Jt h).2.1,JZ,JZ,zA6 (zG7 (zAN t).v) (zAN t).v x1 0 0 (by omega),zA6 (zG7 (zAN t).v) (zAN t).v x2 0 0 (by omega),hs]
end
section
variable {α : Type} {g : Int → α}
theorem zAc {b v f to_ pm z:Int} {k:Nat} {x:List Int} (h:In x z):In (zCV b v f to_ pm k x) z:=⟨h.1,by rw[zAA];exact h.2⟩
theorem zFb {b v f to_ pm:Int} {x:List Int} (h : ∀ w:Nat,w<4→(w:Int)≠v→(w:Int)≠f→In x (b+(w:Int))∧In x (to_+rd (qP pm) (w:Int))∧g (b+(w:Int))=g (to_+rd (qP pm) (w:Int))) (hx:Snd g x) : ∀ k:Nat,k≤4→Snd g (zCV b v f to_ pm k x)
  | 0,_=>hx
  | k+1,hk=>by
    have ih:=zFb h hx k (by omega)
    unfold zCV
    by_cases e1:(k:Int)=v
    · rw[if_pos e1];exact ih
    · rw[if_neg e1]
      by_cases e2:(k:Int)=f
      · rw[if_pos e2];exact ih
      · rw[if_neg e2]
        obtain⟨a1,a2,a3⟩:=h k (by omega) e1 e2
        exact zHD ih (zAc a1) (zAc a2) a3
theorem zCO {b v f to_ pm y z:Int} {x:List Int} (hy:In x y) (hz:In x z) (e:rd x y=rd x z) : ∀ k:Nat,rd (zCV b v f to_ pm k x) y=rd (zCV b v f to_ pm k x) z
  | 0=>e
  | k+1=>by
    have ih:=zCO (b:=b) (v:=v) (f:=f) (to_:=to_) (pm:=pm) hy hz e k
    unfold zCV
    split
    · exact ih
    · split
      · exact ih
      · exact zC1 (zAc hy) (zAc hz) ih
theorem zFc {b v f to_ pm:Int} {x:List Int} {w:Nat} (e1:(w:Int)≠v) (e2:(w:Int)≠f) (h1:In x (b+(w:Int))) (h2:In x (to_+rd (qP pm) (w:Int))) : ∀ k:Nat,w<k→rd (zCV b v f to_ pm k x) (b+(w:Int))=rd (zCV b v f to_ pm k x) (to_+rd (qP pm) (w:Int))
  | 0,h=>by omega
  | k+1,h=>by
    unfold zCV
    by_cases e:w=k
    · subst e
      rw[if_neg e1,if_neg e2]
      exact zHE (zAc h1) (zAc h2)
    · have ih:=zFc e1 e2 h1 h2 k (by omega)
      split
      · exact ih
      · split
        · exact ih
        · exact zC1 (zAc h1) (zAc h2) ih
end
section
variable {t : Tri} {α : Type} {g : Int → α}
theorem zCP (h:ZG t=true) {j f:Nat} (hj:j<t.length) (hf:f<4):Zq t j f (zI (zE t (j:Int)) (f:Int)):=by
  obtain⟨hf',e⟩:=zDV h hj hf
  exact⟨hj,hf',e.symm⟩
theorem zES (h:ZG t=true) {j:Nat} (hj:j<t.length) {v:Int} (hv:sm v) (hg : ∀ (f:Nat) (x:zv),Zq t j f x → ¬ x.f0<0→v≠(f:Int) → ∀ w∈Qt [(f:Int),v],g (16*(j:Int)+4*v+w)=g (16*x.f0+4*rd (qP x.f1) v+rd (qP x.f1) w)) {M:Nat} {q:zBj} (hq:zFS (16*t.length) M q) (hs:Snd g q.p) : ∀ f:Nat,f≤4→Snd g (Ql t (j:Int) v f q).p
  | 0,_=>hs
  | f+1,hf=>by
    have ih:=zES h hj hv hg hq hs f (by omega)
    have hI:=zAB (t:=t) (a:=(j:Int)) (v:=v) (by omega) (by omega) hv.1 hv.2 hq f (by omega)
    unfold Ql
    by_cases e:(f:Int)=v
    · rw[if_pos e];exact ih
    · rw[if_neg e]
      have hF:=zCP h hj (show f<4 by omega)
      unfold zE8
      by_cases hb:(zI (zE t (j:Int)) (f:Int)).f0<0
      · rw[if_pos hb];exact ih
      · rw[if_neg hb]
        have hR:=JU h hF hb
        refine zFb (fun w hw w1 w2=>?_) ih 4 (yry _)
        have hr:=hR v (w:Int) hv.1 hv.2 (by omega) (by omega)
        exact⟨by unfold In;rw[hI.lp];exact hr.1,by unfold In;rw[hI.lp];exact hr.2,hg f _ hF hb (fun k=>e k.symm) (w:Int) (zHH ⟨by omega,by omega⟩ w2 w1)⟩
theorem zET (h:ZG t=true) {j:Nat} (hj:j<t.length) {v:Int} (hv:sm v) (hg : ∀ (f:Nat) (x:zv),Zq t j f x → ¬ x.f0<0→v≠(f:Int)→g (16*(j:Int)+4*v+(f:Int))=g (16*x.f0+4*rd (qP x.f1) v+rd (qP x.f1) (f:Int))) {M:Nat} {q:zBj} (hq:zFS (16*t.length) M q) (hs:Snd g q.s) : ∀ f:Nat,f≤4→Snd g (Ql t (j:Int) v f q).s
  | 0,_=>hs
  | f+1,hf=>by
    have ih:=zET h hj hv hg hq hs f (by omega)
    have hI:=zAB (t:=t) (a:=(j:Int)) (v:=v) (by omega) (by omega) hv.1 hv.2 hq f (by omega)
    unfold Ql
    by_cases e:(f:Int)=v
    · rw[if_pos e];exact ih
    · rw[if_neg e]
      have hF:=zCP h hj (show f<4 by omega)
      unfold zE8
      by_cases hb:(zI (zE t (j:Int)) (f:Int)).f0<0
      · rw[if_pos hb];exact ih
      · rw[if_neg hb]
        have hr:=JU h hF hb v (f:Int) hv.1 hv.2 (by omega) (by omega)
        exact zHD ih (by unfold In;rw[hI.ls];exact hr.1) (by unfold In;rw[hI.ls];exact hr.2) (hg f _ hF hb (fun k=>e k.symm))
theorem zCQ (h:ZG t=true) {j:Nat} (hj:j<t.length) {v:Int} (hv:sm v) {M:Nat} {q:zBj} (hq:zFS (16*t.length) M q) {y z:Int} (hy:0≤y∧y<((16*t.length:Nat):Int)) (hz:0≤z∧z<((16*t.length:Nat):Int)) : ∀ f:Nat,f≤4→(rd q.p y=rd q.p z→rd (Ql t (j:Int) v f q).p y=rd (Ql t (j:Int) v f q).p z)∧(rd q.s y=rd q.s z→rd (Ql t (j:Int) v f q).s y=rd (Ql t (j:Int) v f q).s z)
  | 0,_=>⟨fun e=>e,fun e=>e⟩
  | f+1,hf=>by
    obtain⟨aa,ab⟩:=zCQ h hj hv hq hy hz f (by omega)
    have hI:=zAB (t:=t) (a:=(j:Int)) (v:=v) (by omega) (by omega) hv.1 hv.2 hq f (by omega)
    have p1:In (Ql t (j:Int) v f q).p y:=by unfold In;rw[hI.lp];exact hy
    have p2:In (Ql t (j:Int) v f q).p z:=by unfold In;rw[hI.lp];exact hz
    have s1:In (Ql t (j:Int) v f q).s y:=by unfold In;rw[hI.ls];exact hy
    have s2:In (Ql t (j:Int) v f q).s z:=by unfold In;rw[hI.ls];exact hz
    unfold Ql
    by_cases e:(f:Int)=v
    · rw[if_pos e];exact⟨aa,ab⟩
    · rw[if_neg e]
      unfold zE8
      by_cases hb:(zI (zE t (j:Int)) (f:Int)).f0<0
      · rw[if_pos hb];exact⟨aa,ab⟩
      · rw[if_neg hb]
        exact⟨fun k=>zCO p1 p2 (aa k) 4,fun k=>zC1 s1 s2 (ab k)⟩
theorem zFd (h:ZG t=true) {j:Nat} (hj:j<t.length) {v:Int} (hv:sm v) {M:Nat} {q:zBj} (hq:zFS (16*t.length) M q) {f0:Nat} {x:zv} (hF:Zq t j f0 x) (ab : ¬ x.f0<0) (hvf:v≠(f0:Int)) : ∀ f:Nat,f≤4→f0<f →
    (∀ w∈Qt [(f0:Int),v],rd (Ql t (j:Int) v f q).p (16*(j:Int)+4*v+w)=rd (Ql t (j:Int) v f q).p (16*x.f0+4*rd (qP x.f1) v+rd (qP x.f1) w))∧rd (Ql t (j:Int) v f q).s (16*(j:Int)+4*v+(f0:Int))=rd (Ql t (j:Int) v f q).s (16*x.f0+4*rd (qP x.f1) v+rd (qP x.f1) (f0:Int))
  | 0,_,hlt=>by omega
  | f+1,hf,hlt=>by
    have hR:=JU h hF ab
    have hI:=zAB (t:=t) (a:=(j:Int)) (v:=v) (by omega) (by omega) hv.1 hv.2 hq f (by omega)
    have af:sm (f0:Int):=⟨by omega,by omega⟩
    have inP : ∀ z,(0≤z∧z<((16*t.length:Nat):Int))→In (Ql t (j:Int) v f q).p z:=fun z hz=>by unfold In;rw[hI.lp];exact hz
    have inS : ∀ z,(0≤z∧z<((16*t.length:Nat):Int))→In (Ql t (j:Int) v f q).s z:=fun z hz=>by unfold In;rw[hI.ls];exact hz
    have hrf:=hR v (f0:Int) hv.1 hv.2 af.1 af.2
    unfold Ql
    by_cases e0:f0=f
    · subst e0
      rw[if_neg (fun k=>hvf k.symm),fc_of hF]
      unfold zE8
      rw[if_neg ab]
      refine⟨fun w hw=>?_,zHE (inS _ hrf.1) (inS _ hrf.2)⟩
      obtain⟨aa,ag,ah⟩:=Qy hw
      have hr:=hR v w hv.1 hv.2 aa.1 aa.2
      obtain⟨wn,rfl⟩:=Int.eq_ofNat_of_zero_le aa.1
      exact zFc ah ag (inP _ hr.1) (inP _ hr.2) 4 (by have:=aa.2;omega)
    · obtain⟨ad,ae⟩:=zFd h hj hv hq hF ab hvf f (by omega) (by omega)
      by_cases e:(f:Int)=v
      · rw[if_pos e];exact⟨ad,ae⟩
      · rw[if_neg e]
        unfold zE8
        by_cases hb:(zI (zE t (j:Int)) (f:Int)).f0<0
        · rw[if_pos hb];exact⟨ad,ae⟩
        · rw[if_neg hb]
          refine⟨fun w hw=>?_,zC1 (inS _ hrf.1) (inS _ hrf.2) ae⟩
          have aa:=(Qy hw).1
          have hr:=hR v w hv.1 hv.2 aa.1 aa.2
          exact zCO (inP _ hr.1) (inP _ hr.2) (ad w hw) 4
theorem zAO (b v f:Int) (x:zv) (q:zBj):(zE8 b v f x q).u=q.u ++ [b+f]:=by unfold zE8;split <;> rfl
theorem numF_u (t:Tri) (a:Int) {v:Int} (hv:sm v) (q:zBj):(Ql t a v 4 q).u=q.u++(Qt [v]).map (fun w=>16*a+4*v+w):=by
  have h0:=hv.1
  have h1:=hv.2
  obtain rfl|rfl|rfl|rfl:v=0∨v=1∨v=2∨v=3:=by omega
  · rw[Ql,if_neg (by decide),zAO,Ql,if_neg (by decide),zAO,Ql,if_neg (by decide),zAO,Ql,if_pos (by decide),Ql,show Qt [0] = [1,2,3]from by decide]
    simp
  · rw[Ql,if_neg (by decide),zAO,Ql,if_neg (by decide),zAO,Ql,if_pos (by decide),Ql,if_neg (by decide),zAO,Ql,show Qt [1] = [0,2,3]from by decide]
    simp
  · rw[Ql,if_neg (by decide),zAO,Ql,if_pos (by decide),Ql,if_neg (by decide),zAO,Ql,if_neg (by decide),zAO,Ql,show Qt [2] = [0,1,3]from by decide]
    simp
  · rw[Ql,if_pos (by decide),Ql,if_neg (by decide),zAO,Ql,if_neg (by decide),zAO,Ql,if_neg (by decide),zAO,Ql,show Qt [3] = [0,1,2]from by decide]
    simp
theorem zFe (cls:List Int) (c:Int) : ∀ (d i k:Nat),i≤k→k<i+d→rd cls (k:Int)=c → [((k/4:Nat):Int),((k%4:Nat):Int)]∈Qh cls c d i
  | 0,i,k,h1,h2,_=>by omega
  | d+1,i,k,h1,h2,h3=>by
    rw[Qh]
    by_cases e:i=k
    · subst e
      rw[if_pos h3];simp
    · exact List.mem_append_right _ (zFe cls c d (i+1) k (by omega) (by omega) h3)
def zIR (cs:List (List Int)):List Int:=cs.flatMap fun c=>(Qt [rd c 1]).map fun w=>16*rd c 0+4*rd c 1+w
theorem zIS {cs:List (List Int)} (hc : ∀ c∈cs,c.length=2∧0≤rd c 0∧rd c 0<(t.length:Int)∧0≤rd c 1∧rd c 1≤3) (q:zBj) : ∀ i:Nat,i≤cs.length→(zAn t cs i q).u=q.u++zIR (cs.take i)
  | 0,_=>by simp [zAn,zIR]
  | i+1,hi=>by
    have e:qQ cs (i:Int)=cs[i]:=by simp [qQ,show i<cs.length by omega]
    have h3:=hc cs[i] (yoy _)
    rw[zAn,e,numF_u t _ ⟨h3.2.2.2.1,h3.2.2.2.2⟩,zIS hc q i (by omega),List.take_succ_eq_append_getElem (by omega),List.append_assoc]
    unfold zIR
    rw[List.flatMap_append]
    simp
theorem zDf (h:ZG t=true) {cs:List (List Int)} (hc : ∀ c∈cs,c.length=2∧0≤rd c 0∧rd c 0<(t.length:Int)∧0≤rd c 1∧rd c 1≤3) {q:zBj} (hq:zFS (16*t.length) 0 q) : ∀ i:Nat,i≤cs.length →
    ((∀ (j f:Nat) (x:zv),Zq t j f x → ¬ x.f0<0 → ∀ v,sm v→v≠(f:Int) → ∀ w∈Qt [(f:Int),v],g (16*(j:Int)+4*v+w)=g (16*x.f0+4*rd (qP x.f1) v+rd (qP x.f1) w))→Snd g q.p→Snd g (zAn t cs i q).p) ∧
    ((∀ (j f:Nat) (x:zv),Zq t j f x → ¬ x.f0<0 → ∀ v,sm v→v≠(f:Int)→g (16*(j:Int)+4*v+(f:Int))=g (16*x.f0+4*rd (qP x.f1) v+rd (qP x.f1) (f:Int)))→Snd g q.s→Snd g (zAn t cs i q).s)
  | 0,_=>⟨fun _ e=>e,fun _ e=>e⟩
  | i+1,hi=>by
    obtain⟨aa,ab⟩:=zDf h hc hq i (by omega)
    have hI:=zBD hc hq i (by omega)
    have e:qQ cs (i:Int)=cs[i]:=by simp [qQ,show i<cs.length by omega]
    obtain⟨_,h0,h1,h2,h3⟩:=hc cs[i] (yoy _)
    obtain⟨j,hj⟩:=Int.eq_ofNat_of_zero_le h0
    have hjl:j<t.length:=by omega
    rw[zAn,e,hj]
    exact⟨fun hg hs=>zES h hjl ⟨h2,h3⟩ (fun f x hF hb hvf=>hg j f x hF hb _ ⟨h2,h3⟩ hvf) hI (aa hg hs) 4 (yry _),fun hg hs=>zET h hjl ⟨h2,h3⟩ (fun f x hF hb hvf=>hg j f x hF hb _ ⟨h2,h3⟩ hvf) hI (ab hg hs) 4 (yry _)⟩
theorem zDg (h:ZG t=true) {cs:List (List Int)} (hc : ∀ c∈cs,c.length=2∧0≤rd c 0∧rd c 0<(t.length:Int)∧0≤rd c 1∧rd c 1≤3) {q:zBj} (hq:zFS (16*t.length) 0 q) {i0:Nat} (ad:i0<cs.length) {j f:Nat} {v:Int} {x:zv} (e0:rd cs[i0] 0=(j:Int)) (e1:rd cs[i0] 1=v) (hF:Zq t j f x) (hb : ¬ x.f0<0) (hvf:v≠(f:Int)) (aa:f<4) : ∀ i:Nat,i≤cs.length→i0<i →
    (∀ w∈Qt [(f:Int),v],rd (zAn t cs i q).p (16*(j:Int)+4*v+w)=rd (zAn t cs i q).p (16*x.f0+4*rd (qP x.f1) v+rd (qP x.f1) w))∧rd (zAn t cs i q).s (16*(j:Int)+4*v+(f:Int))=rd (zAn t cs i q).s (16*x.f0+4*rd (qP x.f1) v+rd (qP x.f1) (f:Int))
  | 0,_,hlt=>by omega
  | i+1,hi,hlt=>by
    have hI:=zBD hc hq i (by omega)
    have e:qQ cs (i:Int)=cs[i]:=by simp [qQ,show i<cs.length by omega]
    obtain⟨_,h0,h1,h2,h3⟩:=hc cs[i] (yoy _)
    obtain⟨j2,ae⟩:=Int.eq_ofNat_of_zero_le h0
    have hjl:j2<t.length:=by omega
    rw[zAn,e]
    by_cases ei:i0=i
    · subst ei
      rw[e0,e1]
      exact zFd h (by have:=hF.1;exact this) ⟨by rw[← e1];exact h2,by rw[← e1];exact h3⟩ hI hF hb hvf 4 (yry _) aa
    · obtain⟨af,ag⟩:=zDg h hc hq ad e0 e1 hF hb hvf aa i (by omega) (by omega)
      have hv:sm v:=by
        obtain⟨_,_,_,g2,g3⟩:=hc cs[i0] (yoy _)
        rw[e1]at g2 g3
        exact⟨g2,g3⟩
      have hR:=JU h hF hb
      rw[ae]
      refine⟨fun w hw=>?_,?_⟩
      · have ab:=(Qy hw).1
        have hr:=hR v w hv.1 hv.2 ab.1 ab.2
        exact(zCQ h hjl ⟨h2,h3⟩ hI hr.1 hr.2 4 (yry _)).1 (af w hw)
      · have hr:=hR v (f:Int) hv.1 hv.2 (by omega) (by omega)
        exact(zCQ h hjl ⟨h2,h3⟩ hI hr.1 hr.2 4 (yry _)).2 ag
end
theorem zI0 {m:List Int} {i j:Nat} (hi:m.getD i 0=i) (hj:m.getD j 0=j) (e:(roots m i).length=(roots m j).length):i=j:=by
  have key : ∀ {i j:Nat},m.getD i 0=i→m.getD j 0=j→i<j→(roots m i).length<(roots m j).length:=fun {i j} hi hj hlt=>by
    obtain⟨hm,hx⟩:=zBH m i hi j hlt
    have:=List.idxOf_lt_length_of_mem hm
    omega
  rcases Nat.lt_trichotomy i j with h|h|h
  · have:=key hi hj h;omega
  · exact h
  · have:=key hj hi h;omega
theorem zCR {α:Type} {g:Int → α} {j b:Int} {p:List Int} : ∀ (L s:List Int),(∀ u∈L,In s (4*j+u)∧In s (4*b+rd p u)∧g (4*j+u)=g (4*b+rd p u))→Snd g s→Snd g (Qb j b p L s)
  | [],_,_,h=>h
  | u :: us,s,hL,h=>by
    obtain⟨a1,a2,a3⟩:=hL u (List.mem_cons_self ..)
    exact zCR us _ (fun v hv=>by
      obtain⟨b1,b2,b3⟩:=hL v (List.mem_cons_of_mem _ hv)
      exact⟨Qs b1,Qs b2,b3⟩) (zF3 h a1 a2 a3)
section
variable {t : Tri}
theorem zHI (h:ZG t=true) {g:Int→Bool} (hg : ∀ (j f:Nat) (x:zv),Zq t j f x → ¬ x.f0<0 → ∀ v,sm v→v≠(f:Int)→g (4*(j:Int)+v)=g (4*x.f0+rd (qP x.f1) v))
    {x y:Nat} (hx:x<4*t.length) (hy:y<4*t.length) (e:rd (ZW t) (x:Int)=rd (ZW t) (y:Int)):g (x:Int)=g (y:Int):=by
  have hs:(zA8 t).length=4*t.length∧Snd g (zA8 t):=by
    refine zBI (t:=t) (step:=zAL) (I:=fun s=>s.length=4*t.length∧Snd g s) (fun s j f x hF hb hI=>?_) ⟨qU _ _,zEO _⟩
    obtain⟨a1,a2,a3,a4,a5,a6⟩:=JE h hF hb
    refine⟨by unfold zAL;rw[JH];exact hI.1,?_⟩
    refine zCR _ _ (fun u hu=>?_) hI.2
    obtain⟨hsm,hne⟩:=QX hu
    have p1:=Zg a5 a6 hsm.1 hsm.2
    have h0:=hsm.1
    have h1:=hsm.2
    unfold In;rw[hI.1]
    exact⟨⟨by omega,by omega⟩,⟨by omega,by omega⟩,hg j f x hF hb u hsm (by simpa using hne)⟩
  obtain⟨hk,hkl,_⟩:=zH5 h
  obtain⟨jx,x1,x2,x3,x4⟩:=zC2 h hx
  obtain⟨jy,y1,y2,y3,y4⟩:=zC2 h hy
  rw[x4,y4]at e
  have ej:=zI0 x3 y3 (by omega)
  have e2:=(hk.2 x y (by omega) (by omega)).2 (by rw[x1,y1,ej])
  refine hs.2 (x:Int) (y:Int) ⟨by omega,by omega⟩ ⟨by omega,by omega⟩ ?_
  rw[JZ,JZ];exact e2
def nb (t:Tri) (x f:Int):Int:=4*(fc t (x/4) f).f0+rd (qP (fc t (x/4) f).f1) (x%4)
def crn (x:Int):List Int := [x/4,x%4]
theorem zI1 (h:ZG t=true) {x f:Int} (ad:0≤x) (ae:x<((4*t.length:Nat):Int)) (aa:0≤f) (ab:f≤3) (hne:f≠x%4) (hb : ¬ (fc t (x/4) f).f0<0) :
    0≤nb t x f∧nb t x f<((4*t.length:Nat):Int)∧rd (ZW t) (nb t x f)=rd (ZW t) x∧crn (nb t x f) = [(fc t (x/4) f).f0,rd (qP (fc t (x/4) f).f1) (x%4)]∧0≤(fc t (x/4) f).f1∧(fc t (x/4) f).f1≤23:=by
  obtain⟨⟨g0,g1⟩,p0,p1⟩:=zFW h (show 0≤x/4 by omega) (by omega) aa ab hb
  have q:=Zg p0 p1 (show 0≤x%4 by omega) (by omega)
  obtain⟨j,hj⟩:=Int.eq_ofNat_of_zero_le (show 0≤x/4 by omega)
  obtain⟨f',rfl⟩:=Int.eq_ofNat_of_zero_le aa
  have hF:=zCP h (j:=j) (f:=f') (by omega) (by omega)
  have hgl:=zBY h hF (by rw[← hj];exact hb) (v:=x%4) ⟨by omega,by omega⟩ (fun e=>hne e.symm)
  rw[← hj]at hgl
  have ex:4*(x/4)+x%4=x:=by omega
  rw[ex]at hgl
  refine⟨?_,?_,hgl.symm,?_,p0,p1⟩
  · unfold nb;omega
  · unfold nb;omega
  · unfold crn nb
    generalize (fc t (x/4) (f' : Int)).f0=a at *
    generalize rd (qP (fc t (x/4) (f' : Int)).f1) (x%4)=b at *
    have e1:(4*a+b)/4=a:=by omega
    have e2:(4*a+b)%4=b:=by omega
    rw[e1,e2]
theorem zI2 {p v:Int} (h0:0≤p) (h1:p≤23) (v0:0≤v) (v1:v≤3):rd (qP (zEm p)) (rd (qP p) v)=v:=by
  obtain⟨m,rfl⟩:=zEB h0 h1
  obtain⟨n,rfl⟩ : ∃ m:Fin 4,v=(m.val:Int):=⟨⟨v.toNat,by omega⟩,by simp;omega⟩
  have key : ∀ (m:Fin 24) (n:Fin 4),rd (qP (zEm (m.val:Int))) (rd (qP (m.val:Int)) (n.val:Int))=(n.val:Int):=by decide +kernel
  exact key m n
theorem zIz (h:ZG t=true) {x f:Int} (ad:0≤x) (ae:x<((4*t.length:Nat):Int)) (aa:0≤f) (ab:f≤3) (hne:f≠x%4) (hb : ¬ (fc t (x/4) f).f0<0) :
    ∃ f' : Int,0≤f' ∧ f' ≤ 3∧f' ≠ nb t x f%4 ∧ ¬ (fc t (nb t x f/4) f').f0<0∧nb t (nb t x f) f' = x:=by
  obtain⟨⟨g0,g1⟩,p0,p1⟩:=zFW h (show 0≤x/4 by omega) (by omega) aa ab hb
  obtain⟨_,_,_,hc,_⟩:=zI1 h ad ae aa ab hne hb
  have e1:nb t x f/4=(fc t (x/4) f).f0:=by unfold crn at hc;exact(List.cons.inj hc).1
  have e2:nb t x f%4=rd (qP (fc t (x/4) f).f1) (x%4):=by unfold crn at hc;exact(List.cons.inj (List.cons.inj hc).2).1
  have q:=Zg p0 p1 aa ab
  rcases zAY h (show 0≤x/4 by omega) (by omega) aa ab with ⟨e,_⟩|⟨_,b0,b1,_⟩
  · omega
  refine⟨rd (qP (fc t (x/4) f).f1) f,q.1,q.2,?_,?_,?_⟩
  · rw[e2];exact zEy p0 p1 ⟨aa,ab⟩ ⟨by omega,by omega⟩ hne
  · rw[e1,b0];omega
  · unfold nb
    rw[show(4*(fc t (x/4) f).f0+rd (qP (fc t (x/4) f).f1) (x%4))=nb t x f from rfl,e1,e2,b0,b1,zI2 p0 p1 (by omega) (by omega)]
    omega
end
def oL (v:Int):Nat→Int→List Int
  | 0,_ => []
  | d+1,f=>if f=v then oL v d (f+1)else f :: oL v d (f+1)
theorem oL_oth {v:Int} (h0:0≤v) (h1:v≤3):Qt [v]=oL v 4 0:=by
  have:v=0∨v=1∨v=2∨v=3:=by omega
  rcases this with rfl|rfl|rfl|rfl <;> decide
theorem zCy (cls:List Int) (c:Int) : ∀ d i:Nat,0<(Qh cls c d i).length → ∃ a:Nat,i≤a∧a<i+d∧rd cls (a:Int)=c∧(∀ j:Nat,i≤j→j<a→rd cls (j:Int)≠c)∧qQ (Qh cls c d i) 0=crn (a:Int)
  | 0,i,h=>by simp [Qh]at h
  | d+1,i,h=>by
    unfold Qh at h ⊢
    by_cases e:rd cls (i:Int)=c
    · rw[if_pos e]
      refine⟨i,yry _,by omega,e,fun j h1 h2=>by omega,?_⟩
      unfold crn
      show[((i/4:Nat):Int),((i%4:Nat):Int)]=_
      simp
    · rw[if_neg e,List.nil_append]at h ⊢
      obtain⟨a,h1,h2,h3,h4,h5⟩:=zCy cls c d (i+1) h
      refine⟨a,by omega,by omega,h3,fun j ab aa=>?_,h5⟩
      by_cases ej:j=i
      · subst ej;exact e
      · exact h4 j (by omega) aa
structure OrS (t:Tri) (c:Int) (sg qu:List Int):Prop where
  inv:Inv (4*t.length) sg qu
  cl : ∀ y∈qu,rd (ZW t) y=c
  all : ∀ y:Int,0≤y→y<((4*t.length:Nat):Int)→rd (ZW t) y=c→rd sg y≠0→y∈qu
structure OrX (t:Tri) (c:Int) (sg qu sg' qu' : List Int):Prop where
  ex : ∃ e,qu' = qu++e
  keep : ∀ y:Int,0≤y→rd sg y≠0→rd sg' y=rd sg y
  off : ∀ y:Int,0≤y→rd (ZW t) y≠c→rd sg' y=rd sg y
  sum:zc sg' + qu'.length=zc sg+qu.length
theorem OrX.refl (t:Tri) (c:Int) (sg qu:List Int):OrX t c sg qu sg qu:=⟨⟨[],by simp⟩,fun _ _ _=>rfl,fun _ _ _=>rfl,rfl⟩
theorem OrX.trans {t:Tri} {c:Int} {a b a1 b1 a2 b2:List Int} (h:OrX t c a b a1 b1) (g:OrX t c a1 b1 a2 b2):OrX t c a b a2 b2:=by
  obtain⟨e1,aa⟩:=h.ex
  obtain⟨e2,ab⟩:=g.ex
  refine⟨⟨e1++e2,by rw[ab,aa,List.append_assoc]⟩,fun y h0 h1=>?_,fun y h0 h1=>?_,g.sum.trans h.sum⟩
  · rw[g.keep y h0 (by rw[h.keep y h0 h1];exact h1),h.keep y h0 h1]
  · rw[g.off y h0 h1,h.off y h0 h1]
theorem OrX.len {t:Tri} {c:Int} {a b a1 b1:List Int} (h:OrX t c a b a1 b1):b.length≤b1.length:=by
  obtain⟨e,he⟩:=h.ex
  rw[he,List.length_append];omega
theorem OrX.at {t:Tri} {c:Int} {a b a1 b1:List Int} (h:OrX t c a b a1 b1) {i:Nat} (hi:i<b.length):rd b1 (i:Int)=rd b (i:Int):=by
  obtain⟨e,he⟩:=h.ex
  rw[he,JZ,JZ,List.getD_eq_getElem?_getD,List.getD_eq_getElem?_getD,List.getElem?_append_left hi]
def Rel2 (t:Tri) (c:Int) (sg sg2:List Int):Prop:=sg2.length=4*t.length ∧ ∀ y:Int,0≤y→y<((4*t.length:Nat):Int)→rd (ZW t) y=c→rd sg2 y=rd sg y
section
variable {t : Tri} {c : Int}
theorem vis_st {sg qu:List Int} (h:OrS t c sg qu) (ok:Bool) {i:Nat} {k p:Int} (hi:i<qu.length) (h0:0≤k) (h1:k<((4*t.length:Nat):Int)) (hc:rd (ZW t) k=c) (hp:pm p) :
    ∃ (sg' qu' : List Int) (c1:Bool),vis sg qu ok (i:Int) k (wrap64 (-p))=(sg',qu',ok&&c1)∧OrS t c sg' qu' ∧ OrX t c sg qu sg' qu' ∧ rd sg' k≠0 ∧
      (rd sg k=0→sg' = sg.set k.toNat (wrap64 (wrap64 (-(rd sg (rd qu (i:Int))))*p))∧qu' = qu ++ [k]∧c1=true) ∧
      (rd sg k≠0→sg' = sg∧qu' = qu∧(c1=true↔rd sg k=wrap64 (wrap64 (-(rd sg (rd qu (i:Int))))*p))):=by
  obtain⟨sg',qu',c1,e1,e2,e3,e4,e5,e6,e7⟩:=zHu h.inv ok (i:=(i:Int)) (by omega) (by omega) h0 h1 hp
  have hl:=h.inv.len
  by_cases hz:rd sg k=0
  · obtain⟨f1,f2,f3⟩:=e6 hz
    obtain⟨q0,q1,qs⟩:=h.inv.queue _ (zFV (show(0:Int)≤(i:Int)by omega) (by omega:(i:Int)<(qu.length:Int)))
    have hw:=(zGx qs hp).2
    have hset : ∀ y:Int,0≤y→rd sg' y=if y=k then wrap64 (wrap64 (-(rd sg (rd qu (i:Int))))*p)else rd sg y:=fun y hy=>by rw[f1];exact zAq h0 (by omega) hy
    refine⟨sg',qu',c1,e1,⟨e2,fun y hy=>?_,fun y y0 y1 yc yz=>?_⟩,⟨⟨[k],f2⟩,fun y y0 yz=>?_,fun y y0 yc=>?_,e5⟩,?_,fun _=>⟨f1,f2,f3⟩,fun hn=>absurd hz hn⟩
    · rw[f2]at hy
      rcases List.mem_append.1 hy with hy|hy
      · exact h.cl y hy
      · rw[List.mem_singleton.1 hy];exact hc
    · rw[f2]
      by_cases e:y=k
      · rw[e];simp
      · rw[hset y y0,if_neg e]at yz
        exact List.mem_append_left _ (h.all y y0 y1 yc yz)
    · rw[hset y y0,if_neg (fun e=>yz (by rw[e];exact hz))]
    · rw[hset y y0,if_neg (fun e=>yc (by rw[e];exact hc))]
    · rw[hset k h0,if_pos rfl]
      rcases hw with e|e <;> rw[e] <;> decide
  · obtain⟨f1,f2,f3⟩:=e7 hz
    refine⟨sg',qu',c1,e1,?_,?_,by rw[f1];exact hz,fun hn=>absurd hn hz,fun _=>⟨f1,f2,f3⟩⟩
    · rw[f1,f2];exact h
    · rw[f1,f2];exact OrX.refl t c sg qu
def ClF (t:Tri) (sg:List Int) (x:Int) (f:Int) (d:Nat):Prop := ∀ g:Int,f≤g→g<f+(d:Int)→g≠x%4 → ¬ (fc t (x/4) g).f0<0→rd sg (nb t x g)≠0
theorem zBK (h:ZG t=true) {i:Nat} {x:Int} (af:0≤x) (ag:x<((4*t.length:Nat):Int)) (hxc:rd (ZW t) x=c) : ∀ (d:Nat) (f:Int) (sg qu ab:List Int) (ok:Bool),0≤f→f+(d:Int)=4→OrS t c sg qu→i<qu.length→rd qu (i:Int)=x→Rel2 t c sg ab →
    ∃ (sg' qu' aa : List Int) (c1:Bool),zBi t (ZW t) c (i:Int) x (oL (x%4) d f) (sg,qu,ok)=(sg',qu',ok&&c1)∧OrS t c sg' qu' ∧ OrX t c sg qu sg' qu' ∧ ClF t sg' x f d∧Rel2 t c sg' aa ∧
      (c1=true→zDn t (x/4) (x%4) d f (ab,qu.map crn)=some (aa,qu'.map crn))∧(c1=false→zDn t (x/4) (x%4) d f (ab,qu.map crn)=none)
  | 0,f,sg,qu,ab,ok,aj,hfd,hS,hi,hq,hR=>⟨sg,qu,ab,true,by rw[oL,zBi];simp,hS,OrX.refl ..,fun g a b=>by omega,hR,fun _=>rfl,fun e=>by cases e⟩
  | d+1,f,sg,qu,ab,ok,aj,hfd,hS,hi,hq,hR=>by
    have hclS : ∀ {ad:List Int} {f:Int} {d:Nat},ClF t ad x (f+1) d→(f≠x%4 → ¬ (fc t (x/4) f).f0<0→rd ad (nb t x f)≠0)→ClF t ad x f (d+1):=fun {ad f d} h1 h2 g a b=>by
      by_cases e:g=f
      · subst e;exact h2
      · exact h1 g (by omega) (by push_cast at b;omega)
    by_cases e:f=x%4
    · obtain⟨sg',qu',aa,c1,e1,e2,e3,e4,e5,e6,e7⟩:=zBK h (i:=i) af ag hxc d (f+1) sg qu ab ok (by omega) (by push_cast at hfd;omega) hS hi hq hR
      refine⟨sg',qu',aa,c1,by rw[oL,if_pos e];exact e1,e2,e3,hclS e4 (fun hn=>absurd e hn),e5,fun hc=>?_,fun hc=>?_⟩
      · rw[zDn,if_pos e];exact e6 hc
      · rw[zDn,if_pos e];exact e7 hc
    · have hfc:zI (zE t (x/4)) f=fc t (x/4) f:=rfl
      by_cases hb:(fc t (x/4) f).f0<0
      · obtain⟨sg',qu',aa,c1,e1,e2,e3,e4,e5,e6,e7⟩:=zBK h (i:=i) af ag hxc d (f+1) sg qu ab ok (by omega) (by push_cast at hfd;omega) hS hi hq hR
        refine⟨sg',qu',aa,c1,?_,e2,e3,hclS e4 (fun _ hn=>absurd hb hn),e5,fun hc=>?_,fun hc=>?_⟩
        · rw[oL,if_neg e,zBi,hfc,if_neg (fun q=>q.2 hb)];exact e1
        · rw[zDn,if_neg e,hfc,if_pos hb];exact e6 hc
        · rw[zDn,if_neg e,hfc,if_pos hb];exact e7 hc
      · obtain⟨k0,k1,kc,kr,p0,p1⟩:=zI1 h af ag aj (by push_cast at hfd;omega) e hb
        have hp:=zHt p0 p1
        obtain⟨ad,ah,c1,v1,v2,v3,v4,v5,v6⟩:=vis_st hS ok hi k0 k1 (kc.trans hxc) hp
        have ai:=hR.2
        have ak:=ai _ k0 k1 (kc.trans hxc)
        have al:=ai x af ag hxc
        rw[hq]at v5 v6
        have exx:4*(x/4)+x%4=x:=by omega
        have an:=hR.1
        have hX:(c1=true → ∃ ae,zJ2 (fc t (x/4) f) (x/4) (x%4) (ab,qu.map crn)=some (ae,ah.map crn)∧Rel2 t c ad ae)∧(c1=false→zJ2 (fc t (x/4) f) (x/4) (x%4) (ab,qu.map crn)=none):=by
          have hd:zJ2 (fc t (x/4) f) (x/4) (x%4) (ab,qu.map crn)=if rd ab (nb t x f)=0 then some (ab.set (nb t x f).toNat (wrap64 (wrap64 (-(rd ab (4*(x/4)+x%4)))*zBr (fc t (x/4) f).f1)),qu.map crn ++ [crn (nb t x f)])else(if rd ab (nb t x f)=wrap64 (wrap64 (-(rd ab (4*(x/4)+x%4)))*zBr (fc t (x/4) f).f1)then some (ab,qu.map crn)else none):=by
            rw[kr];rfl
          rw[hd,exx,ak,al]
          by_cases hz:rd sg (nb t x f)=0
          · obtain⟨f1,f2,f3⟩:=v5 hz
            rw[if_pos hz]
            refine⟨fun _=>⟨_,by rw[f2,List.map_append];rfl,by rw[List.length_set];exact an,fun y y0 y1 yc=>?_⟩,fun hc=>by rw[f3]at hc;cases hc⟩
            have hls:=hS.inv.len
            rw[f1,zAq k0 (by omega) y0,zAq k0 (by omega) y0,ai y y0 y1 yc]
          · obtain⟨f1,f2,f3⟩:=v6 hz
            rw[if_neg hz]
            refine⟨fun hc=>⟨ab,by rw[if_pos (f3.1 hc),f2],by rw[f1];exact hR⟩,fun hc=>?_⟩
            rw[if_neg (fun he=>by rw[f3.2 he]at hc;cases hc)]
        have hvL:zBi t (ZW t) c (i:Int) x (oL (x%4) (d+1) f) (sg,qu,ok)=zBi t (ZW t) c (i:Int) x (oL (x%4) d (f+1)) (ad,ah,ok&&c1):=by
          rw[oL,if_neg e,zBi,hfc,if_pos ⟨hxc,hb⟩]
          dsimp only
          rw[show 4*(fc t (x/4) f).f0+rd (qP (fc t (x/4) f).f1) (x%4)=nb t x f from rfl,v1]
        have hoF:zDn t (x/4) (x%4) (d+1) f (ab,qu.map crn)=(zJ2 (fc t (x/4) f) (x/4) (x%4) (ab,qu.map crn)).bind (zDn t (x/4) (x%4) d (f+1)):=by
          rw[zDn,if_neg e,hfc,if_neg hb]
        have hlen:=v3.len
        cases hc1:c1 with
        | true=>
          obtain⟨ae,x1,x2⟩:=hX.1 hc1
          obtain⟨sg',qu',aa,c2,e1,e2,e3,e4,e5,e6,e7⟩:=zBK h (i:=i) af ag hxc d (f+1) ad ah ae (ok&&c1) (by omega) (by push_cast at hfd;omega) v2 (by omega) (by rw[v3.at hi];exact hq) x2
          refine⟨sg',qu',aa,c2,by rw[hvL,e1,hc1,Bool.and_true],e2,v3.trans e3,hclS e4 (fun _ _=>by rw[e3.keep _ k0 v4];exact v4),e5,fun hc=>?_,fun hc=>?_⟩
          · rw[hoF,x1,yfy];exact e6 hc
          · rw[hoF,x1,yfy];exact e7 hc
        | false=>
          obtain⟨sg',qu',aa,c2,e1,e2,e3,e4,e5,e6,e7⟩:=zBK h (i:=i) af ag hxc d (f+1) ad ah ad (ok&&c1) (by omega) (by push_cast at hfd;omega) v2 (by omega) (by rw[v3.at hi];exact hq) ⟨v2.inv.len,fun _ _ _ _=>rfl⟩
          refine⟨sg',qu',aa,false,by rw[hvL,e1,hc1,Bool.and_false,Bool.false_and],e2,v3.trans e3,hclS e4 (fun _ _=>by rw[e3.keep _ k0 v4];exact v4),e5,fun hc=>(by cases hc),fun _=>?_⟩
          rw[hoF,hX.2 hc1];rfl
end
theorem zCz {qu:List Int} {i:Nat} (hi:i<qu.length):qQ (qu.map crn) (i:Int)=crn (rd qu (i:Int)):=by
  simp [qQ,rd,hi]
section
variable {t : Tri} {c : Int}
theorem ClF.mono (h:ZG t=true) {sg qu sg' qu' : List Int} {x:Int} (aa:0≤x) (ab:x<((4*t.length:Nat):Int)) (hc:ClF t sg x 0 4) (hX:OrX t c sg qu sg' qu'):ClF t sg' x 0 4:=fun g a b e hb=>by
  have hn:=zI1 h aa ab (show 0≤g by omega) (by omega) e hb
  have hv:=hc g a b e hb
  rw[hX.keep _ hn.1 hv]
  exact hv
theorem zD0 (h:ZG t=true) : ∀ (m:Nat) (i:Nat) (sg qu aa:List Int) (ok:Bool),OrS t c sg qu→zc sg+qu.length≤100→zc sg+qu.length<m+i→i≤qu.length→Rel2 t c sg aa→(∀ j:Nat,j<i→ClF t sg (rd qu (j:Int)) 0 4) →
    ∃ (sg' qu' : List Int) (c1:Bool),Ev (fun k=>zDm t (ZW t) c k (i:Int) (sg,qu,ok)) (sg',ok&&c1)∧OrS t c sg' qu' ∧ OrX t c sg qu sg' qu' ∧ (∀ j:Nat,j<qu'.length→c1=c1→ClF t sg' (rd qu' (j:Int)) 0 4)∧Ev (fun k=>zGp t k i (aa,qu.map crn)) c1
  | 0,i,sg,qu,aa,ok,hS,hM,hm,hi,hR,hC=>by omega
  | m+1,i,sg,qu,aa,ok,hS,hM,hm,hi,hR,hC=>by
    by_cases hlt:i<qu.length
    · have hq:=zFV (l:=qu) (show(0:Int)≤(i:Int)by omega) (by omega)
      obtain⟨q0,q1,qs⟩:=hS.inv.queue _ hq
      have qc:=hS.cl _ hq
      obtain⟨ad,ae,ab,c1,e1,e2,e3,e4,e5,e6,e7⟩:=zBK h (i:=i) q0 q1 qc 4 0 sg qu aa ok (by omega) (by omega) hS hlt rfl hR
      have hlen:=e3.len
      have hsum:=e3.sum
      obtain⟨sg',qu',c2,f1,f2,f3,f4,f5⟩:=zD0 h m (i+1) ad ae ab (ok&&c1) e2 (by omega) (by omega) (by omega) e5 (fun j hj=>by
        by_cases ej:j=i
        · rw[ej,e3.at hlt];exact e4
        · rw[e3.at (show j<qu.length by omega)]
          have hqj:=hS.inv.queue _ (zFV (l:=qu) (show(0:Int)≤(j:Int)by omega) (by omega))
          exact ClF.mono h hqj.1 hqj.2.1 (hC j (by omega)) e3)
      refine⟨sg',qu',c1&&c2,?_,f2,e3.trans f3,fun j hj _=>f4 j hj rfl,?_⟩
      · rw[← Bool.and_assoc]
        refine qW (g:=fun k=>zDm t (ZW t) c k (i:Int) (sg,qu,ok)) (fun k=>?_) f1
        rw[zDm]
        dsimp only
        rw[if_pos (show(i:Int)<(qu.length:Int)by omega),if_pos ⟨q0,by omega,by omega⟩,oL_oth (by omega) (by omega),e1]
        rfl
      · have af:=hR.1
        have hok:zEA t.length (aa,qu.map crn) i=true:=by
          unfold zEA zBC
          dsimp only
          rw[zCz hlt]
          simp only [Bool.and_eq_true,decide_eq_true_eq]
          refine⟨⟨rfl,⟨show 0≤rd qu (i:Int)/4 by omega,show rd qu (i:Int)/4<_ by omega⟩,show 0≤rd qu (i:Int)%4 by omega,show rd qu (i:Int)%4≤3 by omega⟩,by rw[List.length_map];omega,af⟩
        have hs : ∀ {R:Bool},Ev (fun k=>oriN (zDn t (rd qu (i:Int)/4) (rd qu (i:Int)%4) 4 0 (aa,qu.map crn)) (zGp t k (i+1))) R→Ev (fun k=>zGp t k i (aa,qu.map crn)) R:=fun hR=>qW (fun k=>by
          rw[zGp,if_pos (by dsimp only;rw[List.length_map];exact hlt),if_pos hok]
          dsimp only
          rw[zCz hlt]
          rfl) hR
        cases hc1:c1 with
        | true=>
          refine hs ?_
          rw[e6 hc1,Bool.true_and]
          exact f5
        | false=>
          refine hs ?_
          rw[e7 hc1,Bool.false_and]
          exact Ev.now _
    · have he:i=qu.length:=by omega
      refine⟨sg,qu,true,?_,hS,OrX.refl ..,fun j hj _=>hC j (by omega),?_⟩
      · rw[Bool.and_true]
        exact qW (g:=fun k=>zDm t (ZW t) c k (i:Int) (sg,qu,ok)) (f:=fun _=>some (sg,ok)) (fun k=>by rw[zDm];dsimp only;rw[if_neg (by omega)]) (Ev.now _)
      · exact qW (f:=fun _=>some true) (fun k=>by rw[zGp,if_neg (by dsimp only;rw[List.length_map];exact hlt)]) (Ev.now _)
theorem zEU (h:ZG t=true) {sg qu:List Int} (hS:OrS t c sg qu) (hcl : ∀ j:Nat,j<qu.length→ClF t sg (rd qu (j:Int)) 0 4) {a y:Nat} (ha:a<4*t.length) (hac:rd (ZW t) (a:Int)=c) (has:rd sg (a:Int)≠0) (hy:y<4*t.length) (hyc:rd (ZW t) (y:Int)=c):rd sg (y:Int)≠0:=by
  have key : ∀ y∈qu,∀ f:Int,0≤f→f≤3→f≠y%4 → ¬ (fc t (y/4) f).f0<0→nb t y f∈qu:=fun y hy f f0 f1 hne hb=>by
    obtain⟨q0,q1,_⟩:=hS.inv.queue _ hy
    obtain⟨j,hj,e⟩:=List.getElem_of_mem hy
    have e2:rd qu (j:Int)=y:=by rw[zBA qu j hj];exact e
    have hv:=hcl j hj
    rw[e2]at hv
    obtain⟨n0,n1,nc,_⟩:=zI1 h q0 q1 f0 f1 hne hb
    exact hS.all _ n0 n1 (nc.trans (hS.cl _ hy)) (hv f f0 (by omega) hne hb)
  have hconn:=zHI h (g:=fun y=>decide (y∈qu)) (fun j f x hF hb v hv hne=>by
    obtain⟨a1,a2,a3,a4,a5,a6⟩:=JE h hF hb
    have hfx:fc t (j:Int) (f:Int)=x:=by
      obtain⟨h1,h2,h3⟩:=hF
      obtain⟨_,hfc⟩:=zDV h h1 (f:=f) (by omega)
      rw[hfc];exact h3
    have v0:=hv.1
    have v1:=hv.2
    have ey:(4*(j:Int)+v)/4=(j:Int):=by omega
    have ev:(4*(j:Int)+v)%4=v:=by omega
    have en:nb t (4*(j:Int)+v) (f:Int)=4*x.f0+rd (qP x.f1) v:=by unfold nb;rw[ey,ev,hfx]
    have aa : ¬ (fc t ((4*(j:Int)+v)/4) (f:Int)).f0<0:=by rw[ey,hfx];exact hb
    have ab:(f:Int)≠(4*(j:Int)+v)%4:=by rw[ev];exact fun e=>hne e.symm
    rw[← en]
    refine decide_eq_decide.2 ⟨fun hm=>key _ hm _ (by omega) (by omega) ab aa,fun hm=>?_⟩
    obtain⟨f',g0,g1,g2,g3,g4⟩:=zIz h (show 0≤4*(j:Int)+v by omega) (by omega) (show 0≤(f:Int)by omega) (by omega) ab aa
    have:=key _ hm f' g0 g1 g2 g3
    rw[g4]at this
    exact this) ha hy (hac.trans hyc.symm)
  have hma:((a:Int)∈qu):=hS.all _ (by omega) (by omega) hac has
  have hmy:((y:Int)∈qu):=by
    have:decide ((y:Int)∈qu)=true:=hconn.symm.trans (ygy hma)
    exact of_decide_eq_true this
  obtain⟨_,_,p⟩:=hS.inv.queue _ hmy
  rcases p with e|e <;> rw[e] <;> decide
theorem zFf {t:Tri} {cls:List Int} {c i x:Int} (hx:rd cls x≠c) : ∀ (L:List Int) (s:List Int × List Int × Bool),zBi t cls c i x L s=s
  | [],s=>rfl
  | f :: fs,s=>by rw[zBi,if_neg (fun e=>hx e.1),zFf hx fs]
theorem zHJ {a:Nat} (ha:a<4*t.length) (hac:rd (ZW t) (a:Int)≠c) (sg:List Int) (ok:Bool):Ev (fun k=>zDm t (ZW t) c k 0 (sg,[(a:Int)],ok)) (sg,ok):=by
  refine qW (f:=fun k=>zDm t (ZW t) c k (0+1) (sg,[(a:Int)],ok)) (fun k=>?_) ?_
  · rw[zDm]
    dsimp only
    have e0:rd [(a:Int)] 0=(a:Int):=rfl
    have el:([(a:Int)]:List Int).length=1:=rfl
    rw[e0,el,if_pos (by decide),if_pos ⟨by omega,by omega,by omega⟩,zFf hac]
  · exact qW (f:=fun _=>some (sg,ok)) (fun k=>by rw[zDm];dsimp only;rw[if_neg (by simp)]) (Ev.now _)
theorem zDh : ∀ (d a:Nat) (sg:List Int) (ok:Bool),sg.length=4*t.length→a+d=4*t.length→(∀ y:Nat,y<4*t.length→rd (ZW t) (y:Int)=c→rd sg (y:Int)≠0) → ∃ sg',Ev (fun k=>zAm t (ZW t) c k d (a:Int) sg ok) (sg',ok)
  | 0,a,sg,ok,hl,hd,hz=>⟨sg,zE2 fun k=>by rw[zAm]⟩
  | d+1,a,sg,ok,hl,hd,hz=>by
    by_cases e:rd sg (a:Int)=0
    · have hac:rd (ZW t) (a:Int)≠c:=fun q=>hz a (by omega) q e
      obtain⟨sg',h'⟩:=zDh d (a+1) (sg.set (a:Int).toNat 1) ok (by rw[List.length_set];exact hl) (by omega) (fun y hy hc=>by
        rw[zAq (by omega) (by omega) (by omega)]
        split
        · decide
        · exact hz y hy hc)
      refine⟨sg',Ev.congr (fun k=>by rw[zAm,if_pos e]) (Ev.bind (zHJ (by omega) hac _ ok) ?_)⟩
      exact h'
    · obtain⟨sg',h'⟩:=zDh d (a+1) sg ok hl (by omega) hz
      exact⟨sg',Ev.congr (fun k=>by rw[zAm,if_neg e];rfl) h'⟩
structure Bef (t:Tri) (c:Int) (sg:List Int):Prop where
  len:sg.length=4*t.length
  small : ∀ y:Int,0≤y→y<((4*t.length:Nat):Int)→rd sg y=0∨rd sg y=1
  zero : ∀ y:Int,0≤y→y<((4*t.length:Nat):Int)→rd (ZW t) y=c→rd sg y=0
theorem zBZ {d a0:Nat} (h0:a0+d=4*t.length) : ∀ (e a:Nat) (sg:List Int) (ok:Bool),a+e=a0→(∀ j:Nat,j<a0→rd (ZW t) (j:Int)≠c)→Bef t c sg →
    ∃ aa,Bef t c aa ∧ ∀ R,Ev (fun k=>zAm t (ZW t) c k d (a0:Int) aa ok) R→Ev (fun k=>zAm t (ZW t) c k (e+d) (a:Int) sg ok) R
  | 0,a,sg,ok,ha,hn,hB=>⟨sg,hB,fun R hR=>by rw[Nat.zero_add];rw[Nat.add_zero]at ha;rw[ha];exact hR⟩
  | e+1,a,sg,ok,ha,hn,hB=>by
    have hl:=hB.len
    have ed:e+1+d=(e+d)+1:=by omega
    rw[ed]
    by_cases z:rd sg (a:Int)=0
    · obtain⟨aa,b1,b2⟩:=zBZ h0 e (a+1) (sg.set (a:Int).toNat 1) ok (by omega) hn ⟨by rw[List.length_set];exact hl,fun y y0 y1=>by
        rw[zAq (by omega) (by omega) y0]
        split
        · exact .inr rfl
        · exact hB.small y y0 y1,fun y y0 y1 yc=>by
        rw[zAq (by omega) (by omega) y0,if_neg (fun q=>hn a (by omega) (by rw[← q];exact yc))]
        exact hB.zero y y0 y1 yc⟩
      refine⟨aa,b1,fun R hR=>Ev.congr (fun k=>by rw[zAm,if_pos z]) (Ev.bind (zHJ (by omega) (hn a (by omega)) _ ok) ?_)⟩
      exact b2 R hR
    · obtain⟨aa,b1,b2⟩:=zBZ h0 e (a+1) sg ok (by omega) hn hB
      exact⟨aa,b1,fun R hR=>Ev.congr (fun k=>by rw[zAm,if_neg z];rfl) (b2 R hR)⟩
theorem zHK (h:ZG t=true):zE7 t (ZW t)=true:=by
  obtain⟨h8,h4,_⟩:=qt h
  unfold zE7
  simp only [Bool.and_eq_true,decide_eq_true_eq,List.all_eq_true]
  refine⟨⟨h8,zAC h⟩,fun r hr=>⟨h4 r hr,fun x hx=>?_⟩⟩
  simp only [Bool.or_eq_true,Bool.and_eq_true,decide_eq_true_eq]
  obtain⟨a,ha,rfl⟩:=List.getElem_of_mem hr
  obtain⟨f,hf,rfl⟩:=List.getElem_of_mem hx
  have:=zAY h (a:=(a:Int)) (f:=(f:Int)) (by omega) (by omega) (by omega) (by rw[h4 _ (yoy ha)]at hf;omega)
  have e:fc t (a:Int) (f:Int)=t[a][f]:=by unfold fc;rw[Qr t a ha,zAh _ f hf]
  rw[e]at this
  rcases this with ⟨e1,_⟩|⟨⟨g0,g1,g2,g3⟩,_⟩
  · left;omega
  · right;exact⟨⟨g0,g1⟩,g2,g3⟩
theorem zHL (h:ZG t=true) (hc:0<(Qh (ZW t) c (4*t.length) 0).length):zG1 t (Qh (ZW t) c (4*t.length) 0)=true:=by
  have hn:=zEN h c
  unfold zEo at hn
  simp only [Bool.and_eq_true,List.all_eq_true]at hn
  unfold zG1
  simp only [Bool.and_eq_true,decide_eq_true_eq,List.all_eq_true]
  refine⟨⟨(qt h).1,hc⟩,fun r hr=>⟨(qt h).2.1 r hr,fun x hx=>?_⟩,?_⟩
  · exact(hn.2.1 r hr).2 x hx
  · refine hn.2.2 _ ?_
    rw[qQ]
    simp [hc]
theorem zJ0 : ∃ k0:Nat,∀ k,k0≤k→zJ3 k=true:=by
  have h3 : ∀ n:Nat,n≤24 → ∃ k0:Nat,∀ k,k0≤k → ∀ m:Fin 24,m.val<n→zn.f k (m.val:Int)=some (zBr (m.val:Int)):=fun n=>by
    induction n with
    | zero=>exact fun _=>⟨0,fun k _ m hm=>absurd hm (by omega)⟩
    | succ n ih=>
      intro hn;obtain⟨k0,h0⟩:=ih (by omega)
      obtain⟨k1,h1⟩:=zED (p:=(n:Int)) (by omega) (by omega)
      refine⟨k0+k1,fun k hk m hm=>?_⟩
      by_cases e:m.val=n
      · rw[e];exact h1 k (by omega)
      · exact h0 k (by omega) m (by omega)
  obtain⟨k0,h0⟩:=h3 24 (yry _)
  refine⟨k0,fun k hk=>?_⟩
  unfold zJ3
  rw[decide_eq_true_eq]
  exact fun m=>h0 k hk m m.isLt
theorem zGC (h:ZG t=true) (hc:0<(Qh (ZW t) c (4*t.length) 0).length) : ∃ b:Bool,Ev (fun k=>qK.f k t c) b∧Ev (fun k=>ZD.f k t (Qh (ZW t) c (4*t.length) 0)) b:=by
  have h8:=(qt h).1
  obtain⟨a,a1,a2,a3,a4,a5⟩:=zCy (ZW t) c (4*t.length) 0 hc
  have hrep : ∀ x:Int,rd (List.replicate (4*t.length) 0) x=0:=fun x=>by
    unfold rd
    by_cases hx:x.toNat<4*t.length
    · simp [List.getD_eq_getElem?_getD,hx]
    · simp [List.getD_eq_getElem?_getD,hx]
  have ad:Bef t c (List.replicate (4*t.length) 0):=⟨List.length_replicate,fun y _ _ => .inl (hrep y),fun y _ _ _=>hrep y⟩
  obtain⟨d,hd⟩ : ∃ d,a+(d+1)=4*t.length:=⟨4*t.length-a-1,by omega⟩
  obtain⟨ab,b1,b2⟩:=zBZ (c:=c) hd a 0 (List.replicate (4*t.length) 0) true (by omega) (fun j hj=>a4 j (by omega) hj) ad
  have aa:=b1.len
  have hset : ∀ {l:List Int},l.length=4*t.length → ∀ y:Int,0≤y→rd (l.set (a:Int).toNat 1) y=if y=(a:Int)then 1 else rd l y:=fun hl y hy=>zAq (by omega) (by omega) hy
  have hS:OrS t c (ab.set (a:Int).toNat 1) [(a:Int)]:=by
    refine⟨⟨by rw[List.length_set];exact aa,fun y y0 y1=>?_,fun y hy=>?_⟩,fun y hy=>?_,fun y y0 y1 yc yz=>?_⟩
    · rw[hset aa y y0]
      split
      · exact .inr (.inl rfl)
      · rcases b1.small y y0 y1 with e|e
        · exact .inl e
        · exact .inr (.inl e)
    · rw[List.mem_singleton.1 hy]
      refine⟨by omega,by omega,?_⟩
      rw[hset aa _ (by omega),if_pos rfl]
      exact .inl rfl
    · rw[List.mem_singleton.1 hy];exact a3
    · rw[hset aa y y0]at yz
      by_cases e:y=(a:Int)
      · rw[e];simp
      · rw[if_neg e]at yz
        exact absurd (b1.zero y y0 y1 yc) yz
  have hR:Rel2 t c (ab.set (a:Int).toNat 1) ((List.replicate (4*t.length) 0).set (a:Int).toNat 1):=by
    refine⟨by rw[List.length_set,List.length_replicate],fun y y0 y1 yc=>?_⟩
    rw[hset aa y y0,hset List.length_replicate y y0,hrep,b1.zero y y0 y1 yc]
  have hz:=zc_le (ab.set (a:Int).toNat 1)
  rw[List.length_set]at hz
  obtain⟨sg',qu',c1,e1,e2,e3,e4,e5⟩:=zD0 h 200 0 (ab.set (a:Int).toNat 1) [(a:Int)] ((List.replicate (4*t.length) 0).set (a:Int).toNat 1) true hS (by rw[List.length_singleton];omega) (by rw[List.length_singleton];omega) (by omega) hR (fun j hj=>absurd hj (Nat.not_lt_zero j))
  have has:rd sg' (a:Int)≠0:=by
    have:=e3.keep (a:Int) (by omega) (by rw[hset aa _ (by omega),if_pos rfl];decide)
    rw[this,hset aa _ (by omega),if_pos rfl];decide
  have hall : ∀ y:Nat,y<4*t.length→rd (ZW t) (y:Int)=c→rd sg' (y:Int)≠0:=fun y hy hyc=>zEU h e2 (fun j hj=>e4 j hj rfl) (by omega) a3 has hy hyc
  obtain⟨sgF,f1⟩:=zDh (c:=c) d (a+1) sg' (true&&c1) e2.inv.len (by omega) hall
  refine⟨c1,?_,?_⟩
  · refine Ev.bind (Qw (zBV h)) (Ev.bind (a:=(sgF,true&&c1)) ?_ (zDF (by rw[Bool.true_and])))
    refine ZJ (zHK h) ?_
    have hq:Ev (fun k=>(zDm t (ZW t) c k 0 (ab.set (a:Int).toNat 1,[(a:Int)],true)).bind fun s=>zAm t (ZW t) c k d ((a:Int)+1) s.1 s.2) (sgF,true&&c1):=Ev.bind e1 f1
    have:=b2 (sgF,true&&c1) (Ev.congr (fun k=>by rw[zAm,if_pos (b1.zero (a:Int) (by omega) (by omega) a3)]) hq)
    rw[show a+(d+1)=4*t.length from hd]at this
    exact this
  · have hk:=zHL h hc
    obtain⟨k0,ae⟩:=e5
    obtain⟨k1,af⟩:=zHA
    obtain⟨k2,ag⟩:=zJ0
    refine⟨k0+k1+k2,fun k hk'=>?_⟩
    have q:=ae k (by omega)
    show ZD.f k t _=some c1
    unfold ZD.f
    rw[if_pos hk,if_pos (af k (by omega)),if_pos (ag k (by omega)),a5]
    have e0:4*rd (crn (a:Int)) 0+rd (crn (a:Int)) 1=(a:Int):=by
      show 4*((a:Int)/4)+(a:Int)%4=_
      omega
    rw[e0]
    exact q
end
theorem zC3 (m u:List Int) (i:Nat) : ∀ d j:Nat,zEs m u i d j=true ↔ ∀ q:Nat,j≤q→q<j+d→rd m (rd u (q:Int))≠rd m (rd u (i:Int))
  | 0,j=>by simp [zEs];intro q h1 h2;omega
  | d+1,j=>by
    rw[zEs,Bool.and_eq_true,zC3 m u i d (j+1)]
    constructor
    · rintro⟨h0,h1⟩ q aa ab
      rcases Nat.eq_or_lt_of_le aa with rfl|hlt
      · simpa using h0
      · exact h1 q hlt (by omega)
    · intro h
      exact⟨by simpa using h j (yry _) (by omega),fun q h1 h2=>h q (by omega) (by omega)⟩
theorem zBa {m m2 u:List Int} (h : ∀ i q:Nat,i<u.length→q<u.length→(rd m (rd u (q:Int))=rd m (rd u (i:Int))↔rd m2 (rd u (q:Int))=rd m2 (rd u (i:Int)))) : ∀ d i:Nat,i+d=u.length→zCW m u d i=zCW m2 u d i
  | 0,i,_=>rfl
  | d+1,i,hi=>by
    rw[zCW,zCW,zBa h d (i+1) (by omega)]
    have e:zEs m u i i 0=zEs m2 u i i 0:=by
      rw[Bool.eq_iff_iff,zC3,zC3]
      exact⟨fun k q h1 h2 e=>k q h1 h2 ((h i q (by omega) (by omega)).2 e),fun k q h1 h2 e=>k q h1 h2 ((h i q (by omega) (by omega)).1 e)⟩
    rw[e]
def zFg (m:List Int) (L ks:List Int):List Int:=L.foldl (fun ks x=>zFP ks (rd m x)) ks
theorem zFh (m:List Int) : ∀ (L ks:List Int) (x:Int),x∈zFg m L ks↔x∈ks ∨ ∃ y∈L,rd m y=x
  | [],ks,x=>by simp [zFg]
  | y :: L,ks,x=>by
    show x∈zFg m L (zFP ks (rd m y))↔_
    rw[zFh m L]
    have ha:x∈zFP ks (rd m y)↔x∈ks∨rd m y=x:=by
      unfold zFP
      split
      · rename_i hm
        constructor
        · exact .inl
        · rintro(k|rfl)
          · exact k
          · exact hm
      · rw[List.mem_append,List.mem_singleton]
        constructor
        · rintro(k|rfl)
          · exact .inl k
          · exact .inr rfl
        · rintro(k|rfl)
          · exact .inl k
          · exact .inr rfl
    rw[ha]
    constructor
    · rintro((k|k)|⟨z,hz,k⟩)
      · exact .inl k
      · exact .inr ⟨y,List.mem_cons_self ..,k⟩
      · exact .inr ⟨z,List.mem_cons_of_mem _ hz,k⟩
    · rintro(k|⟨z,hz,k⟩)
      · exact .inl (.inl k)
      · rcases List.mem_cons.1 hz with rfl|hz
        · exact .inl (.inr k)
        · exact .inr ⟨z,hz,k⟩
theorem zFi (m A B ks:List Int):zFg m (A++B) ks=zFg m B (zFg m A ks):=List.foldl_append
theorem zDi (m u:List Int) : ∀ d i:Nat,i+d=u.length→((zFg m u []).length:Int)=((zFg m (u.take i) []).length:Int)+zCW m u d i
  | 0,i,hi=>by rw[List.take_of_length_le (by omega),zCW];omega
  | d+1,i,hi=>by
    have hlt:i<u.length:=by omega
    rw[zDi m u d (i+1) (by omega),List.take_succ_eq_append_getElem hlt,zFi,zCW]
    show((zFP (zFg m (u.take i) []) (rd m u[i])).length:Int)+_=_
    have e:rd u (i:Int)=u[i]:=zBA u i hlt
    have hd:zEs m u i i 0=true↔rd m u[i] ∉ zFg m (u.take i) []:=by
      rw[zC3,zFh,e]
      constructor
      · rintro h (k|⟨y,hy,k⟩)
        · cases k
        · obtain⟨q,hq,rfl⟩:=List.getElem_of_mem hy
          have aa:q<i:=by rw[ymy]at hq;omega
          have:=h q (Nat.zero_le _) (by omega)
          rw[zBA u q (by omega)]at this
          rw[List.getElem_take]at k
          exact this k
      · intro h q h1 h2 k
        refine h (.inr ⟨u[q],?_,?_⟩)
        · rw[List.mem_iff_getElem]
          exact⟨q,by rw[ymy];omega,by rw[List.getElem_take]⟩
        · rw[zBA u q (by omega)]at k;exact k
    by_cases hm:rd m u[i]∈zFg m (u.take i) []
    · rw[if_neg (fun k=>hd.1 k hm)]
      unfold zFP
      rw[if_pos hm];omega
    · rw[if_pos (hd.2 hm)]
      unfold zFP
      rw[if_neg hm,List.length_append,List.length_singleton];omega
theorem zFj (m:List Int) (b:Int) : ∀ (L ks:List Int),zAk m b L ks=zFg m (L.map fun w=>b+w) ks
  | [],ks=>rfl
  | v :: vs,ks=>by rw[zAk,zFj m b vs];rfl
theorem zDj (m:List Int) : ∀ (cs:List (List Int)) (ks:List Int),Jq m cs ks=zFg m (zIR cs) ks
  | [],ks=>rfl
  | c :: cs,ks=>by
    rw[Jq,zDj m cs,zFj]
    show _=zFg m (((Qt [rd c 1]).map fun w=>16*rd c 0+4*rd c 1+w)++zIR cs) ks
    rw[zFi]
section
variable {t : Tri}
theorem zFk (h:ZG t=true) (c:Int):(Jh t c).u=zIR (Qh (ZW t) c (4*t.length) 0):=by
  unfold Jh
  rw[zIS (Ju h c) (zEY t) _ (yry _),List.take_length]
  show[]++_=_
  rw[List.nil_append]
theorem zDk (h:ZG t=true) {c:Int} {x:Int} (hx:x∈zIR (Qh (ZW t) c (4*t.length) 0)) : ∃ (k:Nat) (w:Int),k<4*t.length∧sm w∧rd (ZW t) (k:Int)=c∧x=4*(k:Int)+w:=by
  unfold zIR at hx
  obtain⟨r,hr,hx⟩:=List.mem_flatMap.1 hx
  obtain⟨w,hw,rfl⟩:=List.mem_map.1 hx
  obtain⟨k,h0,h1,e,hk⟩:=zBz _ _ _ _ _ hr
  have e0:rd [((k/4:Nat):Int),((k%4:Nat):Int)] 0=((k/4:Nat):Int):=rfl
  have e1:rd [((k/4:Nat):Int),((k%4:Nat):Int)] 1=((k%4:Nat):Int):=rfl
  refine⟨k,w,by omega,(QX hw).1,hk,?_⟩
  rw[e,e0,e1];omega
theorem zHM (h:ZG t=true) {c:Int} {j:Nat} {v:Int} (hj:j<t.length) (hv:sm v) (hc:rd (ZW t) (4*(j:Int)+v)=c) : ∃ i0:Nat,∃ hi:i0<(Qh (ZW t) c (4*t.length) 0).length,rd (Qh (ZW t) c (4*t.length) 0)[i0] 0=(j:Int)∧rd (Qh (ZW t) c (4*t.length) 0)[i0] 1=v:=by
  have h0:=hv.1
  have h1:=hv.2
  obtain⟨vn,rfl⟩:=Int.eq_ofNat_of_zero_le h0
  have hm:=zFe (ZW t) c (4*t.length) 0 (4*j+vn) (Nat.zero_le _) (by omega) (by rw[← hc];congr 1)
  obtain⟨i0,hi,e⟩:=List.getElem_of_mem hm
  refine⟨i0,hi,?_,?_⟩
  · rw[e];show(((4*j+vn)/4:Nat):Int)=_;omega
  · rw[e];show(((4*j+vn)%4:Nat):Int)=_;omega
theorem zBL {j v w:Int} (hw:sm w):(16*j+4*v+w)/4=4*j+v:=by
  have:=hw.1
  have:=hw.2
  omega
theorem ker_P (h:ZG t=true) (c:Int) {x y:Int} (hx:x∈(Jh t c).u) (hy:y∈(Jh t c).u):rd (Jh t c).p x=rd (Jh t c).p y↔rd (JB t).1 x=rd (JB t).1 y:=by
  have hI:=zC0 h c
  have hl:=zER t
  have bx:=hI.u x hx
  have by_:=hI.u y hy
  rw[zFk h]at hx hy
  obtain⟨kx,wx,hkx,hwx,hcx,ex⟩:=zDk h hx
  obtain⟨ky,wy,hky,hwy,hcy,ey⟩:=zDk h hy
  constructor
  · intro e
    have hs:=(zDf (g:=rd (JB t).1) h (Ju h c) (zAf t) _ (yry _)).1 (fun j f z hF hb v hv hvf w hw=>zIv h hF hb hv hvf hw) (zEO _)
    exact hs x y ⟨bx.1,by have:=hI.lp;unfold Jh at this;rw[this];exact bx.2⟩ ⟨by_.1,by have:=hI.lp;unfold Jh at this;rw[this];exact by_.2⟩ e
  · intro e
    have hs:=zIx h (g:=fun z=>if rd (ZW t) (z/4)=c then some (rd (Jh t c).p z)else none) (fun j f z hF hb v hv hvf w hw=>by
      obtain⟨a1,a2,a3,a4,a5,a6⟩:=JE h hF hb
      have aa:=(Qy hw).1
      have p1:=Zg a5 a6 hv.1 hv.2
      have p2:=Zg a5 a6 aa.1 aa.2
      show(if rd (ZW t) ((16*(j:Int)+4*v+w)/4)=c then _ else _)=(if rd (ZW t) ((16*z.f0+4*rd (qP z.f1) v+rd (qP z.f1) w)/4)=c then _ else _)
      rw[zBL aa,zBL p2,← zBY h hF hb hv hvf]
      by_cases hcc:rd (ZW t) (4*(j:Int)+v)=c
      · rw[if_pos hcc,if_pos hcc]
        obtain⟨i0,ab,e0,e1⟩:=zHM h a1 hv hcc
        have:=(zDg h (Ju h c) (zAf t) ab e0 e1 hF hb hvf (by omega) _ (yry _) ab).1 w hw
        exact congrArg some this
      · rw[if_neg hcc,if_neg hcc])
    have:=hs x y ⟨bx.1,by rw[hl.1];exact bx.2⟩ ⟨by_.1,by rw[hl.1];exact by_.2⟩ e
    have dx:x/4=(kx:Int):=by have:=hwx.1;have:=hwx.2;omega
    have dy:y/4=(ky:Int):=by have:=hwy.1;have:=hwy.2;omega
    dsimp only at this
    rw[dx,dy,if_pos hcx,if_pos hcy]at this
    exact yey this
theorem ker_S (h:ZG t=true) (c:Int) {x y:Int} (hx:x∈(Jh t c).u) (hy:y∈(Jh t c).u):rd (Jh t c).s x=rd (Jh t c).s y↔rd (JB t).2 x=rd (JB t).2 y:=by
  have hI:=zC0 h c
  have hl:=zER t
  have bx:=hI.u x hx
  have by_:=hI.u y hy
  rw[zFk h]at hx hy
  obtain⟨kx,wx,hkx,hwx,hcx,ex⟩:=zDk h hx
  obtain⟨ky,wy,hky,hwy,hcy,ey⟩:=zDk h hy
  constructor
  · intro e
    have hs:=(zDf (g:=rd (JB t).2) h (Ju h c) (zAf t) _ (yry _)).2 (fun j f z hF hb v hv hvf=>zIw h hF hb hv hvf) (zEO _)
    exact hs x y ⟨bx.1,by have:=hI.ls;unfold Jh at this;rw[this];exact bx.2⟩ ⟨by_.1,by have:=hI.ls;unfold Jh at this;rw[this];exact by_.2⟩ e
  · intro e
    have hs:=zIy h (g:=fun z=>if rd (ZW t) (z/4)=c then some (rd (Jh t c).s z)else none) (fun j f z hF hb v hv hvf=>by
      obtain⟨a1,a2,a3,a4,a5,a6⟩:=JE h hF hb
      have aa:sm (f:Int):=⟨by omega,by omega⟩
      have p1:=Zg a5 a6 hv.1 hv.2
      have p2:=Zg a5 a6 aa.1 aa.2
      show(if rd (ZW t) ((16*(j:Int)+4*v+(f:Int))/4)=c then _ else _)=(if rd (ZW t) ((16*z.f0+4*rd (qP z.f1) v+rd (qP z.f1) (f:Int))/4)=c then _ else _)
      rw[zBL aa,zBL p2,← zBY h hF hb hv hvf]
      by_cases hcc:rd (ZW t) (4*(j:Int)+v)=c
      · rw[if_pos hcc,if_pos hcc]
        obtain⟨i0,ab,e0,e1⟩:=zHM h a1 hv hcc
        have:=(zDg h (Ju h c) (zAf t) ab e0 e1 hF hb hvf (by omega) _ (yry _) ab).2
        exact congrArg some this
      · rw[if_neg hcc,if_neg hcc])
    have:=hs x y ⟨bx.1,by rw[hl.2];exact bx.2⟩ ⟨by_.1,by rw[hl.2];exact by_.2⟩ e
    have dx:x/4=(kx:Int):=by have:=hwx.1;have:=hwx.2;omega
    have dy:y/4=(ky:Int):=by have:=hwy.1;have:=hwy.2;omega
    dsimp only at this
    rw[dx,dy,if_pos hcx,if_pos hcy]at this
    exact yey this
theorem keys_P (h:ZG t=true) (c:Int):((Jq (JB t).1 (Qh (ZW t) c (4*t.length) 0) []).length:Int)=euP t c:=by
  rw[zDj,← zFk h]
  have:=zDi (JB t).1 (Jh t c).u (Jh t c).u.length 0 (by omega)
  rw[List.take_zero]at this
  rw[this]
  unfold euP
  show(0:Int)+_=_
  rw[Int.zero_add]
  exact zBa (fun i q hi hq=>by rw[zBA _ i hi,zBA _ q hq];exact(ker_P h c (yoy hq) (yoy hi)).symm) _ 0 (by omega)
theorem keys_S (h:ZG t=true) (c:Int):((Jq (JB t).2 (Qh (ZW t) c (4*t.length) 0) []).length:Int)=euS t c:=by
  rw[zDj,← zFk h]
  have:=zDi (JB t).2 (Jh t c).u (Jh t c).u.length 0 (by omega)
  rw[List.take_zero]at this
  rw[this]
  unfold euS
  show(0:Int)+_=_
  rw[Int.zero_add]
  exact zBa (fun i q hi hq=>by rw[zBA _ i hi,zBA _ q hq];exact(ker_S h c (yoy hq) (yoy hi)).symm) _ 0 (by omega)
def BdI (n:Nat) (s:List Int):Prop := ∀ x∈s,0≤x∧x<(n:Int)
theorem zIT {n:Nat} {s:List Int} (h:BdI n s) {i k:Int} (hi:In s i):BdI n (uni s i k):=by
  intro x hx
  obtain⟨y,hy,rfl⟩:=List.mem_map.1 hx
  have h1:=hi.1
  have h2:=hi.2
  obtain⟨m,rfl⟩:=Int.eq_ofNat_of_zero_le h1
  split
  · rw[zBA s m (by omega)];exact h _ (yoy _)
  · exact h y hy
theorem zIU {n N:Nat} {b to_:Int} {p:List Int} : ∀ (L x:List Int),x.length=N→(∀ w∈L,0≤b+w∧b+w<(N:Int))→BdI n x→BdI n (leP b to_ p L x)
  | [],x,_,_,h=>h
  | w :: ws,x,hl,hL,h=>zIU ws _ (by rw[Zj];exact hl) (fun u hu=>hL u (List.mem_cons_of_mem _ hu)) (zIT h (by unfold In;rw[hl];exact hL w (List.mem_cons_self ..)))
theorem zD1 {n N:Nat} {j f b:Int} {p:List Int} (hf:sm f) (hR:LeR N j f b p) : ∀ (L:List Int) (s:List Int × List Int),s.1.length=N→s.2.length=N→(∀ v∈L,sm v)→BdI n s.1→BdI n s.2→BdI n (QB j f b p L s).1∧BdI n (QB j f b p L s).2
  | [],s,_,_,_,h1,h2=>⟨h1,h2⟩
  | v :: vs,s,l1,l2,hL,h1,h2=>by
    have hv:=hL v (List.mem_cons_self ..)
    exact zD1 hf hR vs _ (by rw[Qf];exact l1) (by rw[Zj];exact l2) (fun u hu=>hL u (List.mem_cons_of_mem _ hu))
      (zIU _ _ l1 (fun w hw=>(hR v w hv.1 hv.2 (Qy hw).1.1 (Qy hw).1.2).1) h1)
      (zIT h2 (by unfold In;rw[l2];exact(hR v f hv.1 hv.2 hf.1 hf.2).1))
theorem bd_up (n:Nat):BdI n (ZP 0 n):=fun x hx=>by
  have:=(zGg 0 x n).1 hx
  omega
theorem zI3 (h:ZG t=true):BdI (16*t.length) (JB t).1∧BdI (16*t.length) (JB t).2:=by
  refine(zBI (t:=t) (step:=Jz) (I:=fun s=>zHz (16*t.length) s∧BdI (16*t.length) s.1∧BdI (16*t.length) s.2) (fun a j f x hF hb hI=>⟨JX hI.1 j f x,?_⟩) ⟨⟨qU _ _,qU _ _⟩,bd_up _,bd_up _⟩).2
  exact zD1 ⟨by omega,by have:=(JE h hF hb).2.1;omega⟩ (JU h hF hb) _ _ hI.1.1 hI.1.2 (fun v hv=>(QX hv).1) hI.2.1 hI.2.2
theorem zEV {n:Nat} {l:List Int} (h:BdI n l) (hn:n≤1000000):zBh l=true:=by
  unfold zBh
  rw[List.all_eq_true]
  intro x hx
  have:=h x hx
  rw[Bool.and_eq_true,decide_eq_true_eq,decide_eq_true_eq]
  exact⟨this.1,by omega⟩
theorem zI4 (h:ZG t=true) (c:Int):zJ1 t.length (Qh (ZW t) c (4*t.length) 0)=true:=by
  unfold zJ1
  have h8:=(qt h).1
  have:=Jf (ZW t) c (4*t.length) 0
  rw[Bool.and_eq_true,decide_eq_true_eq,List.all_eq_true]
  refine⟨by omega,fun x hx=>?_⟩
  obtain⟨h1,h2,h3,h4,h5⟩:=Ju h c x hx
  simp only [Bool.and_eq_true,decide_eq_true_eq]
  exact⟨h1,⟨h2,h3⟩,h4,h5⟩
def euT (t:Tri) (c:Int):Int:=euP t c-euS t c+((Qh (ZW t) c (4*t.length) 0).length:Int)
theorem eu_bd (h:ZG t=true) (c:Int):0≤euP t c∧euP t c≤128∧0≤euS t c∧euS t c≤128:=by
  have a:=zEt (Jh t c).p (Jh t c).u (Jh t c).u.length 0
  have b:=zEt (Jh t c).s (Jh t c).u (Jh t c).u.length 0
  have hI:=(zC0 h c).lu
  unfold euP euS
  omega
theorem zCe (h:ZG t=true) (c:Int):Ev (fun k=>zu.f k t c) (euT t c):=by
  have h8:=(qt h).1
  have hb:=zI3 h
  refine ZJ ⟨zEH h,zEV hb.1 (by omega),zEV hb.2 (by omega)⟩ (Ev.bind (zCx h c) (ZJ (zI4 h c) (zDF ?_)))
  rw[keys_P h,keys_S h]
  rfl
end
end Go.Proofs.Ytembbpalgfikiaa.P
namespace Go.Proofs.Ytembbpalgfikiaa.P
open Go.RowKit Go.Proofs.YtembbpalgfikiaaW.PrintWords Go.Proofs.Ytembbpalgfikiaa.Lib
set_option linter.unusedVariables false
theorem JJ {α:Type} {g:Nat→Option α} {r : α} (K:Nat) (h : ∀ k,K≤k→g (k+3)=some r):Ev g r:=⟨K+3,fun k hk=>by
  obtain⟨j,rfl⟩ : ∃ j,k=j+3:=⟨k-3,by omega⟩
  exact h j (by omega)⟩
section
variable {t : Tri}
theorem zGD (h:ZG t=true) (c:Int):zG0 t (Qh (ZW t) c (4*t.length) 0)=true:=by
  unfold zG0
  rw[List.all_eq_true]
  intro x hx
  obtain⟨h1,h2,h3,h4,h5⟩:=Ju h c x hx
  simp only [Bool.and_eq_true,decide_eq_true_eq]
  exact⟨h1,h2,h3,zIK h h2 h3⟩
theorem zI5 (h:ZG t=true) {c:Int} (hc:0<(Qh (ZW t) c (4*t.length) 0).length) : ∃ v:Int,Ev (fun k=>zL.f k t c) v∧Ev (fun k=>zl.f k t (Qh (ZW t) c (4*t.length) 0)) v:=by
  obtain⟨o,⟨k1,o1⟩,⟨k2,o2⟩⟩:=zGC h hc
  have hb:=eu_bd h c
  have hcl:=Jf (ZW t) c (4*t.length) 0
  have h8:=(qt h).1
  have he:wrap64 (wrap64 (euP t c-euS t c)+((Qh (ZW t) c (4*t.length) 0).length:Int))=euT t c:=by
    unfold euT
    rw[ql (x:=euP t c-euS t c) (by omega) (by omega),ql (x:=euP t c-euS t c+((Qh (ZW t) c (4*t.length) 0).length:Int)) (by omega) (by omega)]
  have hI : ∀ v,Ev (fun k=>if(!((Qh (ZW t) c (4*t.length) 0).any (zBB t)))=true then(zL.j0 k c (euT t c) (!((Qh (ZW t) c (4*t.length) 0).any (zBB t))) ((euT t c)==2) t)else(zL.j0 k c (euT t c) (!((Qh (ZW t) c (4*t.length) 0).any (zBB t))) false t)) v→Ev (fun k=>zL.f k t c) v:=fun v hv=>
    Ev.bind (zCe h c) (Ev.bind (a := !((Qh (ZW t) c (4*t.length) 0).any (zBB t))) (Ev.bind (zCx h c) (ZJ (zGD h c) (Ev.now _))) hv)
  have hS : ∀ v,Ev (fun k=>if(Jh t c).n=0 then(zl.j0 k (Qh (ZW t) c (4*t.length) 0) (Jh t c).n (euT t c) ((euT t c)==2) t)else(zl.j0 k (Qh (ZW t) c (4*t.length) 0) (Jh t c).n (euT t c) false t)) v→Ev (fun k=>zl.f k t (Qh (ZW t) c (4*t.length) 0)) v:=fun v hv=>by
    refine Ev.bind (zCM h c) ?_
    dsimp only
    rw[he]
    exact hv
  obtain⟨hfree,aa⟩:=zHx h c
  generalize (Qh (ZW t) c (4*t.length) 0).any (zBB t)=fr at hI hfree
  generalize (Jh t c).n=n at hS hfree aa
  generalize euT t c=e at hI hS
  generalize Qh (ZW t) c (4*t.length) 0=cs at hS o2
  cases fr with
  | true=>
    have hn : ¬ n=0:=fun q=>by have:=hfree.1 q;cases this
    have hp:n>0:=by omega
    by_cases e1:e=1
    · refine⟨1,hI 1 (JJ 0 fun k _=>?_),hS 1 (JJ 0 fun k _=>?_)⟩
      · simp [zL.j0,zL.j1,e1]
      · simp [zl.j0,zl.j1,hn,hp,e1]
    · refine⟨4,hI 4 (JJ 0 fun k _=>?_),hS 4 (JJ 0 fun k _=>?_)⟩
      · simp [zL.j0,zL.j1,zL.j2,e1]
      · simp [zl.j0,zl.j1,zl.j2,hn,hp,e1]
  | false=>
    have hn:n=0:=hfree.2 rfl
    subst hn;by_cases e2:e=2
    · refine⟨0,hI 0 (JJ 0 fun k _=>?_),hS 0 (JJ 0 fun k _=>?_)⟩
      · simp [zL.j0,e2]
      · simp [zl.j0,e2]
    · by_cases e0:e=0
      · subst e0
        refine⟨if o=true then 2 else 3,hI _ (JJ k1 fun k hk=>?_),hS _ (JJ k2 fun k hk=>?_)⟩
        · have q:qK.f (k+1) t c=some o:=o1 (k+1) (by omega)
          cases o <;> simp [zL.j0,zL.j1,zL.j2,q]
        · have q:ZD.f (k+1) t cs=some o:=o2 (k+1) (by omega)
          cases o <;> simp [zl.j0,zl.j1,zl.j2,q]
      · refine⟨4,hI 4 (JJ 0 fun k _=>?_),hS 4 (JJ 0 fun k _=>?_)⟩
        · simp [zL.j0,zL.j1,zL.j2,e0,e2]
        · simp [zl.j0,zl.j1,zl.j2,e0,e2]
theorem zI6 (hs:Small t) (c:Int) : ∃ b:Int,Ev (fun k=>ZT.f k t c) b∧Ev (fun k=>Zl.f k t c) b:=by
  by_cases h0:zBX t c=0
  · obtain⟨ht,aa,ab⟩:=zGB h0
    have hpos:0<(Qh (ZW t) c (4*t.length) 0).length:=by
      rcases Nat.eq_zero_or_pos (Qh (ZW t) c (4*t.length) 0).length with e|e
      · exact absurd ⟨aa,ab⟩ ((zEP ht c).1 e)
      · exact e
    obtain⟨b,b1,b2⟩:=zI5 ht hpos
    refine⟨b,Ev.bind (zFY hs c) (ZJ h0 (Ev.bind b1 (Ev.now _))),?_⟩
    refine Ev.bind (zBJ t c) ?_
    unfold zGA
    rw[if_pos h0]
    exact ZJ rfl (Ev.bind b2 (Ev.now _))
  · refine⟨-1,Ev.bind (zFY hs c) (Qi h0 (Ev.now _)),?_⟩
    refine Ev.bind (zBJ t c) ?_
    unfold zGA
    rw[if_neg h0]
    exact Qi h0 (Ev.now _)
end
end Go.Proofs.Ytembbpalgfikiaa.P
namespace Go.Proofs.Ytembbpalgfikiaa.Pure
open Go.RowKit Go.Proofs.Ytembbpalgfikiaa.P Go.Proofs.Ytembbpalgfikiaa.Lib Go.Proofs.YtembbpalgfikiaaW.PrintWords
theorem zCS (l:List (List qZ)) (c:Int) (h:Fits l) (_:(Lit.int .i64 c).wf=true) : ∃ k,QI.f k l c=some true:=by
  refine Ev.rounds ?_
  obtain⟨r,hr,hs⟩:=zBE l h
  refine Ev.bind hr ?_
  by_cases hn:r<0
  · exact ZJ hn (Ev.now true)
  have hsm:=hs hn
  have hto:=zBF l hsm
  have hS:=zGt hsm
  obtain⟨o,him,hsp⟩:=zI6 hS c
  refine Qi hn ?_
  refine Ev.bind hto ?_
  refine Ev.bind hsp ?_
  refine Ev.bind hto ?_
  refine Ev.bind him ?_
  refine ZJ rfl ?_
  refine Ev.bind hto ?_
  exact Ev.bind (zBG _ hS) (ZJ rfl (Ev.now true))
end Go.Proofs.Ytembbpalgfikiaa.Pure
namespace Go.Proofs.Ytembbpalgfikiaa.Lib
open Go.RowKit Go.Proofs.YtembbpalgfikiaaW.PrintWords Go.Joins Go.Deep Go.WideShapes Go.ChangeShapes
set_option linter.unusedVariables false
def zI7 (P:Program) (t:TypeId) {α:Type} (d:Kd α):Prop := ∀ (H:Type) (enc:TypeId × Value→H) (w:World) (base:Nat) (spare:Nat→Bool) (held:Bool) (fuel:Nat) (cs:List Value) (x:DataW H × List MemPlace),
  DataW.trod enc P w base spare held fuel t cs=some x → ∃ y,d.K w y cs
theorem zEW {α:Type} {R:Nat → α→Prop} : ∀ n,(∀ i,i<n → ∃ y,R i y) → ∃ ys:List α,ys.length=n ∧ ∀ j p,ys[j]?=some p→R j p
  | 0,_=>⟨[],rfl,fun j p h=>by simp at h⟩
  | n+1,h=>by
    obtain⟨ys,hl,hr⟩:=zEW n (fun i hi=>h i (by omega))
    obtain⟨y,hy⟩:=h n (by omega)
    refine⟨ys ++ [y],by simp [hl],fun j p hj=>?_⟩
    by_cases hlt:j<n
    · rw[List.getElem?_append_left (by omega)]at hj
      exact hr j p hj
    · have hjn:j<(ys ++ [y]).length:=(List.getElem?_eq_some_iff.1 hj).1
      have:j=n:=by simp [hl]at hjn;omega
      subst this;rw[List.getElem?_append_right (by omega),hl,Nat.sub_self]at hj
      injection hj with hj
      rw[← hj]
      exact hy
theorem zCT {P:Program} {t e:TypeId} {α:Type} {d:Kd α} (ht:P.underlying t=some (.slice e)) (hc:P.cellsOf e=d.sz) (h:zI7 P e d):zI7 P t (Kd.slice e d):=by
  intro H enc w base spare held fuel cs x hx
  rcases open_slice ht hx with ⟨rfl,_⟩|⟨a,len,cap,m,n,D,Pl,rfl,hb,hl,hm,hmm,_,hi⟩
  · exact⟨[],none,0,rfl,yry _,Kd.C_nil d w⟩
  · have each : ∀ i,i<len → ∃ y,∃ cs',w.cells? base (a.add (i*d.sz)) d.sz=some cs' ∧ d.K w y cs':=by
      intro i hil
      have him:i<m:=by rw[hmm];split <;> omega
      obtain⟨cs',h1,h2⟩:=hi i him
      obtain⟨y,hy⟩:=h H enc w base spare held n cs' _ h2
      rw[hc]at h1
      exact⟨y,cs',h1,hy⟩
    obtain⟨ys,hlen,hys⟩:=zEW len each
    refine⟨ys,some a,cap,by rw[hlen],by omega,rfl,?_,fun _=>⟨a,rfl,fun j p hj=>?_⟩⟩
    · unfold maxLen at hm;omega
    · obtain⟨cs',h1,h2⟩:=hys j p hj
      obtain⟨_,h3,h4⟩:=World.cells?_some h1
      refine⟨cs',h3,h2,fun i u hu=>?_⟩
      have hil:i<d.sz:=by rw[← h3];exact(List.getElem?_eq_some_iff.1 hu).1
      rw[← hu,← h4 i hil,Go.Deep.add_add]
theorem zDl {P:Program} {t:TypeId} {f0 f1:Field} {α:Type} (hs:P.underlying t=some (.struct #[f0,f1])) (hone:oneCellFields P #[f0,f1]=true) (hC:P.cellsOf t=2)
    (h0:P.underlying f0.type=some (.int .i64)) (h1:P.underlying f1.type=some (.int .i64)) (d:Kd α) (mk:Int→Int → α) (hK : ∀ w a b,d.K w (mk a b) [.int .i64 a,.int .i64 b]):zI7 P t d:=by
  intro H enc w base spare held fuel cs x h
  obtain⟨y0,y1,n,hx,hl,g0,g1⟩:=trod_struct2 hs h
  obtain⟨o0,k0⟩:=hone_of hone 0 f0 rfl
  obtain⟨o1,k1⟩:=hone_of hone 1 f1 rfl
  rw[hC]at hl
  match cs,hl with
  | [c0,c1],_=>
    rw[o0,k0]at g0
    rw[o1,k1]at g1
    obtain⟨a,e0,_,_⟩:=DataW.trod_int h0 g0
    obtain⟨b,e1,_,_⟩:=DataW.trod_int h1 g1
    simp at e0 e1
    subst e0 e1;exact⟨mk a b,hK w a b⟩
section
variable {H : Type} {enc : TypeId × Value → H} {P : Program} {w : World} {base : Nat} {spare : Nat → Bool} {held : Bool}
theorem array1 {α:Type} {cs:Array α} (h:cs.size=1) : ∃ c0,cs = #[c0]:=by
  obtain⟨l⟩:=cs
  match l,h with
  | [c0],_=>exact⟨c0,rfl⟩
theorem zHN {r:Reach} {b0:Nat} {t e:TypeId} {f0:Field} {α:Type} {d:Kd α} {v:Value} {D:DataW H} {p:List MemPlace} (hs:P.underlying t=some (.struct #[f0])) (hone:oneCellFields P #[f0]=true) (hC:P.cellsOf t=1)
    (ho:zI7 P f0.type (Kd.slice e d)) (hv:Value.okWide P w r b0 t v) (h:DataW.Trod enc P w base spare held t v D p) :
    ∃ (A:Option Addr) (c:Nat) (l:List α),v = .agg #[.slice A l.length c]∧l.length≤c∧d.C w A l.length l:=by
  obtain⟨cs,rfl,hsz⟩:=okWide_struct hs hv
  obtain⟨c0,rfl⟩:=array1 (hsz.trans hC)
  obtain⟨fuel,hf⟩:=h
  obtain⟨y0,n,hx,_,h0⟩:=trod_struct1 hs hf
  obtain⟨o0,k0⟩:=hone_of hone 0 f0 rfl
  have aa : DataW.trod enc P w base spare held n f0.type [c0]=some y0:=by simpa [Value.cells,o0,k0]using h0
  obtain⟨l,A,c,e1,hl,hCC⟩:=ho H enc w base spare held n _ _ aa
  simp at e1
  subst e1;exact⟨A,c,l,rfl,hl,hCC⟩
end
theorem zHO {e:Nat} {α:Type} {d:Kd α} {w:World} {A:Option Addr} {l:List (List α)} (h:(Kd.slice e d).C w A l.length l):l.length≤9223372036854775807 ∧ ∀ r∈l,r.length≤9223372036854775807:=by
  refine⟨h.2.1,fun r hr=>?_⟩
  obtain⟨j,hj,rfl⟩:=List.mem_iff_getElem.1 hr
  obtain⟨ad,_,hc⟩:=h.2.2 (by omega)
  obtain⟨c,_,hK,_⟩:=hc j _ (List.getElem?_eq_getElem hj)
  obtain⟨A',c',_,_,hC⟩:=hK
  exact hC.2.1
end Go.Proofs.Ytembbpalgfikiaa.Lib
