/- The statement FnExactLinkKindSaid, proved: part 1 of 9 (texts of this session and of the kit's print, put together and cut to what is used by a program of it). -/
import Derived.Below
import Derived.Deep.Draws
import Derived.Deep.AppendLies
import Derived.Maps.AppendAt
import Derived.OwnWalk
import Derived.Laws.BytesArg
import Derived.Laws.MakeOwn
import Derived.Laws.OwnMore
import Derived.Deep.OwnRows
import Derived.Tactics
import Derived.Lib.ConvBytes
import Derived.Laws.Slices
import Derived.WalkKit
import Derived.KernelRfl
import Derived.RowKit3
import Derived.Deep.LoopGhost
import Derived.Deep.QuietTactic
import Derived.BigQuiet
import Derived.WideLaws
import Derived.Deep.DeepCutAuto
import Derived.Deep.CutBlock
import Derived.Deep.RegionHeld3
import Derived.Laws.Rows
import Derived.Lib.AppendStr
import Derived.ArgAppend
import Derived.Laws.IdiomCopy
import Derived.RowKit
import Derived.OrdersHeld
import Derived.Laws.BitsLemmas
import Derived.Laws.StructEq

set_option linter.unusedVariables false
set_option linter.unusedSimpArgs false
namespace Go.Proofs.YtembbpalgfikiaaW.PrintWords
open Go.RowKit
structure zA (p:Prop):Prop where mk :: (out:p)
structure qG (w w' : World):Prop where mk :: (out : ∃ n,w' = w.drewN n)
theorem qG.refl (w:World):qG w w:=⟨⟨0,rfl⟩⟩
theorem qG.step {w w' : World} (h:qG w w') (n:Nat):qG w (w'.drewN n):=by
 obtain⟨m,rfl⟩:=h
 exact⟨⟨m+n,World.drewN_drewN ..⟩⟩
theorem qG.below {w w' : World} (h:qG w w'):Below w.heap.size w w':=by
 obtain⟨n,rfl⟩:=h
 induction n with
 | zero=>exact Below.refl _ _
 | succ n ih=>rw[← World.drew_drewN];exact ih.drew
def rd (xs:List Int) (i:Int):Int:=xs.getD i.toNat 0
theorem zC {w W:World} (h:Below w.heap.size w W) (o:Obj):Below w.heap.size w (W.alloc o):=h.alloc h.size o
theorem zBM {B:Nat} {w W:World} (h:Below B w W):Below B w W.drew:=⟨h.os,h.tape,h.output,h.size,h.block⟩
theorem zB {B:Nat} {w W:World} (h:Below B w W) (n:Nat):Below B w (W.drewN n):=⟨h.os,h.tape,h.output,h.size,h.block⟩
theorem zFl {B:Nat} {w w1 w2:World} (h:Below B w w1) (hB:B≤w1.heap.size) (k:Below w1.heap.size w1 w2):Below B w w2:=
 h.trans ⟨k.os,k.tape,k.output,k.size,fun i hi=>k.block i (Nat.lt_of_lt_of_le hi hB)⟩
theorem JF {B:Nat} {w w1:World} (h:Below B w w1) (row:Option Nat) (hB:B≤w1.heap.size) {w2:World} (hg:w1.grownBy w2 row) (hr : ∀ k,row=some k→B≤k):Below B w w2:=h.grown hg hB hr
theorem zD2 {w w1:World} (h:Below w.heap.size w w1) {a:Addr} {v:Value} (hc:w.cell? a=some v):w1.cell? a=some v:=(h.cell (World.block_lt_of_cell? w a hc)).trans hc
theorem add_plain (g j:Nat):(⟨g,0,none⟩:Addr).add j=⟨g,j,none⟩:=by unfold Addr.add;split <;> simp_all
def zF5 (w:World) (k:IntKind) (A:Option Addr) (n:Nat) (xs:List Int):Prop:=
 xs.length=n∧n≤9223372036854775807∧(0<n → ∃ ad,A=some ad ∧ ∀ j,j<n→w.cell? (ad.add j)=some (.int k (xs.getD j 0)))
theorem zF5.at_ {w:World} {k:IntKind} {A:Option Addr} {n:Nat} {xs:List Int} (h:zF5 w k A n xs) (i:Int) (h0:0≤i) (h1:i<n) : ∃ ad,A=some ad∧w.cell? (ad.add i.toNat)=some (.int k (rd xs i)):=by
 obtain⟨ad,e,hc⟩:=h.2.2 (by omega)
 exact⟨ad,e,hc _ (by omega)⟩
theorem zIV (W:World) (base:Nat) (e:TypeId) (size:Nat):W.ownsRow base e size (.slice none 0 0) 0 []:=⟨by simp,.inl ⟨rfl,rfl⟩⟩
theorem zA3 {w:World} {base:Nat} {e:TypeId} {size n:Nat} {v:Value} {xs:List Value} (h:w.ownsRow base e size v n xs) (k:Nat) (hk:v.ownBlock=some k):base≤k:=by
 rcases h.2 with ⟨rfl,_⟩|⟨g,cap,cur,rfl,hb,_⟩
 next=>
  simp [Value.ownBlock]at hk
 have:g=k:=by simpa [Value.ownBlock]using hk
 omega
theorem zGG {w:World} {base:Nat} {e:TypeId} {size n:Nat} {v:Value} {xs:List Value} (h:w.ownsRow base e size v n xs) (k:Nat) (hk:v.ownBlock=some k):k<w.heap.size:=by
 rcases h.2 with ⟨rfl,_⟩|⟨g,cap,cur,rfl,hb,hh,_⟩
 next=>
  simp [Value.ownBlock]at hk
 have:g=k:=by simpa [Value.ownBlock]using hk
 subst this;exact(Array.getElem?_eq_some_iff.1 hh).1
theorem zGH {w:World} {base n:Nat} {e:TypeId} {size:Nat} {v:Value} {xs:List Value} (h:w.ownsRow base e size v n xs) : ∃ A c,v = .slice A n c:=by
 rcases h.2 with ⟨rfl,rfl⟩|⟨g,cap,cur,rfl,_⟩
 next=>
  exact⟨none,0,rfl⟩
 exact⟨_,cap,rfl⟩
section
variable {P : Program} {ops : Array Oper} {rest : List Oper} {o : Oper} {a : Act} {Q : Exit → Act → World → Prop}
end
section
variable {P : Program}
end
section
variable {P : Program} {ops : Array Oper} {rest : List Oper} {o : Oper} {a : Act} {Q : Exit → Act → World → Prop}
end
def LeO {α:Type} (a b:Option α):Prop := ∀ r,a=some r→b=some r
theorem LeO.refl {α:Type} (a:Option α):LeO a a:=fun _ h=>h
theorem LeO.none {α:Type} (b:Option α):LeO Option.none b:=fun _ h=>by cases h
theorem LeO.trans {α:Type} {a b c:Option α} (h:LeO a b) (k:LeO b c):LeO a c:=fun r hr=>k r (h r hr)
theorem LeO.ite {α:Type} {c:Prop} [Decidable c] {a a' b b' : Option α} (h:LeO a a') (k:LeO b b'):LeO (if c then a else b) (if c then a' else b'):=by
 split
 next=>
  exact h
 exact k
theorem LeO.bind {α β:Type} {a a' : Option α} {f f' : α→Option β} (h:LeO a a') (k : ∀ x,LeO (f x) (f' x)):LeO (a.bind f) (a'.bind f'):=by
 intro r hr
 obtain⟨x,hx,hf⟩:=Option.bind_eq_some_iff.1 hr
 exact Option.bind_eq_some_iff.2 ⟨x,h x hx,k x r hf⟩
theorem zC4 {α:Type} {g:Nat→Option α} (h : ∀ k,LeO (g k) (g (k+1))) (k:Nat) : ∀ j,LeO (g k) (g (k+j))
 | 0=>LeO.refl _
 | j+1=>(zC4 h k j).trans (h (k+j))
theorem zGI {α:Type} {g:Nat→Option α} (h : ∀ k,LeO (g k) (g (k+1))) {k k' : Nat} (hk:k≤k') {r : α} (hr:g k=some r):g k' = some r:=by
 have:=zC4 h k (k' - k) r hr
 rwa [Nat.add_sub_cancel' hk]at this
def QN {α:Type} (R : α→List Value→Prop) (size:Nat) (ps:List α) (cs:List Value):Prop:=
 cs.length=ps.length*size ∧ ∀ j p,ps[j]?=some p→R p ((cs.drop (j*size)).take size)
theorem QN.none {α:Type} (R : α→List Value→Prop) (size:Nat):QN R size [] []:=⟨by simp,fun j p h=>by simp at h⟩
theorem QN.snoc {α:Type} {R : α→List Value→Prop} {size:Nat} {ps:List α} {cs c:List Value} {p : α} (h:QN R size ps cs) (hp:R p c) (hc:c.length=size):QN R size (ps ++ [p]) (cs++c):=by
 refine⟨by rw[List.length_append,h.1,hc,List.length_append,List.length_singleton,Nat.add_mul,Nat.one_mul],fun j q hq=>?_⟩
 rcases Nat.lt_or_ge j ps.length with hj|hj
 next=>
  rw[List.getElem?_append_left hj]at hq
  have h1:j*size+size≤cs.length:=by rw[h.1,← Nat.succ_mul];exact Nat.mul_le_mul_right _ hj
  have h2:=h.2 j q hq
  rw[List.drop_append_of_le_length (by omega),List.take_append_of_le_length (by rw[List.length_drop];omega)]
  exact h2
 have hj' : j=ps.length:=by
  have:=(List.getElem?_eq_some_iff.1 hq).1
  rw[List.length_append,List.length_singleton]at this
  omega
 subst hj';have hq' : p=q:=by simpa using hq
 subst hq';rw[← h.1,List.drop_left,← hc,List.take_length]
 exact hp
theorem QN.zCX {α:Type} {R R' : α→List Value→Prop} {size:Nat} {ps:List α} {cs:List Value} (h:QN R size ps cs) (hR : ∀ p c,R p c→R' p c):QN R' size ps cs:=⟨h.1,fun j p hj=>hR _ _ (h.2 j p hj)⟩
def QH {α:Type} (R : α→List Value→Prop) (size:Nat) (w:World) (A:Option Addr) (n:Nat) (ps:List α):Prop:=
 ps.length=n∧n≤9223372036854775807∧(0<n → ∃ ad,A=some ad ∧ ∀ j p,ps[j]?=some p → ∃ c,c.length=size∧R p c ∧ ∀ i u,c[i]?=some u→w.cell? (ad.add (j*size+i))=some u)
theorem QH.get_ {α:Type} {R : α→List Value→Prop} {size:Nat} {w:World} {A:Option Addr} {n:Nat} {ps:List α} (h:QH R size w A n ps) (d : α) (i:Int) (h0:0≤i) (h1:i<n) :
 ∃ ad c,A=some ad∧c.length=size∧R (ps.getD i.toNat d) c ∧ ∀ j u,c[j]?=some u→w.cell? (ad.add (i.toNat*size+j))=some u:=by
 obtain⟨ad,e,hc⟩:=h.2.2 (by omega)
 have hl:i.toNat<ps.length:=by have:=h.1;omega
 obtain⟨c,hs,hr,hcell⟩:=hc i.toNat _ (List.getElem?_eq_getElem hl)
 refine⟨ad,c,e,hs,?_,hcell⟩
 rw[List.getD_eq_getElem?_getD,List.getElem?_eq_getElem hl]
 exact hr
theorem QH.zCX {α:Type} {R R' : α→List Value→Prop} {size:Nat} {w w1:World} {A:Option Addr} {n:Nat} {ps:List α} (h:QH R size w A n ps) (hb:Below w.heap.size w w1) (hR : ∀ p c,R p c→R' p c):QH R' size w1 A n ps:=
 ⟨h.1,h.2.1,fun hn=>by
  obtain⟨ad,e,hc⟩:=h.2.2 hn
  refine⟨ad,e,fun j p hj=>?_⟩
  obtain⟨c,hs,hr,hcell⟩:=hc j p hj
  exact⟨c,hs,hR _ _ hr,fun i u hu=>zD2 hb (hcell i u hu)⟩⟩
theorem zD3 {α:Type} {R : α→List Value→Prop} {w:World} {base n size:Nat} {e:TypeId} {v:Value} {ps:List α} {cs:List Value} (h:w.ownsRow base e size v n cs) (hR:QN R size ps cs) (hn:ps.length=n) :
 ∃ A c,v = .slice A n c∧QH R size w A n ps:=by
 rcases Nat.eq_zero_or_pos n with h0|h0
 next=>
  rcases h.2 with ⟨rfl,rfl⟩|⟨g,cap,cur,rfl,_⟩
  next=>
   exact⟨none,0,rfl,hn,by omega,fun hp=>absurd hp (by omega)⟩
  exact⟨_,cap,rfl,hn,by omega,fun hp=>absurd hp (by omega)⟩
 obtain⟨g,cap,rfl,_,_⟩:=h.form h0
 have hm:n≤9223372036854775807:=by
  rcases h.2 with ⟨_,h1⟩|⟨g',cap',cur,he,_,_,h1,h2,_⟩
  next=>
   omega
  simp only [maxLen]at h2
  omega
 refine⟨_,cap,rfl,hn,hm,fun _=>⟨_,rfl,fun j p hj=>⟨(cs.drop (j*size)).take size,?_,hR.2 j p hj,fun i u hu=>?_⟩⟩⟩
 next=>
  have hjl:=(List.getElem?_eq_some_iff.1 hj).1
  have h1:j*size+size≤cs.length:=by rw[hR.1,← Nat.succ_mul];exact Nat.mul_le_mul_right _ hjl
  rw[List.length_take,List.length_drop]
  omega
 refine h.cells (g:=g) rfl _ u ?_
 rw[List.getElem?_take]at hu
 split at hu
 next=>
  rw[List.getElem?_drop]at hu
  exact hu
 cases hu
theorem zDo (ad:Addr) (m j:Nat) (hj:0<j):ad.add (m+j)=⟨(ad.add m).block,(ad.add m).off+j,none⟩:=by
 unfold Addr.add
 by_cases hm:m=0
 case neg=>
  simp [hm,Nat.add_assoc]
 subst hm;simp [Nat.ne_of_gt hj]
section
variable {P : Program} {ops : Array Oper} {rest : List Oper} {o : Oper} {a : Act} {Q : Exit → Act → World → Prop}
theorem zB2 {w0 W:World} (base:Nat) (hgd:o.guard=none) (s x:Operand) (t e:TypeId) (z:Value) (size bytes:Nat)
 (ho:o.op = .call { callee := .builtin .append,args:=#[s,x],argTypes:=#[t,t] })
 (ht:P.underlying t=some (.slice e)) (hinfo:(P.info? e).map (fun i=>(i.zero,i.size,i.bytes))=some (some z,size,bytes)) (hz:z.cells.size=size) (aa:0<size) (ab:0<bytes)
 (v:Value) (n:Nat) (xs ys:List Value) (hs:a.eval s=v) (hx:a.eval x = .slice (some ⟨W.heap.size,0,none⟩) 1 1) (hys:ys.length=size) (h1 : ∀ u∈ys,u.oneCell' = true)
 (HO:W.ownsRow base e size v n xs) (HB:Below base w0 W) (hbase:base≤W.heap.size) (hl:(n+1)*bytes≤140737488355328)
 (h : ∀ v1 w1,w1.ownsRow base e size v1 (n+1) (xs++ys)→Below base w0 w1→W.grownBy w1 v.ownBlock→(v1.ownBlock=v.ownBlock ∨ ∃ b,v1.ownBlock=some b∧W.heap.size≤b)→wpList P ops Q rest (a.put o.dst v1) w1) :
 wpList P ops Q (o :: rest) a (W.alloc (.cells ys.toArray e)):=by
 obtain⟨i0,hi,hzz⟩:=Option.map_eq_some_iff.1 hinfo
 simp only [Prod.mk.injEq]at hzz
 obtain⟨ad,ae,af⟩:=hzz
 have hlen:n+1≤140737488355328:=Nat.le_trans (Nat.le_mul_of_pos_right _ ab) hl
 refine wpList_append_own_at (W.alloc (.cells ys.toArray e)) hgd s x t ho base e i0 z size bytes ht hi ad ae af hz aa v n xs hs (HO.alloc _) ⟨W.heap.size,0,none⟩ 1 1 ys hx (by rw[hys];simp)
  (by simpa using World.news_of_block (cs:=ys.toArray) (t:=e) (fr:=(0,0)) (heap_alloc_new W (.cells ys.toArray e))) h1 (by simp only [maxLen];omega) hl (by simp;omega) ?_
 intro v1 w1 hown hg _ hat
 refine h v1 w1 hown ((HB.alloc hbase _).grown hg (by simp;omega) (zA3 HO)) (World.grownBy.trans (World.grownBy_alloc W _ _) hg) ?_
 rcases hat with hat|hat
 next=>
  exact .inl hat
 exact .inr ⟨_,hat,by simp⟩
end
theorem own_ne {w:World} {base:Nat} {e t:TypeId} {size n g:Nat} {v:Value} {xs:List Value} {cs:Array Value} (h:w.ownsRow base e size v n xs) (hg:w.heap[g]?=some (.cells cs t (0,0))) (hne:e≠t):some g≠v.ownBlock:=by
 rcases h.2 with ⟨rfl,_⟩|⟨g',cap,cur,rfl,_,hh,_⟩
 next=>
  simp [Value.ownBlock]
 intro he;have:g=g':=by simpa [Value.ownBlock]using he
 subst this;rw[hg]at hh
 injection hh with hh
 injection hh with _ ht
 exact hne ht.symm
theorem zGJ {w:World} {g:Nat} {t:TypeId} {cs:Array Value} (h:w.heap[g]?=some (.cells cs t (0,0))) (i:Nat) (u:Value):(w.setCell ⟨g,i,none⟩ u).heap[g]?=some (.cells (cs.setIfInBounds i u) t (0,0)):=by
 simp [World.setCell,Array.getElem?_modify,h]
theorem qJ {w:World} {g:Nat} {t:TypeId} {cs:Array Value} (h:w.heap[g]?=some (.cells cs t (0,0))) {p:Addr} (hp:g≠p.block) (u:Value):(w.setCell p u).heap[g]?=some (.cells cs t (0,0)):=(Below.heap_setCell w p u g hp).trans h
theorem qT {w:World} {g:Nat} {o:Obj} (h:w.heap[g]?=some o):g<w.heap.size:=(Array.getElem?_eq_some_iff.1 h).1
theorem zK {w:World} {g:Nat} {t:TypeId} {cs:Array Value} (h:w.heap[g]?=some (.cells cs t (0,0))) (i:Nat):w.cell? ⟨g,i,none⟩=cs[i]?:=cell_of_row w g i cs t (0,0) h
theorem zP {w:World} {g:Nat} {t:TypeId} {cs:Array Value} (h:w.heap[g]?=some (.cells cs t (0,0))) (i:Nat):w.frozen? ⟨g,i,none⟩=false:=by simp [World.frozen?,h]
theorem qj {w w1:World} {g:Nat} {o:Obj} {row:Option Nat} (h:w.heap[g]?=some o) (hg:w.grownBy w1 row) (hne:some g≠row):w1.heap[g]?=some o:=(hg.block g (qT h) hne).trans h
theorem Qz {w:World} {g g' : Nat} {t t' : TypeId} {cs cs' : Array Value} (h:w.heap[g]?=some (.cells cs t (0,0))) (h' : w.heap[g']?=some (.cells cs' t' (0,0))) (hne:t≠t'):g≠g':=by
 rintro rfl
 rw[h]at h'
 injection h' with h'
 injection h' with _ ht
 exact hne ht
def zD4 (w w' : World) (g:Nat) (row:Option Nat):Prop:=w.heap.size≤w'.heap.size ∧ ∀ i,i<w.heap.size→i≠g→some i≠row→w'.heap[i]?=w.heap[i]?
theorem zD4.trans {w w1 w2:World} {g:Nat} {row aa:Option Nat} (h:zD4 w w1 g row) (k:zD4 w1 w2 g aa) (hr:aa=row ∨ ∃ b,aa=some b∧w.heap.size≤b):zD4 w w2 g row:=
 ⟨Nat.le_trans h.1 k.1,fun i hi hg hn=>by
  refine(k.2 i (Nat.lt_of_lt_of_le hi h.1) hg ?_).trans (h.2 i hi hg hn)
  rcases hr with rfl|⟨b,rfl,hb⟩
  next=>
   exact hn
  intro e;injection e with e
  omega⟩
def Ev {α:Type} (g:Nat→Option α) (r : α):Prop := ∃ K,∀ k,K≤k→g k=some r
theorem Ev.of {α:Type} {g:Nat→Option α} {r : α} (hg : ∀ k,LeO (g k) (g (k+1))) {k:Nat} (h:g k=some r):Ev g r:=⟨k,fun _ hk=>zGI hg hk h⟩
theorem Ev.now {α:Type} (r : α):Ev (fun _=>some r) r:=⟨0,fun _ _=>rfl⟩
theorem Ev.rounds {α:Type} {g:Nat→Option α} {r : α} (h:Ev g r) : ∃ k,g k=some r:=by
 obtain⟨K,h⟩:=h
 exact⟨K,h K (Nat.le_refl _)⟩
theorem Ev.bind {α β:Type} {g:Nat→Option α} {f:Nat → α→Option β} {a : α} {r : β} (h:Ev g a) (k:Ev (fun n=>f n a) r):Ev (fun n=>(g n).bind (f n)) r:=by
 obtain⟨K,h⟩:=h
 obtain⟨K',k⟩:=k
 refine⟨max K K',fun n hn=>?_⟩
 have h1:=h n (by omega)
 have h2:=k n (by omega)
 simp only [h1,Option.bind_some]
 exact h2
theorem Ev.step {α:Type} {g f:Nat→Option α} {r : α} (h : ∀ k,g (k+1)=f k) (k:Ev f r):Ev g r:=by
 obtain⟨K,k⟩:=k
 refine⟨K+1,fun n hn=>?_⟩
 obtain⟨m,rfl⟩ : ∃ m,n=m+1:=⟨n-1,by omega⟩
 rw[h]
 exact k m (by omega)
theorem Ev.congr {α:Type} {g f:Nat→Option α} {r : α} (h : ∀ k,g k=f k) (k:Ev f r):Ev g r:=by
 obtain⟨K,k⟩:=k
 exact⟨K,fun n hn=>(h n).trans (k n hn)⟩
section
variable {P : Program} {ops : Array Oper} {o : Oper} {a : Act} {Q : Exit → Act → World → Prop} {K : Act → World → Prop}
end
theorem zFm {w:World} {base base' : Nat} {e:TypeId} {size n:Nat} {v:Value} {xs:List Value} (h:w.ownsRow base e size v n xs) (hb:base' ≤ base):w.ownsRow base' e size v n xs:=by
 obtain⟨h1,h2⟩:=h
 refine⟨h1,?_⟩
 rcases h2 with h2|⟨g,cap,cur,rfl,hg,r⟩
 next=>
  exact .inl h2
 exact .inr ⟨g,cap,cur,rfl,Nat.le_trans hb hg,r⟩
section
variable {α : Type} {enc : α → Value} {d : α}
def zAo (enc : α→Value) (xs:List α):List Value:=xs.map enc
def rdOf (d : α) (xs:List α) (i:Int) : α:=xs.getD i.toNat d
theorem zC5 (xs:List α):(zAo enc xs).length=xs.length:=by simp [zAo]
theorem zHQ (xs:List α) (j:Nat) (h:j<xs.length):(zAo enc xs)[j]?=some (enc (xs.getD j d)):=by
 simp [zAo,List.getElem?_eq_getElem h,List.getD_eq_getElem?_getD]
def zD5 (enc : α→Value) (d : α) (w:World) (A:Option Addr) (n:Nat) (xs:List α):Prop:=
 xs.length=n∧n≤9223372036854775807∧(0<n → ∃ ad,A=some ad ∧ ∀ j,j<n→w.cell? (ad.add j)=some (enc (xs.getD j d)))
theorem zD5.at_ {w:World} {A:Option Addr} {n:Nat} {xs:List α} (h:zD5 enc d w A n xs) (i:Int) (h0:0≤i) (h1:i<n) : ∃ ad,A=some ad∧w.cell? (ad.add i.toNat)=some (enc (rdOf d xs i)):=by
 obtain⟨ad,e,hc⟩:=h.2.2 (by omega)
 exact⟨ad,e,hc _ (by omega)⟩
theorem zGK {W:World} {base g n cap:Nat} {e:TypeId} {xs:List α} (h:W.ownsRow base e 1 (.slice (some ⟨g,0,none⟩) n cap) n (zAo enc xs)) (i:Int) (h0:0≤i) (h1:i<n) :
 W.cell? ⟨g,i.toNat,none⟩=some (enc (rdOf d xs i))∧W.frozen? ⟨g,i.toNat,none⟩=false:=by
 have hl:xs.length=n:=by have:=h.1;simp [zAo]at this;exact this
 constructor
 next=>
  have hc:=h.cells (g:=g) rfl i.toNat _ (zHQ (d:=d) xs i.toNat (by omega))
  rwa [add_plain]at hc
 rcases h.2 with ⟨h',_⟩|⟨g',cap',cur,h',_,hh,_⟩
 next=>
  cases h'
 have:g=g':=by injection h' with h';injection h' with h';injection h' with h'
 subst this;simp [World.frozen?,hh]
theorem zDp {W:World} {base g n cap:Nat} {e:TypeId} {xs:List α} (h:W.ownsRow base e 1 (.slice (some ⟨g,0,none⟩) n cap) n (zAo enc xs)) (i:Int) (x : α) :
 (W.setCell ⟨g,i.toNat,none⟩ (enc x)).ownsRow base e 1 (.slice (some ⟨g,0,none⟩) n cap) n (zAo enc (xs.set i.toNat x))∧W.grownBy (W.setCell ⟨g,i.toNat,none⟩ (enc x)) (some g):=by
 have hs:=h.stored i.toNat (enc x)
 have he:(zAo enc xs).set i.toNat (enc x)=zAo enc (xs.set i.toNat x):=by simp [zAo,List.map_set]
 rwa [he]at hs
end
section
variable {α : Type} {P : Program} {ops : Array Oper} {rest : List Oper} {o : Oper} {a : Act} {Q : Exit → Act → World → Prop}
end
def NeRow (v v' : Value):Prop := ∀ k,v.ownBlock=some k→v'.ownBlock≠some k
theorem ne_below {W w1:World} {v1 v' : Value} {base n size n1 aa:Nat} {e e1:TypeId} {xs ab:List Value} (h1:w1.ownsRow W.heap.size e1 aa v1 n1 ab) (ho:W.ownsRow base e size v' n xs):NeRow v1 v':=by
 intro k hk hk'
 have h2:=zA3 h1 k hk
 have h3:=zGG ho k hk'
 omega
theorem zG {w:World} {g:Nat} {o:Obj} (h:w.heap[g]?=some o) (o' : Obj):(w.alloc o').heap[g]?=some o:=(Below.heap_alloc w o' g (qT h)).trans h
theorem zJ {w:World} {g:Nat} {o:Obj} (h:w.heap[g]?=some o):w.drew.heap[g]?=some o:=h
theorem zH {w:World} {g:Nat} {o:Obj} (h:w.heap[g]?=some o) (n:Nat):(w.drewN n).heap[g]?=some o:=h
theorem zO {w w1:World} {g:Nat} {o:Obj} (h:w.heap[g]?=some o) (hb:Below w.heap.size w w1):w1.heap[g]?=some o:=(hb.block g (qT h)).trans h
theorem zEZ (w:World) (o:Obj):(w.alloc o).heap[w.heap.size]?=some o:=heap_alloc_new w o
section
variable {P : Program}
theorem zFn {fn:Func} {p u:Tmp} {ty:TypeId} (h:fn.results = #[.cell p ty,.tmp u]) (tmps:Array Value) (w:World) (g:Nat) (t:TypeId) (cs:Array Value) (fr:Nat × Nat) (d:TypeDesc)
 (hp:tmps.getD p undef = .pointer (some ⟨g,0,none⟩)) (hg:w.heap[g]?=some (.cells cs t fr))
 (hu:P.underlying ty=some d) (hd:(match d with | .struct _ | .array _ _=>true|_=>false)=true) (hi:(P.info? ty).map (·.size)=some cs.size) :
 (results fn tmps).run P w = .ok (.tuple #[.agg cs,tmps.getD u undef]) w:=by
 have hp' : tmps[p]?.getD undef = .pointer (some ⟨g,0,none⟩):=by simpa using hp
 simp [results,h,hp',asAddr,run_loadVar_row w g t ty cs fr d hg hu hd hi]
end
theorem own_le {w:World} {base n m c size:Nat} {e:TypeId} {A:Option Addr} {xs:List Value} (h:w.ownsRow base e size (.slice A m c) n xs):m≤c:=by
 rcases h.2 with ⟨he,_⟩|⟨g,cap,cur,he,_,_,hnc,_⟩
 next=>
  injection he with _ h2 h3
  omega
 injection he with _ h2 h3
 omega
def Jv {α:Type} (R : α→List Value→Prop) (e:TypeId) (size:Nat) (w:World) (base:Nat) (v:Value) (ps:List α):Prop:=
 ∃ inner,w.ownsRow base e size v ps.length inner∧QN R size ps inner
section
variable {α : Type} {R R' : α → List Value → Prop} {e : TypeId} {size : Nat} {w w1 : World} {base : Nat} {v : Value} {ps : List α}
theorem Jv.none_ (R : α→List Value→Prop) (e:TypeId) (size:Nat) (w:World) (base:Nat):Jv R e size w base (.slice none 0 0) []:=⟨[],zIV _ _ _ _,QN.none _ _⟩
theorem Jv.zCX (h:Jv R e size w base v ps) (hR : ∀ p c,R p c→R' p c):Jv R' e size w base v ps:=by
 obtain⟨inner,ho,hr⟩:=h
 exact⟨inner,ho,hr.zCX hR⟩
theorem Jv.reads (h:Jv R e size w base v ps) : ∃ A c,v = .slice A ps.length c∧ps.length≤c∧QH R size w A ps.length ps:=by
 obtain⟨inner,ho,hr⟩:=h
 obtain⟨A,c,rfl,hrow⟩:=zD3 ho hr rfl
 exact⟨A,c,rfl,own_le ho,hrow⟩
theorem Jv.zHR (h:Jv R e size w base v ps) {g:Nat} {t:TypeId} {cells:Array Value} (hb:w.heap[g]?=some (.cells cells t (0,0))) (ht:e≠t):some g≠v.ownBlock:=by
 obtain⟨inner,ho,hr⟩:=h
 exact own_ne ho hb ht
end
section
variable {P : Program} {ops : Array Oper} {rest : List Oper} {o : Oper} {a : Act} {Q : Exit → Act → World → Prop} {α : Type} {R : α → List Value → Prop}
end
section
variable {P : Program} {ops : Array Oper} {o : Oper} {a : Act} {Q : Exit → Act → World → Prop} {K : Act → World → Prop} {α : Type} {R : α → List Value → Prop}
end
theorem QH.zI8 {α:Type} {R : α→List Value→Prop} {size:Nat} {w:World} {ad:Addr} {n:Nat} {ps:List α} (h:QH R size w (some ad) n ps) :
 ∃ inner,QN R size ps inner ∧ ∀ j u,inner[j]?=some u→w.cell? (ad.add j)=some u:=by
 have key : ∀ m,m≤ps.length → ∃ inner,QN R size (ps.take m) inner ∧ ∀ j u,inner[j]?=some u→w.cell? (ad.add j)=some u:=by
  intro m;induction m with
  | zero=>exact fun _=>⟨[],QN.none _ _,fun j u hu=>by simp at hu⟩
  | succ m ih=>
   intro hm;obtain⟨inner,hr,hc⟩:=ih (by omega)
   obtain⟨ad',he,hcell⟩:=h.2.2 (by have:=h.1;omega)
   injection he with he
   subst he;obtain⟨c,hcl,hp,hcc⟩:=hcell m _ (List.getElem?_eq_getElem (show m<ps.length by omega))
   refine⟨inner++c,?_,fun j u hu=>?_⟩
   next=>
    rw[List.take_succ_eq_append_getElem (show m<ps.length by omega)]
    exact hr.snoc hp hcl
   have hil:inner.length=m*size:=by rw[hr.1,List.length_take,Nat.min_eq_left (by omega)]
   rcases Nat.lt_or_ge j inner.length with hj|hj
   next=>
    rw[List.getElem?_append_left hj]at hu
    exact hc j u hu
   rw[List.getElem?_append_right hj]at hu
   have:=hcc (j-inner.length) u hu
   rwa [hil,Nat.add_sub_cancel' (by omega)]at this
 obtain⟨inner,hr,hc⟩:=key ps.length (Nat.le_refl _)
 rw[List.take_length]at hr
 exact⟨inner,hr,hc⟩
section
variable {α : Type} {P : Program}
end
section
variable {P : Program} {ops : Array Oper} {rest : List Oper} {o : Oper} {a : Act} {Q : Exit → Act → World → Prop}
end
structure Kd (α:Type) where
 sz:Nat
 E:List Nat
 K:World → α→List Value→Prop
 M:World→Nat→(Nat→Prop) → α→List Value→Prop
 K_len : ∀ {w x cs},K w x cs→cs.length=sz
 K_one : ∀ {w x cs},K w x cs → ∀ u∈cs,u.oneCell' = true
 K_below : ∀ {w w1:World} {x cs},Below w.heap.size w w1→K w x cs→K w1 x cs
 K_of_M : ∀ {w base ok x cs},M w base ok x cs→K w x cs
 M_mono : ∀ {w base ok ok' x cs},(∀ k,ok k→ok' k)→M w base ok x cs→M w base ok' x cs
 M_bound : ∀ {w:World} {base ok x cs},M w base ok x cs→M w base (fun k=>ok k∧base≤k∧k<w.heap.size ∧ ∃ q,q∈E ∧ ∃ cells,w.heap[k]?=some (.cells cells q (0,0))) x cs
 M_move : ∀ {w w1:World} {base ok x cs},(∀ k,ok k→w1.heap[k]?=w.heap[k]?)→M w base ok x cs→M w1 base ok x cs
 M_lower : ∀ {w base base' ok x cs},base' ≤ base→M w base ok x cs→M w base' ok x cs
theorem zHS {w w1:World} {base:Nat} {e:TypeId} {size n:Nat} {v:Value} {xs:List Value} (h:w.ownsRow base e size v n xs) (hm : ∀ k,v.ownBlock=some k→w1.heap[k]?=w.heap[k]?):w1.ownsRow base e size v n xs:=by
 obtain⟨h1,h2⟩:=h
 refine⟨h1,?_⟩
 rcases h2 with h2|⟨g,cap,cur,rfl,hg,hh,r⟩
 next=>
  exact .inl h2
 exact .inr ⟨g,cap,cur,rfl,hg,(hm g (by simp [Value.ownBlock])).trans hh,r⟩
theorem zB3 {w:World} {base:Nat} {e:TypeId} {size n:Nat} {v:Value} {xs:List Value} (h:w.ownsRow base e size v n xs) (k:Nat) (hk:v.ownBlock=some k) : ∃ cells,w.heap[k]?=some (.cells cells e (0,0)):=by
 rcases h.2 with ⟨rfl,_⟩|⟨g,cap,cur,rfl,hg,hh,r⟩
 next=>
  simp [Value.ownBlock]at hk
 have:g=k:=by simpa [Value.ownBlock]using hk
 subst this;exact⟨cur,hh⟩
namespace Kd
def C {α:Type} (d:Kd α) (w:World) (A:Option Addr) (n:Nat) (xs:List α):Prop:=QH (d.K w) d.sz w A n xs
def R {α:Type} (d:Kd α) (e:Nat) (w:World) (base:Nat) (ok:Nat→Prop) (v:Value) (xs:List α):Prop:=
 (∀ k,v.ownBlock=some k→ok k)∧Jv (d.M w base (fun k=>ok k∧some k≠v.ownBlock)) e d.sz w base v xs
section
variable {α : Type} {d : Kd α} {e : Nat} {w w1 : World} {base : Nat} {ok ok' : Nat → Prop} {v : Value} {xs : List α}
theorem qD {A:Option Addr} {n:Nat} (h:d.C w A n xs) (hb:Below w.heap.size w w1):d.C w1 A n xs:=QH.zCX h hb (fun _ _ hp=>d.K_below hb hp)
theorem zD6 (d:Kd α) (e:Nat) (w:World) (base:Nat) (ok:Nat→Prop):d.R e w base ok (.slice none 0 0) []:=⟨fun k hk=>by simp [Value.ownBlock]at hk,Jv.none_ _ _ _ _ _⟩
theorem qC (h:d.R e w base ok v xs) (hok : ∀ k,ok k→ok' k):d.R e w base ok' v xs:=⟨fun k hk=>hok k (h.1 k hk),h.2.zCX (fun _ _ hp=>d.M_mono (fun k hk=>⟨hok k hk.1,hk.2⟩) hp)⟩
theorem Zy (h:d.R e w base ok v xs):d.R e w base (fun k=>ok k∧base≤k∧k<w.heap.size ∧ ∃ q,q∈e :: d.E ∧ ∃ cells,w.heap[k]?=some (.cells cells q (0,0))) v xs:=by
 obtain⟨h0,inner,ho,hr⟩:=h
 refine⟨fun k hk=>?_,inner,ho,hr.zCX (fun _ _ hp=>d.M_mono (fun k hk=>?_) (d.M_bound hp))⟩
 next=>
  obtain⟨cells,hc⟩:=zB3 ho k hk
  exact⟨h0 k hk,zA3 ho k hk,zGG ho k hk,e,List.mem_cons_self,cells,hc⟩
 obtain⟨⟨h1,h2⟩,h3,h4,q,hq,hc⟩:=hk
 exact⟨⟨h1,h3,h4,q,List.mem_cons_of_mem _ hq,hc⟩,h2⟩
theorem zC6 (h:d.R e w base ok v xs) (hm : ∀ k,ok k→w1.heap[k]?=w.heap[k]?):d.R e w1 base ok v xs:=by
 obtain⟨h0,inner,ho,hr⟩:=h
 exact⟨h0,inner,zHS ho (fun k hk=>hm k (h0 k hk)),hr.zCX (fun _ _ hp=>d.M_move (fun k hk=>hm k hk.1) hp)⟩
theorem qx {base' : Nat} (h:d.R e w base ok v xs) (hb:base' ≤ base):d.R e w base' ok v xs:=by
 obtain⟨h0,inner,ho,hr⟩:=h
 exact⟨h0,inner,zFm ho hb,hr.zCX (fun _ _ hp=>d.M_lower hb hp)⟩
theorem zF6 (h:d.R e w base ok v xs) (hm : ∀ k,ok k→k<w.heap.size→w1.heap[k]?=w.heap[k]?):d.R e w1 base ok v xs:=
 qC (zC6 (Zy h) (fun k hk=>hm k hk.1 hk.2.2.1)) (fun _ hk=>hk.1)
theorem zGL {x : α} {cs:List Value} (h:d.M w base ok x cs) (hm : ∀ k,ok k→k<w.heap.size→w1.heap[k]?=w.heap[k]?):d.M w1 base ok x cs:=
 d.M_mono (fun _ hk=>hk.1) (d.M_move (fun k hk=>hm k hk.1 hk.2.2.1) (d.M_bound h))
theorem qN (h:d.R e w base ok v xs) (hb:Below w.heap.size w w1):d.R e w1 base ok v xs:=zF6 h (fun k _ hk=>hb.block k hk)
theorem zEa {x : α} {cs:List Value} (h:d.M w base ok x cs) (hb:Below w.heap.size w w1):d.M w1 base ok x cs:=zGL h (fun k _ hk=>hb.block k hk)
theorem zBN (h:d.R e w base ok v xs) {row:Option Nat} (hg:w.grownBy w1 row) (hok : ∀ k,ok k→some k≠row):d.R e w1 base ok v xs:=zF6 h (fun k ho hk=>hg.block k hk (hok k ho))
theorem ZR (h:d.R e w base ok v xs) {p:Addr} (hok : ∀ k,ok k→k≠p.block) (u:Value):d.R e (w.setCell p u) base ok v xs:=zF6 h (fun k ho _=>Below.heap_setCell w p u k (hok k ho))
theorem Za (h:d.R e w base ok v xs) {g t:Nat} {cells:Array Value} (hb:w.heap[g]?=some (.cells cells t (0,0))) (ht : ∀ q,q∈e :: d.E→q≠t):d.R e w base (fun k=>ok k∧k≠g) v xs:=
 qC (Zy h) (fun k hk=>⟨hk.1,by
  obtain⟨_,_,_,q,hq,cells',hc⟩:=hk
  rintro rfl
  rw[hc]at hb
  injection hb with hb
  injection hb with _ hb
  exact ht q hq hb⟩)
theorem R_set (h:d.R e w base ok v xs) {g t:Nat} {cells:Array Value} (hb:w.heap[g]?=some (.cells cells t (0,0))) (ht : ∀ q,q∈e :: d.E→q≠t) (j:Nat) (u:Value):d.R e (w.setCell ⟨g,j,none⟩ u) base ok v xs:=
 qC (ZR (p:=⟨g,j,none⟩) (Za h hb ht) (fun _ hk=>hk.2) u) (fun _ hk=>hk.1)
theorem zAR (h:d.R e w base ok v xs) : ∃ A c,v = .slice A xs.length c∧xs.length≤c∧d.C w A xs.length xs:=by
 obtain⟨A,c,he,hl,hr⟩:=Jv.reads h.2
 exact⟨A,c,he,hl,hr.zCX (Below.refl _ _) (fun _ _ hp=>d.K_of_M hp)⟩
theorem ZE (h:d.R e w base ok v xs) : ∃ A c,v = .slice A xs.length c:=by
 obtain⟨A,c,he,_⟩:=zAR h
 exact⟨A,c,he⟩
theorem zFo (h:d.R e w base ok v xs) : ∃ inner,w.ownsRow base e d.sz v xs.length inner:=by
 obtain⟨_,inner,ho,_⟩:=h
 exact⟨inner,ho⟩
theorem zCU (h:d.R e w base ok v xs) {g t:Nat} {cells:Array Value} (hb:w.heap[g]?=some (.cells cells t (0,0))) (ht:e≠t):some g≠v.ownBlock:=Jv.zHR h.2 hb ht
end
def scalar {α:Type} (enc : α→Value) (h1 : ∀ x,(enc x).oneCell' = true):Kd α where
 sz:=1
 E := []
 K:=fun _ x cs=>cs = [enc x]
 M:=fun _ _ _ x cs=>cs = [enc x]
 K_len:=fun h=>by rw[h];rfl
 K_one:=fun h u hu=>by
  rw[h]at hu
  rw[List.mem_singleton.1 hu]
  exact h1 _
 K_below:=fun _ h=>h
 K_of_M:=fun h=>h
 M_mono:=fun _ h=>h
 M_bound:=fun h=>h
 M_move:=fun _ h=>h
 M_lower:=fun _ h=>h
def int (k:IntKind):Kd Int:=scalar (Value.int k) (fun _=>rfl)
def bool:Kd Bool:=scalar Value.bool (fun _=>rfl)
def slice {α:Type} (e:Nat) (d:Kd α):Kd (List α) where
 sz:=1
 E:=e :: d.E
 K:=fun w xs cs => ∃ A c,cs = [.slice A xs.length c]∧xs.length≤c∧d.C w A xs.length xs
 M:=fun w base ok xs cs => ∃ v,cs = [v]∧d.R e w base ok v xs
 K_len:=by
  rintro w x cs ⟨A,c,rfl,_⟩
  rfl
 K_one:=by
  rintro w x cs ⟨A,c,rfl,_⟩ u hu
  rw[List.mem_singleton.1 hu]
  rfl
 K_below:=by
  rintro w w1 x cs hb ⟨A,c,rfl,hl,hr⟩
  exact⟨A,c,rfl,hl,qD hr hb⟩
 K_of_M:=by
  rintro w base ok x cs ⟨v,rfl,h⟩
  obtain⟨A,c,rfl,hl,hr⟩:=zAR h
  exact⟨A,c,rfl,hl,hr⟩
 M_mono:=by
  rintro w base ok ok' x cs hok ⟨v,rfl,h⟩
  exact⟨v,rfl,qC h hok⟩
 M_bound:=by
  rintro w base ok x cs ⟨v,rfl,h⟩
  exact⟨v,rfl,Zy h⟩
 M_move:=by
  rintro w w1 base ok x cs hm ⟨v,rfl,h⟩
  exact⟨v,rfl,zC6 h hm⟩
 M_lower:=by
  rintro w base base' ok x cs hb ⟨v,rfl,h⟩
  exact⟨v,rfl,qx h hb⟩
def pair {α β:Type} (a:Kd α) (b:Kd β):Kd (α × β) where
 sz:=a.sz+b.sz
 E:=a.E++b.E
 K:=fun w x cs => ∃ c0 c1,cs=c0++c1∧a.K w x.1 c0∧b.K w x.2 c1
 M:=fun w base ok x cs => ∃ c0 c1,cs=c0++c1∧a.M w base ok x.1 c0∧b.M w base ok x.2 c1
 K_len:=by
  rintro w x cs ⟨c0,c1,rfl,h0,h1⟩
  rw[List.length_append,a.K_len h0,b.K_len h1]
 K_one:=by
  rintro w x cs ⟨c0,c1,rfl,h0,h1⟩ u hu
  rcases List.mem_append.1 hu with hu|hu
  next=>
   exact a.K_one h0 u hu
  exact b.K_one h1 u hu
 K_below:=by
  rintro w w1 x cs hb ⟨c0,c1,rfl,h0,h1⟩
  exact⟨c0,c1,rfl,a.K_below hb h0,b.K_below hb h1⟩
 K_of_M:=by
  rintro w base ok x cs ⟨c0,c1,rfl,h0,h1⟩
  exact⟨c0,c1,rfl,a.K_of_M h0,b.K_of_M h1⟩
 M_mono:=by
  rintro w base ok ok' x cs hok ⟨c0,c1,rfl,h0,h1⟩
  exact⟨c0,c1,rfl,a.M_mono hok h0,b.M_mono hok h1⟩
 M_bound:=by
  rintro w base ok x cs ⟨c0,c1,rfl,h0,h1⟩
  refine⟨c0,c1,rfl,a.M_mono ?_ (a.M_bound h0),b.M_mono ?_ (b.M_bound h1)⟩
  next=>
   rintro k ⟨h2,h3,h4,q,hq,hc⟩
   exact⟨h2,h3,h4,q,List.mem_append_left _ hq,hc⟩
  rintro k ⟨h2,h3,h4,q,hq,hc⟩
  exact⟨h2,h3,h4,q,List.mem_append_right _ hq,hc⟩
 M_move:=by
  rintro w w1 base ok x cs hm ⟨c0,c1,rfl,h0,h1⟩
  exact⟨c0,c1,rfl,a.M_move hm h0,b.M_move hm h1⟩
 M_lower:=by
  rintro w base base' ok x cs hb ⟨c0,c1,rfl,h0,h1⟩
  exact⟨c0,c1,rfl,a.M_lower hb h0,b.M_lower hb h1⟩
def iso {α β:Type} (d:Kd α) (f : β → α):Kd β where
 sz:=d.sz
 E:=d.E
 K:=fun w x cs=>d.K w (f x) cs
 M:=fun w base ok x cs=>d.M w base ok (f x) cs
 K_len:=d.K_len
 K_one:=d.K_one
 K_below:=d.K_below
 K_of_M:=d.K_of_M
 M_mono:=d.M_mono
 M_bound:=d.M_bound
 M_move:=d.M_move
 M_lower:=d.M_lower
def bot {α:Type} (sz:Nat) (E:List Nat):Kd α where
 sz:=sz
 E:=E
 K:=fun _ _ _=>False
 M:=fun _ _ _ _ _=>False
 K_len:=fun h=>h.elim
 K_one:=fun h=>h.elim
 K_below:=fun _ h=>h
 K_of_M:=fun h=>h
 M_mono:=fun _ h=>h
 M_bound:=fun h=>h
 M_move:=fun _ h=>h
 M_lower:=fun _ h=>h
def upto {α:Type} (F:Kd α→Kd α) (sz:Nat) (E:List Nat):Nat→Kd α
 | 0=>bot sz E
 | n+1=>F (upto F sz E n)
theorem zGM {α:Type} {d:Kd α} {w:World} {A:Option Addr} {n:Nat} {xs:List α} (h:d.C w A n xs) (z : α) (i:Int) (h0:0≤i) (h1:i<n) :
 ∃ ad c,A=some ad∧c.length=d.sz∧d.K w (xs.getD i.toNat z) c ∧ ∀ j u,c[j]?=some u→w.cell? (ad.add (i.toNat*d.sz+j))=some u:=QH.get_ h z i h0 h1
theorem zFp {α:Type} {d:Kd α} {e base:Nat} {ok okp:Nat→Prop} {W w1:World} {v v1:Value} {xs:List α} {p : α} {inner cs:List Value} (h0 : ∀ k,v.ownBlock=some k→ok k) (hr:QN (d.M W base (fun k=>ok k∧some k≠v.ownBlock)) d.sz xs inner) (hp:d.M W base okp p cs) (hokp : ∀ k,okp k→ok k∧some k≠v.ownBlock) (hfresh : ∀ k,W.heap.size≤k→ok k)
 (hown:w1.ownsRow base e d.sz v1 (xs.length+1) (inner++cs)) (hg:W.grownBy w1 v.ownBlock) (hat:v1.ownBlock=v.ownBlock ∨ ∃ b,v1.ownBlock=some b∧W.heap.size≤b):d.R e w1 base ok v1 (xs ++ [p]):=by
 have hne : ∀ k,some k≠v.ownBlock→k<W.heap.size→some k≠v1.ownBlock:=by
  intro k hk hlt
  rcases hat with hat|⟨b,hb,hle⟩
  next=>
   rw[hat];exact hk
  rw[hb]
  intro he;injection he with he
  omega
 have step : ∀ {q : α} {c:List Value} {o:Nat→Prop},d.M W base o q c→(∀ k,o k→ok k∧some k≠v.ownBlock)→d.M w1 base (fun k=>ok k∧some k≠v1.ownBlock) q c:=by
  intro q c o hq ho
  have h1:=d.M_move (w1:=w1) (fun k hk=>hg.block k hk.2.2.1 (ho k hk.1).2) (d.M_bound hq)
  exact d.M_mono (fun k hk=>⟨(ho k hk.1).1,hne k (ho k hk.1).2 hk.2.2.1⟩) h1
 refine⟨fun k hk=>?_,inner++cs,by rw[List.length_append,List.length_singleton];exact hown,?_⟩
 next=>
  rcases hat with hat|⟨b,hb,hle⟩
  next=>
   exact h0 k (hat ▸ hk)
  rw[hb]at hk
  injection hk with hk
  exact hfresh k (by omega)
 exact(hr.zCX (fun _ _ hq=>step hq (fun _ hk=>hk))).snoc (step hp hokp) (d.K_len (d.K_of_M hp))
section
variable {P : Program} {ops : Array Oper} {rest : List Oper} {o : Oper} {a : Act} {Q : Exit → Act → World → Prop} {α : Type}
theorem Qn (d:Kd α) {w0 W:World} (base:Nat) (hgd:o.guard=none) (s x:Operand) (t e:TypeId) (z:Value) (bytes:Nat)
 (ho:o.op = .call { callee := .builtin .append,args:=#[s,x],argTypes:=#[t,t] })
 (ht:P.underlying t=some (.slice e)) (hinfo:(P.info? e).map (fun i=>(i.zero,i.size,i.bytes))=some (some z,d.sz,bytes)) (hz:z.cells.size=d.sz) (ae:0<d.sz) (af:0<bytes)
 (v:Value) (xs:List α) (p : α) (cs:List Value) (ok okp:Nat→Prop) (hs:a.eval s=v) (hx:a.eval x = .slice (some ⟨W.heap.size,0,none⟩) 1 1) (hp:d.M W base okp p cs) (hokp : ∀ k,okp k→ok k∧some k≠v.ownBlock) (hfresh : ∀ k,W.heap.size≤k→ok k)
 (HO:d.R e W base ok v xs) (HB:Below base w0 W) (hbase:base≤W.heap.size) (hl:(xs.length+1)*bytes≤140737488355328)
 (h : ∀ v1 w1,d.R e w1 base ok v1 (xs ++ [p])→Below base w0 w1→W.grownBy w1 v.ownBlock→(v1.ownBlock=v.ownBlock ∨ ∃ b,v1.ownBlock=some b∧W.heap.size≤b)→wpList P ops Q rest (a.put o.dst v1) w1) :
 wpList P ops Q (o :: rest) a (W.alloc (.cells cs.toArray e)):=by
 obtain⟨h0,inner,hown,hr⟩:=HO
 refine zB2 base hgd s x t e z d.sz bytes ho ht hinfo hz ae af v xs.length inner cs hs hx (d.K_len (d.K_of_M hp)) (d.K_one (d.K_of_M hp)) hown HB hbase hl ?_
 intro v1 w1 aa ag ad ab
 exact h v1 w1 (zFp h0 hr hp hokp hfresh aa ad ab) ag ad ab
end
section
variable {P : Program} {ops : Array Oper} {o : Oper} {a : Act} {Q : Exit → Act → World → Prop} {Kc : Act → World → Prop} {α : Type}
end
theorem zEb {α:Type} {enc : α→Value} (xs:List α):QN (fun(x : α) (cs:List Value)=>cs = [enc x]) 1 xs (zAo enc xs):=by
 refine⟨by simp [zAo],fun j p hj=>?_⟩
 obtain⟨hl,hp⟩:=List.getElem?_eq_some_iff.1 hj
 have hl' : j<(zAo enc xs).length:=by rw[zC5];exact hl
 rw[Nat.mul_one,List.drop_eq_getElem_cons hl']
 simp [zAo,hp]
theorem JG {α:Type} {enc : α→Value} {h1 : ∀ x,(enc x).oneCell' = true} {e:Nat} {w:World} {base:Nat} {ok:Nat→Prop} {v:Value} {xs:List α} (ho:w.ownsRow base e 1 v xs.length (zAo enc xs)) (hok : ∀ k,v.ownBlock=some k→ok k):(scalar enc h1).R e w base ok v xs:=⟨hok,zAo enc xs,ho,zEb xs⟩
theorem zD7 {α:Type} {enc : α→Value} {h1 : ∀ x,(enc x).oneCell' = true} {e:Nat} {w:World} {base:Nat} {ok:Nat→Prop} {v:Value} {xs:List α} (h:(scalar enc h1).R e w base ok v xs):w.ownsRow base e 1 v xs.length (zAo enc xs):=by
 obtain⟨_,inner,ho,hr⟩:=h
 have:inner=zAo enc xs:=by
  apply List.ext_getElem?
  intro j;rcases Nat.lt_or_ge j xs.length with hj|hj
  next=>
   have h2:=hr.2 j _ (List.getElem?_eq_getElem hj)
   have hl:j<inner.length:=by have:=hr.1;simp [scalar]at this;omega
   have h3:(inner.drop (j*1)).take 1 = [enc xs[j]]:=h2
   rw[Nat.mul_one,List.drop_eq_getElem_cons hl]at h3
   have h4:inner[j]=enc xs[j]:=by
    have h5:=congrArg List.head? h3
    rw[List.take_succ_cons]at h5
    exact Option.some.inj h5
   rw[List.getElem?_eq_getElem hl,h4]
   simp [zAo,List.getElem?_eq_getElem hj]
  have h3:inner.length=xs.length:=by have:=hr.1;simp [scalar]at this;omega
  rw[List.getElem?_eq_none (by omega),List.getElem?_eq_none (by rw[zC5];omega)]
 rw[← this]
 exact ho
theorem zFq {α:Type} {enc : α→Value} {d : α} {h1 : ∀ x,(enc x).oneCell' = true} {w:World} {A:Option Addr} {n:Nat} {xs:List α} (h:(scalar enc h1).C w A n xs):zD5 enc d w A n xs:=by
 refine⟨h.1,h.2.1,fun hn=>?_⟩
 obtain⟨ad,e,hc⟩:=h.2.2 hn
 refine⟨ad,e,fun j hj=>?_⟩
 have hl:j<xs.length:=by have:=h.1;omega
 obtain⟨c,_,hK,hcell⟩:=hc j _ (List.getElem?_eq_getElem hl)
 have hK' : c = [enc xs[j]]:=hK
 subst hK';have:=hcell 0 _ rfl
 simpa [scalar,List.getD_eq_getElem?_getD,List.getElem?_eq_getElem hl]using this
end Kd
namespace Kd
section
variable {α : Type} {F : Kd α → Kd α} {sz : Nat} {E : List Nat} {hs : ∀ n, (upto F sz E n).sz = sz} {hE : ∀ n q, q ∈ (upto F sz E n).E → q ∈ E}
end
end Kd
namespace Kd
theorem ZK {α:Type} {d:Kd α} {e base:Nat} {ok:Nat→Prop} {W w1:World} {u v v1:Value} {xs:List α} (h:d.R e W base (fun k=>ok k∧some k≠v.ownBlock) u xs) (hg:W.grownBy w1 v.ownBlock) (hat:v1.ownBlock=v.ownBlock ∨ ∃ b,v1.ownBlock=some b∧W.heap.size≤b):d.R e w1 base (fun k=>ok k∧some k≠v1.ownBlock) u xs:=by
 refine qC (zC6 (Zy h) (fun k hk=>hg.block k hk.2.2.1 hk.1.2)) (fun k hk=>⟨hk.1.1,?_⟩)
 rcases hat with hat|⟨b,hb,hle⟩
 next=>
  rw[hat];exact hk.1.2
 rw[hb]
 intro he;injection he with he
 have:=hk.2.2.1
 omega
theorem zHT {α:Type} {d:Kd α} {e base:Nat} {ok:Nat→Prop} {w:World} {v:Value} {xs:List α} (h:d.R e w base ok v xs):(slice e d).M w base ok xs [v]:=⟨v,rfl,h⟩
end Kd
namespace Kd
section
variable {α β : Type} {d : Kd α} {d' : Kd β} {e e' : Nat} {w w1 W : World} {base b b' : Nat} {ok ok' okv oku : Nat → Prop} {v u : Value} {xs : List α} {ys : List β}
theorem zS (h:d.R e w base ok v xs) (o:Obj):d.R e (w.alloc o) base ok v xs:=qN h (zC (Below.refl _ _) o)
theorem zZ (h:d.R e w base ok v xs):d.R e w.drew base ok v xs:=qN h (zBM (Below.refl _ _))
theorem zT (h:d.R e w base ok v xs) (m:Nat):d.R e (w.drewN m) base ok v xs:=qN h (zB (Below.refl _ _) m)
theorem zy {A:Option Addr} {n:Nat} (h:d.C w A n xs) (o:Obj):d.C (w.alloc o) A n xs:=qD h (zC (Below.refl _ _) o)
theorem qR {A:Option Addr} {n:Nat} (h:d.C w A n xs):d.C w.drew A n xs:=qD h (zBM (Below.refl _ _))
theorem qA {A:Option Addr} {n:Nat} (h:d.C w A n xs) (m:Nat):d.C (w.drewN m) A n xs:=qD h (zB (Below.refl _ _) m)
theorem C_nil (d:Kd α) (w:World):d.C w none ([]:List α).length []:=⟨rfl,by simp,fun h=>absurd h (Nat.lt_irrefl 0)⟩
theorem zGN {A:Option Addr} {n:Nat} (h:d.C w A n xs):n≤9223372036854775807:=h.2.1
theorem zq {A:Option Addr} {n c:Nat} (h:d.R e w base ok (.slice A n c) xs):n=xs.length∧n≤c∧d.C w A xs.length xs:=by
 obtain⟨A',c',he,hl,hr⟩:=zAR h
 injection he with h1 h2 h3
 subst h1;exact⟨h2,by omega,hr⟩
theorem JO (h:d.R e w base ok v xs) : ∀ k,v.ownBlock=some k→k<w.heap.size:=by
 obtain⟨inner,ho⟩:=zFo h
 exact zGG ho
theorem Zw (h:d.R e w base ok v xs) : ∀ k,v.ownBlock=some k→base≤k:=by
 obtain⟨inner,ho⟩:=zFo h
 exact zA3 ho
theorem Jw (h:d.R e w base ok v xs) (hp:0<xs.length) : ∃ g cap,v = .slice (some ⟨g,0,none⟩) xs.length cap∧base≤g∧g<w.heap.size ∧ ∃ cells,w.heap[g]?=some (.cells cells e (0,0)):=by
 obtain⟨inner,ho⟩:=zFo h
 obtain⟨g,cap,he,hb,hl⟩:=ho.form hp
 obtain⟨cells,hc⟩:=zB3 ho g (by rw[he];simp [Value.ownBlock])
 exact⟨g,cap,he,hb,hl,cells,hc⟩
theorem R_elder (hu:d'.R e' W b oku u ys) (h:d.R e w1 W.heap.size okv v xs) (hb:Below W.heap.size W w1):d'.R e' w1 b (fun k=>oku k∧some k≠v.ownBlock) u ys:=by
 obtain⟨inner,ho⟩:=zFo h
 exact qC (zC6 (Zy hu) (fun k hk=>hb.block k hk.2.2.1)) (fun k hk=>⟨hk.1,fun he=>by have:=zA3 ho k he.symm;have:=hk.2.2.1;omega⟩)
end
section
variable {w W : World} {A : Option Addr} {n : Nat}
theorem qw {k:IntKind} {xs:List Int} (h:(Kd.int k).C w A n xs) (i:Int) (h0:0≤i) (h1:i<n) : ∃ ad,A=some ad∧w.cell? (ad.add i.toNat)=some (.int k (rd xs i)):=
 zD5.at_ (zFq (enc:=Value.int k) (d:=(0:Int)) (h1:=fun _=>rfl) h) i h0 h1
variable {α : Type} {enc : α → Value} {h1 : ∀ x, (enc x).oneCell' = true} {e base g cap : Nat} {ok : Nat → Prop} {xs : List α}
theorem R_cell (d : α) (h:(scalar enc h1).R e W base ok (.slice (some ⟨g,0,none⟩) xs.length cap) xs) (i:Int) (h0:0≤i) (hi:i<xs.length):W.cell? ⟨g,i.toNat,none⟩=some (enc (rdOf d xs i))∧W.frozen? ⟨g,i.toNat,none⟩=false:=zGK (zD7 h) i h0 hi
theorem R_put (h:(scalar enc h1).R e W base ok (.slice (some ⟨g,0,none⟩) xs.length cap) xs) (i:Int) (x : α):(scalar enc h1).R e (W.setCell ⟨g,i.toNat,none⟩ (enc x)) base ok (.slice (some ⟨g,0,none⟩) xs.length cap) (xs.set i.toNat x)∧W.grownBy (W.setCell ⟨g,i.toNat,none⟩ (enc x)) (some g):=by
 obtain⟨ho,hg⟩:=zDp (zD7 h) i x
 exact⟨JG (by rw[List.length_set];exact ho) h.1,hg⟩
end
section
variable {P : Program} {ops : Array Oper} {rest : List Oper} {o : Oper} {a : Act} {Q : Exit → Act → World → Prop}
theorem zDq {W w1:World} {v:Value} (hgd:o.guard=none) (hrun:(execOp a.eval o).run P W = .ok (.value v) w1) (h:wpList P ops Q rest (a.put o.dst v) w1):wpList P ops Q (o :: rest) a W:=by
 refine wpList_plain hgd fun K hK=>?_
 unfold Oper.wp
 rw[hrun]
 exact hK _ _ h
variable {α : Type}
theorem zBO (d:Kd α) {w0 W:World} (base e:Nat) (hgd:o.guard=none) {N:Tmp} (_hd:o.dst=some N) {xs:List α} {inner:List Value} {ok okp:Nat→Prop}
 (hrun:(execOp a.eval o).run P W = .ok (.value (.slice (some ⟨W.heap.size,0,none⟩) xs.length xs.length)) (W.alloc (.cells inner.toArray e)))
 (hrep:QN (d.M W base okp) d.sz xs inner) (hok : ∀ k,okp k→ok k) (hfresh:ok W.heap.size) (HB:Below base w0 W) (hbase:base≤W.heap.size) (hm:xs.length≤9223372036854775807)
 (h : ∀ v1 w1,d.R e w1 base ok v1 xs→Below base w0 w1→W.grownBy w1 none→(∃ b,v1.ownBlock=some b∧W.heap.size≤b)→wpList P ops Q rest (a.put o.dst v1) w1):wpList P ops Q (o :: rest) a W:=by
 refine zDq hgd hrun (h _ _ ⟨fun k hk=>?_,inner,?_,?_⟩ (HB.alloc hbase _) (World.grownBy_alloc W _ none) ⟨W.heap.size,by simp [Value.ownBlock],Nat.le_refl _⟩)
 next=>
  have:W.heap.size=k:=by simpa [Value.ownBlock]using hk
  subst this;exact hfresh
 next=>
  have h2:=World.ownsRow_lit (base:=base) (e:=e) (size:=d.sz) W inner.toArray xs.length hbase (by simpa [maxLen]using hm) (by simpa using hrep.1)
  simpa using h2
 refine hrep.zCX (fun p c hp=>d.M_mono (fun k hk=>⟨hok k hk.1,fun he=>?_⟩) (zEa (d.M_bound hp) (zC (Below.refl _ _) _)))
 have h3:k=W.heap.size:=by simpa [Value.ownBlock]using he
 have:=hk.2.2.1
 omega
theorem zGO {α:Type} {R : α→List Value→Prop} {z:Value} {size:Nat} {z0 : α} (hz:z.cells.size=size) (hs:0<size) (h0:R z0 z.cells.toList) (m:Nat):QN R size (List.replicate m z0) (madeCells z.cells (m*size)).toList:=by
 refine⟨by simp [size_madeCells],fun j p hj=>?_⟩
 obtain⟨hjl,hp⟩:=List.getElem?_eq_some_iff.1 hj
 have hjm:j<m:=by simpa using hjl
 have hp' : z0=p:=by simpa using hp
 subst hp';have hle:j*size+size≤m*size:=by rw[← Nat.succ_mul];exact Nat.mul_le_mul_right _ hjm
 have:((madeCells z.cells (m*size)).toList.drop (j*size)).take size=z.cells.toList:=by
  apply List.ext_getElem
  next=>
   simp [size_madeCells,hz]
   omega
  intro i h1 h2
  have hi:i<size:=by rw[Array.length_toList,hz]at h2;exact h2
  have hmod:(j*size+i)%size=i:=by
   rw[Nat.mul_comm,Nat.mul_add_mod]
   exact Nat.mod_eq_of_lt hi
  simp [madeCells,hz,hmod]
  rw[getElem!_pos z.cells i (by omega)]
 rw[this]
 exact h0
theorem zDr (d:Kd α) {w0 W:World} (base e:Nat) (hgd:o.guard=none) {N:Tmp} (hd:o.dst=some N) (t:TypeId) (x y:Operand) (ho:o.op = .makeSlice t x y) (n:Int) (hx:a.eval x = .int .i64 n) (hy:a.eval y = .int .i64 n)
 (ht:P.underlying t=some (.slice e)) (z:Value) (bytes:Nat) (hinfo:(P.info? e).map (fun i=>(i.zero,i.size,i.bytes))=some (some z,d.sz,bytes)) (hz:z.cells.size=d.sz) (aa:0<d.sz) (ab:0<bytes)
 (z0 : α) {ok okp:Nat→Prop} (hzero:d.M W base okp z0 z.cells.toList) (hok : ∀ k,okp k→ok k) (hfresh:ok W.heap.size) (h0:0≤n) (hl:n.toNat*bytes≤281474976710656) (HB:Below base w0 W) (hbase:base≤W.heap.size)
 (h : ∀ v1 w1,d.R e w1 base ok v1 (List.replicate n.toNat z0)→Below base w0 w1→W.grownBy w1 none→(∃ b,v1.ownBlock=some b∧W.heap.size≤b)→wpList P ops Q rest (a.put o.dst v1) w1):wpList P ops Q (o :: rest) a W:=by
 obtain⟨m,rfl⟩:=Int.eq_ofNat_of_zero_le h0
 simp only [Int.toNat_natCast]at hl h
 obtain⟨i0,hi,hzz⟩:=Option.map_eq_some_iff.1 hinfo
 simp only [Prod.mk.injEq]at hzz
 obtain⟨ad,ae,af⟩:=hzz
 have hm:m≤281474976710656:=Nat.le_trans (Nat.le_mul_of_pos_right _ ab) hl
 have hr:=run_make (P:=P) W t e i0 z ht hi ad .i64 .i64 (m:Int) (m:Int) (by omega) (by omega)
  (by
   have h3:((i0.bytes*m:Nat):Int)≤281474976710656:=by rw[af,Nat.mul_comm];omega
   rwa [Int.natCast_mul]at h3) (by omega)
 simp only [Int.toNat_natCast]at hr
 rw[ae]at hr
 refine zBO d base e hgd hd (xs:=List.replicate m z0) (inner:=(madeCells z.cells (m*d.sz)).toList) (okp:=okp) (ok:=ok) ?_ (zGO hz aa hzero m) hok hfresh HB hbase (by simp;omega) h
 simp [execOp,ho,hx,hy,hr]
end
end Kd
theorem zHU {w:World} {base n m c size:Nat} {e:TypeId} {A:Option Addr} {xs:List Value} (h:w.ownsRow base e size (.slice A n c) n xs) (hm:m≤n):w.ownsRow base e size (.slice A m c) m (xs.take (m*size)):=by
 obtain⟨h1,h2⟩:=h
 refine⟨by rw[List.length_take,h1];exact Nat.min_eq_left (Nat.mul_le_mul_right _ hm),?_⟩
 rcases h2 with ⟨he,h0⟩|⟨g,cap,cur,he,hb,hh,hnc,hcm,hcs,ht⟩
 next=>
  injection he with ha _ hc
  subst ha;subst hc;exact .inl ⟨by rw[show m=0 by omega],by omega⟩
 injection he with ha _ hc
 subst ha;subst hc;refine .inr ⟨g,c,cur,rfl,hb,hh,by omega,hcm,hcs,?_⟩
 rw[← ht,List.take_take,Nat.min_eq_left (Nat.mul_le_mul_right _ hm)]
section
variable {P : Program}
theorem zI9 (t e:TypeId) (kh:IntKind) {i:TypeInfo} (ht:P.underlying t=some (.slice e)) (hi:P.info? e=some i) (A:Option Addr) (n c:Nat) (j:Int) (h0:0≤j) (hm:j≤n) (hc:n≤c) :
 ∀ W:World,(Instr.slice t (.slice A n c) none (some (.int kh j)) none).run P W = .ok (.slice A j.toNat c) W:=by
 intro W;have hel:P.elem t=e:=by simp [Program.elem,ht]
 have hu:P.underlying t=some (.slice (P.elem t)):=by rw[hel];exact ht
 have ha:(A.map fun x=>x.add 0)=A:=by cases A <;> simp [Addr.add]
 rw[run_slice_h W t A n c hu kh j h0 (by omega),hel]
 simp [sizeOf,typeInfo,hi,sliced,Result.andThen,ha]
theorem zF7 (t e:TypeId) (kl:IntKind) {i:TypeInfo} (ht:P.underlying t=some (.slice e)) (hi:P.info? e=some i) (size:Nat) (hsz:i.size=size) (A:Option Addr) (n c:Nat) (j:Int) (h0:0≤j) (hm:j≤n) :
 ∀ W:World,(Instr.slice t (.slice A n c) (some (.int kl j)) none none).run P W = .ok (.slice (if c=j.toNat then A else A.map (·.add (j.toNat*size))) (n-j.toNat) (c-j.toNat)) W:=by
 intro W;have hel:P.elem t=e:=by simp [Program.elem,ht]
 have hu:P.underlying t=some (.slice (P.elem t)):=by rw[hel];exact ht
 rw[run_slice_l W t A n c hu kl j h0 hm,hel]
 simp [sizeOf,typeInfo,hi,hsz,sliced,Result.andThen]
end
def QRow (w:World) (base:Nat) (e:TypeId) (size:Nat) (v:Value) (n:Nat) (xs:List Value):Prop:=
 xs.length=n*size ∧
 ((n=0 ∧ ∃ A,v = .slice A 0 0 ∧ ∀ a,A=some a→base≤a.block ∧ ∃ cur,w.heap[a.block]?=some (.cells cur e (0,0))) ∨
  ∃ g off cap cur,v = .slice (some ⟨g,off*size,none⟩) n cap∧base≤g∧w.heap[g]?=some (.cells cur e (0,0))∧n≤cap∧off+cap≤maxLen∧cur.size=(off+cap)*size∧(cur.toList.drop (off*size)).take (n*size)=xs)
section
variable {w w1 : World} {base n size : Nat} {e : TypeId} {v : Value} {xs : List Value}
theorem zHV (h:w.ownsRow base e size v n xs):QRow w base e size v n xs:=by
 obtain⟨h1,h2⟩:=h
 refine⟨h1,?_⟩
 rcases h2 with ⟨rfl,h0⟩|⟨g,cap,cur,rfl,hb,hh,hnc,hcm,hcs,ht⟩
 next=>
  exact .inl ⟨h0,none,rfl,fun a ha=>by cases ha⟩
 exact .inr ⟨g,0,cap,cur,by rw[Nat.zero_mul],hb,hh,hnc,by rw[Nat.zero_add];exact hcm,by rw[Nat.zero_add];exact hcs,by rw[Nat.zero_mul,List.drop_zero];exact ht⟩
theorem add_at (g o j:Nat):(⟨g,o,none⟩:Addr).add j=⟨g,o+j,none⟩:=by unfold Addr.add;split <;> simp_all
theorem zBb {g:Nat} : ∀ (vs:List Value) (o:Nat) {w:World} (k:Nat),k≠g→(w.setCells g o vs).heap[k]?=w.heap[k]?
 | [],_,_,_,_=>rfl
 | v :: r,o,w,k,hk=>by
  rw[World.setCells,zBb r (o+1) k hk]
  exact Below.heap_setCell w ⟨g,o,none⟩ v k hk
theorem zB4 (g:Nat) : ∀ (vs:List Value) (o:Nat) (w:World),(w.setCells g o vs).os=w.os∧(w.setCells g o vs).tape=w.tape∧(w.setCells g o vs).output=w.output∧(w.setCells g o vs).heap.size=w.heap.size
 | [],_,_=>⟨rfl,rfl,rfl,rfl⟩
 | v :: r,o,w=>by
  obtain⟨h1,h2,h3,h4⟩:=zB4 g r (o+1) (w.setCell ⟨g,o,none⟩ v)
  rw[World.setCells]
  exact⟨h1,h2,h3,by rw[h4];simp [World.setCell]⟩
theorem zBc {g:Nat} {e:TypeId} : ∀ (vs:List Value) (o:Nat) (w:World) (cur:Array Value),w.heap[g]?=some (.cells cur e (0,0))→o+vs.length≤cur.size →
 ∃ cur',(w.setCells g o vs).heap[g]?=some (.cells cur' e (0,0))∧cur'.size=cur.size∧cur'.toList=cur.toList.take o++vs++cur.toList.drop (o+vs.length)
 | [],o,w,cur,h,_=>⟨cur,h,rfl,by simp⟩
 | v :: r,o,w,cur,h,hl=>by
  have h2:=zGJ h o v
  simp only [List.length_cons]at hl
  obtain⟨cur',h3,h4,h5⟩:=zBc r (o+1) (w.setCell ⟨g,o,none⟩ v) _ h2 (by simp;omega)
  refine⟨cur',h3,by rw[h4];simp,?_⟩
  rw[h5,Array.toList_setIfInBounds]
  have ho:o<cur.toList.length:=by rw[Array.length_toList];omega
  rw[List.take_set,List.drop_set_of_lt (by omega)]
  simp only [List.length_cons]
  rw[show o+1+r.length=o+(r.length+1)by omega]
  congr 1
  rw[List.take_succ_eq_append_getElem ho,List.set_append_right _ _ (by rw[List.length_take];omega)]
  have ho' : o<cur.size:=by omega
  simp [Nat.min_eq_left (Nat.le_of_lt ho')]
end
section
variable {P : Program}
end
namespace Kd
theorem zGP {α:Type} {R : α→List Value→Prop} {size m:Nat} {ps:List α} {cs:List Value} (h:QN R size ps cs) (hm:m≤ps.length):QN R size (ps.take m) (cs.take (m*size)):=by
 refine⟨by rw[List.length_take,List.length_take,h.1,Nat.min_eq_left hm,Nat.min_eq_left (Nat.mul_le_mul_right _ hm)],fun j p hj=>?_⟩
 rw[List.getElem?_take]at hj
 split at hj
 next=>
  rename_i hjm
  have:=h.2 j p hj
  have hle:j*size+size≤m*size:=by rw[← Nat.succ_mul];exact Nat.mul_le_mul_right _ hjm
  rw[List.drop_take,List.take_take,Nat.min_eq_left (by omega)]
  exact this
 cases hj
theorem R_take {α:Type} {d:Kd α} {e m n c:Nat} {w:World} {base:Nat} {ok:Nat→Prop} {A:Option Addr} {xs:List α} (h:d.R e w base ok (.slice A n c) xs) (hm:m≤xs.length):d.R e w base ok (.slice A m c) (xs.take m):=by
 obtain⟨h0,inner,ho,hr⟩:=h
 have hn:n=xs.length:=by
  obtain⟨A',c',he⟩:=zGH ho
  injection he
 subst hn;have hb : ∀ x y:Nat,(Value.slice A x c).ownBlock=(Value.slice A y c).ownBlock:=by
  intro x y
  cases A <;> rfl
 refine⟨fun k hk=>h0 k (by rw[hb _ m];exact hk),inner.take (m*d.sz),?_,?_⟩
 next=>
  rw[List.length_take,Nat.min_eq_left hm]
  exact zHU ho hm
 rw[hb m xs.length]
 exact zGP hr hm
def Q {α:Type} (d:Kd α) (e:Nat) (w:World) (base:Nat) (ok:Nat→Prop) (v:Value) (xs:List α):Prop:=
 (∀ k,v.ownBlock=some k→ok k) ∧ ∃ inner,QRow w base e d.sz v xs.length inner∧QN (d.M w base (fun k=>ok k∧some k≠v.ownBlock)) d.sz xs inner
section
variable {α : Type} {d : Kd α} {e : Nat} {w w1 W : World} {base : Nat} {ok ok' : Nat → Prop} {v : Value} {xs : List α}
theorem Q_of_R (h:d.R e w base ok v xs):d.Q e w base ok v xs:=by
 obtain⟨h0,inner,ho,hr⟩:=h
 exact⟨h0,inner,zHV ho,hr⟩
theorem zHW (d:Kd α) (e:Nat) (w:World) (base:Nat) (ok:Nat→Prop):d.Q e w base ok (.slice none 0 0) []:=Q_of_R (zD6 d e w base ok)
end
section
variable {P : Program} {ops : Array Oper} {rest : List Oper} {o : Oper} {a : Act} {Q' : Exit → Act → World → Prop} {Kc : Act → World → Prop} {α : Type}
end
end Kd
namespace Kd
section
variable {α : Type} {d : Kd α} {e e' : Nat} {w w1 W : World} {base : Nat} {ok : Nat → Prop} {u v : Value} {xs : List α}
theorem zAt (h:d.R e w base ok v xs) : ∀ k,v.ownBlock=some k → ∃ cells,w.heap[k]?=some (.cells cells e (0,0)):=by
 obtain⟨inner,ho⟩:=zFo h
 exact fun k hk=>zB3 ho k hk
theorem zGQ (h:d.R e W base ok u xs) (hty : ∀ k,v.ownBlock=some k → ∃ cells,W.heap[k]?=some (.cells cells e' (0,0))) (ht : ∀ q,q∈e :: d.E→q≠e') (hg:W.grownBy w1 v.ownBlock):d.R e w1 base ok u xs:=by
 refine qC (zC6 (Zy h) (fun k hk=>hg.block k hk.2.2.1 (fun he=>?_))) (fun _ hk=>hk.1)
 obtain⟨_,_,_,q,hq,cells,hc⟩:=hk
 obtain⟨cells',hc'⟩:=hty k he.symm
 rw[hc]at hc'
 injection hc' with hc'
 injection hc' with _ hc'
 exact ht q hq hc'
theorem QY (h:d.R e W base ok u xs) (hty : ∀ k,v.ownBlock=some k → ∃ cells,W.heap[k]?=some (.cells cells e' (0,0))) (ht : ∀ q,q∈e :: d.E→q≠e'):d.R e W base (fun k=>ok k∧some k≠v.ownBlock) u xs:=by
 refine qC (Zy h) (fun k hk=>⟨hk.1,fun he=>?_⟩)
 obtain⟨_,_,_,q,hq,cells,hc⟩:=hk
 obtain⟨cells',hc'⟩:=hty k he.symm
 rw[hc]at hc'
 injection hc' with hc'
 injection hc' with _ hc'
 exact ht q hq hc'
theorem Zs (hu:d.R e W base ok u xs) (hbase : ∀ k,v.ownBlock=some k→W.heap.size≤k) (hb:Below W.heap.size W w1):d.R e w1 base (fun k=>ok k∧some k≠v.ownBlock) u xs:=
 qC (zC6 (Zy hu) (fun k hk=>hb.block k hk.2.2.1)) (fun k hk=>⟨hk.1,fun he=>by have:=hbase k he.symm;have:=hk.2.2.1;omega⟩)
theorem JP (h:d.R e w1 W.heap.size ok v xs) (hlt : ∀ k,u.ownBlock=some k→k<W.heap.size):d.R e w1 W.heap.size (fun k=>ok k∧some k≠u.ownBlock) v xs:=
 qC (Zy h) (fun k hk=>⟨hk.1,fun he=>by have:=hlt k he.symm;have:=hk.2.1;omega⟩)
theorem JQ (hlt : ∀ k,u.ownBlock=some k→k<W.heap.size) : ∀ k,W.heap.size≤k→some k≠u.ownBlock:=fun k hk he=>by have:=hlt k he.symm;omega
end
end Kd
theorem zC7 {α:Type} (a seg:List α) (o:Nat) (h:o+seg.length≤a.length) (q:Nat) :
 (a.take o++seg++a.drop (o+seg.length))[q]?=if q<o then a[q]? else if q<o+seg.length then seg[q-o]? else a[q]?:=by
 have hl:(a.take o).length=o:=by rw[List.length_take];omega
 rw[List.append_assoc]
 by_cases h1:q<o
 next=>
  rw[if_pos h1,List.getElem?_append_left (by omega),List.getElem?_take,if_pos h1]
 rw[if_neg h1,List.getElem?_append_right (by omega),hl]
 by_cases h2:q<o+seg.length
 next=>
  rw[if_pos h2,List.getElem?_append_left (by omega)]
 rw[if_neg h2,List.getElem?_append_right (by omega),List.getElem?_drop]
 congr 1
 omega
namespace Kd
section
variable {α : Type} {d : Kd α} {e base g n cap : Nat} {ok okp : Nat → Prop} {W : World} {xs : List α}
theorem zF8 (h:d.R e W base ok (.slice (some ⟨g,0,none⟩) n cap) xs) (z : α) (i:Int) (h0:0≤i) (h1:i<n) :
 ∃ c,c.length=d.sz∧d.M W base (fun k=>ok k∧k≠g) (xs.getD i.toNat z) c∧(∀ j u,c[j]?=some u→W.cell? ⟨g,i.toNat*d.sz+j,none⟩=some u) ∧ ∀ j,W.frozen? ⟨g,i.toNat*d.sz+j,none⟩=false:=by
 obtain⟨hn,hnc,hC⟩:=zq h
 obtain⟨_,inner,ho,hr⟩:=h
 have hil:i.toNat<xs.length:=by omega
 have hseg:i.toNat*d.sz+d.sz≤inner.length:=by rw[hr.1,← Nat.succ_mul];exact Nat.mul_le_mul_right _ hil
 have hM:=hr.2 i.toNat _ (List.getElem?_eq_getElem hil)
 refine⟨(inner.drop (i.toNat*d.sz)).take d.sz,by rw[List.length_take,List.length_drop];omega,?_,fun j u hu=>?_,fun j=>?_⟩
 next=>
  rw[List.getD_eq_getElem?_getD,List.getElem?_eq_getElem hil]
  exact d.M_mono (fun k hk=>⟨hk.1,fun he=>hk.2 (by rw[he];simp [Value.ownBlock])⟩) hM
 next=>
  rw[List.getElem?_take]at hu
  split at hu
  next=>
   rw[List.getElem?_drop]at hu
   have:=ho.cells (g:=g) (by simp [Value.ownBlock]) _ u hu
   rwa [add_plain]at this
  cases hu
 obtain⟨cells,hc⟩:=zB3 ho g (by simp [Value.ownBlock])
 exact zP hc _
theorem R_seg (h:d.R e W base ok (.slice (some ⟨g,0,none⟩) n cap) xs) (i:Int) (h0:0≤i) (h1:i<n) {c seg:List Value} {j:Nat} (hcl:c.length=d.sz) (hcc : ∀ j u,c[j]?=some u→W.cell? ⟨g,i.toNat*d.sz+j,none⟩=some u)
 (hj:j+seg.length≤d.sz) {x' : α} (hM:d.M W base okp x' (c.take j++seg++c.drop (j+seg.length))) (hokp : ∀ k,okp k→ok k∧k≠g) :
 d.R e (W.setCells g (i.toNat*d.sz+j) seg) base ok (.slice (some ⟨g,0,none⟩) n cap) (xs.set i.toNat x')∧W.grownBy (W.setCells g (i.toNat*d.sz+j) seg) (some g):=by
 obtain⟨hn,hnc,_⟩:=zq h
 obtain⟨hok,inner,ho,hr⟩:=h
 have hil:i.toNat<xs.length:=by omega
 have hseg:i.toNat*d.sz+d.sz≤inner.length:=by rw[hr.1,← Nat.succ_mul];exact Nat.mul_le_mul_right _ hil
 have hin:inner.length=n*d.sz:=by rw[hr.1,hn]
 obtain⟨ae,ad⟩:=ho
 rcases ad with ⟨hv,_⟩|⟨g',cap',cur,hv,hb,hh,hnc',hcm,hcs,ht⟩
 next=>
  cases hv
 injection hv with ha _ hc
 injection ha with ha
 injection ha with hg
 subst hg;subst hc;have hfit:i.toNat*d.sz+j+seg.length≤cur.size:=by
  have:n*d.sz≤cap*d.sz:=Nat.mul_le_mul_right _ hnc
  omega
 obtain⟨cur',h3,h4,h5⟩:=zBc seg (i.toNat*d.sz+j) W cur hh hfit
 obtain⟨s1,s2,s3,s4⟩:=zB4 g seg (i.toNat*d.sz+j) W
 have hfar : ∀ k,k≠g→(W.setCells g (i.toNat*d.sz+j) seg).heap[k]?=W.heap[k]?:=fun k hk=>zBb seg _ k hk
 have hcin : ∀ q,q<d.sz→c[q]?=inner[i.toNat*d.sz+q]?:=by
  intro q hq
  have hq' : q<c.length:=by omega
  have h6:=hcc q _ (List.getElem?_eq_getElem hq')
  rw[cell_of_row W g _ cur e (0,0) hh]at h6
  rw[List.getElem?_eq_getElem hq',← h6,← ht,List.getElem?_take,if_pos (by rw[← hn];omega),Array.getElem?_toList]
 refine⟨⟨hok,inner.take (i.toNat*d.sz+j)++seg++inner.drop (i.toNat*d.sz+j+seg.length),⟨?_,.inr ⟨g,cap,cur',by rw[List.length_set,hn],hb,h3,by rw[List.length_set,← hn];exact hnc,hcm,by rw[h4,hcs],?_⟩⟩,?_⟩,
  ⟨s1,s2,s3,by rw[s4];exact Nat.le_refl _,fun k _ hk=>hfar k (fun he=>hk (by rw[he]))⟩⟩
 next=>
  rw[List.length_set]
  simp only [List.length_append,List.length_take,List.length_drop]
  rw[hr.1]at hseg ⊢
  omega
 next=>
  rw[List.length_set,← hn]
  apply List.ext_getElem?
  intro q;rw[List.getElem?_take,h5]
  rw[zC7 cur.toList seg (i.toNat*d.sz+j) (by rw[Array.length_toList];omega) q,zC7 inner seg (i.toNat*d.sz+j) (by omega) q]
  have hcur : ∀ q,q<n*d.sz→cur.toList[q]?=inner[q]?:=by
   intro q hq
   rw[← ht,List.getElem?_take,if_pos (by rw[← hn];exact hq)]
  by_cases hq:q<n*d.sz
  next=>
   rw[if_pos hq,hcur q hq]
  rw[if_neg hq,if_neg (by omega),if_neg (by omega),List.getElem?_eq_none (by omega)]
 refine⟨?_,fun m p hm=>?_⟩
 next=>
  rw[List.length_set]
  simp only [List.length_append,List.length_take,List.length_drop]
  rw[hr.1]at hseg ⊢
  omega
 have hml:m<xs.length:=by
  have:=(List.getElem?_eq_some_iff.1 hm).1
  rwa [List.length_set]at this
 have hmfit:m*d.sz+d.sz≤inner.length:=by rw[hr.1,← Nat.succ_mul];exact Nat.mul_le_mul_right _ hml
 have hgo:some g=(Value.slice (some ⟨g,0,none⟩) n cap).ownBlock:=by simp [Value.ownBlock]
 by_cases hmi:m=i.toNat
 case neg=>
  rw[List.getElem?_set_ne (by omega)]at hm
  have hold:=hr.2 m p hm
  have hcells:((inner.take (i.toNat*d.sz+j)++seg++inner.drop (i.toNat*d.sz+j+seg.length)).drop (m*d.sz)).take d.sz=(inner.drop (m*d.sz)).take d.sz:=by
   apply List.ext_getElem?
   intro q;rw[List.getElem?_take,List.getElem?_take,List.getElem?_drop,List.getElem?_drop,zC7 inner seg _ (by omega)]
   by_cases hq:q<d.sz
   case neg=>
    rw[if_neg hq,if_neg hq]
   rw[if_pos hq,if_pos hq]
   rcases Nat.lt_or_gt_of_ne hmi with hlt|hgt
   next=>
    have:m*d.sz+d.sz≤i.toNat*d.sz:=by rw[← Nat.succ_mul];exact Nat.mul_le_mul_right _ hlt
    rw[if_pos (by omega)]
   have:i.toNat*d.sz+d.sz≤m*d.sz:=by rw[← Nat.succ_mul];exact Nat.mul_le_mul_right _ hgt
   rw[if_neg (by omega),if_neg (by omega)]
  rw[hcells]
  refine d.M_move (fun k hk=>hfar k (fun he=>hk.2 (by rw[he];exact hgo))) hold
 subst hmi;rw[List.getElem?_set_self (by omega)]at hm
 injection hm with hm
 subst hm;have hcells:((inner.take (i.toNat*d.sz+j)++seg++inner.drop (i.toNat*d.sz+j+seg.length)).drop (i.toNat*d.sz)).take d.sz=c.take j++seg++c.drop (j+seg.length):=by
  apply List.ext_getElem?
  intro q;rw[List.getElem?_take,List.getElem?_drop,zC7 inner seg _ (by omega),zC7 c seg j (by omega) q]
  by_cases hq:q<d.sz
  case neg=>
   rw[if_neg hq,if_neg (by omega),if_neg (by omega),List.getElem?_eq_none (by omega)]
  rw[if_pos hq,hcin q hq]
  by_cases aa:q<j
  next=>
   rw[if_pos (by omega),if_pos aa]
  rw[if_neg (by omega),if_neg aa]
  by_cases ab:q<j+seg.length
  case neg=>
   rw[if_neg (by omega),if_neg ab]
  rw[if_pos (by omega),if_pos ab]
  congr 1
  omega
 rw[hcells]
 refine d.M_mono (fun k hk=>?_) (d.M_move (w1:=W.setCells g (i.toNat*d.sz+j) seg) (fun k hk=>hfar k (hokp k hk).2) hM)
 exact⟨(hokp k hk).1,fun he=>(hokp k hk).2 (by rw[← hgo]at he;injection he)⟩
end
end Kd
namespace Kd
def fixed {α:Type} (d:Kd α) (w0:World):Kd α where
 sz:=d.sz
 E := []
 K:=fun _ x cs=>d.K w0 x cs
 M:=fun _ _ _ x cs=>d.K w0 x cs
 K_len:=d.K_len
 K_one:=d.K_one
 K_below:=fun _ h=>h
 K_of_M:=fun h=>h
 M_mono:=fun _ h=>h
 M_bound:=fun h=>h
 M_move:=fun _ h=>h
 M_lower:=fun _ h=>h
def or_ {α:Type} (a b:Kd α) (h:b.sz=a.sz):Kd α where
 sz:=a.sz
 E:=a.E++b.E
 K:=fun w x cs=>a.K w x cs∨b.K w x cs
 M:=fun w base ok x cs=>a.M w base ok x cs∨b.M w base ok x cs
 K_len:=fun hk=>hk.elim a.K_len (fun hk=>(b.K_len hk).trans h)
 K_one:=fun hk=>hk.elim a.K_one b.K_one
 K_below:=fun hb hk=>hk.imp (a.K_below hb) (b.K_below hb)
 K_of_M:=fun hk=>hk.imp a.K_of_M b.K_of_M
 M_mono:=fun hok hk=>hk.imp (a.M_mono hok) (b.M_mono hok)
 M_bound:=fun hk=>hk.imp
  (fun hk=>a.M_mono (fun _ ⟨h1,h2,h3,q,hq,hc⟩=>⟨h1,h2,h3,q,List.mem_append_left _ hq,hc⟩) (a.M_bound hk))
  (fun hk=>b.M_mono (fun _ ⟨h1,h2,h3,q,hq,hc⟩=>⟨h1,h2,h3,q,List.mem_append_right _ hq,hc⟩) (b.M_bound hk))
 M_move:=fun hm hk=>hk.imp (a.M_move hm) (b.M_move hm)
 M_lower:=fun hb hk=>hk.imp (a.M_lower hb) (b.M_lower hb)
def mix {α:Type} (e:Nat) (d dm:Kd α) (w0:World):Kd (List α):=or_ (fixed (slice e d) w0) (slice e dm) rfl
theorem zHX {α:Type} {e:Nat} {d dm:Kd α} {w0 w:World} {base:Nat} {ok:Nat→Prop} {A:Option Addr} {c:Nat} {xs:List α} (hl:xs.length≤c) (h:d.C w0 A xs.length xs):(mix e d dm w0).M w base ok xs [.slice A xs.length c] := .inl ⟨A,c,rfl,hl,h⟩
theorem zHY {α:Type} {e:Nat} {d dm:Kd α} {w0 w:World} {base:Nat} {ok:Nat→Prop} {v:Value} {xs:List α} (h:dm.R e w base ok v xs):(mix e d dm w0).M w base ok xs [v] := .inr ⟨v,rfl,h⟩
theorem zHZ {α:Type} {e:Nat} {d dm:Kd α} {w0 w:World} (hs:dm.sz=d.sz) (hd : ∀ x cs,dm.K w x cs→d.K w x cs) (hb:Below w0.heap.size w0 w) {xs:List α} {cs:List Value} (h:(mix e d dm w0).K w xs cs) : ∃ A c,cs = [.slice A xs.length c]∧xs.length≤c∧d.C w A xs.length xs:=by
 rcases h with ⟨A,c,rfl,hl,hr⟩|⟨A,c,rfl,hl,hr⟩
 next=>
  exact⟨A,c,rfl,hl,qD hr hb⟩
 refine⟨A,c,rfl,hl,?_⟩
 unfold C at hr ⊢
 rw[← hs]
 exact hr.zCX (Below.refl _ _) (fun _ _ hp=>hd _ _ hp)
section
variable {α : Type} {F : Kd α → Kd α} {sz : Nat} {E : List Nat} {hs : ∀ n, (upto F sz E n).sz = sz} {hE : ∀ n q, q ∈ (upto F sz E n).E → q ∈ E}
end
end Kd
namespace Kd
theorem zC8 {α:Type} {R : α→List Value→Prop} {size:Nat} {ps qs:List α} {cs ds:List Value} (h:QN R size ps cs) (h' : QN R size qs ds):QN R size (ps++qs) (cs++ds):=by
 refine⟨by rw[List.length_append,List.length_append,h.1,h'.1,Nat.add_mul],fun j p hj=>?_⟩
 rcases Nat.lt_or_ge j ps.length with hlt|hge
 next=>
  rw[List.getElem?_append_left hlt]at hj
  have hle:j*size+size≤cs.length:=by rw[h.1,← Nat.succ_mul];exact Nat.mul_le_mul_right _ hlt
  rw[List.drop_append_of_le_length (by omega),List.take_append_of_le_length (by rw[List.length_drop];omega)]
  exact h.2 j p hj
 rw[List.getElem?_append_right hge]at hj
 have h2:=h'.2 (j-ps.length) p hj
 have hle:ps.length*size≤j*size:=Nat.mul_le_mul_right _ hge
 rw[List.drop_append,List.drop_eq_nil_of_le (by rw[h.1];exact hle),List.nil_append,h.1,← Nat.sub_mul]
 exact h2
section
variable {P : Program} {ops : Array Oper} {rest : List Oper} {o : Oper} {a : Act} {Q : Exit → Act → World → Prop} {α : Type}
theorem zHa (d:Kd α) {Rr : α→List Value→Prop} {w0 W:World} (base:Nat) (hgd:o.guard=none) (s x:Operand) (t e:TypeId) (z:Value) (bytes:Nat)
 (ho:o.op = .call { callee := .builtin .append,args:=#[s,x],argTypes:=#[t,t] })
 (ht:P.underlying t=some (.slice e)) (hinfo:(P.info? e).map (fun i=>(i.zero,i.size,i.bytes))=some (some z,d.sz,bytes)) (hz:z.cells.size=d.sz) (aa:0<d.sz) (ab:0<bytes)
 (v:Value) (xs ys:List α) (A:Option Addr) (m c:Nat) (ok okp:Nat→Prop) (hs:a.eval s=v) (hx:a.eval x = .slice A m c)
 (HO:d.R e W base ok v xs) (HR:QH Rr d.sz W A m ys) (hKM : ∀ x cs,Rr x cs→d.M W base okp x cs) (hokp : ∀ k,okp k→ok k∧some k≠v.ownBlock) (hfresh : ∀ k,W.heap.size≤k→ok k)
 (HB:Below base w0 W) (hbase:base≤W.heap.size) (hl:(xs.length+m)*bytes≤140737488355328)
 (h : ∀ v1 w1,d.R e w1 base ok v1 (xs++ys)→Below base w0 w1→W.grownBy w1 v.ownBlock→(v1.ownBlock=v.ownBlock ∨ ∃ b,v1.ownBlock=some b∧W.heap.size≤b)→wpList P ops Q rest (a.put o.dst v1) w1) :
 wpList P ops Q (o :: rest) a W:=by
 obtain⟨i0,hi,hzz⟩:=Option.map_eq_some_iff.1 hinfo
 simp only [Prod.mk.injEq]at hzz
 obtain⟨ae,af,ag⟩:=hzz
 have hm:ys.length=m:=HR.1
 have hlen:xs.length+m≤140737488355328:=Nat.le_trans (Nat.le_mul_of_pos_right _ ab) hl
 obtain⟨hok,inner,hown,hr⟩:=HO
 have hrun : ∃ v1 w1,(Builtin.append_ #[t,t] o.type #[v,.slice A m c]).run P W = .ok v1 w1∧d.R e w1 base ok v1 (xs++ys)∧W.grownBy w1 v.ownBlock∧(v1.ownBlock=v.ownBlock ∨ ∃ b,v1.ownBlock=some b∧W.heap.size≤b):=by
  rcases A with _|ad
  next=>
   have h0:m=0:=by
    rcases Nat.eq_zero_or_pos m with h0|h0
    next=>
     exact h0
    obtain⟨ad,h,_⟩:=HR.2.2 h0
    cases h
   subst h0;obtain rfl:ys = []:=List.eq_nil_of_length_eq_zero hm
   refine⟨v,W,?_,by rw[List.append_nil];exact⟨hok,inner,hown,hr⟩,World.grownBy.refl W _,.inl rfl⟩
   rcases hown.2 with ⟨rfl,hn⟩|⟨g,cap,cur,rfl,_,_,hnc,_⟩
   next=>
    simp [Builtin.append_,run_underlying ht,sizeOf,typeInfo,hi,Builtin.lenOf,Builtin.firstCells]
   simp [Builtin.append_,run_underlying ht,sizeOf,typeInfo,hi,Builtin.lenOf,Builtin.firstCells,hnc,storeCells]
  obtain⟨news,hnr,hnc⟩:=QH.zI8 HR
  have hnM:QN (d.M W base okp) d.sz ys news:=hnr.zCX (fun p c hp=>hKM p c hp)
  have hone : ∀ u∈news,u.oneCell' = true:=by
   intro u hu
   obtain⟨q,hq,rfl⟩:=List.mem_iff_getElem.1 hu
   have hql:q/d.sz<ys.length:=by
    rw[Nat.div_lt_iff_lt_mul aa]
    rw[← hnM.1]
    exact hq
   have hc:=hnM.2 (q/d.sz) _ (List.getElem?_eq_getElem hql)
   refine d.K_one (d.K_of_M hc) _ ?_
   rw[List.mem_iff_getElem?]
   refine⟨q%d.sz,?_⟩
   rw[List.getElem?_take,if_pos (Nat.mod_lt _ aa),List.getElem?_drop,Nat.mul_comm,Nat.div_add_mod,List.getElem?_eq_getElem hq]
  obtain⟨v1,w1,hrun,h2,hg,_,hat⟩:=run_append_own_at (P:=P) W base t o.type e i0 z d.sz bytes ht hi ae af ag hz aa v xs.length inner hown ad m c news (by rw[hnM.1,hm]) hnc hone (by simp only [maxLen];omega) hl hbase
  have hat' : v1.ownBlock=v.ownBlock ∨ ∃ b,v1.ownBlock=some b∧W.heap.size≤b:=by
   rcases hat with hat|hat
   next=>
    exact .inl hat
   exact .inr ⟨_,hat,Nat.le_refl _⟩
  have hne : ∀ k,some k≠v.ownBlock→k<W.heap.size→some k≠v1.ownBlock:=by
   intro k hk hlt
   rcases hat' with hat|⟨b,hb,hle⟩
   next=>
    rw[hat];exact hk
   rw[hb]
   intro he;injection he with he
   omega
  have step : ∀ {q : α} {c:List Value} {o:Nat→Prop},d.M W base o q c→(∀ k,o k→ok k∧some k≠v.ownBlock)→d.M w1 base (fun k=>ok k∧some k≠v1.ownBlock) q c:=by
   intro q c o hq ho
   have h1:=d.M_move (w1:=w1) (fun k hk=>hg.block k hk.2.2.1 (ho k hk.1).2) (d.M_bound hq)
   exact d.M_mono (fun k hk=>⟨(ho k hk.1).1,hne k (ho k hk.1).2 hk.2.2.1⟩) h1
  refine⟨v1,w1,hrun,⟨fun k hk=>?_,inner++news,by rw[List.length_append,hm];exact h2,zC8 (hr.zCX (fun _ _ hq=>step hq (fun _ hk=>hk))) (hnM.zCX (fun _ _ hq=>step hq hokp))⟩,hg,hat'⟩
  rcases hat' with hat|⟨b,hb,hle⟩
  next=>
   exact hok k (hat ▸ hk)
  rw[hb]at hk
  injection hk with hk
  exact hfresh k (by omega)
 obtain⟨v1,w1,ah,h1,hg,hat⟩:=hrun
 refine wpList_plain hgd fun K hK=>?_
 unfold Oper.wp execOp
 simp only [ho,resolve,invoke,builtin,Sem.run_bind,Sem.run_pure,Result.andThen_ok,List.map_toArray,List.map_cons,List.map_nil,hs,hx,ah]
 exact hK _ _ (h v1 w1 h1 (HB.grown hg hbase (zA3 hown)) hg hat)
end
end Kd
namespace Kd
section
variable {P : Program} {ops : Array Oper} {rest : List Oper} {o : Oper} {a : Act} {Q : Exit → Act → World → Prop} {α : Type}
end
end Kd
theorem add_add (a:Addr) (i j:Nat):(a.add i).add j=a.add (i+j):=by
 unfold Addr.add
 by_cases h1:i=0 <;> by_cases h2:j=0 <;> simp [h1,h2,Nat.add_assoc]
namespace Kd
section
variable {α : Type} {k : Kd α} {w : World} {A : Option Addr} {xs : List α} {m c : Nat}
theorem zCf (h:k.C w A xs.length xs) (hm:m≤xs.length):k.C w A (xs.take m).length (xs.take m):=by
 have hl:(xs.take m).length=m:=by rw[List.length_take];omega
 refine⟨rfl,by rw[hl];have:=h.2.1;omega,fun hp=>?_⟩
 obtain⟨ad,e,hc⟩:=h.2.2 (by omega)
 refine⟨ad,e,fun j p hj=>hc j p ?_⟩
 rw[List.getElem?_take]at hj
 split at hj
 next=>
  exact hj
 cases hj
theorem zCg (h:k.C w A xs.length xs) (hm:m≤xs.length) (hc:xs.length≤c):k.C w (if c=m then A else A.map (·.add (m*k.sz))) (xs.drop m).length (xs.drop m):=by
 have hl:(xs.drop m).length=xs.length-m:=List.length_drop
 refine⟨rfl,by rw[hl];have:=h.2.1;omega,fun hp=>?_⟩
 rw[hl]at hp
 obtain⟨ad,rfl,hcell⟩:=h.2.2 (by omega)
 rw[if_neg (by omega)]
 refine⟨ad.add (m*k.sz),rfl,fun j p hj=>?_⟩
 rw[List.getElem?_drop]at hj
 obtain⟨cs,h1,h2,h3⟩:=hcell (m+j) p hj
 refine⟨cs,h1,h2,fun i u hu=>?_⟩
 rw[add_add,show m*k.sz+(j*k.sz+i)=(m+j)*k.sz+i by rw[Nat.add_mul];omega]
 exact h3 i u hu
end
end Kd
section
variable {P : Program}
end
theorem zQ {w W:World} (h:Below w.heap.size w W):w.heap.size≤W.heap.size:=h.size
theorem zM {w W w2:World} (h:Below w.heap.size w W) (k:Below W.heap.size W w2):Below w.heap.size w w2:=zFl h h.size k
theorem zF {w W:World} {g j:Nat} {v:Value} (h:Below w.heap.size w W) (hg:w.heap.size≤g):Below w.heap.size w (W.setCell ⟨g,j,none⟩ v):=h.setCell hg _
theorem qf {w:World} {g:Nat} {t:TypeId} {cs cs' : Array Value} (h:w.heap[g]?=some (.cells cs t (0,0))) (i:Nat) (u:Value) (e:cs.setIfInBounds i u=cs'):(w.setCell ⟨g,i,none⟩ u).heap[g]?=some (.cells cs' t (0,0)):=e ▸ zGJ h i u
theorem zD {base:Nat} {w W:World} (h:Below base w W):Below base w W.drew:=h.drew
namespace Kd
section
variable {α β : Type} {d : Kd α} {d' : Kd β} {e e' base base' n : Nat} {ok ok' : Nat → Prop} {w W w1 W1 : World} {v u : Value} {xs : List α} {ys : List β} {A : Option Addr} {c : Nat}
end
section
variable {α : Type} {enc : α → Value} {h1 : ∀ x, (enc x).oneCell' = true} {w W : World} {A : Option Addr} {n g : Nat} {xs : List α}
end
end Kd
namespace Kd
section
variable {α : Type} {d : Kd α} {e base g : Nat} {ok : Nat → Prop} {w w1 : World} {v : Value} {xs : List α} {o : Obj}
end
end Kd
section
variable {P : Program} {ops : Array Oper} {rest : List Oper} {o : Oper} {a : Act} {Q : Exit → Act → World → Prop}
theorem zz {W:World} (hgd:o.guard=none) {N:Tmp} (_hd:o.dst=some N) {cs:Array Value} {t:TypeId}
 (hrun:(execOp a.eval o).run P W = .ok (.value (.pointer (some ⟨W.heap.size,0,none⟩))) (W.alloc (.cells cs t (0,0))))
 (h : ∀ g,g=W.heap.size → ∀ w1,w1.heap[g]?=some (.cells cs t (0,0))→Below W.heap.size W w1→wpList P ops Q rest (a.put o.dst (.pointer (some ⟨g,0,none⟩))) w1):wpList P ops Q (o :: rest) a W:=
 Kd.zDq hgd hrun (h _ rfl _ (zEZ W _) (zC (Below.refl _ _) _))
end
namespace Kd
section
variable {α : Type} {enc : α → Value} {h1 : ∀ x, (enc x).oneCell' = true} {e base g n cap : Nat} {ok : Nat → Prop} {W : World} {xs : List α}
theorem Zm (d : α) (h:(scalar enc h1).R e W base ok (.slice (some ⟨g,0,none⟩) n cap) xs) (i:Int) (h0:0≤i) (hi:i<n):W.cell? ⟨g,i.toNat,none⟩=some (enc (rdOf d xs i))∧W.frozen? ⟨g,i.toNat,none⟩=false:=by
 obtain⟨rfl,_⟩:=zq h
 exact R_cell d h i h0 hi
end
end Kd
section
variable {P : Program} {ops : Array Oper} {rest : List Oper} {o : Oper} {a : Act} {Q : Exit → Act → World → Prop}
theorem ZU {W w1:World} (hgd:o.guard=none) {t:TypeId} {p:Tmp} {v:Operand} (_ho:o.op = .store t (.tmp p) v) (hN:o.dst=none)
 (hrun:(execOp a.eval o).run P W = .ok .skip w1) (h : ∀ w',w' = w1→wpList P ops Q rest a w'):wpList P ops Q (o :: rest) a W:=by
 refine wpList_plain hgd fun K hK=>?_
 unfold Oper.wp
 rw[hrun]
 show K (a.put o.dst undef) w1
 rw[hN]
 exact hK _ _ (h _ rfl)
end
namespace Kd
section
variable {α : Type} {enc : α → Value} {h1 : ∀ x, (enc x).oneCell' = true} {e base g n cap : Nat} {ok : Nat → Prop} {W : World} {xs : List α}
theorem zAF (h:(scalar enc h1).R e W base ok (.slice (some ⟨g,0,none⟩) n cap) xs) (i:Int) (x : α):(scalar enc h1).R e (W.setCell ⟨g,i.toNat,none⟩ (enc x)) base ok (.slice (some ⟨g,0,none⟩) n cap) (xs.set i.toNat x)∧W.grownBy (W.setCell ⟨g,i.toNat,none⟩ (enc x)) (some g):=by
 obtain⟨rfl,_⟩:=zq h
 exact R_put h i x
end
end Kd
section
variable {P : Program} {ops : Array Oper} {rest : List Oper} {o : Oper} {a : Act} {Q : Exit → Act → World → Prop} {W : World}
theorem zw {N:Tmp} (_hN:o.dst=some N) (h:wpList P ops Q (o :: rest) a W):wpList P ops Q (o :: rest) a W:=h
theorem Zi {t:TypeId} {p:Tmp} {v:Operand} (_ho:o.op = .store t (.tmp p) v) (h:wpList P ops Q (o :: rest) a W):wpList P ops Q (o :: rest) a W:=h
end
section
variable {P : Program} {ops : Array Oper} {o : Oper} {a : Act} {Q : Exit → Act → World → Prop} {Kc : Act → World → Prop}
theorem zFr {W w1:World} {v:Value} (hw:Region.wanted o (yielded ops a.tmps)=true) (hrun:(execOp a.eval o).run P W = .ok (.value v) w1) (h:Kc (a.put o.dst v) w1):if Region.wanted o (yielded ops a.tmps)=true then Oper.wp P o a W Kc Q else Kc (a.put o.dst undef) W:=by
 rw[if_pos hw]
 unfold Oper.wp
 rw[hrun]
 exact h
namespace Kd
variable {α : Type}
theorem zAd (d:Kd α) {w0 W:World} (base e:Nat) (hw:Region.wanted o (yielded ops a.tmps)=true) {N:Tmp} (_hd:o.dst=some N) {xs:List α} {inner:List Value} {ok okp:Nat→Prop}
 (hrun:(execOp a.eval o).run P W = .ok (.value (.slice (some ⟨W.heap.size,0,none⟩) xs.length xs.length)) (W.alloc (.cells inner.toArray e)))
 (hrep:QN (d.M W base okp) d.sz xs inner) (hok : ∀ k,okp k→ok k) (hfresh:ok W.heap.size) (HB:Below base w0 W) (hbase:base≤W.heap.size) (hm:xs.length≤9223372036854775807)
 (h : ∀ v1 w1,d.R e w1 base ok v1 xs→Below base w0 w1→W.grownBy w1 none→(∃ b,v1.ownBlock=some b∧W.heap.size≤b)→Kc (a.put o.dst v1) w1):if Region.wanted o (yielded ops a.tmps)=true then Oper.wp P o a W Kc Q else Kc (a.put o.dst undef) W:=by
 refine zFr hw hrun (h _ _ ⟨fun k hk=>?_,inner,?_,?_⟩ (HB.alloc hbase _) (World.grownBy_alloc W _ none) ⟨W.heap.size,by simp [Value.ownBlock],Nat.le_refl _⟩)
 next=>
  have:W.heap.size=k:=by simpa [Value.ownBlock]using hk
  subst this;exact hfresh
 next=>
  have h2:=World.ownsRow_lit (base:=base) (e:=e) (size:=d.sz) W inner.toArray xs.length hbase (by simpa [maxLen]using hm) (by simpa using hrep.1)
  simpa using h2
 refine hrep.zCX (fun p c hp=>d.M_mono (fun k hk=>⟨hok k hk.1,fun he=>?_⟩) (zEa (d.M_bound hp) (zC (Below.refl _ _) _)))
 have h3:k=W.heap.size:=by simpa [Value.ownBlock]using he
 have:=hk.2.2.1
 omega
theorem QZ (d:Kd α) {Rr : α→List Value→Prop} {w0 W:World} (base:Nat) (hw:Region.wanted o (yielded ops a.tmps)=true) (s x:Operand) (t e:TypeId) (z:Value) (bytes:Nat)
 (ho:o.op = .call { callee := .builtin .append,args:=#[s,x],argTypes:=#[t,t] })
 (ht:P.underlying t=some (.slice e)) (hinfo:(P.info? e).map (fun i=>(i.zero,i.size,i.bytes))=some (some z,d.sz,bytes)) (hz:z.cells.size=d.sz) (aa:0<d.sz) (ab:0<bytes)
 (v:Value) (xs ys:List α) (A:Option Addr) (m c:Nat) (ok okp:Nat→Prop) (hs:a.eval s=v) (hx:a.eval x = .slice A m c)
 (HO:d.R e W base ok v xs) (HR:QH Rr d.sz W A m ys) (hKM : ∀ x cs,Rr x cs→d.M W base okp x cs) (hokp : ∀ k,okp k→ok k∧some k≠v.ownBlock) (hfresh : ∀ k,W.heap.size≤k→ok k)
 (HB:Below base w0 W) (hbase:base≤W.heap.size) (hl:(xs.length+m)*bytes≤140737488355328)
 (h : ∀ v1 w1,d.R e w1 base ok v1 (xs++ys)→Below base w0 w1→W.grownBy w1 v.ownBlock→(v1.ownBlock=v.ownBlock ∨ ∃ b,v1.ownBlock=some b∧W.heap.size≤b)→Kc (a.put o.dst v1) w1) :
 if Region.wanted o (yielded ops a.tmps)=true then Oper.wp P o a W Kc Q else Kc (a.put o.dst undef) W:=by
 obtain⟨i0,hi,hzz⟩:=Option.map_eq_some_iff.1 hinfo
 simp only [Prod.mk.injEq]at hzz
 obtain⟨ae,af,ag⟩:=hzz
 have hm:ys.length=m:=HR.1
 have hlen:xs.length+m≤140737488355328:=Nat.le_trans (Nat.le_mul_of_pos_right _ ab) hl
 obtain⟨hok,inner,hown,hr⟩:=HO
 have hrun : ∃ v1 w1,(Builtin.append_ #[t,t] o.type #[v,.slice A m c]).run P W = .ok v1 w1∧d.R e w1 base ok v1 (xs++ys)∧W.grownBy w1 v.ownBlock∧(v1.ownBlock=v.ownBlock ∨ ∃ b,v1.ownBlock=some b∧W.heap.size≤b):=by
  rcases A with _|ad
  next=>
   have h0:m=0:=by
    rcases Nat.eq_zero_or_pos m with h0|h0
    next=>
     exact h0
    obtain⟨ad,h,_⟩:=HR.2.2 h0
    cases h
   subst h0;obtain rfl:ys = []:=List.eq_nil_of_length_eq_zero hm
   refine⟨v,W,?_,by rw[List.append_nil];exact⟨hok,inner,hown,hr⟩,World.grownBy.refl W _,.inl rfl⟩
   rcases hown.2 with ⟨rfl,hn⟩|⟨g,cap,cur,rfl,_,_,hnc,_⟩
   next=>
    simp [Builtin.append_,run_underlying ht,sizeOf,typeInfo,hi,Builtin.lenOf,Builtin.firstCells]
   simp [Builtin.append_,run_underlying ht,sizeOf,typeInfo,hi,Builtin.lenOf,Builtin.firstCells,hnc,storeCells]
  obtain⟨news,hnr,hnc⟩:=QH.zI8 HR
  have hnM:QN (d.M W base okp) d.sz ys news:=hnr.zCX (fun p c hp=>hKM p c hp)
  have hone : ∀ u∈news,u.oneCell' = true:=by
   intro u hu
   obtain⟨q,hq,rfl⟩:=List.mem_iff_getElem.1 hu
   have hql:q/d.sz<ys.length:=by
    rw[Nat.div_lt_iff_lt_mul aa]
    rw[← hnM.1]
    exact hq
   have hc:=hnM.2 (q/d.sz) _ (List.getElem?_eq_getElem hql)
   refine d.K_one (d.K_of_M hc) _ ?_
   rw[List.mem_iff_getElem?]
   refine⟨q%d.sz,?_⟩
   rw[List.getElem?_take,if_pos (Nat.mod_lt _ aa),List.getElem?_drop,Nat.mul_comm,Nat.div_add_mod,List.getElem?_eq_getElem hq]
  obtain⟨v1,w1,hrun,h2,hg,_,hat⟩:=run_append_own_at (P:=P) W base t o.type e i0 z d.sz bytes ht hi ae af ag hz aa v xs.length inner hown ad m c news (by rw[hnM.1,hm]) hnc hone (by simp only [maxLen];omega) hl hbase
  have hat' : v1.ownBlock=v.ownBlock ∨ ∃ b,v1.ownBlock=some b∧W.heap.size≤b:=by
   rcases hat with hat|hat
   next=>
    exact .inl hat
   exact .inr ⟨_,hat,Nat.le_refl _⟩
  have hne : ∀ k,some k≠v.ownBlock→k<W.heap.size→some k≠v1.ownBlock:=by
   intro k hk hlt
   rcases hat' with hat|⟨b,hb,hle⟩
   next=>
    rw[hat];exact hk
   rw[hb]
   intro he;injection he with he
   omega
  have step : ∀ {q : α} {c:List Value} {o:Nat→Prop},d.M W base o q c→(∀ k,o k→ok k∧some k≠v.ownBlock)→d.M w1 base (fun k=>ok k∧some k≠v1.ownBlock) q c:=by
   intro q c o hq ho
   have h1:=d.M_move (w1:=w1) (fun k hk=>hg.block k hk.2.2.1 (ho k hk.1).2) (d.M_bound hq)
   exact d.M_mono (fun k hk=>⟨(ho k hk.1).1,hne k (ho k hk.1).2 hk.2.2.1⟩) h1
  refine⟨v1,w1,hrun,⟨fun k hk=>?_,inner++news,by rw[List.length_append,hm];exact h2,zC8 (hr.zCX (fun _ _ hq=>step hq (fun _ hk=>hk))) (hnM.zCX (fun _ _ hq=>step hq hokp))⟩,hg,hat'⟩
  rcases hat' with hat|⟨b,hb,hle⟩
  next=>
   exact hok k (hat ▸ hk)
  rw[hb]at hk
  injection hk with hk
  exact hfresh k (by omega)
 obtain⟨v1,w1,ah,h1,hg,hat⟩:=hrun
 rw[if_pos hw]
 unfold Oper.wp execOp
 simp only [ho,resolve,invoke,builtin,Sem.run_bind,Sem.run_pure,Result.andThen_ok,List.map_toArray,List.map_cons,List.map_nil,hs,hx,ah]
 exact h v1 w1 h1 (HB.grown hg hbase (zA3 hown)) hg hat
end Kd
end
inductive zIW (P:Program) (tmps:Array Value) (w:World):List ResultVar→List Value→Prop where
 | nil:zIW P tmps w [] []
 | tmp {u:Tmp} {rs:List ResultVar} {vs:List Value} (h:zIW P tmps w rs vs):zIW P tmps w (.tmp u :: rs) (tmps.getD u undef :: vs)
 | cell {p:Tmp} {ty:TypeId} {rs:List ResultVar} {vs:List Value} (g:Nat) (t:TypeId) (cs:Array Value) (fr:Nat × Nat) (d:TypeDesc)
  (hp:tmps.getD p undef = .pointer (some ⟨g,0,none⟩)) (hg:w.heap[g]?=some (.cells cs t fr))
  (hu:P.underlying ty=some d) (hd:(match d with | .struct _ | .array _ _=>true|_=>false)=true) (hi:(P.info? ty).map (·.size)=some cs.size)
  (h:zIW P tmps w rs vs):zIW P tmps w (.cell p ty :: rs) (.agg cs :: vs)
section
variable {P : Program} {tmps : Array Value} {w : World}
theorem zHb {rs:List ResultVar} {vs:List Value} (hv:zIW P tmps w rs vs) (f:ResultVar→Sem Value) (hf : ∀ u,f (.tmp u)=pure (tmps.getD u undef)) (hc : ∀ a t,f (.cell a t)=(do loadVar t (← asAddr (tmps.getD a undef)))) :
 (rs.mapM f).run P w = .ok vs w:=by
 induction hv with
 | nil=>simp
 | tmp h ih=>simp [List.mapM_cons,hf,ih]
 | cell g t cs fr d hp hg hu hd hi h ih=>
  rw[List.mapM_cons,hc,hp]
  simp [asAddr,run_loadVar_row w g t _ cs fr d hg hu hd hi,ih]
theorem zDs {fn:Func} {rs:List ResultVar} {vs:List Value} (h:fn.results=rs.toArray) (hl:vs.length≠1) (hv:zIW P tmps w rs vs):(results fn tmps).run P w = .ok (.tuple vs.toArray) w:=by
 unfold results
 rw[h,List.mapM_toArray]
 simp only [Sem.run_bind,Sem.run_map]
 rw[zHb hv]
 next=>
  simp [hl]
 next=>
  intro u;rfl
 intro a t
 rfl
end
namespace Kd
section
variable {P : Program} {α : Type}
end
section
variable {P : Program} {ops : Array Oper} {rest : List Oper} {o : Oper} {a : Act} {Q : Exit → Act → World → Prop} {Kc : Act → World → Prop} {α : Type}
end
end Kd
end Go.Proofs.YtembbpalgfikiaaW.PrintWords
namespace Go.Proofs.YtembbpalgfikiaaW.PrintLast
section
variable {P : Program} {ops : Array Oper} {Q : Exit → Act → World → Prop} {md : Region.Mode} {S : World → Prop} {ds : List Nat}
def Region.zAG (md:Region.Mode) (ops:Array Oper) (i:Nat):Nat→Nat→Bool
 | 0,_=>false
 | fuel+1,d=>match ops[d]? with
  | some o=>o.after.any fun e=>Region.binds md e&&(e.on==i||Region.zAG md ops i fuel e.on)
  | none=>false
def Region.zC9 (md:Region.Mode) (ops:Array Oper) (listed:Array Bool):Bool:=
 (List.range ops.size).all fun j => !listed.getD j false||match ops[j]? with
  | some o=>o.after.all fun e => !Region.binds md e||listed.getD e.on false
  | none=>true
def Region.zHc (md:Region.Mode) (ops:Array Oper) (listed:Array Bool) (ds:List Nat) (i:Nat):Bool:=
 ds.all fun d=>listed.getD d true||Region.zAG md ops i ops.size d
def Qa (md:Region.Mode) (ops:Array Oper) (listed:Array Bool):Prop:=
 ∀ j oj,ops[j]?=some oj→listed.getD j false=true → ∀ e∈oj.after,Region.binds md e=true→listed.getD e.on false=true
theorem Region.zDt {listed:Array Bool} (h:Region.zC9 md ops listed=true):Qa md ops listed:=by
 intro j oj hj hl e he hb
 have hlt:j<ops.size:=(Array.getElem?_eq_some_iff.1 hj).1
 have h1:=List.all_eq_true.1 h j (List.mem_range.2 hlt)
 simp only [hl,hj,Bool.not_true,Bool.false_or]at h1
 have h2:=Array.all_eq_true_iff_forall_mem.1 h1 e he
 simpa [hb]using h2
theorem Qa.set {listed:Array Bool} {i:Nat} (h:Qa md ops listed) (hi:i∈Region.ready md ops listed):Qa md ops (listed.setIfInBounds i true):=by
 obtain⟨_,oi,hoi,hall⟩:=mem_ready.1 hi
 intro j oj hj hl e he hb
 by_cases hij:i=j
 case neg=>
  rw[getD_set_ne false hij]at hl
  exact getD_set_true (h j oj hj hl e he hb)
 subst hij;have:oj=oi:=Option.some.inj (hj.symm.trans hoi)
 subst this;exact getD_set_true (hall e he hb)
theorem Region.zBd {listed:Array Bool} {i:Nat} (hc:Qa md ops listed) : ∀ (fuel d:Nat),Region.zAG md ops i fuel d=true→listed.getD d false=true→listed.getD i false=true
 | 0,_,h,_=>by simp [Region.zAG]at h
 | fuel+1,d,h,hl=>by
  unfold Region.zAG at h
  cases ho:ops[d]? with
  | none=>rw[ho]at h;simp at h
  | some o=>
   rw[ho]at h
   obtain⟨e,he,h1⟩:=Array.any_eq_true'.1 h
   simp only [Bool.and_eq_true,Bool.or_eq_true,beq_iff_eq]at h1
   have hle:=hc d o ho hl e he h1.1
   rcases h1.2 with h2|h2
   next=>
    rw[← h2];exact hle
   exact Region.zBd hc fuel e.on h2 hle
theorem Region.zCA {listed:Array Bool} {i d fuel:Nat} (hc:Qa md ops listed) (hr:Region.zAG md ops i fuel d=true) (hun:listed.getD i true=false):d ∉ Region.ready md ops listed:=by
 intro hd;obtain⟨_,o,ho,hall⟩:=mem_ready.1 hd
 have hi:listed.getD i false=true:=by
  cases fuel with
  | zero=>simp [Region.zAG]at hr
  | succ n=>
   unfold Region.zAG at hr
   rw[ho]at hr
   obtain⟨e,he,h1⟩:=Array.any_eq_true'.1 hr
   simp only [Bool.and_eq_true,Bool.or_eq_true,beq_iff_eq]at h1
   have hle:=hall e he h1.1
   rcases h1.2 with h2|h2
   next=>
    rw[← h2];exact hle
   exact Region.zBd hc n e.on h2 hle
 rcases Nat.lt_or_ge i listed.size with h' | h'
 next=>
  simp [h']at hun hi
  rw[hun]at hi
  cases hi
 simp [Array.getElem?_eq_none h']at hun
def qk (P:Program) (md:Region.Mode) (ops:Array Oper) (Q:Exit→Act→World→Prop) (S:World→Prop) (ds:List Nat):Nat→Array Bool→Act→World→Prop
 | 0,listed,a,w=>Region.ready md ops listed = []∧Q .normal a w
 | fuel+1,listed,a,w=>
  (Region.ready md ops listed = []→Q .normal a w) ∧
  ∀ i∈Region.ready md ops listed,wpOp P ops Q i (fun a' w'=>(i ∉ ds→S w→S w')∧qk P md ops Q S ds fuel (listed.setIfInBounds i true) a' w') a w
theorem zB5 : ∀ (fuel:Nat) (listed:Array Bool) (a:Act) (w:World),qk P md ops Q S ds fuel listed a w→wpAny P md ops Q fuel listed a w
 | 0,_,_,_,h=>h
 | fuel+1,_,_,_,h=>⟨h.1,fun i hi=>wpOp_mono (fun a' w' h'=>zB5 fuel _ a' w' h'.2) (h.2 i hi)⟩
theorem zCB {i:Nat} {oi:Oper} {v:Value} (hi:ops[i]?=some oi) (hsel : ∀ (j:Nat) (o:Oper) cs b,ops[j]?=some o→o.op ≠ .select cs b)
 (hQ : ∀ c a w,Q (.panic c) (a.put oi.dst v) w→Q (.panic c) a w) (n:Nat) :
 ∀ (fuel:Nat) (listed:Array Bool) (a:Act) (w:World),
  (∀ j oj,ops[j]?=some oj→j≠i→listed.getD j true=false→(∀ e∈oj.after,Region.binds md e=true→e.on≠i)→oi.apart ops oj=true) →
  Qa md ops listed→(∀ d∈ds,listed.getD d true=false→Region.zAG md ops i n d=true) →
  i∈Region.ready md ops listed→YieldsIf P ops S oi v a→S w →
  qk P md ops Q S ds fuel (listed.setIfInBounds i true) (a.put oi.dst v) w→qk P md ops Q S ds (fuel+1) listed a w:=by
 intro fuel;induction fuel with
 | zero=>
  intro listed a w _ _ _ hr hy hS H
  refine⟨fun h=>(by rw[h]at hr;cases hr),fun j hj=>?_⟩
  by_cases hji:j=i
  next=>
   subst hji;exact hy.wpOp hi hS ⟨fun _ h=>h,H⟩
  have:=ready_mono hj hji
  rw[H.1]at this
  cases this
 | succ fuel ih=>
  intro listed a w hfree hc hd hr hy hS H
  refine⟨fun h=>(by rw[h]at hr;cases hr),fun j hj=>?_⟩
  by_cases hji:j=i
  next=>
   subst hji;exact hy.wpOp hi hS ⟨fun _ h=>h,H⟩
  have h1:=H.2 j (ready_mono hj hji)
  obtain⟨hjun,oj,hoj,hall⟩:=mem_ready.1 hj
  have hiun:=(mem_ready.1 hr).1
  have hnot : ∀ e∈oj.after,Region.binds md e=true→e.on≠i:=fun e he hb heq=>by
   have h1:=hall e he hb
   rw[heq]at h1
   rcases Nat.lt_or_ge i listed.size with h' | h'
   next=>
    simp [h']at hiun h1;rw[hiun]at h1;cases h1
   simp [Array.getElem?_eq_none h']at h1
  have hjd:j ∉ ds:=fun hm=>Region.zCA hc (hd j hm hjun) hiun hj
  have h2:=wpOp_putIf hoj (hfree j oj hoj hji hjun hnot) (fun cs b=>hsel i oi cs b hi) (fun cs b=>hsel j oj cs b hoj) hQ hy h1
  have hfree' : ∀ k ok,ops[k]?=some ok→k≠i→(listed.setIfInBounds j true).getD k true=false →
   (∀ e∈ok.after,Region.binds md e=true→e.on≠i)→oi.apart ops ok=true:=fun k ok hk hki hun hno=>by
   refine hfree k ok hk hki ?_ hno
   by_cases hjk:j=k
   next=>
    subst hjk;exact hjun
   rw[getD_set_ne true hjk]at hun;exact hun
  have hd' : ∀ d∈ds,(listed.setIfInBounds j true).getD d true=false→Region.zAG md ops i n d=true:=fun d hm hun=>by
   refine hd d hm ?_
   by_cases hjk:j=d
   next=>
    subst hjk;exact hjun
   rw[getD_set_ne true hjk]at hun;exact hun
  refine wpOp_mono (fun a' w' h3=>⟨h3.2.1,ih (listed.setIfInBounds j true) a' w' hfree' (hc.set hj) hd' (ready_mono hr (Ne.symm hji)) h3.1 (h3.2.1 hjd hS) ?_⟩) h2
  rw[Array.setIfInBounds_comm _ _ hji]
  exact h3.2.2
theorem zD8 {i:Nat} {oi:Oper} {v:Value} (hi:ops[i]?=some oi) (hsel : ∀ (j:Nat) (o:Oper) cs b,ops[j]?=some o→o.op ≠ .select cs b)
 (hQ : ∀ c a w,Q (.panic c) (a.put oi.dst v) w→Q (.panic c) a w) :
 ∀ (fuel:Nat) (listed:Array Bool) (a:Act) (w:World),
  (∀ j oj,ops[j]?=some oj→j≠i→listed.getD j true=false→(∀ e∈oj.after,Region.binds md e=true→e.on≠i)→oi.apart ops oj=true) →
  i∈Region.ready md ops listed→Yields P ops oi v a →
  qk P md ops Q S ds fuel (listed.setIfInBounds i true) (a.put oi.dst v) w→qk P md ops Q S ds (fuel+1) listed a w:=by
 intro fuel;induction fuel with
 | zero=>
  intro listed a w _ hr hy H
  refine⟨fun h=>(by rw[h]at hr;cases hr),fun j hj=>?_⟩
  by_cases hji:j=i
  next=>
   subst hji;exact(hy.yieldsIf (S:=fun _=>True)).wpOp hi trivial ⟨fun _ h=>h,H⟩
  have:=ready_mono hj hji
  rw[H.1]at this
  cases this
 | succ fuel ih=>
  intro listed a w hfree hr hy H
  refine⟨fun h=>(by rw[h]at hr;cases hr),fun j hj=>?_⟩
  by_cases hji:j=i
  next=>
   subst hji;exact(hy.yieldsIf (S:=fun _=>True)).wpOp hi trivial ⟨fun _ h=>h,H⟩
  have h1:=H.2 j (ready_mono hj hji)
  obtain⟨hjun,oj,hoj,hall⟩:=mem_ready.1 hj
  have hiun:=(mem_ready.1 hr).1
  have hnot : ∀ e∈oj.after,Region.binds md e=true→e.on≠i:=fun e he hb heq=>by
   have h1:=hall e he hb
   rw[heq]at h1
   rcases Nat.lt_or_ge i listed.size with h' | h'
   next=>
    simp [h']at hiun h1;rw[hiun]at h1;cases h1
   simp [Array.getElem?_eq_none h']at h1
  have h2:=wpOp_put hoj (hfree j oj hoj hji hjun hnot) (fun cs b=>hsel i oi cs b hi) (fun cs b=>hsel j oj cs b hoj) hQ hy h1
  have hfree' : ∀ k ok,ops[k]?=some ok→k≠i→(listed.setIfInBounds j true).getD k true=false →
   (∀ e∈ok.after,Region.binds md e=true→e.on≠i)→oi.apart ops ok=true:=fun k ok hk hki hun hno=>by
   refine hfree k ok hk hki ?_ hno
   by_cases hjk:j=k
   next=>
    subst hjk;exact hjun
   rw[getD_set_ne true hjk]at hun;exact hun
  refine wpOp_mono (fun a' w' h3=>⟨h3.2.1,ih (listed.setIfInBounds j true) a' w' hfree' (ready_mono hr (Ne.symm hji)) h3.1 ?_⟩) h2
  rw[Array.setIfInBounds_comm _ _ hji]
  exact h3.2.2
theorem zCY {i:Nat} {oi:Oper} {v:Value} {fuel:Nat} {listed:Array Bool} {a:Act} {w:World} (hi:ops[i]?=some oi)
 (hs:Region.noSelect ops=true) (hf:Region.free md ops listed i=true) (hr:(Region.ready md ops listed).contains i=true)
 (hc:Region.zC9 md ops listed=true) (hl:Region.zHc md ops listed ds i=true)
 (hQ : ∀ c a w,Q (.panic c) (a.put oi.dst v) w→Q (.panic c) a w) (hy:YieldsIf P ops S oi v a) (hS:S w)
 (h:qk P md ops Q S ds fuel (listed.setIfInBounds i true) (a.put oi.dst v) w):qk P md ops Q S ds (fuel+1) listed a w:=
 zCB hi (Region.noSelect_spec hs) hQ ops.size fuel listed a w (Region.free_spec hi hf) (Region.zDt hc)
  (fun d hm hun=>by have:=List.all_eq_true.1 hl d hm;rw[hun]at this;simpa using this) (by simpa using hr) hy hS h
theorem zD9 {rs:List Nat} {fuel:Nat} {listed:Array Bool} {a:Act} {w:World} (hr:Region.ready md ops listed=rs) (hne:rs ≠ [])
 (h : ∀ i∈rs,wpOp P ops Q i (fun a' w'=>(i ∉ ds→S w→S w')∧qk P md ops Q S ds fuel (listed.setIfInBounds i true) a' w') a w):qk P md ops Q S ds (fuel+1) listed a w:=
 ⟨fun h0=>absurd (hr ▸ h0) hne,hr ▸ h⟩
theorem zCZ {listed:Array Bool} {a:Act} {w:World} (hr:Region.ready md ops listed = []) (h:Q .normal a w) :
 ∀ fuel,qk P md ops Q S ds fuel listed a w
 | 0=>⟨hr,h⟩
 | _+1=>⟨fun _=>h,by rw[hr];simp⟩
theorem zCa {id:Nat} {a:Act} {w:World} (hm:P.follows .mixedOrders=true)
 (h:qk P .any ops Q S ds ops.size (Array.replicate ops.size false) a { w with drawn:=w.drawn+1 }):(Code.region id ops true).wp P Q a w:=
 wp_region_any hm (zB5 _ _ _ _ h)
end
section
variable {P : Program} {ops : Array Oper} {Q : Exit → Act → World → Prop} {md : Region.Mode} {S : World → Prop} {ds : List Nat}
def QJ (P:Program) (md:Region.Mode) (ops:Array Oper) (Q:Exit→Act→World→Prop) (S:World→Prop) (ds:List Nat) (fuel:Nat) (listed:Array Bool) (a:Act) (w:World) (rs:List Nat):Prop:=
 ∀ i∈rs,wpOp P ops Q i (fun a' w'=>(i ∉ ds→S w→S w')∧qk P md ops Q S ds fuel (listed.setIfInBounds i true) a' w') a w
theorem QJ.nil {fuel:Nat} {listed:Array Bool} {a:Act} {w:World}:QJ P md ops Q S ds fuel listed a w []:=fun _ h=>by cases h
theorem QJ.cons {fuel:Nat} {listed:Array Bool} {a:Act} {w:World} {i:Nat} {o:Oper} {rs:List Nat} (ho:ops[i]?=some o) (hd:i ∉ ds)
 (h : ∀ K' : Act→World→Prop,Shut (∀ a w,S w→(S w→qk P md ops Q S ds fuel (listed.setIfInBounds i true) a w)→K' a w)→if Region.wanted o (yielded ops a.tmps)=true then Oper.wp P o a w K' Q else K' (a.put o.dst undef) w)
 (hs:QJ P md ops Q S ds fuel listed a w rs):QJ P md ops Q S ds fuel listed a w (i :: rs):=fun j hj=>by
 rcases List.mem_cons.1 hj with rfl|hj
 next=>
  exact wpOp_step ho (fun K' hK=>h K' (fun a w hS hW=>hK a w ⟨fun _ _=>hS,hW hS⟩))
 exact hs j hj
theorem QJ.zGR {fuel:Nat} {listed:Array Bool} {a:Act} {w:World} {i:Nat} {o:Oper} {rs:List Nat} (ho:ops[i]?=some o) (hd:i∈ds)
 (h : ∀ K' : Act→World→Prop,Shut (∀ a w,qk P md ops Q S ds fuel (listed.setIfInBounds i true) a w→K' a w)→if Region.wanted o (yielded ops a.tmps)=true then Oper.wp P o a w K' Q else K' (a.put o.dst undef) w)
 (hs:QJ P md ops Q S ds fuel listed a w rs):QJ P md ops Q S ds fuel listed a w (i :: rs):=fun j hj=>by
 rcases List.mem_cons.1 hj with rfl|hj
 next=>
  exact wpOp_step ho (fun K' hK=>h K' (fun a w hW=>hK a w ⟨fun hn=>absurd hd hn,hW⟩))
 exact hs j hj
theorem zAS {rs:List Nat} {fuel:Nat} {listed:Array Bool} {a:Act} {w:World} (hr:Region.ready md ops listed=rs) (hne:rs ≠ [])
 (h:QJ P md ops Q S ds fuel listed a w rs):qk P md ops Q S ds (fuel+1) listed a w:=zD9 hr hne h
theorem Zv {id n:Nat} {a:Act} {w:World} (l:Array Bool) (hm:P.follows .mixedOrders=true) (hn:ops.size=n) (hl:Array.replicate n false=l) (hS:S w.drew)
 (h:S w.drew→qk P .any ops Q S ds n l a w.drew):(Code.region id ops true).wp P Q a w:=by
 subst hn;subst hl;exact zCa hm (h hS)
def zGS (md:Region.Mode) (ops:Array Oper) (ds:List Nat) (l l' : Array Bool) (i:Nat):Bool:=
 Region.noSelect ops&&Region.free md ops l i&&(Region.ready md ops l).contains i&&Region.zC9 md ops l&&Region.zHc md ops l ds i&&(l.setIfInBounds i true==l')
theorem ZA {i:Nat} {N:Option Tmp} {oi:Oper} {v:Value} {fuel:Nat} {l:Array Bool} {a:Act} {w:World} (l' : Array Bool) (hi:ops[i]?=some oi) (hN:oi.dst=N) (hc:zGS md ops ds l l' i=true)
 (hQ : ∀ c a w,Q (.panic c) (a.put oi.dst v) w→Q (.panic c) a w) (hy:YieldsIf P ops S oi v a) (hS:S w) {a' : Act} (ha:a.put N v=a')
 (h:qk P md ops Q S ds fuel l' a' w):qk P md ops Q S ds (fuel+1) l a w:=by
 subst ha;subst hN;simp only [zGS,Bool.and_eq_true,beq_iff_eq]at hc
 obtain⟨⟨⟨⟨⟨h1,h2⟩,h3⟩,h4⟩,h5⟩,h6⟩:=hc
 subst h6;exact zCY hi h1 h2 h3 h4 h5 hQ hy hS h
def anyB (md:Region.Mode) (ops:Array Oper) (l l' : Array Bool) (i:Nat):Bool:=
 Region.noSelect ops&&Region.free md ops l i&&(Region.ready md ops l).contains i&&(l.setIfInBounds i true==l')
theorem zg {i:Nat} {N:Option Tmp} {oi:Oper} {v:Value} {fuel:Nat} {l:Array Bool} {a:Act} {w:World} (l' : Array Bool) (hi:ops[i]?=some oi) (hN:oi.dst=N) (hc:anyB md ops l l' i=true)
 (hQ : ∀ c a w,Q (.panic c) (a.put oi.dst v) w→Q (.panic c) a w) (hy:Yields P ops oi v a) {a' : Act} (ha:a.put N v=a')
 (h:qk P md ops Q S ds fuel l' a' w):qk P md ops Q S ds (fuel+1) l a w:=by
 subst ha;subst hN;simp only [anyB,Bool.and_eq_true,beq_iff_eq]at hc
 obtain⟨⟨⟨h1,h2⟩,h3⟩,h6⟩:=hc
 subst h6;exact zD8 hi (Region.noSelect_spec h1) hQ fuel l a w (Region.free_spec hi h2) (by simpa using h3) hy h
def zCh (md:Region.Mode) (ops:Array Oper) (l l' : Array Bool) (i:Nat):Bool:=(Region.ready md ops l == [i])&&(l.setIfInBounds i true==l')
theorem zA4 {i:Nat} {N:Option Tmp} {oi:Oper} {fuel:Nat} {l:Array Bool} {a:Act} {w:World} (l' : Array Bool) (hi:ops[i]?=some oi) (hN:oi.dst=N) (hc:zCh md ops l l' i=true) (hd:i ∉ ds)
 (h : ∀ K:Act→World→Prop,Shut (∀ a' w',S w' → (S w' → qk P md ops Q S ds fuel l' a' w')→K a' w')→if Region.wanted oi (yielded ops a.tmps)=true then Oper.wp P oi a w K Q else K (a.put N undef) w) :
 qk P md ops Q S ds (fuel+1) l a w:=by
 subst hN;simp only [zCh,Bool.and_eq_true,beq_iff_eq]at hc
 obtain⟨h1,h2⟩:=hc
 subst h2;exact zAS h1 (by simp) (QJ.cons hi hd (fun K hK=>h K hK) QJ.nil)
theorem zFs {i:Nat} {N:Option Tmp} {oi:Oper} {fuel:Nat} {l:Array Bool} {a:Act} {w:World} (l' : Array Bool) (hi:ops[i]?=some oi) (hN:oi.dst=N) (hc:zCh md ops l l' i=true) (hd:i∈ds)
 (h : ∀ K:Act→World→Prop,Shut (∀ a' w',qk P md ops Q S ds fuel l' a' w' → K a' w')→if Region.wanted oi (yielded ops a.tmps)=true then Oper.wp P oi a w K Q else K (a.put N undef) w) :
 qk P md ops Q S ds (fuel+1) l a w:=by
 subst hN;simp only [zCh,Bool.and_eq_true,beq_iff_eq]at hc
 obtain⟨h1,h2⟩:=hc
 subst h2;exact zAS h1 (by simp) (QJ.zGR hi hd (fun K hK=>h K hK) QJ.nil)
theorem Qo {l:Array Bool} {a:Act} {w:World} {n:Nat} (hr:(Region.ready md ops l == [])=true) (h:Q .normal a w):qk P md ops Q S ds n l a w:=zCZ (by simpa using hr) h n
theorem QE {fuel:Nat} {l:Array Bool} {a a' : Act} {w:World} (ha:a=a') (h:qk P md ops Q S ds fuel l a' w):qk P md ops Q S ds fuel l a w:=by
 subst ha;exact h
theorem call_ {oi:Oper} {N:Option Tmp} {a:Act} {w:World} {K:Act→World→Prop} (f:FuncId) (args:Array Value) (hw:Region.wanted oi (yielded ops a.tmps)=true) (hN:oi.dst=N) (hrun:(execOp a.eval oi).run P w = .ok (.enter f args) w)
 (h:Calls P f args w fun e w' => ∃ v,e = .returned v∧K (a.put N v) w'):if Region.wanted oi (yielded ops a.tmps)=true then Oper.wp P oi a w K Q else K (a.put N undef) w:=by
 rw[if_pos hw]
 subst hN;unfold Oper.wp
 rw[hrun,Oper.upon_enter]
 refine h.mono fun e w'' hh=>?_
 obtain⟨v,rfl,hk⟩:=hh
 exact hk
theorem zEc {f:FuncId} {fn:Func} (hf:P.funcs[f]?=some fn) (hname:(fn.name == "runtime.NumGoroutine")=false) (hb:fn.body.isSome=true) (args:Array Value) (w:World):(callFunc f args).run P w = .ok (.enter f args) w:=by
 have h1:fn.name ≠ "runtime.NumGoroutine" := by simpa using hname
 obtain⟨c,hc⟩:=Option.isSome_iff_exists.1 hb
 simp [callFunc,hf,h1,hc]
theorem QO {oi:Oper} {N:Option Tmp} {a:Act} {w:World} {K:Act→World→Prop} {f:FuncId} {fn:Func} {as:Array Operand} {ts:Array TypeId} (hf:P.funcs[f]?=some fn) (hname:(fn.name == "runtime.NumGoroutine")=false) (hb:fn.body.isSome=true) (args:Array Value)
 (hw:Region.wanted oi (yielded ops a.tmps)=true) (hN:oi.dst=N) (hop:oi.op = .call { callee := .value (.func f),args:=as,argTypes:=ts }) (hargs:as.map a.eval=args)
 (h:Calls P f args w fun e w' => ∃ v,e = .returned v∧K (a.put N v) w'):if Region.wanted oi (yielded ops a.tmps)=true then Oper.wp P oi a w K Q else K (a.put N undef) w:=by
 refine call_ f args hw hN ?_ h
 have he:=zEc hf hname hb args w
 unfold execOp
 simp [hop,resolve,Deferred.ofValue,invoke,Act.eval,hargs,he]
theorem qV {rest:List Oper} {oi:Oper} {a:Act} {w:World} (N:Option Tmp) (hd:oi.dst=N) (hg:oi.guard=none) {f:FuncId} {fn:Func} {as:Array Operand} {ts:Array TypeId} (hf:P.funcs[f]?=some fn) (hname:(fn.name == "runtime.NumGoroutine")=false) (hb:fn.body.isSome=true) (args:Array Value)
 (hop:oi.op = .call { callee := .value (.func f),args:=as,argTypes:=ts }) (hargs:as.map a.eval=args)
 (h:Calls P f args w fun e w' => ∃ v,e = .returned v∧wpList P ops Q rest (a.put N v) w'):wpList P ops Q (oi :: rest) a w:=by
 refine wpList_plain hg fun K hK=>?_
 have he:=zEc hf hname hb args w
 have hrun:(execOp a.eval oi).run P w = .ok (.enter f args) w:=by
  unfold execOp
  simp [hop,resolve,Deferred.ofValue,invoke,Act.eval,hargs,he]
 unfold Oper.wp
 rw[hrun,Oper.upon_enter]
 refine h.mono fun e w'' hh=>?_
 obtain⟨v,rfl,hk⟩:=hh
 subst hd;exact hK _ _ hk
theorem zAH {oi:Oper} {N:Option Tmp} {a:Act} {w w1:World} {v:Value} {K:Act→World→Prop} (hw:Region.wanted oi (yielded ops a.tmps)=true) (hN:oi.dst=N) (hrun:(execOp a.eval oi).run P w = .ok (.value v) w1)
 (h:K (a.put N v) w1):if Region.wanted oi (yielded ops a.tmps)=true then Oper.wp P oi a w K Q else K (a.put N undef) w:=by
 rw[if_pos hw]
 subst hN;unfold Oper.wp
 rw[hrun]
 exact h
theorem zIX {oi:Oper} {a:Act} {w w1:World} {K:Act→World→Prop} (hw:Region.wanted oi (yielded ops a.tmps)=true) (hN:oi.dst=none) (hrun:(execOp a.eval oi).run P w = .ok .skip w1)
 (h:K a w1):if Region.wanted oi (yielded ops a.tmps)=true then Oper.wp P oi a w K Q else K (a.put none undef) w:=by
 rw[if_pos hw]
 unfold Oper.wp
 rw[hrun]
 show K (a.put oi.dst undef) w1
 rw[hN]
 exact h
theorem zX (n:Int):IntKind.i64.wrap n=Go.RowKit.wrap64 n:=by unfold Go.RowKit.wrap64;exact IntKind.wrap_i64 n
theorem za (n:Int):IntKind.i32.wrap n=Go.RowKit.wrap32 n:=by unfold Go.RowKit.wrap32;exact IntKind.wrap_i32 n
end
end Go.Proofs.YtembbpalgfikiaaW.PrintLast
namespace Go.Proofs.YtembbpalgfikiaaW.PrintLast
open Go.Proofs.YtembbpalgfikiaaW.PrintWords (zA)
def zBP (md:Region.Mode) (o:Oper):List Nat:=(o.after.toList.filter (fun e=>Region.binds md e)).map (fun e=>e.on)
def zEd (md:Region.Mode) (ops:Array Oper) (i:Nat) (oi:Oper):List Nat:=(List.range ops.size).filter fun j => !(j==i)&&match ops[j]? with
  | some oj => !(oj.after.any (fun e=>Region.binds md e&&e.on==i)||oi.apart ops oj)
  | none=>false
def Jg (md:Region.Mode) (ops:Array Oper):Bool × List (List Nat × List Nat):=(Region.noSelect ops,(List.range ops.size).map fun i=>match ops[i]? with
  | some o=>(zBP md o,zEd md ops i o)
  | none=>([],[]))
def Jo (T:List (List Nat × List Nat)) (l:List Bool) (i:Nat):Bool := !l.getD i true&&match T[i]? with
  | some r=>r.1.all (fun j=>l.getD j false)
  | none=>false
def zCC (T:List (List Nat × List Nat)) (l:List Bool):List Nat:=(List.range T.length).filter (Jo T l)
def zGT (T:List (List Nat × List Nat)) (l:List Bool) (i:Nat):Bool:=match T[i]? with
  | some r=>r.2.all (fun j=>l.getD j true)
  | none=>false
def zDA (T:List (List Nat × List Nat)) (l:List Bool):Bool:=(List.range T.length).all fun j => !l.getD j false||match T[j]? with
  | some r=>r.1.all (fun k=>l.getD k false)
  | none=>true
def zCi (T:List (List Nat × List Nat)) (i:Nat):Nat→Nat→Bool
  | 0,_=>false
  | fuel+1,d=>match T[d]? with
    | some r=>r.1.any fun j=>j==i||zCi T i fuel j
    | none=>false
def zHd (T:List (List Nat × List Nat)) (l:List Bool) (ds:List Nat) (i:Nat):Bool:=ds.all fun d=>l.getD d true||zCi T i T.length d
section
variable {md : Region.Mode} {ops : Array Oper} {T : Bool × List (List Nat × List Nat)} {l l' li lj lk : Array Bool} {ds : List Nat} {i j k : Nat}
theorem gd (l:Array Bool) (j:Nat) (b:Bool):l.getD j b=l.toList.getD j b:=by simp [Array.getD_eq_getD_getElem?,List.getD_eq_getElem?_getD]
theorem zDu (o:Oper) (p:Nat→Bool):o.after.all (fun e => !Region.binds md e||p e.on)=(zBP md o).all p:=by
  unfold zBP
  rw[← Array.all_toList]
  induction o.after.toList with
  | nil=>rfl
  | cons e r ih=>
    rw[List.all_cons,ih,List.filter_cons]
    cases h:Region.binds md e <;> simp
theorem zGU (o:Oper) (p:Nat→Bool):o.after.any (fun e=>Region.binds md e&&p e.on)=(zBP md o).any p:=by
  unfold zBP
  rw[← Array.any_toList]
  induction o.after.toList with
  | nil=>rfl
  | cons e r ih=>
    rw[List.any_cons,ih,List.filter_cons]
    cases h:Region.binds md e <;> simp
theorem zA5:(Jg md ops).2.length=ops.size:=by simp [Jg]
theorem zB6 {o:Oper} (h:ops[i]?=some o):(Jg md ops).2[i]?=some (zBP md o,zEd md ops i o):=by
  have hi:=(Array.getElem?_eq_some_iff.1 h).1
  unfold Jg
  rw[List.getElem?_map,List.getElem?_range hi,Option.map_some,h]
theorem zB7 (h:ops[i]?=none):(Jg md ops).2[i]?=none:=by
  have hi:ops.size≤i:=Array.getElem?_eq_none_iff.1 h
  exact List.getElem?_eq_none (by rw[zA5];exact hi)
theorem zFt:Jo (Jg md ops).2 l.toList i=(!l.getD i true&&((ops[i]?).map (·.after.all fun e => !Region.binds md e||l.getD e.on false)).getD false):=by
  unfold Jo
  rw[gd]
  cases h:ops[i]? with
  | none=>rw[zB7 h];rfl
  | some o=>
    rw[zB6 h]
    simp only [Option.map_some,Option.getD_some]
    rw[← zDu]
    simp only [gd]
theorem zB8:Region.ready md ops l=zCC (Jg md ops).2 l.toList:=by
  unfold Region.ready zCC
  rw[zA5]
  refine List.filter_congr (fun i _=>?_)
  rw[zFt]
theorem zGV:Region.free md ops l i=zGT (Jg md ops).2 l.toList i:=by
  unfold Region.free zGT
  cases h:ops[i]? with
  | none=>rw[zB7 h]
  | some oi=>
    rw[zB6 h]
    simp only [zEd]
    rw[List.all_filter]
    congr 1
    funext j
    rw[gd]
    cases hj:ops[j]? with
    | none=>cases (j==i) <;> cases (l.toList.getD j true) <;> simp
    | some oj=>
      cases (j==i) <;> cases (l.toList.getD j true) <;> cases (oj.after.any (fun e=>Region.binds md e&&e.on==i)||oi.apart ops oj) <;> simp_all
theorem zGW:Region.zC9 md ops l=zDA (Jg md ops).2 l.toList:=by
  unfold Region.zC9 zDA
  rw[zA5]
  congr 1
  funext j
  rw[gd]
  cases h:ops[j]? with
  | none=>rw[zB7 h]
  | some o=>
    rw[zB6 h]
    simp only
    rw[← zDu]
    simp only [gd]
theorem zF9 : ∀ (fuel d:Nat),Region.zAG md ops i fuel d=zCi (Jg md ops).2 i fuel d
  | 0,_=>rfl
  | fuel+1,d=>by
    unfold Region.zAG zCi
    cases h:ops[d]? with
    | none=>rw[zB7 h]
    | some o=>
      rw[zB6 h]
      simp only
      rw[← zGU]
      congr 1
      funext e
      rw[zF9 fuel]
theorem zIY:Region.zHc md ops l ds i=zHd (Jg md ops).2 l.toList ds i:=by
  unfold Region.zHc zHd
  rw[zA5]
  congr 1
  funext d
  rw[gd,zF9]
theorem zCD (h:Jo T.2 l.toList i=true) (hT:Jg md ops=T):(Region.ready md ops l).contains i=true:=by
  subst hT;rw[zB8]
  unfold zCC
  rw[List.contains_iff_mem,List.mem_filter,List.mem_range]
  refine⟨?_,h⟩
  unfold Jo at h
  rw[Bool.and_eq_true]at h
  cases hq:(Jg md ops).2[i]? with
  | none=>rw[hq]at h;simp at h
  | some r=>exact(List.getElem?_eq_some_iff.1 hq).1
theorem zGX (h:(l.toList.set i true==l'.toList)=true):(l.setIfInBounds i true==l')=true:=by
  rw[beq_iff_eq]at h ⊢
  apply Array.ext'
  rw[Array.toList_setIfInBounds]
  exact h
def anyT (T:Bool × List (List Nat × List Nat)) (l l' : List Bool) (i:Nat):Bool:=T.1&&zGT T.2 l i&&Jo T.2 l i&&(l.set i true==l')
theorem zm (hT:Jg md ops=T) (h:anyT T l.toList l'.toList i=true):anyB md ops l l' i=true:=by
  simp only [anyT,Bool.and_eq_true]at h
  obtain⟨⟨⟨h1,h2⟩,h3⟩,h4⟩:=h
  have h5:=zCD h3 hT
  have h6:=zGX h4
  subst hT;simp only [anyB,Bool.and_eq_true]
  exact⟨⟨⟨h1,by rw[zGV];exact h2⟩,h5⟩,h6⟩
def zIZ (T:Bool × List (List Nat × List Nat)) (ds:List Nat) (l l' : List Bool) (i:Nat):Bool:=T.1&&zGT T.2 l i&&Jo T.2 l i&&zDA T.2 l&&zHd T.2 l ds i&&(l.set i true==l')
theorem zIa (hT:Jg md ops=T) (h:zIZ T ds l.toList l'.toList i=true):zGS md ops ds l l' i=true:=by
  simp only [zIZ,Bool.and_eq_true]at h
  obtain⟨⟨⟨⟨⟨h1,h2⟩,h3⟩,h4⟩,h5⟩,h6⟩:=h
  have h7:=zCD h3 hT
  have h8:=zGX h6
  subst hT;simp only [zGS,Bool.and_eq_true]
  exact⟨⟨⟨⟨⟨h1,by rw[zGV];exact h2⟩,h7⟩,by rw[zGW];exact h4⟩,by rw[zIY];exact h5⟩,h8⟩
theorem QG (hT:Jg md ops=T) (h:(zCC T.2 l.toList == [i]&&l.toList.set i true==l'.toList)=true):zCh md ops l l' i=true:=by
  simp only [Bool.and_eq_true]at h
  obtain⟨h1,h2⟩:=h
  subst hT;simp only [zCh,Bool.and_eq_true]
  exact⟨by rw[zB8];exact h1,zGX h2⟩
theorem Qp (hT:Jg md ops=T) (h:(zCC T.2 l.toList == [])=true):(Region.ready md ops l == [])=true:=by
  subst hT;rw[zB8]
  exact h
def upM (B:List Nat) (d:Nat):List Nat→Nat
  | []=>0
  | n :: r=>(2^n ||| (if n<d then B.getD n 0 else 0)) ||| upM B d r
def QK (T:List (List Nat × List Nat)) (B:List Nat):Bool:=(List.range T.length).all fun d=>match T[d]? with
  | some r=>(B.getD d 0 ||| upM B d r.1)==upM B d r.1
  | none=>false
theorem zAu {B:List Nat} {d i:Nat} : ∀ {ns:List Nat},(upM B d ns).testBit i=true → ∃ n∈ns,n=i∨(n<d∧(B.getD n 0).testBit i=true)
  | [],h=>by simp [upM]at h
  | n :: r,h=>by
    unfold upM at h
    rw[Nat.testBit_or,Nat.testBit_or,Bool.or_eq_true,Bool.or_eq_true]at h
    rcases h with (h|h)|h
    · rw[Nat.testBit_two_pow]at h
      exact⟨n,List.mem_cons_self,.inl (by simpa using h)⟩
    · by_cases hn:n<d
      · rw[if_pos hn]at h
        exact⟨n,List.mem_cons_self,.inr ⟨hn,h⟩⟩
      · rw[if_neg hn]at h
        simp at h
    · obtain⟨m,hm,h2⟩:=zAu h
      exact⟨m,List.mem_cons_of_mem _ hm,h2⟩
theorem zDv {T:List (List Nat × List Nat)} {B:List Nat} (hB:QK T B=true) : ∀ (fuel d:Nat),d<fuel→d<T.length→(B.getD d 0).testBit i=true→zCi T i fuel d=true
  | 0,d,h,_,_=>by omega
  | fuel+1,d,h,hd,hb=>by
    have h1:=List.all_eq_true.1 hB d (List.mem_range.2 hd)
    cases hr:T[d]? with
    | none=>rw[hr]at h1;simp at h1
    | some r=>
      rw[hr]at h1
      simp only [beq_iff_eq]at h1
      have h2:(upM B d r.1).testBit i=true:=by rw[← h1,Nat.testBit_or,hb,Bool.true_or]
      obtain⟨n,hn,h3⟩:=zAu h2
      unfold zCi
      rw[hr]
      simp only
      rw[List.any_eq_true]
      refine⟨n,hn,?_⟩
      rcases h3 with rfl|⟨h4,h5⟩
      · simp
      · rw[zDv hB fuel n (by omega) (by omega) h5,Bool.or_true]
def lastW (T:List (List Nat × List Nat)) (B:List Nat) (l:List Bool) (ds:List Nat) (i:Nat):Bool:=ds.all fun d=>l.getD d true||(decide (d<T.length)&&(B.getD d 0).testBit i)
def takeW (T:Bool × List (List Nat × List Nat)) (B:List Nat) (ds:List Nat) (l l' : List Bool) (i:Nat):Bool:=T.1&&zGT T.2 l i&&Jo T.2 l i&&zDA T.2 l&&lastW T.2 B l ds i&&(l.set i true==l')
theorem qm {B:List Nat} (hT:Jg md ops=T) (hB:QK T.2 B=true) (h:takeW T B ds l.toList l'.toList i=true):zGS md ops ds l l' i=true:=by
  refine zIa hT ?_
  simp only [takeW,zIZ,Bool.and_eq_true]at h ⊢
  obtain⟨⟨⟨⟨⟨h1,h2⟩,h3⟩,h4⟩,h5⟩,h6⟩:=h
  refine⟨⟨⟨⟨⟨h1,h2⟩,h3⟩,h4⟩,?_⟩,h6⟩
  unfold lastW at h5
  unfold zHd
  rw[List.all_eq_true]at h5 ⊢
  intro d hd
  have h7:=h5 d hd
  rw[Bool.or_eq_true,Bool.and_eq_true,decide_eq_true_eq]at h7
  rcases h7 with h7|⟨h8,h9⟩
  · rw[h7,Bool.true_or]
  · rw[zDv hB _ d h8 h8 h9,Bool.or_true]
theorem Zn {P:Program} {Q:Exit→Act→World→Prop} {S:World→Prop} {n:Nat} {a:Act} {w:World} {B:List Nat} (hT:Jg md ops=T) (hB:QK T.2 B=true) (h:zA (Jg md ops=T)→zA (QK T.2 B=true)→qk P md ops Q S ds n l a w):qk P md ops Q S ds n l a w:=h ⟨hT⟩ ⟨hB⟩
end
def zCb:Code→Nat→Option (Array Oper)
  | .region id ops _,k=>if id==k then some ops else none
  | .seq a b,k=>match zCb a k with
    | some o=>some o
    | none=>zCb b k
  | .cond _ a b,k=>match zCb a k with
    | some o=>some o
    | none=>zCb b k
  | .block _ c,k=>zCb c k
  | .loop c,k=>zCb c k
  | .scope c,k=>zCb c k
  | .rangeFunc _ _ a b,k=>match zCb a k with
    | some o=>some o
    | none=>zCb b k
  | _,_=>none
def opsOf (f:Func) (k:Nat):Array Oper:=((f.body.bind fun c=>zCb c k)).getD #[]
end Go.Proofs.YtembbpalgfikiaaW.PrintLast
namespace Go.Proofs.YtembbpalgfikiaaW.PrintWords
open Go.RowKit
namespace Kd
def tag {α:Type} (f:Nat→Nat) (d:Kd α):Kd (α × Nat) where
 sz:=d.sz
 E:=d.E
 K:=fun w x cs=>d.K w x.1 cs
 M:=fun w base ok x cs=>d.M w base (fun k=>ok k∧f k=x.2) x.1 cs
 K_len:=fun h=>d.K_len h
 K_one:=fun h=>d.K_one h
 K_below:=fun hb h=>d.K_below hb h
 K_of_M:=fun h=>d.K_of_M h
 M_mono:=fun hok h=>d.M_mono (fun k hk=>⟨hok k hk.1,hk.2⟩) h
 M_bound:=fun h=>d.M_mono (fun _ hk=>⟨⟨hk.1.1,hk.2⟩,hk.1.2⟩) (d.M_bound h)
 M_move:=fun hm h=>d.M_move (fun k hk=>hm k hk.1) h
 M_lower:=fun hb h=>d.M_lower hb h
def bare {α:Type} (d:Kd α):Kd α where
 sz:=d.sz
 E:=d.E
 K:=d.K
 M:=fun w base _ x cs=>d.M w base (fun _=>False) x cs
 K_len:=fun h=>d.K_len h
 K_one:=fun h=>d.K_one h
 K_below:=fun hb h=>d.K_below hb h
 K_of_M:=fun h=>d.K_of_M h
 M_mono:=fun _ h=>h
 M_bound:=fun h=>h
 M_move:=fun _ h=>d.M_move (fun _ hk=>hk.elim) h
 M_lower:=fun hb h=>d.M_lower hb h
def raw (sz:Nat):Kd (List Value) where
 sz:=sz
 E := []
 K:=fun _ x cs=>cs=x∧cs.length=sz ∧ ∀ u∈cs,u.oneCell' = true
 M:=fun _ _ _ x cs=>cs=x∧cs.length=sz ∧ ∀ u∈cs,u.oneCell' = true
 K_len:=fun h=>h.2.1
 K_one:=fun h=>h.2.2
 K_below:=fun _ h=>h
 K_of_M:=fun h=>h
 M_mono:=fun _ h=>h
 M_bound:=fun h=>h
 M_move:=fun _ h=>h
 M_lower:=fun _ h=>h
def S {α:Type} (d:Kd α) (e:Nat) (w:World) (base:Nat) (ok:Nat→Prop) (v:Value) (xs:List α):Prop := ∃ f,(tag f d).R e w base ok v xs.zipIdx
section
variable {α β : Type} {d : Kd α} {d' : Kd β} {e e' : Nat} {w w1 W : World} {base b : Nat} {ok ok' okv oku : Nat → Prop} {u v : Value} {xs : List α} {ys : List β}
theorem zBe {xs:List α} {j:Nat} {p : α} (h:xs[j]?=some p):xs.zipIdx[j]?=some (p,j):=by rw[List.getElem?_zipIdx,h,Nat.zero_add];rfl
theorem S_R (h:S d e w base ok v xs):d.R e w base ok v xs:=by
 obtain⟨f,h0,inner,ho,hr⟩:=h
 rw[List.length_zipIdx]at ho
 exact⟨h0,inner,ho,by have:=hr.1;rw[List.length_zipIdx]at this;exact this,fun j p hj=>d.M_mono (fun _ hk=>hk.1) (hr.2 j (p,j) (zBe hj))⟩
theorem R_head {ad:Addr} {n cap:Nat} (h:d.R e w base ok (.slice (some ad) n cap) xs) : ∃ g,ad=⟨g,0,none⟩:=by
 obtain⟨_,inner,ho,hr⟩:=h
 rcases ho.2 with ⟨hv,_⟩|⟨g,cap',cur,hv,_⟩
 next=>
  cases hv
 injection hv with ha _ _
 injection ha with ha
 exact⟨g,ha⟩
theorem R_getA {ad:Addr} {n cap:Nat} (h:d.R e W base ok (.slice (some ad) n cap) xs) (z : α) (i:Int) (h0:0≤i) (h1:i<n) :
 ∃ c,c.length=d.sz∧d.M W base (fun k=>ok k∧some k≠(Value.slice (some ad) n cap).ownBlock) (xs.getD i.toNat z) c ∧ ∀ j u,c[j]?=some u→W.cell? (ad.add (i.toNat*d.sz+j))=some u:=by
 obtain⟨g,rfl⟩:=R_head h
 obtain⟨c,hcl,hM,hcc,_⟩:=zF8 h z i h0 h1
 refine⟨c,hcl,d.M_mono (fun k hk=>⟨hk.1,fun he=>hk.2 (by simpa [Value.ownBlock]using he)⟩) hM,fun j u hu=>?_⟩
 rw[add_at,Nat.zero_add]
 exact hcc j u hu
theorem Qu (hE:d.E = []) (h:d.R e w base ok v xs):d.R e w base (fun k=>some k=v.ownBlock) v xs:=by
 obtain⟨h0,inner,ho,hr⟩:=h
 refine⟨fun k hk=>hk.symm,inner,ho,hr.zCX (fun p c hp=>d.M_mono (fun k hk=>?_) (d.M_bound hp))⟩
 obtain⟨_,_,_,q,hq,_⟩:=hk
 rw[hE]at hq
 cases hq
theorem zHe (d:Kd α) (e:Nat) (w:World) (base:Nat) (ok:Nat→Prop):S d e w base ok (.slice none 0 0) []:=⟨fun _=>0,zD6 _ _ _ _ _⟩
theorem ZC (h:S d e w base ok v xs) (hok : ∀ k,ok k→ok' k):S d e w base ok' v xs:=by
 obtain⟨f,h⟩:=h
 exact⟨f,qC h hok⟩
theorem zGY (h:S d e w base ok v xs):S d e w base (fun k=>ok k∧base≤k∧k<w.heap.size ∧ ∃ q,q∈e :: d.E ∧ ∃ cells,w.heap[k]?=some (.cells cells q (0,0))) v xs:=by
 obtain⟨f,h⟩:=h
 exact⟨f,Zy h⟩
theorem S_move (h:S d e w base ok v xs) (hm : ∀ k,ok k→w1.heap[k]?=w.heap[k]?):S d e w1 base ok v xs:=by
 obtain⟨f,h⟩:=h
 exact⟨f,zC6 h hm⟩
theorem QA {base' : Nat} (h:S d e w base ok v xs) (hb:base' ≤ base):S d e w base' ok v xs:=by
 obtain⟨f,h⟩:=h
 exact⟨f,qx h hb⟩
theorem zGZ (h:S d e w base ok v xs) (hm : ∀ k,ok k→k<w.heap.size→w1.heap[k]?=w.heap[k]?):S d e w1 base ok v xs:=
 ZC (S_move (zGY h) (fun k hk=>hm k hk.1 hk.2.2.1)) (fun _ hk=>hk.1)
theorem Zf (h:S d e w base ok v xs) (hb:Below w.heap.size w w1):S d e w1 base ok v xs:=zGZ h (fun k _ hk=>hb.block k hk)
theorem zh (h:S d e w base ok v xs) (o:Obj):S d e (w.alloc o) base ok v xs:=Zf h (zC (Below.refl _ _) o)
theorem zx (h:S d e w base ok v xs):S d e w.drew base ok v xs:=Zf h (zBM (Below.refl _ _))
theorem zi (h:S d e w base ok v xs) (m:Nat):S d e (w.drewN m) base ok v xs:=Zf h (zB (Below.refl _ _) m)
theorem QD (h:S d e w base ok v xs) {p:Addr} (hok : ∀ k,ok k→k≠p.block) (u:Value):S d e (w.setCell p u) base ok v xs:=zGZ h (fun k ho _=>Below.heap_setCell w p u k (hok k ho))
theorem Zo (h:S d e w base ok v xs) {g t:Nat} {cells:Array Value} (hb:w.heap[g]?=some (.cells cells t (0,0))) (ht : ∀ q,q∈e :: d.E→q≠t):S d e w base (fun k=>ok k∧k≠g) v xs:=by
 obtain⟨f,h⟩:=h
 exact⟨f,Za h hb ht⟩
theorem Qj (h:S d e w base ok v xs) : ∀ k,v.ownBlock=some k → ∃ cells,w.heap[k]?=some (.cells cells e (0,0)):=zAt (S_R h)
theorem zEX (h:S d e w base ok v xs) : ∀ k,v.ownBlock=some k→k<w.heap.size:=JO (S_R h)
theorem Jx (h:S d e w base ok v xs) : ∀ k,v.ownBlock=some k→base≤k:=Zw (S_R h)
theorem Zt (h:S d e W base ok u xs) (hbase : ∀ k,v.ownBlock=some k→W.heap.size≤k) (hb:Below W.heap.size W w1):S d e w1 base (fun k=>ok k∧some k≠v.ownBlock) u xs:=by
 obtain⟨f,h⟩:=h
 exact⟨f,Zs h hbase hb⟩
theorem QL (h:S d e w1 W.heap.size ok v xs) (hlt : ∀ k,u.ownBlock=some k→k<W.heap.size):S d e w1 W.heap.size (fun k=>ok k∧some k≠u.ownBlock) v xs:=by
 obtain⟨f,h⟩:=h
 exact⟨f,JP h hlt⟩
theorem JY {v1:Value} (h:S d e W base (fun k=>ok k∧some k≠v.ownBlock) u xs) (hg:W.grownBy w1 v.ownBlock) (hat:v1.ownBlock=v.ownBlock ∨ ∃ b,v1.ownBlock=some b∧W.heap.size≤b):S d e w1 base (fun k=>ok k∧some k≠v1.ownBlock) u xs:=by
 obtain⟨f,h⟩:=h
 exact⟨f,ZK h hg hat⟩
theorem zIA (h:(bare d).R e w base ok v xs):S d e w base ok v xs:=by
 obtain⟨h0,inner,ho,hr⟩:=h
 refine⟨fun _=>0,h0,inner,by rw[List.length_zipIdx];exact ho,by rw[List.length_zipIdx];exact hr.1,fun j p hj=>?_⟩
 rw[List.getElem?_zipIdx,Nat.zero_add]at hj
 obtain⟨x,hx,rfl⟩:=Option.map_eq_some_iff.1 hj
 exact d.M_mono (fun _ hk=>hk.elim) (hr.2 j x hx)
theorem R_tag {f f' : Nat→Nat} {zs:List (α × Nat)} (h:(tag f d).R e w base ok v zs) (hf : ∀ k,ok k→k<w.heap.size→f' k=f k):(tag f' d).R e w base ok v zs:=by
 obtain⟨h0,inner,ho,hr⟩:=Zy h
 exact⟨fun k hk=>(h0 k hk).1,inner,ho,hr.1,fun j p hj=>d.M_mono (fun k hk=>⟨⟨hk.1.1.1,hk.1.2⟩,(hf k hk.1.1.1 hk.1.1.2.2.1).trans hk.2⟩) (hr.2 j p hj)⟩
end
section
variable {α β : Type} {d : Kd α} {d' : Kd β} {e e' g : Nat} {w w1 W : World} {base b : Nat} {ok ok' okv oku : Nat → Prop} {u v : Value} {xs : List α} {ys : List β}
theorem S_ne (h:S d e w base ok v xs) {t:Nat} {cells:Array Value} (hb:w.heap[g]?=some (.cells cells t (0,0))) (ht:e≠t):some g≠v.ownBlock:=zCU (S_R h) hb ht
theorem S_form (h:S d e w base ok v xs) (hp:0<xs.length) : ∃ g cap,v = .slice (some ⟨g,0,none⟩) xs.length cap∧base≤g∧g<w.heap.size ∧ ∃ cells,w.heap[g]?=some (.cells cells e (0,0)):=Jw (S_R h) hp
theorem QM (h:S d e w base ok v xs) : ∃ A c,v = .slice A xs.length c:=ZE (S_R h)
theorem ZF {A:Option Addr} {n c:Nat} (h:S d e w base ok (.slice A n c) xs):n=xs.length∧n≤c∧d.C w A xs.length xs:=zq (S_R h)
theorem S_get {ad:Addr} {n cap:Nat} (h:S d e W base ok (.slice (some ad) n cap) xs) (z : α) (i:Int) (h0:0≤i) (h1:i<n) :
 ∃ c,c.length=d.sz∧d.M W base (fun k=>ok k∧some k≠(Value.slice (some ad) n cap).ownBlock) (xs.getD i.toNat z) c ∧ ∀ j u,c[j]?=some u→W.cell? (ad.add (i.toNat*d.sz+j))=some u:=R_getA (S_R h) z i h0 h1
theorem zHf (xs:List α) (p : α):(xs ++ [p]).zipIdx=xs.zipIdx ++ [(p,xs.length)]:=by rw[List.zipIdx_append];simp
end
section
open Classical in
theorem S_tag {α:Type} {d:Kd α} {e base:Nat} {okv:Nat→Prop} {w:World} {v:Value} {xs:List α} (h:S d e w base okv v xs) (m:Nat) (okp:Nat→Prop) (hap : ∀ k,okp k → ¬ okv k) : ∃ f,(∀ k,okp k→f k=m)∧(tag f d).R e w base okv v xs.zipIdx:=by
 obtain⟨f,h⟩:=h
 exact⟨fun k=>if okp k then m else f k,fun k hk=>if_pos hk,R_tag h (fun k hk _=>if_neg (fun h2=>hap k h2 hk))⟩
variable {P : Program} {ops : Array Oper} {rest : List Oper} {o : Oper} {a : Act} {Q : Exit → Act → World → Prop} {Kc : Act → World → Prop} {α : Type}
theorem zDB (d:Kd α) {w0 W:World} (base:Nat) (hgd:o.guard=none) (s x:Operand) (t e:TypeId) (z:Value) (bytes:Nat)
 (ho:o.op = .call { callee := .builtin .append,args:=#[s,x],argTypes:=#[t,t] })
 (ht:P.underlying t=some (.slice e)) (hinfo:(P.info? e).map (fun i=>(i.zero,i.size,i.bytes))=some (some z,d.sz,bytes)) (hz:z.cells.size=d.sz) (aa:0<d.sz) (ab:0<bytes)
 (v:Value) (xs:List α) (p : α) (cs:List Value) (ok okp:Nat→Prop) (hs:a.eval s=v) (hx:a.eval x = .slice (some ⟨W.heap.size,0,none⟩) 1 1) (hp:d.M W base okp p cs) (hokp : ∀ k,okp k→ok k∧some k≠v.ownBlock) (hfresh : ∀ k,W.heap.size≤k→ok k)
 (HO:S d e W base (fun k=>ok k ∧ ¬ okp k) v xs) (HB:Below base w0 W) (hbase:base≤W.heap.size) (hl:(xs.length+1)*bytes≤140737488355328)
 (h : ∀ v1 w1,S d e w1 base ok v1 (xs ++ [p])→Below base w0 w1→W.grownBy w1 v.ownBlock→(v1.ownBlock=v.ownBlock ∨ ∃ b,v1.ownBlock=some b∧W.heap.size≤b)→wpList P ops Q rest (a.put o.dst v1) w1) :
 wpList P ops Q (o :: rest) a (W.alloc (.cells cs.toArray e)):=by
 obtain⟨f,hf,hR⟩:=S_tag HO xs.length okp (fun _ hk h2=>h2.2 hk)
 refine Qn (tag f d) base hgd s x t e z bytes ho ht hinfo hz aa ab v xs.zipIdx (p,xs.length) cs ok okp hs hx (d.M_mono (fun k hk=>⟨hk,hf k hk⟩) hp) hokp hfresh (qC hR (fun _ hk=>hk.1)) HB hbase (by rw[List.length_zipIdx];exact hl) ?_
 intro v1 w1 hr
 rw[← zHf]at hr
 exact h v1 w1 ⟨f,hr⟩
theorem S_lit (d:Kd α) {w0 W:World} (base e:Nat) (hgd:o.guard=none) {N:Tmp} (_hd:o.dst=some N) {xs:List α} {inner:List Value} {ok okp:Nat→Prop}
 (hrun:(execOp a.eval o).run P W = .ok (.value (.slice (some ⟨W.heap.size,0,none⟩) xs.length xs.length)) (W.alloc (.cells inner.toArray e)))
 (hrep:QN (d.M W base (fun _=>False)) d.sz xs inner) (_hok : ∀ k,okp k→ok k) (hfresh:ok W.heap.size) (HB:Below base w0 W) (hbase:base≤W.heap.size) (hm:xs.length≤9223372036854775807)
 (h : ∀ v1 w1,S d e w1 base ok v1 xs→Below base w0 w1→W.grownBy w1 none→(∃ b,v1.ownBlock=some b∧W.heap.size≤b)→wpList P ops Q rest (a.put o.dst v1) w1):wpList P ops Q (o :: rest) a W:=
 zBO (bare d) base e hgd _hd (ok:=ok) (okp:=ok) hrun hrep (fun _ hk=>hk) hfresh HB hbase hm (fun v1 w1 hr=>h v1 w1 (zIA hr))
theorem S_make (d:Kd α) {w0 W:World} (base e:Nat) (hgd:o.guard=none) {N:Tmp} (hd:o.dst=some N) (t:TypeId) (x y:Operand) (ho:o.op = .makeSlice t x y) (n:Int) (hx:a.eval x = .int .i64 n) (hy:a.eval y = .int .i64 n)
 (ht:P.underlying t=some (.slice e)) (z:Value) (bytes:Nat) (hinfo:(P.info? e).map (fun i=>(i.zero,i.size,i.bytes))=some (some z,d.sz,bytes)) (hz:z.cells.size=d.sz) (aa:0<d.sz) (ab:0<bytes)
 (z0 : α) {ok okp:Nat→Prop} (hzero:d.M W base (fun _=>False) z0 z.cells.toList) (_hok : ∀ k,okp k→ok k) (hfresh:ok W.heap.size) (h0:0≤n) (hl:n.toNat*bytes≤281474976710656) (HB:Below base w0 W) (hbase:base≤W.heap.size)
 (h : ∀ v1 w1,S d e w1 base ok v1 (List.replicate n.toNat z0)→Below base w0 w1→W.grownBy w1 none→(∃ b,v1.ownBlock=some b∧W.heap.size≤b)→wpList P ops Q rest (a.put o.dst v1) w1):wpList P ops Q (o :: rest) a W:=
 zDr (bare d) base e hgd hd t x y ho n hx hy ht z bytes hinfo hz aa ab z0 (ok:=ok) (okp:=ok) hzero (fun _ hk=>hk) hfresh h0 hl HB hbase (fun v1 w1 hr=>h v1 w1 (zIA hr))
end
def gap {α:Type} (f:Nat→Nat) (d:Kd α) (i:Nat) (c:List Value):Kd (α × Nat) where
 sz:=d.sz
 E:=d.E
 K:=fun w x cs=>(x.2=i→cs=c∧cs.length=d.sz ∧ ∀ u∈cs,u.oneCell' = true)∧(x.2≠i→d.K w x.1 cs)
 M:=fun w base ok x cs=>(x.2=i→cs=c∧cs.length=d.sz ∧ ∀ u∈cs,u.oneCell' = true)∧(x.2≠i→d.M w base (fun k=>ok k∧f k=x.2) x.1 cs)
 K_len:=fun {w x cs} h=>by
  by_cases hx:x.2=i
  next=>
   exact(h.1 hx).2.1
  exact d.K_len (h.2 hx)
 K_one:=fun {w x cs} h=>by
  by_cases hx:x.2=i
  next=>
   exact(h.1 hx).2.2
  exact d.K_one (h.2 hx)
 K_below:=fun hb h=>⟨h.1,fun hx=>d.K_below hb (h.2 hx)⟩
 K_of_M:=fun h=>⟨h.1,fun hx=>d.K_of_M (h.2 hx)⟩
 M_mono:=fun hok h=>⟨h.1,fun hx=>d.M_mono (fun k hk=>⟨hok k hk.1,hk.2⟩) (h.2 hx)⟩
 M_bound:=fun h=>⟨h.1,fun hx=>d.M_mono (fun _ hk=>⟨⟨hk.1.1,hk.2⟩,hk.1.2⟩) (d.M_bound (h.2 hx))⟩
 M_move:=fun hm h=>⟨h.1,fun hx=>d.M_move (fun k hk=>hm k hk.1) (h.2 hx)⟩
 M_lower:=fun hb h=>⟨h.1,fun hx=>d.M_lower hb (h.2 hx)⟩
def H {α:Type} (d:Kd α) (e:Nat) (w:World) (base:Nat) (ok:Nat→Prop) (v:Value) (xs:List α) (i:Int) (oki:Nat→Prop) (c:List Value):Prop:=
 (∀ k,oki k→ok k) ∧ ∃ f,(gap f d i.toNat c).R e w base (fun k=>ok k ∧ ¬ oki k) v xs.zipIdx
section
variable {α β : Type} {d : Kd α} {e e' g n cap : Nat} {w w1 W : World} {base : Nat} {ok ok' oki okp : Nat → Prop} {u v : Value} {xs : List α} {i : Int} {c : List Value}
theorem S_lend (h:S d e W base ok (.slice (some ⟨g,0,none⟩) n cap) xs) (z : α) (i:Int) (h0:0≤i) (h1:i<n) :
 ∃ (oki:Nat→Prop) (c:List Value),c.length=d.sz∧d.M W base oki (xs.getD i.toNat z) c∧(∀ j u,c[j]?=some u→W.cell? ⟨g,i.toNat*d.sz+j,none⟩=some u)∧(∀ k,oki k→ok k∧k≠g)∧H d e W base ok (.slice (some ⟨g,0,none⟩) n cap) xs i oki c:=by
 obtain⟨f,hR⟩:=h
 have hn:=(zq hR).1
 rw[List.length_zipIdx]at hn
 have hgo:some g=(Value.slice (some ⟨g,0,none⟩) n cap).ownBlock:=by simp [Value.ownBlock]
 obtain⟨aa,inner,ho,hr⟩:=hR
 have hil:i.toNat<xs.length:=by omega
 have hlen:inner.length=xs.length*d.sz:=by have:=hr.1;rw[List.length_zipIdx]at this;exact this
 have hseg:i.toNat*d.sz+d.sz≤inner.length:=by rw[hlen,← Nat.succ_mul];exact Nat.mul_le_mul_right _ hil
 have hM:=hr.2 i.toNat _ (zBe (List.getElem?_eq_getElem hil))
 have hkg : ∀ k,some k≠(Value.slice (some ⟨g,0,none⟩) n cap).ownBlock→k≠g:=fun k hk he=>hk (by rw[he];exact hgo)
 refine⟨fun k=>(ok k∧k≠g)∧f k=i.toNat,(inner.drop (i.toNat*d.sz)).take d.sz,by rw[List.length_take,List.length_drop];omega,?_,fun j u hu=>?_,fun k hk=>hk.1,fun k hk=>hk.1.1,f,fun k hk=>⟨aa k hk,fun h2=>h2.1.2 ?_⟩,inner,ho,hr.1,fun m p hm=>?_⟩
 next=>
  rw[List.getD_eq_getElem?_getD,List.getElem?_eq_getElem hil]
  exact d.M_mono (fun k hk=>⟨⟨hk.1.1,hkg k hk.1.2⟩,hk.2⟩) hM
 next=>
  rw[List.getElem?_take]at hu
  split at hu
  next=>
   rw[List.getElem?_drop]at hu
   have:=ho.cells (g:=g) hgo.symm _ u hu
   rwa [add_plain]at this
  cases hu
 next=>
  rw[← hgo]at hk;injection hk with hk;exact hk.symm
 have hold:=hr.2 m p hm
 have ab:p.2=m:=by
  rw[List.getElem?_zipIdx,Nat.zero_add]at hm
  obtain⟨q,_,rfl⟩:=Option.map_eq_some_iff.1 hm
  rfl
 refine⟨fun hx=>?_,fun hx=>d.M_mono (fun k hk=>⟨⟨⟨hk.1.1,fun h2=>hx ?_⟩,hk.1.2⟩,hk.2⟩) hold⟩
 next=>
  have hmi:m=i.toNat:=by omega
  subst hmi;exact⟨rfl,d.K_len (d.K_of_M hM),d.K_one (d.K_of_M hM)⟩
 rw[← hk.2];exact h2.2
open Classical in
theorem H_back (h:H d e w base ok v xs i oki c) {x' : α} (hM:d.M w base okp x' c) (hok : ∀ k,okp k→oki k):S d e w base ok v (xs.set i.toNat x'):=by
 obtain⟨ho,f,h0,inner,hown,hr⟩:=h
 refine⟨fun k=>if oki k then i.toNat else f k,fun k hk=>(h0 k hk).1,inner,by rw[List.length_zipIdx,List.length_set];rw[List.length_zipIdx]at hown;exact hown,by have:=hr.1;rw[List.length_zipIdx]at this;rw[List.length_zipIdx,List.length_set];exact this,fun m p hm=>?_⟩
 rw[List.getElem?_zipIdx,Nat.zero_add]at hm
 obtain⟨q,hq,rfl⟩:=Option.map_eq_some_iff.1 hm
 have hml:m<xs.length:=by
  have:=(List.getElem?_eq_some_iff.1 hq).1
  rwa [List.length_set]at this
 by_cases hmi:m=i.toNat
 case neg=>
  rw[List.getElem?_set_ne (Ne.symm hmi)]at hq
  exact d.M_mono (fun k hk=>⟨⟨hk.1.1.1,hk.1.2⟩,(if_neg hk.1.1.2).trans hk.2⟩) ((hr.2 m (q,m) (zBe hq)).2 hmi)
 subst hmi;rw[List.getElem?_set_self hml]at hq
 injection hq with hq
 subst hq;have hc:=((hr.2 i.toNat _ (zBe (List.getElem?_eq_getElem hml))).1 rfl).1
 show d.M w base _ x' ((inner.drop (i.toNat*d.sz)).take d.sz)
 rw[show(inner.drop (i.toNat*d.sz)).take d.sz=c from hc]
 exact d.M_mono (fun k hk=>⟨⟨ho k (hok k hk),fun he=>(h0 k he.symm).2 (hok k hk)⟩,if_pos (hok k hk)⟩) hM
theorem H_more {okg:Nat→Prop} (h:H d e w base (fun k=>ok k ∧ ¬ okg k) v xs i oki c) (hg : ∀ k,okg k→ok k):H d e w base ok v xs i (fun k=>oki k∨okg k) c:=by
 obtain⟨ho,f,h⟩:=h
 exact⟨fun k hk=>hk.elim (fun h2=>(ho k h2).1) (hg k),f,qC h (fun k hk=>⟨hk.1.1,fun h2=>h2.elim hk.2 hk.1.2⟩)⟩
theorem zIB (h:S d e W base ok (.slice (some ⟨g,0,none⟩) n cap) xs) (z : α) (i:Int) (h0:0≤i) (h1:i<n) :
 ∃ (oki:Nat→Prop) (c:List Value),c.length=d.sz∧d.M W base oki (xs.getD i.toNat z) c∧(∀ j u,c[j]?=some u→W.cell? ⟨g,i.toNat*d.sz+j,none⟩=some u)∧(∀ j,W.frozen? ⟨g,i.toNat*d.sz+j,none⟩=false)∧(∀ k,oki k→ok k∧k≠g)∧H d e W base ok (.slice (some ⟨g,0,none⟩) n cap) xs i oki c:=by
 obtain⟨_,_,_,_,hfr⟩:=zF8 (S_R h) z i h0 h1
 obtain⟨oki,c,hcl,hM,hcc,hoki,hH⟩:=S_lend h z i h0 h1
 exact⟨oki,c,hcl,hM,hcc,hfr,hoki,hH⟩
theorem H_raw (h:H d e W base ok (.slice (some ⟨g,0,none⟩) n cap) xs i oki c) (h0:0≤i) (h1:i<n) :
 ∃ rows:List (List Value),rows.length=xs.length∧(raw d.sz).R e W base (fun _=>True) (.slice (some ⟨g,0,none⟩) n cap) rows∧c.length=d.sz∧(∀ u∈c,u.oneCell' = true)∧(∀ j u,c[j]?=some u→W.cell? ⟨g,i.toNat*d.sz+j,none⟩=some u) ∧
  ∀ w1 c',W.grownBy w1 (some g)→(raw d.sz).R e w1 base (fun _=>True) (.slice (some ⟨g,0,none⟩) n cap) (rows.set i.toNat c')→H d e w1 base ok (.slice (some ⟨g,0,none⟩) n cap) xs i oki c':=by
 obtain⟨hoo,f,hR⟩:=h
 have hn:=(zq hR).1
 rw[List.length_zipIdx]at hn
 have hgo:some g=(Value.slice (some ⟨g,0,none⟩) n cap).ownBlock:=by simp [Value.ownBlock]
 obtain⟨aa,inner,ho,hr⟩:=hR
 have hil:i.toNat<xs.length:=by omega
 have hlen:inner.length=xs.length*d.sz:=by have:=hr.1;rw[List.length_zipIdx]at this;exact this
 have hkg : ∀ k,some k≠(Value.slice (some ⟨g,0,none⟩) n cap).ownBlock→k≠g:=fun k hk he=>hk (by rw[he];exact hgo)
 have hci:=(hr.2 i.toNat _ (zBe (List.getElem?_eq_getElem hil))).1 rfl
 rw[hci.1]at hci
 have hc:=((hr.2 i.toNat _ (zBe (List.getElem?_eq_getElem hil))).1 rfl).1
 refine⟨(List.range xs.length).map fun j=>(inner.drop (j*d.sz)).take d.sz,by rw[List.length_map,List.length_range],⟨fun _ _=>trivial,inner,?_,?_,fun j p hj=>?_⟩,hci.2.1,hci.2.2,fun j u hu=>?_,fun w1 c' hg hraw=>?_⟩
 next=>
  rw[List.length_map,List.length_range];rw[List.length_zipIdx]at ho;exact ho
 next=>
  rw[List.length_map,List.length_range];exact hlen
 next=>
  rw[List.getElem?_map]at hj
  obtain⟨j',hj',rfl⟩:=Option.map_eq_some_iff.1 hj
  obtain⟨hl,he⟩:=List.getElem?_eq_some_iff.1 hj'
  rw[List.getElem_range]at he
  subst he;rw[List.length_range]at hl
  have hm:=(gap f d i.toNat c).K_of_M (hr.2 j _ (zBe (List.getElem?_eq_getElem hl)))
  exact⟨rfl,(gap f d i.toNat c).K_len hm,(gap f d i.toNat c).K_one hm⟩
 next=>
  rw[← hc,List.getElem?_take]at hu
  split at hu
  next=>
   rw[List.getElem?_drop]at hu
   have:=ho.cells (g:=g) hgo.symm _ u hu
   rwa [add_plain]at this
  cases hu
 obtain⟨_,inner',ho',hr'⟩:=hraw
 have hl' : inner'.length=xs.length*d.sz:=by have:=hr'.1;rw[List.length_set,List.length_map,List.length_range]at this;exact this
 rw[List.length_set,List.length_map,List.length_range]at ho'
 refine⟨hoo,f,aa,inner',by rw[List.length_zipIdx];exact ho',by rw[List.length_zipIdx];exact hl',fun m p hm=>?_⟩
 rw[List.getElem?_zipIdx,Nat.zero_add]at hm
 obtain⟨q,hq,rfl⟩:=Option.map_eq_some_iff.1 hm
 have hml:m<xs.length:=(List.getElem?_eq_some_iff.1 hq).1
 have hold:=hr.2 m (q,m) (zBe hq)
 refine⟨fun hx=>?_,fun hx=>?_⟩
 next=>
  have hx' : m=i.toNat:=hx
  subst hx';exact hr'.2 i.toNat c' (List.getElem?_set_self (by rw[List.length_map,List.length_range];exact hml))
 have hx' : m≠i.toNat:=hx
 have hcm:=(hr'.2 m ((inner.drop (m*d.sz)).take d.sz) (by
  rw[List.getElem?_set_ne (Ne.symm hx'),List.getElem?_map,List.getElem?_eq_getElem (by rw[List.length_range];exact hml),List.getElem_range]
  rfl)).1
 show d.M w1 base _ q ((inner'.drop (m*d.sz)).take d.sz)
 rw[show(inner'.drop (m*d.sz)).take d.sz=_ from hcm]
 exact d.M_mono (fun k hk=>hk.1) (d.M_move (w1:=w1) (fun k hk=>hg.block k hk.2.2.1 (fun he=>hkg k hk.1.1.2 (by injection he))) (d.M_bound (hold.2 hx)))
theorem H_seg (h:H d e W base ok (.slice (some ⟨g,0,none⟩) n cap) xs i oki c) (h0:0≤i) (h1:i<n) {seg:List Value} {j:Nat} (hj:j+seg.length≤d.sz) (hone : ∀ q∈seg,q.oneCell' = true) :
 H d e (W.setCells g (i.toNat*d.sz+j) seg) base ok (.slice (some ⟨g,0,none⟩) n cap) xs i oki (c.take j++seg++c.drop (j+seg.length))∧W.grownBy (W.setCells g (i.toNat*d.sz+j) seg) (some g):=by
 obtain⟨rows,_,hraw,hcl,hco,hcc,hback⟩:=H_raw h h0 h1
 obtain⟨h2,h3⟩:=R_seg hraw i h0 h1 (c:=c) (seg:=seg) (j:=j) (x':=c.take j++seg++c.drop (j+seg.length)) (okp:=fun _=>False) hcl hcc hj
  ⟨rfl,by
   show(c.take j++seg++c.drop (j+seg.length)).length=d.sz
   simp only [List.length_append,List.length_take,List.length_drop];omega,fun u hu=>by
   rcases List.mem_append.1 hu with hu|hu
   next=>
    rcases List.mem_append.1 hu with hu|hu
    next=>
     exact hco u (List.mem_of_mem_take hu)
    exact hone u hu
   exact hco u (List.mem_of_mem_drop hu)⟩ (fun _ hk=>hk.elim)
 exact⟨hback _ _ h3 h2,h3⟩
theorem S_seg {okg:Nat→Prop} (hH:H d e W base (fun k=>ok k ∧ ¬ okg k) (.slice (some ⟨g,0,none⟩) n cap) xs i oki c) (h0:0≤i) (h1:i<n) {seg:List Value} {j:Nat} (hj:j+seg.length≤d.sz)
 {x' : α} (hM:d.M W base okp x' (c.take j++seg++c.drop (j+seg.length))) (hokp : ∀ k,okp k→oki k∨okg k) (hg : ∀ k,okg k→ok k∧k≠g) :
 S d e (W.setCells g (i.toNat*d.sz+j) seg) base ok (.slice (some ⟨g,0,none⟩) n cap) (xs.set i.toNat x')∧W.grownBy (W.setCells g (i.toNat*d.sz+j) seg) (some g):=by
 have hne : ∀ k,oki k∨okg k→k≠g:=by
  intro k hk he
  subst he;rcases hk with hk|hk
  next=>
   obtain⟨_,f,hR⟩:=hH
   exact(hR.1 k (by simp [Value.ownBlock])).2 hk
  exact(hg k hk).2 rfl
 obtain⟨h2,h3⟩:=H_seg (H_more hH (fun k hk=>(hg k hk).1)) h0 h1 hj (fun q hq=>d.K_one (d.K_of_M hM) q (List.mem_append_left _ (List.mem_append_right _ hq)))
 exact⟨H_back h2 (zGL hM (fun k hk hlt=>h3.block k hlt (fun he=>hne k (hokp k hk) (by injection he)))) hokp,h3⟩
end
section
variable {P : Program} {ops : Array Oper} {rest : List Oper} {o : Oper} {a : Act} {Q : Exit → Act → World → Prop} {α : Type}
end
end Kd
end Go.Proofs.YtembbpalgfikiaaW.PrintWords
namespace Go.Proofs.YtembbpalgfikiaaW.PrintWords
open Go.RowKit
def Kept (w W:World) (S:Nat→Prop):Prop:=w.heap.size≤W.heap.size ∧ ∀ i,i<w.heap.size → ¬ S i→W.heap[i]?=w.heap[i]?
section
variable {w W W2 : World} {S S2 S' : Nat → Prop}
theorem Kept.refl (w:World) (S:Nat→Prop):Kept w w S:=⟨Nat.le_refl _,fun _ _ _=>rfl⟩
theorem Kept.zHg (h:Below w.heap.size w W) (S:Nat→Prop):Kept w W S:=⟨h.size,fun i hi _=>h.block i hi⟩
theorem Kept.zFu (h:Kept w W S) (k:Kept W W2 S2) (hs : ∀ k,S2 k→S k∨w.heap.size≤k):Kept w W2 S:=
  ⟨Nat.le_trans h.1 k.1,fun i hi hn=>(k.2 i (Nat.lt_of_lt_of_le hi h.1) (fun h2=>(hs i h2).elim hn (fun h3=>by omega))).trans (h.2 i hi hn)⟩
theorem Kept.zDC {row:Option Nat} (hg:W.grownBy W2 row) (h:Kept w W S) (hr : ∀ k,row=some k→S k∨w.heap.size≤k):Kept w W2 S:=
  h.zFu (S2:=fun k=>row=some k) ⟨hg.size,fun i hi hn=>hg.block i hi (fun he=>hn he.symm)⟩ hr
theorem Kept.below (h:Kept w W S) (hb:Below W.heap.size W W2):Kept w W2 S:=h.zFu (Kept.zHg hb (fun _=>False)) (fun _ hk=>hk.elim)
theorem Kept.drew (h:Kept w W S):Kept w W.drew S:=h
theorem Kept.drewN (h:Kept w W S) (m:Nat):Kept w (W.drewN m) S:=h
theorem Kept.setCell (h:Kept w W S) {p:Addr} (hp:S p.block∨w.heap.size≤p.block) (u:Value):Kept w (W.setCell p u) S:=
  h.zFu (S2:=fun k=>k=p.block) ⟨by simp [World.setCell],fun i _ hn=>Below.heap_setCell W p u i hn⟩ (fun k hk=>by rw[hk];exact hp)
theorem ZX {g:Nat} {o:Obj} (hb:W.heap[g]?=some o) (hk:Kept W W2 S) (hne : ¬ S g):W2.heap[g]?=some o:=(hk.2 g (qT hb) hne).trans hb
theorem zGa {a:Addr} {v:Value} (hc:W.cell? a=some v) (hk:Kept W W2 S) (hne : ¬ S a.block):W2.cell? a=some v:=by
  have:=hk.2 a.block (World.block_lt_of_cell? W a hc) hne
  simpa [World.cell?,this]using hc
end
namespace Kd
section
variable {α : Type} {d : Kd α} {e base n c : Nat} {ok oki S S2 : Nat → Prop} {w w0 W W1 W2 : World} {v : Value} {A : Option Addr} {xs : List α} {i : Int} {cs : List Value}
theorem zAI (h:d.R e W base ok v xs) (hk:Kept W W2 S) (hne : ∀ k,ok k → ¬ S k):d.R e W2 base ok v xs:=zF6 h (fun k ho hlt=>hk.2 k hlt (hne k ho))
theorem zIC (h:Kd.S d e W base ok v xs) (hk:Kept W W2 S) (hne : ∀ k,ok k → ¬ S k):Kd.S d e W2 base ok v xs:=zGZ h (fun k ho hlt=>hk.2 k hlt (hne k ho))
end
end Kd
end Go.Proofs.YtembbpalgfikiaaW.PrintWords
namespace Go.Proofs.YtembbpalgfikiaaW.PrintWords
open Go.RowKit
def zGE (P:World→Prop) (W:World) (ok:Nat→Prop):Prop := ∀ W' : World,(∀ k,ok k→k<W.heap.size→W'.heap[k]?=W.heap[k]?)→P W'
theorem zIb {W W1:World} {k:Nat} (h:W1.heap[k]?=W.heap[k]?) (hlt:k<W.heap.size):k<W1.heap.size:=by
  rw[Array.getElem?_eq_getElem hlt]at h
  exact(Array.getElem?_eq_some_iff.1 h).1
namespace zGE
variable {P Q : World → Prop} {W W1 : World} {ok ok' : Nat → Prop}
theorem mono (h:zGE P W ok) (hok : ∀ k,ok k→ok' k):zGE P W ok':=fun W' hW=>h W' (fun k hk hlt=>hW k (hok k hk) hlt)
theorem bound (h:zGE P W ok):zGE P W (fun k=>ok k∧k<W.heap.size):=fun W' hW=>h W' (fun k hk hlt=>hW k ⟨hk,hlt⟩ hlt)
theorem step (h:zGE P W ok) (hm : ∀ k,ok k→k<W.heap.size→W1.heap[k]?=W.heap[k]?):zGE P W1 ok:=fun W' hW=>h W' (fun k hk hlt=>(hW k hk (zIb (hm k hk hlt) hlt)).trans (hm k hk hlt))
theorem old (h:zGE P W ok) (hb:Below W.heap.size W W1):zGE P W1 (fun k=>ok k∧k<W.heap.size):=(h.bound).step (fun k _ hlt=>hb.block k hlt)
end zGE
namespace Kd
def F {α:Type} (d:Kd α) (W:World) (ok:Nat→Prop) (A:Option Addr) (n:Nat) (xs:List α):Prop:=zGE (fun W=>d.C W A n xs) W ok
def FK {α:Type} (d:Kd α) (W:World) (ok:Nat→Prop) (x : α) (c:List Value):Prop:=zGE (fun W=>d.K W x c) W ok
section
variable {α β : Type} {d : Kd α} {e base n n' cc g N : Nat} {ok ok' okp S : Nat → Prop} {w w0 w1 W W1 : World} {A A' : Option Addr} {u v v1 : Value} {xs : List α} {xs' : List β} {d' : Kd β} {x : α} {c : List Value}
theorem F_nil (d:Kd α) (W:World) (ok:Nat→Prop):F d W ok none ([]:List α).length []:=fun W' _=>C_nil d W'
theorem zIc (h:d.M W base ok x c):FK d W ok x c:=fun _ hW=>d.K_of_M (zGL h hW)
end
end Kd
end Go.Proofs.YtembbpalgfikiaaW.PrintWords
namespace Go.Proofs.YtembbpalgfikiaaW.PrintWords
open Go.RowKit
namespace Kd
def chunks (sz:Nat) (n:Nat) (inner:List Value):List (List Value):=(List.range n).map fun j=>(inner.drop (j*sz)).take sz
theorem Qv (sz n:Nat) (inner:List Value):(chunks sz n inner).length=n:=by simp [chunks]
theorem zGb {sz n:Nat} {inner:List Value} {j:Nat} (hj:j<n):(chunks sz n inner)[j]?=some ((inner.drop (j*sz)).take sz):=by simp [chunks,hj]
theorem zCj {sz n:Nat} {inner:List Value} {j:Nat} {c:List Value} (h:(chunks sz n inner)[j]?=some c):c=(inner.drop (j*sz)).take sz:=by
  have hj:j<n:=by have:=(List.getElem?_eq_some_iff.1 h).1;rwa [Qv]at this
  rw[zGb hj]at h
  injection h with h
  exact h.symm
theorem zHh {α:Type} {Rr : α→List Value→Prop} {sz:Nat} {xs:List α} {inner:List Value} (h:QN Rr sz xs inner) (hR : ∀ x c,Rr x c→c.length=sz ∧ ∀ u∈c,u.oneCell' = true):QN (fun x cs=>cs=x∧cs.length=sz ∧ ∀ u∈cs,u.oneCell' = true) sz (chunks sz xs.length inner) inner:=by
  refine⟨by rw[Qv];exact h.1,fun j p hj=>?_⟩
  have hjl:j<xs.length:=by have:=(List.getElem?_eq_some_iff.1 hj).1;rwa [Qv]at this
  have hp:=zCj hj
  exact⟨hp.symm,hR _ _ (h.2 j _ (List.getElem?_eq_getElem hjl))⟩
section
variable {α : Type} {d : Kd α} {e base n cc g : Nat} {ok ok' okp S : Nat → Prop} {w w1 W W1 : World} {A : Option Addr} {u v v1 : Value} {xs : List α} {x : α} {c : List Value}
def N {α:Type} (d:Kd α) (e:Nat) (w:World) (base:Nat) (ok:Nat→Prop) (v:Value) (xs:List α):Prop:=
  (∀ k,v.ownBlock=some k→ok k) ∧ ∃ rows:List (List Value),rows.length=xs.length∧(raw d.sz).R e w base (fun k=>some k=v.ownBlock) v rows ∧ ∀ (j:Nat) (x : α) (c:List Value),xs[j]?=some x→rows[j]?=some c→FK d w (fun k=>ok k∧some k≠v.ownBlock) x c
theorem R_N (h:d.R e w base ok v xs):N d e w base ok v xs:=by
  obtain⟨h0,inner,ho,hr⟩:=h
  refine⟨h0,chunks d.sz xs.length inner,Qv _ _ _,⟨fun k hk=>hk.symm,inner,by rw[Qv];exact ho,zHh hr (fun x c hp=>⟨d.K_len (d.K_of_M hp),d.K_one (d.K_of_M hp)⟩)⟩,fun j x c hx hc=>?_⟩
  rw[zCj hc]
  exact zIc (hr.2 j x hx)
theorem zHi (d:Kd α) (e:Nat) (w:World) (base:Nat) (ok:Nat→Prop):N d e w base ok (.slice none 0 0) []:=R_N (zD6 _ _ _ _ _)
end
end Kd
end Go.Proofs.YtembbpalgfikiaaW.PrintWords
namespace Go.Proofs.YtembbpalgfikiaaW.PrintWords
open Go.RowKit
section
variable {w w' u : World} {m B g : Nat} {o : Obj} {row : Option Nat} {S : Nat → Prop} {a : Addr} {v : Value}
theorem zBt (hq:w.drewN m=w') (h:Below B u w):Below B u w':=by subst hq;exact zB h m
theorem zAJ (hq:w.drewN m=w') (h:w.heap[g]?=some o):w'.heap[g]?=some o:=by subst hq;exact h
end
namespace Kd
section
variable {α : Type} {d : Kd α} {e base n m : Nat} {ok : Nat → Prop} {w w' : World} {v : Value} {A : Option Addr} {xs : List α}
end
end Kd
end Go.Proofs.YtembbpalgfikiaaW.PrintWords
namespace Go.Proofs.YtembbpalgfikiaaW.PrintWords
open Go.RowKit
section
variable {P : Program} {d : Nat} {xs ys : Array Value} {f : Field} {fs : List Field} {a b : Value} {r s : Bool} {w : World}
theorem zHj (hn:(f.name == "_")=false) (ha:(part f.type xs f.offset).run P w = .ok a w) (hb:(part f.type ys f.offset).run P w = .ok b w) (he:(Op.equalIn d f.type a b).run P w = .ok r w):(Op.eqFields d xs ys [f]).run P w = .ok r w:=by
  have hn' : f.name ≠ "_" := by simpa using hn
  simp only [Op.eqFields,if_pos hn',Sem.run_bind,ha,hb,he,Result.andThen_ok]
  cases r <;> simp
theorem zHk (hn:(f.name == "_")=false) (ha:(part f.type xs f.offset).run P w = .ok a w) (hb:(part f.type ys f.offset).run P w = .ok b w) (he:(Op.equalIn d f.type a b).run P w = .ok r w) (hr:(Op.eqFields d xs ys fs).run P w = .ok s w):(Op.eqFields d xs ys (f :: fs)).run P w = .ok (r&&s) w:=by
  have hn' : f.name ≠ "_" := by simpa using hn
  rw[Op.eqFields]
  simp only [if_pos hn',Sem.run_bind,ha,hb,he,Result.andThen_ok]
  cases r
  · simp
  · simpa using hr
theorem eqA_of {t:TypeId} {fs:Array Field} (hu:P.underlying t=some (.struct fs)) (hp:P.stoodInHeld t=false) (h:(Op.eqFields d xs ys fs.toList).run P w = .ok r w):(Op.equalIn (d+1) t (.agg xs) (.agg ys)).run P w = .ok r w:=by
  have hf:P.fieldsOf t=fs:=by simp [Program.fieldsOf,hu]
  rw[run_equalIn_struct (P:=P) w d t xs ys (by rw[hf];exact hu) hp,hf]
  exact h
end
end Go.Proofs.YtembbpalgfikiaaW.PrintWords
namespace Go.Proofs.YtembbpalgfikiaaW.PrintWords
theorem QN.one {α:Type} {R : α→List Value→Prop} {ps:List α} {cs:List Value} {p : α} {v:Value} (hp:R p [v]) (h:QN R 1 ps cs):QN R 1 (p :: ps) (v :: cs):=by
  refine⟨by simp [h.1],fun j q hq=>?_⟩
  cases j with
  | zero=>
    simp only [List.getElem?_cons_zero,Option.some.injEq]at hq
    subst hq;simpa using hp
  | succ j=>
    simp only [List.getElem?_cons_succ]at hq
    have h1:=h.2 j q hq
    simpa [Nat.mul_one]using h1
end Go.Proofs.YtembbpalgfikiaaW.PrintWords
namespace Go.Proofs.YtembbpalgfikiaaW.PrintLast
def up (b:Nat→Bool) (i:Nat):Nat→Bool:=fun j=>if j=i then true else b j
theorem zBQ (b:Nat→Bool) (i:Nat):up b i i=true:=by simp [up]
theorem zEe {b:Nat→Bool} {i j:Nat} (h:j≠i):up b i j=b j:=by simp [up,h]
def lof (n:Nat) (O:List Nat) (b:Nat→Bool):List Bool:=(List.range n).map fun j=>if O.contains j then b j else true
def QP (a:Act) (b:Nat→Bool):List (Nat × Tmp × Value)→Act
 | []=>a
 | e :: r=>QP (if b e.1=true then a.put (some e.2.1) e.2.2 else a) b r
section
variable {P : Program} {ops : Array Oper} {Q : Exit → Act → World → Prop} {md : Region.Mode} {T : Bool × List (List Nat × List Nat)} {B : List Nat} {O : List Nat} {b : Nat → Bool} {i j n : Nat}
theorem zFv:(lof n O b).length=n:=by simp [lof]
theorem zDD {d:Bool} (hj:j<n):(lof n O b).getD j d=if O.contains j then b j else true:=by
 simp [lof,List.getD_eq_getElem?_getD,hj]
theorem lof_up (hi:O.contains i=true):(lof n O b).set i true=lof n O (up b i):=by
 apply List.ext_getElem?
 intro j;by_cases hj:j<n
 case neg=>
  rw[List.getElem?_eq_none (by simp [lof];omega),List.getElem?_eq_none (by simp [lof];omega)]
 by_cases hij:i=j
 case neg=>
  rw[List.getElem?_set_ne hij]
  simp only [lof,List.getElem?_map,List.getElem?_range hj,Option.map_some]
  rw[zEe (Ne.symm hij)]
 subst hij;have hl:i<(lof n O b).length:=by rw[zFv];exact hj
 rw[List.getElem?_set_self hl]
 simp only [lof,List.getElem?_map,List.getElem?_range hj,Option.map_some,hi,if_true,zBQ]
def zCE (P:Program) (ops:Array Oper) (Q:Exit→Act→World→Prop) (B:List Nat) (O:List Nat) (I:(Nat→Bool)→Act→World→Prop) (i:Nat):Prop:=
 ∀ b a w,I b a w→b i=false→(∀ j,(O.contains j&&(B.getD i 0).testBit j)=true→b j=true)→(∀ d,(O.contains d&&(B.getD d 0).testBit i)=true→b d=false) →
  ∃ oi,ops[i]?=some oi ∧ ∀ K:Act→World→Prop,Shut (∀ a' w',I (up b i) a' w' → K a' w')→if Region.wanted oi (yielded ops a.tmps)=true then Oper.wp P oi a w K Q else K (a.put oi.dst undef) w
theorem zDw {I:(Nat→Bool)→Act→World→Prop} : ∀ i∈([]:List Nat),zCE P ops Q B O I i:=fun _ h=>by cases h
theorem ZI {I:(Nat→Bool)→Act→World→Prop} {rs:List Nat} (h:zCE P ops Q B O I i) (hs : ∀ j∈rs,zCE P ops Q B O I j) : ∀ j∈i :: rs,zCE P ops Q B O I j:=fun j hj=>by
 rcases List.mem_cons.1 hj with rfl|hj
 next=>
  exact h
 exact hs j hj
def zAT (T:List (List Nat × List Nat)) (O:List Nat):Bool:=
 (List.range T.length).all (fun d=>match T[d]? with
  | some r=>(O.contains d||r.1.all fun n => !O.contains n)&&r.1.all fun n=>decide (n<d)
  | none=>false)&&O.all (fun i=>decide (i<T.length))&&decide O.Nodup
theorem JV {T:List (List Nat × List Nat)} (h:zAT T O=true) {d:Nat} {r:List Nat × List Nat} (hr:T[d]?=some r):(O.contains d=false → ∀ n∈r.1,O.contains n=false) ∧ ∀ n∈r.1,n<d:=by
 simp only [zAT,Bool.and_eq_true]at h
 have h1:=List.all_eq_true.1 h.1.1 d (List.mem_range.2 (List.getElem?_eq_some_iff.1 hr).1)
 rw[hr]at h1
 simp only [Bool.and_eq_true,Bool.or_eq_true,List.all_eq_true,decide_eq_true_eq]at h1
 refine⟨fun hd n hn=>?_,h1.2⟩
 rcases h1.1 with h2|h2
 next=>
  rw[hd]at h2;cases h2
 simpa using h2 n hn
theorem zDx {T:List (List Nat × List Nat)} (h:zAT T O=true) {i:Nat} (hi:i∈O):i<T.length:=by
 simp only [zAT,Bool.and_eq_true]at h
 simpa using List.all_eq_true.1 h.1.2 i hi
theorem zDy {T:List (List Nat × List Nat)} (h:zAT T O=true):O.Nodup:=by
 simp only [zAT,Bool.and_eq_true]at h
 exact of_decide_eq_true h.2
def zID (T:List (List Nat × List Nat)) (O:List Nat) (b:Nat→Bool):Prop := ∀ d r,T[d]?=some r→O.contains d=true→b d=true → ∀ n∈r.1,O.contains n=true→b n=true
theorem zFA {T:List (List Nat × List Nat)} (hw:QK T B=true) (hk:zAT T O=true) : ∀ (m d:Nat),d≤m→d<T.length→O.contains d=false → ∀ j,(B.getD d 0).testBit j=true→O.contains j=false:=by
 intro m;induction m with
 | zero=>
  intro d hd hl hO j hj
  have ab:d=0:=by omega
  subst ab;have hr:T[0]?=some T[0]:=List.getElem?_eq_getElem hl
  have h1:=List.all_eq_true.1 hw 0 (List.mem_range.2 hl)
  rw[hr]at h1
  simp only [beq_iff_eq]at h1
  have h2:(upM B 0 T[0].1).testBit j=true:=by rw[← h1,Nat.testBit_or,hj,Bool.true_or]
  obtain⟨n,hn,h3⟩:=zAu h2
  have:=(JV hk hr).2 n hn
  omega
 | succ m ih=>
  intro d hd hl hO j hj
  have hr:T[d]?=some T[d]:=List.getElem?_eq_getElem hl
  have h1:=List.all_eq_true.1 hw d (List.mem_range.2 hl)
  rw[hr]at h1
  simp only [beq_iff_eq]at h1
  have h2:(upM B d T[d].1).testBit j=true:=by rw[← h1,Nat.testBit_or,hj,Bool.true_or]
  obtain⟨n,hn,h3⟩:=zAu h2
  have aa:=(JV hk hr).1 hO n hn
  rcases h3 with rfl|⟨h4,h5⟩
  next=>
   exact aa
  exact ih n (by omega) (by omega) aa j h5
theorem zCF {T:List (List Nat × List Nat)} (hw:QK T B=true) (hk:zAT T O=true) (hc:zID T O b) : ∀ (m d:Nat),d≤m→d<T.length→O.contains d=true→b d=true → ∀ j,O.contains j=true→(B.getD d 0).testBit j=true→b j=true:=by
 intro m;induction m with
 | zero=>
  intro d hd hl hO hb j hjO hj
  have aa:d=0:=by omega
  subst aa;have hr:T[0]?=some T[0]:=List.getElem?_eq_getElem hl
  have h1:=List.all_eq_true.1 hw 0 (List.mem_range.2 hl)
  rw[hr]at h1
  simp only [beq_iff_eq]at h1
  have h2:(upM B 0 T[0].1).testBit j=true:=by rw[← h1,Nat.testBit_or,hj,Bool.true_or]
  obtain⟨n,hn,h3⟩:=zAu h2
  have:=(JV hk hr).2 n hn
  omega
 | succ m ih=>
  intro d hd hl hO hb j hjO hj
  have hr:T[d]?=some T[d]:=List.getElem?_eq_getElem hl
  have h1:=List.all_eq_true.1 hw d (List.mem_range.2 hl)
  rw[hr]at h1
  simp only [beq_iff_eq]at h1
  have h2:(upM B d T[d].1).testBit j=true:=by rw[← h1,Nat.testBit_or,hj,Bool.true_or]
  obtain⟨n,hn,h3⟩:=zAu h2
  rcases h3 with rfl|⟨h4,h5⟩
  next=>
   exact hc d _ hr hO hb n hn hjO
  cases hO2:O.contains n with
  | true=>exact ih n (by omega) (by omega) hO2 (hc d _ hr hO hb n hn hO2) j hjO h5
  | false=>
   have:=zFA hw hk n n (Nat.le_refl _) (by omega) hO2 j h5
   rw[hjO]at this
   cases this
theorem zFB : ∀ {O:List Nat},O.Nodup→i∈O→b i=false→(O.filter fun j => !up b i j).length+1=(O.filter fun j => !b j).length
 | [],_,hi,_=>by cases hi
 | x :: r,hn,hi,hb=>by
  rw[List.nodup_cons]at hn
  rcases List.mem_cons.1 hi with rfl|hi
  next=>
   have h1:(r.filter fun j => !up b i j)=r.filter fun j => !b j:=by
    refine List.filter_congr (fun j hj=>?_)
    rw[zEe (fun e=>hn.1 (by rw[← e];exact hj))]
   rw[List.filter_cons,List.filter_cons]
   simp [zBQ,hb,h1]
  have hxi:x≠i:=fun e=>hn.1 (e ▸ hi)
  have h1:=zFB hn.2 hi hb
  rw[List.filter_cons,List.filter_cons,zEe hxi]
  cases hbx:b x
  next=>
   simp only [Bool.not_false,if_true,List.length_cons]
   omega
  simpa using h1
theorem zId (hT:Jg md ops=T) (hw:QK T.2 B=true) (hk:zAT T.2 O=true) (I:(Nat→Bool)→Act→World→Prop) (hs : ∀ i∈O,zCE P ops Q B O I i)
 (hend : ∀ b a w,(∀ j,O.contains j=true→b j=true)→I b a w→Q .normal a w) :
 ∀ (m:Nat) (b:Nat→Bool) (a:Act) (w:World),(O.filter fun j => !b j).length=m→zID T.2 O b→I b a w→qk P md ops Q (fun _=>True) [] m (lof T.2.length O b).toArray a w:=by
 subst hT;have mem_ready' : ∀ {b:Nat→Bool} {i:Nat},i∈Region.ready md ops (lof (Jg md ops).2.length O b).toArray→i<(Jg md ops).2.length∧O.contains i=true∧b i=false ∧ ∀ r,(Jg md ops).2[i]?=some r → ∀ n∈r.1,n<(Jg md ops).2.length→O.contains n=true→b n=true:=by
  intro b i hi
  rw[zB8]at hi
  unfold zCC at hi
  rw[List.mem_filter,List.mem_range]at hi
  obtain⟨hl,h1⟩:=hi
  unfold Jo at h1
  rw[Bool.and_eq_true,zDD hl]at h1
  obtain⟨h2,h3⟩:=h1
  have h4:O.contains i=true:=by
   cases h:O.contains i with
   | true=>rfl
   | false=>rw[h]at h2;simp at h2
  rw[h4]at h2
  refine⟨hl,h4,by simpa using h2,fun r hr n hn hnl hO=>?_⟩
  rw[hr]at h3
  simp only [List.all_eq_true]at h3
  have h5:=h3 n hn
  rw[zDD hnl,hO]at h5
  simpa using h5
 intro m;induction m with
 | zero=>
  intro b a w hm hc hI
  have hall : ∀ j,O.contains j=true→b j=true:=by
   intro j hj
   cases hb:b j with
   | true=>rfl
   | false=>
    have:j∈O.filter fun j => !b j:=List.mem_filter.2 ⟨List.contains_iff_mem.1 hj,by simp [hb]⟩
    rw[List.eq_nil_of_length_eq_zero hm]at this
    cases this
  refine⟨?_,hend b a w hall hI⟩
  refine List.eq_nil_iff_forall_not_mem.2 (fun i hi=>?_)
  obtain⟨_,h1,h2,_⟩:=mem_ready' hi
  rw[hall i h1]at h2
  cases h2
 | succ m ih=>
  intro b a w hm hc hI
  refine⟨fun hr=>?_,fun i hi=>?_⟩
  next=>
   exfalso
   have hex : ∃ i,O.contains i=true∧b i=false:=by
    cases hf:O.filter (fun j => !b j)with
    | nil=>rw[hf]at hm;simp at hm
    | cons x r=>
     have hx:x∈O.filter (fun j => !b j):=by rw[hf];exact List.mem_cons_self
     rw[List.mem_filter]at hx
     exact⟨x,List.contains_iff_mem.2 hx.1,by simpa using hx.2⟩
   have hmin : ∀ k,(∃ i,i≤k∧O.contains i=true∧b i=false) → ∃ i,O.contains i=true∧b i=false ∧ ∀ j,j<i→O.contains j=true→b j=true:=by
    intro k;induction k with
    | zero=>
     rintro⟨i,hi,h1,h2⟩
     exact⟨i,h1,h2,fun j hj=>by omega⟩
    | succ k ihk=>
     rintro⟨i,hi,h1,h2⟩
     by_cases hlow : ∃ j,j≤k∧O.contains j=true∧b j=false
     next=>
      exact ihk hlow
     refine⟨i,h1,h2,fun j hj hO=>?_⟩
     cases hb:b j with
     | true=>rfl
     | false=>exact absurd ⟨j,by omega,hO,hb⟩ hlow
   obtain⟨i0,h1,h2⟩:=hex
   obtain⟨i,hO,hb,hlow⟩:=hmin i0 ⟨i0,Nat.le_refl _,h1,h2⟩
   have hl:=zDx hk (List.contains_iff_mem.1 hO)
   have hin:i∈Region.ready md ops (lof (Jg md ops).2.length O b).toArray:=by
    rw[zB8]
    unfold zCC
    rw[List.mem_filter,List.mem_range]
    refine⟨hl,?_⟩
    unfold Jo
    rw[zDD hl,hO,hb]
    have aa:(Jg md ops).2[i]?=some (Jg md ops).2[i]:=List.getElem?_eq_getElem hl
    rw[aa]
    simp only [if_true,Bool.not_false,Bool.true_and,List.all_eq_true]
    intro n hn
    have hni:=(JV hk aa).2 n hn
    rw[zDD (by omega)]
    cases hOn:O.contains n with
    | true=>simpa using hlow n hni hOn
    | false=>simp
   rw[hr]at hin
   cases hin
  obtain⟨hl,hO,hb,hneed⟩:=mem_ready' hi
  have hon : ∀ j,(O.contains j&&(B.getD i 0).testBit j)=true→b j=true:=by
   intro j hj
   rw[Bool.and_eq_true]at hj
   have aa:(Jg md ops).2[i]?=some (Jg md ops).2[i]:=List.getElem?_eq_getElem hl
   have h1:=List.all_eq_true.1 hw i (List.mem_range.2 hl)
   rw[aa]at h1
   simp only [beq_iff_eq]at h1
   have h2:(upM B i (Jg md ops).2[i].1).testBit j=true:=by rw[← h1,Nat.testBit_or,hj.2,Bool.true_or]
   obtain⟨n,hn,h3⟩:=zAu h2
   have hni:=(JV hk aa).2 n hn
   rcases h3 with rfl|⟨h4,h5⟩
   next=>
    exact hneed _ aa n hn (by omega) hj.1
   cases hO2:O.contains n with
   | true=>exact zCF hw hk hc n n (Nat.le_refl _) (by omega) hO2 (hneed _ aa n hn (by omega) hO2) j hj.1 h5
   | false=>
    have:=zFA hw hk n n (Nat.le_refl _) (by omega) hO2 j h5
    rw[hj.1]at this
    cases this
  have hoff : ∀ d,(O.contains d&&(B.getD d 0).testBit i)=true→b d=false:=by
   intro d hd
   rw[Bool.and_eq_true]at hd
   cases hbd:b d with
   | false=>rfl
   | true=>
    have hdl:=zDx hk (List.contains_iff_mem.1 hd.1)
    have:=zCF hw hk hc d d (Nat.le_refl _) hdl hd.1 hbd i hO hd.2
    rw[hb]at this
    cases this
  obtain⟨oi,hoi,hK⟩:=hs i (List.contains_iff_mem.1 hO) b a w hI hb hon hoff
  refine wpOp_step hoi (fun K' hK'=>hK K' (fun a' w' hI'=>hK' a' w' ⟨fun _ _=>trivial,?_⟩))
  have hset:(lof (Jg md ops).2.length O b).toArray.setIfInBounds i true=(lof (Jg md ops).2.length O (up b i)).toArray:=by
   apply Array.ext'
   rw[Array.toList_setIfInBounds]
   exact lof_up hO
  rw[hset]
  refine ih (up b i) a' w' ?_ ?_ hI'
  next=>
   have:=zFB (zDy hk) (List.contains_iff_mem.1 hO) hb
   omega
  intro d r hr hOd hbd n hn hOn
  by_cases hni:n=i
  next=>
   rw[hni,zBQ]
  rw[zEe hni]
  by_cases hdi:d=i
  next=>
   subst hdi;exact hneed r hr n hn (by have:=(JV hk hr).2 n hn;omega) hOn
  rw[zEe hdi]at hbd
  exact hc d r hr hOd hbd n hn hOn
theorem JA {b:Nat→Bool} {t:Tmp} : ∀ {L:List (Nat × Tmp × Value)} {a:Act},(L.all fun e => !(e.2.1==t))=true→(QP a b L).tmps[t]?=a.tmps[t]?
 | [],_,_=>rfl
 | e :: r,a,h=>by
  rw[List.all_cons,Bool.and_eq_true]at h
  have he:e.2.1≠t:=by simpa using h.1
  unfold QP
  by_cases hb:b e.1=true
  next=>
   rw[if_pos hb,JA h.2]
   simp [Act.put,Array.getElem?_setIfInBounds_ne he]
  rw[if_neg hb]
  exact JA h.2
theorem Zp {b:Nat→Bool} {e:Nat × Tmp × Value} : ∀ {L:List (Nat × Tmp × Value)} {a:Act} (k:Nat),L[k]?=some e→((L.drop (k+1)).all fun x => !(x.2.1==e.2.1))=true→b e.1=true→Nat.ble (e.2.1+1) a.tmps.size=true→(QP a b L).tmps[e.2.1]?=some e.2.2
 | [],_,_,h,_,_,_=>by cases h
 | x :: r,a,0,h,hd,hb,ht=>by
  simp only [List.getElem?_cons_zero,Option.some.injEq]at h
  subst h;unfold QP
  rw[if_pos hb,JA (by simpa using hd)]
  have aa:x.2.1<a.tmps.size:=Nat.le_of_ble_eq_true ht
  simp [Act.put,aa]
 | x :: r,a,k+1,h,hd,hb,ht=>by
  unfold QP
  refine Zp k (by simpa using h) (by simpa using hd) hb ?_
  by_cases hx:b x.1=true
  next=>
   rw[if_pos hx]
   simpa [Act.put]using ht
  rw[if_neg hx]
  exact ht
theorem put_comm {a:Act} {s t:Tmp} {u v:Value} (h:s≠t):(a.put (some s) u).put (some t) v=(a.put (some t) v).put (some s) u:=by
 simp only [Act.put]
 rw[Array.setIfInBounds_comm _ _ h]
theorem zBR {b:Nat→Bool} {t:Tmp} {v:Value} : ∀ {L:List (Nat × Tmp × Value)} {a:Act},(L.all fun e => !(e.2.1==t))=true→(QP a b L).put (some t) v=QP (a.put (some t) v) b L
 | [],_,_=>rfl
 | e :: r,a,h=>by
  rw[List.all_cons,Bool.and_eq_true]at h
  have he:e.2.1≠t:=by simpa using h.1
  unfold QP
  by_cases hb:b e.1=true
  next=>
   rw[if_pos hb,if_pos hb,zBR h.2,put_comm he]
  rw[if_neg hb,if_neg hb]
  exact zBR h.2
theorem zAv {b:Nat→Bool} {i:Nat} : ∀ {L:List (Nat × Tmp × Value)} {a:Act},(L.all fun e => !(e.1==i))=true→QP a (up b i) L=QP a b L
 | [],_,_=>rfl
 | e :: r,a,h=>by
  rw[List.all_cons,Bool.and_eq_true]at h
  have he:e.1≠i:=by simpa using h.1
  unfold QP
  rw[zEe he]
  exact zAv h.2
theorem zDz {b:Nat→Bool} {i:Nat} {t:Tmp} {v0 v:Value} : ∀ {L1 L2:List (Nat × Tmp × Value)} {a:Act},b i=false→((L1++L2).all fun e => !(e.1==i) && !(e.2.1==t))=true →
 (QP a b (L1++(i,t,v0) :: L2)).put (some t) v=QP a (up b i) (L1++(i,t,v) :: L2)
 | [],L2,a,hb,h=>by
  simp only [List.nil_append]at h ⊢
  have h1:(L2.all fun e => !(e.1==i))=true:=List.all_eq_true.2 (fun e he=>by have:=List.all_eq_true.1 h e he;simp only [Bool.and_eq_true]at this;exact this.1)
  have h2:(L2.all fun e => !(e.2.1==t))=true:=List.all_eq_true.2 (fun e he=>by have:=List.all_eq_true.1 h e he;simp only [Bool.and_eq_true]at this;exact this.2)
  unfold QP
  rw[if_neg (by rw[hb];decide),if_pos (zBQ b i),zBR h2,zAv h1]
 | e :: r,L2,a,hb,h=>by
  simp only [List.cons_append,List.all_cons,Bool.and_eq_true]at h
  have he:e.1≠i:=by simpa using h.1.1
  simp only [List.cons_append]
  unfold QP
  rw[zEe he]
  exact zDz hb h.2
theorem ZO {b:Nat→Bool} {i:Nat} {t:Tmp} {v0 v:Value} {a:Act} {L L' : List (Nat × Tmp × Value)} (k:Nat) (hb:b i=false) (hL:L[k]?=some (i,t,v0)) (hL' : L.set k (i,t,v)=L') (hd:((L.take k++L.drop (k+1)).all fun e => !(e.1==i) && !(e.2.1==t))=true) :
 (QP a b L).put (some t) v=QP a (up b i) L':=by
 have hk:=(List.getElem?_eq_some_iff.1 hL).1
 have h1:L=L.take k++(i,t,v0) :: L.drop (k+1):=by
  have h2:L[k]=(i,t,v0):=(List.getElem?_eq_some_iff.1 hL).2
  rw[← h2,List.getElem_cons_drop,List.take_append_drop]
 have h3:L' = L.take k++(i,t,v) :: L.drop (k+1):=by rw[← hL',List.set_eq_take_append_cons_drop,if_pos hk]
 rw[h3]
 conv=>lhs;rw[h1]
 exact zDz hb hd
theorem zCG {b:Nat→Bool} {i:Nat} {L:List (Nat × Tmp × Value)} {a:Act} {v:Value} (h:(L.all fun e => !(e.1==i))=true):(QP a b L).put none v=QP a (up b i) L:=(zAv h).symm
theorem inv_ {l:Array Bool} {fuel:Nat} {a:Act} {w:World} (O:List Nat) (I:(Nat→Bool)→Act→World→Prop) (hT:Jg md ops=T) (hw:QK T.2 B=true) (hk:zAT T.2 O=true)
 (hl:(lof T.2.length O (fun _=>false)==l.toList&&O.length==fuel)=true) (h0:I (fun _=>false) a w) (hs : ∀ i∈O,zCE P ops Q B O I i)
 (hend : ∀ b a w,(∀ j,O.contains j=true→b j=true)→I b a w→Q .normal a w):qk P md ops Q (fun _=>True) [] fuel l a w:=by
 rw[Bool.and_eq_true,beq_iff_eq,beq_iff_eq]at hl
 have h1:=zId hT hw hk I hs hend fuel (fun _=>false) a w (by rw[← hl.2];simp) (fun d r _ _ hb=>by cases hb) h0
 have h2:(lof T.2.length O (fun _=>false)).toArray=l:=by apply Array.ext';exact hl.1
 rw[h2]at h1
 exact h1
theorem zIE {l:Array Bool} {fuel:Nat} {a:Act} {w:World} (O:List Nat) (I:Act→(Nat→Bool)→Act→World→Prop) (hT:Jg md ops=T) (hw:QK T.2 B=true) (hk:zAT T.2 O=true)
 (hl:(lof T.2.length O (fun _=>false)==l.toList&&O.length==fuel)=true) (h0:I a (fun _=>false) a w) (hs : ∀ i∈O,zCE P ops Q B O (I a) i)
 (hend : ∀ b a' w,(∀ j,O.contains j=true→b j=true)→I a b a' w→Q .normal a' w):qk P md ops Q (fun _=>True) [] fuel l a w:=inv_ O (I a) hT hw hk hl h0 hs hend
end
end Go.Proofs.YtembbpalgfikiaaW.PrintLast
namespace Go.Proofs.YtembbpalgfikiaaW.PrintMore
open Go.RowKit Go.Proofs.YtembbpalgfikiaaW.PrintWords
namespace Kd
open Go.Proofs.YtembbpalgfikiaaW.PrintWords.Kd
end Kd
namespace Kd
open Go.Proofs.YtembbpalgfikiaaW.PrintWords.Kd
section
variable {α : Type} {d : Kd α} {e base g N : Nat} {ok : Nat → Prop} {W w1 : World} {u v : Value} {xs : List α}
end
end Kd
theorem Ji (k k' : IntKind) (x y:Int):Builtin.max2 (.int k x) (.int k' y)=pure (.int k (if x<y then y else x)):=by simp only [Builtin.max2,gt_iff_lt]
theorem Jj (k k' : IntKind) (x y:Int):Builtin.min2 (.int k x) (.int k' y)=pure (.int k (if y<x then y else x)):=by simp only [Builtin.min2]
theorem zAU (ats:Array TypeId) (ty:TypeId) (a b:Value):Builtin.max_ ats ty #[a,b]=(Builtin.max2 a b >>= fun s=>pure s):=by simp only [Builtin.max_,List.foldlM_cons,List.foldlM_nil]
theorem zAV (ats:Array TypeId) (ty:TypeId) (a b:Value):Builtin.min_ ats ty #[a,b]=(Builtin.min2 a b >>= fun s=>pure s):=by simp only [Builtin.min_,List.foldlM_cons,List.foldlM_nil]
theorem JK (ats:Array TypeId) (ty:TypeId) (a b c:Value):Builtin.max_ ats ty #[a,b,c]=(Builtin.max2 a b >>= fun s=>Builtin.max2 s c >>= fun s=>pure s):=by simp only [Builtin.max_,List.foldlM_cons,List.foldlM_nil]
theorem JL (ats:Array TypeId) (ty:TypeId) (a b c:Value):Builtin.min_ ats ty #[a,b,c]=(Builtin.min2 a b >>= fun s=>Builtin.min2 s c >>= fun s=>pure s):=by simp only [Builtin.min_,List.foldlM_cons,List.foldlM_nil]
theorem Jk (ats:Array TypeId) (ty:TypeId) (a b c d:Value):Builtin.max_ ats ty #[a,b,c,d]=(Builtin.max2 a b >>= fun s=>Builtin.max2 s c >>= fun s=>Builtin.max2 s d >>= fun s=>pure s):=by simp only [Builtin.max_,List.foldlM_cons,List.foldlM_nil]
theorem Jl (ats:Array TypeId) (ty:TypeId) (a b c d:Value):Builtin.min_ ats ty #[a,b,c,d]=(Builtin.min2 a b >>= fun s=>Builtin.min2 s c >>= fun s=>Builtin.min2 s d >>= fun s=>pure s):=by simp only [Builtin.min_,List.foldlM_cons,List.foldlM_nil]
end Go.Proofs.YtembbpalgfikiaaW.PrintMore
namespace Go.Proofs.YtembbpalgfikiaaW.PrintWords
open Go.RowKit
section
variable {P : Program} {ops : Array Oper} {rest : List Oper} {o : Oper} {a : Act} {Q : Exit → Act → World → Prop} {W : World}
theorem zd {f:FuncId} {as:Array Operand} {ts:Array TypeId} (_ho:o.op = .call { callee := .value (.func f),args:=as,argTypes:=ts }) (h:wpList P ops Q (o :: rest) a W):wpList P ops Q (o :: rest) a W:=h
theorem ZN {b:Builtin} {xs:Array Operand} {ts:Array TypeId} (_ho:o.op = .call { callee := .builtin b,args:=xs,argTypes:=ts }) (h:wpList P ops Q (o :: rest) a W):wpList P ops Q (o :: rest) a W:=h
end
theorem JR {P:Program} {f:FuncId} {args args' : Array Value} {w:World} {Q:Ending→World→Prop} (h:args=args') (hc:Calls P f args' w Q):Calls P f args w Q:=h ▸ hc
def mx (a b:Int):Int:=if a<b then b else a
def mn (a b:Int):Int:=if b<a then b else a
namespace Kd
section
variable {α : Type} {d : Kd α} {e base : Nat} {ok : Nat → Prop} {W w1 : World} {v : Value} {xs : List α}
end
section
variable {α : Type} {d : Kd α} {e base g n cap : Nat} {ok oki okp : Nat → Prop} {W : World} {xs : List α} {i : Int} {c : List Value}
end
section
variable {α : Type} {d : Kd α} {e base b b' g N : Nat} {ok ok1 : Nat → Prop} {W W2 w1 : World} {u v : Value} {xs ys : List α} {S : Nat → Prop}
theorem zGc (hE:d.E = []) (h:d.R e W base ok1 v xs) (hok : ∀ k,v.ownBlock=some k→ok k):d.R e W base ok v xs:=qC (Qu hE h) (fun k hk=>hok k hk.symm)
theorem zBS (h:d.R e W base ok v xs) (hk:Kept W W2 S) (hne : ∀ k,ok k → ¬ S k):d.R e W2 base (fun k=>ok k∧(¬ S k∧k<W.heap.size)) v xs:=
  zAI (qC (Zy h) (fun k hk=>⟨hk.1,hne k hk.1,hk.2.2.1⟩)) hk (fun _ hk=>hk.2.1)
end
end Kd
end Go.Proofs.YtembbpalgfikiaaW.PrintWords
namespace Go.Proofs.YtembbpalgfikiaaW.PrintWords
open Go.RowKit
namespace Kd
def V {α:Type} (d:Kd α) (_e:Nat) (W:World) (_base:Nat) (ok:Nat→Prop) (v:Value) (xs:List α):Prop := ∃ A c,v = .slice A xs.length c∧xs.length≤c∧F d W ok A xs.length xs
section
variable {α β : Type} {d : Kd α} {e base base' n m c g N' lo hi : Nat} {ok ok' S : Nat → Prop} {w W w1 : World} {A : Option Addr} {ad : Addr} {u v v1 : Value} {xs : List α}
theorem zHl (d:Kd α) (e:Nat) (W:World) (base:Nat) (ok:Nat→Prop):V d e W base ok (.slice none 0 0) []:=⟨none,0,rfl,Nat.le_refl _,F_nil d W ok⟩
end
end Kd
end Go.Proofs.YtembbpalgfikiaaW.PrintWords
