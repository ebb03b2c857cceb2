/- Lemmas. -/
import Derived.Test.YtpendnmmgjlmfaaGreatDoorM06
import Derived.BigRegion
import Derived.Deep.LoopGhost
set_option linter.unusedVariables false
set_option linter.unusedSimpArgs false
namespace Go.Proofs.YtpendnmmgjlmfaaGreatDoor
open Go.RowKit Go.Shelf Go.Maps
open Go.Proofs.Tryz
open IntKind renaming i64→J,u32→F,u8→aF
open Value renaming pointer→G,int->ι,string->σ,bool->ν,tuple->τ,slice->θ,agg->γ
open Ending renaming returned→aG
open Obj renaming cells→aH
set_option maxRecDepth 100000
set_option maxHeartbeats 4000000
namespace Tr
open Oct
section
variable {W W':World} {E:TL} {room q:Nat} {S:T}
theorem bE (f:Nat->Nd) (x:Nat) (v:Nd):aS f x v x=v:=by simp[aS]
theorem bq (f:Nat->Nd) {x y:Nat} (v:Nd) (h:y≠x):aS f x v y=f y:=by simp[aS,h]
theorem JN {S:T} {x:Nat} {v:Nd} (hk:v.kind=(S.n x).kind) (y:Nat):(aS S.n x v y).kind=(S.n y).kind:=by
 by_cases h:y=x
 ·subst h;rw[bE,hk]
 ·rw[bq _ _ h]
theorem aU.node (h:aU W E room q S) {x:Nat} (hx:(S.n x).kind≠0) (v:Nd) (hk:v.kind=(S.n x).kind) (hd:v.data=(S.n x).data)
 (hnew:aN W' (E.P x) 136 #[.int aF v.kind,.int J v.links,.int F v.data.length,.map (some (E.A x)),.map (some (E.B x)),.int J v.held,.int F v.up])
 (hoth:∀b,b≠E.P x->b<W.heap.size->W'.heap[b]? =W.heap[b]?) (hl:v.links<=100000/\v.held<=100000):aU W' E room q ⟨aS S.n x v,S.l⟩:=by
 have hks:=JN hk;have o:=h.own;have hP:=h.nd x hx;have nA:∀y,(S.n y).kind≠0->E.A y≠E.P x:=λy hy e=>(h.ent y hy).ne hP e.symm;have nM:E.m≠E.P x:=λe=>h.map.ne hP e.symm;refine{top:=?_,map:=?_,nd:=?_,ent:=?_,pg:=?_,own:=?_,iP:=?_,iA:=?_,iB:=?_,Tv:=?_,iM:=?_,rm:=h.rm,q8:=h.q8,lk:=?_,dt:=?_}
 ·exact(hoth _ (λe=>(h.iM x hx).1 e.symm) h.top.lt).trans h.top
 ·have e:jP E ⟨aS S.n x v,S.l⟩=jP E S:=by funext y;simp only[jP,hks]
  rw[e];exact h.map.block (hoth _ nM h.map.lt)
 ·intro y hy
  simp only at hy⊢;rw[hks]at hy
  by_cases e:y=x
  ·subst e
   rw[bE];exact hnew
  ·rw[bq _ _ e]
   exact(hoth _ (λq=>e (h.iP y x hy hx q)) (h.nd y hy).lt).trans (h.nd y hy)
 ·intro y hy
  simp only at hy⊢;rw[hks]at hy;exact(h.ent y hy).block (hoth _ (nA y hy) (h.ent y hy).lt)
 ·intro y hy
  simp only at hy⊢;rw[hks]at hy;obtain⟨g,g1,g2⟩:=h.pg y hy;have nB:E.B y≠E.P x:=λe=>g2.ne hP e.symm;refine⟨g,?_,g2.block (hoth _ nB g2.lt)⟩
  by_cases e:y=x
  ·subst e;rw[bE,hd];exact g1
  ·rw[bq _ _ e];exact g1
 ·exact⟨o.1,o.2.1,λy hy=>o.2.2 y (by rw[<-hks];exact hy)⟩
 ·exact λa b ha hb=>h.iP a b (by rw[<-hks];exact ha) (by rw[<-hks];exact hb)
 ·exact λa b ha hb=>h.iA a b (by rw[<-hks];exact ha) (by rw[<-hks];exact hb)
 ·exact λa b ha hb=>h.iB a b (by rw[<-hks];exact ha) (by rw[<-hks];exact hb)
 ·exact λa b ha hb=>h.Tv a b (by rw[<-hks];exact ha) (by rw[<-hks];exact hb)
 ·exact λa ha=>h.iM a (by rw[<-hks];exact ha)
 ·intro y
  by_cases e:y=x
  ·subst e;simp only[bE];exact hl
  ·simp only[bq _ _ e];exact h.lk y
 ·intro y
  by_cases e:y=x
  ·subst e;simp only[bE,hd];exact h.dt y
  ·simp only[bq _ _ e];exact h.dt y
theorem bL {W W':World} {b:Nat} (h:W.mapTurned W' b) {c:Nat} (hc:c≠b):W'.heap[c]? =W.heap[c]? :=by
 obtain⟨es,clock,es',clock',hb,rfl⟩:=h;exact Go.ChangeMaps.heap_setBlock_other hb _ hc
theorem yP {W W':World} {b:Nat} (h:W.mapTurned W' b):W'.heap.size=W.heap.size:=by
 obtain⟨es,clock,es',clock',hb,rfl⟩:=h
 simp[Go.ChangeMaps.setBlock]
theorem aU.OR (h:aU W E room q S) (hq:q<100000) {d:Nat} (hd:(S.n d).kind≠0) (s:ByteArray) (hs:s.size<=maxLen) (v:Nat) (hv:v≠0):
 ∃W',(Instr.mapUpdate 133 (.map (some (E.A d))) (.string s) (.int F v)).run prog W=.ok () W'/\aU W' E room (q+1) ⟨S.n,aY S.l d (L s) v⟩/\W.mapTurned W' (E.A d):=by
 obtain⟨W',hrun,h1,h2⟩:=(h.ent d hd).put kStr underlying133 (by unfold maxLen;omega) (keyS hs) (.int F v);refine⟨W',hrun,?_,h2⟩;have o:=h.own;have hlt:=(h.ent d hd).lt;obtain⟨es,clk,hmap⟩:=(h.ent d hd).isMap;have nP:∀y,(S.n y).kind≠0->E.P y≠E.A d:=λy hy e=>by have:=h.nd y hy;unfold aN at this;rw[e,hmap]at this;cases this
 refine{top:=?_,map:=?_,nd:=?_,ent:=?_,pg:=?_,own:=o,iP:=h.iP,iA:=h.iA,iB:=h.iB,Tv:=h.Tv,iM:=h.iM,rm:=h.rm,q8:=by omega,lk:=h.lk,dt:=h.dt}
 ·refine(bL h2 λe=>?_).trans h.top
  have:=h.top;unfold aN at this;rw[e,hmap]at this;cases this
 ·exact h.map.block (bL h2 λe=>(h.iM d hd).2.1 e.symm)
 ·exact λy hy=>(bL h2 (nP y hy)).trans (h.nd y hy)
 ·intro y hy
  by_cases e:y=d
  ·subst e
   rw[AO]at h1
   have ee:(λt=>if t=s.data.toList then some (Value.int F v)else Gw (S.l y) t)=Gw (aY S.l y (L s) v y):=by
    funext t
    show(if t=L s then some (Value.int F v)else Gw (S.l y) t)=_;simp only[Gw,aY,true_and]
    by_cases ht:t=L s
    ·simp only[ht,if_true,hv,if_false]
    ·simp only[ht,if_false]
   rw[ee]at h1;exact h1
  ·have ee:aY S.l d (L s) v y=S.l y:=by funext t;simp[aY,e]
   simp only[ee];exact((h.ent y hy).mono (by omega)).block (bL h2 λq=>e (h.iA y d hy hd q))
 ·intro y hy
  obtain⟨g,g1,g2⟩:=h.pg y hy;exact⟨g,g1,g2.block (bL h2 λq=>h.Tv d y hd hy q.symm)⟩
theorem aU.gone (h:aU W E room q S) {x:Nat} (hx:x<4294967296) (ty:TypeId):
 ∃W',(Builtin.delete_ #[128,42] ty #[.map (some E.m),.int F x]).run prog W=.ok (τ #[]) W'/\aU W' E room q ⟨aS S.n x Nd.no,S.l⟩/\W.mapTurned W' E.m:=by
 obtain⟨W',hrun,h1,h2⟩:=h.map.del Db underlying128 (vK hx) ty;refine⟨W',hrun,?_,h2⟩;have o:=h.own;obtain⟨es,clk,hmap⟩:=h.map.isMap
 have hk:∀y,(aS S.n x Nd.no y).kind≠0->y≠x/\(S.n y).kind≠0:=λy hy=>by
  by_cases e:y=x
  ·subst e;rw[bE]at hy;exact absurd rfl hy
  ·rw[bq _ _ e]at hy;exact⟨e,hy⟩
 refine{top:=?_,map:=?_,nd:=?_,ent:=?_,pg:=?_,own:=⟨o.1,o.2.1,λy hy=>o.2.2 y (hk y hy).2⟩,iP:=λa b ha hb=>h.iP a b (hk a ha).2 (hk b hb).2,iA:=λa b ha hb=>h.iA a b (hk a ha).2 (hk b hb).2,iB:=λa b ha hb=>h.iB a b (hk a ha).2 (hk b hb).2,Tv:=λa b ha hb=>h.Tv a b (hk a ha).2 (hk b hb).2,iM:=λa ha=>h.iM a (hk a ha).2,rm:=h.rm,q8:=h.q8,lk:=?_,dt:=?_}
 ·refine(bL h2 λe=>?_).trans h.top
  have:=h.top;unfold aN at this;rw[e,hmap]at this;cases this
 ·rw[JG]at h1
  have ee:(λy=>if y=x then none else jP E S y)=jP E ⟨aS S.n x Nd.no,S.l⟩:=by
   funext y
   simp only[jP]
   by_cases e:y=x
   ·subst e;simp[aS,Nd.no]
   ·simp[aS,e]
  rw[ee]at h1;exact h1
 ·intro y hy
  obtain⟨e,hy'⟩:=hk y hy;simp only[bq _ _ e];refine(bL h2 λq=>?_).trans (h.nd y hy');have:=h.nd y hy';unfold aN at this;rw[q,hmap]at this;cases this
 ·intro y hy
  obtain⟨e,hy'⟩:=hk y hy;exact(h.ent y hy').block (bL h2 (h.iM y hy').2.1)
 ·intro y hy
  obtain⟨e,hy'⟩:=hk y hy;obtain⟨g,g1,g2⟩:=h.pg y hy';simp only[bq _ _ e];exact⟨g,g1,g2.block (bL h2 (h.iM y hy').2.2)⟩
 ·intro y
  by_cases e:y=x
  ·subst e;simp only[bE];exact⟨by decide,by decide⟩
  ·simp only[bq _ _ e];exact h.lk y
 ·intro y
  by_cases e:y=x
  ·subst e;simp only[bE];decide
  ·simp only[bq _ _ e];exact h.dt y
end
def qp (n:Nat) (p:Nat->Bool):Bool:=(List.range n).any p
theorem QA {n:Nat} {p:Nat->Bool} (h:∀i<n,p i=false):qp n p=false:=by
 unfold qp;rw[List.any_eq_false];intro x hx
 simp[h x (by simpa using hx)]
theorem JO {n i:Nat} {p:Nat->Bool} (hi:i<n) (h:p i=true):qp n p=true:=List.any_eq_true.2 ⟨i,by simpa using hi,h⟩
theorem pH (n:Nat) (hn:n<=100) (b cap g:Nat) (lb:Array Value) (vals:Nat->Value) (p:Nat->Bool) (w:World) (hb:b<w.heap.size)
 (eg:∀args W,(callFunc g args).run prog W=.ok (.enter g args) W) (hc:∀i<n,w.cell? ⟨b,i,none⟩=some (vals i))
 (hs:∀W i,i<n->Below w.heap.size w W->(∀j<i,p j=false)->Calls prog g (#[vals i]++lb) W λe W'=>e=aG (ν (p i))/\Below W.heap.size W W'):
 Calls prog 327 #[θ (some b) n cap,.func (.func g) #[] lb] w λe w'=>∃r:Int,e=aG (ι J r)/\decide (0<=r)=qp n p/\Below w.heap.size w w':=by
 have HC:=U hc;have HS:=U hs;have hB:=U hb;clear hc hs
 go_enter func327,ntmps327
 go_wp2_with fail
 go_loopw [8] (λc wr=>∃q:Nat,q<=n/\c=ι J q/\(∀j<q,p j=false)/\Below w.heap.size w wr) (λc _=>n-(intOf c).toNat)
 case atStart=>exact⟨0,by omega,rfl,λj hj=>absurd hj (Nat.not_lt_zero _),aj _ _⟩
 case round=>
  obtain⟨q,hq,rfl,hp,hbl⟩:=hrel;have HP:=U hp;have HB:=U hbl
  by_cases hlt:q<n
  ·have x0:=(hbl.cell (p:=⟨b,q,none⟩) hb).trans (HC.o q hlt)
   have K:=U (HS.o _ q hlt hbl hp);have xl:b<wr.heap.size:=aA hb hbl.size;clear hp hbl;have h1:(0:Int)<=q:=by omega
   have h2:(q:Int)<n:=by omega
   have HV:=U (rfl:vals q=vals q)
   generalize vals q=v at x0 K
   go_wp2_with fail
   rcases hpq:p q with _|_
   ·rw[hpq]at K
    refine ak K.o ?_;rintro e w7 ⟨rfl,h7⟩;have H7:=U (HB.o.trans (h7.mono HB.o.size));have HQ:=U hpq;clear h7 hpq;go_wp2_with fail;go_roundw
    case rel=>exact⟨q+1,by omega,by go_num,λj hj=>(Nat.lt_succ_iff_lt_or_eq.1 hj).elim (HP.o j) (λe=>by rw[e];exact HQ.o),H7.o⟩
    case measure=>simp[intOf];omega
   ·rw[hpq]at K
    refine ak K.o ?_;rintro e w7 ⟨rfl,h7⟩;have H7:=U (HB.o.trans (h7.mono HB.o.size));have HQ:=U (JO hlt hpq);clear h7 hpq;go_wp2_with fail;go_ret;exact⟨q,rfl,by rw[HQ.o];simp,H7.o⟩
  ·obtain rfl:q=n:=by omega
   clear hp hbl;go_wp2_with fail;go_ret;exact⟨-1,rfl,by rw[QA HP.o];simp,HB.o⟩
theorem Gz (n:Nat) (hn:n<=100) (b cap g:Nat) (lb:Array Value) (vals:Nat->Value) (p:Nat->Bool) (w:World) (hb:b<w.heap.size)
 (eg:∀args W,(callFunc g args).run prog W=.ok (.enter g args) W) (hc:∀i<n,w.cell? ⟨b,i,none⟩=some (vals i))
 (hs:∀W i,i<n->Below w.heap.size w W->(∀j<i,p j=false)->Calls prog g (#[vals i]++lb) W λe W'=>e=aG (ν (p i))/\Below W.heap.size W W'):
 Calls prog 283 #[θ (some b) n cap,.func (.func g) #[] lb] w λe w'=>e=aG (ν (qp n p))/\Below w.heap.size w w':=by
 have K:=U (pH n hn b cap g lb vals p w hb eg hc hs);clear hc hs eg
 go_enter func283,ntmps283
 go_wp2_with fail;refine K.o.mono ?_;rintro e w7 ⟨r,rfl,hr,h7⟩;have H7:=U h7;clear h7;obtain⟨z,hz⟩:∃z,qp n p=z:=⟨_,rfl⟩;rw[hz]at hr;have HZ:=U hz;clear hz;go_wp2_with fail;go_ret;exact⟨by rw[HZ.o];rfl,H7.o⟩
theorem pL (n:Nat) (hn:n<=100) (b cap g:Nat) (lb:Array Value) (vals:Nat->Value) (p:Nat->Bool) (w:World) (hb:b<w.heap.size)
 (eg:∀args W,(callFunc g args).run prog W=.ok (.enter g args) W) (hc:∀i<n,w.cell? ⟨b,i,none⟩=some (vals i))
 (hs:∀W i,i<n->Below w.heap.size w W->(∀j<i,p j=false)->Calls prog g (#[vals i]++lb) W λe W'=>e=aG (ν (p i))/\Below W.heap.size W W'):
 Calls prog 163 #[θ (some b) n cap,.func (.func g) #[] lb] w λe w'=>∃r:Int,e=aG (ι J r)/\decide (0<=r)=qp n p/\Below w.heap.size w w':=by
 have HC:=U hc;have HS:=U hs;have hB:=U hb;clear hc hs
 go_enter func163,ntmps163
 go_wp2_with fail
 go_loopw [8] (λc wr=>∃q:Nat,q<=n/\c=ι J q/\(∀j<q,p j=false)/\Below w.heap.size w wr) (λc _=>n-(intOf c).toNat)
 case atStart=>exact⟨0,by omega,rfl,λj hj=>absurd hj (Nat.not_lt_zero _),aj _ _⟩
 case round=>
  obtain⟨q,hq,rfl,hp,hbl⟩:=hrel;have HP:=U hp;have HB:=U hbl
  by_cases hlt:q<n
  ·have x0:=(hbl.cell (p:=⟨b,q,none⟩) hb).trans (HC.o q hlt)
   have K:=U (HS.o _ q hlt hbl hp);have xl:b<wr.heap.size:=aA hb hbl.size;clear hp hbl;have h1:(0:Int)<=q:=by omega
   have h2:(q:Int)<n:=by omega
   have HV:=U (rfl:vals q=vals q)
   generalize vals q=v at x0 K
   go_wp2_with fail
   rcases hpq:p q with _|_
   ·rw[hpq]at K
    refine ak K.o ?_;rintro e w7 ⟨rfl,h7⟩;have H7:=U (HB.o.trans (h7.mono HB.o.size));have HQ:=U hpq;clear h7 hpq;go_wp2_with fail;go_roundw
    case rel=>exact⟨q+1,by omega,by go_num,λj hj=>(Nat.lt_succ_iff_lt_or_eq.1 hj).elim (HP.o j) (λe=>by rw[e];exact HQ.o),H7.o⟩
    case measure=>simp[intOf];omega
   ·rw[hpq]at K
    refine ak K.o ?_;rintro e w7 ⟨rfl,h7⟩;have H7:=U (HB.o.trans (h7.mono HB.o.size));have HQ:=U (JO hlt hpq);clear h7 hpq;go_wp2_with fail;go_ret;exact⟨q,rfl,by rw[HQ.o];simp,H7.o⟩
  ·obtain rfl:q=n:=by omega
   clear hp hbl;go_wp2_with fail;go_ret;exact⟨-1,rfl,by rw[QA HP.o];simp,HB.o⟩
theorem vN (n:Nat) (hn:n<=100) (b cap g:Nat) (lb:Array Value) (vals:Nat->Value) (p:Nat->Bool) (w:World) (hb:b<w.heap.size)
 (eg:∀args W,(callFunc g args).run prog W=.ok (.enter g args) W) (hc:∀i<n,w.cell? ⟨b,i,none⟩=some (vals i))
 (hs:∀W i,i<n->Below w.heap.size w W->(∀j<i,p j=false)->Calls prog g (#[vals i]++lb) W λe W'=>e=aG (ν (p i))/\Below W.heap.size W W'):
 Calls prog 100 #[θ (some b) n cap,.func (.func g) #[] lb] w λe w'=>e=aG (ν (qp n p))/\Below w.heap.size w w':=by
 have K:=U (pL n hn b cap g lb vals p w hb eg hc hs);clear hc hs eg
 go_enter func100,ntmps100
 go_wp2_with fail;refine K.o.mono ?_;rintro e w7 ⟨r,rfl,hr,h7⟩;have H7:=U h7;clear h7;obtain⟨z,hz⟩:∃z,qp n p=z:=⟨_,rfl⟩;rw[hz]at hr;have HZ:=U hz;clear hz;go_wp2_with fail;go_ret;exact⟨by rw[HZ.o];rfl,H7.o⟩
open Path
section
theorem pM (p:Nat) (k l z a b h u:Value) (kn:Nat) (w:World) (hk:k=ι aF kn) (hX:aN w p 136 #[k,l,z,a,b,h,u]):
 Calls prog 287 #[p] w λe w'=>e=aG (ν (kn==2))/\w=w':=by
 subst hk;have X0:=hX.cell 0;simp only[au,av]at X0;have Xl:=hX.lt;clear hX
 by_cases h2:kn=2
 ·subst h2
  go_enter func287,ntmps287
  go_wp2
  go_ret;exact⟨rfl,rfl⟩
 ·have t1:((kn:Int)==2)=false:=by simp;omega
  have t2:(kn==2)=false:=by simp;omega
  rw[t2]
  go_enter func287,ntmps287
  go_wp2
  go_ret;exact⟨rfl,rfl⟩
theorem aU.dir {W:World} {E:TL} {room q:Nat} {S:T} (h:aU W E room q S) {x:Nat} (hk:(S.n x).kind≠0):
 Calls prog 287 #[G (some ⟨E.P x,0,none⟩)] W λe w'=>e=aG (ν ((S.n x).kind==2))/\W=w':=
 pM _ _ _ _ _ _ _ _ _ W rfl (h.nd x hk)
theorem WU (v0:Option Addr) (v0n v0c:Nat) (w:World):Calls prog 238 #[θ v0 v0n v0c] w λe w'=>e=aG (.func (.func 282) #[] #[w.heap.size])/\(w.alloc (aH #[θ v0 v0n v0c] 148))=w':=by
 go_enter func238,ntmps238
 go_wp2
 go_ret;exact⟨rfl,rfl⟩
theorem WV (v0:Option Addr) (v1:Option Addr) (v1n v1c:Nat) (w:World):Calls prog 55 #[G v0,θ v1 v1n v1c] w λe w'=>e=aG (.func (.func 98) #[] #[G (some ⟨w.heap.size+1,0,none⟩),w.heap.size])/\((w.alloc (aH #[G v0] 64)).alloc (aH #[θ v1 v1n v1c] 57))=w':=by
 go_enter func55,ntmps55
 go_wp2
 go_ret;exact⟨rfl,rfl⟩
theorem pN (v0:Option Addr) (v1:Option Addr) (v1n v1c:Nat) (w:World):Calls prog 239 #[G v0,θ v1 v1n v1c] w λe w'=>e=aG (.func (.func 285) #[] #[G (some ⟨w.heap.size+1,0,none⟩),w.heap.size])/\((w.alloc (aH #[G v0] 64)).alloc (aH #[θ v1 v1n v1c] 57))=w':=by
 go_enter func239,ntmps239
 go_wp2
 go_ret;exact⟨rfl,rfl⟩
theorem pP (v0:Option Addr) (v1:Nat) (w:World):Calls prog 240 #[G v0,ι F v1] w λe w'=>e=aG (.func (.func 288) #[] #[w.heap.size,G (some ⟨w.heap.size+1,0,none⟩)])/\((w.alloc (aH #[G v0] 64)).alloc (aH #[ι F v1] 42))=w':=by
 go_enter func240,ntmps240
 go_wp2
 go_ret;exact⟨rfl,rfl⟩
theorem WW (v0:Nat) (w:World):Calls prog 244 #[ι aF v0] w λe w'=>e=aG (.func (.func 290) #[] #[w.heap.size])/\(w.alloc (aH #[ι aF v0] 5))=w':=by
 go_enter func244,ntmps244
 go_wp2
 go_ret;exact⟨rfl,rfl⟩
theorem WX (v0:Int) (w:World):Calls prog 291 #[ι J v0] w λe w'=>e=aG (.func (.func 328) #[] #[w.heap.size])/\(w.alloc (aH #[ι J v0] 3))=w':=by
 go_enter func291,ntmps291
 go_wp2
 go_ret;exact⟨rfl,rfl⟩
theorem TA (v0:Option Addr) (v1:Nat) (v2:ByteArray) (w:World):Calls prog 241 #[G v0,ι F v1,σ v2] w λe w'=>e=aG (.func (.func 289) #[] #[w.heap.size,G (some ⟨w.heap.size+1,0,none⟩),G (some ⟨w.heap.size+1+1,0,none⟩)])/\(((w.alloc (aH #[G v0] 64)).alloc (aH #[ι F v1] 42)).alloc (aH #[σ v2] 9))=w':=by
 go_enter func241,ntmps241
 go_wp2
 go_ret;exact⟨rfl,rfl⟩
theorem JQ (s:ByteArray) (w:World) (hs:s.size<=maxLen):Calls prog 284 #[σ s] w λe w'=>e=aG (ν (!isName (L s)))/\Below w.heap.size w w':=by
 have K:=U (AU s w hs);unfold oZ at K
 go_enter func284,ntmps284
 rcases hz:isName (L s)with _|_
 all_goals
  rw[hz]at K;clear hz;simp only[Bool.false_eq_true,if_true,if_false]at K;go_wp2_with fail;refine K.o.mono ?_;rintro e w7 ⟨rfl,h7⟩;have H7:=U h7;clear h7;go_wp2_with fail;go_ret;exact⟨rfl,H7.o⟩
theorem NJ (p b n cap:Nat) (ss:Nat->ByteArray) (w:World) (hn:n<=100) (hX:aN w p 148 #[θ (some b) n cap]) (hb:b<w.heap.size) (hc:∀i<n,w.cell? ⟨b,i,none⟩=some (σ (ss i))) (hs:∀i<n,(ss i).size<=maxLen):
 Calls prog 282 #[p] w λe w'=>e=aG (ι J (if qp n (λi=>!isName (L (ss i)))then(2:Nat)else 0:Nat))/\Below w.heap.size w w':=by
 have X0:=hX.cell 0;simp only[au,av]at X0;have Xl:=hX.lt
 have K:=U (Gz n hn b cap 284 #[] (λi=>σ (ss i)) (λi=>!isName (L (ss i))) w hb (enters_of func284 (by kernel_rfl) rfl) hc
  (λW i hi _ _=>JQ (ss i) W (hs i hi)))
 clear hX hc hs
 generalize qp n (λi=>!isName (L (ss i)))=z at K⊢
 go_enter func282,ntmps282
 go_wp2_with fail;refine K.o.mono ?_;rintro e w7 ⟨rfl,h7⟩;have H7:=U h7;clear h7;cases z
 ·go_wp2_with fail
  refine(iT 2 _).mono ?_;rintro e w8 ⟨rfl,rfl⟩;go_wp2_with fail;go_ret;exact⟨rfl,H7.o⟩
 ·go_wp2_with fail
  refine(jC 2 _).mono ?_;rintro e w8 ⟨rfl,rfl⟩;go_wp2_with fail;go_ret;exact⟨rfl,H7.o⟩
variable {E:TL} {room q:Nat} {S:T}
theorem JR (tb x:Nat) (w:World) (hT:aU w E room q S) (hX:aN w tb 64 #[E.t]) (hx:x<4294967296):
 Calls prog 101 #[ι F x,tb] w λe w'=>e=aG (ν ((S.n x).kind==0))/\Below w.heap.size w w':=by
 have X:=hX.cell;have Xl:=hX.lt;have hY:=hT.top;have Y:=hY.cell;have Yl:=hY.lt;clear hX hY
 by_cases hk:(S.n x).kind=0
 ·have LK:=hT.Qz hx hk
  rw[hk];clear hT hk
  go_enter func101,ntmps101
  go_wp2
  go_ret;exact⟨rfl,aj _ _⟩
 ·have LK:=hT.jQ hx hk
  have t2:((S.n x).kind==0)=false:=by simpa using hk
  rw[t2];clear hT hk t2
  go_enter func101,ntmps101
  go_wp2
  go_ret;exact⟨rfl,aj _ _⟩
theorem NK (tb x:Nat) (w:World) (hT:aU w E room q S) (hX:aN w tb 64 #[E.t]) (hx:x<4294967296) (hk:(S.n x).kind≠0):
 Calls prog 286 #[ι F x,tb] w λe w'=>e=aG (ν (!((S.n x).kind==2)))/\Below w.heap.size w w':=by
 have X:=hX.cell;have Xl:=hX.lt;have hY:=hT.top;have Y:=hY.cell;have Yl:=hY.lt;clear hX hY;have LK:=hT.jQ hx hk;have D:=U (hT.dir hk)
 generalize ((S.n x).kind==2)=z at D⊢
 clear hT hk
 go_enter func286,ntmps286
 go_wp2_with fail;refine D.o.mono ?_;rintro e w8 ⟨rfl,rfl⟩;go_wp2_with fail;go_ret;exact⟨rfl,aj _ _⟩
theorem NN (lb tb b n cap:Nat) (xs:Nat->Nat) (w:World) (hn:n<=100) (hT:aU w E room q S) (hX:aN w lb 57 #[θ (some b) n cap]) (hY:aN w tb 64 #[E.t]) (hb:b<w.heap.size) (hc:∀i<n,w.cell? ⟨b,i,none⟩=some (ι F (xs i))) (hs:∀i<n,xs i<4294967296):
 Calls prog 98 #[lb,tb] w λe w'=>e=aG (ι J (if qp n (λi=>(S.n (xs i)).kind==0)then(3:Nat)else 0:Nat))/\Below w.heap.size w w':=by
 have X:=hX.cell;have Xl:=hX.lt
 have K:=U (vN n hn b cap 101 #[tb] (λi=>ι F (xs i)) (λi=>(S.n (xs i)).kind==0) w hb (enters_of func101 (by kernel_rfl) rfl) hc
  (λW i hi hB _=>JR tb (xs i) W (hT.later hB) (hY.later hB) (hs i hi)))
 clear hX hc hs hT hY
 generalize qp n (λi=>(S.n (xs i)).kind==0)=z at K⊢
 go_enter func98,ntmps98
 go_wp2_with fail;refine K.o.mono ?_;rintro e w7 ⟨rfl,h7⟩;have H7:=U h7;clear h7;cases z
 ·go_wp2_with fail
  refine(iT 3 _).mono ?_;rintro e w8 ⟨rfl,rfl⟩;go_wp2_with fail;go_ret;exact⟨rfl,H7.o⟩
 ·go_wp2_with fail
  refine(jC 3 _).mono ?_;rintro e w8 ⟨rfl,rfl⟩;go_wp2_with fail;go_ret;exact⟨rfl,H7.o⟩
theorem TB (lb tb b n cap:Nat) (xs:Nat->Nat) (w:World) (hn:n<=100) (hT:aU w E room q S) (hX:aN w lb 57 #[θ (some b) n cap]) (hY:aN w tb 64 #[E.t]) (hb:b<w.heap.size) (hc:∀i<n,w.cell? ⟨b,i,none⟩=some (ι F (xs i))) (hs:∀i<n,xs i<4294967296) (hk:∀i<n,(S.n (xs i)).kind≠0):
 Calls prog 285 #[lb,tb] w λe w'=>e=aG (ι J (if qp n (λi=>!((S.n (xs i)).kind==2))then(180:Nat)else 0:Nat))/\Below w.heap.size w w':=by
 have X:=hX.cell;have Xl:=hX.lt
 have K:=U (vN n hn b cap 286 #[tb] (λi=>ι F (xs i)) (λi=>!((S.n (xs i)).kind==2)) w hb (enters_of func286 (by kernel_rfl) rfl) hc
  (λW i hi hB _=>NK tb (xs i) W (hT.later hB) (hY.later hB) (hs i hi) (hk i hi)))
 clear hX hc hs hT hY
 generalize qp n (λi=>!((S.n (xs i)).kind==2))=z at K⊢
 go_enter func285,ntmps285
 go_wp2_with fail;refine K.o.mono ?_;rintro e w7 ⟨rfl,h7⟩;have H7:=U h7;clear h7;cases z
 ·go_wp2_with fail
  refine(iT 180 _).mono ?_;rintro e w8 ⟨rfl,rfl⟩;go_wp2_with fail;go_ret;exact⟨rfl,H7.o⟩
 ·go_wp2_with fail
  refine(jC 180 _).mono ?_;rintro e w8 ⟨rfl,rfl⟩;go_wp2_with fail;go_ret;exact⟨rfl,H7.o⟩
end
section
theorem lV {n k:Nat} {w:World}:Below n w (w.drewN k):=below_drewN' (aj n w) k
theorem turn {P:Program} {f:FuncId} {args:Array Value} {w:World} {v:Value} (h:Calls P f args w λe w'=>e=aG v/\w=w'):Calls P f args w λe w'=>e=aG v/\w'=w:=h.mono λ_ _ h=>⟨h.1,h.2.symm⟩
theorem aU.drewN {W:World} {E:TL} {room q:Nat} {S:T} (h:aU W E room q S) (n:Nat):aU (W.drewN n) E room q S:=h.blocks λ_ _ _=>rfl
def dU (b:Bool) (e:Nat):Nat:=if b then e else 0
variable {E:TL} {room q:Nat} {S:T}
theorem TF (a b x:Nat) (hx:x<4294967296) (hk:(S.n x).kind≠0) (w:World) (hT:aU w E room q S) (ha:aN w a 64 #[E.t]) (hb:aN w b 42 #[ι F x]):
 Calls prog 288 #[a,b] w λe w'=>e=aG (ι J (dU ((S.n x).kind==2) 181:Nat))/\Below w.heap.size w w':=by
 have A0:=ha.cell 0;simp only[au,av]at A0;have Al:=ha.lt;have B0:=hb.cell 0;simp only[au,av]at B0;have Bl:=hb.lt;have hY:=hT.top;have Y:=hY.cell;have Yl:=hY.lt;clear hY;clear ha hb;have LK:=λn=>(hT.drewN n).jQ hx hk;have D:=U (λn=>(hT.drewN n).dir hk)
 rcases hb:(S.n x).kind==2 with _|_
 ·rw[hb]at D
  try rw[hb]
  clear hT
  try clear hb
  go_enter func288,ntmps288
  go_wp2_with fail
  go_quiet ((first|(go_at_call 287;exact Calls.quiet_of_same (turn (D.o _)))|(go_at_call 99;exact Calls.quiet_of_same (turn (iT _ _)))))
  go_wp2_with fail;go_ret;exact⟨rfl,lV⟩
 ·rw[hb]at D
  try rw[hb]
  clear hT
  try clear hb
  go_enter func288,ntmps288
  go_wp2_with fail
  go_quiet ((first|(go_at_call 287;exact Calls.quiet_of_same (turn (D.o _)))|(go_at_call 99;exact Calls.quiet_of_same (turn (jC _ _)))))
  go_wp2_with fail;go_ret;exact⟨rfl,lV⟩
theorem NQ (a k:Nat) (w:World) (ha:aN w a 5 #[ι aF k]):
 Calls prog 290 #[a] w λe w'=>e=aG (ι J (dU (k !=1&&k !=2) 2:Nat))/\Below w.heap.size w w':=by
 have A0:=ha.cell 0;simp only[au,av]at A0;have Al:=ha.lt;clear ha
 rcases(by omega:k=1\/k=2\/(k≠1/\k≠2))with h1|h2|⟨h1,h2⟩
 ·subst h1
  have hb:((1:Nat)!=1&&(1:Nat)!=2)=false:=rfl
  try rw[hb]
      try clear hb
  go_enter func290,ntmps290
  go_wp2_with fail;refine(iT 2 _).mono ?_;rintro e w8 ⟨rfl,rfl⟩;go_wp2_with fail;go_ret;exact⟨rfl,aj _ _⟩
 ·subst h2
  have hb:((2:Nat)!=1&&(2:Nat)!=2)=false:=rfl
  try rw[hb]
      try clear hb
  go_enter func290,ntmps290
  go_wp2_with fail;refine(iT 2 _).mono ?_;rintro e w8 ⟨rfl,rfl⟩;go_wp2_with fail;go_ret;exact⟨rfl,aj _ _⟩
 ·have hb:(k !=1&&k !=2)=true:=by simp[h1,h2]
  have t1:((k:Int)!=1)=true:=by simp;omega
  have t2:((k:Int)!=2)=true:=by simp;omega
  try rw[hb]
      try clear hb
  go_enter func290,ntmps290
  go_wp2_with fail;refine(jC 2 _).mono ?_;rintro e w8 ⟨rfl,rfl⟩;go_wp2_with fail;go_ret;exact⟨rfl,aj _ _⟩
theorem NR (a b c x:Nat) (s:ByteArray) (hs:s.size<=maxLen) (hx:x<4294967296) (hk:(S.n x).kind≠0) (w:World) (hT:aU w E room q S) (ha:aN w a 64 #[E.t]) (hb:aN w b 42 #[ι F x]) (hc:aN w c 9 #[σ s]):
 Calls prog 289 #[a,b,c] w λe w'=>e=aG (ι J (dU (S.l x (L s)!=0) 9:Nat))/\Below w.heap.size w w':=by
 have A0:=ha.cell 0;simp only[au,av]at A0;have Al:=ha.lt;have B0:=hb.cell 0;simp only[au,av]at B0;have Bl:=hb.lt;have C0:=hc.cell 0;simp only[au,av]at C0;have Cl:=hc.lt;have hY:=hT.top;have Y:=hY.cell;have Yl:=hY.lt;clear hY;clear ha hb hc;have LK:=λn=>(hT.drewN n).jQ hx hk;have EN:=λn=>(hT.drewN n).entry hk hs;have hZ:=hT.nd x hk;have Z:=hZ.cell;have Zl:=hZ.lt;clear hZ hk
 by_cases h0:S.l x (L s)=0
 ·simp only[show s.data.toList=L s from rfl,h0]at EN
  have hb:(S.l x (L s)!=0)=false:=by simp[h0]
  clear h0
  try rw[hb]
  clear hT
  try clear hb
  go_enter func289,ntmps289
  go_wp2_with fail
  go_quiet ((first|(go_at_call 99;exact Calls.quiet_of_same (turn (iT _ _)))))
  go_wp2_with fail;go_ret;exact⟨rfl,lV⟩
 ·simp only[show s.data.toList=L s from rfl]at EN
  have hb:(S.l x (L s)!=0)=true:=by simpa using h0
  generalize S.l x (L s)=z at*
  have t1:((z:Int)!=0)=true:=by simp;omega
  try rw[hb]
  clear hT
  try clear hb
  go_enter func289,ntmps289
  go_wp2_with fail
  go_quiet ((first|(go_at_call 99;exact Calls.quiet_of_same (turn (jC _ _)))))
  go_wp2_with fail;go_ret;exact⟨rfl,lV⟩
theorem TG (a b x:Nat) (hx:x<4294967296) (w:World) (hT:aU w E room q S) (ha:aN w a 64 #[E.t]) (hb:aN w b 42 #[ι F x]):
 Calls prog 246 #[a,b] w λe w'=>e=aG (ι J (dU ((S.n x).kind !=0) 9:Nat))/\Below w.heap.size w w':=by
 have A0:=ha.cell 0;simp only[au,av]at A0;have Al:=ha.lt;have B0:=hb.cell 0;simp only[au,av]at B0;have Bl:=hb.lt;have hY:=hT.top;have Y:=hY.cell;have Yl:=hY.lt;clear hY;clear ha hb
 by_cases h0:(S.n x).kind=0
 ·have LK:=λn=>(hT.drewN n).Qz hx h0
  have hb:((S.n x).kind !=0)=false:=by simp[h0]
  clear h0
  try rw[hb]
  clear hT
  try clear hb
  go_enter func246,ntmps246
  go_wp2_with fail
  go_quiet ((first|(go_at_call 99;exact Calls.quiet_of_same (turn (iT _ _)))))
  go_wp2_with fail;go_ret;exact⟨rfl,lV⟩
 ·have LK:=λn=>(hT.drewN n).jQ hx h0
  have hb:((S.n x).kind !=0)=true:=by simpa using h0
  clear h0
  try rw[hb]
  clear hT
  try clear hb
  go_enter func246,ntmps246
  go_wp2_with fail
  go_quiet ((first|(go_at_call 99;exact Calls.quiet_of_same (turn (jC _ _)))))
  go_wp2_with fail;go_ret;exact⟨rfl,lV⟩
theorem JU (a z:Nat) (w:World) (ha:aN w a 42 #[ι F z]):
 Calls prog 293 #[a] w λe w'=>e=aG (ι J (dU (decide (2304<z)) 2:Nat))/\Below w.heap.size w w':=by
 have A0:=ha.cell 0;simp only[au,av]at A0;have Al:=ha.lt;clear ha
 by_cases h0:2304<z
 ·have hb:decide (2304<z)=true:=by simpa using h0
  have t1:decide ((2304:Int)<z)=true:=by simp;omega
  clear h0
  try rw[hb]
      try clear hb
  go_enter func293,ntmps293
  go_wp2_with fail;refine(jC 2 _).mono ?_;rintro e w8 ⟨rfl,rfl⟩;go_wp2_with fail;go_ret;exact⟨rfl,aj _ _⟩
 ·have hb:decide (2304<z)=false:=by simpa using h0
  have t1:decide ((2304:Int)<z)=false:=by simp;omega
  clear h0
  try rw[hb]
      try clear hb
  go_enter func293,ntmps293
  go_wp2_with fail;refine(iT 2 _).mono ?_;rintro e w8 ⟨rfl,rfl⟩;go_wp2_with fail;go_ret;exact⟨rfl,aj _ _⟩
theorem NS (a:Nat) (z:Int) (w:World) (ha:aN w a 3 #[ι J z]):
 Calls prog 328 #[a] w λe w'=>e=aG (ι J (dU (decide (z<0)||decide (36<=z)) 2:Nat))/\Below w.heap.size w w':=by
 have A0:=ha.cell 0;simp only[au,av]at A0;have Al:=ha.lt;clear ha
 rcases(by omega:z<0\/(¬z<0/\36<=z)\/(¬z<0/\¬36<=z))with h1|⟨h1,h2⟩|⟨h1,h2⟩
 ·have t1:decide (z<0)=true:=by simpa using h1
  have hb:(decide (z<0)||decide (36<=z))=true:=by simp[h1]
  clear h1
  try rw[hb]
      try clear hb
  go_enter func328,ntmps328
  go_wp2_with fail;refine(jC 2 _).mono ?_;rintro e w8 ⟨rfl,rfl⟩;go_wp2_with fail;go_ret;exact⟨rfl,aj _ _⟩
 ·have t1:decide (z<0)=false:=by simpa using h1
  have t2:decide (36<=z)=true:=by simpa using h2
  have hb:(decide (z<0)||decide (36<=z))=true:=by simp[h2]
  clear h1 h2
  try rw[hb]
      try clear hb
  go_enter func328,ntmps328
  go_wp2_with fail;refine(jC 2 _).mono ?_;rintro e w8 ⟨rfl,rfl⟩;go_wp2_with fail;go_ret;exact⟨rfl,aj _ _⟩
 ·have t1:decide (z<0)=false:=by simpa using h1
  have t2:decide (36<=z)=false:=by simpa using h2
  have hb:(decide (z<0)||decide (36<=z))=false:=by rw[t1,t2];rfl
  clear h1 h2
  try rw[hb]
      try clear hb
  go_enter func328,ntmps328
  go_wp2_with fail;refine(iT 2 _).mono ?_;rintro e w8 ⟨rfl,rfl⟩;go_wp2_with fail;go_ret;exact⟨rfl,aj _ _⟩
end
section
variable {W:World} {E:TL} {room q:Nat} {S:T}
def gain (v:Nd) (d:Nat):Nd:=if v.kind=2 then{v with up:=d}else{v with links:=v.links+1}
theorem xE (hT:aU W E room q S) (hq:q<100000) (dir ino:Nat) (s:ByteArray) (hs:s.size<=maxLen) (hd:dir<4294967296) (hi:ino<4294967296) (kd:(S.n dir).kind≠0) (ki:(S.n ino).kind≠0) (hi0:ino≠0) (hlk:(S.n ino).links<100000):
 Calls prog 243 #[E.t,ι F dir,σ s,ι F ino] W λe w'=>e=aG (τ #[])/\aU w' E room (q+1) ⟨aS S.n ino (gain (S.n ino) dir),aY S.l dir (L s) ino⟩/\aR E.O W w':=by
 obtain⟨W1,hput,hT1,hm⟩:=hT.OR hq kd s hs ino hi0;have o:=hT.own;have T1:Hid (aR E.O W W1):=U (aR.turned hm (o.2.2 dir kd).2.1);have LK:=hT.jQ hd kd;have hY:=hT.top;have Y0:=hY.cell 0;have Y1:=hY.cell 1;simp only[au,av,ay]at Y0 Y1;have Yl:=hY.lt;have hZ:=hT.nd dir kd;have Z0:=hZ.cell 0;have Z1:=hZ.cell 1;have Z2:=hZ.cell 2;have Z3:=hZ.cell 3;have Z4:=hZ.cell 4;have Z5:=hZ.cell 5;have Z6:=hZ.cell 6;simp only[au,av,ay]at Z0 Z1 Z2 Z3 Z4 Z5 Z6;have Zl:=hZ.lt;have LK1:=hT1.jQ hi ki;have hU:=hT1.top;have U0:=hU.cell 0;have U1:=hU.cell 1;simp only[au,av,ay]at U0 U1;have Ul:=hU.lt;have hV:=hT1.nd ino ki;have HV:=U hV;have V0:=hV.cell 0;have V1:=hV.cell 1;have V2:=hV.cell 2;have V3:=hV.cell 3;have V4:=hV.cell 4;have V5:=hV.cell 5;have V6:=hV.cell 6;simp only[au,av,ay]at V0 V1 V2 V3 V4 V5 V6;have Vl:=hV.lt;have hF:=hV.free;have F1:=hF 1;have F6:=hF 6;have D:=U (hT1.dir ki);have HT1:=U hT1;have OP:=U (o.2.2 ino ki).1;have KI:=U ki;have HL:=U (hT1.lk ino);have HK:=U hlk;clear hY hZ hU hV hF hm hT hT1 o kd;simp only at*
 by_cases h2:(S.n ino).kind=2
 ·have FIN:Hid (aU (W1.setCell ⟨E.P ino,6,none⟩ (ι F dir)) E room (q+1) ⟨aS S.n ino (gain (S.n ino) dir),aY S.l dir (L s) ino⟩):=U (HT1.o.node KI.o _ (by unfold gain;rw[if_pos h2]) (by unfold gain;rw[if_pos h2])
   (by
    have:=HV.o.set 6 (ι F dir);unfold gain;rw[if_pos h2]
    simpa using this) (λb hb _=>heap_setCell_other W1 ⟨E.P ino,6,none⟩ b _ hb) (by unfold gain;rw[if_pos h2];exact HL.o))
  have tb:((S.n ino).kind==2)=true:=by simp[h2]
  rw[tb]at D;clear tb h2 HV HL KI ki hlk
  go_enter func243,ntmps243
  go_wp2_with fail;refine ak D.o ?_;rintro e w8 ⟨rfl,rfl⟩;go_wp2_with fail;go_end0;exact⟨rfl,FIN.o,T1.o.trans (aR.cell OP.o)⟩
 ·have FIN:Hid (aU (W1.setCell ⟨E.P ino,1,none⟩ (ι J (((S.n ino).links+1:Nat):Int))) E room (q+1) ⟨aS S.n ino (gain (S.n ino) dir),aY S.l dir (L s) ino⟩):=U (HT1.o.node KI.o _ (by unfold gain;rw[if_neg h2]) (by unfold gain;rw[if_neg h2])
   (by
    have:=HV.o.set 1 (ι J (((S.n ino).links+1:Nat):Int));unfold gain;rw[if_neg h2]
    simpa using this) (λb hb _=>heap_setCell_other W1 ⟨E.P ino,1,none⟩ b _ hb) (by unfold gain;rw[if_neg h2];exact⟨HK.o,HL.o.2⟩))
  have tb:((S.n ino).kind==2)=false:=by simp[h2]
  rw[tb]at D;clear tb h2 HV HL KI ki;obtain⟨l,hl⟩:∃l,(S.n ino).links=l:=⟨_,rfl⟩;rw[hl]at V1 hlk FIN;rw[Int.natCast_add]at FIN;clear hl HK
  go_enter func243,ntmps243
  go_wp2_with fail;refine ak D.o ?_;rintro e w8 ⟨rfl,rfl⟩;go_wp2_with fail;go_end0;exact⟨rfl,FIN.o,T1.o.trans (aR.cell OP.o)⟩
def loss (v:Nd):Nd:=if v.kind=2 then{v with up:=0}else{v with links:=v.links-1}
end
section
variable {W:World} {E:TL} {room q:Nat} {S:T}
def IP (x:Nat) (v:Nd):Bool:=x !=1&&v.held==0&&(if v.kind=2 then v.up==0 else v.links==0)
def Xa (S:T) (x:Nat):T:=if IP x (S.n x)then⟨aS S.n x Nd.no,S.l⟩else S
theorem pq (hT:aU W E room q S) (ino:Nat) (hi:ino<4294967296) (ki:(S.n ino).kind≠0):
 Calls prog 301 #[E.t,ι F ino] W λe w'=>e=aG (τ #[])/\aU w' E room q (Xa S ino)/\aR E.O W w':=by
 obtain⟨W2,hdel,CW,hm⟩:=hT.gone hi 0;have FIN:=U CW;have TQ:Hid (aR E.O W W2):=U (aR.turned hm hT.own.2.1);have HT:=U hT;have LK:=hT.jQ hi ki;have hY:=hT.top;have Y0:=hY.cell 0;have Y1:=hY.cell 1;simp only[au,av,ay]at Y0 Y1;have Yl:=hY.lt;have hV:=hT.nd ino ki;have V0:=hV.cell 0;have V1:=hV.cell 1;have V2:=hV.cell 2;have V3:=hV.cell 3;have V4:=hV.cell 4;have V5:=hV.cell 5;have V6:=hV.cell 6;simp only[au,av,ay]at V0 V1 V2 V3 V4 V5 V6;have Vl:=hV.lt;have D:=U (hT.dir ki);clear CW hm hT hY hV ki;unfold Xa IP
 by_cases h1:ino=1
 ·have b1:(ino !=1)=false:=by simp[h1]
  have t1:((ino:Int)!=1)=false:=by simp;omega
  simp only[b1,Bool.false_and,Bool.false_eq_true,if_false];clear hdel FIN TQ b1 h1
  go_enter func301,ntmps301
  go_wp2_with fail;go_end0;exact⟨rfl,HT.o,aR.refl _ _⟩
 ·have t1:((ino:Int)!=1)=true:=by simp;omega
  have b1:(ino !=1)=true:=by simpa using h1
  rw[b1,Bool.true_and];clear b1 h1;obtain⟨hl,hh⟩:∃hl,(S.n ino).held=hl:=⟨_,rfl⟩;rw[hh]at V5⊢;clear hh
  by_cases h2:hl=0
  ·subst h2
   simp only[beq_self_eq_true,Bool.true_and]
   by_cases h3:(S.n ino).kind=2
   ·rw[if_pos h3]
    have b3:((S.n ino).kind==2)=true:=by simp[h3]
    rw[b3]at D;clear b3 h3;obtain⟨u,hu⟩:∃u,(S.n ino).up=u:=⟨_,rfl⟩;rw[hu]at V6⊢;clear hu
    by_cases h4:u=0
    ·subst h4
     simp only[beq_self_eq_true,if_true]
     go_enter func301,ntmps301
     go_wp2_with fail;refine ak D.o ?_;rintro e w8 ⟨rfl,rfl⟩;go_wp2_with fail;go_end0;exact⟨rfl,FIN.o,TQ.o⟩
    ·have t4:((u:Int)==0)=false:=by simp;omega
     have b4:(u==0)=false:=by simpa using h4
     simp only[b4,Bool.false_eq_true,if_false];clear hdel FIN TQ b4 h4
     go_enter func301,ntmps301
     go_wp2_with fail;refine ak D.o ?_;rintro e w8 ⟨rfl,rfl⟩;go_wp2_with fail;refine ak D.o ?_;rintro e w8 ⟨rfl,rfl⟩;go_wp2_with fail;go_end0;exact⟨rfl,HT.o,aR.refl _ _⟩
   ·rw[if_neg h3]
    have b3:((S.n ino).kind==2)=false:=by simp[h3]
    rw[b3]at D;clear b3 h3;obtain⟨u,hu⟩:∃u,(S.n ino).links=u:=⟨_,rfl⟩;rw[hu]at V1⊢;clear hu
    by_cases h4:u=0
    ·subst h4
     simp only[beq_self_eq_true,if_true]
     go_enter func301,ntmps301
     go_wp2_with fail;refine ak D.o ?_;rintro e w8 ⟨rfl,rfl⟩;go_wp2_with fail;refine ak D.o ?_;rintro e w8 ⟨rfl,rfl⟩;go_wp2_with fail;go_end0;exact⟨rfl,FIN.o,TQ.o⟩
    ·have t4:((u:Int)==0)=false:=by simp;omega
     have b4:(u==0)=false:=by simpa using h4
     simp only[b4,Bool.false_eq_true,if_false];clear hdel FIN TQ b4 h4
     go_enter func301,ntmps301
     go_wp2_with fail;refine ak D.o ?_;rintro e w8 ⟨rfl,rfl⟩;go_wp2_with fail;refine ak D.o ?_;rintro e w8 ⟨rfl,rfl⟩;go_wp2_with fail;go_end0;exact⟨rfl,HT.o,aR.refl _ _⟩
  ·have t2:((hl:Int)==0)=false:=by simp;omega
   have b2:(hl==0)=false:=by simpa using h2
   simp only[b2,Bool.false_and,Bool.false_eq_true,if_false];clear hdel FIN TQ b2 h2
   go_enter func301,ntmps301
   go_wp2_with fail;go_end0;exact⟨rfl,HT.o,aR.refl _ _⟩
end
section
def iU (n:Nat) (w w':World):Prop:=w.heap.size<=w'.heap.size/\∀b,n<=b->b<w.heap.size->w'.heap[b]? =w.heap[b]?
theorem iU.refl (n:Nat) (w:World):iU n w w:=⟨ah _,λ_ _ _=>rfl⟩
theorem iU.of {n:Nat} {w w':World} (h:Below w.heap.size w w'):iU n w w':=⟨h.size,λb _ hb=>h.block b hb⟩
theorem mP {n:Nat} {W W':World} {b:Nat} {t:TypeId} {cs:Array Value} (h:aN W b t cs) (hn:n<=b) (hs:iU n W W'):aN W' b t cs:=(hs.2 b hn h.lt).trans h
theorem aO {P:Program} {ops:Array Oper} {Q:Exit->Act->World->Prop} {i:Nat} {o:Oper} {K:Act->World->Prop} {a:Act} {w:World} (ho:ops[i]? =some o) (hg:o.guard=none) (h:o.wp P a w K Q):wpOp P ops Q i K a w:=by
 unfold wpOp;rw[ho];have:Region.wanted o (yielded ops a.tmps)=true:=by unfold Region.wanted;rw[hg]
 simp only[this,if_true];exact .inl h
def uo (n:Nat) (t:TypeId) (cs:Array Value) (v:Value) (w:World):Prop:=∃b,v=θ (some ⟨b,0,none⟩) cs.size cs.size/\n<=b/\aN w b t cs
theorem uo.stay {n:Nat} {t:TypeId} {cs:Array Value} {v:Value} {w w':World} (h:uo n t cs v w) (hs:iU n w w'):uo n t cs v w':=by
 obtain⟨b,h1,h2,h3⟩:=h;exact⟨b,h1,h2,mP h3 h2 hs⟩
def tL (n:Nat) (ss:List ByteArray) (v:Value) (w:World):Prop:=∃p b,v=.func (.func 282) #[] #[G (some ⟨p,0,none⟩)]/\n<=p/\n<=b/\
 aN w p 148 #[θ (some b) ss.length ss.length]/\aN w b 9 (ss.map .string).toArray
theorem tL.stay {n:Nat} {ss:List ByteArray} {v:Value} {w w':World} (h:tL n ss v w) (hs:iU n w w'):tL n ss v w':=by
 obtain⟨p,b,h1,h2,h3,h4,h5⟩:=h;exact⟨p,b,h1,h2,h3,mP h4 h2 hs,mP h5 h3 hs⟩
def uK (f:FuncId) (n t:Nat) (xs:List Nat) (v:Value) (w:World):Prop:=∃l p b,v=.func (.func f) #[] #[G (some ⟨l,0,none⟩),G (some ⟨p,0,none⟩)]/\n<=l/\n<=p/\n<=b/\
 aN w l 57 #[θ (some b) xs.length xs.length]/\aN w p 64 #[t]/\aN w b 42 (xs.map λx=>ι F (x:Nat)).toArray
theorem uK.stay {f:FuncId} {n t:Nat} {xs:List Nat} {v:Value} {w w':World} (h:uK f n t xs v w) (hs:iU n w w'):uK f n t xs v w':=by
 obtain⟨l,p,b,h1,h2,h3,h4,h5,h6,h7⟩:=h;exact⟨l,p,b,h1,h2,h3,h4,mP h5 h2 hs,mP h6 h3 hs,mP h7 h4 hs⟩
theorem Xb {n:Nat} {ss:List ByteArray} {v:Value} {w:World} (h:uo n 9 (ss.map Value.string).toArray v w) (hn:n<=w.heap.size):
 Calls prog 238 #[v] w λe w'=>∃u,e=aG u/\tL n ss u w'/\Below w.heap.size w w':=by
 obtain⟨b,rfl,h2,h3⟩:=h;refine(WU _ _ _ w).mono ?_;rintro e w' ⟨rfl,rfl⟩;exact⟨_,rfl,⟨w.heap.size,b,rfl,hn,h2,by simpa using aN.new w _ _,h3.alloc _⟩,(aj _ _).alloc (ah _) _⟩
theorem JV {n t:Nat} {xs:List Nat} {v:Value} {w:World} (h:uo n 42 (xs.map λx=>Value.int F (x:Nat)).toArray v w) (hn:n<=w.heap.size):
 Calls prog 55 #[t,v] w λe w'=>∃u,e=aG u/\uK 98 n t xs u w'/\Below w.heap.size w w':=by
 obtain⟨b,rfl,h2,h3⟩:=h;refine(WV _ _ _ _ w).mono ?_;rintro e w' ⟨rfl,rfl⟩;exact⟨_,rfl,⟨w.heap.size+1,w.heap.size,b,rfl,by omega,hn,h2,by simpa using aN.new (w.alloc _) _ _,(aN.new w _ _).alloc _,(h3.alloc _).alloc _⟩,((aj _ _).alloc (ah _) _).alloc (by simp) _⟩
theorem pT {n t:Nat} {xs:List Nat} {v:Value} {w:World} (h:uo n 42 (xs.map λx=>Value.int F (x:Nat)).toArray v w) (hn:n<=w.heap.size):
 Calls prog 239 #[t,v] w λe w'=>∃u,e=aG u/\uK 285 n t xs u w'/\Below w.heap.size w w':=by
 obtain⟨b,rfl,h2,h3⟩:=h;refine(pN _ _ _ _ w).mono ?_;rintro e w' ⟨rfl,rfl⟩;exact⟨_,rfl,⟨w.heap.size+1,w.heap.size,b,rfl,by omega,hn,h2,by simpa using aN.new (w.alloc _) _ _,(aN.new w _ _).alloc _,(h3.alloc _).alloc _⟩,((aj _ _).alloc (ah _) _).alloc (by simp) _⟩
theorem tL.call {n:Nat} {ss:List ByteArray} {v:Value} {w:World} (h:tL n ss v w) (hs:∀s∈ss,s.size<=maxLen) (hl:ss.length<=100):
 ∃p,v=.func (.func 282) #[] #[G (some ⟨p,0,none⟩)]/\Calls prog 282 #[G (some ⟨p,0,none⟩)] w λe w'=>e=aG (ι J (dU (ss.any λs=>!isName (L s)) 2:Nat))/\Below w.heap.size w w':=by
 obtain⟨p,b,h1,h2,h3,h4,h5⟩:=h;refine⟨p,h1,(NJ p b ss.length ss.length (λi=>ss.getD i ⟨#[]⟩) w hl h4 h5.lt ?_ ?_).mono ?_⟩
 ·intro i hi
  rw[h5.cell i]
  simp[hi]
 ·intro i hi
  refine hs _ ?_
  simp[hi]
 ·rintro e w' ⟨rfl,hb⟩
  refine⟨?_,hb⟩
  have e1:qp ss.length (λi=>!isName (L (ss.getD i ⟨#[]⟩)))=ss.any λs=>!isName (L s):=by
   unfold qp;rw[Bool.eq_iff_iff,List.any_eq_true,List.any_eq_true]
   constructor
   ·rintro⟨i,hi,hp⟩
    have hi':i<ss.length:=by simpa using hi
    exact⟨ss[i],List.getElem_mem hi',by simpa[hi']using hp⟩
   ·rintro⟨s,hs,hp⟩
    obtain⟨i,hi,rfl⟩:=List.getElem_of_mem hs;exact⟨i,by simpa using hi,by simpa[hi]using hp⟩
  rw[e1]
  rfl
variable {E:TL} {room q:Nat} {S:T}
theorem QB {α:Type} (l:List α) (f:α->Bool) (d:α):qp l.length (λi=>f (l.getD i d))=l.any f:=by
 unfold qp;rw[Bool.eq_iff_iff,List.any_eq_true,List.any_eq_true]
 constructor
 ·rintro⟨i,hi,hp⟩
  have hi':i<l.length:=by simpa using hi
  exact⟨l[i],List.getElem_mem hi',by simpa[hi']using hp⟩
 ·rintro⟨s,hs,hp⟩
  obtain⟨i,hi,rfl⟩:=List.getElem_of_mem hs;exact⟨i,by simpa using hi,by simpa[hi]using hp⟩
theorem AV {n:Nat} {xs:List Nat} {v:Value} {w:World} (h:uK 98 n E.t xs v w) (hT:aU w E room q S) (hs:∀x∈xs,x<4294967296) (hl:xs.length<=100):
 ∃l p,v=.func (.func 98) #[] #[G (some ⟨l,0,none⟩),G (some ⟨p,0,none⟩)]/\Calls prog 98 #[G (some ⟨l,0,none⟩),G (some ⟨p,0,none⟩)] w λe w'=>e=aG (ι J (dU (xs.any λx=>(S.n x).kind==0) 3:Nat))/\Below w.heap.size w w':=by
 obtain⟨l,p,b,h1,h2,h3,h4,h5,h6,h7⟩:=h;refine⟨l,p,h1,(NN l p b xs.length xs.length (λi=>xs.getD i 0) w hl hT h5 h6 h7.lt ?_ ?_).mono ?_⟩
 ·intro i hi
  rw[h7.cell i]
  simp[hi]
 ·intro i hi
  refine hs _ ?_
  simp[hi]
 ·rintro e w' ⟨rfl,hb⟩
  exact⟨by rw[QB xs (λx=>(S.n x).kind==0) 0];rfl,hb⟩
theorem TM {n:Nat} {xs:List Nat} {v:Value} {w:World} (h:uK 285 n E.t xs v w) (hT:aU w E room q S) (hs:∀x∈xs,x<4294967296) (hl:xs.length<=100) (hk:(xs.any λx=>(S.n x).kind==0)=false):
 ∃l p,v=.func (.func 285) #[] #[G (some ⟨l,0,none⟩),G (some ⟨p,0,none⟩)]/\Calls prog 285 #[G (some ⟨l,0,none⟩),G (some ⟨p,0,none⟩)] w λe w'=>e=aG (ι J (dU (xs.any λx=>!((S.n x).kind==2)) 180:Nat))/\Below w.heap.size w w':=by
 obtain⟨l,p,b,h1,h2,h3,h4,h5,h6,h7⟩:=h;refine⟨l,p,h1,(TB l p b xs.length xs.length (λi=>xs.getD i 0) w hl hT h5 h6 h7.lt ?_ ?_ ?_).mono ?_⟩
 ·intro i hi
  rw[h7.cell i]
  simp[hi]
 ·intro i hi
  refine hs _ ?_
  simp[hi]
 ·intro i hi
  rw[List.any_eq_false]at hk;have:=hk (xs.getD i 0) (by simp[hi])
  simpa using this
 ·rintro e w' ⟨rfl,hb⟩
  exact⟨by rw[QB xs (λx=>!((S.n x).kind==2)) 0];rfl,hb⟩
end
section
variable {E:TL} {room q:Nat} {S:T}
def iV:List Nat->Nat
 |[]=>0
 |e::l=>if e=0 then iV l else e
theorem AY:∀(es:List Nat),(∀e∈es,e=0)->iV es=0
 |[],_=>rfl
 |e::l,h=>by unfold iV;rw[if_pos (h e (by simp))];exact AY l λx hx=>h x (by simp[hx])
theorem Em:∀(es:List Nat) (i:Nat),es.getD i 0≠0->(∀j<i,es.getD j 0=0)->iV es=es.getD i 0
 |[],i,h,_=>absurd rfl h
 |e::l,0,h,_=>by unfold iV;rw[if_neg (by simpa using h)];rfl
 |e::l,i+1,h,hj=>by
  unfold iV;rw[if_pos (by simpa using hj 0 (by omega))];have:=Em l i (by simpa using h) λj hji=>by simpa using hj (j+1) (by omega)
  simpa using this
theorem AZ (t b cap:Nat) (g:Nat->Nat) (lb:Nat->Array Value) (es:List Nat) (hn:es.length<=100) (cs:Array Value) (w:World) (hb:aN w b 82 cs) (hcs:∀i,i<es.length->cs[i]? =some (.func (.func (g i)) #[] (lb i)))
 (he:∀i W,i<es.length->(callFunc (g i) (lb i)).run prog W=.ok (.enter (g i) (lb i)) W)
 (hs:∀i W,i<es.length->Below w.heap.size w W->(∀j<i,es.getD j 0=0)->Calls prog (g i) (lb i) W λe W'=>e=aG (ι J (es.getD i 0:Nat))/\Below W.heap.size W W'):
 Calls prog 54 #[t,θ (some b) es.length cap] w λe w'=>e=aG (ι J (iV es:Nat))/\Below w.heap.size w w':=by
 refine(fZ t b es.length hn cap g lb (λi W=>Below w.heap.size w W/\∀j<i,es.getD j 0=0) (λk W=>Below w.heap.size w W/\k=iV es) w ⟨aj _ _,λj hj=>absurd hj (Nat.not_lt_zero _)⟩ he ?_ ?_).mono ?_
 ·rintro i W hi ⟨hB,_⟩
  have h:=hb.later hB;exact⟨by rw[h.cell i];exact hcs i hi,h.lt⟩
 ·rintro i W hi ⟨hB,hz⟩
  refine(hs i W hi hB hz).mono ?_;rintro e W' ⟨rfl,hB'⟩;refine⟨_,rfl,?_⟩
  by_cases h0:es.getD i 0=0
  ·exact .inl ⟨h0,hB.trans (hB'.mono hB.size),λj hj=>(Nat.lt_succ_iff_lt_or_eq.1 hj).elim (hz j) λe=>by rw[e];exact h0⟩
  ·exact .inr ⟨h0,hB.trans (hB'.mono hB.size),(Em es i h0 hz).symm⟩
 ·rintro e w' ⟨k,rfl,⟨rfl,hB,hz⟩|⟨_,hB,rfl⟩⟩
  ·refine⟨?_,hB⟩
   rw[AY es λx hx=>by
    obtain⟨i,hi,rfl⟩:=List.getElem_of_mem hx
    simpa[hi]using hz i hi]
  ·exact⟨rfl,hB⟩
end
section
variable {E:TL} {room q:Nat} {S:T}
theorem JW (t b x:Nat) (w:World) (hT:aU w E room q S) (hx:x<4294967296) (l p b0:Nat) (hb:aN w b 82 #[.func (.func 98) #[] #[l,p]])
 (h1:aN w l 57 #[θ (some b0) 1 1]) (h2:aN w p 64 #[E.t]) (h3:aN w b0 42 #[ι F x]):
 Calls prog 54 #[t,θ (some b) 1 1] w λe w'=>e=aG (ι J (dU ((S.n x).kind==0) 3:Nat))/\Below w.heap.size w w':=by
 refine(AZ t b 1 (λ_=>98) (λ_=>#[l,p])
  [dU ((S.n x).kind==0) 3] (by simp) _ w hb ?_ ?_ ?_).mono ?_
 ·intro i hi
  match i,hi with
  |0,_=>rfl
  |i+1,hi=>exact absurd hi (by simp)
 ·exact λi W hi=>enters_of func98 (by kernel_rfl) rfl _ W
 ·intro i W hi hB hz
  match i,hi with
  |0,_=>
   obtain⟨l',p',e,hc⟩:=AV (n:=0) (w:=W) (xs:=[x]) ⟨l,p,b0,rfl,aB _,aB _,aB _,h1.later hB,h2.later hB,h3.later hB⟩ (hT.later hB) (by simpa using hx) (by simp);cases e;refine hc.mono ?_;rintro e w2 ⟨rfl,hb2⟩;exact⟨by simp,hb2⟩
  |i+1,hi=>exact absurd hi (by simp)
 ·rintro e w' ⟨rfl,hb⟩
  refine⟨?_,hb⟩;unfold iV iV
  by_cases h:dU ((S.n x).kind==0) 3=0
  ·rw[if_pos h,h]
  ·rw[if_neg h]
theorem QC {W:World} {b:Nat} {t:TypeId} {a0 a1 a2 a3:Value} (h:aN W b t #[a0,a1,a2,a3]) (v0 v1 v2 v3:Value):aN ((((W.setCell ⟨b,0,none⟩ v0).setCell ⟨b,1,none⟩ v1).setCell ⟨b,2,none⟩ v2).setCell ⟨b,3,none⟩ v3) b t #[v0,v1,v2,v3]:=by
 have h0:=(((h.set 0 v0).set 1 v1).set 2 v2).set 3 v3;simp only[List.setIfInBounds_toArray,List.set_cons_zero,List.set_cons_succ]at h0;exact h0
theorem rF {w W:World} {b n:Nat} (h:Below n w W) (hb:n<=b) (v0 v1 v2 v3:Value):Below n w ((((W.setCell ⟨b,0,none⟩ v0).setCell ⟨b,1,none⟩ v1).setCell ⟨b,2,none⟩ v2).setCell ⟨b,3,none⟩ v3):=
 (((h.setCell (p:=⟨b,0,none⟩) hb v0).setCell (p:=⟨b,1,none⟩) hb v1).setCell (p:=⟨b,2,none⟩) hb v2).setCell (p:=⟨b,3,none⟩) hb v3
def QD (S:T) (x:Nat):Value:=if(S.n x).kind=0 then γ #[ι F 0,ι aF 0,ι J 0,ι F 0]else γ #[ι F x,ι aF (S.n x).kind,ι J (S.n x).links,ι F (S.n x).data.length]
theorem JX (w:World) (hT:aU w E room q S) (x:Nat) (hx:x<4294967296):
 Calls prog 25 #[E.t,ι F x] w λe w'=>e=aG (τ #[QD S x,ι J (dU ((S.n x).kind==0) 3:Nat)])/\Below w.heap.size w w':=by
 have HT:=U hT;clear hT;have BS:=U (aN.new w 68 #[ι F 0,ι aF 0,ι J 0,ι F 0])
 go_enter func25,ntmps25
 go_wp2_with fail;refine ak (JV (n:=0) (t:=E.t) (xs:=[x]) ⟨w.heap.size+1,rfl,aB _,by simpa using aN.new (w.alloc _) _ _⟩ (aB _)) ?_;rintro e w2 ⟨u,rfl,⟨l,p,b0,rfl,_,_,_,h1,h2,h3⟩,hb2⟩;have B2:=U ((((aj _ w).alloc (ah _) (aH #[ι F 0,ι aF 0,ι J 0,ι F 0] 68)).alloc (by simp) (aH #[ι F x] 42)).trans (hb2.mono (by simp;omega)));have BS2:=U ((BS.o.alloc (aH #[ι F x] 42)).later hb2);have HI:=U (And.intro h1 (And.intro h2 h3));clear h1 h2 h3 hb2 BS;go_wp2_with fail;have hal:=(aj _ w2).alloc (ah _) (aH #[.func (.func 98) #[] #[l,p]] 82);have fY:=(HT.o.later B2.o).later hal;refine ak (JW E.t w2.heap.size x _ fY hx l p b0 (aN.new w2 _ _) (HI.o.1.later hal) (HI.o.2.1.later hal) (HI.o.2.2.later hal)) ?_;rintro e w4 ⟨rfl,hb4⟩;have HT4:=U (fY.later hb4);have BS4:=U ((BS2.o.later hal).later hb4);have B4:Hid (Below w.heap.size w w4):=U ((B2.o.trans (hal.mono B2.o.size)).trans (hb4.mono (aD B2.o.size hal.size)));clear hb4 fY hal HT B2 HI BS2;have hs:=BS4.o;have X:=hs.cell;have Xl:=hs.lt;have F0:=hs.free 0;have F1:=hs.free 1;have F2:=hs.free 2;have F3:=hs.free 3;clear hs
 by_cases h0:(S.n x).kind=0
 ·have H0:=U h0
  have tb:dU ((S.n x).kind==0) 3=3:=by simp[h0,dU]
  rw[tb];clear tb h0;go_wp2_with fail;have h9:=QC BS4.o (ι F 0) (ι aF 0) (ι J 0) (ι F 0);have K:=h9.cell;have Kl:=h9.lt;exact bodyPost_ret (v:=τ #[γ #[ι F 0,ι aF 0,ι J 0,ι F 0],ι J 3]) (by simp[results,results25,go_sem,(K 0),(K 1),(K 2),(K 3)]) rfl ⟨by unfold QD;rw[if_pos H0.o,H0.o];rfl,rF B4.o (ah _) (ι F 0) (ι aF 0) (ι J 0) (ι F 0)⟩
 ·have H0:=U h0
  have LK:=HT4.o.jQ hx h0;have hY:=HT4.o.top;have Y:=hY.cell;have Yl:=hY.lt;have hV:=HT4.o.nd x h0;have V:=hV.cell;have Vl:=hV.lt;have tb:dU ((S.n x).kind==0) 3=0:=by simp[h0,dU]
  rw[tb];clear tb h0 hY hV;go_wp2_with fail;go_region;go_wp2_with fail;have h9:=(QC BS4.o (ι F x) (ι aF (S.n x).kind) (ι J (S.n x).links) (ι F (S.n x).data.length)).drew;have K:=h9.cell;have Kl:=h9.lt;exact bodyPost_ret (v:=τ #[γ #[ι F x,ι aF (S.n x).kind,ι J (S.n x).links,ι F (S.n x).data.length],ι J 0]) (by simp[results,results25,go_sem,(K 0),(K 1),(K 2),(K 3)]) rfl ⟨by unfold QD;rw[if_neg H0.o,show((S.n x).kind==0)=false by simpa using H0.o];rfl,(rF B4.o (ah _) (ι F x) (ι aF (S.n x).kind) (ι J (S.n x).links) (ι F (S.n x).data.length)).drew⟩
end
section
variable {E:TL} {room q:Nat} {S:T}
theorem TR (a b x:Nat) (w:World) (hT:aU w E room q S) (ha:aN w a 42 #[ι F x]) (hb:aN w b 64 #[E.t]):
 Calls prog 245 #[a,b] w λe w'=>e=aG (ι J (dU (decide (x<1)||decide (room<x)) 2:Nat))/\Below w.heap.size w w':=by
 have A0:=ha.cell 0;have B0:=hb.cell 0;simp only[au,av]at A0 B0;have Al:=ha.lt;have Bl:=hb.lt;have hY:=hT.top;have Y:=hY.cell;have Yl:=hY.lt;clear ha hb hY hT
 rcases(by omega:x<1\/(¬x<1/\room<x)\/(¬x<1/\¬room<x))with h1|⟨h1,h2⟩|⟨h1,h2⟩
 ·have hb:(decide (x<1)||decide (room<x))=true:=by simp[h1]
  have t1:decide ((x:Int)<1)=true:=by simp;omega
  rw[hb];clear hb h1
  go_enter func245,ntmps245
  go_wp2_with fail
  go_quiet ((go_at_call 99;exact Calls.quiet_of_same (turn (jC _ _))))
  go_wp2_with fail;go_ret;exact⟨rfl,lV⟩
 ·have hb:(decide (x<1)||decide (room<x))=true:=by simp[h2]
  have t1:decide ((x:Int)<1)=false:=by simp;omega
  have t2:decide ((room:Int)<x)=true:=by simp;omega
  have t3:decide (room<x)=true:=by simpa using h2
  rw[hb];clear hb h1 h2
  go_enter func245,ntmps245
  go_wp2_with fail
  go_quiet ((go_at_call 99;exact Calls.quiet_of_same (turn (jC _ _))))
  go_wp2_with fail;go_ret;exact⟨rfl,lV⟩
 ·have hb:(decide (x<1)||decide (room<x))=false:=by simp[h1,h2]
  have t1:decide ((x:Int)<1)=false:=by simp;omega
  have t2:decide ((room:Int)<x)=false:=by simp;omega
  have t3:decide (room<x)=false:=by simpa using h2
  rw[hb];clear hb h1 h2
  go_enter func245,ntmps245
  go_wp2_with fail
  go_quiet ((go_at_call 99;exact Calls.quiet_of_same (turn (iT _ _))))
  go_wp2_with fail;go_ret;exact⟨rfl,lV⟩
end
section
variable {E:TL} {room q:Nat} {S:T}
def dL (pre:Prop) (e:Nat) (v:Value) (w:World):Prop:=∃f lb,v=.func (.func f) #[] lb/\(∀W,(callFunc f lb).run prog W=.ok (.enter f lb) W)/\
 ∀W,Below w.heap.size w W->pre->Calls prog f lb W λr W'=>r=aG (ι J (e:Nat))/\Below W.heap.size W W'
theorem dL.later {pre:Prop} {e:Nat} {v:Value} {w w':World} (h:dL pre e v w) (hb:Below w.heap.size w w'):dL pre e v w':=by
 obtain⟨f,lb,h1,h2,h3⟩:=h;exact⟨f,lb,h1,h2,λW hW p=>h3 W (hb.trans (hW.mono hb.size)) p⟩
theorem dL.weak {pre pre':Prop} {e:Nat} {v:Value} {w:World} (h:dL pre e v w) (hp:pre'->pre):dL pre' e v w:=by
 obtain⟨f,lb,h1,h2,h3⟩:=h;exact⟨f,lb,h1,h2,λW hW p=>h3 W hW (hp p)⟩
theorem Xc (l:List Value) (i:Nat) (hi:i<l.length):l.toArray[i]? =some (l.getD i undef):=by simp[hi]
theorem xG (t b:Nat) (vs:List Value) (es:List Nat) (w:World) (hl:vs.length=es.length) (hn:es.length<=100) (hb:aN w b 82 vs.toArray)
 (hc:∀i,i<es.length->dL (∀j<i,es.getD j 0=0) (es.getD i 0) (vs.getD i undef) w):
 Calls prog 54 #[t,θ (some b) vs.length vs.length] w λe w'=>e=aG (ι J (iV es:Nat))/\Below w.heap.size w w':=by
 rw[hl]
 have hch:∃(g:Nat->Nat) (lb:Nat->Array Value),∀i,i<es.length->vs.getD i undef=.func (.func (g i)) #[] (lb i)/\(∀W,(callFunc (g i) (lb i)).run prog W=.ok (.enter (g i) (lb i)) W)/\
  ∀W,Below w.heap.size w W->(∀j<i,es.getD j 0=0)->Calls prog (g i) (lb i) W λr W'=>r=aG (ι J (es.getD i 0:Nat))/\Below W.heap.size W W':=by
  refine⟨λi=>if h:i<es.length then(hc i h).choose else 0,λi=>if h:i<es.length then(hc i h).choose_spec.choose else#[],λi hi=>?_⟩;simp only[hi,dif_pos];exact(hc i hi).choose_spec.choose_spec
 obtain⟨g,lb,h⟩:=hch;refine AZ t b es.length g lb es hn vs.toArray w hb (λi hi=>?_) (λi W hi=>(h i hi).2.1 W) (λi W hi hB hz=>(h i hi).2.2 W hB hz);rw[Xc _ _ (by omega),(h i hi).1]
theorem TU {n:Nat} {ss:List ByteArray} {v:Value} {w:World} (h:uo n 9 (ss.map Value.string).toArray v w) (hn:n<=w.heap.size) (hs:∀s∈ss,s.size<=maxLen) (hl:ss.length<=100):
 Calls prog 238 #[v] w λe w'=>∃u,e=aG u/\dL True (dU (ss.any λs=>!isName (L s)) 2) u w'/\Below w.heap.size w w':=by
 refine(Xb h hn).mono ?_;rintro e w' ⟨u,rfl,hu,hb⟩;refine⟨u,rfl,?_,hb⟩;have hu':=hu;obtain⟨p,b,rfl,_⟩:=hu';refine⟨_,_,rfl,(λW=>enters_of func282 (by kernel_rfl) rfl _ W),λW hW _=>?_⟩;obtain⟨p2,h1,h2⟩:=(hu.stay (iU.of hW)).call hs hl;cases h1;exact h2
theorem pz {n:Nat} {xs:List Nat} {v:Value} {w:World} (h:uo n 42 (xs.map λx=>Value.int F (x:Nat)).toArray v w) (hn:n<=w.heap.size) (hT:aU w E room q S) (hs:∀x∈xs,x<4294967296) (hl:xs.length<=100):
 Calls prog 55 #[E.t,v] w λe w'=>∃u,e=aG u/\dL True (dU (xs.any λx=>(S.n x).kind==0) 3) u w'/\Below w.heap.size w w':=by
 refine(JV h hn).mono ?_;rintro e w' ⟨u,rfl,hu,hb⟩;refine⟨u,rfl,?_,hb⟩;have hu':=hu;obtain⟨l,p,b,rfl,_⟩:=hu';refine⟨_,_,rfl,(λW=>enters_of func98 (by kernel_rfl) rfl _ W),λW hW _=>?_⟩;obtain⟨l2,p2,h1,h2⟩:=AV (hu.stay (iU.of hW)) ((hT.later hb).later hW) hs hl;cases h1;exact h2
theorem Xe {n:Nat} {xs:List Nat} {v:Value} {w:World} (h:uo n 42 (xs.map λx=>Value.int F (x:Nat)).toArray v w) (hn:n<=w.heap.size) (hT:aU w E room q S) (hs:∀x∈xs,x<4294967296) (hl:xs.length<=100):
 Calls prog 239 #[E.t,v] w λe w'=>∃u,e=aG u/\dL ((xs.any λx=>(S.n x).kind==0)=false) (dU (xs.any λx=>!((S.n x).kind==2)) 180) u w'/\Below w.heap.size w w':=by
 refine(pT h hn).mono ?_;rintro e w' ⟨u,rfl,hu,hb⟩;refine⟨u,rfl,?_,hb⟩;have hu':=hu;obtain⟨l,p,b,rfl,_⟩:=hu';refine⟨_,_,rfl,(λW=>enters_of func285 (by kernel_rfl) rfl _ W),λW hW hk=>?_⟩;obtain⟨l2,p2,h1,h2⟩:=TM (hu.stay (iU.of hW)) ((hT.later hb).later hW) hs hl hk;cases h1;exact h2
theorem vO {w:World} (hT:aU w E room q S) {x:Nat} (hx:x<4294967296):
 Calls prog 240 #[E.t,ι F x] w λe w'=>∃u,e=aG u/\dL ((S.n x).kind≠0) (dU ((S.n x).kind==2) 181) u w'/\Below w.heap.size w w':=by
 refine(pP _ _ w).mono ?_;rintro e w' ⟨rfl,rfl⟩;have hb:=((aj w.heap.size w).alloc (ah _) (aH #[E.t] 64)).alloc (by simp) (aH #[ι F x] 42);refine⟨_,rfl,⟨_,_,rfl,(λW=>enters_of func288 (by kernel_rfl) rfl _ W),λW hW hk=>?_⟩,hb⟩;exact TF _ _ x hx hk W ((hT.later hb).later hW) (((aN.new w _ _).alloc _).later hW) (by simpa using(aN.new (w.alloc _) 42 #[ι F x]).later hW)
theorem TV (k:Nat) {w:World}:
 Calls prog 244 #[ι aF k] w λe w'=>∃u,e=aG u/\dL True (dU (k !=1&&k !=2) 2) u w'/\Below w.heap.size w w':=by
 refine(WW _ w).mono ?_;rintro e w' ⟨rfl,rfl⟩;have hb:=(aj w.heap.size w).alloc (ah _) (aH #[ι aF k] 5);refine⟨_,rfl,⟨_,_,rfl,(λW=>enters_of func290 (by kernel_rfl) rfl _ W),λW hW _=>?_⟩,hb⟩;exact NQ _ k W ((aN.new w _ _).later hW)
theorem TW (k:Int) {w:World}:
 Calls prog 291 #[ι J k] w λe w'=>∃u,e=aG u/\dL True (dU (decide (k<0)||decide (36<=k)) 2) u w'/\Below w.heap.size w w':=by
 refine(WX _ w).mono ?_;rintro e w' ⟨rfl,rfl⟩;have hb:=(aj w.heap.size w).alloc (ah _) (aH #[ι J k] 3);refine⟨_,rfl,⟨_,_,rfl,(λW=>enters_of func328 (by kernel_rfl) rfl _ W),λW hW _=>?_⟩,hb⟩;exact NS _ k W ((aN.new w _ _).later hW)
theorem TY {w:World} (hT:aU w E room q S) {x:Nat} (hx:x<4294967296) {s:ByteArray} (hs:s.size<=maxLen):
 Calls prog 241 #[E.t,ι F x,σ s] w λe w'=>∃u,e=aG u/\dL ((S.n x).kind≠0) (dU (S.l x (L s)!=0) 9) u w'/\Below w.heap.size w w':=by
 refine(TA _ _ _ w).mono ?_;rintro e w' ⟨rfl,rfl⟩;have hb:=(((aj w.heap.size w).alloc (ah _) (aH #[E.t] 64)).alloc (by simp) (aH #[ι F x] 42)).alloc (by simp;omega) (aH #[σ s] 9);refine⟨_,rfl,⟨_,_,rfl,(λW=>enters_of func289 (by kernel_rfl) rfl _ W),λW hW hk=>?_⟩,hb⟩;exact NR _ _ _ x s hs hx hk W ((hT.later hb).later hW) ((((aN.new w _ _).alloc _).alloc _).later hW) (by simpa using((aN.new (w.alloc _) 42 #[ι F x]).alloc _).later hW) (by simpa using(aN.new ((w.alloc _).alloc _) 9 #[σ s]).later hW)
end
section
variable {E:TL} {room q:Nat} {S:T}
structure tN (w w':World) (k p a b:Nat):Prop where
 nd:aN w' p 136 #[.int aF k,.int J (k/2:Nat),.int F 0,.map (some a),.map (some b),.int J 0,.int F 0]
 ent:cZ w' 9 a 0 (λ_=>none)
 pg:cZ w' 3 b 0 (λ_=>none)
 lo:w.heap.size<=p/\w.heap.size<=a/\w.heap.size<=b
 ne:a≠b
 lS:Below w.heap.size w w'
theorem En (k:Nat) (hk:k=1\/k=2) (w:World):
 Calls prog 153 #[.int aF k] w λe w'=>∃p a b,e=aG (G (some ⟨p,0,none⟩))/\tN w w' k p a b:=by
 have hB:=(((aj _ w).alloc (ah _) (.map #[] 0)).alloc (by simp) (.map #[] 0)).alloc (by simp;omega) (aH #[.int aF k,.int J (k/2:Nat),.int F 0,.map (some w.heap.size),.map (some (w.heap.size+1)),.int J 0,.int F 0] 136);have hN:=aN.new ((w.alloc (.map #[] 0)).alloc (.map #[] 0)) 136 #[.int aF k,.int J (k/2:Nat),.int F 0,.map (some w.heap.size),.map (some (w.heap.size+1)),.int J 0,.int F 0];have hA:=((cZ.new w 9).alloc (.map #[] 0)).alloc (aH #[.int aF k,.int J (k/2:Nat),.int F 0,.map (some w.heap.size),.map (some (w.heap.size+1)),.int J 0,.int F 0] 136);have hM:=(cZ.new (w.alloc (.map #[] 0)) 3).alloc (aH #[.int aF k,.int J (k/2:Nat),.int F 0,.map (some w.heap.size),.map (some (w.heap.size+1)),.int J 0,.int F 0] 136);simp only[aC]at hN hM;have aL:=U (⟨hN,hA,hM,by omega,by omega,hB⟩:tN w _ k _ _ _);clear hB hN hA hM;have hmm:=@run_makeMap prog
 rcases hk with rfl|rfl
 iterate 2
  ·go_enter func153,ntmps153
   go_wp2
   go_ret;exact⟨_,_,_,rfl,aL.o⟩
def xH (f:Nat->Nat) (x v:Nat):Nat->Nat:=λy=>if y=x then v else f y
def TL.add (E:TL) (x p a b:Nat):TL:=⟨E.t,E.m,xH E.P x p,xH E.A x a,xH E.B x b,λc=>E.O c\/c=p\/c=a\/c=b⟩
theorem Eo {kd:IntKind} {g:Nat->Option Value} {k:Lit} (h:(eB kd g k).isSome=true):∃y:Nat,k=.int kd y/\(g y).isSome=true:=by
 cases k with
 |int k z=>
  unfold eB at h
  dsimp only at h
  by_cases hz:k=kd/\0<=z
  ·rw[if_pos hz]at h
   exact⟨z.toNat,by rw[hz.1,Int.toNat_of_nonneg hz.2],h⟩
  ·rw[if_neg hz]at h;cases h
 |_=>cases h
theorem Ua (k:Nat):aT [] k=zero64:=by
 unfold aT zero64;rw[List.eq_replicate_iff];refine⟨by simp,λx hx=>?_⟩;obtain⟨i,_,rfl⟩:=List.mem_map.1 hx
 rfl
theorem Xf:pB [] (λ_=>none):=⟨λk v h=>(by cases h),λk _=>Ua k⟩
theorem aU.born {W0 W:World} (h0:aU W0 E room q S) {x k p a b:Nat} (aL:tN W0 W k p a b) (hk:k=1\/k=2) (hx:(S.n x).kind=0) (hx1:1<=x) (hxr:x<=room) (hL:∀s,S.l x s=0) (hr:∀y,(S.n y).kind≠0->1<=y/\y<=room):
 ∃W',(Instr.mapUpdate 128 (.map (some E.m)) (.int F x) (G (some ⟨p,0,none⟩))).run prog W=.ok () W'/\aU W' (E.add x p a b) room q ⟨aS S.n x ⟨k,k/2,0,0,[]⟩,S.l⟩/\W.mapTurned W' E.m:=by
 have h:=h0.later aL.lS;have hrm:=h0.rm;obtain⟨W',hrun,h1,h2⟩:=h.map.put Db underlying128 (by unfold maxLen;omega) (vK (x:=x) (by omega)) (G (some ⟨p,0,none⟩));refine⟨W',hrun,?_,h2⟩;have o:=h.own;obtain⟨es,clk,hmap⟩:=h.map.isMap;have k0:k≠0:=by omega
 have hks:∀y,(aS S.n x ⟨k,k/2,0,0,[]⟩ y).kind≠0->y≠x->(S.n y).kind≠0:=λy hy e=>by rw[bq _ _ e]at hy;exact hy
 have old:∀y,(S.n y).kind≠0->E.P y<W0.heap.size/\E.A y<W0.heap.size/\E.B y<W0.heap.size:=λy hy=>by
  obtain⟨g,_,g2⟩:=h0.pg y hy;exact⟨(h0.nd y hy).lt,(h0.ent y hy).lt,g2.lt⟩
 have hlo:=aL.lo;have mlt:=h0.map.lt;have tlt:=h0.top.lt;have noM:∀{c:Nat} {t:TypeId} {cs:Array Value},aN W c t cs->c≠E.m:=λhc e=>by unfold aN at hc;rw[e,hmap]at hc;cases hc
 refine{top:=?_,map:=?_,nd:=?_,ent:=?_,pg:=?_,own:=?_,iP:=?_,iA:=?_,iB:=?_,Tv:=?_,iM:=?_,rm:=h.rm,q8:=h.q8,lk:=?_,dt:=?_}
 ·exact(bL h2 (noM h.top)).trans h.top
 ·rw[dP]at h1
  have ee:(λy=>if y=x then some (Value.pointer (some ⟨p,0,none⟩))else jP E S y)=jP (E.add x p a b) ⟨aS S.n x ⟨k,k/2,0,0,[]⟩,S.l⟩:=by
   funext y
   simp only[jP,TL.add,xH,ptr]
   by_cases e:y=x
   ·subst e;simp[aS,k0]
   ·simp[aS,e]
  rw[ee]at h1
  have:=h1.tight Db ((List.range 256).map λi=>Lit.int F ((i+1:Nat):Int)) (λkl _ hs=>by
   obtain⟨y,rfl,hy⟩:=Eo hs
   have hy2:(aS S.n x ⟨k,k/2,0,0,[]⟩ y).kind≠0:=λe=>by
     simp only[jP]at hy;rw[if_pos e]at hy;cases hy
   have hy3:1<=y/\y<=room:=by
     by_cases e:y=x
     ·subst e;exact⟨hx1,hxr⟩
     ·exact hr y (hks y hy2 e)
   exact List.mem_map.2 ⟨y-1,by simp;omega,by rw[show y-1+1=y by omega]⟩)
  have hl:((List.range 256).map λi=>Lit.int F ((i+1:Nat):Int)).length=256:=by simp
  rw[hl]at this;exact this
 ·intro y hy
  simp only[TL.add,xH]
  by_cases e:y=x
  ·subst e
   simp only[bE,if_true];exact(bL h2 (noM aL.nd)).trans aL.nd
  ·simp only[bq _ _ e,if_neg e]
   have hy':=hks y hy e;exact(bL h2 (noM (h.nd y hy'))).trans (h.nd y hy')
 ·intro y hy
  simp only[TL.add,xH]
  by_cases e:y=x
  ·subst e
   simp only[if_true]
   have ee:fG (Gw (S.l y))=λ_=>none:=by
    funext kl
    cases kl with
    |string s=>simp[fG,Gw,hL]
    |_=>rfl
   rw[ee];exact(aL.ent.mono (aB _)).block (bL h2 (by omega))
  ·simp only[if_neg e]
   have hy':=hks y hy e;exact(h.ent y hy').block (bL h2 (h.iM y hy').2.1)
 ·intro y hy
  simp only[TL.add,xH]
  by_cases e:y=x
  ·subst e
   simp only[bE,if_true];refine⟨λ_=>none,Xf,?_⟩
   have ee:eB J (Ee λ_=>none)=λ_=>none:=by
    funext kl
    cases kl with
    |int k z=>simp[eB,Ee]
    |_=>rfl
   rw[ee];exact(aL.pg.mono (by omega)).block (bL h2 (by omega))
  ·simp only[bq _ _ e,if_neg e]
   have hy':=hks y hy e;obtain⟨g,g1,g2⟩:=h.pg y hy';exact⟨g,g1,g2.block (bL h2 (h.iM y hy').2.2)⟩
 ·refine⟨.inl o.1,.inl o.2.1,λy hy=>?_⟩
  simp only[TL.add,xH]
  by_cases e:y=x
  ·subst e;simp
  ·simp only[if_neg e]
   have:=o.2.2 y (hks y hy e);exact⟨.inl this.1,.inl this.2.1,.inl this.2.2⟩
 ·intro u v hu hv
  simp only[TL.add,xH]
  by_cases e:u=x<;>by_cases f:v=x
  ·intro _;rw[e,f]
  ·rw[if_pos e,if_neg f];intro q;have:=old v (hks v hv f);omega
  ·rw[if_neg e,if_pos f];intro q;have:=old u (hks u hu e);omega
  ·rw[if_neg e,if_neg f];exact h.iP u v (hks u hu e) (hks v hv f)
 ·intro u v hu hv
  simp only[TL.add,xH]
  by_cases e:u=x<;>by_cases f:v=x
  ·intro _;rw[e,f]
  ·rw[if_pos e,if_neg f];intro q;have:=old v (hks v hv f);omega
  ·rw[if_neg e,if_pos f];intro q;have:=old u (hks u hu e);omega
  ·rw[if_neg e,if_neg f];exact h.iA u v (hks u hu e) (hks v hv f)
 ·intro u v hu hv
  simp only[TL.add,xH]
  by_cases e:u=x<;>by_cases f:v=x
  ·intro _;rw[e,f]
  ·rw[if_pos e,if_neg f];intro q;have:=old v (hks v hv f);omega
  ·rw[if_neg e,if_pos f];intro q;have:=old u (hks u hu e);omega
  ·rw[if_neg e,if_neg f];exact h.iB u v (hks u hu e) (hks v hv f)
 ·intro u v hu hv
  simp only[TL.add,xH];have hne:=aL.ne
  by_cases e:u=x<;>by_cases f:v=x
  ·rw[if_pos e,if_pos f];exact hne
  ·rw[if_pos e,if_neg f];intro q;have:=old v (hks v hv f);omega
  ·rw[if_neg e,if_pos f];intro q;have:=old u (hks u hu e);omega
  ·rw[if_neg e,if_neg f];exact h.Tv u v (hks u hu e) (hks v hv f)
 ·intro u hu
  simp only[TL.add,xH]
  by_cases e:u=x
  ·simp only[if_pos e];exact⟨by omega,by omega,by omega⟩
  ·simp only[if_neg e];exact h.iM u (hks u hu e)
 ·intro y
  by_cases e:y=x
  ·subst e;simp only[bE];exact⟨by rcases hk with rfl|rfl<;>decide,by decide⟩
  ·simp only[bq _ _ e];exact h.lk y
 ·intro y
  by_cases e:y=x
  ·subst e;simp only[bE];decide
  ·simp only[bq _ _ e];exact h.dt y
end
