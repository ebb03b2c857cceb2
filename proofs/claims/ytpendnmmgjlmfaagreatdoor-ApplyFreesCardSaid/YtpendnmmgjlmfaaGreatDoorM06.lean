/- Lemmas. -/
import Derived.Test.YtpendnmmgjlmfaaGreatDoorM55
import Derived.Maps.RangeWalk
import Derived.Maps.Ext
import Derived.StringKeys
import Derived.Orders
import Derived.WalkMore
set_option linter.unusedVariables false
set_option linter.unusedSimpArgs false
namespace Go.Proofs.YtpendnmmgjlmfaaGreatDoor
open Go.Proofs.Tryz
open IntKind renaming i64→J,u32→F,u8→aF
open Value renaming pointer→G,int->ι,string->σ,bool->ν,tuple->τ,slice->θ,agg->γ
open Ending renaming returned→aG
open Obj renaming cells→aH
set_option maxRecDepth 100000
set_option maxHeartbeats 4000000
namespace Tr
abbrev Nm:=List UInt8
structure Nd where
 kind:Nat
 links:Nat
 held:Nat
 up:Nat
 data:Nm
def Nd.no:Nd:=⟨0,0,0,0,[]⟩
structure T where
 n:Nat->Nd
 l:Nat->Nm->Nat
structure Rc where
 stamp:Nat
 op:Nat
 dir:Nat
 name:Nm
 ino:Nat
 kind:Nat
 bV:Nat
 name2:Nm
 old:Nat
 size:Nat
 page:Nat
 data:Nm
def aS (f:Nat->Nd) (x:Nat) (v:Nd):Nat->Nd:=λy=>if y=x then v else f y
def aY (f:Nat->Nm->Nat) (d:Nat) (s:Nm) (v:Nat):Nat->Nm->Nat:=λe t=>if e=d/\t=s then v else f e t
inductive yL (S:T) (top:Nat):Nat->Prop where
 |here:yL S top top
 |up (d:Nat):(S.n d).up≠0->yL S top (S.n d).up->yL S top d
def jq (s:Nm) (k:Nat):Nm:=s.take k++List.replicate (k-s.length) 0
def wr (s:Nm) (p:Nat) (d:Nm):Nm:=
 let u:=jq s (max s.length (p*64+d.length))
 u.take (p*64)++d++u.drop (p*64+d.length)
def zA (v:Nd):Nd:=if v.held=0/\v.links=0 then Nd.no else v
def lose (v:Nd):Nd:=if v.kind=2 then Nd.no else zA {v with links:=v.links-1}
def Ok (room:Nat) (r:Rc) (S:T):Prop:=
 if r.op=1 then(S.n r.dir).kind=2/\S.l r.dir r.name=0/\(S.n r.ino).kind=0/\1<=r.ino/\r.ino<=room
 else if r.op=2 then(S.n r.dir).kind=2/\S.l r.dir r.name=0/\(S.n r.ino).kind=1/\(S.n r.ino).links<200
 else if r.op=3 then(S.n r.dir).kind=2/\S.l r.dir r.name=r.ino/\r.ino≠0/\(S.n r.ino).kind=r.kind/\∀s,S.l r.ino s=0
 else if r.op=4 then(S.n r.dir).kind=2/\S.l r.dir r.name=r.ino/\r.ino≠0/\(S.n r.ino).kind=r.kind/\(S.n r.bV).kind=2/\S.l r.bV r.name2=r.old/\(r.kind=2->¬yL S r.ino r.bV)/\(r.old≠0->r.old≠r.ino->(S.n r.old).kind=r.kind/\∀s,S.l r.old s=0)
 else if r.op=5 then(S.n r.ino).kind=1
 else if r.op=6 then(S.n r.ino).kind=1
 else(S.n r.ino).kind=1/\(S.n r.ino).links=0/\(S.n r.ino).held≠0
def next (r:Rc) (S:T):T:=
 if r.op=1 then⟨aS S.n r.ino ⟨r.kind,1,if r.kind=1 then 1 else 0,if r.kind=2 then r.dir else 0,[]⟩,aY S.l r.dir r.name r.ino⟩
 else if r.op=2 then⟨aS S.n r.ino {S.n r.ino with links:=(S.n r.ino).links+1},aY S.l r.dir r.name r.ino⟩
 else if r.op=3 then⟨aS S.n r.ino (lose (S.n r.ino)),aY S.l r.dir r.name 0⟩
 else if r.op=4 then
  if r.old=r.ino then S
  else⟨aS (if r.old=0 then S.n else aS S.n r.old (lose (S.n r.old))) r.ino (if r.kind=2 then{S.n r.ino with up:=r.bV}else S.n r.ino),aY (aY S.l r.dir r.name 0) r.bV r.name2 r.ino⟩
 else if r.op=5 then⟨aS S.n r.ino {S.n r.ino with data:=jq (S.n r.ino).data r.size},S.l⟩
 else if r.op=6 then⟨aS S.n r.ino {S.n r.ino with data:=jq (wr (S.n r.ino).data r.page r.data) r.size},S.l⟩
 else⟨aS S.n r.ino (zA {S.n r.ino with held:=(S.n r.ino).held-1}),S.l⟩
def Au (S:T) (x k:Nat):Prop:=∃L:List (Nat×Nm),L.Nodup/\(∀d s,(d,s)∈L↔S.l d s=x)/\L.length=k
structure Inv (room:Nat) (S:T):Prop where
 k2:∀x,(S.n x).kind<=2
 no:∀x,(S.n x).kind=0->S.n x=Nd.no
 vo:∀x s,(S.n x).kind≠2->S.l x s=0
 fl:∀x,(S.n x).kind=1->(S.n x).up=0
 dr:∀x,(S.n x).kind=2->(S.n x).held=0/\(S.n x).links=1/\(S.n x).data=[]
 rng:∀x,(S.n x).kind≠0->1<=x/\x<=room
 root:(S.n 1).kind=2/\(S.n 1).up=0
 ent:∀d s,S.l d s≠0->(S.n (S.l d s)).kind≠0/\S.l d s≠1
 one:∀d s,(S.n (S.l d s)).kind=2->(S.n (S.l d s)).up=d
 kS:∀d s t,(S.n (S.l d s)).kind=2->S.l d s=S.l d t->s=t
 upd:∀x,(S.n x).kind=2->x≠1->(S.n x).up≠0/\∃s,S.l (S.n x).up s=x
 hl:∀x,(S.n x).kind=1->(S.n x).held≠0\/(S.n x).links≠0
 cnt:∀x,(S.n x).kind=1->Au S x (S.n x).links
 CV:∃rk:Nat->Nat,∀x,(S.n x).up≠0->rk (S.n x).up<rk x
def May (r:Rc):Prop:=1<=r.op/\r.op<=7/\1<=r.ino/\(r.op=1\/r.op=3\/r.op=4->r.kind=1\/r.kind=2)
theorem Au.pos {S:T} {x k:Nat} (h:Au S x k) {d:Nat} {s:Nm} (hd:S.l d s=x):k≠0:=by
 obtain⟨L,_,h2,rfl⟩:=h;exact λe=>by rw[List.length_eq_zero_iff]at e;have:=(h2 d s).2 hd;rw[e]at this;cases this
theorem Au.add {S:T} {x k:Nat} (h:Au S x k) {d:Nat} {s:Nm} {N:Nat->Nd} (hd:S.l d s≠x):Au ⟨N,aY S.l d s x⟩ x (k+1):=by
 obtain⟨L,h1,h2,rfl⟩:=h;refine⟨(d,s)::L,List.nodup_cons.2 ⟨λhm=>hd ((h2 d s).1 hm),h1⟩,λe t=>?_,rfl⟩;simp only[List.mem_cons,h2,aY,Prod.mk.injEq]
 by_cases he:e=d/\t=s
 ·simp[he]
 ·simp[he]
theorem Au.del {S:T} {x k:Nat} (h:Au S x k) {d:Nat} {s:Nm} {N:Nat->Nd} {y:Nat} (hd:S.l d s=x) (hy:y≠x):Au ⟨N,aY S.l d s y⟩ x (k-1):=by
 obtain⟨L,h1,h2,rfl⟩:=h;refine⟨L.erase (d,s),h1.erase _,λe t=>?_,List.length_erase_of_mem ((h2 d s).2 hd)⟩;rw[h1.mem_erase_iff,h2];simp only[aY]
 by_cases he:e=d/\t=s
 ·simp[he,hy]
 ·rw[if_neg he]
  exact⟨λp=>p.2,λp=>⟨λq=>he (by cases q;exact⟨rfl,rfl⟩),p⟩⟩
theorem Au.same {S:T} {x k:Nat} (h:Au S x k) {d:Nat} {s:Nm} {N:Nat->Nd} {y:Nat} (hd:S.l d s≠x) (hy:y≠x):Au ⟨N,aY S.l d s y⟩ x k:=by
 obtain⟨L,h1,h2,rfl⟩:=h;refine⟨L,h1,λe t=>?_,rfl⟩;rw[h2];simp only[aY]
 by_cases he:e=d/\t=s
 ·rw[if_pos he,he.1,he.2];simp[hd,hy]
 ·rw[if_neg he]
theorem Au.of {S S':T} {x k:Nat} (h:Au S x k) (he:S'.l=S.l):Au S' x k:=by
 unfold Au at*;rw[he];exact h
theorem Inv.Nv {room:Nat} {S:T} (h:Inv room S) {x:Nat} (hx:(S.n x).up≠0):(S.n x).kind=2/\x≠1/\∃s,S.l (S.n x).up s=x:=by
 have k2:=h.k2 x;have a0:(S.n x).kind≠0:=λe=>hx (by rw[h.no x e];rfl);have a1:(S.n x).kind≠1:=λe=>hx (h.fl x e);have a2:x≠1:=λe=>hx (by rw[e];exact h.root.2);have a3:(S.n x).kind=2:=by omega
 exact⟨a3,a2,(h.upd x a3 a2).2⟩
theorem Inv.leaf {room:Nat} {S:T} (h:Inv room S) {x:Nat} (hx:∀s,S.l x s=0) (h0:(S.n 0).kind=0) {y:Nat} (hy:(S.n y).up=x) (hx0:x≠0):False:=by
 obtain⟨a,b,s,hs⟩:=h.Nv (x:=y) (by rw[hy];exact hx0);rw[hy,hx]at hs;subst hs;omega
theorem Inv.zero {room:Nat} {S:T} (h:Inv room S):(S.n 0).kind=0:=Classical.byContradiction λq=>by have:=h.rng 0 q;omega
theorem WE {room:Nat} {S:T} (h:Inv room S) {dir ino kind:Nat} {name:Nm} (hk:kind=1\/kind=2) (h1:(S.n dir).kind=2) (h2:S.l dir name=0) (h3:(S.n ino).kind=0) (h4:1<=ino) (h5:ino<=room):
 Inv room ⟨aS S.n ino ⟨kind,1,if kind=1 then 1 else 0,if kind=2 then dir else 0,[]⟩,aY S.l dir name ino⟩:=by
 have hn:∀d s,S.l d s≠ino:=λd s e=>by
  have:=(h.ent d s (by rw[e];omega)).1;rw[e]at this;omega
 have hz:=h.zero;have hroot:=h.root;have h1i:ino≠1:=λe=>by rw[e]at h3;omega
 have hdi:dir≠ino:=λe=>by rw[e]at h1;omega
 have hd0:dir≠0:=λe=>by rw[e]at h1;omega
 have hup:∀x,(S.n x).up≠ino:=λx e=>by
  obtain⟨_,_,s,hs⟩:=h.Nv (x:=x) (by rw[e];omega);rw[e,h.vo ino s (by omega)]at hs;subst hs;have:=h.no 0 hz;rw[this]at e;cases e;omega
 refine{k2:=?_,no:=?_,vo:=?_,fl:=?_,dr:=?_,rng:=?_,root:=?_,ent:=?_,one:=?_,kS:=?_,upd:=?_,hl:=?_,cnt:=?_,CV:=?_}
 ·have:=h.k2;simp only[aS];grind
 ·have:=h.no;simp only[aS];grind
 ·have:=h.vo;simp only[aS,aY];grind
 ·have:=h.fl;simp only[aS];grind
 ·have:=h.dr;simp only[aS];grind
 ·have:=h.rng;simp only[aS];grind
 ·simp only[aS];grind
 ·have:=h.ent;simp only[aS,aY];grind
 ·have:=h.one;simp only[aS,aY];grind
 ·have:=h.kS;simp only[aS,aY];grind
 ·have h6:=h.upd
  intro x hx hx1;simp only[aS,aY]at hx⊢
  by_cases e:x=ino
  ·subst e
   simp only[if_true]at hx⊢;subst hx;exact⟨by simpa using hd0,name,by simp⟩
  ·simp only[e,if_false]at hx⊢
   obtain⟨a,s,b⟩:=h6 x hx hx1;refine⟨a,s,?_⟩
   by_cases q:(S.n x).up=dir/\s=name
   ·rw[q.1,q.2,h2]at b
    subst b;omega
   ·rw[if_neg q];exact b
 ·have:=h.hl;simp only[aS];grind
 ·intro x hx
  simp only[aS]at hx⊢
  by_cases e:x=ino
  ·subst e
   simp only[if_true]at hx⊢;exact Au.add (S:=S) (k:=0) ⟨[],List.nodup_nil,λd s=>by simp[hn d s],rfl⟩ (hn _ _)
  ·simp only[e,if_false]at hx⊢
   exact(h.cnt x hx).same (by rw[h2];intro q;subst q;omega) (Ne.symm e)
 ·obtain⟨rk,hr⟩:=h.CV
  refine⟨λx=>if x=ino then rk dir+1 else rk x,λx hx=>?_⟩;simp only[aS]at hx⊢;have:=hr x;have:=hup x
  grind
theorem WG {room:Nat} {S:T} (h:Inv room S) {dir ino:Nat} {name:Nm} (h1:(S.n dir).kind=2) (h2:S.l dir name=0) (h3:(S.n ino).kind=1) (h4:1<=ino):
 Inv room ⟨aS S.n ino {S.n ino with links:=(S.n ino).links+1},aY S.l dir name ino⟩:=by
 have hz:=h.zero;have hroot:=h.root;refine{k2:=?_,no:=?_,vo:=?_,fl:=?_,dr:=?_,rng:=?_,root:=?_,ent:=?_,one:=?_,kS:=?_,upd:=?_,hl:=?_,cnt:=?_,CV:=?_}
 ·have:=h.k2;simp only[aS];grind
 ·have:=h.no;simp only[aS];grind
 ·have:=h.vo;simp only[aS,aY];grind
 ·have:=h.fl;simp only[aS];grind
 ·have:=h.dr;simp only[aS];grind
 ·have:=h.rng;simp only[aS];grind
 ·simp only[aS];grind
 ·have:=h.ent;simp only[aS,aY];grind
 ·have:=h.one;simp only[aS,aY];grind
 ·have:=h.kS;simp only[aS,aY];grind
 ·have h6:=h.upd
  simp only[aS,aY]
  grind
 ·have:=h.hl;simp only[aS];grind
 ·intro x hx
  simp only[aS]at hx⊢
  by_cases e:x=ino
  ·subst e
   simp only[if_true]at hx⊢;exact(h.cnt x hx).add (by rw[h2];omega)
  ·simp only[e,if_false]at hx⊢
   exact(h.cnt x hx).same (by rw[h2];intro q;subst q;omega) (Ne.symm e)
 ·obtain⟨rk,hr⟩:=h.CV
  refine⟨rk,λx hx=>?_⟩;simp only[aS]at hx⊢;have:=hr x
  grind
theorem Jz {room:Nat} {S:T} (h:Inv room S) {ino:Nat} (h3:(S.n ino).kind=1) (s:Nm):Inv room ⟨aS S.n ino {S.n ino with data:=s},S.l⟩:=by
 have hroot:=h.root;refine{k2:=?_,no:=?_,vo:=?_,fl:=?_,dr:=?_,rng:=?_,root:=?_,ent:=?_,one:=?_,kS:=?_,upd:=?_,hl:=?_,cnt:=?_,CV:=?_}
 ·have:=h.k2;simp only[aS];grind
 ·have:=h.no;simp only[aS];grind
 ·have:=h.vo;simp only[aS];grind
 ·have:=h.fl;simp only[aS];grind
 ·have:=h.dr;simp only[aS];grind
 ·have:=h.rng;simp only[aS];grind
 ·simp only[aS];grind
 ·have:=h.ent;simp only[aS];grind
 ·have:=h.one;simp only[aS];grind
 ·have:=h.kS;simp only[aS];grind
 ·have:=h.upd;simp only[aS];grind
 ·have:=h.hl;simp only[aS];grind
 ·intro x hx
  simp only[aS]at hx⊢
  by_cases e:x=ino
  ·subst e
   simp only[if_true]at hx⊢;exact(h.cnt x h3).of rfl
  ·simp only[e,if_false]at hx⊢
   exact(h.cnt x hx).of rfl
 ·obtain⟨rk,hr⟩:=h.CV
  refine⟨rk,λx hx=>?_⟩;simp only[aS]at hx⊢;have:=hr x
  grind
theorem WH {room:Nat} {S:T} (h:Inv room S) {ino:Nat} (h3:(S.n ino).kind=1) (k:Nat):Inv room ⟨aS S.n ino (zA {S.n ino with held:=k}),S.l⟩:=by
 have hroot:=h.root
 have hf:zA {S.n ino with held:=k}=Nd.no/\k=0/\(S.n ino).links=0\/zA {S.n ino with held:=k}={S.n ino with held:=k}/\(k≠0\/(S.n ino).links≠0):=by
  unfold zA
  by_cases q:k=0/\(S.n ino).links=0
  ·left;simp[q]
  ·right;simp only[q,if_false];exact⟨trivial,by omega⟩
 have hc:=h.cnt ino h3;have h1:ino≠1:=λe=>by rw[e]at h3;omega
 have hi:ino≠0:=λe=>by have:=h.zero;rw[e]at h3;omega
 have hup:∀x,(S.n x).up≠ino:=λx e=>h.leaf (h.vo ino · (by omega)) h.zero e hi
 generalize zA {S.n ino with held:=k}=v at*
 rcases hf with⟨rfl,rfl,hl⟩|⟨rfl,hl⟩
 ·have hne:∀d s,S.l d s≠ino:=λd s e=>hc.pos e hl
  refine{k2:=?_,no:=?_,vo:=?_,fl:=?_,dr:=?_,rng:=?_,root:=?_,ent:=?_,one:=?_,kS:=?_,upd:=?_,hl:=?_,cnt:=?_,CV:=?_}
  ·have:=h.k2;simp only[aS,Nd.no];grind
  ·have:=h.no;simp only[aS];grind
  ·have:=h.vo;simp only[aS,Nd.no];grind
  ·have:=h.fl;simp only[aS,Nd.no];grind
  ·have:=h.dr;simp only[aS,Nd.no];grind
  ·have:=h.rng;simp only[aS,Nd.no];grind
  ·simp only[aS];grind
  ·have:=h.ent;simp only[aS,Nd.no];grind
  ·have:=h.one;simp only[aS,Nd.no];grind
  ·have:=h.kS;simp only[aS,Nd.no];grind
  ·have:=h.upd;simp only[aS,Nd.no];grind
  ·have:=h.hl;simp only[aS,Nd.no];grind
  ·intro x hx
   simp only[aS]at hx⊢
   by_cases e:x=ino
   ·subst e
    simp[Nd.no]at hx
   ·simp only[e,if_false]at hx⊢
    exact(h.cnt x hx).of rfl
  ·obtain⟨rk,hr⟩:=h.CV
   refine⟨rk,λx hx=>?_⟩;simp only[aS]at hx⊢;have:=hr x;unfold Nd.no at*
   grind
 ·refine{k2:=?_,no:=?_,vo:=?_,fl:=?_,dr:=?_,rng:=?_,root:=?_,ent:=?_,one:=?_,kS:=?_,upd:=?_,hl:=?_,cnt:=?_,CV:=?_}
  ·have:=h.k2;simp only[aS];grind
  ·have:=h.no;simp only[aS];grind
  ·have:=h.vo;simp only[aS];grind
  ·have:=h.fl;simp only[aS];grind
  ·have:=h.dr;simp only[aS];grind
  ·have:=h.rng;simp only[aS];grind
  ·simp only[aS];grind
  ·have:=h.ent;simp only[aS];grind
  ·have:=h.one;simp only[aS];grind
  ·have:=h.kS;simp only[aS];grind
  ·have:=h.upd;simp only[aS];grind
  ·have:=h.hl;simp only[aS];grind
  ·intro x hx
   simp only[aS]at hx⊢
   by_cases e:x=ino
   ·subst e
    simp only[if_true]at hx⊢;exact hc.of rfl
   ·simp only[e,if_false]at hx⊢
    exact(h.cnt x hx).of rfl
  ·obtain⟨rk,hr⟩:=h.CV
   refine⟨rk,λx hx=>?_⟩;simp only[aS]at hx⊢;have:=hr x
   grind
theorem Av {room:Nat} {S:T} (h:Inv room S) {dir ino:Nat} {name:Nm} (h1:(S.n dir).kind=2) (h2:S.l dir name=ino) (h3:ino≠0) (h4:∀s,S.l ino s=0):
 Inv room ⟨aS S.n ino (lose (S.n ino)),aY S.l dir name 0⟩:=by
 have hroot:=h.root;have hz:=h.zero;have he:=h.ent dir name (by omega);rw[h2]at he;have hup:∀x,(S.n x).up≠ino:=λx e=>h.leaf h4 hz e h3;have hdi:dir≠ino:=λe=>by subst e;rw[h4]at h2;omega
 have hk:=h.k2 ino
 by_cases hd:(S.n ino).kind=2
 ·have hlo:lose (S.n ino)=Nd.no:=by unfold lose;rw[if_pos hd]
  rw[hlo]
  have hone:∀d s,S.l d s=ino->d=dir/\s=name:=λd s e=>by
   have a:=h.one d s (by rw[e];exact hd);have b:=h.one dir name (by rw[h2];exact hd);rw[e]at a;rw[h2]at b;have c:d=dir:=by omega
   subst c;exact⟨rfl,h.kS d s name (by rw[e];exact hd) (by rw[e,h2])⟩
  refine{k2:=?_,no:=?_,vo:=?_,fl:=?_,dr:=?_,rng:=?_,root:=?_,ent:=?_,one:=?_,kS:=?_,upd:=?_,hl:=?_,cnt:=?_,CV:=?_}
  ·have:=h.k2;simp only[aS,Nd.no];grind
  ·have:=h.no;simp only[aS];grind
  ·have:=h.vo;simp only[aS,aY,Nd.no];grind
  ·have:=h.fl;simp only[aS,Nd.no];grind
  ·have:=h.dr;simp only[aS,Nd.no];grind
  ·have:=h.rng;simp only[aS,Nd.no];grind
  ·simp only[aS];grind
  ·have:=h.ent;simp only[aS,aY,Nd.no];grind
  ·have:=h.one;simp only[aS,aY,Nd.no];grind
  ·have:=h.kS;simp only[aS,aY,Nd.no];grind
  ·intro x hx hx1
   simp only[aS]at hx⊢
   by_cases e:x=ino
   ·subst e;simp[Nd.no]at hx
   ·simp only[e,if_false]at hx⊢
    obtain⟨a,s,b⟩:=h.upd x hx hx1;refine⟨a,s,?_⟩;simp only[aY];rw[if_neg (λq=>by rw[q.1,q.2,h2]at b;exact e b.symm)];exact b
  ·have:=h.hl;simp only[aS,Nd.no];grind
  ·intro x hx
   simp only[aS]at hx⊢
   by_cases e:x=ino
   ·subst e;simp[Nd.no]at hx
   ·simp only[e,if_false]at hx⊢
    exact(h.cnt x hx).same (by rw[h2];exact Ne.symm e) (λq=>by subst q;omega)
  ·obtain⟨rk,hr⟩:=h.CV
   refine⟨rk,λx hx=>?_⟩;simp only[aS]at hx⊢;have:=hr x;unfold Nd.no at*
   grind
 ·have hd1:(S.n ino).kind=1:=by omega
  have hc:=(h.cnt ino hd1).del (N:=S.n) (y:=0) h2 (Ne.symm h3)
  have hf:lose (S.n ino)=Nd.no/\(S.n ino).held=0/\(S.n ino).links-1=0\/lose (S.n ino)={S.n ino with links:=(S.n ino).links-1}/\((S.n ino).held≠0\/(S.n ino).links-1≠0):=by
   unfold lose zA;rw[if_neg hd]
   by_cases q:(S.n ino).held=0/\(S.n ino).links-1=0
   ·left;simp only[q,and_self,if_true]
   ·right;simp only[q,if_false];exact⟨trivial,by omega⟩
  generalize lose (S.n ino)=v at*
  rcases hf with⟨rfl,hh,hl⟩|⟨rfl,hl⟩
  ·have hne:∀d s,aY S.l dir name 0 d s≠ino:=λd s e=>hc.pos e hl
   refine{k2:=?_,no:=?_,vo:=?_,fl:=?_,dr:=?_,rng:=?_,root:=?_,ent:=?_,one:=?_,kS:=?_,upd:=?_,hl:=?_,cnt:=?_,CV:=?_}
   ·have:=h.k2;simp only[aS,Nd.no];grind
   ·have:=h.no;simp only[aS];grind
   ·have:=h.vo;simp only[aS,aY,Nd.no];grind
   ·have:=h.fl;simp only[aS,Nd.no];grind
   ·have:=h.dr;simp only[aS,Nd.no];grind
   ·have:=h.rng;simp only[aS,Nd.no];grind
   ·simp only[aS];grind
   ·have:=h.ent;simp only[aS,aY,Nd.no]at*;grind
   ·have:=h.one;simp only[aS,aY,Nd.no]at*;grind
   ·have:=h.kS;simp only[aS,aY,Nd.no]at*;grind
   ·have:=h.upd;simp only[aS,aY,Nd.no]at*;grind
   ·have:=h.hl;simp only[aS,Nd.no];grind
   ·intro x hx
    simp only[aS]at hx⊢
    by_cases e:x=ino
    ·subst e;simp[Nd.no]at hx
    ·simp only[e,if_false]at hx⊢
     exact(h.cnt x hx).same (by rw[h2];exact Ne.symm e) (λq=>by subst q;omega)
   ·obtain⟨rk,hr⟩:=h.CV
    refine⟨rk,λx hx=>?_⟩;simp only[aS]at hx⊢;have:=hr x;unfold Nd.no at*
    grind
  ·refine{k2:=?_,no:=?_,vo:=?_,fl:=?_,dr:=?_,rng:=?_,root:=?_,ent:=?_,one:=?_,kS:=?_,upd:=?_,hl:=?_,cnt:=?_,CV:=?_}
   ·have:=h.k2;simp only[aS];grind
   ·have:=h.no;simp only[aS];grind
   ·have:=h.vo;simp only[aS,aY];grind
   ·have:=h.fl;simp only[aS];grind
   ·have:=h.dr;simp only[aS];grind
   ·have:=h.rng;simp only[aS];grind
   ·simp only[aS];grind
   ·have:=h.ent;simp only[aS,aY];grind
   ·have:=h.one;simp only[aS,aY];grind
   ·have:=h.kS;simp only[aS,aY];grind
   ·have:=h.upd;simp only[aS,aY];grind
   ·have:=h.hl;simp only[aS];grind
   ·intro x hx
    simp only[aS]at hx⊢
    by_cases e:x=ino
    ·subst e
     simp only[if_true]at hx⊢;exact hc.of rfl
    ·simp only[e,if_false]at hx⊢
     exact(h.cnt x hx).same (by rw[h2];exact Ne.symm e) (λq=>by subst q;omega)
   ·obtain⟨rk,hr⟩:=h.CV
    refine⟨rk,λx hx=>?_⟩;simp only[aS]at hx⊢;have:=hr x
    grind
theorem JA {room:Nat} {S:T} (h:Inv room S) {dir ino bV kind:Nat} {name name2:Nm} (h1:(S.n dir).kind=2) (h2:S.l dir name=ino) (h3:ino≠0) (h4:(S.n bV).kind=2) (h5:S.l bV name2=0) (h6:(S.n ino).kind=kind) (h7:kind=2->¬yL S ino bV):
 Inv room ⟨aS S.n ino (if kind=2 then{S.n ino with up:=bV}else S.n ino),aY (aY S.l dir name 0) bV name2 ino⟩:=by
 have hroot:=h.root;have hz:=h.zero;have he:=h.ent dir name (by omega);rw[h2]at he;have hne:¬(bV=dir/\name2=name):=λq=>by rw[q.1,q.2]at h5;omega
 by_cases hd:kind=2
 ·have hk2:(S.n ino).kind=2:=by omega
  have hdi:bV≠ino:=λe=>h7 hd (e▸yL.here);have hd0:bV≠0:=λe=>by rw[e]at h4;omega
  have hone:∀d s,S.l d s=ino->d=dir/\s=name:=λd s e=>by
   have a:=h.one d s (by rw[e];exact hk2);have b:=h.one dir name (by rw[h2];exact hk2);rw[e]at a;rw[h2]at b;have c:d=dir:=by omega
   subst c;exact⟨rfl,h.kS d s name (by rw[e];exact hk2) (by rw[e,h2])⟩
  rw[if_pos hd];refine{k2:=?_,no:=?_,vo:=?_,fl:=?_,dr:=?_,rng:=?_,root:=?_,ent:=?_,one:=?_,kS:=?_,upd:=?_,hl:=?_,cnt:=?_,CV:=?_}
  ·have:=h.k2;simp only[aS];grind
  ·have:=h.no;simp only[aS];grind
  ·have:=h.vo;simp only[aS,aY];grind
  ·have:=h.fl;simp only[aS];grind
  ·have:=h.dr;simp only[aS];grind
  ·have:=h.rng;simp only[aS];grind
  ·simp only[aS];grind
  ·have:=h.ent;simp only[aS,aY];grind
  ·have:=h.one;simp only[aS,aY];grind
  ·have:=h.kS;simp only[aS,aY];grind
  ·intro x hx hx1
   simp only[aS]at hx⊢
   by_cases e:x=ino
   ·subst e
    simp only[if_true]at hx⊢;exact⟨hd0,name2,by simp[aY]⟩
   ·simp only[e,if_false]at hx⊢
    obtain⟨a,s,b⟩:=h.upd x hx hx1;refine⟨a,s,?_⟩;simp only[aY];rw[if_neg (λq=>by rw[q.1,q.2,h5]at b;subst b;omega),if_neg (λq=>by rw[q.1,q.2,h2]at b;exact e b.symm)];exact b
  ·have:=h.hl;simp only[aS];grind
  ·intro x hx
   simp only[aS]at hx⊢
   by_cases e:x=ino
   ·subst e
    simp only[if_true]at hx⊢;omega
   ·simp only[e,if_false]at hx⊢
    have c1:=(h.cnt x hx).same (N:=S.n) (d:=dir) (s:=name) (y:=0) (by rw[h2];exact Ne.symm e) (λq=>by subst q;omega);refine c1.same (y:=ino) (d:=bV) (s:=name2) ?_ (Ne.symm e);simp only[aY];rw[if_neg hne,h5];exact λq=>by subst q;omega
  ·obtain⟨rk,hr⟩:=h.CV
   classical
   refine⟨λx=>if yL S ino x then rk x+rk bV+1 else rk x,λx hx=>?_⟩;simp only[aS]at hx⊢
   by_cases e:x=ino
   ·subst e
    simp only[if_true]at hx⊢;rw[if_neg (h7 hd),if_pos yL.here];omega
   ·simp only[e,if_false]at hx⊢
    have hx2:=hr x hx
    by_cases hb:yL S ino x
    ·have hb2:yL S ino (S.n x).up:=by
      cases hb with
      |here=>exact absurd rfl e
      |up _ _ q=>exact q
     rw[if_pos hb,if_pos hb2];omega
    ·have hb2:¬yL S ino (S.n x).up:=λq=>hb (.up x hx q)
     rw[if_neg hb,if_neg hb2];exact hx2
 ·rw[if_neg hd]
  have hk1:(S.n ino).kind=1:=by have:=h.k2 ino;omega
  have hs:aS S.n ino (S.n ino)=S.n:=by funext x;simp only[aS];by_cases e:x=ino<;>simp[e]
  rw[hs];refine{k2:=h.k2,no:=h.no,vo:=?_,fl:=h.fl,dr:=h.dr,rng:=h.rng,root:=h.root,ent:=?_,one:=?_,kS:=?_,upd:=?_,hl:=h.hl,cnt:=?_,CV:=h.CV}
  ·have:=h.vo;simp only[aY];grind
  ·have:=h.ent;simp only[aY];grind
  ·have:=h.one;simp only[aY];grind
  ·have:=h.kS;simp only[aY];grind
  ·intro x hx hx1
   simp only at hx⊢;obtain⟨a,s,b⟩:=h.upd x hx hx1;refine⟨a,s,?_⟩;simp only[aY];rw[if_neg (λq=>by rw[q.1,q.2,h5]at b;subst b;omega),if_neg (λq=>by rw[q.1,q.2,h2]at b;subst b;omega)];exact b
  ·intro x hx
   simp only at hx⊢
   by_cases e:x=ino
   ·subst e
    have c0:=h.cnt x hx;have c1:=c0.del (N:=S.n) (y:=0) h2 (Ne.symm h3);have c2:=c1.add (d:=bV) (s:=name2) (N:=S.n) (by simp only[aY];rw[if_neg hne,h5];exact Ne.symm h3);have:=c0.pos h2;rw[show(S.n x).links-1+1=(S.n x).links by omega]at c2;exact c2
   ·have c1:=(h.cnt x hx).same (N:=S.n) (d:=dir) (s:=name) (y:=0) (by rw[h2];exact Ne.symm e) (λq=>by subst q;omega)
    refine c1.same (y:=ino) (d:=bV) (s:=name2) ?_ (Ne.symm e);simp only[aY];rw[if_neg hne,h5];exact λq=>by subst q;omega
theorem yL.mono {A B:T} {top d:Nat} (h:yL A top d) (he:∀x,(A.n x).up≠0->(B.n x).up=(A.n x).up\/x=top):yL B top d:=by
 induction h with
 |here=>exact .here
 |up d h1 _ ih=>
  rcases he d h1 with h2|h2
  ·exact .up d (by rw[h2];exact h1) (by rw[h2];exact ih)
  ·subst h2;exact .here
theorem Aw {r:Rc} {S:T} (h:r.op=1):next r S=⟨aS S.n r.ino ⟨r.kind,1,if r.kind=1 then 1 else 0,if r.kind=2 then r.dir else 0,[]⟩,aY S.l r.dir r.name r.ino⟩:=by
 unfold next;simp only[h,Nat.reduceEqDiff,if_true,if_false]
theorem WI {room:Nat} {r:Rc} {S:T} (h:r.op=1):Ok room r S=((S.n r.dir).kind=2/\S.l r.dir r.name=0/\(S.n r.ino).kind=0/\1<=r.ino/\r.ino<=room):=by
 unfold Ok;simp only[h,Nat.reduceEqDiff,if_true,if_false]
theorem Gn {r:Rc} {S:T} (h:r.op=2):next r S=⟨aS S.n r.ino {S.n r.ino with links:=(S.n r.ino).links+1},aY S.l r.dir r.name r.ino⟩:=by
 unfold next;simp only[h,Nat.reduceEqDiff,if_true,if_false]
theorem oR {room:Nat} {r:Rc} {S:T} (h:r.op=2):Ok room r S=((S.n r.dir).kind=2/\S.l r.dir r.name=0/\(S.n r.ino).kind=1/\(S.n r.ino).links<200):=by
 unfold Ok;simp only[h,Nat.reduceEqDiff,if_true,if_false]
theorem Ay {r:Rc} {S:T} (h:r.op=3):next r S=⟨aS S.n r.ino (lose (S.n r.ino)),aY S.l r.dir r.name 0⟩:=by
 unfold next;simp only[h,Nat.reduceEqDiff,if_true,if_false]
theorem JB {room:Nat} {r:Rc} {S:T} (h:r.op=3):Ok room r S=((S.n r.dir).kind=2/\S.l r.dir r.name=r.ino/\r.ino≠0/\(S.n r.ino).kind=r.kind/\∀s,S.l r.ino s=0):=by
 unfold Ok;simp only[h,Nat.reduceEqDiff,if_true,if_false]
theorem Gp {r:Rc} {S:T} (h:r.op=4):next r S=if r.old=r.ino then S else⟨aS (if r.old=0 then S.n else aS S.n r.old (lose (S.n r.old))) r.ino (if r.kind=2 then{S.n r.ino with up:=r.bV}else S.n r.ino),aY (aY S.l r.dir r.name 0) r.bV r.name2 r.ino⟩:=by
 unfold next;simp only[h,Nat.reduceEqDiff,if_true,if_false]
theorem JC {room:Nat} {r:Rc} {S:T} (h:r.op=4):Ok room r S=((S.n r.dir).kind=2/\S.l r.dir r.name=r.ino/\r.ino≠0/\(S.n r.ino).kind=r.kind/\(S.n r.bV).kind=2/\S.l r.bV r.name2=r.old/\(r.kind=2->¬yL S r.ino r.bV)/\(r.old≠0->r.old≠r.ino->(S.n r.old).kind=r.kind/\∀s,S.l r.old s=0)):=by
 unfold Ok;simp only[h,Nat.reduceEqDiff,if_true,if_false]
theorem Gq {r:Rc} {S:T} (h:r.op=5):next r S=⟨aS S.n r.ino {S.n r.ino with data:=jq (S.n r.ino).data r.size},S.l⟩:=by
 unfold next;simp only[h,Nat.reduceEqDiff,if_true,if_false]
theorem oS {room:Nat} {r:Rc} {S:T} (h:r.op=5):Ok room r S=((S.n r.ino).kind=1):=by
 unfold Ok;simp only[h,Nat.reduceEqDiff,if_true,if_false]
theorem Gs {r:Rc} {S:T} (h:r.op=6):next r S=⟨aS S.n r.ino {S.n r.ino with data:=jq (wr (S.n r.ino).data r.page r.data) r.size},S.l⟩:=by
 unfold next;simp only[h,Nat.reduceEqDiff,if_true,if_false]
theorem oT {room:Nat} {r:Rc} {S:T} (h:r.op=6):Ok room r S=((S.n r.ino).kind=1):=by
 unfold Ok;simp only[h,Nat.reduceEqDiff,if_true,if_false]
theorem Gt {r:Rc} {S:T} (h:r.op=7):next r S=⟨aS S.n r.ino (zA {S.n r.ino with held:=(S.n r.ino).held-1}),S.l⟩:=by
 unfold next;simp only[h,Nat.reduceEqDiff,if_true,if_false]
theorem Nw {room:Nat} {r:Rc} {S:T} (h:r.op=7):Ok room r S=((S.n r.ino).kind=1/\(S.n r.ino).links=0/\(S.n r.ino).held≠0):=by
 unfold Ok;simp only[h,Nat.reduceEqDiff,if_true,if_false]
theorem JD {room:Nat} {S:T} {r:Rc} (h:Inv room S) (hm:May r) (ho:Ok room r S):Inv room (next r S):=by
 obtain⟨m1,m7,mi,mk⟩:=hm
 rcases(by omega:r.op=1\/r.op=2\/r.op=3\/r.op=4\/r.op=5\/r.op=6\/r.op=7)with p|p|p|p|p|p|p
 ·rw[WI p]at ho
  rw[Aw p];exact WE h (mk (.inl p)) ho.1 ho.2.1 ho.2.2.1 ho.2.2.2.1 ho.2.2.2.2
 ·rw[oR p]at ho
  rw[Gn p];exact WG h ho.1 ho.2.1 ho.2.2.1 mi
 ·rw[JB p]at ho
  rw[Ay p];obtain⟨a,b,c,d,e⟩:=ho;exact Av h a b c e
 ·rw[JC p]at ho
  rw[Gp p];obtain⟨a,b,c,d,e,f,g,k⟩:=ho
  by_cases q:r.old=r.ino
  ·rw[if_pos q];exact h
  ·rw[if_neg q]
   by_cases z:r.old=0
   ·rw[if_pos z]
    exact JA h a b c e (by rw[f,z]) d g
   ·rw[if_neg z]
    obtain⟨k1,k2⟩:=k z q;have h1:=Av h e f z k2;have hne:¬(r.bV=r.dir/\r.name2=r.name):=λp=>by rw[p.1,p.2]at f;omega
    have hne2:¬(r.dir=r.bV/\r.name=r.name2):=λp=>hne ⟨p.1.symm,p.2.symm⟩;have d1:r.dir≠r.old:=λp=>by rw[p,k2]at b;omega
    have d2:r.bV≠r.old:=λp=>by rw[p,k2]at f;omega
    have i1:r.ino≠r.old:=Ne.symm q
    have hb:r.kind=2->¬yL ⟨aS S.n r.old (lose (S.n r.old)),aY S.l r.bV r.name2 0⟩ r.ino r.bV:=λp u=>g p (u.mono λx hx=>by
      simp only[aS]at hx⊢
      by_cases ex:x=r.old
      ·subst ex
       simp only[if_true]at hx⊢;unfold lose at hx;rw[if_pos (by omega)]at hx;exact absurd rfl hx
      ·simp only[ex,if_false];exact .inl trivial)
    have h2:=JA h1 (dir:=r.dir) (ino:=r.ino) (bV:=r.bV) (kind:=r.kind) (name:=r.name) (name2:=r.name2) (by simp only[aS,d1,if_false];exact a) (by simp only[aY];rw[if_neg hne2];exact b) c (by simp only[aS,d2,if_false];exact e) (by simp[aY]) (by simp only[aS,i1,if_false];exact d) hb;have e1:aS S.n r.old (lose (S.n r.old)) r.ino=S.n r.ino:=by simp only[aS,i1,if_false]
    have e2:aY (aY (aY S.l r.bV r.name2 0) r.dir r.name 0) r.bV r.name2 r.ino=aY (aY S.l r.dir r.name 0) r.bV r.name2 r.ino:=by
      funext x s
      simp only[aY]
      grind
    simp only at h2;rw[e1,e2]at h2;exact h2
 ·rw[oS p]at ho
  rw[Gq p];exact Jz h ho _
 ·rw[oT p]at ho
  rw[Gs p];exact Jz h ho _
 ·rw[Nw p]at ho
  rw[Gt p];exact WH h ho.1 _
def qN (room:Nat):List Rc->T->Prop
 |[],_=>True
 |r::l,S=>May r/\Ok room r S/\qN room l (next r S)
def run:List Rc->T->T
 |[],S=>S
 |r::l,S=>run l (next r S)
theorem Ny (l m:List Rc) (S:T):run (l++m) S=run m (run l S):=by
 induction l generalizing S with
 |nil=>rfl
 |cons r l ih=>exact ih _
theorem Gu {room:Nat} {l m:List Rc} {S:T}:qN room (l++m) S↔qN room l S/\qN room m (run l S):=by
 induction l generalizing S with
 |nil=>simp[qN,run]
 |cons r l ih=>simp only[List.cons_append,qN,run,ih,and_assoc]
theorem oX {room:Nat} {l:List Rc} {S:T} (hi:Inv room S) (h:qN room l S):Inv room (run l S):=by
 induction l generalizing S with
 |nil=>exact hi
 |cons r l ih=>exact ih (JD hi h.1 h.2.1) h.2.2
def aT (s:Nm) (k:Nat):Nm:=(List.range 64).map λi=>s.getD (k*64+i) 0
def zero64:Nm:=List.replicate 64 0
theorem fQ (s:Nm) (k:Nat):(aT s k).length=64:=by simp[aT]
theorem ql (s:Nm) (k i:Nat) (h:i<64):(aT s k).getD i 0=s.getD (k*64+i) 0:=by
 simp[aT,List.getD,h]
theorem Tp {s t:Nm} {k:Nat} (h:∀i<64,s.getD (k*64+i) 0=t.getD (k*64+i) 0):aT s k=aT t k:=
 List.map_congr_left λi hi=>h i (by simpa using hi)
theorem WJ {s t:Nm} (hl:s.length=t.length) (h:∀i<s.length,s.getD i 0=t.getD i 0):s=t:=by
 refine List.ext_getElem hl λi h1 h2=>?_;have:=h i h1
 simpa[List.getD,h1,h2]using this
theorem nR (s:Nm) (k:Nat):(jq s k).length=k:=by unfold jq;simp;omega
theorem Ea (s:Nm) (k i:Nat):(jq s k).getD i 0=if i<k then s.getD i 0 else 0:=by
 unfold jq;simp only[List.getD]
 by_cases h:i<min k s.length
 ·rw[List.getElem?_append_left (by simp;omega),List.getElem?_take,if_pos (by omega),if_pos (by omega)]
 ·rw[List.getElem?_append_right (by simp;omega),List.getElem?_replicate]
  by_cases hk:i<k
  ·rw[if_pos hk,List.getElem?_eq_none (l:=s) (by omega)]
   split<;>rfl
  ·rw[if_neg hk]
   split<;>rfl
theorem getD_none {s:Nm} {i:Nat} (h:s.length<=i):s.getD i 0=0:=by simp[List.getD,List.getElem?_eq_none h]
theorem Tq (s:Nm) (p:Nat) (d:Nm):(wr s p d).length=max s.length (p*64+d.length):=by
 unfold wr
 simp[nR]
 omega
theorem rC (a b:Nm) (i:Nat):(a++b).getD i 0=if i<a.length then a.getD i 0 else b.getD (i-a.length) 0:=by
 simp only[List.getD]
 by_cases h:i<a.length
 ·rw[List.getElem?_append_left h,if_pos h]
 ·rw[List.getElem?_append_right (by omega),if_neg h]
theorem getD_take (a:Nm) (k i:Nat):(a.take k).getD i 0=if i<k then a.getD i 0 else 0:=by
 simp only[List.getD,List.getElem?_take]
 split<;>rfl
theorem getD_drop (a:Nm) (k i:Nat):(a.drop k).getD i 0=a.getD (k+i) 0:=by simp[List.getD,List.getElem?_drop]
theorem Qx (s:Nm) (p:Nat) (d:Nm) (i:Nat):(wr s p d).getD i 0=if p*64<=i/\i<p*64+d.length then d.getD (i-p*64) 0 else s.getD i 0:=by
 unfold wr;simp only[rC,getD_take,getD_drop,Ea,List.length_append,List.length_take,nR]
 generalize hc:(if p*64<=i/\i<p*64+d.length then d.getD (i-p*64) 0 else s.getD i 0)=c
 have e:min (p*64) (max s.length (p*64+d.length))=p*64:=by omega
 rw[e]
 by_cases h1:i<p*64
 ·have a1:i<p*64+d.length:=by omega
  have a2:i<max s.length (p*64+d.length):=by omega
  have a3:¬(p*64<=i/\i<p*64+d.length):=by omega
  rw[if_neg a3]at hc;rw[if_pos a1,if_pos h1,if_pos h1,if_pos a2];exact hc
 ·by_cases h2:i<p*64+d.length
  ·have a3:p*64<=i/\i<p*64+d.length:=by omega
   rw[if_pos a3]at hc;rw[if_pos h2,if_neg h1];exact hc
  ·have a3:¬(p*64<=i/\i<p*64+d.length):=by omega
   have a4:p*64+d.length+(i-(p*64+d.length))=i:=by omega
   rw[if_neg a3]at hc;rw[if_neg h2,a4]
   split
   ·exact hc
   ·rw[<-hc];exact(getD_none (s:=s) (by omega)).symm
theorem WK (s:Nm) (p k:Nat) (d:Nm) (hd:d.length<=64):aT (wr s p d) k=if k=p then d++(aT s p).drop d.length else aT s k:=by
 by_cases h:k=p
 ·subst h
  rw[if_pos rfl];refine WJ (by simp[fQ];omega) λi hi=>?_;rw[fQ]at hi;rw[ql _ _ _ hi,Qx,rC,getD_drop]
  by_cases h2:i<d.length
  ·rw[if_pos (by omega),if_pos h2,show k*64+i-k*64=i by omega]
  ·rw[if_neg (by omega),if_neg h2,show d.length+(i-d.length)=i by omega,ql _ _ _ hi]
 ·rw[if_neg h]
  exact Tp λi hi=>by rw[Qx,if_neg (by omega)]
theorem qm (s:Nm) (n k:Nat):aT (jq s n) k=(aT s k).take (n-k*64)++List.replicate (64-(n-k*64)) 0:=by
 refine WJ (by simp[fQ];omega) λi hi=>?_;rw[fQ]at hi;rw[ql _ _ _ hi,Ea,rC,getD_take];simp only[List.length_take,fQ]
 by_cases h:i<n-k*64
 ·rw[if_pos (by omega),if_pos (by omega),if_pos h,ql _ _ _ hi]
 ·rw[if_neg (by omega)]
  by_cases h2:i<min (n-k*64) 64
  ·omega
  ·rw[if_neg h2]
   simp[List.getD,List.getElem?_replicate]
   split<;>rfl
end Tr
section
open Go.RowKit Go.Shelf Go.Maps
open Go.WideElems (rg)
open Go.ChangeMaps (heap_setBlock_same heap_setBlock_other)
theorem WL {α:Type}:∀(a b:List α),a.Nodup->(∀x∈a,x∈b)->a.length<=b.length
 |[],_,_,_=>aB _
 |x::a,b,hn,hs=>by
  obtain⟨h1,h2⟩:=List.nodup_cons.1 hn;obtain⟨b1,b2,rfl⟩:=List.append_of_mem (hs x (by simp))
  have:=WL a (b1++b2) h2 λy hy=>by
   have h3:=hs y (by simp[hy]);simp only[List.mem_append,List.mem_cons]at h3⊢
   rcases h3 with h3|rfl|h3
   ·exact .inl h3
   ·exact absurd hy h1
   ·exact .inr h3
  simp only[List.length_append,List.length_cons]at this⊢;omega
def oW:Value->Option (DataW Value×List MemPlace):=λv=>some (.held v,[])
def cZ (W:World) (kt:TypeId) (b nn:Nat) (f:Lit->Option Value):Prop:=
 ∃D:DataW Value,W.ownsMap prog kt oW b nn D/\∀kl,WideAt.IsKeyLit kl->has D kl=(f kl).isSome/\∀z,D.atKey kl (.held z)=.held ((f kl).getD z)
section
variable {W W':World} {kt:TypeId} {b nn:Nat} {f:Lit->Option Value}
theorem cZ.lt (h:cZ W kt b nn f):b<W.heap.size:=by obtain⟨D,h1,_⟩:=h;exact h1.lt
theorem cZ.block (h:cZ W kt b nn f) (hb:W'.heap[b]? =W.heap[b]?):cZ W' kt b nn f:=by
 obtain⟨D,⟨es,clock,h1,r⟩,h2⟩:=h;exact⟨D,⟨es,clock,hb.trans h1,r⟩,h2⟩
theorem cZ.below {n:Nat} (h:cZ W kt b nn f) (hn:b<n) (hb:Below n W W'):cZ W' kt b nn f:=h.block (hb.block b hn)
theorem cZ.later (h:cZ W kt b nn f) (hb:Below W.heap.size W W'):cZ W' kt b nn f:=h.below h.lt hb
theorem cZ.alloc (h:cZ W kt b nn f) (o:Obj):cZ (W.alloc o) kt b nn f:=h.later ((aj _ _).alloc (ah _) o)
theorem cZ.drew (h:cZ W kt b nn f):cZ W.drew kt b nn f:=h
theorem cZ.other (h:cZ W kt b nn f) {c i:Nat} (v:Value) (hc:b≠c):cZ (W.setCell ⟨c,i,none⟩ v) kt b nn f:=h.block (heap_setCell_other W ⟨c,i,none⟩ b v hc)
theorem cZ.isMap (h:cZ W kt b nn f):∃es clock,W.heap[b]? =some (.map es clock):=by
 obtain⟨D,⟨es,clock,h1,_⟩,_⟩:=h;exact⟨es,clock,h1⟩
theorem cZ.ne (h:cZ W kt b nn f) {c:Nat} {t:TypeId} {cs:Array Value} {fr:Nat×Nat} (hc:W.heap[c]? =some (aH cs t fr)):c≠b:=λe=>by
 obtain⟨es,clock,h1⟩:=h.isMap;subst e;rw[hc]at h1;cases h1
theorem cZ.new (W:World) (kt:TypeId):cZ (W.alloc (.map #[] 0)) kt W.heap.size 0 (λ_=>none):=⟨.map [],World.ownsMap_made _ _ _ _,λx _=>⟨rfl,λz=>rfl⟩⟩
theorem cZ.mono (h:cZ W kt b nn f) {n':Nat} (hn:nn<=n'):cZ W kt b n' f:=by
 obtain⟨D,h1,h2⟩:=h;exact⟨D,h1.mono hn,h2⟩
theorem JE {v z:Value} {ps:List MemPlace} (h:oW v=some (.held z,ps)):v=z:=by
 unfold oW at h;simp only[Option.some.injEq,Prod.mk.injEq,DataW.held.injEq]at h;exact h.1
theorem cZ.look (h:cZ W kt b nn f) (K:Keyed prog kt) {t e:TypeId} (ht:prog.underlying t=some (.map kt e)) {z:Value} (hz:(zeroValue e).run prog W=.ok z W) {key:Value} {kl:Lit} (hk:keyOf prog kt key=some kl):
 (Instr.lookup t (.map (some b)) key false).run prog W=.ok ((f kl).getD z) W:=by
 obtain⟨D,h1,h2⟩:=h;obtain⟨v,ps,hrun,hv⟩:=h1.lookup K ht hz (zd:=.held z) (zp:=[]) rfl hk;rw[(h2 kl (K.key hk)).2]at hv;rw[hrun,JE hv]
theorem cZ.look_ok (h:cZ W kt b nn f) (K:Keyed prog kt) {t e:TypeId} (ht:prog.underlying t=some (.map kt e)) {z:Value} (hz:(zeroValue e).run prog W=.ok z W) {key:Value} {kl:Lit} (hk:keyOf prog kt key=some kl):
 (Instr.lookup t (.map (some b)) key true).run prog W=.ok (τ #[(f kl).getD z,.bool (f kl).isSome]) W:=by
 obtain⟨D,h1,h2⟩:=h;obtain⟨v,ps,hrun,hv⟩:=h1.look_ok K ht hz (zd:=.held z) (zp:=[]) rfl hk;rw[(h2 kl (K.key hk)).1]at hrun;rw[(h2 kl (K.key hk)).2]at hv;rw[hrun,JE hv]
open Classical in
noncomputable def lU (f:Lit->Option Value) (k:Lit) (v:Value):Lit->Option Value:=λy=>if y=k then some v else f y
open Classical in
noncomputable def Tt (f:Lit->Option Value) (k:Lit):Lit->Option Value:=λy=>if y=k then none else f y
theorem cZ.put (h:cZ W kt b nn f) (K:Keyed prog kt) {t e:TypeId} (ht:prog.underlying t=some (.map kt e)) (hn:nn<maxLen) {key:Value} {kl:Lit} (hk:keyOf prog kt key=some kl) (val:Value):
 ∃W',(Instr.mapUpdate t (.map (some b)) key val).run prog W=.ok () W'/\cZ W' kt b (nn+1) (lU f kl val)/\W.mapTurned W' b:=by
 obtain⟨D,h1,h2⟩:=h;obtain⟨W',hrun,r1,r2⟩:=h1.store K ht hn hk (val:=val) (d:=.held val) (ps:=[]) rfl;refine⟨W',hrun,⟨_,r1,λy hy'=>?_⟩,r2⟩;unfold lU
 by_cases hy:y=kl
 ·subst hy
  rw[if_pos rfl];exact⟨Maps.has_put_same h1.isMap hy' _,λz=>Maps.atKey_put_same h1.isMap hy' _ _⟩
 ·rw[if_neg hy,Maps.has_put_other hy]
  exact⟨(h2 y hy').1,λz=>by rw[Maps.atKey_put_other hy];exact(h2 y hy').2 z⟩
theorem cZ.del (h:cZ W kt b nn f) (K:Keyed prog kt) {t e:TypeId} (ht:prog.underlying t=some (.map kt e)) {key:Value} {kl:Lit} (hk:keyOf prog kt key=some kl) (ty:TypeId):
 ∃W',(Builtin.delete_ #[t,kt] ty #[.map (some b),key]).run prog W=.ok (τ #[]) W'/\cZ W' kt b nn (Tt f kl)/\W.mapTurned W' b:=by
 obtain⟨D,h1,h2⟩:=h;obtain⟨W',hrun,r1,r2⟩:=h1.drop K ht hk ty;refine⟨W',hrun,⟨_,r1,λy hy'=>?_⟩,r2⟩;unfold Tt
 by_cases hy:y=kl
 ·subst hy
  rw[if_pos rfl,Maps.has_del_same];exact⟨rfl,λz=>Maps.atKey_del_same _⟩
 ·rw[if_neg hy,Maps.has_del_other hy]
  exact⟨(h2 y hy').1,λz=>by rw[Maps.atKey_del_other hy];exact(h2 y hy').2 z⟩
theorem cZ.len (h:cZ W kt b nn f) (K:Keyed prog kt) {t e:TypeId} (ht:prog.underlying t=some (.map kt e)) (ty:TypeId):
 ∃ks:List Lit,ks.Nodup/\(∀k∈ks,(f k).isSome/\KeysOf prog kt k)/\(∀k,KeysOf prog kt k->(f k).isSome->k∈ks)/\ks.length<=nn/\(Builtin.len_ #[t] ty #[.map (some b)]).run prog W=.ok (.int J ks.length) W:=by
 obtain⟨D,h1,h2⟩:=h;have hl:=h1.len ht ty;have hsz:=h1.size_le;obtain⟨es,rfl,e1,e2⟩:=h1.entries K;refine⟨es.map (·.1),List.pairwise_map.2 e1,?_,?_,by rw[List.length_map];exact hsz,?_⟩
 ·intro k hk
  obtain⟨p,hp,rfl⟩:=List.mem_map.1 hk;have hh:has (.map es) p.1=true:=List.any_eq_true.2 ⟨p,hp,WideAt.sameKey_self (e2 p hp)⟩;rw[(h2 p.1 (e2 p hp)).1]at hh;refine⟨hh,?_⟩;obtain⟨es',clock,_,aL,_,hE⟩:=h1;have hE':=DataW.map.inj hE;rw[hE']at hp;obtain⟨x,hx,rfl⟩:=List.mem_map.1 (mem_sorted.1 hp);exact Maps.fit_keys aL _ (List.mem_map.2 ⟨x,hx,rfl⟩)
 ·intro k hk hs
  obtain⟨v,hv⟩:=hk;rw[<-(h2 k (K.key hv)).1]at hs;obtain⟨p,hp,hpk⟩:=List.any_eq_true.1 hs;exact List.mem_map.2 ⟨p,hp,WideAt.sameKey_eq hpk⟩
 ·rw[hl,Maps.size_eq,List.length_map]
theorem cZ.tight (h:cZ W kt b nn f) (K:Keyed prog kt) (L:List Lit) (hL:∀k,KeysOf prog kt k->(f k).isSome->k∈L):cZ W kt b L.length f:=by
 obtain⟨D,h1,h2⟩:=h;have hent:=h1.entries K;have ho:=h1;obtain⟨es,clock,hb,aL,hs,hD⟩:=ho;obtain⟨es',he,e1,e2⟩:=hent;refine⟨D,⟨es,clock,hb,aL,?_,hD⟩,h2⟩
 have hsz:es.size=es'.length:=by
  rw[hD]at he;have:=DataW.map.inj he;rw[<-this,length_sorted];simp
 rw[hsz,show es'.length=(es'.map (·.1)).length by simp];refine WL _ _ (List.pairwise_map.2 e1) ?_;intro k hk;obtain⟨p,hp,rfl⟩:=List.mem_map.1 hk;have hh:has D p.1=true:=by rw[he];exact List.any_eq_true.2 ⟨p,hp,WideAt.sameKey_self (e2 p hp)⟩
 rw[(h2 p.1 (e2 p hp)).1]at hh;refine hL _ ?_ hh;rw[hD]at he;rw[<-DataW.map.inj he]at hp;obtain⟨x,hx,rfl⟩:=List.mem_map.1 (mem_sorted.1 hp);exact Maps.fit_keys aL _ (List.mem_map.2 ⟨x,hx,rfl⟩)
def gX (W:World) (kt:TypeId) (b r nn:Nat) (f:Lit->Option Value) (left:Lit->Bool) (cnt:Nat):Prop:=
 ∃D:DataW Value,W.ranges prog kt oW b r nn D left cnt/\∀kl,WideAt.IsKeyLit kl->has D kl=(f kl).isSome/\∀z,D.atKey kl (.held z)=.held ((f kl).getD z)
variable {r cnt:Nat} {left:Lit->Bool}
theorem gX.On (h:gX W kt b r nn f left cnt):cZ W kt b nn f:=by
 obtain⟨D,h1,h2⟩:=h;exact⟨D,h1.owns,h2⟩
theorem gX.lt (h:gX W kt b r nn f left cnt):r<W.heap.size:=by obtain⟨D,h1,_⟩:=h;exact h1.lt
theorem gX.left_eq (h:gX W kt b r nn f left cnt):W.rangeLeft b r=cnt:=by obtain⟨D,h1,_⟩:=h;exact h1.left_eq
theorem gX.kept {row:Option Nat} (h:gX W kt b r nn f left cnt) (hg:W.grownBy W' row) (hb':some b≠row) (hr':some r≠row):gX W' kt b r nn f left cnt:=by
 obtain⟨D,h1,h2⟩:=h;exact⟨D,h1.kept hg hb' hr',h2⟩
theorem cZ.range (h:cZ W kt b nn f) (K:Keyed prog kt) {t e:TypeId} (ht:prog.underlying t=some (.map kt e)):
 ∃W' cnt left,(Instr.range t (.map (some b))).run prog W=.ok (G (some ⟨W.heap.size,0,none⟩)) W'/\gX W' kt b W.heap.size nn f left cnt/\(∀k,KeysOf prog kt k->left k=(f k).isSome)/\W.grownBy W' none/\W'.heap.size=W.heap.size+1:=by
 obtain⟨D,h1,h2⟩:=h;obtain⟨W',hr,r1,r2,r3⟩:=h1.range K ht;exact⟨W',_,_,hr,⟨D,r1,h2⟩,λk ⟨v,hv⟩=>(h2 k (K.key hv)).1,r2,r3⟩
theorem gX.next (h:gX W kt b r nn f left cnt) (K:Keyed prog kt) (ty:TypeId):
 (cnt=0/\(∀kl,left kl=false)/\(Instr.next (G (some ⟨r,0,none⟩)) false ty).run prog W=.ok (τ #[.bool false]) W)\/
 ∃key v kl W' cnt',keyOf prog kt key=some kl/\left kl=true/\f kl=some v/\(Instr.next (G (some ⟨r,0,none⟩)) false ty).run prog W=.ok (τ #[.bool true,key,v]) W'/\
  gX W' kt b r nn f (λx=>left x&&!x.sameKey kl) cnt'/\cnt'<cnt/\W.grownBy W' (some r)/\W'.heap.size=W.heap.size/\(Instr.entry (G (some ⟨r,0,none⟩))).run prog W'=.ok (τ #[key,v]) W':=by
 obtain⟨D,h1,h2⟩:=h
 rcases h1.next K ty with h|⟨key,v,kl,y,W',cnt',e1,e2,e3,e4,e5,e6,e7,e8,e9,e10⟩
 ·exact .inl h
 ·refine .inr ⟨key,v,kl,W',cnt',e1,e2,?_,e5,⟨D,e6,h2⟩,e7,e8,e9,e10⟩
  have hk:=K.key e1;unfold oW at e3;obtain rfl:=(Option.some.inj e3).symm;have hh:has D kl=true:=Maps.has_true_of_atKey (λz=>e4 z);have h3:=h2 kl hk;rw[h3.1]at hh;obtain⟨u,hu⟩:=Option.isSome_iff_exists.1 hh;have h4:=h3.2 v;rw[e4,hu]at h4;rw[hu,DataW.held.inj h4];rfl
theorem gX.drop (h:gX W kt b r nn f left cnt) (K:Keyed prog kt) {t e:TypeId} (ht:prog.underlying t=some (.map kt e)) {key:Value} {kl:Lit} (hk:keyOf prog kt key=some kl) (ty:TypeId):
 ∃W' cnt',(Builtin.delete_ #[t,kt] ty #[.map (some b),key]).run prog W=.ok (τ #[]) W'/\gX W' kt b r nn (Tt f kl) (λx=>left x&&!x.sameKey kl) cnt'/\cnt'<=cnt/\W.mapTurned W' b:=by
 obtain⟨D,h1,h2⟩:=h;obtain⟨W',cnt',hrun,r1,r2,r3⟩:=h1.drop K ht hk ty;refine⟨W',cnt',hrun,⟨_,r1,λy hy'=>?_⟩,r2,r3⟩;unfold Tt
 by_cases hy:y=kl
 ·subst hy
  rw[if_pos rfl,Maps.has_del_same];exact⟨rfl,λz=>Maps.atKey_del_same _⟩
 ·rw[if_neg hy,Maps.has_del_other hy]
  exact⟨(h2 y hy').1,λz=>by rw[Maps.atKey_del_other hy];exact(h2 y hy').2 z⟩
theorem Az {α:Type} (p:α->Bool):∀(l:List α) (j:Nat) (x y:α),l[j]? =some x->p y=p x->((l.set j y).filter p).length=(l.filter p).length
 |[],j,x,y,h,_=>by simp at h
 |a::l,0,x,y,h,hp=>by
  simp only[av,Option.some.injEq]at h;subst h;simp only[List.set_cons_zero,List.filter_cons,hp]
  split<;>simp
 |a::l,j+1,x,y,h,hp=>by
  have:=Az p l j x y (by simpa using h) hp;simp only[List.set_cons_succ,List.filter_cons]
  split<;>simp[this]
theorem gX.again (h:gX W kt b r nn f left cnt) (K:Keyed prog kt) {t e:TypeId} (ht:prog.underlying t=some (.map kt e)) {key:Value} {kl:Lit} (hk:keyOf prog kt key=some kl) (hf:(f kl).isSome=true) (val:Value):
 ∃W',(Instr.mapUpdate t (.map (some b)) key val).run prog W=.ok () W'/\gX W' kt b r nn (lU f kl val) left cnt/\W.mapTurned W' b:=by
 obtain⟨D,h1,h2⟩:=h;have hne:=h1.ne;obtain⟨es,clock,since,seen,c0,hb,aL,hs,rfl,hr,hold,hcnt,hl1,hl2,hsc,hsk⟩:=h1
 rcases K.find W hk es.toList aL.keys with⟨g1,g2⟩|⟨j,e0,g1,g2,g3⟩
 ·exfalso
  have hh:=(h2 kl (K.key hk)).1;rw[hf]at hh;obtain⟨p,hp,hpk⟩:=List.any_eq_true.1 hh;obtain⟨x,hx,rfl⟩:=List.mem_map.1 (mem_sorted.1 hp);obtain⟨y,hy⟩:=aL.reads x hx;rw[Go.WideElems.rg_of hy]at hpk;have e1:=Go.WideElems.rd_key hy;rw[WideAt.sameKey_eq hpk]at e1;exact g2 x hx (K.inj e1 hk)
 ·have hj:es[j]? =some e0:=by simpa using g2
  have hjl:j<es.toList.length:=(List.getElem?_eq_some_iff.1 g2).1;have hkeyf:∀e',es[j]? =some e'->({e' with key:=key,val:=val}:MapEntry).key=e'.key:=λe' he'=>by rw[hj]at he';cases he';exact g3.symm
  have hlist:(es.modify j (λe'=>{e' with key:=key,val:=val})).toList=es.toList.set j {e0 with key:=key,val:=val}:=by rw[Array.toList_modify,Go.ChangeMaps.modify_eq_set _ _ _ _ g2]
  have he0:e0∈es.toList:=List.mem_of_getElem? g2;have hy0:rg prog kt oW {e0 with key:=key,val:=val}=(kl,.held val):=Go.WideElems.rg_of (Go.WideElems.rd_mk hk (show oW val=some (DataW.held val,[])from rfl))
  have hk0:(rg prog kt oW e0).1=kl:=by
   obtain⟨y,hy⟩:=aL.reads e0 he0;rw[Go.WideElems.rg_of hy];have e1:=Go.WideElems.rd_key hy;rw[g3,hk]at e1;exact(Option.some.inj e1).symm
  have who:∀x∈es.toList.set j {e0 with key:=key,val:=val},x={e0 with key:=key,val:=val}\/x∈es.toList:=by
   intro x hx;obtain⟨i,hi,ex⟩:=List.getElem_of_mem hx;rw[List.getElem_set]at ex
   split at ex
   ·exact .inl ex.symm
   ·exact .inr (ex▸List.getElem_mem _)
  have hF:Go.WideElems.Fit prog kt oW (es.modify j (λe'=>{e' with key:=key,val:=val})) clock:=by
   refine⟨by simpa using aL.size,MapKept.stamped_modify aL.stamped _ _ (λ_ _=>rfl) (λe' _ he'=>hkeyf e' he'),?_⟩;intro x hx;rw[hlist]at hx
   rcases who x hx with rfl|hx'
   ·exact⟨_,Go.WideElems.rd_mk hk rfl⟩
   ·exact aL.reads x hx'
  have hput:((es.modify j (λe'=>{e' with key:=key,val:=val})).toList.map (rg prog kt oW)).foldr DataW.insert []=Go.ChangeMaps.putKey kl (.held val) ((es.toList.map (rg prog kt oW)).foldr DataW.insert []):=by
   refine Maps.sorted_put K.one ⟨key,hk⟩ (Maps.fit_keys aL) (Maps.fit_apart K aL) ?_;rw[Maps.filter_one K aL hk g2 g3,hlist,List.map_set,hy0];exact Go.ChangeMaps.set_perm _ _ (by simpa using hjl) _
  refine⟨Go.ChangeMaps.setBlock W b (.map (es.modify j (λe'=>{e' with key:=key,val:=val})) clock),?_,⟨_,⟨_,clock,since,seen,c0,heap_setBlock_same hb _,hF,by simpa using hs,rfl,(heap_setBlock_other hb _ hne).trans hr,?_,?_,?_,?_,hsc,hsk⟩,?_⟩,⟨es,clock,_,clock,hb,rfl⟩⟩
  ·simp[Instr.mapUpdate,run_underlying ht,MapKept.run_getObj_map hb,K.check W false hk,g1,hj,g3,K.stays W hk,MapKept.run_setObj_map _ hb,Result.andThen,Go.ChangeMaps.setBlock]
  ·intro x hx
   rw[hlist]at hx
   rcases who x hx with rfl|hx'
   ·exact hold e0 he0
   ·exact hold x hx'
  ·rw[<-hcnt]
   have e1:∀a:Array MapEntry,(leftOf a seen).size=(a.toList.filter λe=>!seen.contains e.born).length:=λa=>by
    unfold leftOf;rw[<-Array.toList_filter,Array.length_toList]
   rw[e1,e1,hlist];exact Az _ _ j e0 _ g2 rfl
  ·intro x hx
   rw[hlist]at hx
   rcases who x hx with rfl|hx'
   ·rw[hy0]
    have:=hl1 e0 he0;rw[hk0]at this;exact this
   ·exact hl1 x hx'
  ·intro k hkk
   obtain⟨x,hx,hxk⟩:=hl2 k hkk;rw[hlist]
   by_cases hxe:x=e0
   ·subst hxe
    refine⟨{x with key:=key,val:=val},List.mem_iff_getElem.2 ⟨j,by simpa using hjl,by simp⟩,?_⟩;rw[hy0,<-hxk,hk0]
   ·obtain⟨i,hi⟩:=List.getElem?_of_mem hx
    have hij:j≠i:=λe1=>hxe (by rw[e1,hi]at g2;exact Option.some.inj g2);refine⟨x,?_,hxk⟩;exact List.mem_of_getElem? (by rw[List.getElem?_set_ne hij];exact hi)
  ·intro y hy'
   have hD':(DataW.map (((es.modify j (λe'=>{e' with key:=key,val:=val})).toList.map (rg prog kt oW)).foldr DataW.insert []):DataW Value)=DataW.put (.map ((es.toList.map (rg prog kt oW)).foldr DataW.insert [])) kl (.held val):=by rw[DataW.put_eq,hput]
   rw[hD'];unfold lU
   by_cases hyk:y=kl
   ·subst hyk
    rw[if_pos rfl];exact⟨Maps.has_put_same ⟨_,rfl⟩ hy' _,λz=>Maps.atKey_put_same ⟨_,rfl⟩ hy' _ _⟩
   ·rw[if_neg hyk,Maps.has_put_other hyk]
    exact⟨(h2 y hy').1,λz=>by rw[Maps.atKey_put_other hyk];exact(h2 y hy').2 z⟩
end
def eH (a:Act):Option Tmp->Value
 |some t=>a.tmps.getD t undef
 |none=>undef
def waits (ops:Array Oper) (i j:Nat):Bool:=((ops[i]?).map λo=>o.after.any λe=>e.on==j&&Region.binds .any e).getD false
theorem count_set (L:Array Bool) (i:Nat) (h:L.getD i true=false):((L.setIfInBounds i true).toList.filter (!·)).length+1=(L.toList.filter (!·)).length:=by
 obtain⟨l⟩:=L
 have hi:i<l.length:=by
  refine Classical.byContradiction λq=>?_
  simp[Array.getD,q]at h
 have he:l[i]=false:=by simpa[Array.getD,hi]using h
 simp only[List.setIfInBounds_toArray];clear h
 induction l generalizing i with
 |nil=>simp at hi
 |cons x l ih=>
  cases i with
  |zero=>
   simp only[List.getElem_cons_zero]at he;subst he;show((true::l).filter (!·)).length+1=((false::l).filter (!·)).length
   rfl
  |succ i=>
   have h:=ih i (by simpa using hi) (by simpa using he);show((x::l.set i true).filter (!·)).length+1=((x::l).filter (!·)).length;cases x
   ·show((l.set i true).filter (!·)).length+1+1=(l.filter (!·)).length+1
    omega
   ·exact h
def upward (ops:Array Oper):Bool:=(List.range ops.size).all λi=>((ops[i]?).map λo=>o.after.all λe=>!Region.binds .any e||decide (e.on<i)).getD true
theorem yM {ops:Array Oper} (h:upward ops=true) {i:Nat} {o:Oper} (ho:ops[i]? =some o) {e:Edge} (he:e∈o.after) (hb:Region.binds .any e=true):e.on<i:=by
 have hi:i<ops.size:=(Array.getElem?_eq_some_iff.1 ho).1;have h1:=List.all_eq_true.1 h i (by simpa using hi);rw[ho]at h1;simp only[Option.map_some,Option.getD_some]at h1;have h2:=Array.all_eq_true'.1 h1 e he;rw[hb]at h2
 simpa using h2
theorem JF {ops:Array Oper} (h:upward ops=true) {i j:Nat} (hw:waits ops i j=true):j<i/\i<ops.size:=by
 unfold waits at hw;cases ho:ops[i]?with
 |none=>rw[ho]at hw;cases hw
 |some o=>
  rw[ho]at hw;simp only[Option.map_some,Option.getD_some]at hw;obtain⟨e,he,he2⟩:=Array.any_eq_true'.1 hw;simp only[Bool.and_eq_true,beq_iff_eq]at he2;have:=yM h ho he he2.2;exact⟨by omega,(Array.getElem?_eq_some_iff.1 ho).1⟩
theorem Eb {ops:Array Oper} (h:upward ops=true) (L:Array Bool) (hL:L.size=ops.size) (hr:Region.ready .any ops L=[]):∀j,j<ops.size->L.getD j false=true:=by
 intro j
 induction j using Nat.strongRecOn with
 |_ j ih=>
  intro hj;refine Classical.byContradiction λq=>?_
  have hm:j∈Region.ready .any ops L:=by
    rw[mem_ready];refine⟨?_,ops[j],by simp[hj],λe he hb=>?_⟩
    ·have hjL:j<L.size:=by omega
     simp only[Array.getD,hjL,dif_pos]at q⊢
     simpa using q
    ·have:=yM h (i:=j) (o:=ops[j]) (by simp[hj]) he hb
     exact ih e.on this (by omega)
  rw[hr]at hm;cases hm
def yN (ops:Array Oper):Nat->List (List Nat)
 |0=>[]
 |n+1=>
  let r:=yN ops n
  r++[((List.range n).filter λj=>waits ops n j||(List.range n).any λk=>waits ops n k&&(r.getD k []).contains j)]
def gY (ops:Array Oper) (i j:Nat):Bool:=((yN ops ops.size).getD i []).contains j
theorem xC (ops:Array Oper) (n:Nat):(yN ops n).length=n:=by
 induction n with
 |zero=>rfl
 |succ n ih=>simp[yN,ih]
theorem Ed (ops:Array Oper) (n m i:Nat) (h:i<n) (hm:n<=m):(yN ops m).getD i []=(yN ops n).getD i []:=by
 induction m with
 |zero=>omega
 |succ m ih=>
  by_cases e:n=m+1
  ·subst e;rfl
  ·have:=ih (by omega)
   rw[<-this];simp only[yN,List.getD_eq_getElem?_getD];rw[List.getElem?_append_left (by rw[xC];omega)]
theorem kL {ops:Array Oper} (bg:Nat->Bool) (hc:∀i j,bg i=true->waits ops i j=true->bg j=true):∀i,i<ops.size->∀j,gY ops i j=true->bg i=true->bg j=true:=by
 intro i
 induction i using Nat.strongRecOn with
 |_ i ih=>
  intro hi j hw hl;unfold gY at hw;rw[Ed ops (i+1) ops.size i (by omega) (by omega)]at hw;simp only[yN,List.getD_eq_getElem?_getD]at hw;rw[List.getElem?_append_right (by rw[xC];omega),xC]at hw;simp only[Nat.sub_self,av,Option.getD_some,List.contains_eq_mem,decide_eq_true_eq,List.mem_filter,List.mem_range,Bool.or_eq_true,List.any_eq_true,Bool.and_eq_true]at hw;obtain⟨hj,hw|⟨k,hk,hw,hm⟩⟩:=hw
  ·exact hc i j hl hw
  ·refine ih k hk (by omega) j ?_ (hc i k hl hw)
   unfold gY;rw[Ed ops i ops.size k hk (by omega),List.getD_eq_getElem?_getD]
   simpa using hm
def uI (d:Nat->Option Tmp) (n:Nat):Bool:=(List.range n).all λi=>(List.range n).all λj=>i==j||(d i).isNone||d i !=d j
theorem nS {d:Nat->Option Tmp} {n:Nat} (h:uI d n=true) (i j:Nat) (hi:i<n) (hj:j<n) (hij:i≠j) (t:Tmp) (ht:d i=some t):d j≠some t:=by
 have h1:=List.all_eq_true.1 (List.all_eq_true.1 h i (by simpa using hi)) j (by simpa using hj);intro e
 simp[hij,ht,e]at h1
theorem gq {P:Program} {ops:Array Oper} {Q:Exit->Act->World->Prop} {id:Nat} {a0:Act} {w0:World} (hm:P.follows .mixedOrders=true)
 (d:Nat->Option Tmp) (A:Act->Prop) (aM:(Nat->Bool)->World->Prop) (Gr:Nat->World->World->Prop) (Ψ:Nat->Value->World->Prop)
 (AJ:upward ops=true)
 (hst:∀i j v w w',i<ops.size->j<ops.size->i≠j->gY ops j i=false->Ψ j v w->Gr i w w'->Ψ j v w')
 (hdc:uI d ops.size=true)
 (hA:∀i a v,i<ops.size->A a->A (a.put (d i) v)/\∀t,d i=some t->t<a.tmps.size)
 (a0A:A a0) (oY:aM (λ_=>false) w0.drew)
 (step:∀i a w bg,i<ops.size->A a->bg i=false->(∀j k,j<ops.size->bg j=true->gY ops j k=true->bg k=true)->aM bg w->(∀j,waits ops i j=true->Ψ j (eH a (d j)) w)->wpOp P ops Q i (λa' w'=>∃v,a'=a.put (d i) v/\aM (λj=>if j=i then true else bg j) w'/\Gr i w w'/\Ψ i (if(d i).isSome then v else undef) w') a w)
 (done:∀a w bg,(∀j,j<ops.size->bg j=true)->A a->aM bg w->(∀j,j<ops.size->Ψ j (eH a (d j)) w)->Q .normal a w):
 (Code.region id ops true).wp P Q a0 w0:=by
 refine wp_region_any hm ?_;have hw:∀i j,waits ops i j=true->j<ops.size:=λi j h=>by have:=JF AJ h;omega
 have hall:=Eb AJ;have hd:=nS hdc
 have key:∀fuel (L:Array Bool) (a:Act) (w:World),L.size=ops.size->(L.toList.filter (!·)).length<=fuel->(∀i j,L.getD i false=true->waits ops i j=true->L.getD j false=true)->A a->aM (λj=>L.getD j false) w->(∀j,j<ops.size->L.getD j false=true->Ψ j (eH a (d j)) w)->wpAny P .any ops Q fuel L a w:=by
  intro fuel
  induction fuel with
  |zero=>
   intro L a w hL hc hcl ha hg hp
   have hr:Region.ready .any ops L=[]:=by
    rw[List.eq_nil_iff_forall_not_mem];intro i hi;have h1:=(mem_ready.1 hi).1;have:=count_set L i h1;omega
   exact⟨hr,done a w _ (hall L hL hr) ha hg λj hj=>hp j hj (hall L hL hr j hj)⟩
  |succ fuel ih=>
   intro L a w hL hc hcl ha hg hp;refine⟨λhr=>done a w _ (hall L hL hr) ha hg λj hj=>hp j hj (hall L hL hr j hj),λi hi=>?_⟩;obtain⟨h1,o,ho,haft⟩:=mem_ready.1 hi;have hin:i<ops.size:=(Array.getElem?_eq_some_iff.1 ho).1;have hiL:i<L.size:=by omega
   have Qy:L.getD i false=false:=by
    simp only[Array.getD,hiL,dif_pos]at h1⊢;exact h1
   have hwl:∀j,waits ops i j=true->L.getD j false=true:=λj hj=>by
    unfold waits at hj;rw[ho]at hj;simp only[Option.map_some,Option.getD_some]at hj;obtain⟨e,he,he2⟩:=Array.any_eq_true'.1 hj;simp only[Bool.and_eq_true,beq_iff_eq]at he2;rw[<-he2.1];exact haft e he he2.2
   have hset:∀j,(L.setIfInBounds i true).getD j false=if j=i then true else L.getD j false:=λj=>by
    rw[Array.getD_eq_getD_getElem?,Array.getD_eq_getD_getElem?]
    by_cases hji:j=i
    ·subst hji
     rw[if_pos rfl,Array.getElem?_setIfInBounds_self_of_lt hiL];rfl
    ·rw[if_neg hji,Array.getElem?_setIfInBounds_ne (Ne.symm hji)]
   refine wpOp_mono ?_ (step i a w _ hin ha Qy (λj k hj h1 h2=>kL (λj=>L.getD j false) hcl j hj k h2 h1) hg λj hj=>hp j (hw i j hj) (hwl j hj));rintro a' w' ⟨v,rfl,g',gr,ps⟩;obtain⟨hA1,hA2⟩:=hA i a v hin ha;refine ih _ _ _ (by simpa using hL) (by have:=count_set L i h1;omega) ?_ hA1 (by simpa only[hset]using g') λj hj hjl=>?_
   ·intro k j hk hkj
    rw[hset]at hk⊢
    by_cases hki:k=i
    ·subst hki
     rw[hwl j hkj]
     split<;>rfl
    ·rw[if_neg hki]at hk
     rw[hcl k j hk hkj]
     split<;>rfl
   by_cases hji:j=i
   ·subst hji
    cases hdi:d j with
    |none=>rw[hdi]at ps;exact ps
    |some t=>
     rw[hdi]at ps;have hlt:=hA2 t hdi;have e:eH (a.put (some t) v) (some t)=v:=by simp[eH,Act.put,Array.getD,hlt]
     rw[e];exact ps
   ·rw[hset,if_neg hji]at hjl
    have hnw:gY ops j i=false:=by
     cases hq:gY ops j i with
     |false=>rfl
     |true=>
      have:=kL (λj=>L.getD j false) hcl j hj i hq hjl;rw[Qy]at this;cases this
    have h2:=hst i j _ _ _ hin hj (Ne.symm hji) hnw (hp j hj hjl) gr
    have e:eH (a.put (d i) v) (d j)=eH a (d j):=by
     cases hdj:d j with
     |none=>rfl
     |some t=>
      cases hdi:d i with
      |none=>rfl
      |some u=>
       have hne:u≠t:=λq=>hd i j hin hj (Ne.symm hji) u hdi (by rw[hdj,q]);simp only[eH,Act.put];rw[Array.getD_eq_getD_getElem?,Array.getD_eq_getD_getElem?,Array.getElem?_setIfInBounds_ne hne]
    rw[e];exact h2
 have h0:∀j,(Array.replicate ops.size false).getD j false=false:=λj=>by
  rw[Array.getD_eq_getD_getElem?,Array.getElem?_replicate]
  split<;>rfl
 refine key ops.size _ a0 _ (by simp) (by simp) (λi j h=>by rw[h0]at h;cases h) a0A (by simp only[h0];exact oY) λj hj hjl=>?_;rw[h0]at hjl;cases hjl
theorem Da {P:Program} {ops:Array Oper} {Q:Exit->Act->World->Prop} {id:Nat} {a0:Act} {w0:World} (hm:P.follows .mixedOrders=true)
 (d:Nat->Option Tmp) (A:Act->Prop) (aM:(Nat->Bool)->World->Prop) (Gr:Nat->World->World->Prop) (Ψ:Nat->Value->World->Prop)
 (AJ:upward ops=true)
 (hst:∀i j v w w',i<ops.size->j<ops.size->i≠j->gY ops j i=false->Ψ j v w->Gr i w w'->Ψ j v w')
 (hdc:uI d ops.size=true)
 (hA:∀i a v,i<ops.size->A a->A (a.put (d i) v)/\∀t,d i=some t->t<a.tmps.size)
 (a0A:A a0) (oY:aM (λ_=>false) w0.drew)
 (step:∀i a w bg,i<ops.size->A a->bg i=false->aM bg w->(∀j,waits ops i j=true->Ψ j (eH a (d j)) w)->wpOp P ops Q i (λa' w'=>∃v,a'=a.put (d i) v/\aM (λj=>if j=i then true else bg j) w'/\Gr i w w'/\Ψ i (if(d i).isSome then v else undef) w') a w)
 (done:∀a w bg,(∀j,j<ops.size->bg j=true)->A a->aM bg w->(∀j,j<ops.size->Ψ j (eH a (d j)) w)->Q .normal a w):
 (Code.region id ops true).wp P Q a0 w0:=
 gq hm d A aM Gr Ψ AJ hst hdc hA a0A oY (λi a w bg hi ha hl _ hg hp=>step i a w bg hi ha hl hg hp) done
theorem gu {P:Program} {ops:Array Oper} {Q:Exit->Act->World->Prop} {i:Nat} {R:Act->World->Prop} {a:Act} {w:World} (h:∀K:Act->World->Prop,(∀a' w',R a' w'->K a' w')->wpOp P ops Q i K a w):wpOp P ops Q i R a w:=h R λ_ _ h=>h
end
namespace Tr
open Go.RowKit Go.Shelf
theorem fZ (t b:Nat) (n:Nat) (hn:n<=100) (cap:Nat) (g:Nat->Nat) (lb:Nat->Array Value) (aJ:Nat->World->Prop) (aK:Nat->World->Prop) (w:World) (h0:aJ 0 w) (he:∀i W,i<n->(callFunc (g i) (lb i)).run prog W=.ok (.enter (g i) (lb i)) W)
 (hc:∀i W,i<n->aJ i W->W.cell? ⟨b,i,none⟩=some (.func (.func (g i)) #[] (lb i))/\b<W.heap.size)
 (hs:∀i W,i<n->aJ i W->Calls prog (g i) (lb i) W λe W'=>∃k:Nat,e=aG (ι J k)/\(k=0/\aJ (i+1) W'\/k≠0/\aK k W')):
 Calls prog 54 #[t,θ (some b) n cap] w λe w'=>∃k:Nat,e=aG (ι J k)/\(k=0/\aJ n w'\/k≠0/\aK k w'):=by
 have H0:=U h0;have HE:=U he;have HC:=U hc;have HS:=U hs;clear h0 hc hs he
 go_enter func54,ntmps54
 go_wp2_with fail
 go_loopw [12] (λc wr=>∃q:Nat,q<=n/\c=ι J q/\aJ q wr) (λc _=>n-(RowKit.intOf c).toNat)
 case atStart=>exact⟨0,by omega,rfl,H0.o⟩
 case round=>
  obtain⟨q,hq,rfl,hr⟩:=hrel
  by_cases hlt:q<n
  ·obtain⟨x0,xl⟩:=HC.o q _ hlt hr
   have K:=U (HS.o q _ hlt hr);have E:=λW=>HE.o q W hlt;clear hr;go_wp2_with fail;refine ak K.o ?_;rintro e w7 ⟨k,rfl,h⟩;have H:=U h;clear h
   by_cases hk:k=0
   ·subst hk
    go_wp2_with fail;go_roundw
    case rel=>exact⟨q+1,by omega,by go_num,(H.o.resolve_right (λh=>h.1 rfl)).2⟩
    case measure=>simp[RowKit.intOf];omega
   ·have tk:((k:Int)!=0)=true:=by simp;omega
    go_wp2_with fail;go_ret;exact⟨k,rfl,.inr (H.o.resolve_left (λh=>hk h.1))⟩
  ·obtain rfl:q=n:=by omega
   have H:=U hr;clear hr;go_wp2_with fail;go_ret;exact⟨0,rfl,.inl ⟨rfl,H.o⟩⟩
theorem iT (e:Nat) (w:World):Calls prog 99 #[ν false,ι J e] w λe' w'=>e'=aG (ι J 0)/\w=w':=by
 go_enter func99,ntmps99
 go_wp2
 go_ret;exact⟨rfl,rfl⟩
theorem jC (e:Nat) (w:World):Calls prog 99 #[ν true,ι J e] w λe' w'=>e'=aG (ι J e)/\w=w':=by
 go_enter func99,ntmps99
 go_wp2
 go_ret;exact⟨rfl,rfl⟩
open Go.Maps Oct
section
def ptr (b:Nat):Value:=G (some ⟨b,0,none⟩)
def eB (kd:IntKind) (g:Nat->Option Value):Lit->Option Value
 | .int k x=>if k=kd/\0<=x then g x.toNat else none
 |_=>none
def fG (g:Nm->Option Value):Lit->Option Value
 | .string s=>g s
 |_=>none
theorem jO (kd:IntKind) (g:Nat->Option Value) (x:Nat):eB kd g (.int kd x)=g x:=by simp[eB]
theorem pA (g:Nm->Option Value) (s:Nm):fG g (.string s)=g s:=rfl
theorem dP (kd:IntKind) (g:Nat->Option Value) (x:Nat) (v:Value):lU (eB kd g) (.int kd x) v=eB kd (λy=>if y=x then some v else g y):=by
 funext k
 unfold lU
 by_cases h:k=.int kd x
 ·subst h
  simp[eB]
 ·rw[if_neg h]
  cases k with
  |int k z=>
   unfold eB
   dsimp only
   by_cases hz:k=kd/\0<=z
   ·rw[if_pos hz,if_pos hz]
    obtain⟨rfl,hz⟩:=hz;obtain⟨m,rfl⟩:=Int.eq_ofNat_of_zero_le hz;have:m≠x:=λe=>h (by rw[e])
    simp[this]
   ·rw[if_neg hz,if_neg hz]
  |_=>rfl
theorem JG (kd:IntKind) (g:Nat->Option Value) (x:Nat):Tt (eB kd g) (.int kd x)=eB kd (λy=>if y=x then none else g y):=by
 funext k
 unfold Tt
 by_cases h:k=.int kd x
 ·subst h
  simp[eB]
 ·rw[if_neg h]
  cases k with
  |int k z=>
   unfold eB
   dsimp only
   by_cases hz:k=kd/\0<=z
   ·rw[if_pos hz,if_pos hz]
    obtain⟨rfl,hz⟩:=hz;obtain⟨m,rfl⟩:=Int.eq_ofNat_of_zero_le hz;have:m≠x:=λe=>h (by rw[e])
    simp[this]
   ·rw[if_neg hz,if_neg hz]
  |_=>rfl
theorem AO (g:Nm->Option Value) (s:Nm) (v:Value):lU (fG g) (.string s) v=fG (λt=>if t=s then some v else g t):=by
 funext k
 unfold lU;cases k with
 |string t=>
  by_cases h:t=s
  ·subst h;simp[fG]
  ·rw[if_neg (by simpa using h)];simp[fG,h]
 |_=>simp[fG]
def Gw (l:Nm->Nat) (s:Nm):Option Value:=if l s=0 then none else some (.int F (l s))
structure pB (data:Nm) (g:Nat->Option Nm):Prop where
 is:∀k v,g k=some v->v=aT data k/\k<36
 no:∀k,g k=none->aT data k=zero64
def JH (b:UInt8):Value:=.int aF b.toNat
def Ee (g:Nat->Option Nm) (k:Nat):Option Value:=(g k).map λv=>.agg (v.map JH).toArray
structure TL where
 t:Nat
 m:Nat
 P:Nat->Nat
 A:Nat->Nat
 B:Nat->Nat
 O:Nat->Prop
def jP (E:TL) (S:T) (x:Nat):Option Value:=if(S.n x).kind=0 then none else some (ptr (E.P x))
structure aU (W:World) (E:TL) (room q:Nat) (S:T):Prop where
 top:aN W E.t 130 #[.int F room,.map (some E.m)]
 map:cZ W 42 E.m 256 (eB F (jP E S))
 nd:∀x,(S.n x).kind≠0->aN W (E.P x) 136 #[.int aF (S.n x).kind,.int J (S.n x).links,.int F (S.n x).data.length,.map (some (E.A x)),.map (some (E.B x)),.int J (S.n x).held,.int F (S.n x).up]
 ent:∀x,(S.n x).kind≠0->cZ W 9 (E.A x) q (fG (Gw (S.l x)))
 pg:∀x,(S.n x).kind≠0->∃g,pB (S.n x).data g/\cZ W 3 (E.B x) 36 (eB J (Ee g))
 own:E.O E.t/\E.O E.m/\∀x,(S.n x).kind≠0->E.O (E.P x)/\E.O (E.A x)/\E.O (E.B x)
 iP:∀x y,(S.n x).kind≠0->(S.n y).kind≠0->E.P x=E.P y->x=y
 iA:∀x y,(S.n x).kind≠0->(S.n y).kind≠0->E.A x=E.A y->x=y
 iB:∀x y,(S.n x).kind≠0->(S.n y).kind≠0->E.B x=E.B y->x=y
 Tv:∀x y,(S.n x).kind≠0->(S.n y).kind≠0->E.A x≠E.B y
 iM:∀x,(S.n x).kind≠0->E.P x≠E.t/\E.A x≠E.m/\E.B x≠E.m
 rm:room<=256
 q8:q<=100000
 lk:∀x,(S.n x).links<=100000/\(S.n x).held<=100000
 dt:∀x,(S.n x).data.length<=2304
structure aR (O:Nat->Prop) (w w':World):Prop where
 os:w'.os=w.os
 tape:w'.tape=w.tape
 output:w'.output=w.output
 size:w.heap.size<=w'.heap.size
 block:∀b,b<w.heap.size->¬O b->w'.heap[b]? =w.heap[b]?
theorem aR.refl (O:Nat->Prop) (w:World):aR O w w:=⟨rfl,rfl,rfl,ah _,λ_ _ _=>rfl⟩
theorem aR.trans {O:Nat->Prop} {a b c:World} (h:aR O a b) (k:aR O b c):aR O a c:=
 ⟨k.os.trans h.os,k.tape.trans h.tape,k.output.trans h.output,aD h.size k.size,λi hi ho=>(k.block i (aA hi h.size) ho).trans (h.block i hi ho)⟩
theorem aR.mono {O O':Nat->Prop} {a b:World} (h:aR O a b) (ho:∀i,i<a.heap.size->O i->O' i):aR O' a b:=⟨h.os,h.tape,h.output,h.size,λi hi hn=>h.block i hi λq=>hn (ho i hi q)⟩
theorem aR.of {O:Nat->Prop} {a b:World} (h:Below a.heap.size a b):aR O a b:=⟨h.os,h.tape,h.output,h.size,λi hi _=>h.block i hi⟩
theorem aR.below {O:Nat->Prop} {a b:World} {n:Nat} (h:aR O a b) (hn:∀i,i<n->i<a.heap.size/\¬O i):Below n a b:=⟨h.os,h.tape,h.output,h.size,λi hi=>h.block i (hn i hi).1 (hn i hi).2⟩
theorem aR.cell {O:Nat->Prop} {w:World} {b i:Nat} {v:Value} (hb:O b):aR O w (w.setCell ⟨b,i,none⟩ v):=by
 refine⟨?_,?_,?_,?_,λc _ ho=>heap_setCell_other w ⟨b,i,none⟩ c v (λe=>ho (by rw[e];exact hb))⟩
 ·have:=(aj 0 w).setCell (p:=⟨b,i,none⟩) (aB _) v;exact this.os
 ·have:=(aj 0 w).setCell (p:=⟨b,i,none⟩) (aB _) v;exact this.tape
 ·have:=(aj 0 w).setCell (p:=⟨b,i,none⟩) (aB _) v;exact this.output
 ·have:=(aj 0 w).setCell (p:=⟨b,i,none⟩) (aB _) v;exact this.size
theorem aR.turned {O:Nat->Prop} {w w':World} {b:Nat} (h:w.mapTurned w' b) (hb:O b):aR O w w':=by
 obtain⟨es,clock,es',clock',hm,rfl⟩:=h;exact⟨rfl,rfl,rfl,by simp[Go.ChangeMaps.setBlock],λc _ ho=>Go.ChangeMaps.heap_setBlock_other hm _ (λe=>ho (by rw[e];exact hb))⟩
theorem aR.drew {O:Nat->Prop} {w:World}:aR O w w.drew:=⟨rfl,rfl,rfl,ah _,λ_ _ _=>rfl⟩
variable {W W':World} {E:TL} {room q:Nat} {S:T}
theorem aU.blocks (h:aU W E room q S) (hb:∀b,b<W.heap.size->E.O b->W'.heap[b]? =W.heap[b]?):aU W' E room q S:=by
 have o:=h.own;refine{h with top:=?_,map:=?_,nd:=?_,ent:=?_,pg:=?_}
 ·exact(hb _ h.top.lt o.1).trans h.top
 ·exact h.map.block (hb _ h.map.lt o.2.1)
 ·exact λx hx=>(hb _ (h.nd x hx).lt (o.2.2 x hx).1).trans (h.nd x hx)
 ·exact λx hx=>(h.ent x hx).block (hb _ (h.ent x hx).lt (o.2.2 x hx).2.1)
 ·exact λx hx=>by
   obtain⟨g,h1,h2⟩:=h.pg x hx;exact⟨g,h1,h2.block (hb _ h2.lt (o.2.2 x hx).2.2)⟩
theorem aU.later (h:aU W E room q S) (hb:Below W.heap.size W W'):aU W' E room q S:=h.blocks λb hlt _=>hb.block b hlt
theorem aU.alloc (h:aU W E room q S) (o:Obj):aU (W.alloc o) E room q S:=h.later ((aj _ _).alloc (ah _) o)
theorem aU.drew (h:aU W E room q S):aU W.drew E room q S:=h.blocks λ_ _ _=>rfl
theorem aU.more (h:aU W E room q S) {q':Nat} (hq:q<=q') (hq':q'<=100000):aU W E room q' S:={h with ent:=λx hx=>(h.ent x hx).mono hq,q8:=hq'}
theorem Db:Keyed prog 42:=Maps.int_keyed underlying42
theorem Nz:Keyed prog 3:=Maps.int_keyed underlying3
theorem kStr:Keyed prog 9:=Maps.string_keyed underlying9
theorem wf32 {x:Nat} (h:x<4294967296):(Lit.int F (x:Int)).wf=true:=by
 simp only[Lit.wf,Bool.and_eq_true,decide_eq_true_eq];exact⟨by show(0:Int)<=x;omega,by show(x:Int)<=4294967295;omega⟩
theorem wfI {x:Nat} (h:x<1000000):(Lit.int J (x:Int)).wf=true:=by
 simp only[Lit.wf,Bool.and_eq_true,decide_eq_true_eq];exact⟨by show(-9223372036854775808:Int)<=x;omega,by show(x:Int)<=9223372036854775807;omega⟩
theorem vK {x:Nat} (h:x<4294967296):keyOf prog 42 (.int F x)=some (.int F x):=Maps.keyOf_int_mk underlying42 (wf32 h)
theorem WM {x:Nat} (h:x<1000000):keyOf prog 3 (.int J x)=some (.int J x):=Maps.keyOf_int_mk underlying3 (wfI h)
theorem keyS {s:ByteArray} (h:s.size<=maxLen):keyOf prog 9 (.string s)=some (.string s.data.toList):=WideMaps.keyOf_string_mk underlying9 h
theorem aU.look (h:aU W E room q S) {x:Nat} (hx:x<4294967296):(Instr.lookup 128 (.map (some E.m)) (.int F x) false).run prog W=.ok ((jP E S x).getD (G none)) W:=by
 have:=h.map.look Db underlying128 (z:=G none) (by kernel_rfl) (vK hx)
 rwa [jO]at this
theorem aU.Qz (h:aU W E room q S) {x:Nat} (hx:x<4294967296) (hk:(S.n x).kind=0):(Instr.lookup 128 (.map (some E.m)) (.int F x) false).run prog W=.ok (G none) W:=by
 rw[h.look hx,jP,if_pos hk];rfl
theorem aU.jQ (h:aU W E room q S) {x:Nat} (hx:x<4294967296) (hk:(S.n x).kind≠0):(Instr.lookup 128 (.map (some E.m)) (.int F x) false).run prog W=.ok (G (some ⟨E.P x,0,none⟩)) W:=by
 rw[h.look hx,jP,if_neg hk];rfl
theorem aU.entry (h:aU W E room q S) {x:Nat} (hk:(S.n x).kind≠0) {s:ByteArray} (hs:s.size<=maxLen):(Instr.lookup 133 (.map (some (E.A x))) (.string s) false).run prog W=.ok (.int F (S.l x s.data.toList)) W:=by
 have:=(h.ent x hk).look kStr underlying133 (z:=.int F 0) (by kernel_rfl) (keyS hs);rw[this,pA,Gw]
 by_cases h0:S.l x s.data.toList=0
 ·rw[if_pos h0,h0];rfl
 ·rw[if_neg h0];rfl
end
open Path
def dV (x:ByteArray×Nat):List Value:=[σ x.1,ι F x.2]
abbrev bC:=ByteArray×Nat
theorem Gx:∀(es:List bC) (t:Nat),(es.flatMap dV)[t]? =(es[t/2]?).map λx=>(dV x)[t%2]!
 |[],t=>by simp
 |x::es,0=>by simp[dV]
 |x::es,1=>by simp[dV]
 |x::es,t+2=>by
  have h:=Gx es t;rw[show(t+2)/2=t/2+1 by omega,show(t+2)%2=t%2 by omega,ay,<-h]
  simp[dV]
theorem qo (es:List bC):(es.flatMap dV).length=es.length*2:=by
 induction es with
 |nil=>rfl
 |cons x es ih=>rw[List.flatMap_cons,List.length_append,ih,List.length_cons];simp only[dV,List.length_cons,List.length_nil];omega
section
variable {E:TL} {room q:Nat} {S:T}
theorem WO:(prog.info? 202).map (λi=>(i.zero,i.size,i.bytes))=some (some (γ #[σ ⟨#[]⟩,ι F 0]),2,24):=by kernel_rfl
def dz (l:Nm->Nat) (es:List bC):Prop:=es.Pairwise (λa b=>L a.1<L b.1)/\∀e:bC,e∈es↔l (L e.1)=e.2/\e.2≠0/\e.1.size<=maxLen
theorem dz.nil (l:Nm->Nat) (h:∀s,l s=0):dz l []:=⟨List.Pairwise.nil,λe=>⟨λh=>(by cases h),λ⟨h1,h2,_⟩=>absurd (h1.symm.trans (h _)) h2⟩⟩
end
end Tr
namespace Re
open Go.RowKit Go.Shelf Go.Maps Oct Path Tr
theorem JI:Keyed prog 5:=Maps.int_keyed underlying5
theorem rD {x:Nat} (h:x<256):keyOf prog 5 (.int aF x)=some (.int aF x):=Maps.keyOf_int_mk underlying5 (by
 simp only[Lit.wf,Bool.and_eq_true,decide_eq_true_eq];exact⟨by show(0:Int)<=x;omega,by show(x:Int)<=255;omega⟩)
theorem vL (kd:IntKind):(λ_=>none:Lit->Option Value)=eB kd (λ_=>none):=by
 funext k
 cases k<;>simp[eB]
def kv (w:Array UInt8) (a b c d e:Bool) (f:Nat):Value:=.agg #[.string ⟨w⟩,.bool a,.bool b,.bool c,.bool d,.bool e,.func (.func f) #[] #[]]
def k1:Value:=kv #[109,97,107,101] true true false false false 164
def k2:Value:=kv #[108,105,110,107] true false false false false 165
def k3:Value:=kv #[117,110,108,105,110,107] true true false false false 166
def k4:Value:=kv #[114,101,110,97,109,101] true true true false false 167
def k5:Value:=kv #[115,105,122,101] false false false true false 168
def k6:Value:=kv #[112,97,103,101] false false false true true 169
def k7:Value:=kv #[102,114,101,101] false false false false false 170
def Eh (y:Nat):Option Value:=if y=7 then some k7 else if y=6 then some k6 else if y=5 then some k5 else if y=4 then some k4 else if y=3 then some k3 else if y=2 then some k2 else if y=1 then some k1 else none
theorem Tw (w:World):Calls prog 102 #[] w λe w'=>∃b,e=aG (.map (some b))/\cZ w' 5 b 7 (eB aF Eh)/\w.heap.size<=b/\Below w.heap.size w w':=by
 have hmm:=@run_makeMap prog;have h0:=cZ.new w 5;rw[vL aF]at h0;have B0:aR (λc=>w.heap.size<=c) w (w.alloc (.map #[] 0)):=aR.of ((aj w.heap.size w).alloc (ah _) (.map #[] 0));obtain⟨w0,hw0⟩:∃w0,w.alloc (.map #[] 0)=w0:=⟨_,rfl⟩;rw[hw0]at h0 B0;obtain⟨w1,r1,h1,t1⟩:=h0.put JI underlying212 (by decide) (show keyOf prog 5 (.int aF 1)=some (.int aF 1)from rD (x:=1) (by omega)) k1;change cZ w1 _ _ _ (lU (eB aF _) (.int aF ((1:Nat):Int)) k1)at h1;rw[dP]at h1;have B1:=B0.trans (aR.turned t1 (ah _));obtain⟨w2,r2,h2,t2⟩:=h1.put JI underlying212 (by decide) (show keyOf prog 5 (.int aF 2)=some (.int aF 2)from rD (x:=2) (by omega)) k2;change cZ w2 _ _ _ (lU (eB aF _) (.int aF ((2:Nat):Int)) k2)at h2;rw[dP]at h2;have B2:=B1.trans (aR.turned t2 (ah _));obtain⟨w3,r3,h3,t3⟩:=h2.put JI underlying212 (by decide) (show keyOf prog 5 (.int aF 3)=some (.int aF 3)from rD (x:=3) (by omega)) k3;change cZ w3 _ _ _ (lU (eB aF _) (.int aF ((3:Nat):Int)) k3)at h3;rw[dP]at h3;have B3:=B2.trans (aR.turned t3 (ah _));obtain⟨w4,r4,h4,t4⟩:=h3.put JI underlying212 (by decide) (show keyOf prog 5 (.int aF 4)=some (.int aF 4)from rD (x:=4) (by omega)) k4;change cZ w4 _ _ _ (lU (eB aF _) (.int aF ((4:Nat):Int)) k4)at h4;rw[dP]at h4;have B4:=B3.trans (aR.turned t4 (ah _));obtain⟨w5,r5,h5,t5⟩:=h4.put JI underlying212 (by decide) (show keyOf prog 5 (.int aF 5)=some (.int aF 5)from rD (x:=5) (by omega)) k5;change cZ w5 _ _ _ (lU (eB aF _) (.int aF ((5:Nat):Int)) k5)at h5;rw[dP]at h5;have B5:=B4.trans (aR.turned t5 (ah _));obtain⟨w6,r6,h6,t6⟩:=h5.put JI underlying212 (by decide) (show keyOf prog 5 (.int aF 6)=some (.int aF 6)from rD (x:=6) (by omega)) k6;change cZ w6 _ _ _ (lU (eB aF _) (.int aF ((6:Nat):Int)) k6)at h6;rw[dP]at h6;have B6:=B5.trans (aR.turned t6 (ah _));obtain⟨w7,r7,h7,t7⟩:=h6.put JI underlying212 (by decide) (show keyOf prog 5 (.int aF 7)=some (.int aF 7)from rD (x:=7) (by omega)) k7;change cZ w7 _ _ _ (lU (eB aF _) (.int aF ((7:Nat):Int)) k7)at h7;rw[dP]at h7;have B7:=B6.trans (aR.turned t7 (ah _));have HV:=U (show cZ w7 5 w.heap.size 7 (eB aF Eh)from h7);have BB:=U (aR.below B7 λi hi=>⟨hi,Nat.not_le.2 hi⟩);have HW:=U hw0;clear h0 h1 h2 h3 h4 h5 h6 h7 t1 t2 t3 t4 t5 t6 t7 B0 B1 B2 B3 B4 B5 B6 B7;unfold k1 k2 k3 k4 k5 k6 k7 kv at*;rw[<-HW.o]at r1;clear hw0
 go_enter func102,ntmps102
 go_wp2_with fail;go_ret;exact⟨_,rfl,HV.o,ah _,BB.o⟩
end Re
section
open Go.RowKit Go.Shelf
theorem mK {P:Program} {ops:Array Oper} {Q:Exit->Act->World->Prop} {id:Nat} {a0:Act} {w0:World} (hm:P.follows .mixedOrders=true)
 (d:Nat->Option Tmp) (A:Act->Prop) (aM:(Nat->Bool)->World->Prop) (Gr:Nat->World->World->Prop) (Ψ:Nat->(Nat->Value)->World->Prop)
 (AJ:upward ops=true)
 (hst:∀i j f w w',i<ops.size->j<ops.size->i≠j->gY ops j i=false->Ψ j f w->Gr i w w'->Ψ j f w')
 (pC:∀j f g w,j<ops.size->(∀k,k<ops.size->(k=j\/gY ops j k=true)->f k=g k)->Ψ j f w->Ψ j g w)
 (hdc:uI d ops.size=true)
 (hA:∀i a v,i<ops.size->A a->A (a.put (d i) v)/\∀t,d i=some t->t<a.tmps.size)
 (a0A:A a0) (oY:aM (λ_=>false) w0.drew)
 (step:∀i a w bg,i<ops.size->A a->bg i=false->(∀j k,j<ops.size->bg j=true->gY ops j k=true->bg k=true)->aM bg w->(∀j,waits ops i j=true->Ψ j (λk=>eH a (d k)) w)->wpOp P ops Q i (λa' w'=>∃v,a'=a.put (d i) v/\aM (λj=>if j=i then true else bg j) w'/\Gr i w w'/\Ψ i (λk=>if k=i then(if(d i).isSome then v else undef)else eH a (d k)) w') a w)
 (done:∀a w bg,(∀j,j<ops.size->bg j=true)->A a->aM bg w->(∀j,j<ops.size->Ψ j (λk=>eH a (d k)) w)->Q .normal a w):
 (Code.region id ops true).wp P Q a0 w0:=by
 refine wp_region_any hm ?_;have hw:∀i j,waits ops i j=true->j<ops.size:=λi j h=>by have:=JF AJ h;omega
 have hall:=Eb AJ;have hd:=nS hdc
 have key:∀fuel (L:Array Bool) (a:Act) (w:World),L.size=ops.size->(L.toList.filter (!·)).length<=fuel->(∀i j,L.getD i false=true->waits ops i j=true->L.getD j false=true)->A a->aM (λj=>L.getD j false) w->(∀j,j<ops.size->L.getD j false=true->Ψ j (λk=>eH a (d k)) w)->wpAny P .any ops Q fuel L a w:=by
  intro fuel
  induction fuel with
  |zero=>
   intro L a w hL hc hcl ha hg hp
   have hr:Region.ready .any ops L=[]:=by
    rw[List.eq_nil_iff_forall_not_mem];intro i hi;have h1:=(mem_ready.1 hi).1;have:=count_set L i h1;omega
   exact⟨hr,done a w _ (hall L hL hr) ha hg λj hj=>hp j hj (hall L hL hr j hj)⟩
  |succ fuel ih=>
   intro L a w hL hc hcl ha hg hp;refine⟨λhr=>done a w _ (hall L hL hr) ha hg λj hj=>hp j hj (hall L hL hr j hj),λi hi=>?_⟩;obtain⟨h1,o,ho,haft⟩:=mem_ready.1 hi;have hin:i<ops.size:=(Array.getElem?_eq_some_iff.1 ho).1;have hiL:i<L.size:=by omega
   have Qy:L.getD i false=false:=by
    simp only[Array.getD,hiL,dif_pos]at h1⊢;exact h1
   have hwl:∀j,waits ops i j=true->L.getD j false=true:=λj hj=>by
    unfold waits at hj;rw[ho]at hj;simp only[Option.map_some,Option.getD_some]at hj;obtain⟨e,he,he2⟩:=Array.any_eq_true'.1 hj;simp only[Bool.and_eq_true,beq_iff_eq]at he2;rw[<-he2.1];exact haft e he he2.2
   have hset:∀j,(L.setIfInBounds i true).getD j false=if j=i then true else L.getD j false:=λj=>by
    rw[Array.getD_eq_getD_getElem?,Array.getD_eq_getD_getElem?]
    by_cases hji:j=i
    ·subst hji
     rw[if_pos rfl,Array.getElem?_setIfInBounds_self_of_lt hiL];rfl
    ·rw[if_neg hji,Array.getElem?_setIfInBounds_ne (Ne.symm hji)]
   refine wpOp_mono ?_ (step i a w _ hin ha Qy (λj k hj h1 h2=>kL (λj=>L.getD j false) hcl j hj k h2 h1) hg λj hj=>hp j (hw i j hj) (hwl j hj));rintro a' w' ⟨v,rfl,g',gr,ps⟩;obtain⟨hA1,hA2⟩:=hA i a v hin ha;refine ih _ _ _ (by simpa using hL) (by have:=count_set L i h1;omega) ?_ hA1 (by simpa only[hset]using g') λj hj hjl=>?_
   ·intro k j hk hkj
    rw[hset]at hk⊢
    by_cases hki:k=i
    ·subst hki
     rw[hwl j hkj]
     split<;>rfl
    ·rw[if_neg hki]at hk
     rw[hcl k j hk hkj]
     split<;>rfl
   have MV:∀k,k<ops.size->k≠i->eH (a.put (d i) v) (d k)=eH a (d k):=λk hk hki=>by
    cases hdk:d k with
    |none=>rfl
    |some t=>
     cases hdi:d i with
     |none=>rfl
     |some u=>
      have hne:u≠t:=λq=>hd i k hin hk (Ne.symm hki) u hdi (by rw[hdk,q]);simp only[eH,Act.put];rw[Array.getD_eq_getD_getElem?,Array.getD_eq_getD_getElem?,Array.getElem?_setIfInBounds_ne hne]
   by_cases hji:j=i
   ·subst hji
    refine pC j _ _ _ hj (λk hk _=>?_) ps
    by_cases hkj:k=j
    ·subst hkj
     rw[if_pos rfl];cases hdi:d k with
     |none=>rfl
     |some t=>
      have hlt:=hA2 t hdi;have e:eH (a.put (some t) v) (some t)=v:=by simp[eH,Act.put,Array.getD,hlt]
      rw[e];rfl
    ·rw[if_neg hkj,MV k hk hkj]
   ·rw[hset,if_neg hji]at hjl
    have hnw:gY ops j i=false:=by
     cases hq:gY ops j i with
     |false=>rfl
     |true=>
      have:=kL (λj=>L.getD j false) hcl j hj i hq hjl;rw[Qy]at this;cases this
    have h2:=hst i j _ _ _ hin hj (Ne.symm hji) hnw (hp j hj hjl) gr;refine pC j _ _ _ hj (λk hk hkd=>?_) h2;refine(MV k hk λe=>?_).symm;subst e
    rcases hkd with rfl|h
    ·exact hji rfl
    ·rw[hnw]at h;cases h
 have h0:∀j,(Array.replicate ops.size false).getD j false=false:=λj=>by
  rw[Array.getD_eq_getD_getElem?,Array.getElem?_replicate]
  split<;>rfl
 refine key ops.size _ a0 _ (by simp) (by simp) (λi j h=>by rw[h0]at h;cases h) a0A (by simp only[h0];exact oY) λj hj hjl=>?_;rw[h0]at hjl;cases hjl
def puts (a:Act) (d:Nat->Option Tmp) (x:Nat->Value):Nat->Act
 |0=>a
 |n+1=>(puts a d x n).put (d n) (x n)
theorem uJ (a:Act) (d:Nat->Option Tmp) {x y:Nat->Value}:∀n,(∀k,k<n->x k=y k)->puts a d x n=puts a d y n
 |0,_=>rfl
 |n+1,h=>by rw[puts,puts,uJ a d n λk hk=>h k (by omega),h n (by omega)]
theorem WQ (a:Act) (t:Option Tmp) (v:Value):(a.put t v).tmps.size=a.tmps.size:=by
 cases t<;>simp[Act.put]
theorem Ei (a:Act) (d:Nat->Option Tmp) (x:Nat->Value):∀n,(puts a d x n).tmps.size=a.tmps.size
 |0=>rfl
 |n+1=>by rw[puts,WQ,Ei a d x n]
theorem zN (a:Act) (t:Option Tmp) (u v:Value):(a.put t u).put t v=a.put t v:=by
 cases t<;>simp[Act.put]
theorem vM (a:Act) (t:Option Tmp):a.put t (eH a t)=a:=by
 cases t with
 |none=>rfl
 |some t=>
  obtain⟨⟨l⟩,ds⟩:=a;simp only[Act.put,eH,List.setIfInBounds_toArray]
  congr 2
  apply List.ext_getElem?
  intro i;rw[List.getElem?_set]
  split
  ·rename_i e
   subst e
   split
   ·rename_i hl
    have hl:t<l.length:=hl
    simp[Array.getD,hl]
   ·rename_i hl
    have hl:¬t<l.length:=hl;rw[List.getElem?_eq_none (by omega)]
  ·rfl
theorem JJ {a:Act} {d:Nat->Option Tmp} {m:Nat} (hd:uI d m=true) (x:Nat->Value) (i:Nat) (v:Value):∀n,n<=m->i<n->puts a d (λk=>if k=i then v else x k) n=(puts a d x n).put (d i) v
 |0,_,h=>absurd h (Nat.not_lt_zero _)
 |n+1,hn,h=>by
  rw[puts,puts]
  by_cases e:i=n
  ·subst e
   rw[if_pos rfl,zN,uJ a d (y:=x) i λk hk=>if_neg (by omega)]
  ·rw[if_neg (Ne.symm e),JJ hd x i v n (by omega) (by omega)]
   exact Act.put_comm _ _ _ λt ht=>nS hd i n (by omega) (by omega) e t ht
theorem Ej (a:Act) (d:Nat->Option Tmp):∀n,puts a d (λk=>eH a (d k)) n=a
 |0=>rfl
 |n+1=>by rw[puts,Ej a d n,vM]
def Or (d:Nat->Option Tmp) (n m:Nat):Bool:=(List.range n).all λi=>match d i with
 |some t=>decide (t<m)
 |none=>true
theorem mM {P:Program} {ops:Array Oper} {Q:Exit->Act->World->Prop} {id:Nat} {a0:Act} {w0:World} (n:Nat) (hm:P.follows .mixedOrders=true)
 (d:Nat->Option Tmp) (aM:(Nat->Bool)->World->Prop) (Gr:Nat->World->World->Prop) (Ψ:Nat->(Nat->Value)->World->Prop)
 (AJ:upward ops=true) (hdc:uI d ops.size=true) (hin:Or d ops.size a0.tmps.size=true) (hn:ops.size=n)
 (hst:∀i j f w w',i<n->j<n->i≠j->gY ops j i=false->Ψ j f w->Gr i w w'->Ψ j f w')
 (pC:∀j f g w,j<n->(∀k,k<n->(k=j\/gY ops j k=true)->f k=g k)->Ψ j f w->Ψ j g w)
 (oY:aM (λ_=>false) w0.drew)
 (step:∀i x w bg,i<n->bg i=false->(∀j k,j<n->bg j=true->gY ops j k=true->bg k=true)->aM bg w->(∀j,waits ops i j=true->Ψ j x w)->wpOp P ops Q i (λa' w'=>∃v,a'=(puts a0 d x n).put (d i) v/\aM (λj=>if j=i then true else bg j) w'/\Gr i w w'/\Ψ i (λk=>if k=i then(if(d i).isSome then v else undef)else x k) w') (puts a0 d x n) w)
 (done:∀x w bg,(∀j,j<n->bg j=true)->aM bg w->(∀j,j<n->Ψ j x w)->Q .normal (puts a0 d x n) w):
 (Code.region id ops true).wp P Q a0 w0:=by
 subst hn
 have hb:∀i,i<ops.size->∀t,d i=some t->t<a0.tmps.size:=λi hi t ht=>by
  have h:=List.all_eq_true.1 hin i (by simpa using hi);simp only[ht,decide_eq_true_eq]at h;exact h
 refine mK hm d (λa=>a=puts a0 d (λk=>eH a (d k)) ops.size) aM Gr Ψ AJ hst pC hdc (λi a v hi ha=>?_) (Ej a0 d _).symm oY ?_ ?_
 ·have hs:a.tmps.size=a0.tmps.size:=by rw[ha,Ei]
  refine⟨?_,λt ht=>by rw[hs];exact hb i hi t ht⟩;cases e:d i with
  |none=>exact ha
  |some t=>
   have hp:=JJ (a:=a0) hdc (λk=>eH a (d k)) i v _ (ah _) hi;rw[<-ha,e]at hp;rw[<-hp];refine uJ a0 d _ λk hk=>?_;have ht:t<a.tmps.size:=by rw[hs];exact hb i hi t e
   rw[hp]
   by_cases ki:k=i
   ·subst ki
    rw[if_pos rfl,e]
    simp[eH,Act.put,Array.getD,ht]
   ·rw[if_neg ki]
    cases ek:d k with
    |none=>rfl
    |some u=>
     have hne:t≠u:=λq=>nS hdc i k hi hk (Ne.symm ki) t e (by rw[ek,q]);simp only[eH,Act.put];rw[Array.getD_eq_getD_getElem?,Array.getD_eq_getD_getElem?,Array.getElem?_setIfInBounds_ne hne]
 ·intro i a w bg hi ha hl hcl hG hp
  have h:=step i (λk=>eH a (d k)) w bg hi hl hcl hG hp;rw[<-ha]at h;exact h
 ·intro a w bg hl ha hG hp
  have h:=done (λk=>eH a (d k)) w bg hl hG hp
  rwa [<-ha]at h
theorem jR {P:Program} {ops:Array Oper} {Q:Exit->Act->World->Prop} {id:Nat} {a0:Act} {w0:World} (n:Nat) (d:Nat->Option Tmp) (V:Nat->Value) (aM:World->Prop) (oY:aM w0.drew)
 (hm:P.follows .mixedOrders=true)
 (AJ:upward ops=true) (hdc:uI d ops.size=true) (hin:Or d ops.size a0.tmps.size=true) (hn:ops.size=n)
 (step:∀i x w,i<n->aM w->(∀j,waits ops i j=true->x j=V j)->wpOp P ops Q i (λa' w'=>a'=(puts a0 d x n).put (d i) (V i)/\aM w') (puts a0 d x n) w)
 (done:∀w,aM w->Q .normal (puts a0 d V n) w):
 (Code.region id ops true).wp P Q a0 w0:=by
 subst hn;refine mM _ hm d (λ_ w=>aM w) (λ_ _ _=>True) (λj f _=>(d j).isSome=true->f j=V j) AJ hdc hin rfl (λ_ _ _ _ _ _ _ _ _ h _=>h) (λj f g w hj h hp hs=>by rw[<-h j hj (.inl rfl)];exact hp hs) oY ?_ ?_
 ·intro i x w bg hi hl hcl hG hp
  have e:puts a0 d x ops.size=puts a0 d (λk=>if(d k).isSome then x k else V k) ops.size:=by
   have:∀n,puts a0 d x n=puts a0 d (λk=>if(d k).isSome then x k else V k) n:=by
    intro n
    induction n with
    |zero=>rfl
    |succ n ih=>
     rw[puts,puts,ih];cases h:d n with
     |none=>rfl
     |some t=>simp
   exact this _
  rw[e];refine wpOp_mono ?_ (step i (λk=>if(d k).isSome then x k else V k) w hi hG λj hj=>?_)
  ·rintro a' w' ⟨rfl,h⟩
   refine⟨V i,rfl,h,trivial,λhs=>?_⟩
   simp[hs]
  ·show(if(d j).isSome then x j else V j)=V j
   split
   ·rename_i h
    exact hp j hj h
   ·rfl
 ·intro x w bg hl hG hp
  have e:puts a0 d x ops.size=puts a0 d V ops.size:=by
   have:∀n,n<=ops.size->puts a0 d x n=puts a0 d V n:=by
    intro n
    induction n with
    |zero=>intro _;rfl
    |succ n ih=>
     intro hn;rw[puts,puts,ih (by omega)];cases h:d n with
     |none=>rfl
     |some t=>rw[hp n (by omega) (by rw[h];rfl)]
   exact this _ (ah _)
  rw[e];exact done w hG
end
namespace Re
open Go.RowKit Go.Shelf Go.Maps Oct Path Tr
def JK (es:List bC) (s:ByteArray) (k:Int):Prop:=(k= -1/\∀(j:Nat) (e:bC),es[j]? =some e->e.1≠s)\/∃(i:Nat) (x:Nat),es[i]? =some (s,x)/\k=i
theorem JK.no {l:Nm->Nat} {es:List bC} {s:ByteArray} {k:Int} (h:dz l es) (ha:JK es s k) (hs:s.size<=maxLen) (h0:l (L s)=0):k= -1:=by
 rcases ha with⟨e,_⟩|⟨i,x,hx,_⟩
 ·exact e
 ·have:=(h.2 (s,x)).1 (List.mem_of_getElem? hx)
  exact absurd (this.1.symm.trans h0) this.2.1
theorem JK.yes {l:Nm->Nat} {es:List bC} {s:ByteArray} {k:Int} (h:dz l es) (ha:JK es s k) (hs:s.size<=maxLen) (h0:l (L s)≠0):∃i:Nat,es[i]? =some (s,l (L s))/\k=i:=by
 rcases ha with⟨_,e⟩|⟨i,x,hx,hk⟩
 ·obtain⟨j,hj⟩:=List.mem_iff_getElem?.1 ((h.2 (s,l (L s))).2 ⟨rfl,h0,hs⟩)
  exact absurd rfl (e j _ hj)
 ·have:=(h.2 (s,x)).1 (List.mem_of_getElem? hx)
  exact⟨i,by rw[hx,this.1],hk⟩
theorem _root_.Go.Proofs.YtpendnmmgjlmfaaGreatDoor.Tr.dz.del {l l':Nm->Nat} {es:List bC} {s:ByteArray} {x i:Nat} (h:dz l es) (hi:es[i]? =some (s,x)) (hl:∀t,l' t=if t=L s then 0 else l t):dz l' (es.take i++es.drop (i+1)):=by
 have hs:List.Sublist (es.take i++es.drop (i+1)) es:=by
  rw[<-List.eraseIdx_eq_take_drop_succ];exact List.eraseIdx_sublist _ _
 refine⟨h.1.sublist hs,λe=>?_⟩;obtain⟨hlt,hei⟩:=List.getElem?_eq_some_iff.1 hi
 have hsplit:es=es.take i++(s,x)::es.drop (i+1):=by
  rw[<-hei,List.getElem_cons_drop,List.take_append_drop]
 have hne:∀e∈es.take i++es.drop (i+1),L e.1≠L s:=by
  intro e he q;have hp:=h.1;rw[hsplit]at hp;obtain⟨p1,p2,p3⟩:=List.pairwise_append.1 hp;obtain⟨p4,_⟩:=List.pairwise_cons.1 p2
  rcases List.mem_append.1 he with he|he
  ·have:=p3 e he (s,x) (by simp)
   rw[q]at this;exact List.lt_irrefl _ this
  ·have:=p4 e he
   rw[q]at this;exact List.lt_irrefl _ this
 constructor
 ·intro he
  obtain⟨a,b,c⟩:=(h.2 e).1 (hs.subset he);exact⟨by rw[hl,if_neg (hne e he)];exact a,b,c⟩
 ·intro⟨a,b,c⟩
  rw[hl]at a
  split at a
  ·exact absurd a.symm b
  ·rename_i q
   have:=(h.2 e).2 ⟨a,b,c⟩;rw[hsplit]at this
   rcases List.mem_append.1 this with m|m
   ·exact List.mem_append_left _ m
   ·rcases List.mem_cons.1 m with m|m
    ·rw[m]at q;exact absurd rfl q
    ·exact List.mem_append_right _ m
theorem _root_.Go.Proofs.YtpendnmmgjlmfaaGreatDoor.Tr.dz.add {l l':Nm->Nat} {es:List bC} {s:ByteArray} {x k:Nat} (h:dz l es) (h0:l (L s)=0) (hx:x≠0) (hs:s.size<=maxLen) (hk:k<=es.length) (hlt:∀(j:Nat) (e:bC),j<k->es[j]? =some e->L e.1<L s) (hge:∀(e:bC),es[k]? =some e->¬L e.1<L s) (hl:∀t,l' t=if t=L s then x else l t):dz l' (es.take k++[(s,x)]++es.drop k):=by
 have hno:∀e∈es,L e.1≠L s:=λe he q=>by
  have:=(h.2 e).1 he;rw[q,h0]at this;exact this.2.1 this.1.symm
 have hdr:∀e∈es.drop k,L s<L e.1:=by
  intro e he;have hp:es.Pairwise (λa b=>L a.1<L b.1):=h.1;obtain⟨j,hj⟩:=List.mem_iff_getElem?.1 he;rw[List.getElem?_drop]at hj;have hkl:k<es.length:=by have:=(List.getElem?_eq_some_iff.1 hj).1;omega
  have hek:=hge _ (List.getElem?_eq_getElem hkl)
  have hek2:L s<L es[k].1:=by
   rcases List.le_iff_lt_or_eq.1 (List.not_lt.1 hek)with q|q
   ·exact q
   ·exact absurd q.symm (hno _ (List.getElem_mem hkl))
  rcases Nat.eq_zero_or_pos j with rfl|hj0
  ·rw[Nat.add_zero,List.getElem?_eq_getElem hkl]at hj
   cases hj;exact hek2
  ·obtain⟨hjl,yO⟩:=List.getElem?_eq_some_iff.1 hj
   have:=List.pairwise_iff_getElem.1 hp k (k+j) hkl hjl (by omega);rw[yO]at this;exact List.lt_trans hek2 this
 have htk:∀e∈es.take k,L e.1<L s:=by
  intro e he;obtain⟨j,hj⟩:=List.mem_iff_getElem?.1 he;rw[List.getElem?_take]at hj
  split at hj
  ·exact hlt j e (by assumption) hj
  ·cases hj
 have hp:(es.take k++es.drop k).Pairwise (λa b=>L a.1<L b.1):=by rw[List.take_append_drop];exact h.1
 obtain⟨p1,p2,p3⟩:=List.pairwise_append.1 hp;refine⟨?_,λe=>?_⟩
 ·rw[List.append_assoc]
  refine List.pairwise_append.2 ⟨p1,List.pairwise_cons.2 ⟨λe he=>hdr e he,p2⟩,λa ha b hb=>?_⟩
  rcases List.mem_cons.1 hb with rfl|hb
  ·exact htk a ha
  ·exact p3 a ha b hb
 ·have hm:e∈es.take k++[(s,x)]++es.drop k↔e=(s,x)\/e∈es:=by
   conv=>rhs;rw[<-List.take_append_drop k es]
   simp only[List.mem_append,List.mem_singleton]
   constructor
   ·rintro((a|a)|a)
    ·exact .inr (.inl a)
    ·exact .inl a
    ·exact .inr (.inr a)
   ·rintro(a|a|a)
    ·exact .inl (.inr a)
    ·exact .inl (.inl a)
    ·exact .inr a
  rw[hm]
  constructor
  ·rintro(rfl|he)
   ·exact⟨by rw[hl];simp,hx,hs⟩
   ·obtain⟨a,b,c⟩:=(h.2 e).1 he
    exact⟨by rw[hl,if_neg (hno e he)];exact a,b,c⟩
  ·intro⟨a,b,c⟩
   rw[hl]at a
   split at a
   ·rename_i q
    left
    rw[show e=(e.1,e.2)from rfl,<-a,iL q]
   ·exact .inr ((h.2 e).2 ⟨a,b,c⟩)
theorem _root_.Go.Proofs.YtpendnmmgjlmfaaGreatDoor.Tr.dz.of_eq {l l':Nm->Nat} {es:List bC} (h:dz l es) (he:l'=l):dz l' es:=by rw[he];exact h
def gA (S:T) (x:Nat):Prop:=∃d s,S.l d s=x
structure xD (room:Nat) (S:T) (es:Nat->List bC):Prop where
 bg:∀i,i<room->dz (S.l (i+1)) (es i)
 nm:∀d s,S.l d s≠0->1<=d/\d<=room/\s.length<=maxLen
theorem xD.nam {room:Nat} {S:T} {es:Nat->List bC} (h:xD room S es) {x:Nat} (hx:x≠0):gA S x↔∃i,i<room/\∃(k:Nat) (e:bC),(es i)[k]? =some e/\e.2=x:=by
 constructor
 ·rintro⟨d,s,rfl⟩
  obtain⟨a,b,c⟩:=h.nm d s hx;have:=((h.bg (d-1) (by omega)).2 (B s,S.l d s)).2 ⟨by rw[iy,show d-1+1=d by omega],hx,c⟩;obtain⟨k,hk⟩:=List.mem_iff_getElem?.1 this;exact⟨d-1,by omega,k,_,hk,rfl⟩
 ·rintro⟨i,hi,k,e,he,rfl⟩
  exact⟨i+1,L e.1,((h.bg i hi).2 e).1 (List.mem_of_getElem? he) |>.1⟩
def JL (x:Nat) (es:List bC):Nat:=(es.filter λe=>e.2==x).length
def iK (x:Nat) (es:Nat->List bC):Nat->Nat
 |0=>0
 |i+1=>iK x es i+JL x (es i)
theorem Tz (x:Nat) {es:List bC} {k:Nat} {e:bC} (h:es[k]? =some e):JL x (es.take (k+1))=JL x (es.take k)+(if e.2=x then 1 else 0):=by
 unfold JL;rw[List.take_add_one,h,List.filter_append,List.length_append]
 by_cases q:e.2=x
 ·simp[q]
 ·simp[q]
theorem pD (x:Nat) (es:List bC):JL x es<=es.length:=List.length_filter_le _ _
theorem Gj (x:Nat) (es:Nat->List bC) (q n:Nat) (h:∀i,i<n->(es i).length<=q):iK x es n<=n*q:=by
 induction n with
 |zero=>simp[iK]
 |succ n ih=>
  have:=ih λi hi=>h i (by omega);have h2:=h n (by omega);have h3:=pD x (es n);simp only[iK,Nat.succ_mul];omega
def Gy (x:Nat) (es:Nat->List bC):Nat->List (Nat×Nm)
 |0=>[]
 |i+1=>Gy x es i++((es i).filter λe=>e.2==x).map λe=>(i+1,L e.1)
theorem WS (x:Nat) (es:Nat->List bC) (n:Nat):(Gy x es n).length=iK x es n:=by
 induction n with
 |zero=>rfl
 |succ n ih=>simp[Gy,iK,JL,ih]
theorem JM (x:Nat) (es:Nat->List bC) (n:Nat) (d:Nat) (s:Nm):(d,s)∈Gy x es n↔∃i,i<n/\d=i+1/\∃e∈es i,e.2=x/\s=L e.1:=by
 induction n with
 |zero=>simp[Gy]
 |succ n ih=>
  simp only[Gy,List.mem_append,ih,List.mem_map,List.mem_filter,beq_iff_eq,Prod.mk.injEq]
  constructor
  ·rintro(⟨i,a,b⟩|⟨e,⟨h1,h2⟩,h3,h4⟩)
   ·exact⟨i,by omega,b⟩
   ·exact⟨n,by omega,h3.symm,e,h1,h2,h4.symm⟩
  ·rintro⟨i,a,b,e,c,d,f⟩
   rcases Nat.lt_or_ge i n with q|q
   ·exact .inl ⟨i,q,b,e,c,d,f⟩
   ·have:i=n:=by omega
    subst this;exact .inr ⟨e,⟨c,d⟩,b.symm,f.symm⟩
theorem NH (x:Nat) (es:Nat->List bC) (n:Nat) (h:∀i,i<n->(es i).Pairwise (λa b=>L a.1<L b.1)):(Gy x es n).Nodup:=by
 induction n with
 |zero=>simp[Gy]
 |succ n ih=>
  refine List.nodup_append.2 ⟨ih λi hi=>h i (by omega),?_,?_⟩
  ·refine List.Pairwise.map _ ?_ ((h n (by omega)).filter _)
   intro a b hab e;simp only[Prod.mk.injEq]at e;rw[e.2]at hab;exact List.lt_irrefl _ hab
  ·intro a ha b hb e
   subst e;obtain⟨d,s⟩:=a;obtain⟨i,hi,hd,_⟩:=(JM x es n d s).1 ha;obtain⟨e,_,he⟩:=List.mem_map.1 hb;simp only[Prod.mk.injEq]at he;omega
theorem xD.cnt {room:Nat} {S:T} {es:Nat->List bC} (h:xD room S es) {x:Nat} (hx:x≠0):Au S x (iK x es room):=by
 refine⟨Gy x es room,NH x es room λi hi=>(h.bg i hi).1,λd s=>?_,WS x es room⟩;rw[JM]
 constructor
 ·rintro⟨i,hi,rfl,e,he,rfl,rfl⟩
  exact(((h.bg i hi).2 e).1 he).1
 ·intro e
  obtain⟨a,b,c⟩:=h.nm d s (by rw[e];exact hx);exact⟨d-1,by omega,by omega,(B s,x),((h.bg (d-1) (by omega)).2 (B s,x)).2 ⟨by rw[iy,show d-1+1=d by omega];exact e,hx,c⟩,rfl,(iy s).symm⟩
theorem _root_.Go.Proofs.YtpendnmmgjlmfaaGreatDoor.Tr.Au.uniq {S:T} {x a b:Nat} (ha:Au S x a) (hb:Au S x b):a=b:=by
 obtain⟨la,na,ma,rfl⟩:=ha;obtain⟨lb,nb,mb,rfl⟩:=hb
 have:la.Perm lb:=by
  rw[List.perm_ext_iff_of_nodup na nb];rintro⟨d,s⟩;rw[ma,mb]
 exact this.length_eq
theorem _root_.Go.Proofs.YtpendnmmgjlmfaaGreatDoor.Tr.Au.zero {S:T} {x k:Nat} (h:Au S x k):k=0↔¬gA S x:=by
 constructor
 ·rintro rfl ⟨d,s,hd⟩
  exact h.pos hd rfl
 ·intro hn
  obtain⟨l,_,m,rfl⟩:=h;cases l with
  |nil=>rfl
  |cons y l=>exact absurd ⟨y.1,y.2,(m y.1 y.2).1 (by simp)⟩ hn
noncomputable def mO (S:T) (x:Nat):T:=open Classical in if x≠1/\¬gA S x/\(S.n x).held=0 then⟨aS S.n x Nd.no,S.l⟩else S
