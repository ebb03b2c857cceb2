/- Lemmas. -/
import Derived.Test.YtpendnmmgjlmfaaGreatDoorM45
import Derived.Test.YtpendnmmgjlmfaaGreatDoorM27
set_option linter.unusedVariables false
set_option linter.unusedSimpArgs false
namespace Go.Proofs.YtpendnmmgjlmfaaGreatDoor
open Go.RowKit Go.Shelf Go.Maps
open Go.Proofs.Tryz
open IntKind renaming u16→I,i64→J,u32→F,u8→aF
open Value renaming pointer→G,int->ι,string->σ,tuple->τ,agg->γ
open Ending renaming returned→aG
open Obj renaming cells→aH
set_option maxRecDepth 100000
set_option maxHeartbeats 1000000
namespace Ap
open Oct Dev mU Tx Geo qX Bm lC
open Re (Rw dX)
section
variable {E:Im} {D D':aZ} {ino:Nat->aP} {vs:Nat->List Nat} {K:Nat->Nat×Nat}
theorem sS (hs:Small E) (h:bP E D ino vs) (M:Nat) (T:xL) (b:dN) (hard:List ByteArray) (k:Nat) (hd:∀q,fr E 2<=q->q<(mI E.i E.bl E.j).sum->D' q=D q):bP ⟨M,T,b,hard,k,E.i,E.bl,E.j⟩ D' ino vs:=by
 have hv:=hs.vals;have h3:D' (fr E 3)=D (fr E 3):=hd _ (by omega) (by omega);have ht:∀m,1<=m->m<=E.i->D' (tq E m)=D (tq E m):=λm m1 m2=>hd _ (by unfold tq;omega) (by unfold tq;omega);have hq:∀b,1<=b->b<=E.bl->D' (dq E b)=D (dq E b):=λb b1 b2=>hd _ (by unfold dq;omega) (by unfold dq;omega);refine⟨λm m1 m2=>?_,h.ok,h.ing,λm m1 m2=>?_,λb b1 b2=>?_,?_,h.one,h.once⟩
 ·have:=h.is m m1 m2
  unfold dZ at*;exact(congrArg (λs=>ByteArray.extract s (zH m) (zH m+32)) (ht m m1 m2)).trans this
 ·have g:=h.ind m m1 m2
  exact⟨g.len,g.lt,g.no,λh0=>(hq _ (by omega) (h.ing m m1 m2).2.2.2.2).trans (g.has h0)⟩
 ·have g:=h.bit b b1 b2
  rw[<-h3]at g;exact g
 ·have g:=h.zero
  rw[<-h3]at g;exact g
theorem Ja (hs:Small E) (h:Tie E K D ino) (M:Nat) (T:xL) (b:dN) (hard:List ByteArray) (k:Nat) (hd:∀q,fr E 2<=q->q<(mI E.i E.bl E.j).sum->D' q=D q):Tie ⟨M,T,b,hard,k,E.i,E.bl,E.j⟩ K D' ino:=by
 have hv:=hs.vals;have h2:D' (fr E 2)=D (fr E 2):=hd _ (ah _) (by omega);have:=h;unfold Tie at*;rw[<-h2]at this;exact this
def PD (E:Im) (K:Nat->Nat×Nat) (D:aZ):Prop:=∃ino vs,bP E D ino vs/\Tie E K D ino
theorem cG (hs:Small E):Ins E (PD E K):=λD D' ⟨ino,vs,o,t⟩ hd=>⟨ino,vs,sS hs o _ _ _ _ _ hd,Ja hs t _ _ _ _ _ hd⟩
theorem Mu (hs:Small E) (h:PD E K D) (M:Nat) (T:xL) (hard:List ByteArray) (k:Nat):PD (wZ E M T hard k) K D:=by
 obtain⟨ino,vs,o,t⟩:=h;exact⟨ino,vs,sS hs o _ _ _ _ _ (λ_ _ _=>rfl),Ja hs t _ _ _ _ _ (λ_ _ _=>rfl)⟩
theorem im_pd (hs:Small E) {M:Nat} {T:xL} {hard:List ByteArray} {k:Nat} (h:PD (wZ E M T hard k) K D):PD E K D:=by
 obtain⟨ino,vs,o,t⟩:=h;have hs2:Small (wZ E M T hard k):=⟨hs.may,hs.hi,hs.hb,hs.hj⟩;exact⟨ino,vs,sS hs2 o E.M E.T E.b E.hard E.k (λ_ _ _=>rfl),Ja hs2 t E.M E.T E.b E.hard E.k (λ_ _ _=>rfl)⟩
theorem cH {r:Rw} {S:Tr.T} (hs:Small E) (hIn:r.In) (hm:Re.May r.rc) (hpg:0<=r.page) (hI:Tr.Inv E.i S) (hH:Hd S) (ho:Tr.Ok E.i r.rc S):Mx E r True (PD E (kl S)) (PD E (kl (Tr.next r.rc S))):=by
 intro M T hard k hj hl W D h hp;have hs2:Small (wZ E M T hard k):=⟨hs.may,hs.hi,hs.hb,hs.hj⟩
 have hA:PK (wZ E M T hard k) (kl S) W:=by
  obtain⟨ino,vs,o,t⟩:=Mu hs hp M T hard k;exact⟨D,ino,vs,h.mono (λ_ q=>q.elim),o,t⟩
 refine(Zu (m:=T.m) (M:=M) (Q:=True) (A:=PK (wZ E M T hard k) (kl S)) (B:=PK (wZ E M T hard k) (kl (Tr.next r.rc S))) W hm hpg (λW hA=>?_) uF uF hA).mono ?_
 ·obtain⟨o1,o2⟩:=hm.op
  have hop:r.op=1\/r.op=2\/r.op=3\/r.op=4\/r.op=5\/r.op=6\/r.op=7:=by have o1:1<=r.op:=o1;have o2:r.op<=7:=o2;omega
  rcases hop with e|e|e|e|e|e|e
  ·rw[show dF r.op=107 by rw[e];rfl];exact act1 hs2 hIn hm hI e ho hA
  ·rw[show dF r.op=108 by rw[e];rfl];exact act2 hs2 hIn hm hI e ho hA
  ·rw[show dF r.op=109 by rw[e];rfl];exact act3 hs2 hIn hm hI hH e ho hA
  ·rw[show dF r.op=110 by rw[e];rfl];exact act4 hs2 hIn hm hI hH e ho hA
  ·rw[show dF r.op=111 by rw[e];rfl];exact act5 hs2 hm hI e ho hA
  ·rw[show dF r.op=112 by rw[e];rfl];exact act6 hs2 hm hpg hI e ho hA
  ·rw[show dF r.op=113 by rw[e];rfl];exact act7 hs2 hI hH e ho hA
 ·rintro e W' hr
  refine Rs.to (show Rs (λc=>c=T.m) True (PK (wZ E M T hard k) (kl (Tr.next r.rc S))) W e W' from hr) ?_;rintro W2 ⟨D',ino,vs,h2,o,t⟩;exact⟨D',h2,im_pd hs ⟨ino,vs,o,t⟩⟩
end
open Dir
section
variable {E:Im} {D D':aZ} {ino:Nat->aP} {vs:Nat->List Nat} {es:List bC} {w:World} {b:Bool} {k l s:Nat}
def zJ (E:Im) (es:List bC) (b:Bool) (k l s:Nat) (D:aZ):Prop:=∃ino vs,CX E D ino vs es/\dn (D (fr E 2)) 2=b/\((ino 2).kind=k/\(ino 2).links=l/\(ino 2).size=s)/\∀n,3<=n->n<=E.i->ino n=dY
def Al (E:Im) (es:List bC) (b:Bool) (k l s:Nat) (W:World):Prop:=∃D,IS W E D (ZS E)/\zJ E es b k l s D
structure Ax (E:Im):Prop where
 small:Small E
 ei:E.i=8
 eb:E.bl=16
 ej:E.j=40
theorem Ax.full (x:Ax E) (hl:E.hard.length=(mI E.i E.bl E.j).sum):fV E (ZS E)->False:=by
 refine GC x.small ?_;rw[hl];have hv:=x.small.vals;obtain⟨hs,ei,eb,ej⟩:=x;obtain⟨M,T,b,hard,k,i,bl,j⟩:=E;cases ei;cases eb;cases ej;exact(by decide:(mI 8 16 40).sum<=cB 8 16 40 2+fH 40)
theorem zu:qY E.T.m (Al E es b k l s):=⟨λW W' ⟨D,h,g⟩ hb=>⟨D,h.later hb,g⟩,λW ⟨D,h,g⟩=>sD h⟩
theorem My (f:CX E D ino vs es) (hs:Small E) (o:bP E D' ino vs) (h:∀q,1<=q->q<=E.bl->D' (dq E q)=D (dq E q)):CX E D' ino vs es:=by
 have ei:1<=E.i:=by have:=hs.vals;omega
 refine⟨o,⟨f.root.dir,f.root.kind,f.root.links,f.root.size,λp hp=>?_⟩,f.two,f.has⟩;have e:=f.root.pg p hp;have hq:=f.has p hp;unfold xw at*;rw[if_neg hq]at*;have hb:=f.own.fD (ah 1) ei (f.own.mg (ah 1) ei hq);rw[h _ hb.1 hb.2,e]
theorem imapF (f:CX E D ino vs es) (hs:Small E) (s:ByteArray):CX E (upd D (fr E 2) s) ino vs es:=My f hs (f.own.Wc hs s) λq q1 _=>upd_ne _ _ ((wY hs).2.2 q q1).symm
abbrev R2 (E:Im) (R:World->Prop):World->Ending->World->Prop:=Rs (λc=>c=E.T.m) False R
theorem Jb {R:World->Prop} {e:Ending} {W:World} (h:Out (ι J 0) (ι J 4) (Wr E D' (ZS E) w) (Fu E False w) e W) (hR:IS W E D' (ZS E)->R W):R2 E R w e W:=by
 rcases h with⟨rfl,g⟩|⟨rfl,g⟩
 ·exact⟨0,rfl,g.2,λ_=>hR g.1,λq=>absurd rfl q⟩
 ·exact g.1.1.elim
theorem GS {x:aP} {v:List Nat} (ho:x.Ok) (h64:x.size<=64) (hv:dS E D x.ind v) {b:Nat} (hb:b∈blks x v):b=x.d0/\b≠0:=by
 have key:∀(k v:Nat),x.row[k]? =some v->1<=k->v=0:=λk v hk k1=>Classical.byContradiction λq=>by
  rcases ho with rfl|hu
  ·exact q (by have:=List.mem_of_getElem? hk;simp[aP.row,dY]at this;exact this)
  ·have:=(hu.row k v hk q).1
   unfold aQ at this;omega
 have k1:=key 1 x.d1 rfl (by omega);have k2:=key 2 x.d2 rfl (by omega);have k3:=key 3 x.d3 rfl (by omega);have k4:=key 4 x.ind rfl (by omega);obtain⟨hb0,hm⟩:=(eY hv.len b).1 hb;refine⟨?_,hb0⟩
 rcases hm with q|q|q
 ·simp only[iI,List.mem_cons,List.not_mem_nil,or_false]at q
  omega
 ·rw[hv.no k4]at q
  exact absurd (List.eq_of_mem_replicate q) hb0
 ·exact absurd (q.trans k4) hb0
theorem Qk (x:Ax E) (o:bP E D ino vs) (h:∀n,1<=n->n<=2->(ino n).size<=64) (h3:∀n,3<=n->n<=E.i->ino n=dY) (hz:(D (fr E 3)).size=64):((bg E D).2=false\/(bg E (Cw E D)).2=false)->False:=by
 obtain⟨r1,r2⟩:=aE o x.small hz [(ino 1).d0,(ino 2).d0] (by rw[x.eb];simp) (λb b1 b2 hb=>by
  obtain⟨m,m1,m2,hm⟩:=(o.bit b b1 b2).1 hb
  have hsz:(ino m).size<=64:=by
   rcases Nat.lt_or_ge m 3 with q|q
   ·exact h m m1 (by omega)
   ·rw[h3 m q m2];exact aB _
  obtain⟨e,e0⟩:=GS (o.ok m m1 m2) hsz (o.ind m m1 m2) hm
  have hc:m=1\/m=2:=by
   rcases Nat.lt_or_ge m 3 with q|q
   ·omega
   ·rw[h3 m q m2]at e;exact absurd e e0
  rcases hc with rfl|rfl
  ·rw[e];simp
  ·rw[e];simp)
 rintro(q|q)
 ·rw[r1]at q;cases q
 ·rw[r2]at q;cases q
theorem zJ.one (x:Ax E) (f:CX E D ino vs es) (he:es.length<=2):(ino 1).size<=64:=by
 have:=f.root.size;rw[aV,kg f.root.dir.ok]at this;omega
theorem Ha (x:Ax E) (h:Al E es false 0 0 0 w):Calls prog 175 #[E.M,ι F 2] w (R2 E (Al E es true 0 0 0) w):=by
 obtain⟨D,g,ino,vs,f,hb,hx,h3⟩:=h;have hZ:=uZ x.small g.len g;have h64:(D (fr E 2)).size=64:=g.sec (jo x.small g (.inl rfl));exact(RF (Q:=False) 2 w x.small g (by omega) (by rw[x.ei];omega) hb hZ.1 (x.full g.len)).mono λe W h=>Jb h λg2=>⟨_,g2,ino,vs,imapF f x.small _,by rw[upd_same,fE _ _ _ _ (by omega),if_pos rfl],hx,h3⟩
theorem WP (f:bP E D ino vs) (hs:Small E) (n:Nat) (y:aP) (h1:1<=n) (hn:n<=E.i):Nc E D (dI E D n y) ino vs n:=
 ⟨bU ((wY hs).2.1 n),λm b m1 m2 _ hb=>bU (fu hs (f.fD m1 m2 hb).1 h1 hn)⟩
theorem Sm (x:Ax E) (y:aP) (hy:y.Ok) (hk:y.kind≠2) (h:IS w E D (ZS E)) (f:CX E D ino vs es) (hb:dn (D (fr E 2)) 2=b) (h3:∀n,3<=n->n<=E.i->ino n=dY) (hr:y.row=(ino 2).row):Calls prog 177 #[E.M,ι F 2,y.val] w (R2 E (Al E es b y.kind y.links y.size) w):=by
 have hZ:=uZ x.small h.len h;have e8:2<=E.i:=by rw[x.ei];omega
 have o2:=(WP f.own x.small 2 y (by omega) e8);refine(jg (Q:=False) 2 y w x.small h (by omega) e8 hy (hZ.2.2.1 2 (by omega) e8) (x.full h.len)).mono λe W h2=>Jb h2 λg2=>⟨_,g2,_,_,f.file (ah 2) e8 (f.own.dI x.small 2 y (by omega) e8 (h.sec (pQ x.small h.len (by omega) e8)) hy hr) o2 hk,by rw[o2.1];exact hb,by rw[bH];exact⟨rfl,rfl,rfl⟩,λn q1 q2=>by rw[dD _ _ (by omega)];exact h3 n q1 q2⟩
theorem Al.none (o:bP E D ino vs) (x:Ax E) (hk:(ino 2).kind=0):ino 2=dY:=(o.ok 2 (by omega) (by rw[x.ei];omega)).resolve_right λu=>by have:=u.kind;omega
theorem Hb (x:Ax E) (h:Al E es true 0 0 0 w):Calls prog 177 #[E.M,ι F 2,γ #[ι aF 1,ι I 1,ι F 0,ι I 0,ι I 0,ι I 0,ι I 0,ι I 0]] w (R2 E (Al E es true 1 1 0) w):=by
 obtain⟨D,g,ino,vs,f,hb,hx,h3⟩:=h
 have hy:(⟨1,1,0,0,0,0,0,0⟩:aP).Ok:=by
  refine .inr ⟨.inl rfl,by decide,by decide,(λq=>by cases q),λj v hj hv=>?_,λv hv=>?_⟩
  ·have hm:=List.mem_of_getElem? hj
   simp[aP.row]at hm
   exact absurd hm hv
  ·simp[aP.row]at hv;omega
 exact Sm x ⟨1,1,0,0,0,0,0,0⟩ hy (by decide) g f hb h3 (by rw[Al.none f.own x hx.1];rfl)
theorem cL (x:Ax E) (h:Al E [] b k l s w) (hs:s<=64):Calls prog 179 #[E.M,ι F 1,σ ⟨#[97]⟩,ι F 2] w (R2 E (Al E [([97],2),([],0)] b k l s) w):=by
 obtain⟨D,g,ino,vs,f,hb,hx,h3⟩:=h;have hZ:=uZ x.small g.len g;have eA:Cy (L ⟨#[97]⟩) 2 ([]:List bC)=(0,[([97],2),([],0)]):=by decide
 refine(Gk (Q:=False) 2 ⟨#[97]⟩ w x.small hZ g f (by decide) (by decide) (x.full g.len) (λes' D1 y us e1 o hy hz=>?_)).mono ?_
 ·rw[eA]at e1
  cases e1;refine Qk x o (λn n1 n2=>?_) (λn n1 n2=>by rw[dD _ _ (by omega)];exact h3 n n1 n2) hz
  rcases(by omega:n=1\/n=2)with rfl|rfl
  ·rw[bH,hy];decide
  ·rw[dD _ _ (by omega),hx.2.2];exact hs
 ·rintro e W ⟨c,rfl,t,r0,r1,r2⟩
  have hc:c=0:=Classical.byContradiction λq=>by
   rcases r2 q with r|r
   ·exact r
   ·rw[eA]at r
    exact q r
  subst hc;obtain⟨D',y,us,es',g1,g2,g3,g4,g5⟩:=r0 rfl;rw[eA]at g5;cases g5;exact⟨0,rfl,t,λ_=>⟨D',g1,_,_,g2,by rw[g3.1];exact hb,by rw[dD _ _ (by decide)];exact hx,λn n1 n2=>by rw[dD _ _ (by omega)];exact h3 n n1 n2⟩,λq=>absurd rfl q⟩
theorem cP (x:Ax E) (h:Al E [([97],2),([],0)] b k l s w) (hs:s<=64):Calls prog 261 #[E.M,ι F 1,σ ⟨#[97]⟩] w (LvR (λc=>c=E.T.m) False 2 (Al E [([],0),([],0)] b k l s) w):=by
 obtain⟨D,g,ino,vs,f,hb,hx,h3⟩:=h;have hZ:=uZ x.small g.len g;have d:=f.root.dir;have eD:IQ [97] [([97],2),([],0)]=(0,[([],0),([],0)]):=by decide
 have d2:Dir [([],0),([],0)]:=by have:=(ZN d eD).1;exact this
 have DL:=λW=>Dir.QZ (B (dW [([97],2),([],0)])) ⟨#[97]⟩ W (by decide) (by decide);rw[iy,show L ⟨#[97]⟩=[97]from rfl,Mk d [97],eD]at DL;refine(Mr E.M 1 2 ⟨#[97]⟩ (B (dW [([97],2),([],0)])) (B (dW [([],0),([],0)])) 0 w (λc W=>c=0/\aR (λc=>c=E.T.m) w W/\Al E [([],0),([],0)] b k l s W) (f.text w x.small g) DL (λq=>absurd rfl q) ?_ ?_).mono ?_
 ·intro _ W hb1
  refine(Mv (Q:=False) [([],0),([],0)] W x.small hZ (g.later hb1) f d2 (by decide) (x.full g.len) (λD1 y us o hy hz=>?_)).mono ?_
  ·refine Qk x o (λn n1 n2=>?_) (λn n1 n2=>by rw[dD _ _ (by omega)];exact h3 n n1 n2) hz
   rcases(by omega:n=1\/n=2)with rfl|rfl
   ·rw[bH,hy];decide
   ·rw[dD _ _ (by omega),hx.2.2];exact hs
  ·rintro e W' (⟨rfl,⟨D',y,us,g1,g2,g3,g4⟩,t⟩|⟨rfl,hq,t⟩)
   ·exact⟨0,rfl,rfl,(aR.of_below hb1).trans t,D',g1,_,_,g2,by rw[g3.1];exact hb,by rw[dD _ _ (by decide)];exact hx,λn n1 n2=>by rw[dD _ _ (by omega)];exact h3 n n1 n2⟩
   ·exact hq.elim
 ·rintro c W W' ⟨r1,r2,r3⟩ b
  exact⟨r1,r2.trans (aR.of_below b),zu.1 _ _ r3 b⟩
 ·rintro e W ⟨u,c,rfl,⟨rfl,r2,r3⟩,hu⟩
  exact⟨u,0,rfl,r2,λ_ _=>r3,λq=>by rcases q with q|q;exact q rfl;exact q (hu rfl)⟩
theorem yD (x:Ax E) (h:Al E es b k l s w) (hk:k≠0) (t:Nat) (ht:t<=2304):Calls prog 197 #[E.M,ι F 2,ι F t] w (R2 E (Al E es b k l t) w):=by
 obtain⟨D,g,ino,vs,f,hb,hx,h3⟩:=h;obtain⟨z2,z3,zt,zd⟩:=uZ x.small g.len g;have hs:=x.small;have h1:1<=2:=by omega
 have hn:2<=E.i:=by rw[x.ei];omega
 have o:=f.own;have hok:=o.ok 2 h1 hn;have hk2:(ino 2).kind≠0:=by rw[hx.1];exact hk
 have hu:(ino 2).Used:=hok.resolve_left (λe=>hk2 (by rw[e];rfl));have hs3:(D (fr E 3)).size=64:=g.sec (jo hs g (.inr rfl));have hst:=g.sec (pQ hs g.len h1 hn);have hd:(ino 2).kind=2->t%64=0:=λq=>absurd q (f.two 2 (ah 2) hn);have ek:(sized (bf (ino 2) (aQ t)) t).kind=(ino 2).kind:=by unfold sized bf;split<;>rfl
 have el:(sized (bf (ino 2) (aQ t)) t).links=(ino 2).links:=by unfold sized bf;split<;>rfl
 have MV:=o.Qh hs 2 t h1 hn;exact(yc (Q:=False) 2 t (ino 2) (vs 2) w hs g h1 hn (o.is 2 h1 hn) hok hk2 (o.ing 2 h1 hn) (o.ind 2 h1 hn) ht hd (o.hfr hs 2 _ h1 hn hs3) (uh hu ht hd) (qJ (o.ing 2 h1 hn)) (o.hyv hs 2 _ h1 hn) z3 (zt 2 h1 hn) (λc c1 c2 _=>zd c c1 c2) (x.full g.len)).mono λe W h2=>Jb h2 λg2=>⟨_,g2,_,_,f.file (ah 2) hn (o.rsz hs 2 t h1 hn hst hs3 hu ht hd) MV (by rw[ek];exact f.two 2 (ah 2) hn),by rw[MV.1];exact hb,by rw[bH,ek,el];exact⟨hx.1,hx.2.1,rfl⟩,λn n1 n2=>by rw[dD _ _ (by omega)];exact h3 n n1 n2⟩
theorem Hc (x:Ax E) (h:Al E es b k l 64 w) (hk:k≠0) (he:es.length<=2) (d:ByteArray) (hd:d.size=64):Calls prog 201 #[E.M,ι F 2,ι J 0,σ d] w (R2 E (Al E es b k l 64) w):=by
 obtain⟨D,g,ino,vs,f,hb,hx,h3⟩:=h;obtain⟨z2,z3,zt,zd⟩:=uZ x.small g.len g;have hs:=x.small;have h1:1<=2:=by omega
 have hn:2<=E.i:=by rw[x.ei];omega
 have o:=f.own;have hok:=o.ok 2 h1 hn;have hk2:(ino 2).kind≠0:=by rw[hx.1];exact hk
 have hu:(ino 2).Used:=hok.resolve_left (λe=>hk2 (by rw[e];rfl));have hs3:(D (fr E 3)).size=64:=g.sec (jo hs g (.inr rfl));have hst:=g.sec (pQ hs g.len h1 hn);refine(oM (Q:=False) 2 0 d w hs g o h1 hn hk2 (by rw[hx.2.2];omega) hd z3 (zt 2 h1 hn) (λc c1 c2 _=>zd c c1 c2) (x.full g.len) (Qk x o (λn n1 n2=>?_) h3 hs3)).mono ?_
 ·rcases(by omega:n=1\/n=2)with rfl|rfl
  ·exact zJ.one x f he
  ·rw[hx.2.2];exact ah _
 ·rintro e W (⟨rfl,D',y,us,sp,g2⟩|⟨rfl,g2⟩)
  ·have MV:=SP.MV o hs h1 hn hs3 sp
   have sm:=sp.same;exact⟨0,rfl,g2.2,λ_=>⟨D',g2.1,_,_,f.file (ah 2) hn (sp.owns o hs h1 hn hst hs3 (by omega)) MV (by rw[sm.1];exact f.two 2 (ah 2) hn),by rw[MV.1];exact hb,by rw[bH,sm.1,sm.2.1,sm.2.2];exact hx,λn n1 n2=>by rw[dD _ _ (by omega)];exact h3 n n1 n2⟩,λq=>absurd rfl q⟩
  ·exact g2.1.1.elim
theorem Hh (x:Ax E) (h:Al E es true k l s w):Calls prog 271 #[E.M,ι F 2] w (R2 E (λW=>∃D,IS W E D (ZS E)) w):=by
 obtain⟨D,g,ino,vs,f,hb,hx,h3⟩:=h;obtain⟨z2,z3,zt,zd⟩:=uZ x.small g.len g;have hn:2<=E.i:=by rw[x.ei];omega
 exact(Si (Q:=False) 2 w x.small g (by omega) hn hb z2 (zt 2 (by omega) hn) (x.full g.len)).mono λe W h2=>Jb h2 λg2=>⟨_,g2⟩
end
section
variable {E:Im} {D D':aZ} {es es':List bC} {w:World} {b b':Bool} {k l s k' l' s':Nat}
theorem Jc (hs:Small E) (h:zJ E es b k l s D) (M:Nat) (T:xL) (bb:dN) (hard:List ByteArray) (kk:Nat) (hd:∀q,fr E 2<=q->q<(mI E.i E.bl E.j).sum->D' q=D q):zJ ⟨M,T,bb,hard,kk,E.i,E.bl,E.j⟩ es b k l s D':=by
 obtain⟨ino,vs,f,hb,hx,h3⟩:=h;have hv:=hs.vals;have f2:=My f hs (sS hs f.own E.M E.T E.b E.hard E.k hd) (λq q1 q2=>hd _ (by unfold dq;omega) (by unfold dq;omega));refine⟨ino,vs,⟨sS hs f.own M T bb hard kk hd,⟨f2.root.dir,f2.root.kind,f2.root.links,f2.root.size,f2.root.pg⟩,f2.two,f2.has⟩,?_,hx,h3⟩;rw[<-hb,<-hd (fr E 2) (ah _) (by omega)]
 rfl
theorem vg (hs:Small E):Ins E (zJ E es b k l s):=λD D' h hd=>Jc hs h E.M E.T E.b E.hard E.k hd
theorem Jd {r:Rw} {B:Im->World->Prop} {P':aZ->Prop} (x:Ax E) (hm:Re.May r.rc) (hpg:0<=r.page) (act:∀E':Im,Ax E'->∀W,Al E' es b k l s W->Calls prog (dF r.op) #[γ #[E'.M],γ (dX r)] W (R2 E' (B E') W)) (sB:∀E',qY E'.T.m (B E')) (hB:∀M T hard k W,B (wZ E M T hard k) W->∃D',IS W (wZ E M T hard k) D' (ZS (wZ E M T hard k))/\P' D'):Mx E r False (zJ E es b k l s) P':=by
 intro M T hard kk hj hl W D h hp;have x':Ax (wZ E M T hard kk):=⟨⟨x.small.may,x.small.hi,x.small.hb,x.small.hj⟩,x.ei,x.eb,x.ej⟩;refine(Zu (m:=T.m) (M:=M) (Q:=False) (A:=Al (wZ E M T hard kk) es b k l s) (B:=B (wZ E M T hard kk)) W hm hpg (λW hA=>act _ x' W hA) zu (sB _) ⟨D,h.mono (λ_ q=>q.elim),Jc x.small hp M T E.b hard kk (λ_ _ _=>rfl)⟩).mono ?_;rintro e W' hr;refine Rs.to (show Rs (λc=>c=T.m) False (B (wZ E M T hard kk)) W e W' from hr) ?_;intro W2 h2;obtain⟨D2,g,hp2⟩:=hB M T hard kk W2 h2;exact⟨D2,g.mono (λq hq=>hq.1),hp2⟩
theorem Xs (hs:Small E) (M:Nat) (T:xL) (hard:List ByteArray) (kk:Nat) (W:World) (h:Al (wZ E M T hard kk) es b k l s W):∃D',IS W (wZ E M T hard kk) D' (ZS (wZ E M T hard kk))/\zJ E es b k l s D':=by
 obtain⟨D,g,a⟩:=h;exact⟨D,g,Jc (E:=wZ E M T hard kk) ⟨hs.may,hs.hi,hs.hb,hs.hj⟩ a E.M E.T E.b E.hard E.k (λ_ _ _=>rfl)⟩
def nmA:ByteArray:=⟨#[97]⟩
def z64:ByteArray:=B (List.replicate 64 0)
def q1:Rw:=⟨0,1,1,nmA,2,1,0,⟨#[]⟩,0,0,0,⟨#[]⟩⟩
def q2:Rw:=⟨0,6,0,⟨#[]⟩,2,0,0,⟨#[]⟩,0,64,0,z64⟩
def q3:Rw:=⟨0,3,1,nmA,2,1,0,⟨#[]⟩,0,0,0,⟨#[]⟩⟩
def q4:Rw:=⟨0,7,0,⟨#[]⟩,2,0,0,⟨#[]⟩,0,0,0,⟨#[]⟩⟩
def Ng:List bC:=[([97],2),([],0)]
def Wd:List bC:=[([],0),([],0)]
theorem may1:Re.May q1.rc:=by constructor<;>decide
theorem may2:Re.May q2.rc:=by constructor<;>decide
theorem may3:Re.May q3.rc:=by constructor<;>decide
theorem may4:Re.May q4.rc:=by constructor<;>decide
theorem one1 (x:Ax E):Mx E q1 False (zJ E [] false 0 0 0) (zJ E Ng true 1 1 0):=
 Jd x may1 (by decide) (λE' x' W h=>QU (r:=q1) (A:=Al E' [] false 0 0 0) (B:=Al E' [] true 0 0 0) (C:=Al E' [] true 1 1 0) (λW h=>Ha x' h) (λW h=>Hb x' h) (λW h=>cL x' h (by decide)) zu h) (λ_=>zu) (Xs x.small)
theorem MB (x:Ax E) (h:IS w E D (ZS E)) {ino:Nat->aP} {vs:Nat->List Nat} (f:CX E D ino vs es) {n:Nat} (h1:1<=n) (hn:n<=E.i):Calls prog 48 #[E.M,ι F n] w (Rd (τ #[(ino n).val,ι J 0]) w):=(wO n (ino n) w x.small h h1 hn (f.own.is n h1 hn) (f.own.ok n h1 hn)).mono λe W h=>h
theorem Ys:qY E.T.m (λW=>IS W E D (ZS E)):=⟨λW W' h hb=>h.later hb,λW h=>sD h⟩
theorem kS (x:Ax E):Mx E q2 False (zJ E Ng true 1 1 0) (zJ E Ng true 1 1 64):=
 Jd x may2 (by decide) (λE' x' W h=>by
  obtain⟨D,g,ino,vs,f,hb,hx,h3⟩:=h;exact QV (r:=q2) (x:=ino 2) (A:=λW=>IS W E' D (ZS E')) (B:=Al E' Ng true 1 1 64) (C:=Al E' Ng true 1 1 64) 0 64 rfl (by decide) rfl hx.1 (λW h=>MB x' h f (by decide) (by rw[x'.ei];decide)) (λv hv W h=>by rw[hx.2.2]at hv;subst hv;exact yD x' ⟨D,h,ino,vs,f,hb,hx,h3⟩ (by decide) 64 (by decide)) (λW h=>Hc x' h (by decide) (by decide) z64 (by decide)) (λW h=>yD x' h (by decide) 64 (by decide)) Ys g) (λ_=>zu) (Xs x.small)
theorem one3 (x:Ax E):Mx E q3 False (zJ E Ng true 1 1 64) (zJ E Wd true 1 0 64):=
 Jd x may3 (by decide) (λE' x' W h=>EI (r:=q3) (A:=Al E' Ng true 1 1 64) (B:=Al E' Wd true 1 1 64) (C:=Al E' Wd true 1 0 64) (λW h=>Kz 1 2 nmA (λW h=>cP x' h (by decide)) zu h) (λW h=>by
  obtain⟨D,g,ino,vs,f,hb,hx,h3⟩:=h;have hn:2<=E'.i:=by rw[x'.ei];decide
  have hu:(ino 2).Used:=(f.own.ok 2 (by decide) hn).resolve_left λe=>by have:=hx.1;rw[e]at this;cases this
  have e:({ino 2 with links:=(ino 2).links-1}:aP)={ino 2 with links:=0}:=by rw[hx.2.1]
  exact QT (x:=ino 2) (n:=2) (A:=λW=>IS W E' D (ZS E')) hx.1 (by rw[hx.2.1];decide) (by rw[hx.2.1];decide) (λW h=>MB x' h f (by decide) hn) (λW h=>by
   rw[e];have:=Sm x' {ino 2 with links:=0} (.inr {hu with links:=by simp}) (by show(ino 2).kind≠2;rw[hx.1];decide) h f hb h3 rfl;rw[show({ino 2 with links:=0}:aP).kind=1 from hx.1,show({ino 2 with links:=0}:aP).size=64 from hx.2.2]at this;exact this) Ys g) zu h) (λ_=>zu) (Xs x.small)
theorem one4 (x:Ax E):Mx E q4 False (zJ E Wd true 1 0 64) (λ_=>True):=
 Jd (B:=λE' W=>∃D,IS W E' D (ZS E')) x may4 (by decide) (λE' x' W h=>by
  obtain⟨D,g,ino,vs,f,hb,hx,h3⟩:=h;exact QW (r:=q4) (x:=ino 2) (A:=λW=>IS W E' D (ZS E')) (B:=Al E' Wd true 1 0 0) hx.1 hx.2.1 (λW h=>MB x' h f (by decide) (by rw[x'.ei];decide)) (λW h=>yD x' ⟨D,h,ino,vs,f,hb,hx,h3⟩ (by decide) 0 (by decide)) (λW h=>Hh x' h) Ys g) (λE'=>⟨λW W' ⟨D,h⟩ hb=>⟨D,h.later hb⟩,λW ⟨D,h⟩=>sD h⟩) (λM T hard k W ⟨D,h⟩=>⟨D,h,trivial⟩)
end
end Ap
namespace Ap
open Oct Tr
def s1:T:=JZ eX 8 1 ⟨#[97]⟩ 1 2
def TI (q:Nat) (S:T) (t:Nat) (O:Nat->Prop) (W:World):Prop:=∃E:TL,E.t=t/\E.O=O/\aU W E 8 q S/\∀c,O c->c<W.heap.size
def T0:Nat->(Nat->Prop)->World->Prop:=TI 0 eX
def T1 (n t:Nat) (O:Nat->Prop) (W:World):Prop:=∃S,((S.n 2).kind=1/\(S.n 2).links=1/\(S.n 2).data.length=n)/\TI 1 S t O W
def MC (Nx:Nat->(Nat->Prop)->World->Prop) (t:Nat) (O:Nat->Prop) (w:World) (e:Ending) (w':World):Prop:=e=aG (ι J 0)/\aR O w w'/\∃O',(∀c,O' c->O c\/w.heap.size<=c)/\Nx t O' w'
section
variable {t:Nat} {O:Nat->Prop} {w W:World} {q:Nat} {S:T}
theorem TI.later (h:TI q S t O w) (hb:Below w.heap.size w W):TI q S t O W:=by
 obtain⟨E,rfl,rfl,h,hl⟩:=h;exact⟨E,rfl,rfl,h.later hb,λc hc=>aA (hl c hc) hb.size⟩
theorem TI.of {E:TL} (h:aU W E 8 q S):∃O',(∀c,O' c->E.O c)/\TI q S E.t O' W:=by
 refine⟨λc=>c=E.t\/c=E.m\/∃x,(S.n x).kind≠0/\(c=E.P x\/c=E.A x\/c=E.B x),λc hc=>?_,{E with O:=λc=>c=E.t\/c=E.m\/∃x,(S.n x).kind≠0/\(c=E.P x\/c=E.A x\/c=E.B x)},rfl,rfl,{h with own:=⟨.inl rfl,.inr (.inl rfl),λx hx=>⟨.inr (.inr ⟨x,hx,.inl rfl⟩),.inr (.inr ⟨x,hx,.inr (.inl rfl)⟩),.inr (.inr ⟨x,hx,.inr (.inr rfl)⟩)⟩⟩},λc hc=>?_⟩
 ·rcases hc with rfl|rfl|⟨x,hx,rfl|rfl|rfl⟩
  ·exact h.own.1
  ·exact h.own.2.1
  ·exact(h.own.2.2 x hx).1
  ·exact(h.own.2.2 x hx).2.1
  ·exact(h.own.2.2 x hx).2.2
 ·rcases hc with rfl|rfl|⟨x,hx,rfl|rfl|rfl⟩
  ·exact h.top.lt
  ·exact h.map.lt
  ·exact(h.nd x hx).lt
  ·exact(h.ent x hx).lt
  ·obtain⟨g,_,hv⟩:=h.pg x hx
   exact hv.lt
theorem s1_e:vP eX 8 1 ⟨#[97]⟩ 1 2=0:=by decide
theorem s1_n:s1.n 2=⟨1,1,0,0,[]⟩:=by
 unfold s1 JZ;rw[if_pos s1_e]
 rfl
theorem T1.later {n:Nat} (h:T1 n t O w) (hb:Below w.heap.size w W):T1 n t O W:=by
 obtain⟨S,hx,h⟩:=h;exact⟨S,hx,h.later hb⟩
theorem Hi (S:T) (d:Nm):(KS S 2 d).n 2={S.n 2 with data:=d}:=by
 show aS S.n 2 _ 2=_;unfold aS;exact if_pos rfl
theorem T1.set {n:Nat} {d:Nm} {E:TL} {e:Ending} {w':World} (hx:(S.n 2).kind=1/\(S.n 2).links=1) (hd:d.length=n) (he:e=aG (ι J 0)) (hT:aU w' E 8 1 (KS S 2 d)) (ht:aR E.O w w'):MC (T1 n) E.t E.O w e w':=by
 obtain⟨O',ho,h⟩:=TI.of hT;exact⟨he,ht,O',λc h=>.inl (ho c h),_,by rw[Hi];exact⟨hx.1,hx.2,hd⟩,h⟩
theorem T0.lt (h:T0 t O w) {c:Nat} (hc:O c):c<w.heap.size:=by
 obtain⟨E,rfl,rfl,h,hlt⟩:=h;exact hlt c hc
theorem T0.other {P:Nat->Prop} (h:T0 t O w) (ht:aR P w W) (hp:∀c,O c->¬P c):T0 t O W:=by
 obtain⟨E,rfl,rfl,h,hlt⟩:=h;exact⟨E,rfl,rfl,h.blocks λb hb ho=>ht.block b hb (hp b ho),λc hc=>aA (hlt c hc) ht.size⟩
theorem T0.later (h:T0 t O w) (hb:Below w.heap.size w W):T0 t O W:=TI.later h hb
theorem T1.lt {n:Nat} (h:T1 n t O w) {c:Nat} (hc:O c):c<w.heap.size:=by
 obtain⟨S,hx,E,rfl,rfl,h,hlt⟩:=h;exact hlt c hc
theorem Hj {w0:World} (hb:Below w0.heap.size w0 w) (t:aR O w W):aR O w0 W:=⟨t.os.trans hb.os,t.tape.trans hb.tape,t.output.trans hb.output,aD hb.size t.size,λc hc hn=>(t.block c (aA hc hb.size) hn).trans (hb.block c hc)⟩
theorem tnew (w:World):Calls prog 92 #[ι J 8] w λe w'=>∃t O,e=aG (τ #[G (some ⟨t,0,none⟩),ι J 0])/\T0 t O w'/\(∀c,O c->w.heap.size<=c)/\Below w.heap.size w w':=by
 refine(tO 8 w (by decide) (by decide)).mono ?_;rintro e w' ⟨E,rfl,hT,hO,hb⟩;obtain⟨O',ho,h⟩:=TI.of hT;exact⟨E.t,O',rfl,h,λc hc=>hO c (ho c hc),hb⟩
theorem tmake (h:T0 t O w):Calls prog 161 #[t,ι F 1,σ ⟨#[97]⟩,ι aF 1,ι F 2] w (MC (T1 0) t O w):=by
 obtain⟨E,rfl,rfl,h,hlt⟩:=h;refine(NT w h (Re.sJ (by decide)) (by decide) 1 ⟨#[97]⟩ 1 2 (by decide) (by decide) (by decide)).mono ?_;rintro e w' ⟨rfl,E',hx,hT,ht⟩;rw[s1_e];obtain⟨O',ho,h2⟩:=TI.of hT;rw[hx.t]at h2;exact⟨rfl,ht,O',λc hc=>hx.new c (ho c hc),s1,by rw[s1_n];exact⟨rfl,rfl,rfl⟩,h2⟩
theorem YY (h:T1 0 t O w) (d:ByteArray) (hd:d.size=64):Calls prog 247 #[t,ι F 2,ι J 0,σ d] w (MC (T1 64) t O w):=by
 obtain⟨S,hx,E,rfl,rfl,h,hlt⟩:=h;refine(YS w h 2 0 d (by decide) hx.1 (by decide) (by omega) (by omega)).mono ?_;rintro e w' ⟨he,hT,ht⟩;refine T1.set ⟨hx.1,hx.2.1⟩ ?_ he hT ht;have hl:(L d).length=64:=by rw[<-hd];exact Array.length_toList
 unfold wr jq
 simp[hx.2.2,hl]
theorem tsize (h:T1 64 t O w):Calls prog 248 #[t,ι F 2,ι F 64] w (MC (T1 64) t O w):=by
 obtain⟨S,hx,E,rfl,rfl,h,hlt⟩:=h;refine(UQ w h 2 64 (by decide) hx.1 (by decide)).mono ?_;rintro e w' ⟨he,hT,ht⟩;refine T1.set ⟨hx.1,hx.2.1⟩ ?_ he hT ht;unfold jq
 simp[hx.2.2]
theorem tstat (h:T1 64 t O w):Calls prog 25 #[t,ι F 2] w λe w'=>e=aG (τ #[γ #[ι F 2,ι aF 1,ι J 1,ι F 64],ι J 0])/\Below w.heap.size w w':=by
 obtain⟨S,hx,E,rfl,rfl,h,hlt⟩:=h;have:=JX w h 2 (by decide);unfold QD at this;rw[if_neg (by omega),hx.1,hx.2.1,hx.2.2]at this;exact this
theorem tnone (h:T0 t O w):Calls prog 25 #[t,ι F 2] w λe w'=>e=aG (τ #[γ #[ι F 0,ι aF 0,ι J 0,ι F 0],ι J 3])/\Below w.heap.size w w':=by
 obtain⟨E,rfl,rfl,h,hlt⟩:=h;exact JX w h 2 (by decide)
end
end Ap
namespace Ap
open Oct Dev mU Tx Geo qX Bm lC Dir
open Tr (eB jO Db vK)
def Sn (M t dm:Nat):Array Value:=#[M,t,.map (some dm)]
def cQ (h:Nat->Bool) (x:Nat):Option Value:=if h x then some (.agg #[])else none
structure Ld (w0:World) (M:Nat) (TP:Nat->(Nat->Prop)->World->Prop) (lb dm t nn:Nat) (O:Nat->Prop) (h:Nat->Bool) (W:World):Prop where
 lS:Below w0.heap.size w0 W
 own:∀c,O c->w0.heap.size<=c
 tree:TP t O W
 box:aN W lb 198 (Sn M t dm)
 done:cZ W 42 dm nn (eB F (cQ h))
 lo:w0.heap.size<=lb/\w0.heap.size<=dm/\¬O lb/\¬O dm
section
variable {E:Im} {D:aZ} {es:List bC} {w0 w:World} {M lb dm t nn:Nat} {O:Nat->Prop} {h:Nat->Bool} {TP TQ:Nat->(Nat->Prop)->World->Prop} {ino:Nat->aP} {vs:Nat->List Nat}
theorem Ld.qR (l:Ld w0 M TP lb dm t nn O h w) {O':Nat->Prop} {W:World} (ht:Tr.aR O w W) (ho:∀c,O' c->O c\/w.heap.size<=c) (hT:TQ t O' W):Ld w0 M TQ lb dm t nn O' h W:=by
 have hl:=l.box.lt;have hd:=l.done.lt;have hs:=l.lS.size;exact⟨l.lS.trans (ht.below λc hc=>⟨aA hc hs,λq=>by have:=l.own c q;omega⟩),λc q=>(ho c q).elim (l.own c) (λq=>by omega),hT,(ht.block _ hl l.lo.2.2.1).trans l.box,l.done.block (ht.block _ hd l.lo.2.2.2),l.lo.1,l.lo.2.1,λq=>(ho _ q).elim l.lo.2.2.1 (λq=>by omega),λq=>(ho _ q).elim l.lo.2.2.2 (λq=>by omega)⟩
theorem Ld.later (l:Ld w0 M TP lb dm t nn O h w) (hT:∀W,TP t O w->Below w.heap.size w W->TP t O W) {W:World} (hb:Below w.heap.size w W):Ld w0 M TP lb dm t nn O h W:=
 ⟨l.lS.trans (hb.mono l.lS.size),l.own,hT W l.tree hb,l.box.later hb,l.done.later hb,l.lo⟩
theorem pY {P P':Nat->Prop} {w1 w2:World} (h1:Tr.aR P w w1) (h2:Tr.aR P' w1 w2) (hp:∀c,c<w.heap.size->P' c->P c):Tr.aR P w w2:=⟨h2.os.trans h1.os,h2.tape.trans h1.tape,h2.output.trans h1.output,aD h1.size h2.size,λc hc hn=>(h2.block c (aA hc h1.size) λq=>hn (hp c hc q)).trans (h1.block c hc hn)⟩
theorem Ld.put (l:Ld w0 M Ap.T0 lb dm t nn O h w) (hn:nn<maxLen):∃W',(Instr.mapUpdate 196 (.map (some dm)) (.int F 2) (.agg #[])).run prog w=.ok () W'/\Ld w0 M Ap.T0 lb dm t (nn+1) O (λx=>x==2||h x) W'/\Tr.aR (λc=>c=dm) w W':=by
 obtain⟨W',hrun,hv,hm⟩:=l.done.put Db underlying196 hn (vK (x:=2) (by decide)) (.agg #[]);have tc:=Tr.aR.turned (O:=λc=>c=dm) hm rfl;have ne:lb≠dm:=l.done.ne l.box;refine⟨W',hrun,⟨l.lS.trans (tc.below λc hc=>⟨aA hc l.lS.size,λq=>by have:=l.lo.2.1;omega⟩),l.own,l.tree.other tc (λc q e=>l.lo.2.2.2 (e▸q)),(tc.block _ l.box.lt ne).trans l.box,?_,l.lo⟩,tc⟩;have hv:cZ W' 42 dm (nn+1) (lU (eB F (cQ h)) (.int F ((2:Nat):Int)) (.agg #[])):=hv;rw[Tr.dP]at hv
 have e:(λy=>if y=2 then some (Value.agg #[])else cQ h y)=cQ (λx=>x==2||h x):=by
  funext y
  unfold cQ
  by_cases q:y=2
  ·simp[q]
  ·simp[q]
 rw[e]at hv;exact hv
theorem zO (l:Ld w0 M TP lb dm t nn O h w) (n:Nat) (hn:n<4294967296):Calls prog 159 #[lb,.int F n] w λe w'=>e=aG (.bool (h n))/\Below w.heap.size w w':=by
 have X:=l.box.cell;have Xl:=l.box.lt;unfold Sn at X;have LK:=l.done.look_ok (t:=196) (e:=195) Tr.Db underlying196 (z:=.agg #[]) (by kernel_rfl) (key:=.int F n) (kl:=.int F n) (vK hn);rw[jO,show(cQ h n).getD (.agg #[])=.agg #[]by unfold cQ;split<;>rfl,show(cQ h n).isSome=h n by unfold cQ;split<;>simp_all]at LK;have HL:=l.done.lt;clear l
 go_enter func159,ntmps159
 go_wp2
 go_ret;exact⟨rfl,(aj _ _).alloc (ah _) _⟩
theorem oU (l:Ld w0 M (Ap.T1 0) lb dm t nn O h w) (x:aP) (hx:x.size=64) (s:ByteArray) (hs:s.size=64) (PG:∀W,Below w0.heap.size w0 W->Calls prog 156 #[M,.int F 2,.int J 0] W (Rd (τ #[.string s,.int J 0]) W)):
 Calls prog 162 #[lb,.int F 2,x.val] w (MC (Ap.T1 64) t O w):=by
 obtain⟨kind,links,size,d0,d1,d2,d3,ind⟩:=x;simp only at hx;subst hx;unfold aP.val;have hb:=(aj w.heap.size w).alloc (ah _) (aH #[.int aF kind,.int I links,.int F 64,.int I d0,.int I d1,.int I d2,.int I d3,.int I ind] 114);have Y0:=aN.new w 114 #[.int aF kind,.int I links,.int F 64,.int I d0,.int I d1,.int I d2,.int I d3,.int I ind];have HS:=U hs;have HO:=U (λc (q:O c)=>l.tree.lt q);have l1:=l.later (λW h hb=>h.later hb) hb;have P:=U (PG _ l1.lS);have HY:=U Y0;have HB:=U hb;have L1:=U l1;have X:=l1.box.cell;have Xl:=l1.box.lt;unfold Sn at X;have Y:=Y0.cell;have Yl:=Y0.lt;clear l l1 hb Y0 PG hs
 go_enter func162,ntmps162
 go_wp2_with fail;refine wp_loop_rounds 2 ?_;rw[rounds_succ];go_wp2_with fail;refine ak P.o ?_;rintro e w1 ⟨rfl,b1⟩;have l2:=L1.o.later (λW h hb=>h.later hb) b1;have WR:=U (YY l2.tree s HS.o);have dH:=U (HY.o.later b1);have L2:=U l2;have HB2:=U (HB.o.trans (b1.mono HB.o.size));clear X Xl Y Yl;have X:=l2.box.cell;have Xl:=l2.box.lt;unfold Sn at X;clear l2 b1;go_wp2_with fail;refine ak WR.o ?_;rintro e w2 ⟨rfl,t2,O2,ho2,CW⟩;have L3:=U (L2.o.qR t2 ho2 CW);have hY:=dH.o;have N1:Hid (¬O w.heap.size):=U λq=>Nat.lt_irrefl _ (HO.o _ q);have hY:aN w2 w.heap.size 114 _:=(t2.block _ hY.lt N1.o).trans hY;have xX:=U hY;have T3:=U (Hj HB2.o t2);have O3:Hid (∀c,O2 c->O c\/w.heap.size<=c):=U λc q=>(ho2 c q).imp_right λq=>aD HB2.o.size q;have WZ:=U (λW (hb:Below w2.heap.size w2 W)=>tsize (CW.later hb));have l3:=L3.o;have X:=l3.box.cell;have Xl:=l3.box.lt;unfold Sn at X;have Y:=hY.cell;have Yl:=hY.lt;clear t2 ho2 CW hY l3 dH L1 L2 WR HY P;go_wp2_with fail;rw[rounds_succ];go_wp2_with fail
 go_still_tail 7,(by kernel_rfl)
 change wpList _ _ _ _ _ w2.drew;have B4:=U ((aj w2.heap.size w2).drew);have T4:=U (T3.o.trans (⟨B4.o.os,B4.o.tape,B4.o.output,B4.o.size,λc hc _=>B4.o.block c hc⟩:Tr.aR O w2 w2.drew))
 generalize w2.drew=w3 at B4 T4⊢
 clear T3 X Xl Y Yl xX L3;go_wp2_with fail;refine ak (WZ.o w3 B4.o) ?_;rintro e w4 ⟨rfl,t4,O4,ho4,hT4⟩;have H4:=U (And.intro t4 (And.intro ho4 hT4));clear t4 ho4 hT4;go_wp2_with fail;go_ret;refine⟨rfl,?_,O4,λc q=>?_,H4.o.2.2⟩
 ·exact⟨H4.o.1.os.trans T4.o.os,H4.o.1.tape.trans T4.o.tape,H4.o.1.output.trans T4.o.output,aD T4.o.size H4.o.1.size,λc hc hn=>(H4.o.1.block c (aA hc T4.o.size) (λq=>(O3.o c q).elim hn (λq=>by omega))).trans (T4.o.block c hc hn)⟩
 ·rcases H4.o.2.1 c q with q|q
  ·exact O3.o c q
  ·exact .inr (aD T4.o.size q)
end
