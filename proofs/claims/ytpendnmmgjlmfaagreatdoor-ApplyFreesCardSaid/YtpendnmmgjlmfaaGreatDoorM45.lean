/- Lemmas. -/
import Derived.Test.YtpendnmmgjlmfaaGreatDoorM44
import Derived.Test.YtpendnmmgjlmfaaGreatDoorM41
import Derived.Test.YtpendnmmgjlmfaaGreatDoorM22
import Derived.Test.YtpendnmmgjlmfaaGreatDoorM42
set_option linter.unusedVariables false
set_option linter.unusedSimpArgs false
namespace Go.Proofs.YtpendnmmgjlmfaaGreatDoor
open Go.RowKit Go.Shelf Go.Maps
open Go.Proofs.Tryz
open IntKind renaming i64→J,u32→F
open Value renaming pointer→G,int->ι,string->σ,bool->ν,tuple->τ,slice->θ,agg->γ
open Ending renaming returned→aG
open Obj renaming cells→aH
set_option maxRecDepth 100000
set_option maxHeartbeats 4000000
namespace lC
open Oct Dev mU Tx Geo qX Bm Dir
theorem ZY (s:ByteArray) (h:s.size=64):vX s 64=s:=by
 unfold vX;have e1:s.extract 0 64=s:=Ij s 64 h
 have e2:zS.extract 64 64=ByteArray.empty:=by
  apply ByteArray.ext
  simp[ByteArray.data_extract]
 rw[e1,e2,ByteArray.append_empty]
theorem Qj {s:ByteArray} {k:Nat} (h:(k+1)*64<=s.size):(chunk s k).size=64:=by
 unfold chunk;rw[ByteArray.size_extract];omega
theorem zN {A:Type} (f:Nat->A) (n:Nat) (y z:A):dO (dO f n y) n z=dO f n z:=by
 funext m
 unfold dO
 split<;>rfl
theorem vM {A:Type} (f:Nat->A) (n:Nat):dO f n (f n)=f:=by
 funext m
 unfold dO
 split
 ·rename_i h
  rw[h]
 ·rfl
section
variable {E:Im} {D D' D2:aZ} {ino:Nat->aP} {vs:Nat->List Nat} {es:List bC}
theorem Nc.trans {n:Nat} {y:aP} {us:List Nat} (h:Nc E D D' ino vs n) (g:Nc E D' D2 (dO ino n y) (dO vs n us) n):Nc E D D2 ino vs n:=
 ⟨g.1.trans h.1,λm b m1 m2 hm hb=>(g.2 m b m1 m2 hm (by rw[dD _ _ hm,dD _ _ hm];exact hb)).trans (h.2 m b m1 m2 hm hb)⟩
theorem Nc.refl (n:Nat):Nc E D D ino vs n:=⟨rfl,λ_ _ _ _ _ _=>rfl⟩
theorem SP.has {n p:Nat} {s:ByteArray} {x y:aP} {v us:List Nat} (hv:dS E D x.ind v) (hp:p<36) (g:SP E D n x v p s D' y us) (q:Nat) (hq:q=p\/aT x v q≠0):aT y us q≠0:=by
 rcases g with⟨g1,_,rfl,rfl⟩|⟨b,g1,g2,g3,g4,g5,g6,_,rfl,rfl⟩|⟨b,g1,g2,g3,g4,g5,g6,_,rfl,rfl⟩|⟨d,b,g1,g2,g3,g4,g5,g6,g7,g8,g9,_,rfl,rfl⟩
 ·rcases hq with rfl|hq
  ·exact g1
  ·exact hq
 ·rw[qK g1 hv.len]
  split
  ·omega
  ·rcases hq with hq|hq
   ·contradiction
   ·exact hq
 ·rw[kJ g1 hp hv.len]
  split
  ·omega
  ·rcases hq with hq|hq
   ·contradiction
   ·exact hq
 ·rw[kJ g1 hp (List.length_replicate ..)]
  split
  ·omega
  ·rcases hq with hq|hq
   ·contradiction
   ·rw[hv.no g2]at hq
    exact hq
structure Ch (E:Im) (D:aZ) (ino:Nat->aP) (vs:Nat->List Nat) (a b:ByteArray) (k:Nat) (D':aZ) (y:aP) (us:List Nat):Prop where
 own:bP E D' (dO ino 1 y) (dO vs 1 us)
 MV:Nc E D D' ino vs 1
 kind:y.kind=2
 links:y.links=1
 size:y.size=b.size
 new:∀p,p<k->p<aQ b.size->xw E D' y us p=chunk b p/\aT y us p≠0
 old:∀p,k<=p->p<aQ a.size->xw E D' y us p=chunk a p/\aT y us p≠0
def WF (E:Im) (Z:Nat->Prop):Prop:=Z (fr E 2)/\Z (fr E 3)/\(∀n,1<=n->n<=E.i->Z (tq E n))/\∀b,1<=b->b<=E.bl->Z (dq E b)
variable {Z:Nat->Prop}
theorem Mv {Q:Prop} (es':List bC) (w:World) (hs:Small E) (hZ:WF E Z) (h:IS w E D Z) (f:CX E D ino vs es) (d':Dir es') (hab:(B (dW es)).size<=(B (dW es')).size) (hQ:fV E Z->Q)
 (hN:∀D1 y us,bP E D1 (dO ino 1 y) (dO vs 1 us)->y.size=(B (dW es')).size->(D1 (fr E 3)).size=64->((bg E D1).2=false\/(bg E (Cw E D1)).2=false)->Q):
 Calls prog 260 #[E.M,ι F 1,σ (B (dW es)),σ (B (dW es'))] w (Out (ι J 0) (ι J 4) (λW=>(∃D' y us,IS W E D' Z/\CX E D' (dO ino 1 y) (dO vs 1 us) es'/\Nc E D D' ino vs 1/\y.kind=2)/\aR (λc=>c=E.T.m) w W) (λW=>Q/\aR (λc=>c=E.T.m) w W)):=by
 obtain⟨z2,z3,zt,zd⟩:=hZ;have ei:1<=E.i:=by have:=hs.vals;omega
 have ez:=pX f.root.dir;have Mn:=pX d';have pa:=yA f.root.dir;have pb:=yA d';have hsz:=f.root.size;have hpg:=f.root.pg;have hhas:=f.has;rw[hsz]at hpg hhas;have hdir:=f.root.dir
 generalize B (dW es)=a at*
 generalize hb:B (dW es')=b at*
 have o:=f.own;have hok:=o.ok 1 (ah 1) ei;have hu:(ino 1).Used:=hok.resolve_left (λe=>by have:=f.root.kind;rw[e]at this;cases this);refine(Cj E.M 1 a b w (λk W=>(∃D' y us,IS W E D' Z/\Ch E D ino vs a b k D' y us)/\aR (λc=>c=E.T.m) w W) (λW=>Q/\aR (λc=>c=E.T.m) w W) (by omega) (by omega) ?_ ?_ ?_ ?_).mono ?_
 ·rintro k W W' ⟨⟨D',y,us,g1,g2⟩,t⟩ hb
  exact⟨⟨D',y,us,g1.later hb,g2⟩,t.trans (aR.of_below hb)⟩
 ·intro hlt
  have hs3:(D (fr E 3)).size=64:=h.sec (jo hs h (.inr rfl));have hst:=h.sec (pQ hs h.len (ah 1) ei);refine(yc (Q:=Q) 1 b.size (ino 1) (vs 1) w hs h (ah 1) ei (o.is 1 (ah 1) ei) hok (by have:=f.root.kind;omega) (o.ing 1 (ah 1) ei) (o.ind 1 (ah 1) ei) Mn.2 (λ_=>Mn.1) (o.hfr hs 1 _ (ah 1) ei hs3) (uh hu Mn.2 (λ_=>Mn.1)) (qJ (o.ing 1 (ah 1) ei)) (o.hyv hs 1 _ (ah 1) ei) z3 (zt 1 (ah 1) ei) (λc c1 c2 _=>zd c c1 c2) hQ).mono ?_;rintro e W (⟨rfl,g⟩|⟨rfl,g⟩)
  ·refine .inl ⟨rfl,⟨_,_,_,g.1,o.rsz hs 1 b.size (ah 1) ei hst hs3 hu Mn.2 (λ_=>Mn.1),o.Qh hs 1 b.size (ah 1) ei,?_,?_,rfl,(λp hp=>by omega),λp _ hp=>?_⟩,g.2⟩
   ·rw[show(sized (bf (ino 1) (aQ b.size)) b.size).kind=(ino 1).kind by unfold sized bf;split<;>rfl]
    exact f.root.kind
   ·rw[show(sized (bf (ino 1) (aQ b.size)) b.size).links=(ino 1).links by unfold sized bf;split<;>rfl]
    exact f.root.links
   ·have hp2:p<aQ b.size:=by omega
    have hq:p<36:=by omega
    have e1:=o.ZJ hs 1 b.size (ah 1) ei Mn.2 p hq;rw[if_pos hp2,if_neg (λq=>q.1 Mn.1)]at e1;refine⟨e1.trans (hpg p hp),?_⟩;have e2:aT (sized (bf (ino 1) (aQ b.size)) b.size) (cutV (ino 1) (vs 1) (aQ b.size)) p=aT (bf (ino 1) (aQ b.size)) (cutV (ino 1) (vs 1) (aQ b.size)) p:=rfl;rw[e2,FN _ (o.ind 1 (ah 1) ei).len (o.ind 1 (ah 1) ei).no p hq,if_pos hp2];exact hhas p hp
  ·exact .inr ⟨rfl,g.1.1,g.2⟩
 ·intro hlt
  refine⟨⟨D,ino 1,vs 1,h,⟨by rw[vM,vM];exact o,Nc.refl 1,f.root.kind,f.root.links,by omega,λp hp=>by omega,λp _ hp=>⟨hpg p hp,hhas p hp⟩⟩⟩,aR.of_below (aj _ _)⟩
 ·rintro k hk W ⟨⟨D1,y,us,g1,g2⟩,t⟩
  refine⟨λhc=>?_,λhc=>?_⟩
  ·refine⟨⟨D1,y,us,g1,g2.own,g2.MV,g2.kind,g2.links,g2.size,λp hp hp2=>?_,λp hp hp2=>g2.old p (by omega) hp2⟩,t⟩
   by_cases q:p=k
   ·subst q
    have:=g2.old p (ah _) (by unfold aQ;omega);rw[hc.2]at this;exact this
   ·exact g2.new p (by omega) hp2
  ·have hkb:(k+1)*64<=b.size:=by omega
   have vY:k<36:=by omega
   have hcs:=Qj hkb;have o1:=g2.own;have e1:dO ino 1 y 1=y:=bH _ _ _;have e2:dO vs 1 us 1=us:=bH _ _ _;refine(oM (Q:=Q) 1 k (chunk b k) W hs g1 o1 (ah 1) ei (by rw[e1,g2.kind];decide) (by rw[e1,g2.size];omega) hcs z3 (zt 1 (ah 1) ei) (λc c1 c2 _=>zd c c1 c2) hQ (hN D1 y us o1 g2.size (g1.sec (jo hs g1 (.inr rfl))))).mono ?_;rw[e1,e2,g2.size,show min 64 (b.size-k*64)=64 by omega,ZY _ hcs];rintro e W2 (⟨rfl,D2,y2,u2,sp,g⟩|⟨rfl,g⟩)
   ·have hs3:(D1 (fr E 3)).size=64:=g1.sec (jo hs g1 (.inr rfl))
    have hst:=g1.sec (pQ hs g1.len (ah 1) ei);have sp':SP E D1 1 (dO ino 1 y 1) (dO vs 1 us 1) k (chunk b k) D2 y2 u2:=by rw[e1,e2];exact sp
    have o2:=SP.owns o1 hs (ah 1) ei hst hs3 vY sp';rw[zN,zN]at o2;have pgs:=SP.pages o1 hs (ah 1) ei hs3 vY sp';rw[e1,e2]at pgs;have hv1:=o1.ind 1 (ah 1) ei;rw[e1,e2]at hv1;have hs2:=SP.has hv1 vY sp;have sm:=sp.same;refine .inl ⟨rfl,⟨D2,y2,u2,g.1,o2,g2.MV.trans (SP.MV o1 hs (ah 1) ei hs3 sp'),sm.1.trans g2.kind,sm.2.1.trans g2.links,sm.2.2.trans g2.size,λp hp hp2=>?_,λp hp hp2=>?_⟩,t.trans g.2⟩
    ·by_cases q:p=k
     ·subst q
      exact⟨by rw[pgs p vY,if_pos rfl],hs2 p (.inl rfl)⟩
     ·have:=g2.new p (by omega) hp2
      exact⟨by rw[pgs p (by omega),if_neg q];exact this.1,hs2 p (.inr this.2)⟩
    ·have:=g2.old p (by omega) hp2
     exact⟨by rw[pgs p (by omega),if_neg (by omega)];exact this.1,hs2 p (.inr this.2)⟩
   ·exact .inr ⟨rfl,g.1.1,t.trans g.2⟩
 ·rintro e W (⟨rfl,⟨D1,y,us,g1,g2⟩,t⟩|⟨rfl,t⟩)
  ·have e1:dO ino 1 y 1=y:=bH _ _ _
   have e2:dO vs 1 us 1=us:=bH _ _ _;refine .inl ⟨rfl,⟨D1,y,us,g1,⟨g2.own,⟨d',by rw[e1];exact g2.kind,by rw[e1];exact g2.links,by rw[e1,hb];exact g2.size,λp hp=>?_⟩,λn n2 hn=>by rw[dD _ _ (by omega)];exact f.two n n2 hn,λp hp=>?_⟩,g2.MV,g2.kind⟩,t⟩
   ·rw[e1,g2.size]at hp
    rw[e1,e2,hb];exact(g2.new p (by omega) hp).1
   ·rw[e1,g2.size]at hp
    rw[e1,e2];exact(g2.new p (by omega) hp).2
  ·exact .inr ⟨rfl,t⟩
end
section
variable {E:Im} {D D':aZ} {ino:Nat->aP} {vs:Nat->List Nat} {es:List bC} {Z:Nat->Prop}
theorem CX.text (f:CX E D ino vs es) (w:World) (hs:Small E) (h:IS w E D Z):
 Calls prog 94 #[E.M,ι F 1] w λe w'=>e=aG (τ #[σ (B (dW es)),ι J 0])/\Below w.heap.size w w':=by
 have ei:1<=E.i:=by have:=hs.vals;omega
 have TX:=Aa 1 (ino 1) (vs 1) w hs h (ah 1) ei (f.own.is 1 (ah 1) ei) (f.own.ok 1 (ah 1) ei) f.root.kind (f.own.ing 1 (ah 1) ei) (f.own.ind 1 (ah 1) ei);rw[f.root.text]at TX;exact TX
theorem Ge (x:Int×List bC):(Qd x).2=x.1:=rfl
def EnR (Q:Prop) (E:Im) (Z:Nat->Prop) (D:aZ) (ino:Nat->aP) (vs:Nat->List Nat) (es:List bC) (nm:List UInt8) (i:Nat) (w:World) (c:Int) (W:World):Prop:=
 aR (λc=>c=E.T.m) w W/\(c=0->∃D' y us es',IS W E D' Z/\CX E D' (dO ino 1 y) (dO vs 1 us) es'/\Nc E D D' ino vs 1/\y.kind=2/\Cy nm i es=(0,es'))/\(c≠0->c≠4->IS W E D Z)/\(c≠0->Q\/c=(Cy nm i es).1)
theorem Gk {Q:Prop} (i:Nat) (nm:ByteArray) (w:World) (hs:Small E) (hZ:WF E Z) (h:IS w E D Z) (f:CX E D ino vs es) (hi:i<4294967296) (hnm:nm.size<=maxLen) (hQ:fV E Z->Q)
 (hN:∀es' D1 y us,Cy (L nm) i es=(0,es')->bP E D1 (dO ino 1 y) (dO vs 1 us)->y.size=(B (dW es')).size->(D1 (fr E 3)).size=64->((bg E D1).2=false\/(bg E (Cw E D1)).2=false)->Q):
 Calls prog 179 #[E.M,ι F 1,σ nm,ι F i] w λe W=>∃c:Int,e=aG (ι J c)/\EnR Q E Z D ino vs es (L nm) i w c W:=by
 have d:=f.root.dir;have ez:=pX d;have eA:=Mj d (L nm) i hi;refine Mq E.M 1 i nm (B (dW es)) (B (rP (dW es) (L nm) i).1) (rP (dW es) (L nm) i).2 w (EnR Q E Z D ino vs es (L nm) i w) (f.text w hs h) (λW=>by have:=Dir.Ra (B (dW es)) nm i W (by unfold maxLen;omega) hnm hi;rw[iy]at this;exact this) ?_ ?_ ?_
 ·intro hc W b
  exact⟨aR.of_below b,λq=>absurd q hc,λ_ _=>h.later b,λ_=>.inr (by rw[eA];exact Ge _)⟩
 ·intro hc W b
  rw[eA]at hc⊢;obtain⟨c1,es1,e1⟩:∃c1 es1,Cy (L nm) i es=(c1,es1):=⟨_,_,rfl⟩;rw[e1]at hc⊢;have c0:c1=0:=hc;subst c0;have ok:=ZL d hi e1
  have hlen:(B (dW es)).size<=(B (dW es1)).size:=by
   rw[aV,aV,kg d.ok,kg ok.1.ok]
   rcases ok.2.2.2.2.2.2 with⟨k,hk,q,_⟩|⟨_,q⟩
   ·rw[q,List.length_set]
    exact ah _
   ·rw[q,List.length_append]
    omega
  refine(Mv (Q:=Q) es1 W hs hZ (h.later b) f ok.1 hlen hQ (λD1 y us o q q3=>hN es1 D1 y us e1 o q q3)).mono ?_;rintro e W' (⟨rfl,⟨D',y,us,g1,g2,g3,g4⟩,t⟩|⟨rfl,hq,t⟩)
  ·exact⟨0,rfl,(aR.of_below b).trans t,λ_=>⟨D',y,us,es1,g1,g2,g3,g4,e1⟩,λq=>absurd rfl q,λq=>absurd rfl q⟩
  ·exact⟨4,rfl,(aR.of_below b).trans t,(λq=>by cases q),λ_ q=>absurd rfl q,λ_=>.inl hq⟩
 ·rintro c W W' ⟨r1,r2,r3,r4⟩ b
  exact⟨r1.trans (aR.of_below b),λq=>by obtain⟨D',y,us,es',g1,g2⟩:=r2 q;exact⟨D',y,us,es',g1.later b,g2⟩,(λq1 q2=>(r3 q1 q2).later b),r4⟩
end
section
variable {E:Im} {D D':aZ} {ino:Nat->aP} {vs:Nat->List Nat} {es:List bC} {Z:Nat->Prop} {w W:World} {tk:Nat->Bool}
def ZS (E:Im) (q:Nat):Prop:=fr E 2<=q/\q<E.hard.length
theorem WN:Dir []:=⟨λe he=>by simp at he,rfl,by decide,by simp[names,live]⟩
theorem uZ (hs:Small E) (hl:E.hard.length=(mI E.i E.bl E.j).sum) (h:IS w E D Z):WF E (ZS E):=by
 have hv:=hs.vals;exact⟨⟨by omega,jo hs h (.inl rfl)⟩,⟨by omega,jo hs h (.inr rfl)⟩,λn h1 hn=>⟨by unfold tq;omega,pQ hs hl h1 hn⟩,λb h1 hb=>⟨by unfold dq;omega,ze hs hl h1 hb⟩⟩
theorem GC (hs:Small E) (hm:E.hard.length<=fr E 2+fH E.j):fV E (ZS E)->False:=λhf=>
 hf.no (List.range' (fr E 2) (E.hard.length-fr E 2)) (λq hq=>by rw[List.mem_range'_1];have h1:=hq.1;have h2:=hq.2;omega) (by simp;omega)
theorem GP (hs:Small E):CX E (fmtS E.i E.bl E.j) wR (λ_=>Ma) []:=by
 have e1:wR 1=eX:=bH _ _ _;refine⟨Md E hs,⟨WN,by rw[e1];rfl,by rw[e1];rfl,by rw[e1];rfl,λp hp=>?_⟩,λn h2 hn=>?_,λp hp=>?_⟩
 ·rw[e1]at hp
  exact absurd hp (by show¬p<aQ 0;unfold aQ;omega)
 ·rw[show wR n=dY from dD _ _ (by omega)]
  decide
 ·rw[e1]at hp
  exact absurd hp (by show¬p<aQ 0;unfold aQ;omega)
theorem VF {s:ByteArray} {m:Nat} (h:(eO s (m:Int) false).2=false):∀k,k<m->k<8*s.size->dn s k=true:=by
 intro k
 induction k using Nat.strongRecOn with
 |_ k ih=>
  intro h1 h2;cases e:dn s k with
  |true=>rfl
  |false=>
   rw[Vu h1 h2 (λj hj=>ih j hj (by omega) (by omega)) e]at h;cases h
theorem aE (o:bP E D ino vs) (hs:Small E) (h3:(D (fr E 3)).size=64) (T:List Nat) (hT:T.length+2<=E.bl) (ht:∀b,1<=b->b<=E.bl->dn (D (fr E 3)) b=true->b∈T):(bg E D).2=true/\(bg E (Cw E D)).2=true:=by
 have hbl:=hs.hb
 have key:∀(s:ByteArray) (d:Nat),s.size=64->(∀b,b≠d->dn s b=true->dn (D (fr E 3)) b=true)->(eO s (E.bl+1:Nat) false).2=true:=by
  intro s d hsz hb;cases e:(eO s (E.bl+1:Nat) false).2 with
  |true=>rfl
  |false=>
   have hall:=VF e;rw[hsz]at hall
   have h7:=List.Nodup.length_le_of_subset (l₁:=(List.range' 1 E.bl).erase d) (l₂:=T) (List.Nodup.erase _ (List.nodup_range')) (λb hb2=>by
    have hb3:=(List.Nodup.mem_erase_iff (List.nodup_range')).1 hb2;rw[List.mem_range'_1]at hb3;exact ht b (by omega) (by omega) (hb b hb3.1 (hall b (by omega) (by omega))))
   have h8:E.bl-1<=((List.range' 1 E.bl).erase d).length:=by
    rw[List.length_erase]
    split<;>simp
   omega
 have hf:(bg E D).2=true:=key (D (fr E 3)) 0 h3 (λb _ hb=>hb);refine⟨hf,?_⟩;obtain⟨b,r,hL⟩:∃b r,bg E D=(b,r):=⟨_,_,rfl⟩;rw[hL]at hf;simp only at hf;subst hf;obtain⟨b1,b2,b3⟩:=o.least hL
 have e:Cw E D (fr E 3)=gV (D (fr E 3)) b true:=by
  unfold Cw;rw[hL,upd_ne _ _ (fP hs b1).symm,oo hs b1]
 unfold bg;rw[e];refine key _ b (by rw[jG];exact h3) (λk hk hbit=>?_);rw[fE _ _ _ _ (by rw[h3];omega),if_neg hk]at hbit;exact hbit
end
end lC
namespace Ap
open Oct Dev mU Tx Geo qX Bm lC
open Re (Rw dX Ae)
theorem VG {T:xL} {b:dN} (w:World) (h:aN w T.p 100 #[b.p,T.j,.map (some T.m),ν false]):Calls prog 32 #[T.p] w λe w'=>e=aG (ι J 0)/\aR (λc=>c=T.p) w w':=by
 have X:=h.cell;have aL:=h.free;have Xl:=h.lt
 have OP:Hid (Calls prog 70 #[T.p] w λe w'=>e=aG (ι J 0)/\w=w'):=U (by
  go_enter func70,ntmps70
  go_wp2
  go_ret;exact⟨rfl,rfl⟩)
 go_enter func32,ntmps32
 go_wp2_with fail;refine ak OP.o ?_;rintro e w1 ⟨rfl,rfl⟩
 go_wp2
 go_ret;exact⟨rfl,Dev.aR.set _ rfl⟩
structure Mw (E:Im) (P:aZ->Prop) (kk:Nat) (W:World) (hard:List ByteArray) (k g:Nat):Prop where
 MZ:eF W E.T.j E.b 1 E.j g
 gen:g<=k
 dev:bY W E.b hard (λ_=>none) k
 le:k<=kk
 len:hard.length=(mI E.i E.bl E.j).sum
 all:wo hard
 p:P (λq=>hard.getD q ⟨#[]⟩)
def zq (E:Im) (P:aZ->Prop) (kk:Nat) (W:World):Prop:=∃hard k g,Mw E P kk W hard k g
def Ins (E:Im) (P:aZ->Prop):Prop:=∀D D':aZ,P D->(∀q,fr E 2<=q->q<(mI E.i E.bl E.j).sum->D' q=D q)->P D'
def S0 (E:Im) (c:Nat):Prop:=S3 E.b c\/c=E.T.j
abbrev wZ (E:Im) (M:Nat) (T:xL) (hard:List ByteArray) (k:Nat):Im:=⟨M,T,E.b,hard,k,E.i,E.bl,E.j⟩
def Mx (E:Im) (r:Rw) (Q:Prop) (P P':aZ->Prop):Prop:=∀M T hard k,T.j=E.T.j->hard.length=(mI E.i E.bl E.j).sum->∀W D,IS W (wZ E M T hard k) D (λ_=>False)->P D->
 Calls prog 26 #[M,γ (dX r)] W (Rs (λc=>c=T.m) Q (λW'=>∃D',IS W' (wZ E M T hard k) D' (zo E)/\P' D') W)
section
variable {E:Im} {P P':aZ->Prop} {kk:Nat} {W W':World} {hard:List ByteArray} {k g:Nat}
theorem Mw.later (h:Mw E P kk W hard k g) (hb:Below W.heap.size W W'):Mw E P kk W' hard k g:=⟨aN.later h.MZ hb,h.gen,h.dev.later hb,h.le,h.len,h.all,h.p⟩
theorem zq.later (h:zq E P kk W) (hb:Below W.heap.size W W'):zq E P kk W':=by
 obtain⟨hard,k,g,h⟩:=h;exact⟨hard,k,g,h.later hb⟩
theorem zq.mono (h:zq E P kk W) {k2:Nat} (hk:kk<=k2):zq E P k2 W:=by
 obtain⟨hard,k,g,h⟩:=h;exact⟨hard,k,g,h.MZ,h.gen,h.dev,aD h.le hk,h.len,h.all,h.p⟩
theorem IY (h:Mw E P kk W hard k g):Calls prog 13 #[E.b.p,E.T.j] W λe w'=>∃T:xL,e=aG (τ #[T.p,ι J 0])/\T.j=E.T.j/\W.heap.size<=T.p/\W.heap.size<=T.m/\TJ w' T E.b hard k (λ_=>none) 0 1 E.j/\Below W.heap.size W w':=by
 refine(Ew E.T.j W h.dev).mono ?_;rintro e w' ⟨T,rfl,hTj,QL,zC,hT,b⟩;refine⟨T,rfl,hTj,QL,zC,⟨hT,⟨g,h.gen,?_⟩,?_⟩,b⟩
 ·rw[hTj]
  exact aN.later h.MZ b
 ·have:=h.dev.map.lt
  omega
theorem cD (hs:Small E) (T:xL) (hl:hard.length=(mI E.i E.bl E.j).sum) (ha:wo hard) (hT:TJ W T E.b hard k (λ_=>none) 0 1 E.j):Calls prog 14 #[T.p,dw E.i E.bl E.j] W λe w'=>∃M:Nat,e=aG (τ #[G (some ⟨M,0,none⟩),ι J 0])/\IS w' (wZ E M T hard k) (λq=>hard.getD q ⟨#[]⟩) (λ_=>False)/\Below W.heap.size W w':=by
 have hsz:∀q,q<hard.length->(iG (λ_=>none) hard q).size=64:=λq hq=>by
  unfold iG;simp only;rw[List.getD_eq_getElem?_getD,List.getElem?_eq_getElem hq];exact ha q _ (List.getElem?_eq_getElem hq)
 refine(lC.tO T E.b hard k E.i E.bl E.j 0 (λ_=>none) W hT hs.may hl hsz (Kh _)).mono ?_;rintro e w' ⟨M,rfl,hM,hI,b⟩;exact⟨M,rfl,⟨_,_,hI,λq hq=>rfl,λx hx=>by cases hx⟩,b⟩
theorem Mo {j:Nat} (h40:40<=j) (hj:j<=60):fH j<=250/\∀m,m<=fH j->1+((2*m+63)/64+m)<=j:=by
 have h:∀j,j<61->40<=j->fH j<=250/\∀m,m<fH j+1->1+((2*m+63)/64+m)<=j:=by decide+kernel
 exact⟨(h j (by omega) h40).1,λm hm=>(h j (by omega) h40).2 m (by omega)⟩
theorem aR.cut {S S':Nat->Prop} {w w':World} (h:Dev.aR S' w w') (hS:∀c,c<w.heap.size->S' c->S c):Dev.aR S w w':=⟨h.os,h.tape,h.output,h.size,λc hc hs=>h.block c hc (λq=>hs (hS c hc q))⟩
theorem zq.lt (h:zq E P kk W) {c:Nat} (hc:S0 E c):c<W.heap.size:=by
 obtain⟨hard,k,g,h⟩:=h;have d0:=h.dev;obtain⟨cp,_,hdv⟩:=d0.dev;have d1:=hdv.lt;have d2:=d0.map.lt;have d3:=d0.row.lt;have d4:=aN.lt h.MZ
 rcases hc with(e|e|e)|e<;>omega
theorem cF (hs:Small E) (hP:Ins E P') {M:Nat} {T:xL} {D:aZ} (hj:T.j=E.T.j) (hl:hard.length=(mI E.i E.bl E.j).sum) (ha:wo hard) (hk:k<=kk) (hkk:kk<=1000000) (h:IS W (wZ E M T hard k) D (zo E)) (hp:P' D):Calls prog 33 #[T.p] W λe w'=>∃g:Nat,e=aG (τ #[ι .u64 g,ι J 0])/\zq E P' (kk+600) w'/\aR (λc=>S0 E c\/c=T.p) W w':=by
 obtain⟨Ls,hx,hz,_⟩:=h.just;have h40:40<=E.j:=by have:=hs.vals;omega
 have hs2:Small (wZ E M T hard k):=⟨hs.may,hs.hi,hs.hb,hs.hj⟩;refine(UJ W hs2 hx hx.few hz (Mo h40 hs.hj).1 (Mo h40 hs.hj).2 ha (by show k+30000<_;omega)).mono ?_;rintro e w' ⟨g,EW,k2,rfl,h2,t⟩;have hle:k2<=k+600:=h2.le;refine⟨g,rfl,⟨EW,k2,g,?_,h2.gen,h2.dev,by omega,h2.len.trans hl,h2.all,hP D _ hp λq q1 q2=>?_⟩,?_⟩
 ·have:=h2.MZ
  rw[show(wZ E M T hard k).T.j=E.T.j from hj]at this;exact this
 ·exact h2.at_ q q1 (by show q<hard.length;omega)
 ·refine t.mono λc q=>?_
  rcases q with(q|q)|q
  ·exact .inl (.inl q)
  ·exact .inl (.inr (q.trans hj))
  ·exact .inr q
def PlR (E:Im) (Q:Prop) (P:Nat->aZ->Prop) (n kk:Nat) (w:World) (e:Ending) (w':World):Prop:=∃(q:Nat) (c:Int),e=aG (τ #[ι J q,ι J c])/\q<=n/\zq E (P q) (kk+600*q) w'/\Dev.aR (S0 E) w w'/\(c=0/\q=n\/Q)
theorem IZ {Q:Prop} {P:Nat->aZ->Prop} (hs:Small E) (rs:List Rw) (n:Nat) (hn:rs.length=n) (h100:n<=100) (p:Option Addr) (cap:Nat) (hP:∀i,Ins E (P i)) (H:∀i r,rs[i]? =some r->Mx E r Q (P i) (P (i+1))) (w:World) (hkk:kk<=800000) (hD:zq E (P 0) kk w) (hR:∀W,Dev.aR (S0 E) w W->Ae W p rs):
 Calls prog 10 #[E.b.p,E.T.j,dw E.i E.bl E.j,θ p n cap] w (PlR E Q P n kk w):=by
 have MY:=U (λW=>iN E.i E.bl E.j W);rw[hs.may]at MY;have G0:=(aj w.heap.size w).alloc (ah _) (aH #[ι J E.i,ι J E.bl,ι J E.j] 23);have X0:=aN.new w 23 #[ι J E.i,ι J E.bl,ι J E.j];have HG:=U (And.intro G0 X0);have HD:=U hD;have LT:=U (λc (h:S0 E c)=>hD.lt h);have HR:=U hR;have HH:=U H;have HS:=U hs;have HP:=U hP;have HN:=U hn;clear hD hR H hs hP hn;unfold dw at*
 go_enter func10,ntmps10
 have X:=X0.cell;have Xl:=X0.lt;clear X0 G0;go_wp2_with fail;refine ak (MY.o _) ?_;rintro e w1 ⟨rfl,b1⟩;have R0:Hid (zq E (P 0) (kk+600*0) w1/\Dev.aR (S0 E) w w1/\aN w1 w.heap.size 23 #[ι J E.i,ι J E.bl,ι J E.j]):=U ⟨(HD.o.later HG.o.1).later b1,Dev.aR.of_below (HG.o.1.trans (b1.mono HG.o.1.size)),HG.o.2.later b1⟩;clear b1 X Xl;go_wp2_with fail
 go_loopw [8,30] (λs8 s30 wr=>∃i:Nat,i<=n/\s8=ι J i/\s30=ι J i/\zq E (P i) (kk+600*i) wr/\Dev.aR (S0 E) w wr/\aN wr w.heap.size 23 #[ι J E.i,ι J E.bl,ι J E.j]) (λ_ s30 _=>n-(Go.RowKit.intOf s30).toNat)
 case atStart=>exact⟨0,aB _,rfl,rfl,R0.o⟩
 case round=>
  obtain⟨i,hi,rfl,rfl,hd,ht,hg⟩:=hrel;have RL:=U (And.intro hd (And.intro ht hg));clear hd ht hg
  rcases Nat.lt_or_ge i n with hlt|hge
  ·obtain⟨r,hr⟩:∃r,rs[i]? =some r:=⟨_,List.getElem?_eq_getElem (by rw[HN.o];exact hlt)⟩
   have ON:=U (HH.o i r hr);obtain⟨g,o,rfl,hg,hc⟩:=HR.o wr RL.o.2.1 i r hr;have d0:=hc 0 _ rfl;have d1:=hc 1 _ rfl;have d2:=hc 2 _ rfl;have d3:=hc 3 _ rfl;have d4:=hc 4 _ rfl;have d5:=hc 5 _ rfl;have d6:=hc 6 _ rfl;have d7:=hc 7 _ rfl;have d8:=hc 8 _ rfl;have d9:=hc 9 _ rfl;have RX:=hc 10 _ rfl;have RY:=hc 11 _ rfl;simp only[Nat.add_zero]at d0;have hb1:=(aj wr.heap.size wr).alloc (ah _) (aH (dX r) 44);have hD1:=RL.o.1.later hb1;obtain⟨hard,k,gg,hd⟩:=hD1;have BG:=U (IY hd);have XR:=U ((aN.new wr 44 (dX r)));have XG:=U (RL.o.2.2.later hb1);have HB1:=U hb1;have Nf:=U hd;clear hr hc hb1 hd;unfold dX at*;go_wp2_with fail;refine ak BG.o ?_;rintro e w2 ⟨T,rfl,hTj,QL,zC,hT,b2⟩;have NW:=U (cD HS.o T Nf.o.len Nf.o.all hT);have hX:=XG.o.later b2;have X:=hX.cell;have Xl:=hX.lt;have XR2:=U (XR.o.later b2);have B2:=U b2;have HT:=U (And.intro hTj (And.intro QL (And.intro zC hT)));clear hTj QL zC hT b2 hX d0 d1 d2 d3 d4 d5 d6 d7 d8 d9 RX RY;unfold dw at NW;go_wp2_with fail;refine ak NW.o ?_;rintro e w3 ⟨M,rfl,hI,b3⟩;have OO:=U (ON.o M T hard k HT.o.1 Nf.o.len w3 _ hI Nf.o.p);have hY:=XR2.o.later b3;have Y:=hY.cell;have Yl:=hY.lt;have B3:=U b3;have HTX:=U (HT.o.2.2.2.tx.tx.later b3);clear b3 hY X Xl hI;unfold dX at OO;go_wp2_with fail;refine ak OO.o ?_;rintro e w4 ⟨c,rfl,t4,h0,h1⟩;have T4:=U t4;have Mp:=U (HB1.o.trans ((B2.o.trans (B3.o.mono B2.o.size)).mono HB1.o.size))
   by_cases hc:c=0
   ·have H0:=U (h0 hc)
    subst hc;clear h0 h1 t4 Y Yl;obtain⟨D',hI,hp'⟩:=H0.o;have CM:=U (cF (kk:=kk+600*i) HS.o (HP.o (i+1)) HT.o.1 Nf.o.len Nf.o.all Nf.o.le (by omega) hI hp');clear hI hp';go_wp2_with fail;refine ak CM.o ?_;rintro e w5 ⟨g2,rfl,h5,t5⟩;have T5:=U t5;have H5:=U h5;clear t5 h5;have hp:=HT.o.2.1;have hm:=HT.o.2.2.1;simp only[aC]at hp hm
    have TT:Dev.aR (S0 E) wr w5:=aR.cut (S':=λc=>c=T.m\/(S0 E c\/c=T.p)) ((Dev.aR.of_below Mp.o).trans ((T4.o.mono λc q=>.inl q).trans (T5.o.mono λc q=>.inr q))) (λc hc q=>by
     rcases q with q|q|q
     ·omega
     ·exact q
     ·omega)
    have hgl:=RL.o.2.2.lt;have REL:Hid (zq E (P (i+1)) (kk+600*(i+1)) w5/\Dev.aR (S0 E) w w5/\aN w5 w.heap.size 23 #[ι J E.i,ι J E.bl,ι J E.j]):=U ⟨H5.o.mono (by omega),RL.o.2.1.trans TT,(TT.block _ hgl (λq=>Nat.lt_irrefl _ (LT.o _ q))).trans RL.o.2.2⟩;clear TT hp hm hgl;go_wp2_with fail;go_roundw
    case rel=>exact⟨i+1,by omega,by go_num,by go_num,REL.o⟩
    case measure=>simp[Go.RowKit.intOf];omega
   ·have H1:=U (h1 hc)
    have tk:(c !=0)=true:=by simp;omega
    clear h0 h1 t4 Y Yl;have AB:=U (VG (T:=T) (b:=E.b) w4 (aW HTX.o T4.o (HT.o.2.2.2.tx.map.ne HT.o.2.2.2.tx.tx)));go_wp2_with fail;refine ak AB.o ?_;rintro e w5 ⟨rfl,t5⟩;have T5:=U t5;clear t5;have hp:=HT.o.2.1;have hm:=HT.o.2.2.1;simp only[aC]at hp hm;have BB:=U (Dev.aR.below (S:=λc=>c=T.m\/c=T.p) (n:=wr.heap.size) ((T4.o.mono λc q=>.inl q).trans (T5.o.mono λc q=>.inr q)) (λc q=>by rcases q with q|q<;>omega) Mp.o Mp.o.size);clear hp hm
    go_wp2
    go_ret2;exact⟨i,c,rfl,hi,RL.o.1.later BB.o,RL.o.2.1.trans (Dev.aR.of_below BB.o),.inr H1.o⟩
  ·obtain rfl:i=n:=by omega
   go_wp2_with fail;go_ret2;exact⟨i,0,rfl,ah _,RL.o.1,RL.o.2.1,.inl ⟨rfl,rfl⟩⟩
end
