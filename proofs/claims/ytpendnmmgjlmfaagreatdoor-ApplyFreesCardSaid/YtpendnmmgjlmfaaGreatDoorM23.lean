/- Lemmas. -/
import Derived.Test.YtpendnmmgjlmfaaGreatDoorM17
import Derived.Laws.AppendOwnNone
set_option linter.unusedVariables false
set_option linter.unusedSimpArgs false
namespace Go.Proofs.YtpendnmmgjlmfaaGreatDoor
open Go.RowKit Go.Shelf Go.Maps
open Go.Proofs.Tryz
open IntKind renaming i64→J,u32→F,u8→aF
open Value renaming pointer→G,int->ι,string->σ,tuple->τ,slice->θ,agg->γ
open Ending renaming returned→aG
open Obj renaming cells→aH
set_option maxRecDepth 100000
set_option maxHeartbeats 400000
namespace Re
open Oct Path Tr
section
variable {R g room q:Nat} {S:T} {es:Nat->List bC} {pa:Nat->Option Addr} {ca:Nat->Nat}
def xV (W:World) (x:Value) (r:List bC):Prop:=
 (x=θ none 0 0/\r=[])\/∃b o c,x=θ (some ⟨b,o,none⟩) r.length c/\b<W.heap.size/\∀j v,(r.flatMap dV)[j]? =some v->W.cell? ⟨b,o+j,none⟩=some v
theorem xV.later {W W':World} {x:Value} {r:List bC} (h:xV W x r) (hb:Below W.heap.size W W'):xV W' x r:=by
 rcases h with h|⟨b,o,c,h1,h2,h3⟩
 ·exact .inl h
 ·exact .inr ⟨b,o,c,h1,aA h2 hb.size,λj v hv=>(hb.cell (p:=⟨b,o+j,none⟩) h2).trans (h3 j v hv)⟩
theorem eG {w:World} {ops:Array Oper} {rest:List Oper} {o:Oper} {a:Act} {Q:Exit->Act->World->Prop} (hgd:o.guard=none) (s x:Operand)
 (ho:o.op=.call {callee:=.builtin .append,args:=#[s,x],argTypes:=#[88,88]})
 (base:Nat) (v:Value) (es r:List bC) (hs:a.eval s=v) (hown:w.ownsRow base 202 2 v es.length (es.flatMap dV)) (hx:xV w (a.eval x) r) (hn:es.length+r.length<=100000) (hbase:base<=w.heap.size) (r2:List bC) (hr2:es++r=r2)
 (h:∀v' w',w'.ownsRow base 202 2 v' r2.length (r2.flatMap dV)->w.grownBy w' v.ownBlock->wpList prog ops Q rest (a.put o.dst v') w'):wpList prog ops Q (o::rest) a w:=by
 subst hr2;obtain⟨i0,hi,hz⟩:=Option.map_eq_some_iff.1 WO;have hz0:i0.zero=some (γ #[σ ⟨#[]⟩,ι F 0]):=congrArg (λt=>t.1) hz;have hz1:i0.size=2:=congrArg (λt=>t.2.1) hz;have hz2:i0.bytes=24:=congrArg (λt=>t.2.2) hz
 rcases hx with⟨e,rfl⟩|⟨b,o',c,e,hb,hc⟩
 ·refine wpList_append_own_none hgd s x _ ho base 202 i0 2 underlying88 hi v es.length (es.flatMap dV) hs hown e ?_
  refine h v w (by simpa using hown) ⟨rfl,rfl,rfl,ah _,λ_ _ _=>rfl⟩
 ·refine wpList_append_own w hgd s x _ ho base 202 i0 _ 2 24 underlying88 hi hz0 hz1 hz2 rfl (by decide) v es.length (es.flatMap dV) hs hown ⟨b,o',none⟩ r.length c (r.flatMap dV) e (qo r) (λj u hu=>?_) (λu hu=>?_) (by unfold maxLen;omega) (by omega) hbase (λv' w' h1 h2 _=>h v' w' ?_ h2)
  ·rw[show(⟨b,o',none⟩:Addr).add j=⟨b,o'+j,none⟩by unfold Addr.add;split<;>simp_all]
   exact hc j u hu
  ·obtain⟨y,_,hy⟩:=List.mem_flatMap.1 hu
   simp only[dV,List.mem_cons,List.not_mem_nil,or_false]at hy
   rcases hy with rfl|rfl<;>rfl
  ·rw[List.length_append,List.flatMap_append]
   exact h1
theorem oH.own {w:World} {base g:Nat} {v:Value} {r:List bC} (h:w.ownsRow base 202 2 v r.length (r.flatMap dV)) (hg:g<base):∃p c,v=θ p r.length c/\oH w g p c r/\r.length<=c:=by
 have h0:=h
 rcases h.2 with⟨rfl,e⟩|⟨b,c,cur,rfl,hb,hc,hl,_⟩
 ·have:r=[]:=List.eq_nil_of_length_eq_zero e
  subst this;exact⟨none,0,rfl,.inl ⟨rfl,rfl,rfl⟩,ah _⟩
 ·refine⟨_,c,rfl,.inr ⟨b,rfl,(Array.getElem?_eq_some_iff.1 hc).1,by omega,λj v hv=>?_⟩,hl⟩
  have hj:=(List.getElem?_eq_some_iff.1 hv).1;rw[qo]at hj;rw[h0.cellAt j hj];exact hv
theorem oH.src {W:World} {g:Nat} {p:Option Addr} {c k m c':Nat} {r:List bC} (h:oH W g p c r) (b:Nat) (hp:p=some ⟨b,0,none⟩) (hm:k+m<=r.length):xV W (θ (some ⟨b,k*2,none⟩) m c') ((r.drop k).take m):=by
 rcases h with⟨h1,_⟩|⟨b',h1,h2,h3,h4⟩
 ·rw[h1]at hp;cases hp
 ·rw[h1]at hp
  cases hp;have hlen:((r.drop k).take m).length=m:=by rw[List.length_take,List.length_drop];omega
  refine .inr ⟨b,k*2,c',by rw[hlen],h2,λj v hv=>h4 _ _ ?_⟩;have hj:=(List.getElem?_eq_some_iff.1 hv).1;rw[qo,hlen]at hj;rw[Gx]at hv⊢;rw[List.getElem?_take,if_pos (by omega),List.getElem?_drop]at hv;rw[show(k*2+j)/2=k+j/2 by omega,show(k*2+j)%2=j%2 by omega];exact hv
theorem UK (f:Nat->Nd) (x:Nat):aS f x (f x)=f:=by
 funext y
 unfold aS
 split
 ·rename_i h;rw[h]
 ·rfl
theorem Kb (wz:World) (h:ko wz R g room q S es pa ca) (x i:Nat) (hx:x=i+1) (hi:i<room) (r:List bC) (p:Option Addr) (c q':Nat) (hr:oH wz g p c r) (hc:r.length<=c/\r.length<=q') (hq:q<=q'/\q'<=1000)
 (l':Nat->Nm->Nat) (hl:∀d,d≠x->l' d=S.l d) (Qy:dz (l' x) r) (hnm:∀s,l' x s≠0->s.length<=maxLen):
 Calls prog 142 #[R,ι F x,θ p r.length c] wz λe w'=>e=aG (τ #[])/\jM w' R g room q' ⟨S.n,l'⟩/\Tr.aR (λb=>b=g) wz w':=by
 have H:=U h;have HR:=U hr;have hr2:=h.rm.2;have h0:=h.nC;have w1:=jH hx (by omega);have hg:=h.ny;have hR:=h.top.lt;obtain⟨c0,c1,c2,c3,f⟩:=h.ig hx hi;have f0:=f (i*4);have f1:=f (i*4+1);have f2:=f (i*4+2);have f3:=f (i*4+3);have HX:=U hx;have FIN:=U (h.put hi (S.n x) l' r p c q' hq (λd hd=>hl d (by rw[hx];exact hd)) (by rw[<-hx];exact Qy) (by rw[<-hx];exact hnm) hr hc (h.kd x) (h.dt x) (h.hd x));rw[<-hx,UK]at FIN;clear h hr hx hc hq hl Qy hnm f
 go_enter func142,ntmps142
 go_wp2_with fail;go_region
 all_goals go_wp2_with fail
 all_goals go_end0
 all_goals exact⟨rfl,⟨_,_,_,FIN.o.later (((aj _ _).alloc (ah _) _).drew)⟩,(oh _ _ _ _ _ _ _).trans (Tr.aR.of (((aj _ _).alloc (ah _) _).drew))⟩
theorem Kd (wz:World) (h:ko wz R g room q S es pa ca) (x i:Nat) (hx:x=i+1) (hi:i<room) (s:Nm) (hs:s.length<=2304):
 Calls prog 84 #[R,ι F x,σ (B s)] wz λe w'=>e=aG (τ #[])/\jM w' R g room q ⟨aS S.n x {S.n x with data:=s},S.l⟩/\Tr.aR (λb=>b=g) wz w':=by
 have hr2:=h.rm.2;have h0:=h.nC;have w1:=jH hx (by omega);have hg:=h.ny;have hR:=h.top.lt;obtain⟨c0,c1,c2,c3,f⟩:=h.ig hx hi;have f0:=f (i*4);have f1:=f (i*4+1);have f2:=f (i*4+2);have f3:=f (i*4+3);have FIN:=U (h.put hi {S.n x with data:=s} S.l (es i) (pa i) (ca i) q ⟨ah _,h.q1⟩ (λ_ _=>rfl) (h.rows.bg i hi) (λt ht=>(h.rows.nm _ t ht).2.2) (h.row i hi) (h.cap i hi) (h.kd x) hs (h.hd x));rw[<-hx]at FIN;clear h hx f hs
 go_enter func84,ntmps84
 go_wp2_with fail;go_region
 all_goals go_wp2_with fail
 all_goals go_end0
 all_goals exact⟨rfl,⟨_,_,_,FIN.o.later (((aj _ _).alloc (ah _) _).drew)⟩,(oh _ _ _ _ _ _ _).trans (Tr.aR.of (((aj _ _).alloc (ah _) _).drew))⟩
end
section
variable {R g room q:Nat} {S:T} {es:Nat->List bC} {pa:Nat->Option Addr} {ca:Nat->Nat}
def mW (S:T) (x:Nat):Nat:=if(S.n x).kind=0 then 3 else if(S.n x).kind=2 then 0 else 180
def BF (S:T) (x:Nat) (s:Nm):Nat:=if(S.n x).kind=0 then 3 else if(S.n x).kind=2 then(if S.l x s=0 then 3 else 0)else 180
def Lf (S:T) (x:Nat) (s:Nm):Nat:=if(S.n x).kind=2 then S.l x s else 0
theorem Kf (W:World) (h:ko W R g room q S es pa ca) (x:Nat) (hx32:x<4294967296) (s:ByteArray) (hs:s.size<=maxLen) (hn:isName (L s)=true):
 Calls prog 74 #[R,ι F x,σ s] W λe w'=>e=aG (ι J (mW S x))/\w'=W:=by
 have H:=U h;have HK:=U (h.rng x);have TH:=U (kP W h x hx32);have NM:=U (mD s W hs);rw[hn]at NM;clear h hn hs
 go_enter func74,ntmps74
 go_wp2_with fail;refine ak NM.o ?_;rintro e w' ⟨rfl,rfl⟩;go_wp2_with fail;refine ak TH.o ?_;rintro e w' ⟨rfl,rfl⟩
 by_cases hk:(S.n x).kind=0
 ·have E:=U (show mW S x=3 by unfold mW;rw[if_pos hk])
  rw[hk];go_wp2_with fail;go_ret;exact⟨by rw[E.o];rfl,rfl⟩
 ·have K:=U (kH w' H.o x (HK.o hk).1 (HK.o hk).2)
  have t4:((S.n x).kind==0)=false:=by simpa using hk
  rw[t4];clear t4
  by_cases h2:(S.n x).kind=2
  ·have E:=U (show mW S x=0 by unfold mW;rw[if_neg hk,if_pos h2])
   rw[h2]at K;clear hk h2;go_wp2_with fail;refine ak K.o ?_;rintro e w' ⟨rfl,rfl⟩;go_wp2_with fail;go_ret;exact⟨by rw[E.o];rfl,rfl⟩
  ·have E:=U (show mW S x=180 by unfold mW;rw[if_neg hk,if_neg h2])
   have t5:(((S.n x).kind:Int)!=2)=true:=by simp;omega
   clear hk h2;go_wp2_with fail;refine ak K.o ?_;rintro e w' ⟨rfl,rfl⟩;go_wp2_with fail;go_ret;exact⟨by rw[E.o];rfl,rfl⟩
theorem uS (W:World) (h:ko W R g room q S es pa ca) (x:Nat) (hx32:x<4294967296) (s:ByteArray) (hs:s.size<=maxLen) (hn:isName (L s)=true):
 Calls prog 80 #[R,ι F x,σ s] W λe w'=>e=aG (τ #[ι F (Lf S x (L s)),ι J (BF S x (L s))])/\w'=W:=by
 have H:=U h;have HK:=U (h.rng x);have DI:=U (Kf W h x hx32 s hs hn);have HS:=U hs;clear h hn hs
 go_enter func80,ntmps80
 go_wp2_with fail;refine ak DI.o ?_;rintro e w' ⟨rfl,rfl⟩
 by_cases hk:(S.n x).kind=0
 ·have E:=U (show BF S x (L s)=3/\Lf S x (L s)=0 by unfold BF Lf;rw[if_pos hk,if_neg (by omega)];exact⟨rfl,rfl⟩)
  rw[show mW S x=3 by unfold mW;rw[if_pos hk]];clear hk;go_wp2_with fail;go_ret2;exact⟨by rw[E.o.1,E.o.2];rfl,rfl⟩
 ·obtain⟨k1,k2⟩:=HK.o hk
  by_cases h2:(S.n x).kind=2
  ·have E:=U (show BF S x (L s)=(if S.l x (L s)=0 then 3 else 0)/\Lf S x (L s)=S.l x (L s)by unfold BF Lf;rw[if_neg hk,if_pos h2,if_pos h2];exact⟨rfl,rfl⟩)
   rw[show mW S x=0 by unfold mW;rw[if_neg hk,if_pos h2]];obtain⟨i,hx⟩:∃i,x=i+1:=⟨x-1,by omega⟩;have hi:i<room:=by omega
   have AT:=U (Yn w' H.o x i hx hi s);have LI:Hid (dz (S.l x) (es i)):=U (by rw[hx];exact H.o.rows.bg i hi);have hrm:=H.o.rm.2;have w1:=jH hx (by omega);have h0:=H.o.nC;obtain⟨c0,c1,c2,c3,f⟩:=H.o.ig hx hi;have HE:=U (λ(k:Nat) (e:bC) (he:(es i)[k]? =some e)=>H.o.UA hi he);clear hk h2 hx k1 k2 c0 c2 c3 f;go_wp2_with fail;refine ak AT.o ?_;rintro e w' ⟨k,rfl,ha,rfl⟩
   by_cases hl:S.l x (L s)=0
   ·have:=ha.no LI.o HS.o hl
    subst this;have E2:=U hl;clear ha hl;go_wp2_with fail;go_ret2;exact⟨by rw[E.o.1,E.o.2,E2.o];rfl,rfl⟩
   ·obtain⟨m,hm,rfl⟩:=ha.yes LI.o HS.o hl
    have E2:=U hl;obtain⟨b,hp,hb1,hb2,d0,d1⟩:=HE.o m _ hm;rw[hp]at c1;have hml:=(List.getElem?_eq_some_iff.1 hm).1;obtain⟨n,hn⟩:∃n,(es i).length=n:=⟨_,rfl⟩;rw[hn]at c1 hml;have t1:((m:Int)<0)=False:=by simp
    clear ha hm hl hn hp hb2 d0;simp only at d1;go_wp2_with fail;go_ret2;exact⟨by rw[E.o.1,E.o.2,if_neg E2.o];rfl,rfl⟩
  ·have E:=U (show BF S x (L s)=180/\Lf S x (L s)=0 by unfold BF Lf;rw[if_neg hk,if_neg h2,if_neg h2];exact⟨rfl,rfl⟩)
   rw[show mW S x=180 by unfold mW;rw[if_neg hk,if_neg h2]];clear hk h2;go_wp2_with fail;go_ret2;exact⟨by rw[E.o.1,E.o.2];rfl,rfl⟩
theorem wu {S:T} {x:Nat} (h:¬(x≠1/\¬gA S x/\(S.n x).held=0)):mO S x=S:=by unfold mO;rw[if_neg h]
theorem wI {S:T} {x:Nat} (h:x≠1/\¬gA S x/\(S.n x).held=0):mO S x=⟨aS S.n x Nd.no,S.l⟩:=by unfold mO;rw[if_pos h]
theorem BH (wz:World) (h:ko wz R g room q S es pa ca) (x:Nat) (h1:1<=x) (h2:x<=room) (hl:∀s,S.l x s=0):
 Calls prog 86 #[R,ι F x] wz λe w'=>e=aG (τ #[])/\jM w' R g room q (mO S x)/\Tr.aR (λb=>b=g) wz w':=by
 have H:=U h;obtain⟨i,hx⟩:∃i,x=i+1:=⟨x-1,by omega⟩;have hi:i<room:=by omega
 have hr2:=h.rm.2;have h0:=h.nC;have w1:=jH hx (by omega);have hg:=h.ny;obtain⟨c0,c1,c2,c3,f⟩:=h.ig hx hi;have f0:=f (i*4);have f1:=f (i*4+1);have f2:=f (i*4+2);have f3:=f (i*4+3);have HX:=U hx;have HL:=U hl;have NA:=U (λb (hb:b=true↔gA S x)=>AE wz h x (by omega) b hb);clear h hx hl f
 by_cases hx1:x=1
 ·subst hx1
  rw[wu (λh=>h.1 rfl)]
  go_enter func86,ntmps86
  go_wp2_with fail;go_end0;exact⟨rfl,⟨es,pa,ca,H.o⟩,Tr.aR.refl _ _⟩
 ·have t1:((x:Int)!=1)=true:=by simp;omega
  have jv:=U hx1;clear hx1
  by_cases hn:gA S x
  ·have N:=U (NA.o true (by simp[hn]))
   rw[wu (λh=>h.2.1 hn)];clear hn
   go_enter func86,ntmps86
   go_wp2_with fail;refine ak N.o ?_;rintro e w' ⟨rfl,rfl⟩;go_wp2_with fail;go_end0;exact⟨rfl,⟨es,pa,ca,H.o⟩,Tr.aR.refl _ _⟩
  ·have N:=U (NA.o false (by simp[hn]))
   have HN:=U hn;clear hn
   by_cases hh:(S.n x).held=0
   ·rw[wI ⟨jv.o,HN.o,hh⟩]
    rw[hh]at c3;clear hh
    go_enter func86,ntmps86
    go_wp2_with fail;refine ak N.o ?_;rintro e w' ⟨rfl,rfl⟩;go_wp2_with fail;go_end0;have:=H.o.put hi Nd.no S.l [] none 0 q ⟨ah _,H.o.q1⟩ (λ_ _=>rfl) (dz.nil _ (by rw[<-HX.o];exact HL.o)) (λs hs=>absurd (by rw[<-HX.o];exact HL.o s) hs) (.inl ⟨rfl,rfl,rfl⟩) ⟨aB _,aB _⟩ (by decide) (by decide) (by decide);rw[<-HX.o]at this;exact⟨rfl,⟨_,_,_,this⟩,oh _ _ _ _ _ _ _⟩
   ·rw[wu (λh=>hh h.2.2)]
    have t3:(((S.n x).held:Int)==0)=false:=by simp;omega
    clear hh
    go_enter func86,ntmps86
    go_wp2_with fail;refine ak N.o ?_;rintro e w' ⟨rfl,rfl⟩;go_wp2_with fail;go_end0;exact⟨rfl,⟨es,pa,ca,H.o⟩,Tr.aR.refl _ _⟩
end
section
variable {R g room q:Nat} {S:T} {es:Nat->List bC} {pa:Nat->Option Addr} {ca:Nat->Nat}
theorem BI (n:Nat) (w:World):(convert 122 9 (θ (some w.heap.size) n n)).run prog (w.alloc (aH (madeCells #[ι aF 0] n) 5))=.ok (σ (B (List.replicate n 0))) (w.alloc (aH (madeCells #[ι aF 0] n) 5)):=by
 have r0:=World.rowIs_made w (ι aF 0) n 5;have h:=vv (w.alloc (aH (madeCells #[ι aF 0] n) 5)) w.heap.size n (List.replicate n 0) _ (by rw[List.length_replicate];exact r0) (λj hj=>by simp);rw[List.length_replicate]at h;exact h
theorem Yx (W:World) (s:ByteArray) (n:Nat) (hs:s.size<=100000) (hn:n<=100000):
 Calls prog 85 #[σ s,ι J n] W λe w'=>e=aG (σ (B (jq (L s) n)))/\Below W.heap.size W w':=by
 have hl:=bZ s
 by_cases h:n<=s.size
 ·have t1:(n:Int)<=s.size:=by omega
  have E:Hid (s.extract 0 n=B (jq (L s) n)):=U (by
   rw[mH];unfold jq;rw[hl,show n-s.size=0 by omega]
   simp)
  clear hl
  go_enter func85,ntmps85
  go_wp2_with fail;go_ret;exact⟨by rw[<-E.o];rfl,aj _ _⟩
 ·have t1:¬(n:Int)<=s.size:=by omega
  obtain⟨m,hm⟩:∃m,n-s.size=m:=⟨_,rfl⟩
  have wz0:IntKind.i64.wrap ((n:Int)-(s.size:Int))=(m:Int):=by
   rw[show(n:Int)-(s.size:Int)=(m:Int)by omega];exact IntWalk.i64_in _ (by omega)
  have hmk:=oO m (by omega) W;have hzz:=BI m W;have hz2:¬9223372036854775807<s.size+(B (List.replicate m 0)).size:=by rw[aV,List.length_replicate];omega
  have E:Hid (s++B (List.replicate m 0)=B (jq (L s) n)):=U (by
   rw[dA];unfold jq;rw[hl,hm,List.take_of_length_le (by rw[hl];omega)]
   rfl)
  clear hl hm h
  go_enter func85,ntmps85
  go_wp2_with fail;go_ret;exact⟨by rw[<-E.o];rfl,(aj _ _).alloc (ah _) _⟩
def bQ (g:Nat) (wz:World) (P:Prop) (Fin:World->Prop) (e:Ending) (w':World):Prop:=∃er:Nat,e=aG (ι J er)/\Tr.aR (λb=>b=g) wz w'/\(er=0->P/\Fin w')/\(P->er=0)
theorem bQ.no {g:Nat} {wz w':World} {P:Prop} {Fin:World->Prop} {er:Nat} (h:er≠0) (hT:Tr.aR (λb=>b=g) wz w') (hP:¬P):bQ g wz P Fin (aG (ι J er)) w':=⟨er,rfl,hT,λe=>absurd e h,λp=>absurd p hP⟩
theorem bQ.yes {g:Nat} {wz w':World} {P:Prop} {Fin:World->Prop} (hT:Tr.aR (λb=>b=g) wz w') (hP:P) (hF:Fin w'):bQ g wz P Fin (aG (ι J 0)) w':=⟨0,rfl,hT,λ_=>⟨hP,hF⟩,λ_=>rfl⟩
theorem BJ {S:T} {x:Nat} (h:(S.n x).kind=1):rQ S x=0:=by unfold rQ;rw[if_neg (by omega),if_neg (by omega)]
theorem Ie {S:T} {x:Nat} (hk:(S.n x).kind<=2) (h:rQ S x=0):(S.n x).kind=1:=by
 unfold rQ at h
 split at h
 ·cases h
 ·split at h
  ·cases h
  ·omega
theorem BM (s:Nm) (n:Nat):(jq s n).length=n:=by unfold jq;simp;omega
theorem Lg (wz:World) (h:ko wz R g room q S es pa ca) (x:Nat) (hx32:x<4294967296) (size:Nat) (hs:size<=2304):
 Calls prog 39 #[R,ι F x,ι F size] wz (bQ g wz ((S.n x).kind=1) λw'=>jM w' R g room q ⟨aS S.n x {S.n x with data:=jq (S.n x).data size},S.l⟩):=by
 have FI:=U (OG wz h x hx32);have H:=U h;clear h
 go_enter func39,ntmps39
 go_wp2_with fail;refine ak FI.o ?_;rintro e w' ⟨rfl,rfl⟩
 by_cases hf:rQ S x=0
 ·have hk:=Ie (H.o.kd x) hf
  have HK:=U hk;obtain⟨k1,k2⟩:=H.o.rng x (by omega);obtain⟨i,hx⟩:∃i,x=i+1:=⟨x-1,by omega⟩;have hi:i<room:=by omega
  have hrm:=H.o.rm.2;have w1:=jH hx (by omega);have h0:=H.o.nC;obtain⟨c0,c1,c2,c3,f⟩:=H.o.ig hx hi;have LO:=U (Yx w' (B (S.n x).data) size (by have:=H.o.dt x;rw[aV];omega) (by omega));have PU:=U (λ(W:World) (hb:Below w'.heap.size w' W)=>Kd W (H.o.later hb) x i hx hi (jq (S.n x).data size) (by rw[BM];exact hs));rw[hf];have t2:¬(2304:Int)<size:=by omega
  have t3:IntKind.i64.wrap (size:Int)=size:=IntWalk.i64_in _ (by omega);clear hf hk hx c0 c1 c3 f k1 k2;go_wp2_with fail;refine ak LO.o ?_;rintro e w2 ⟨rfl,hb⟩;rw[iy];have B2:=U hb;clear hb;go_wp2_with fail;refine ak (PU.o w2 B2.o) ?_;rintro e w3 ⟨rfl,hA,hT⟩;go_wp2_with fail;go_ret;exact bQ.yes ((Tr.aR.of B2.o).trans hT) HK.o hA
 ·have t1:((rQ S x:Int)!=0)=true:=by simp;omega
  have HF:=U hf;clear hf;go_wp2_with fail;go_ret;exact bQ.no HF.o (Tr.aR.refl _ _) (λp=>HF.o (BJ p))
theorem Sf (wz:World) (h:ko wz R g room q S es pa ca) (x:Nat) (hx32:x<4294967296) (hh:(S.n x).held=0):
 Calls prog 35 #[R,ι F x] wz (bQ g wz ((S.n x).kind=1) λw'=>jM w' R g room q ⟨aS S.n x {S.n x with held:=1},S.l⟩):=by
 have FI:=U (OG wz h x hx32);have H:=U h;have HH:=U hh;clear h hh
 go_enter func35,ntmps35
 go_wp2_with fail;refine ak FI.o ?_;rintro e w' ⟨rfl,rfl⟩
 by_cases hf:rQ S x=0
 ·have hk:=Ie (H.o.kd x) hf
  have HK:=U hk;obtain⟨k1,k2⟩:=H.o.rng x (by omega);obtain⟨i,hx⟩:∃i,x=i+1:=⟨x-1,by omega⟩;have hi:i<room:=by omega
  have hrm:=H.o.rm.2;have w1:=jH hx (by omega);have h0:=H.o.nC;have hg:=H.o.ny;have hR:=H.o.top.lt;obtain⟨c0,c1,c2,c3,f⟩:=H.o.ig hx hi;have f0:=f (i*4);have f1:=f (i*4+1);have f2:=f (i*4+2);have f3:=f (i*4+3);have FIN:=U (H.o.put hi {S.n x with held:=1} S.l (es i) (pa i) (ca i) q ⟨ah _,H.o.q1⟩ (λ_ _=>rfl) (H.o.rows.bg i hi) (λt ht=>(H.o.rows.nm _ t ht).2.2) (H.o.row i hi) (H.o.cap i hi) (H.o.kd x) (H.o.dt x) (ah _));rw[<-hx]at FIN;rw[hf];rw[HH.o]at c3;clear hf hk hx f k1 k2;go_wp2_with fail;go_region
  all_goals go_wp2_with fail
  all_goals go_ret
  all_goals exact bQ.yes ((oh _ _ _ _ _ _ _).trans (Tr.aR.of (((aj _ _).alloc (ah _) _).drew))) HK.o ⟨_,_,_,FIN.o.later (((aj _ _).alloc (ah _) _).drew)⟩
 ·have t1:((rQ S x:Int)!=0)=true:=by simp;omega
  have HF:=U hf;clear hf;go_wp2_with fail;go_ret;exact bQ.no HF.o (Tr.aR.refl _ _) (λp=>HF.o (BJ p))
end
section
variable {R g room q:Nat} {S:T} {es:Nat->List bC} {pa:Nat->Option Addr} {ca:Nat->Nat}
theorem Sh (wz:World) (h:ko wz R g room q S es pa ca) (x:Nat) (hx32:x<4294967296) (hno:∀s,S.l x s=0):
 Calls prog 42 #[R,ι F x] wz (bQ g wz ((S.n x).kind≠0/\(S.n x).held≠0) λw'=>jM w' R g room q (mO ⟨aS S.n x {S.n x with held:=0},S.l⟩ x)):=by
 have TH:=U (kP wz h x hx32);have H:=U h;have HN:=U hno;clear h hno
 go_enter func42,ntmps42
 go_wp2_with fail;refine ak TH.o ?_;rintro e w' ⟨rfl,rfl⟩
 by_cases hk:(S.n x).kind=0
 ·rw[hk]
  go_wp2_with fail;go_ret;exact bQ.no (by decide) (Tr.aR.refl _ _) (λp=>p.1 hk)
 ·have HK:=U hk
  obtain⟨k1,k2⟩:=H.o.rng x hk;obtain⟨i,hx⟩:∃i,x=i+1:=⟨x-1,by omega⟩;have hi:i<room:=by omega
  have hrm:=H.o.rm.2;have w1:=jH hx (by omega);have h0:=H.o.nC;have hg:=H.o.ny;have hR:=H.o.top.lt;obtain⟨c0,c1,c2,c3,f⟩:=H.o.ig hx hi;have f0:=f (i*4);have f1:=f (i*4+1);have f2:=f (i*4+2);have f3:=f (i*4+3);have FIN:=U (H.o.put hi {S.n x with held:=0} S.l (es i) (pa i) (ca i) q ⟨ah _,H.o.q1⟩ (λ_ _=>rfl) (H.o.rows.bg i hi) (λt ht=>(H.o.rows.nm _ t ht).2.2) (H.o.row i hi) (H.o.cap i hi) (H.o.kd x) (H.o.dt x) (aB _));rw[<-hx]at FIN;have hd1:=H.o.hd x;have t4:((S.n x).kind==0)=false:=by simpa using hk
  rw[t4];clear t4 hk hx f
  by_cases hh:(S.n x).held=0
  ·rw[hh]at c3
   have NP:=U hh;clear hh;go_wp2_with fail;go_ret;exact bQ.no (by decide) (Tr.aR.refl _ _) (λp=>p.2 NP.o)
  ·have e1:(S.n x).held=1:=by omega
   have HH:=U hh;rw[e1]at c3;have FR:=U (λW (hb:Below _ _ W)=>BH W (FIN.o.later hb) x k1 k2 HN.o);clear hh e1 hd1;go_wp2_with fail;go_region;go_wp2_with fail;refine ak (FR.o _ (((aj _ _).alloc (ah _) _).drew)) ?_;rintro e w5 ⟨rfl,hA,hT⟩;go_wp2_with fail;go_ret;exact bQ.yes (((oh _ _ _ _ _ _ _).trans (Tr.aR.of (((aj _ _).alloc (ah _) _).drew))).trans hT) ⟨HK.o,HH.o⟩ hA
theorem So {s:Nm} {p:Nat} {d:Nm} (hs:s.length<=2304) (hp:p<36) (hd:d.length=64):(wr s p d).length<=2304:=by
 unfold wr;simp only[List.length_append,List.length_take,List.length_drop,BM,hd];omega
theorem Cd (wz:World) (h:ko wz R g room q S es pa ca) (x:Nat) (hx32:x<4294967296) (page:Nat) (hp:page<36) (d:ByteArray) (hd:d.size=64):
 Calls prog 40 #[R,ι F x,ι J page,σ d] wz (bQ g wz ((S.n x).kind=1) λw'=>jM w' R g room q ⟨aS S.n x {S.n x with data:=wr (S.n x).data page (L d)},S.l⟩):=by
 have FI:=U (OG wz h x hx32);have H:=U h;clear h
 go_enter func40,ntmps40
 go_wp2_with fail;refine ak FI.o ?_;rintro e w' ⟨rfl,rfl⟩
 by_cases hf:rQ S x=0
 ·have hk:=Ie (H.o.kd x) hf
  have HK:=U hk;obtain⟨k1,k2⟩:=H.o.rng x (by omega);obtain⟨i,hx⟩:∃i,x=i+1:=⟨x-1,by omega⟩;have hi:i<room:=by omega
  have hrm:=H.o.rm.2;have w1:=jH hx (by omega);have h0:=H.o.nC;obtain⟨c0,c1,c2,c3,f⟩:=H.o.ig hx hi;have hdt:=H.o.dt x;obtain⟨s,hs⟩:∃s,(S.n x).data=s:=⟨_,rfl⟩;rw[hs]at c2 hdt;obtain⟨fr,hfr⟩:∃fr,page*64=fr:=⟨_,rfl⟩;obtain⟨tt,hto⟩:∃tt,fr+64=tt:=⟨_,rfl⟩;obtain⟨mx,hmx⟩:∃mx,max s.length tt=mx:=⟨_,rfl⟩;have LO:=U (Yx w' (B s) mx (by rw[aV];omega) (by omega));rw[iy]at LO;obtain⟨u,hu⟩:∃u,jq s mx=u:=⟨_,rfl⟩;rw[hu]at LO;have ul:u.length=mx:=by rw[<-hu,BM]
  have E:Hid (wr (S.n x).data page (L d)=u.take fr++L d++u.drop tt):=U (by
   unfold wr;rw[hs,bZ,hd,hfr,hto,hmx,hu])
  have PU:=U (λ(W:World) (hb:Below w'.heap.size w' W)=>Kd W (H.o.later hb) x i hx hi (wr (S.n x).data page (L d)) (So (by rw[hs];exact hdt) hp hd));rw[E.o]at PU;have EX1:(B u).extract 0 fr=B (u.take fr):=by rw[mH,iy]
  have EX2:(B u).extract tt mx=B (u.drop tt):=by
   have:=nI (B u) tt;rw[aV,ul,iy]at this;exact this
  have t2:(page:Int)<36:=by omega
  have t3:IntKind.i64.wrap ((page:Int)*64)=fr:=by rw[show(page:Int)*64=(fr:Int)by omega];exact IntWalk.i64_in _ (by omega)
  have t4:IntKind.i64.wrap ((fr:Int)+64)=(tt:Int):=by rw[show(fr:Int)+64=(tt:Int)by omega];exact IntWalk.i64_in _ (by omega)
  have T5:Hid (max ((s.length:Nat):Int) (tt:Int)=(mx:Int)):=U (by omega);rw[hf];have sB:=aV s;have sU:=aV u;rw[ul]at sU;have hm1:tt<=mx:=by omega
  have hm2:fr<=mx:=by omega
  have hm3:(tt:Int)<=mx:=by omega
  have hm4:(fr:Int)<=mx:=by omega
  have hz1:¬9223372036854775807<(B (u.take fr)).size+64:=by rw[aV,List.length_take];omega
  have hz2:¬9223372036854775807<(B (u.take fr)++d).size+(B (u.drop tt)).size:=by rw[ByteArray.size_append,aV,aV,List.length_take,List.length_drop,hd];omega
  have hz3:¬9223372036854775807<(B (u.take fr)).size+64+(B (u.drop tt)).size:=by rw[aV,aV,List.length_take,List.length_drop];omega
  have EF:Hid (B (u.take fr)++d++B (u.drop tt)=B (u.take fr++L d++u.drop tt)):=U (by rw[dA,dA,iy,iy,iy]);clear hf hk hx c0 c1 c3 f k1 k2 hs hu ul hmx hfr hto;go_wp2_with fail;rw[T5.o];refine ak LO.o ?_;rintro e w2 ⟨rfl,hb⟩;have B2:=U hb;clear hb;go_wp2_with fail
  go_still_tail 11,(by kernel_rfl)
  change wpList _ _ _ _ _ w2.drew;have B3:=U (B2.o.drew)
  generalize w2.drew=w3 at B3⊢
  go_wp2_with fail;rw[EF.o];refine ak (PU.o w3 B3.o) ?_;rintro e w4 ⟨rfl,hA,hT⟩;go_wp2_with fail;go_ret;rw[<-E.o]at hA;exact bQ.yes ((Tr.aR.of B3.o).trans hT) HK.o hA
 ·have t1:((rQ S x:Int)!=0)=true:=by simp;omega
  have HF:=U hf;clear hf;go_wp2_with fail;go_ret;exact bQ.no HF.o (Tr.aR.refl _ _) (λp=>HF.o (BJ p))
end
