/- Lemmas. -/
import Derived.Test.YtpendnmmgjlmfaaGreatDoorM43
import Derived.Test.YtpendnmmgjlmfaaGreatDoorM39
import Derived.Test.YtpendnmmgjlmfaaGreatDoorM16
import Derived.Test.YtpendnmmgjlmfaaGreatDoorM40
import Derived.Test.YtpendnmmgjlmfaaGreatDoorM18
set_option linter.unusedVariables false
set_option linter.unusedSimpArgs false
namespace Go.Proofs.YtpendnmmgjlmfaaGreatDoor
open Go.Proofs.Tryz
open IntKind renaming u16→I,i64→J,u32→F,u8→aF
open Value renaming pointer→G,int->ι,string->σ,bool->ν,tuple->τ,slice->θ,agg->γ
open Ending renaming returned→aG
open Obj renaming cells→aH
set_option maxRecDepth 100000
set_option maxHeartbeats 4000000
namespace lC
open Go.RowKit Go.Shelf Go.Maps Oct Dev mU Tx Geo qX Bm
theorem yj:∀(l:List Nat) (q:Nat),(l.mapIdx λk v=>if q<=k then 0 else v).filter nz=(l.take q).filter nz
 |[],q=>by simp
 |v::l,0=>by
  have ih:=yj l 0;have e:(λ(i:Nat) (w:Nat)=>if 0<=i+1 then 0 else w)=λi w=>if 0<=i then 0 else w:=by funext i w;simp
  rw[List.mapIdx_cons,e,List.filter_cons,if_neg (by simp[nz]),ih]
  simp
 |v::l,q+1=>by
  have ih:=yj l q;have e:(λ(i:Nat) (w:Nat)=>if q+1<=i+1 then 0 else w)=λi w=>if q<=i then 0 else w:=by funext i w;simp
  rw[List.mapIdx_cons,e,List.take_succ_cons,List.filter_cons,List.filter_cons,ih]
  simp
theorem ZF (vs:List Nat) (p:Nat):(lK vs p).filter nz=(vs.take (p-4)).filter nz:=by
 have e:(λ(k:Nat) (v:Nat)=>if p<=k+4 then 0 else v)=λk v=>if p-4<=k then 0 else v:=by
  funext k v
  by_cases h:p<=k+4
  ·rw[if_pos h,if_pos (by omega)]
  ·rw[if_neg h,if_neg (by omega)]
 unfold lK;rw[e];exact yj vs (p-4)
theorem wS (n:Nat):(List.replicate n 0).filter nz=[]:=by
 rw[List.filter_eq_nil_iff];intro a ha;rw[List.eq_of_mem_replicate ha]
 simp[nz]
theorem Vw (x:aP) (p:Nat):(iI (jY x p)).filter nz=((iI x).take p).filter nz:=by
 match p with
 |0=>rfl
 |1=>
  show List.filter nz ([x.d0]++List.replicate 3 0)=List.filter nz [x.d0];rw[List.filter_append,wS,List.append_nil]
 |2=>
  show List.filter nz ([x.d0,x.d1]++List.replicate 2 0)=List.filter nz [x.d0,x.d1];rw[List.filter_append,wS,List.append_nil]
 |3=>
  show List.filter nz ([x.d0,x.d1,x.d2]++List.replicate 1 0)=List.filter nz [x.d0,x.d1,x.d2];rw[List.filter_append,wS,List.append_nil]
 |p+4=>
  have e:jY x (p+4)=x:=by
   obtain⟨k,l,s,d0,d1,d2,d3,i⟩:=x
   simp[jY]
  rw[e,List.take_of_length_le (by simp[iI])]
theorem Cv (x:aP) (p:Nat):iI (bf x p)=iI (jY x p):=by
 unfold bf
 split<;>rfl
theorem wT {x:aP} {vs:List Nat} {p:Nat} (hl:vs.length=32):(cutV x vs p).length=32:=by
 unfold cutV
 split
 ·exact List.length_replicate ..
 ·rw[iw,hl]
theorem Me (l:List Nat) (p:Nat):l.filter nz=(l.take p).filter nz++(l.drop p).filter nz:=by
 rw[<-List.filter_append,List.take_append_drop]
theorem ZG {x:aP} {vs:List Nat} (p:Nat) (hl:vs.length=32) (h0:x.ind=0->vs=List.replicate 32 0):(blks x vs).Perm (bF x vs p++blks (bf x p) (cutV x vs p)):=by
 have e1:(iI x).filter nz=((iI x).take p).filter nz++((iI x).drop p).filter nz:=Me _ _;have e2:vs.filter nz=(vs.take (p-4)).filter nz++(vs.drop (p-4)).filter nz:=Me _ _;rw[iQ hl,iQ (wT hl),Cv];unfold bF;rw[Mc,Cr p hl];show List.Perm (((iI x).filter nz++vs.filter nz)++_) (((((iI x).drop p).filter nz++(vs.drop (p-4)).filter nz)++_)++(((iI (jY x p)).filter nz++(cutV x vs p).filter nz)++_));rw[Vw,e1,e2,List.perm_iff_count];intro b
 by_cases hc:x.ind≠0/\p<=4
 ·have ei:(bf x p).ind=0:=by unfold bf;rw[if_pos hc]
  have ev:(cutV x vs p).filter nz=[]:=by unfold cutV;rw[if_pos hc];exact wS 32
  have ep:p-4=0:=by omega
  rw[if_pos hc,if_neg hc.1,if_pos ei,ev,ep];simp only[List.count_append,List.take_zero,List.filter_nil,List.count_nil,List.drop_zero];omega
 ·have ei:(bf x p).ind=x.ind:=by unfold bf;rw[if_neg hc];rfl
  have ev:(cutV x vs p).filter nz=(vs.take (p-4)).filter nz:=by unfold cutV;rw[if_neg hc];exact ZF vs p
  rw[if_neg hc,ei,ev];simp only[List.count_append,List.count_nil];omega
theorem Vx {vs:List Nat} {p:Nat} (hl:vs.length=32) (h:pR vs p=[]):lK vs p=vs:=by
 rw[Cr p hl,List.filter_eq_nil_iff]at h;refine List.ext_getElem (iw vs p) (λk k1 k2=>?_);rw[mE k2]
 by_cases hp:p<=k+4
 ·rw[if_pos hp]
  have hm:vs[k]∈vs.drop (p-4):=by
   rw[List.mem_iff_getElem];exact⟨k-(p-4),by rw[List.length_drop];omega,by rw[List.getElem_drop];congr 1;omega⟩
  have h2:=h _ hm;have e:vs[k]=0:=Classical.byContradiction λq=>h2 (decide_eq_true q);exact e.symm
 ·rw[if_neg hp]
theorem Qb (p:Nat):lK (List.replicate 32 0) p=List.replicate 32 0:=by
 refine List.ext_getElem (by rw[iw]) (λk k1 k2=>?_);rw[mE k2,List.getElem_replicate]
 split<;>rfl
theorem Vy {vs:List Nat} {p v:Nat} (h:v∈lK vs p):v=0\/v∈vs:=by
 obtain⟨k,k1,rfl⟩:=List.mem_iff_getElem.1 h;rw[iw]at k1;rw[mE k1]
 split
 ·exact .inl rfl
 ·exact .inr (List.getElem_mem k1)
theorem qJ {bl p:Nat} {x:aP} (g:mX bl x):mX bl (bf x p):=by
 have hk:mX bl (jY x p):=by
  unfold mX jY at*;refine⟨?_,?_,?_,?_,g.2.2.2.2⟩
  ·show(if p<=0 then 0 else x.d0)<=bl
   split
   ·exact aB _
   ·exact g.1
  ·show(if p<=1 then 0 else x.d1)<=bl
   split
   ·exact aB _
   ·exact g.2.1
  ·show(if p<=2 then 0 else x.d2)<=bl
   split
   ·exact aB _
   ·exact g.2.2.1
  ·show(if p<=3 then 0 else x.d3)<=bl
   split
   ·exact aB _
   ·exact g.2.2.2.1
 unfold bf
 split
 ·unfold mX at*
  exact⟨hk.1,hk.2.1,hk.2.2.1,hk.2.2.2.1,aB _⟩
 ·exact hk
theorem uY (x:aP) (p k v:Nat) (h:(bf x p).row[k]? =some v) (hv:v≠0):x.row[k]? =some v/\k<p:=by
 have aux:∀(q d:Nat),(if p<=q then 0 else d)=v->d=v/\q<p:=λq d e=>by
  by_cases hq:p<=q
  ·rw[if_pos hq]at e
   exact absurd e.symm hv
  ·rw[if_neg hq]at e
   exact⟨e,by omega⟩
 have key:∀i,(i=x.ind\/i=0)->(i=x.ind->i≠0->4<p)->([if p<=0 then 0 else x.d0,if p<=1 then 0 else x.d1,if p<=2 then 0 else x.d2,if p<=3 then 0 else x.d3,i]:List Nat)[k]? =some v->x.row[k]? =some v/\k<p:=by
  intro i hi h4 h;unfold aP.row
  match k with
  |0=>
   have g:=aux 0 x.d0 (by simpa using h);exact⟨by simp[g.1],g.2⟩
  |1=>
   have g:=aux 1 x.d1 (by simpa using h);exact⟨by simp[g.1],g.2⟩
  |2=>
   have g:=aux 2 x.d2 (by simpa using h);exact⟨by simp[g.1],g.2⟩
  |3=>
   have g:=aux 3 x.d3 (by simpa using h);exact⟨by simp[g.1],g.2⟩
  |4=>
   have g:i=v:=by simpa using h
   rcases hi with q|q
   ·exact⟨by simp[<-q,g],h4 q (by rw[g];exact hv)⟩
   ·exact absurd (g.symm.trans q) hv
  |k+5=>simp at h
 unfold bf at h
 by_cases hc:x.ind≠0/\p<=4
 ·rw[if_pos hc]at h
  exact key 0 (.inr rfl) (λe h0=>absurd rfl h0) h
 ·rw[if_neg hc]at h
  exact key x.ind (.inl rfl) (λe h0=>Classical.byContradiction λh4=>hc ⟨h0,by omega⟩) h
theorem uh {x:aP} {s:Nat} (h:x.Used) (hs:s<=2304) (hd:x.kind=2->s%64=0):(sized (bf x (aQ s)) s).Ok:=by
 have ek:(sized (bf x (aQ s)) s).kind=x.kind:=by unfold sized bf;split<;>rfl
 have el:(sized (bf x (aQ s)) s).links=x.links:=by unfold sized bf;split<;>rfl
 have er:(sized (bf x (aQ s)) s).row=(bf x (aQ s)).row:=rfl;refine .inr ⟨by rw[ek];exact h.kind,by rw[el];exact h.links,hs,by rw[ek];exact hd,?_,?_⟩
 ·intro k v hk hv
  rw[er]at hk;have g:=uY x _ k v hk hv;refine⟨g.2,λj hj hq=>?_⟩;rw[er]at hq;exact(h.row k v g.1 hv).2 j hj (uY x _ j v hq hv).1
 ·intro v hv
  rw[er]at hv;obtain⟨k,k1,e⟩:=List.mem_iff_getElem.1 hv
  by_cases h0:v=0
  ·omega
  ·exact h.lt v (List.mem_of_getElem? (uY x _ k v (by rw[List.getElem?_eq_getElem k1,e]) h0).1)
section
variable {E:Im}
theorem sN {q:Nat} (h:q≠fr E 3):∀(l:List Nat) (D:aZ),iO E D l q=D q
 |[],D=>rfl
 |b::l,D=>by
  have e:iO E D (b::l)=iO E (Cc E D b) l:=rfl;rw[e,sN h l];exact upd_ne _ _ h
theorem yt:∀(l:List Nat) (D:aZ),(D (fr E 3)).size=64->(∀b∈l,b<512)->∀k,dn (iO E D l (fr E 3)) k=if k∈l then false else dn (D (fr E 3)) k
 |[],D,_,_,k=>by
  rw[if_neg (by simp)]
  rfl
 |b::l,D,h,hl,k=>by
  have hg:Cc E D b (fr E 3)=gV (D (fr E 3)) b false:=upd_same _ _ _;have ih:=yt l (Cc E D b) (by rw[hg,jG];exact h) (λc hc=>hl c (List.mem_cons_of_mem _ hc)) k;have e:iO E D (b::l)=iO E (Cc E D b) l:=rfl;have hb:=hl b (List.mem_cons_self ..);rw[e,ih,hg,fE _ _ _ _ (by omega)]
  by_cases q:k∈l
  ·rw[if_pos q,if_pos (List.mem_cons_of_mem _ q)]
  ·rw[if_neg q]
   by_cases r:k=b
   ·rw[if_pos r,if_pos (by rw[r];exact List.mem_cons_self ..)]
   ·rw[if_neg r,if_neg (λt=>(List.mem_cons.1 t).elim r q)]
theorem wU {D:aZ} {x:aP} {vs:List Nat} {p q:Nat} (h0:x.ind=0->vs=List.replicate 32 0) (hq:x.ind≠0->q≠dq E x.ind):gI E D x vs p q=D q:=by
 unfold gI
 split
 ·rfl
 ·split
  ·rfl
  ·next h=>
   have hi:x.ind≠0:=λe=>h (by rw[h0 e];exact uV p);exact upd_ne _ _ (hq hi)
theorem pW {D:aZ} {b fm q:Nat} (h:b≠0->q≠dq E b):oK E D b fm q=D q:=by
 unfold oK
 split
 ·rfl
 ·next hb=>exact upd_ne _ _ (h hb)
theorem Wb {y:aP} {us:List Nat} {b:Nat} (hl:us.length=32) (hd:(blks y us).Nodup) (hb:b≠0) (hm:b∈iI y\/b∈us):y.ind≠b:=by
 intro e;rw[iQ hl]at hd;have h0:y.ind≠0:=by rw[e];exact hb
 rw[if_neg h0,List.nodup_append]at hd;refine hd.2.2 b ?_ y.ind (List.mem_singleton.2 rfl) e.symm;rw[List.mem_append,List.mem_filter,List.mem_filter]
 rcases hm with q|q
 ·exact .inl ⟨q,by simpa using hb⟩
 ·exact .inr ⟨q,by simpa using hb⟩
end
section
variable {E:Im} {D:aZ} {ino:Nat->aP} {vs:Nat->List Nat}
theorem bP.fD (h:bP E D ino vs) {n b:Nat} (h1:1<=n) (hn:n<=E.i) (hb:b∈blks (ino n) (vs n)):1<=b/\b<=E.bl:=by
 have g:=(eY (h.ind n h1 hn).len b).1 hb;have gi:=h.ing n h1 hn;unfold mX at gi;refine⟨by omega,?_⟩
 rcases g.2 with q|q|q
 ·unfold iI at q
  simp only[List.mem_cons,List.not_mem_nil,or_false]at q;omega
 ·exact(h.ind n h1 hn).lt b q
 ·omega
theorem bP.IL (h:bP E D ino vs) {n b:Nat} (h1:1<=n) (hn:n<=E.i) (hb:b∈blks (ino n) (vs n)):dn (D (fr E 3)) b=true:=by
 have g:=h.fD h1 hn hb;exact(h.bit b g.1 g.2).2 ⟨n,h1,hn,hb⟩
theorem bP.cut (h:bP E D ino vs) (n p:Nat) (h1:1<=n) (hn:n<=E.i):(bF (ino n) (vs n) p++blks (bf (ino n) p) (cutV (ino n) (vs n) p)).Nodup/\∀b,b∈blks (ino n) (vs n)↔(b∈bF (ino n) (vs n) p\/b∈blks (bf (ino n) p) (cutV (ino n) (vs n) p)):=by
 have g:=h.ind n h1 hn;have hp:=ZG p g.len g.no;refine⟨hp.nodup_iff.1 (h.once n h1 hn),λb=>?_⟩;rw[hp.mem_iff,List.mem_append]
theorem bP.sec3 (h:bP E D ino vs) (hs:Small E) (n p:Nat) (h1:1<=n) (hn:n<=E.i):gI E D (ino n) (vs n) p (fr E 3)=D (fr E 3):=
 wU (h.ind n h1 hn).no (λk=>(fP hs (by omega)).symm)
theorem bP.hfr (h:bP E D ino vs) (hs:Small E) (n p:Nat) (h1:1<=n) (hn:n<=E.i) (hs3:(D (fr E 3)).size=64):∀k (hk:k<(bF (ino n) (vs n) p).length),1<=(bF (ino n) (vs n) p)[k]/\(bF (ino n) (vs n) p)[k]<=E.bl/\dn ((iO E (gI E D (ino n) (vs n) p) ((bF (ino n) (vs n) p).take k)) (fr E 3)) (bF (ino n) (vs n) p)[k]=true:=by
 intro k hk;obtain⟨hnd,hm⟩:=h.cut n p h1 hn;have hb:(bF (ino n) (vs n) p)[k]∈blks (ino n) (vs n):=(hm _).2 (.inl (List.getElem_mem hk));have hle:=h.fD h1 hn hb;have hbl:=hs.hb;have hc3:=h.sec3 hs n p h1 hn;have hbit:=h.IL h1 hn hb
 have hno:(bF (ino n) (vs n) p)[k]∉(bF (ino n) (vs n) p).take k:=by
  intro hmem;obtain⟨j,hj,e⟩:=List.mem_iff_getElem.1 hmem;rw[List.length_take]at hj;rw[List.getElem_take]at e;exact List.pairwise_iff_getElem.1 (List.nodup_append.1 hnd).1 j k (by omega) hk (by omega) e
 refine⟨hle.1,hle.2,?_⟩;rw[yt _ _ (by rw[hc3];exact hs3) (λc hc=>?_),hc3,if_neg hno]
 ·exact hbit
 ·have:=h.fD h1 hn ((hm c).2 (.inl (List.mem_of_mem_take hc)))
  omega
theorem bP.hyv (h:bP E D ino vs) (hs:Small E) (n p:Nat) (h1:1<=n) (hn:n<=E.i):dS E (iO E (gI E D (ino n) (vs n) p) (bF (ino n) (vs n) p)) (bf (ino n) p).ind (cutV (ino n) (vs n) p):=by
 have g:=h.ind n h1 hn;refine⟨wT g.len,λv hv=>?_,λe=>?_,λe=>?_⟩
 ·unfold cutV at hv
  split at hv
  ·rw[List.eq_of_mem_replicate hv]
   exact aB _
  ·rcases Vy hv with q|q
   ·rw[q]
    exact aB _
   ·exact g.lt v q
 ·unfold cutV
  split
  ·rfl
  ·next hc=>
   have ei:(bf (ino n) p).ind=(ino n).ind:=by unfold bf;rw[if_neg hc];rfl
   rw[g.no (ei.symm.trans e),Qb]
 ·by_cases hc:(ino n).ind≠0/\p<=4
  ·have ei:(bf (ino n) p).ind=0:=by unfold bf;rw[if_pos hc]
   exact absurd ei e
  ·have ei:(bf (ino n) p).ind=(ino n).ind:=by unfold bf;rw[if_neg hc];rfl
   rw[ei]at e⊢;have hv:cutV (ino n) (vs n) p=lK (vs n) p:=by unfold cutV;rw[if_neg hc]
   rw[hv,sN (fP hs (by omega))];unfold gI;rw[if_neg hc]
   split
   ·next hf=>
    rw[Vx g.len hf];exact g.has e
   ·rw[upd_same,uU (by rw[iw];exact g.len)]
theorem bP.rsz (h:bP E D ino vs) (hs:Small E) (n s:Nat) (h1:1<=n) (hn:n<=E.i) (hsz:(D (tq E n)).size=64) (hs3:(D (fr E 3)).size=64) (hu:(ino n).Used) (hl:s<=2304) (hd:(ino n).kind=2->s%64=0):
 bP E (Dx E D n (ino n) (vs n) s) (dO ino n (sized (bf (ino n) (aQ s)) s)) (dO vs n (cutV (ino n) (vs n) (aQ s))):=by
 have g:=h.ind n h1 hn;have hy:=uh hu hl hd;have hyi:mX E.bl (sized (bf (ino n) (aQ s)) s):=qJ (p:=aQ s) (h.ing n h1 hn);have hyv:dS E _ (sized (bf (ino n) (aQ s)) s).ind _:=h.hyv hs n (aQ s) h1 hn;have hct:(bF (ino n) (vs n) (aQ s)++blks (sized (bf (ino n) (aQ s)) s) (cutV (ino n) (vs n) (aQ s))).Nodup/\∀b,b∈blks (ino n) (vs n)↔(b∈bF (ino n) (vs n) (aQ s)\/b∈blks (sized (bf (ino n) (aQ s)) s) (cutV (ino n) (vs n) (aQ s))):=h.cut n (aQ s) h1 hn;have hbl:=hs.hb;have hc3:=h.sec3 hs n (aQ s) h1 hn
 have hg3:∀k,dn (iO E (gI E D (ino n) (vs n) (aQ s)) (bF (ino n) (vs n) (aQ s)) (fr E 3)) k=if k∈bF (ino n) (vs n) (aQ s)then false else dn (D (fr E 3)) k:=λk=>by
  rw[yt _ _ (by rw[hc3];exact hs3) (λc hc=>?_),hc3];have:=h.fD h1 hn ((hct.2 c).2 (.inl hc));omega
 have hgq:∀q,q≠fr E 3->((ino n).ind≠0->q≠dq E (ino n).ind)->iO E (gI E D (ino n) (vs n) (aQ s)) (bF (ino n) (vs n) (aQ s)) q=D q:=λq q3 qi=>by
  rw[sN q3,wU g.no qi]
 have hus:=wT (x:=ino n) (p:=aQ s) g.len;unfold Dx
 generalize iO E (gI E D (ino n) (vs n) (aQ s)) (bF (ino n) (vs n) (aQ s))=Dg at*
 generalize bF (ino n) (vs n) (aQ s)=zA at*
 generalize cutV (ino n) (vs n) (aQ s)=us at*
 generalize sized (bf (ino n) (aQ s)) s=y at*
 obtain⟨hnd,hm⟩:=hct;have hyn:(blks y us).Nodup:=(List.nodup_append.1 hnd).2.1
 have hbm:uW y us s≠0->uW y us s∈iI y\/uW y us s∈us:=λk=>by
  unfold uW at k⊢
  split at k
  ·exact absurd rfl k
  ·next q=>rw[if_neg q];exact jk k
 generalize uW y us s=b at*
 have hbb:b≠0->b∈blks (ino n) (vs n):=λk=>(hm b).2 (.inr ((eY hus b).2 ⟨k,(hbm k).elim .inl (λq=>.inr (.inl q))⟩));have hbi:b≠0->y.ind≠b:=λk=>Wb hus hyn k (hbm k)
 have ht:∀m,1<=m->m<=E.i->oK E Dg b (s%64) (tq E m)=D (tq E m):=λm m1 m2=>by
  rw[pW (λk=>(fu hs (by omega) m1 m2).symm),hgq _ (qQ hs m) (λk=>(fu hs (by omega) m1 m2).symm)]
 have h3:oK E Dg b (s%64) (fr E 3)=Dg (fr E 3):=pW (λk=>(fP hs (by omega)).symm);refine h.step n y us h1 hn (lg (by rw[ht n h1 hn];exact hsz)) ?_ hy hyi ?_ ?_ ?_ ?_ ?_ hyn
 ·intro m m1 m2 q
  refine jX (by rw[ht n h1 hn];exact hsz) h1 m1 (Ne.symm q) ?_;have e:=h.is m m1 m2;unfold dZ at e⊢;rw[ht m m1 m2];exact e
 ·refine gL hyv (λk=>?_)
  have k1:1<=y.ind:=by omega
  rw[bU (fu hs k1 h1 hn),pW (λkb e=>hbi kb (fF hs k1 (by omega) e))]
 ·intro m m1 m2 q
  refine gL (h.ind m m1 m2) (λk=>?_);have k1:1<=(ino m).ind:=by omega
  have km:(ino m).ind∈blks (ino m) (vs m):=(eY (h.ind m m1 m2).len _).2 ⟨k,.inr (.inr rfl)⟩;rw[bU (fu hs k1 h1 hn),pW (λkb e=>?_),hgq _ (fP hs k1) (λkn e=>?_)]
  ·exact q (h.inds n m h1 hn m1 m2 kn (fF hs k1 (by omega) e))
  ·have e:=fF hs k1 (by omega) e
   exact q (h.one m n b m1 m2 h1 hn (e▸km) (hbb kb))
 ·intro k k1 k2
  rw[bU (qQ hs n).symm,h3,hg3];have hdj:k∈zA->k∉blks y us:=λa c=>(List.nodup_append.1 hnd).2.2 k a k c rfl
  by_cases hf:k∈zA
  ·rw[if_pos hf]
   constructor
   ·intro q
    cases q
   ·rintro(q|q)
    ·exact absurd q (hdj hf)
    ·exact absurd ((hm k).2 (.inl hf)) q.2
  ·rw[if_neg hf]
   constructor
   ·intro q
    by_cases r:k∈blks y us
    ·exact .inl r
    ·exact .inr ⟨q,λt=>((hm k).1 t).elim hf r⟩
   ·rintro(q|q)
    ·exact h.IL h1 hn ((hm k).2 (.inr q))
    ·exact q.1
 ·rw[bU (qQ hs n).symm,h3,hg3,if_neg (λq=>?_)]
  ·exact h.zero
  ·have:=(h.fD h1 hn ((hm 0).2 (.inl q))).1
   omega
 ·intro k hk
  exact .inl ((hm k).2 (.inr hk))
end
def bg (E:Im) (D:aZ):Nat×Bool:=eO (D (fr E 3)) (E.bl+1:Nat) false
def Cw (E:Im) (D:aZ):aZ:=upd (fM E D (bg E D).1) (dq E (bg E D).1) (dQ [])
def SP (E:Im) (D:aZ) (n:Nat) (x:aP) (v:List Nat) (p:Nat) (s:ByteArray) (D':aZ) (y:aP) (us:List Nat):Prop:=
 (aT x v p≠0/\D'=upd (dI E D n x) (dq E (aT x v p)) s/\y=x/\us=v)\/
 (∃b,p<4/\aT x v p=0/\1<=b/\b<=E.bl/\dn (D (fr E 3)) b=false/\(gy x p b).Ok/\D'=upd (dI E (fM E D b) n (gy x p b)) (dq E b) s/\y=gy x p b/\us=v)\/
 (∃b,4<=p/\x.ind≠0/\aT x v p=0/\1<=b/\b<=E.bl/\dn (D (fr E 3)) b=false/\D'=upd (dI E (upd (fM E D b) (dq E x.ind) (dQ (v.set (p-4) b))) n x) (dq E b) s/\y=x/\us=v.set (p-4) b)\/
 (∃d b,4<=p/\x.ind=0/\1<=d/\d<=E.bl/\dn (D (fr E 3)) d=false/\1<=b/\b<=E.bl/\dn ((upd (fM E D d) (dq E d) (dQ [])) (fr E 3)) b=false/\({x with ind:=d}:aP).Ok/\D'=upd (dI E (upd (fM E (upd (fM E D d) (dq E d) (dQ [])) b) (dq E d) (dQ ((List.replicate 32 0).set (p-4) b))) n {x with ind:=d}) (dq E b) s/\y={x with ind:=d}/\us=(List.replicate 32 0).set (p-4) b)
theorem Qc {x:aP} {p b:Nat} (hp:p<4):(gy x p b).row=x.row.set p b:=by
 match p,hp with
 |0,_|1,_|2,_|3,_=>rfl
theorem oq {x:aP} {p b:Nat} (hp:p<4):(gy x p b).kind=x.kind/\(gy x p b).links=x.links/\(gy x p b).size=x.size:=by
 match p,hp with
 |0,_|1,_|2,_|3,_=>exact⟨rfl,rfl,rfl⟩
theorem Mf {x y:aP} {p b:Nat} (h:x.Used) (e1:y.kind=x.kind) (e2:y.links=x.links) (e3:y.size=x.size) (er:y.row=x.row.set p b) (hp:p*64<x.size) (hb:b∉x.row) (hlt:b<65536):y.Ok:=by
 refine .inr ⟨by rw[e1];exact h.kind,by rw[e2];exact h.links,by rw[e3];exact h.size,by rw[e1,e3];exact h.dir,?_,?_⟩
 ·rw[e3,er]
  refine Vv h.row ?_ hb;unfold aQ;omega
 ·intro v hv
  rw[er]at hv
  rcases List.mem_or_eq_of_mem_set hv with q|q
  ·exact h.lt v q
  ·rw[q]
   exact hlt
theorem Fo {x:aP} {b:Nat} (h:b∈x.row):b∈iI x\/b=x.ind:=by
 unfold aP.row at h;unfold iI;simp only[List.mem_cons,List.not_mem_nil,or_false]at h⊢;omega
section
variable {E:Im} {D:aZ} {ino:Nat->aP} {vs:Nat->List Nat}
theorem bP.ZH (h:bP E D ino vs) {n b:Nat} (h1:1<=n) (hn:n<=E.i) (hb1:1<=b) (hb2:b<=E.bl) (hbit:dn (D (fr E 3)) b=false):b∉(ino n).row:=λhm=>by
 refine h.free b hb1 hb2 hbit n h1 hn ((eY (h.ind n h1 hn).len b).2 ⟨by omega,?_⟩)
 rcases Fo hm with q|q
 ·exact .inl q
 ·exact .inr (.inr q)
theorem SP.owns {n p:Nat} {s:ByteArray} {D':aZ} {y:aP} {us:List Nat} (h:bP E D ino vs) (hs:Small E) (h1:1<=n) (hn:n<=E.i) (hsz:(D (tq E n)).size=64) (hs3:(D (fr E 3)).size=64) (hp:p<36) (g:SP E D n (ino n) (vs n) p s D' y us):bP E D' (dO ino n y) (dO vs n us):=by
 rcases g with⟨g1,rfl,rfl,rfl⟩|⟨b,g1,g2,g3,g4,g5,g6,rfl,rfl,rfl⟩|⟨b,g1,g2,g3,g4,g5,g6,rfl,rfl,rfl⟩|⟨d,b,g1,g2,g3,g4,g5,g6,g7,g8,g9,rfl,rfl,rfl⟩
 ·exact h.have_ hs n p s h1 hn hsz g1
 ·exact h.lo hs n p b s h1 hn hsz hs3 g1 g2 g3 g4 g5 g6
 ·exact h.hi hs n p b s _ rfl h1 hn hsz hs3 g1 hp g2 g3 g4 g5 g6
 ·exact h.new hs n p d b s _ _ rfl rfl h1 hn hsz hs3 g1 hp g2 g3 g4 g5 g6 g7 g8 g9
theorem SP.same {n p:Nat} {x:aP} {v:List Nat} {s:ByteArray} {D':aZ} {y:aP} {us:List Nat} (g:SP E D n x v p s D' y us):y.kind=x.kind/\y.links=x.links/\y.size=x.size:=by
 rcases g with⟨g1,rfl,rfl,rfl⟩|⟨b,g1,g2,g3,g4,g5,g6,rfl,rfl,rfl⟩|⟨b,g1,g2,g3,g4,g5,g6,rfl,rfl,rfl⟩|⟨d,b,g1,g2,g3,g4,g5,g6,g7,g8,g9,rfl,rfl,rfl⟩
 ·exact⟨rfl,rfl,rfl⟩
 ·exact oq g1
 iterate 2
  ·exact⟨rfl,rfl,rfl⟩
end
section
variable {E:Im} {D:aZ} {Z:Nat->Prop} {Q:Prop} {ino:Nat->aP} {vs:Nat->List Nat}
theorem bP.least (h:bP E D ino vs) {b:Nat} (hL:eO (D (fr E 3)) (E.bl+1:Nat) false=(b,true)):1<=b/\b<=E.bl/\dn (D (fr E 3)) b=false:=by
 obtain⟨a,c⟩:=Cu hL;have hz:=h.zero;refine⟨?_,by omega,c⟩
 rcases Nat.eq_zero_or_pos b with q|q
 ·rw[q,hz]at c
  cases c
 ·exact q
theorem oM (n p:Nat) (s:ByteArray) (w:World) (hs:Small E) (h:IS w E D Z) (o:bP E D ino vs) (h1:1<=n) (hn:n<=E.i) (hk:(ino n).kind≠0) (hp:p*64<(ino n).size) (h64:s.size=64)
 (hz3:Z (fr E 3)) (lL:Z (tq E n)) (hz:∀b,1<=b->b<=E.bl->(b=aT (ino n) (vs n) p\/b=(ino n).ind\/b=(bg E D).1\/b=(bg E (Cw E D)).1)->Z (dq E b)) (hQ:fV E Z->Q) (hN:((bg E D).2=false\/(bg E (Cw E D)).2=false)->Q):
 Calls prog 201 #[E.M,ι F n,ι J p,σ s] w (Out (ι J 0) (ι J 4) (λW=>∃D' y us,SP E D n (ino n) (vs n) p (vX s (min 64 ((ino n).size-p*64))) D' y us/\Wr E D' Z w W) (Fu E Q w)):=by
 have hok:=o.ok n h1 hn;have hu:(ino n).Used:=hok.resolve_left (λe=>hk (by rw[e];rfl));have zB:p<36:=by have:=hu.size;omega
 have hv:=o.ind n h1 hn;have hi:=o.ing n h1 hn;have hbl:=hs.hb;have hl:=hs.may;have hs3:(D (fr E 3)).size=64:=h.sec (jo hs h (.inr rfl));have hb8:1<=E.bl:=by simp[iR,CY]at hl;omega
 have main:∀(b:Nat) (y:aP) (D1:aZ) (us:List Nat),y.Ok->1<=b->b<=E.bl->Z (dq E b)->SP E D n (ino n) (vs n) p (vX s (min 64 ((ino n).size-p*64))) (upd (dI E D1 n y) (dq E b) (vX s (min 64 ((ino n).size-p*64)))) y us->
  (∀W,IS W E D Z->Calls prog 267 #[E.M,(ino n).val,ι J p] W (jA E D1 Z Q y b W))->
  Calls prog 201 #[E.M,ι F n,ι J p,σ s] w (Out (ι J 0) (ι J 4) (λW=>∃D' y us,SP E D n (ino n) (vs n) p (vX s (min 64 ((ino n).size-p*64))) D' y us/\Wr E D' Z w W) (Fu E Q w)):=by
  intro b y D1 us hy hb1 hb2 hzb hsp HM;refine(Ca n p b (ino n) y s w hs h h1 hn (o.is n h1 hn) hok hk hp h64 hy hb1 hb2 lL hzb hQ HM).mono ?_;rintro e W (⟨rfl,g⟩|g)
  ·exact .inl ⟨rfl,_,y,us,hsp,g⟩
  ·exact .inr g
 have none_:(∀W,IS W E D (λ_=>True)->Calls prog 267 #[E.M,(ino n).val,ι J p] W (λe w'=>(∃v u:Value,e=aG (τ #[v,u,ι J 4])/\∃z:aP,v=z.val)/\Fu E True W w'))->Q->
  Calls prog 201 #[E.M,ι F n,ι J p,σ s] w (Out (ι J 0) (ι J 4) (λW=>∃D' y us,SP E D n (ino n) (vs n) p (vX s (min 64 ((ino n).size-p*64))) D' y us/\Wr E D' Z w W) (Fu E Q w)):=by
  intro HN q;have hT:IS w E D (λ_=>True):=h.mono (λ_ _=>trivial);refine(Ca (Z:=λ_=>True) (Q:=Q) (D':=λ_=>⟨#[]⟩) n p 1 (ino n) (ino n) s w hs hT h1 hn (o.is n h1 hn) hok hk hp h64 hok (ah 1) hb8 trivial trivial (λ_=>q) (λW hW=>(HN W hW).mono (λe w' g=>.inr ⟨g.1,⟨q,g.2.1.2⟩,g.2.2⟩))).mono ?_;rintro e W (⟨rfl,g⟩|g)
  ·have e3:=g.1.sec (jo hs g.1 (.inr rfl))
   rw[upd_ne _ _ (fP hs (ah 1)).symm,bU (qQ hs n).symm]at e3;exact absurd e3 (by decide)
  ·exact .inr g
 by_cases hpb:aT (ino n) (vs n) p=0
 ·by_cases h4:p<4
  ·obtain⟨b,r,hL⟩:∃b r,bg E D=(b,r):=⟨_,_,rfl⟩
   cases r with
   |true=>
    obtain⟨b1,b2,b3⟩:=o.least hL;have hy:(gy (ino n) p b).Ok:=Mf hu (oq h4).1 (oq h4).2.1 (oq h4).2.2 (Qc h4) hp (o.ZH h1 hn b1 b2 b3) (by omega)
    exact main b (gy (ino n) p b) (fM E D b) (vs n) hy b1 b2 (hz b b1 b2 (.inr (.inr (.inl (by rw[hL]))))) (.inr (.inl ⟨b,h4,hpb,b1,b2,b3,hy,rfl,rfl,rfl⟩))
     (λW hW=>DM p b (ino n) (vs n) W hs hW hi hv h4 hpb hL b1 b2 hz3 (hz b b1 b2 (.inr (.inr (.inl (by rw[hL]))))) hQ)
   |false=>
    have hL2:(bg E D).2=false:=by rw[hL]
    exact none_ (λW hW=>(Fw p (ino n) (vs n) W hs hW hi hv zB (.inl h4) hpb hL2).mono (λe w' g=>⟨g.1,Fu.of_below trivial g.2⟩)) (hN (.inl hL2))
  ·by_cases h0:(ino n).ind=0
   ·obtain⟨d,r,hL⟩:∃b r,bg E D=(b,r):=⟨_,_,rfl⟩
    cases r with
    |true=>
     obtain⟨d1,d2,d3⟩:=o.least hL;have hnd:Cw E D=upd (fM E D d) (dq E d) (dQ []):=by unfold Cw;rw[hL]
     have h32:(upd (fM E D d) (dq E d) (dQ [])) (fr E 3)=gV (D (fr E 3)) d true:=by rw[upd_ne _ _ (fP hs d1).symm,oo hs d1]
     have hk3:∀k,dn ((upd (fM E D d) (dq E d) (dQ [])) (fr E 3)) k=if k=d then true else dn (D (fr E 3)) k:=λk=>by rw[h32];exact fE _ _ _ _ (by omega)
     have hv1:dS E (upd (fM E D d) (dq E d) (dQ [])) d (List.replicate 32 0):=⟨List.length_replicate ..,λv hv=>by rw[List.eq_of_mem_replicate hv];exact aB _,λ_=>rfl,λ_=>by rw[upd_same];exact UR⟩;obtain⟨b,r,hL2⟩:∃b r,bg E (Cw E D)=(b,r):=⟨_,_,rfl⟩;have hzd:=hz d d1 d2 (.inr (.inr (.inl (by rw[hL]))));cases r with
     |true=>
      have hzb:1<=b->b<=E.bl->Z (dq E b):=λb1 b2=>hz b b1 b2 (.inr (.inr (.inr (by rw[hL2]))));rw[hnd]at hL2;obtain⟨b2,b3⟩:=Cu hL2
      have b1:1<=b:=by
       rcases Nat.eq_zero_or_pos b with q|q
       ·rw[q,hk3,if_neg (by omega),o.zero]at b3
        cases b3
       ·exact q
      have hbd:b≠d:=λe=>by
       rw[hk3,if_pos e]at b3;cases b3
      have hy:({ino n with ind:=d}:aP).Ok:=Mf (b:=d) hu rfl rfl rfl (p:=4) rfl (by omega) (o.ZH h1 hn d1 d2 d3) (by omega);have hv2:dS E (fM E (upd (fM E D d) (dq E d) (dQ [])) b) d (List.replicate 32 0):=gL hv1 (λ_=>eT hs (fP hs d1) (λe=>hbd (fF hs d1 b1 e).symm))
      exact main b {ino n with ind:=d} _ _ hy b1 (by omega) (hzb b1 (by omega)) (.inr (.inr (.inr ⟨d,b,by omega,h0,d1,d2,d3,b1,by omega,b3,hy,rfl,rfl,rfl⟩)))
       (λW hW=>Zr p d b (ino n) W _ hs hW hi h0 (by omega) zB hL d1 d2 rfl hv1 hv2 hL2 b1 (by omega) hz3 hzd (hzb b1 (by omega)) hQ)
     |false=>
      have hq:=hN (.inr (by rw[hL2]));rw[hnd]at hL2
      have hL3:(eO ((upd (fM E D d) (dq E d) (dQ [])) (fr E 3)) (E.bl+1:Nat) false).2=false:=by
       show(bg E (upd (fM E D d) (dq E d) (dQ []))).2=false;rw[hL2]
      exact none_ (λW hW=>Dz (Z:=λ_=>True) p d (ino n) W _ hs hW hi h0 (by omega) zB hL d1 d2 rfl hv1 hL3 trivial trivial) hq
    |false=>
     have hL2:(bg E D).2=false:=by rw[hL]
     exact none_ (λW hW=>(Po p (ino n) W hs hW zB (by omega) h0 hL2).mono (λe w' g=>⟨g.1,Fu.of_below trivial g.2⟩)) (hN (.inl hL2))
   ·obtain⟨b,r,hL⟩:∃b r,bg E D=(b,r):=⟨_,_,rfl⟩
    cases r with
    |true=>
     obtain⟨b1,b2,b3⟩:=o.least hL;have hv2:dS E (fM E D b) (ino n).ind (vs n):=gL hv (λk=>eT hs (fP hs (by omega)) (λe=>o.Ab b b1 b2 b3 n h1 hn (fF hs (by omega) b1 e)));have hzn:Z (dq E (ino n).ind):=hz _ (by omega) hi.2.2.2.2 (.inr (.inl rfl));have hzb:=hz b b1 b2 (.inr (.inr (.inl (by rw[hL]))))
     exact main b (ino n) _ _ hok b1 b2 hzb (.inr (.inr (.inl ⟨b,by omega,h0,hpb,b1,b2,b3,rfl,rfl,rfl⟩)))
      (λW hW=>Ex p b (ino n) (vs n) W hs hW hi hv hv2 (by omega) zB (by omega) hzn hpb hL b1 b2 hz3 hzb hQ)
    |false=>
     have hL2:(bg E D).2=false:=by rw[hL]
     exact none_ (λW hW=>(Fw p (ino n) (vs n) W hs hW hi hv zB (.inr h0) hpb hL2).mono (λe w' g=>⟨g.1,Fu.of_below trivial g.2⟩)) (hN (.inl hL2))
 ·have hm:aT (ino n) (vs n) p∈blks (ino n) (vs n):=(eY hv.len _).2 ⟨hpb,(jk hpb).elim .inl (λq=>.inr (.inl q))⟩
  have hle:=o.fD h1 hn hm
  have h04:p<4\/(ino n).ind≠0:=by
   rcases Nat.lt_or_ge p 4 with q|q
   ·exact .inl q
   ·refine .inr (λe=>hpb ?_)
    obtain⟨hq,hv4⟩:=rY (x:=ino n) (vs:=vs n) q hv.len zB;have hmem:(vs n)[p-4]∈vs n:=List.getElem_mem hq
    have hz0:∀v,v∈vs n->v=0:=λv hm=>by
     rw[hv.no e]at hm;exact List.eq_of_mem_replicate hm
    rw[hv4];exact hz0 _ hmem
  exact main (aT (ino n) (vs n) p) (ino n) D (vs n) hok hle.1 hle.2 (hz _ hle.1 hle.2 (.inl rfl)) (.inl ⟨hpb,rfl,rfl,rfl⟩)
   (λW hW=>Ve p (ino n) (vs n) W hs hW hi hv zB hpb h04)
end
theorem ZI:∀(l:List Nat) (p q c:Nat),(l.filter nz).Nodup->l[p]? =some c->l[q]? =some c->c≠0->p=q
 |[],p,q,c,_,h,_,_=>by simp at h
 |a::r,0,0,c,_,_,_,_=>rfl
 |a::r,0,q+1,c,hn,h1,h2,hc=>by
  have e:a=c:=by simpa using h1
  subst e;have hz:nz a=true:=by simpa[nz]using hc
  rw[List.filter_cons,if_pos hz,List.nodup_cons]at hn;exact absurd (List.mem_filter.2 ⟨List.mem_of_getElem? (by simpa using h2),hz⟩) hn.1
 |a::r,p+1,0,c,hn,h1,h2,hc=>by
  have e:a=c:=by simpa using h2
  subst e;have hz:nz a=true:=by simpa[nz]using hc
  rw[List.filter_cons,if_pos hz,List.nodup_cons]at hn;exact absurd (List.mem_filter.2 ⟨List.mem_of_getElem? (by simpa using h1),hz⟩) hn.1
 |a::r,p+1,q+1,c,hn,h1,h2,hc=>by
  rw[List.filter_cons]at hn
  have hr:(r.filter nz).Nodup:=by
   split at hn
   ·exact(List.nodup_cons.1 hn).2
   ·exact hn
  rw[ZI r p q c hr (by simpa using h1) (by simpa using h2) hc]
theorem Mg (l:List Nat) (p b q:Nat) (hp:p<l.length):(l.set p b).getD q 0=if q=p then b else l.getD q 0:=by
 rw[List.getD_eq_getElem?_getD,List.getElem?_set,List.getD_eq_getElem?_getD]
 by_cases e:p=q
 ·rw[if_pos e,if_pos (by omega),if_pos e.symm]
  rfl
 ·rw[if_neg e,if_neg (λh=>e h.symm)]
theorem Mh {x:aP} {vs:List Nat} (hl:vs.length=32):(nE x vs).length=36:=by
 unfold nE
 simp[hl]
theorem qK {x:aP} {vs:List Nat} {p b:Nat} (hp:p<4) (hl:vs.length=32) (q:Nat):aT (gy x p b) vs q=if q=p then b else aT x vs q:=by
 have e:nE (gy x p b) vs=(nE x vs).set p b:=by
  match p,hp with
  |0,_|1,_|2,_|3,_=>rfl
 unfold aT;rw[e,Mg _ _ _ _ (by rw[Mh hl];omega)]
theorem kJ {x:aP} {vs:List Nat} {p b:Nat} (h4:4<=p) (hp:p<36) (hl:vs.length=32) (q:Nat):aT x (vs.set (p-4) b) q=if q=p then b else aT x vs q:=by
 obtain⟨k,rfl⟩:∃k,p=k+4:=⟨p-4,by omega⟩
 have e:nE x (vs.set (k+4-4) b)=(nE x vs).set (k+4) b:=by
  rw[Nat.add_sub_cancel]
  rfl
 unfold aT;rw[e,Mg _ _ _ _ (by rw[Mh hl];omega)]
theorem FJ {x:aP} {vs:List Nat} {p:Nat} (h:aT x vs p≠0):(nE x vs)[p]? =some (aT x vs p):=by
 unfold aT at*;rw[List.getD_eq_getElem?_getD]at*;cases e:(nE x vs)[p]?with
 |none=>rw[e]at h;exact absurd rfl h
 |some v=>rfl
section
variable {E:Im} {D:aZ} {ino:Nat->aP} {vs:Nat->List Nat}
theorem bP.Sd (h:bP E D ino vs) {n p q:Nat} (h1:1<=n) (hn:n<=E.i) (hp:aT (ino n) (vs n) p≠0) (e:aT (ino n) (vs n) q=aT (ino n) (vs n) p):q=p:=by
 have hd:=h.once n h1 hn;rw[iQ (h.ind n h1 hn).len]at hd;have hd:=(List.nodup_append.1 hd).1
 have e2:(iI (ino n)).filter (λv=>decide (v≠0))++(vs n).filter (λv=>decide (v≠0))=(nE (ino n) (vs n)).filter nz:=by
  rw[<-List.filter_append]
  rfl
 rw[e2]at hd;exact ZI _ q p _ hd (by rw[FJ (by rw[e];exact hp),e]) (FJ hp) hp
theorem bP.mg (h:bP E D ino vs) {n p:Nat} (h1:1<=n) (hn:n<=E.i) (hp:aT (ino n) (vs n) p≠0):aT (ino n) (vs n) p∈blks (ino n) (vs n):=
 (eY (h.ind n h1 hn).len _).2 ⟨hp,(jk hp).elim .inl (λq=>.inr (.inl q))⟩
theorem yu {x y:aP} {v u:List Nat} {D':aZ} {q:Nat} (e:aT y u q=aT x v q) (hd:aT x v q≠0->D' (dq E (aT x v q))=D (dq E (aT x v q))):xw E D' y u q=xw E D x v q:=by
 unfold xw;rw[e]
 split
 ·rfl
 ·next h=>exact hd h
theorem Cx {y:aP} {u:List Nat} {D':aZ} {q b:Nat} {s:ByteArray} (e:aT y u q=b) (hb:1<=b) (hd:D' (dq E b)=s):xw E D' y u q=s:=by
 unfold xw;rw[e,if_neg (by omega),hd]
theorem SP.pages {n p:Nat} {s:ByteArray} {D':aZ} {y:aP} {us:List Nat} (h:bP E D ino vs) (hs:Small E) (h1:1<=n) (hn:n<=E.i) (hs3:(D (fr E 3)).size=64) (hp:p<36) (g:SP E D n (ino n) (vs n) p s D' y us) (q:Nat) (hq:q<36):xw E D' y us q=if q=p then s else xw E D (ino n) (vs n) q:=by
 have hl:=(h.ind n h1 hn).len
 rcases g with⟨g1,rfl,rfl,rfl⟩|⟨b,g1,g2,g3,g4,g5,g6,rfl,rfl,rfl⟩|⟨b,g1,g2,g3,g4,g5,g6,rfl,rfl,rfl⟩|⟨d,b,g1,g2,g3,g4,g5,g6,g7,g8,g9,rfl,rfl,rfl⟩
 ·have hb:=h.fD h1 hn (h.mg h1 hn g1)
  by_cases e:q=p
  ·subst e
   rw[if_pos rfl];exact Cx rfl hb.1 (upd_same _ _ _)
  ·rw[if_neg e]
   refine yu rfl (λk=>?_);have hc:=h.fD h1 hn (h.mg h1 hn k);rw[upd_ne _ _ (λe2=>e (h.Sd h1 hn g1 (fF hs hc.1 hb.1 e2))),bU (fu hs hc.1 h1 hn)]
 ·by_cases e:q=p
  ·subst e
   rw[if_pos rfl];exact Cx (by rw[qK g1 hl,if_pos rfl]) g3 (upd_same _ _ _)
  ·rw[if_neg e]
   refine yu (by rw[qK g1 hl,if_neg e]) (λk=>?_);have hm:=h.mg h1 hn k;have hc:=h.fD h1 hn hm;have hne:dq E (aT (ino n) (vs n) q)≠dq E b:=λe2=>h.free b g3 g4 g5 n h1 hn (fF hs hc.1 g3 e2▸hm);rw[upd_ne _ _ hne,bU (fu hs hc.1 h1 hn),eT hs (fP hs hc.1) hne]
 ·by_cases e:q=p
  ·subst e
   rw[if_pos rfl];exact Cx (by rw[kJ g1 hp hl,if_pos rfl]) g4 (upd_same _ _ _)
  ·rw[if_neg e]
   refine yu (by rw[kJ g1 hp hl,if_neg e]) (λk=>?_);have hm:=h.mg h1 hn k;have hc:=h.fD h1 hn hm;have hne:dq E (aT (ino n) (vs n) q)≠dq E b:=λe2=>h.free b g4 g5 g6 n h1 hn (fF hs hc.1 g4 e2▸hm);have hni:dq E (aT (ino n) (vs n) q)≠dq E (ino n).ind:=λe2=>h.PX n _ h1 hn k (jk k) n h1 hn (fF hs hc.1 (by omega) e2).symm;rw[upd_ne _ _ hne,bU (fu hs hc.1 h1 hn),upd_ne _ _ hni,eT hs (fP hs hc.1) hne]
 ·have hbl:=hs.hb
  have hvz:vs n=List.replicate 32 0:=(h.ind n h1 hn).no g2;have hz32:(List.replicate 32 0).length=32:=List.length_replicate ..;have h32:(upd (fM E D d) (dq E d) (dQ [])) (fr E 3)=gV (D (fr E 3)) d true:=by rw[upd_ne _ _ (fP hs g3).symm,oo hs g3]
  have hk3:∀k,dn ((upd (fM E D d) (dq E d) (dQ [])) (fr E 3)) k=if k=d then true else dn (D (fr E 3)) k:=λk=>by rw[h32];exact fE _ _ _ _ (by rw[hs3];omega)
  have hbd:b≠d:=λe=>by
   rw[hk3,if_pos e]at g8;cases g8
  have g8':=g8;rw[hk3,if_neg hbd]at g8'
  by_cases e:q=p
  ·subst e
   rw[if_pos rfl];exact Cx (by rw[kJ g1 hp hz32,if_pos rfl]) g6 (upd_same _ _ _)
  ·rw[if_neg e]
   have e0:aT {ino n with ind:=d} (List.replicate 32 0) q=aT (ino n) (vs n) q:=by rw[hvz];rfl
   refine yu (by rw[kJ g1 hp hz32,if_neg e,e0]) (λk=>?_);have hm:=h.mg h1 hn k;have hc:=h.fD h1 hn hm;have hne:dq E (aT (ino n) (vs n) q)≠dq E b:=λe2=>h.free b g6 g7 g8' n h1 hn (fF hs hc.1 g6 e2▸hm);have hnd:dq E (aT (ino n) (vs n) q)≠dq E d:=λe2=>h.free d g3 g4 g5 n h1 hn (fF hs hc.1 g3 e2▸hm);rw[upd_ne _ _ hne,bU (fu hs hc.1 h1 hn),upd_ne _ _ hnd,eT hs (fP hs hc.1) hne,upd_ne _ _ hnd,eT hs (fP hs hc.1) hnd]
def LS (s:ByteArray) (fm:Nat):ByteArray:=iC s fm (zS.extract fm 64)
theorem FN {x:aP} {v:List Nat} (p:Nat) (hl:v.length=32) (h0:x.ind=0->v=List.replicate 32 0) (q:Nat) (hq:q<36):aT (bf x p) (cutV x v p) q=if q<p then aT x v q else 0:=by
 by_cases h4:q<4
 ·have e1:∀(y:aP) (u:List Nat),aT y u q=(iI y).getD q 0:=λy u=>by
   match q,h4 with
   |0,_|1,_|2,_|3,_=>rfl
  rw[e1,e1,Cv]
  match q,h4 with
  |0,_=>
   show(if p<=0 then 0 else x.d0)=if 0<p then x.d0 else 0
   split<;>split<;>first|rfl|omega
  |1,_=>
   show(if p<=1 then 0 else x.d1)=if 1<p then x.d1 else 0
   split<;>split<;>first|rfl|omega
  |2,_=>
   show(if p<=2 then 0 else x.d2)=if 2<p then x.d2 else 0
   split<;>split<;>first|rfl|omega
  |3,_=>
   show(if p<=3 then 0 else x.d3)=if 3<p then x.d3 else 0
   split<;>split<;>first|rfl|omega
 ·obtain⟨k,rfl⟩:∃k,q=k+4:=⟨q-4,by omega⟩
  have e1:∀(y:aP) (u:List Nat),aT y u (k+4)=u.getD k 0:=λy u=>rfl;rw[e1,e1];unfold cutV
  by_cases hc:x.ind≠0/\p<=4
  ·rw[if_pos hc,if_neg (by omega),List.getD_eq_getElem?_getD,List.getElem?_replicate,if_pos (by omega)]
   rfl
  ·rw[if_neg hc,List.getD_eq_getElem?_getD,List.getElem?_eq_getElem (by rw[iw];omega),List.getD_eq_getElem?_getD,List.getElem?_eq_getElem (by omega)]
   show(lK v p)[k]'_=if k+4<p then v[k]'_ else 0;rw[mE (by omega)]
   split<;>split<;>first|rfl|omega
theorem bP.ZJ (h:bP E D ino vs) (hs:Small E) (n s:Nat) (h1:1<=n) (hn:n<=E.i) (hl2:s<=2304) (q:Nat) (hq:q<36):
 xw E (Dx E D n (ino n) (vs n) s) (sized (bf (ino n) (aQ s)) s) (cutV (ino n) (vs n) (aQ s)) q=if q<aQ s then(if s%64≠0/\q=s/64/\aT (ino n) (vs n) q≠0 then LS (xw E D (ino n) (vs n) q) (s%64)else xw E D (ino n) (vs n) q)else zS:=by
 have g:=h.ind n h1 hn;have hpb:∀r,r<36->aT (sized (bf (ino n) (aQ s)) s) (cutV (ino n) (vs n) (aQ s)) r=if r<aQ s then aT (ino n) (vs n) r else 0:=λr hr=>FN (aQ s) g.len g.no r hr;have hpg:aQ s<=36:=by unfold aQ;omega
 by_cases hp:q<aQ s
 ·rw[if_pos hp]
  have e1:=hpb q hq;rw[if_pos hp]at e1
  by_cases hb:aT (ino n) (vs n) q=0
  ·rw[if_neg (λk=>k.2.2 hb)]
   exact yu e1 (λk=>absurd hb k)
  ·have hm:=h.mg h1 hn hb
   have hc:=h.fD h1 hn hm;have hni:(ino n).ind≠0->dq E (aT (ino n) (vs n) q)≠dq E (ino n).ind:=λk e2=>h.PX n _ h1 hn hb (jk hb) n h1 hn (fF hs hc.1 (by omega) e2).symm
   have hD:iO E (gI E D (ino n) (vs n) (aQ s)) (bF (ino n) (vs n) (aQ s)) (dq E (aT (ino n) (vs n) q))=D (dq E (aT (ino n) (vs n) q)):=by
     rw[sN (fP hs hc.1),wU g.no hni]
   have hset:Dx E D n (ino n) (vs n) s (dq E (aT (ino n) (vs n) q))=oK E (iO E (gI E D (ino n) (vs n) (aQ s)) (bF (ino n) (vs n) (aQ s))) (uW (sized (bf (ino n) (aQ s)) s) (cutV (ino n) (vs n) (aQ s)) s) (s%64) (dq E (aT (ino n) (vs n) q)):=bU (fu hs hc.1 h1 hn)
   by_cases hk:s%64≠0/\q=s/64
   ·have eb:uW (sized (bf (ino n) (aQ s)) s) (cutV (ino n) (vs n) (aQ s)) s=aT (ino n) (vs n) q:=by
     unfold uW;rw[if_neg hk.1,<-hk.2,e1]
    rw[if_pos ⟨hk.1,hk.2,hb⟩];refine Cx e1 hc.1 ?_;rw[hset,eb];unfold oK;rw[if_neg hb,upd_same,hD];unfold LS xw;rw[if_neg hb]
   ·rw[if_neg (λk=>hk ⟨k.1,k.2.1⟩)]
    refine yu e1 (λ_=>?_);rw[hset,pW (λk e2=>?_),hD];unfold uW at k e2
    by_cases h64:s%64=0
    ·rw[if_pos h64]at k
     exact k rfl
    ·rw[if_neg h64]at k e2
     have hr:s/64<36:=by omega
     have hr2:s/64<aQ s:=by unfold aQ;omega
     rw[hpb _ hr,if_pos hr2]at k e2;have hc2:=h.fD h1 hn (h.mg h1 hn k);have e3:=fF hs hc.1 hc2.1 e2;exact hk ⟨h64,h.Sd h1 hn k e3⟩
 ·rw[if_neg hp]
  unfold xw;rw[hpb q hq,if_neg hp,if_pos rfl]
end
end lC
namespace Dir
open Oct Path
def Qd (r:Int×List bC):List UInt8×Int:=(if r.1=0 then dW r.2 else[],r.1)
theorem FQ {es:List bC} (d:Dir es) (n:List UInt8):(dR (dW es) n).1=gU n es/\(dR (dW es) n).2.2=decide (gU n es≠0)/\eU n es=(if(dR (dW es) n).2.2=true then some (dR (dW es) n).2.1 else none):=by
 unfold dR;rw[if_pos (yw d),yx d.ok];cases hf:eU n es with
 |none=>
  have:=wV hf
  simp[this]
 |some k=>
  obtain⟨hk,h1,h2⟩:=Mi hf;simp only[h1];refine⟨?_,?_,by simp⟩
  ·simp[List.getD_eq_getElem?_getD,List.getElem?_eq_getElem hk]
  ·rw[h1]at h2
   simp[h2]
theorem Mj {es:List bC} (d:Dir es) (n:List UInt8) (i:Nat) (hi:i<4294967296):rP (dW es) n i=Qd (Cy n i es):=by
 unfold rP Cy Qd;rw[if_pos (yw d),yx d.ok,kg d.ok];obtain⟨f1,f2,f3⟩:=FQ d n;cases hm:may (n,i)with
 |false=>simp
 |true=>
  have okN:Nb (n,i):=.inr ⟨hm,hi⟩;have hen:slotL (n,i)=dV (n,i):=by unfold dV;rw[if_neg (je hm).1]
  simp only[if_true];rw[f3];cases hq:(dR (dW es) n).2.2 with
  |true=>simp
  |false=>
   simp only[Bool.false_eq_true,if_false];cases hk:uD es with
   |some k=>
    obtain⟨hk1,hk2⟩:=FU hk;have hp:=Sg d.ok okN hk1;rw[hen]
    simp[hp]
   |none=>
    by_cases hf:72<=es.length
    ·rw[if_pos (by omega),if_pos hf];simp
    ·rw[if_neg (by omega),if_neg hf]
     have h2:dW (es++[((n,i):bC),([],0)])=dW es++dV (n,i)++gZ:=by
        rw[sP,List.append_assoc]
        congr 1
     rw[hen,<-h2]
     simp
theorem Mk {es:List bC} (d:Dir es) (n:List UInt8):xR (dW es) n=((Qd (IQ n es)).1,(if(IQ n es).1=0 then gU n es else 0),(IQ n es).1):=by
 unfold xR IQ Qd;rw[if_pos (yw d)];obtain⟨f1,f2,f3⟩:=FQ d n;rw[f3];cases hq:(dR (dW es) n).2.2 with
 |false=>simp
 |true=>
  rw[hq]at f3;simp only[if_true]at f3⊢;obtain⟨hk,k0,k1⟩:=mq f3;rw[show gZ=dV ([],0)from rfl,Sg d.ok (.inl rfl) hk,f1]
theorem ZK {s n:List UInt8} {i:Nat} (hi:i<4294967296) (h:(rP s n i).2=0):dh s=0/\∃es',Cy n i (bX s)=(0,es')/\(rP s n i).1=dW es'/\Dir es':=by
 have hc:dh s=0:=by
  unfold rP at h
  by_cases hc:dh s=0
  ·exact hc
  ·rw[if_neg hc]at h
   exact absurd h hc
 obtain⟨d,e,_⟩:=rO hc;have g:=Mj d n i hi;rw[e]at g;rw[g]at h⊢;unfold Qd at h⊢;obtain⟨c,es',ha⟩:∃c es',Cy n i (bX s)=(c,es'):=⟨_,_,rfl⟩;rw[ha]at h⊢;have hc0:c=0:=h;subst hc0;exact⟨hc,es',rfl,by simp,(ZL d hi ha).1⟩
theorem ZM {s n:List UInt8} (h:(xR s n).2.2=0):dh s=0/\∃es',IQ n (bX s)=(0,es')/\(xR s n).1=dW es'/\(xR s n).2.1=gU n (bX s)/\Dir es':=by
 have hc:dh s=0:=by
  unfold xR at h
  by_cases hc:dh s=0
  ·exact hc
  ·rw[if_neg hc]at h
   exact absurd h hc
 obtain⟨d,e,_⟩:=rO hc;have g:=Mk d n;rw[e]at g;rw[g]at h⊢;obtain⟨c,es',ha⟩:∃c es',IQ n (bX s)=(c,es'):=⟨_,_,rfl⟩;rw[ha]at h⊢;have hc0:c=0:=h;subst hc0;exact⟨hc,es',rfl,by simp[Qd],by simp,(ZN d ha).1⟩
theorem pX {es:List bC} (d:Dir es):(B (dW es)).size%64=0/\(B (dW es)).size<=2304:=by
 rw[aV,kg d.ok];have h1:=d.le;have h2:=d.even;omega
end Dir
namespace lC
open Go.RowKit Go.Shelf Go.Maps Oct Dev mU Tx Geo qX Bm
theorem Mq (M n i:Nat) (nm s t:ByteArray) (c:Int) (w:World) (R:Int->World->Prop)
 (hT:Calls prog 94 #[M,ι F n] w λe w'=>e=aG (τ #[σ s,ι J 0])/\Below w.heap.size w w')
 (hA:∀W,Calls prog 259 #[σ s,σ nm,ι F i] W λe w'=>e=aG (τ #[σ t,ι J c])/\Below W.heap.size W w')
 (hc:c≠0->∀W,Below w.heap.size w W->R c W)
 (hC:c=0->∀W,Below w.heap.size w W->Calls prog 260 #[M,ι F n,σ s,σ t] W λe W'=>∃c',e=aG (ι J c')/\R c' W')
 (hR:∀c W W',R c W->Below W.heap.size W W'->R c W'):
 Calls prog 179 #[M,ι F n,σ nm,ι F i] w λe W=>∃c',e=aG (ι J c')/\R c' W:=by
 have TX:=U hT;have AD:=U hA;have HR:=U hR;clear hT hA hR
 go_enter func179,ntmps179
 go_wp2_with fail;refine TX.o.mono ?_;rintro e w1 ⟨rfl,b1⟩;have B1:=U b1;clear b1;go_wp2_with fail;refine(AD.o _).mono ?_;rintro e w2 ⟨rfl,b2⟩;have B2:=U (B1.o.trans (b2.mono B1.o.size));clear b2
 by_cases h0:c=0
 ·have CH:=U (hC h0)
  subst h0;clear hc hC;go_wp2_with fail;refine(CH.o _ B2.o).mono ?_;rintro e w3 ⟨c',rfl,hr⟩;have H3:=U hr;clear hr
  go_wp2
  go_ret;exact⟨c',rfl,H3.o⟩
 ·have HC:=U (hc h0 _ B2.o)
  have t1:(c !=0)=true:=by simp;omega
  clear hc hC
  go_wp2
  go_ret;exact⟨c,rfl,HC.o⟩
theorem Mr (M n v:Nat) (nm s t:ByteArray) (c:Int) (w:World) (R:Int->World->Prop)
 (hT:Calls prog 94 #[M,ι F n] w λe w'=>e=aG (τ #[σ s,ι J 0])/\Below w.heap.size w w')
 (hA:∀W,Calls prog 308 #[σ s,σ nm] W λe w'=>e=aG (τ #[σ t,ι F v,ι J c])/\Below W.heap.size W w')
 (hc:c≠0->∀W,Below w.heap.size w W->R c W)
 (hC:c=0->∀W,Below w.heap.size w W->Calls prog 260 #[M,ι F n,σ s,σ t] W λe W'=>∃c',e=aG (ι J c')/\R c' W')
 (hR:∀c W W',R c W->Below W.heap.size W W'->R c W'):
 Calls prog 261 #[M,ι F n,σ nm] w λe W=>∃(u:Nat) (c':Int),e=aG (τ #[ι F u,ι J c'])/\R c' W/\(c'=0->u=v):=by
 have TX:=U hT;have AD:=U hA;have HR:=U hR;clear hT hA hR
 go_enter func261,ntmps261
 go_wp2_with fail;refine TX.o.mono ?_;rintro e w1 ⟨rfl,b1⟩;have B1:=U b1;clear b1;go_wp2_with fail;refine(AD.o _).mono ?_;rintro e w2 ⟨rfl,b2⟩;have B2:=U (B1.o.trans (b2.mono B1.o.size));clear b2
 by_cases h0:c=0
 ·have CH:=U (hC h0)
  subst h0;clear hc hC;go_wp2_with fail;refine(CH.o _ B2.o).mono ?_;rintro e w3 ⟨c',rfl,hr⟩;have H3:=U hr;clear hr
  by_cases h1:c'=0
  ·subst h1
   go_wp2
   go_ret2;exact⟨v,0,rfl,H3.o,λ_=>rfl⟩
  ·have t1:(c' !=0)=true:=by simp;omega
   go_wp2
   go_ret2;exact⟨0,c',rfl,H3.o,λq=>absurd q h1⟩
 ·have HC:=U (hc h0 _ B2.o)
  have t0:(c==0)=false:=by simp;omega
  have t1:(c !=0)=true:=by simp;omega
  clear hc hC
  go_wp2
  go_ret2;exact⟨0,c,rfl,HC.o,λq=>absurd q h0⟩
section
variable {E:Im}
theorem uj {D:aZ} {Z:Nat->Prop} {x:aP} {vs:List Nat} {w:World} (hs:Small E) (h:IS w E D Z) (hi:mX E.bl x) (hv:dS E D x.ind vs):∀k,(kr E D x vs k).size=64*k
 |0=>rfl
 |k+1=>by
  have e:kr E D x vs (k+1)=kr E D x vs k++xw E D x vs k:=rfl;rw[e,ByteArray.size_append,uj hs h hi hv k,Cm hs h hi hv k];omega
theorem Cz {x:aP} (h:x.Used) (hk:x.kind=2):64*aQ x.size=x.size:=by
 have:=h.dir hk;unfold aQ;omega
end
def uE (L:Nat->List Nat):Nat->List Nat
 |0=>[]
 |n+1=>uE L n++L (n+1)
theorem Ms (L:Nat->List Nat) (m:Nat):∀n,m<=n->(uE L m).length<=(uE L n).length
 |0,h=>by
  obtain rfl:m=0:=by omega
  exact ah _
 |n+1,h=>by
  by_cases e:m=n+1
  ·subst e
   exact ah _
  ·have:=Ms L m n (by omega)
   have e2:uE L (n+1)=uE L n++L (n+1):=rfl;rw[e2,List.length_append];omega
def gH (ino:Nat->aP) (vs:Nat->List Nat):Nat->List Nat:=uE (λm=>blks (ino m) (vs m))
theorem lu {ino:Nat->aP} {vs:Nat->List Nat} {b:Nat}:∀n,b∈gH ino vs n↔∃m,1<=m/\m<=n/\b∈blks (ino m) (vs m)
 |0=>by
  constructor
  ·intro h
   cases h
  ·rintro⟨m,h1,h2,_⟩
   omega
 |n+1=>by
  have e:gH ino vs (n+1)=gH ino vs n++blks (ino (n+1)) (vs (n+1)):=rfl;rw[e,List.mem_append,lu n]
  constructor
  ·rintro(⟨m,h1,h2,h3⟩|h)
   ·exact⟨m,h1,by omega,h3⟩
   ·exact⟨n+1,by omega,ah _,h⟩
  ·rintro⟨m,h1,h2,h3⟩
   by_cases q:m=n+1
   ·subst q
    exact .inr h3
   ·exact .inl ⟨m,h1,by omega,h3⟩
section
variable {E:Im} {D:aZ} {ino:Nat->aP} {vs:Nat->List Nat}
theorem bP.CB (h:bP E D ino vs):∀n,n<=E.i->(gH ino vs n).Nodup
 |0,_=>List.nodup_nil
 |n+1,hn=>by
  have e:gH ino vs (n+1)=gH ino vs n++blks (ino (n+1)) (vs (n+1)):=rfl;rw[e,List.nodup_append];refine⟨h.CB n (by omega),h.once (n+1) (by omega) hn,λa ha b hb q=>?_⟩;subst q;obtain⟨m,m1,m2,hm⟩:=(lu n).1 ha;have:=h.one m (n+1) a m1 (by omega) (by omega) hn hm hb;omega
theorem bP.count (h:bP E D ino vs):Pw (D (fr E 3)) (E.bl+1)=(gH ino vs E.i).length+1:=by
 unfold Pw
 have hp:((List.range (E.bl+1)).filter λk=>dn (D (fr E 3)) k).Perm (0::gH ino vs E.i):=by
  rw[List.perm_ext_iff_of_nodup]
  ·intro b
   rw[List.mem_filter,List.mem_range,List.mem_cons,lu]
   constructor
   ·rintro⟨h1,h2⟩
    by_cases q:b=0
    ·exact .inl q
    ·exact .inr ((h.bit b (by omega) (by omega)).1 h2)
   ·rintro(rfl|⟨m,m1,m2,hm⟩)
    ·exact⟨by omega,h.zero⟩
    ·have:=h.fD m1 m2 hm
     exact⟨by omega,h.IL m1 m2 hm⟩
  ·exact List.Pairwise.filter _ List.nodup_range
  ·rw[List.nodup_cons]
   refine⟨λq=>?_,h.CB E.i (ah _)⟩;obtain⟨m,m1,m2,hm⟩:=(lu _).1 q;have:=(h.fD m1 m2 hm).1;omega
 rw[hp.length_eq,List.length_cons]
theorem bP.left (h:bP E D ino vs) (hs:Small E) (h3:(D (fr E 3)).size=64):((E.bl:Int)+1-(countB (D (fr E 3)) ((E.bl:Int)+1):Nat))=(E.bl:Int)-(gH ino vs E.i).length:=by
 have hbl:=hs.hb;have e:=Co (D (fr E 3)) (E.bl+1) (by omega);rw[h.count]at e;have e2:((E.bl:Int)+1)=((E.bl+1:Nat):Int):=by push_cast;rfl
 rw[e2,e]
 push_cast
 omega
theorem bP.allLe (h:bP E D ino vs):(gH ino vs E.i).length<=E.bl:=by
 have e:=h.count;unfold Pw at e;have e2:=List.length_filter_le (λk=>dn (D (fr E 3)) k) (List.range (E.bl+1));rw[List.length_range]at e2;omega
end
section
variable {E:Im} {D:aZ} {ino:Nat->aP} {vs:Nat->List Nat}
theorem wY (hs:Small E):fr E 2≠fr E 3/\(∀n,fr E 2≠tq E n)/\∀b,1<=b->fr E 2≠dq E b:=by
 have hv:=hs.vals;refine⟨by omega,λn=>?_,λb hb=>?_⟩
 ·unfold tq
  omega
 ·unfold dq
  omega
theorem bP.Wc (h:bP E D ino vs) (hs:Small E) (s:ByteArray):bP E (upd D (fr E 2) s) ino vs:=by
 obtain⟨q3,qt,qd⟩:=wY hs;have hf:upd D (fr E 2) s (fr E 3)=D (fr E 3):=upd_ne _ _ q3.symm;refine⟨λn n1 n2=>(h.is n n1 n2).upd (qt n).symm,h.ok,h.ing,λn n1 n2=>gL (h.ind n n1 n2) (λk=>upd_ne _ _ (qd _ (by omega)).symm),?_,?_,h.one,h.once⟩
 ·rw[hf]
  exact h.bit
 ·rw[hf]
  exact h.zero
end
end lC
namespace Dir
open Go.RowKit Go.Shelf Oct Path
section
attribute [local go_sem] Oper.semAt_some
def sQ (es:List bC):List Value:=es.flatMap λe=>[σ (B e.1),ι F e.2]
theorem DF (es:List bC) (e:bC):sQ (es++[e])=sQ es++[σ (B e.1),ι F e.2]:=by simp[sQ]
theorem ZO:(prog.info? 202).map (λi=>(i.zero,i.size,i.bytes))=some (some (γ #[σ ⟨#[]⟩,ι F 0]),2,24):=by kernel_rfl
def IU (es:List bC) (w:World) (e:Ending) (w':World):Prop:=
 ∃v,e=aG v/\w'.ownsRow w.heap.size 202 2 v es.length (sQ es)/\Below w.heap.size w w'
def iH (s:List UInt8):List bC:=if dh s=0 then live (bX s)else[]
def lQ (s:ByteArray) (pre:List Nat):List bC:=live (lD s pre)
theorem Qe {s:ByteArray} {pre:List Nat} {k:Nat} (h:(bn s k).2=0):lQ s (pre++[k])=lQ s pre:=by
 unfold lQ;rw[og]
 simp[live,h]
theorem Qf {s:ByteArray} {pre:List Nat} {k:Nat} (h:(bn s k).2≠0):lQ s (pre++[k])=lQ s pre++[bn s k]:=by
 unfold lQ;rw[og]
 simp[live,h]
theorem Vz (s:ByteArray) (pre:List Nat):(lQ s pre).length<=pre.length:=by
 unfold lQ live;exact aD (List.length_filter_le _ _) (by simp[lD])
theorem rV {B base n size:Nat} {e:TypeId} {v:Value} {xs:List Value} {W W':World} {row:Option Nat} (h:W.ownsRow base e size v n xs) (hg:W.grownBy W' row) (hr:∀r,row=some r->B<=r/\∃o:Obj,W.heap[r]? =some o/\o.isCells=false):W'.ownsRow base e size v n xs:=by
 refine h.kept hg ?_
 rcases h.2 with⟨rfl,_⟩|⟨g,cap,cur,rfl,_,hgb,_⟩
 ·exact .inl rfl
 ·refine .inr (λe=>?_)
  obtain⟨_,o,ho,hc⟩:=hr g e.symm;rw[hgb]at ho;cases ho;cases hc
theorem ZP {b0 base n size:Nat} {e:TypeId} {v:Value} {xs:List Value} {W:World} (h:W.ownsRow base e size v n xs) (hb:b0<=base):W.ownsRow b0 e size v n xs:=by
 refine⟨h.1,?_⟩
 rcases h.2 with h1|⟨g,cap,cur,e1,hg,r⟩
 ·exact .inl h1
 ·exact .inr ⟨g,cap,cur,e1,aD hb hg,r⟩
def HeldE (bl base:Nat) (es:List bC) (W:World):Prop:=∃v,Boxed W bl 88 v/\W.ownsRow base 202 2 v es.length (sQ es)
theorem Fr (n:Nat) (hn:4<=n) (s:ByteArray) (w:World) (hs:s.size<=maxLen) (hce:dh (L s)=0):
 CallsIn Fence.wide n prog 95 #[σ s] w (IU (live (bX (L s))) w):=by
 have CK:=U (λW=>fZ s W hs);have SA:=U (λW=>tQ s W);rw[hce]at CK;have hle:=(rO hce).1.le;have hz3:=(rO hce).2.2;rw[bZ]at hz3;have hsz:s.size<=2304:=by omega
 clear hce hle hz3 hs;refine callsIn_of_wp_marks func95 rfl trivial ?_ rfl;simp only[ntmps95,List.size_toArray,List.length_cons,List.length_nil,Nat.reduceAdd,Nat.reduceSub,Array.replicate_succ,Array.replicate_zero,List.push_toArray,List.append_toArray,List.nil_append,List.cons_append]
 gi_wp2_with fail
 refine⟨trivial,(λh=>by cases h),?_⟩;refine(callsIn_wide.2 (CK.o _)).mono ?_;rintro e w5 ⟨rfl,b5⟩;have kO:Boxed w5 w.heap.size 88 (θ none 0 0):=(b5.block _ (by simp)).trans (Boxed.new w _ _);have MU:Below w.heap.size w w5:=((aj _ w).alloc (ah _) _).trans (b5.mono (by simp));have hl5:=kO.lt;clear b5
 gi_wp2_with fail
 refine⟨trivial,(λh=>by cases h),?_⟩;refine(callsIn_wide.2 (SA.o _)).mono ?_;rintro e w' ⟨rfl,rfl⟩
 gi_wp2_with fail
 obtain⟨i0,hi,hz0,hz1,hz2⟩:=info_parts ZO;have bS:=Boxed.new w5 9 (σ s)
 refine wpIn_rangeFunc_ownH rfl (by omega) (gf:=236) (lb:=#[w5.heap.size]) rfl trivial (enters_of func236 (by kernel_rfl) rfl)
  (nZ (n-1) (by omega) w5.heap.size s (by omega) _ bS) kD (kE (by simp)) (aj _ _) (λ_=>rfl)
  (λpre W=>HeldE w.heap.size (w5.heap.size+1) (lQ s pre) W/\(w5.heap.size+1<=W.heap.size/\Below w.heap.size w W))
  (λc pre W=>False)
  (OwnFrom.and (λpre W W' row hs hg hr=>by
   obtain⟨v,h1,h2⟩:=hs;exact⟨v,gP h1 hg hr,rV h2 hg hr⟩) (OwnFrom.and (rM _) (ownFrom_below (ah _) (by simp;omega))))
  (λc _ _ _ _ hs _ _=>hs)
  ⟨⟨_,kO.alloc _,World.ownsRow_nil _ _ _ _⟩,by simp,MU.alloc (by omega) _⟩
  (λk a' W=>∃b,w5.heap.size+1<=b/\aN W b 202 #[σ (B (bn s k).1),ι F (bn s k).2]/\a'={tmps:=#[σ s,undef,G (some ⟨w.heap.size,0,none⟩),undef,G (some ⟨b,0,none⟩),σ s,ι J 0,ν false,σ s,.func (.func 236) #[] #[G (some ⟨w5.heap.size,0,none⟩)],ι J (k:Int),γ #[σ (B (bn s k).1),ι F (bn s k).2],undef,undef,undef,undef,undef,undef,undef,undef],defers:=[]})
  (λk a'=>λ_ W W' row hs hg hr=>by
   obtain⟨b,h1,h2,h3⟩:=hs;exact⟨b,h1,kR h2 hg hr,h3⟩) ?assign ?body ?done ?stop
 case assign=>
  rintro l pre k W K ⟨⟨v,hv,hrow⟩,hz,hB⟩ hK;rw[show iZ (L s) k=(k,bn s k)from rfl]
  dsimp only[kY]
  have HK:=U hK;clear hK
  gi_wp2
  exact HK.o _ _ ((KeepsOthers.alloc _ _).from _) (λv hv=>hv.alloc _) ⟨⟨v,hv.alloc _,hrow.alloc _⟩,by simp;omega,hB.alloc (by omega) _⟩ ⟨W.heap.size,hz,aN.new _ _ _,rfl⟩
 case body=>
  rintro l pre k a' W hl hloop ⟨⟨v,hv,hrow⟩,hz,hB⟩ ⟨b,hb,hS,rfl⟩ hlen;have c0:=hS.cell 0;have c1:=hS.cell 1;simp only[au,av,ay]at c0 c1;have hlt:=hS.lt;have cv:=hv.cell;have fv:=hv.frozen;have hml:=Vz s pre;have hnl:=QY (gT (L s) k);have HLF:Hid ((bn s k).2=0->lQ s (pre++[k])=lQ s pre):=U Qe;have HLL:Hid ((bn s k).2≠0->lQ s (pre++[k])=lQ s pre++[bn s k]):=U Qf;clear hl hloop bS kO MU CK SA hnl;obtain⟨ek,hek⟩:∃x,bn s k=x:=⟨_,rfl⟩;rw[hek]at c0 c1 HLF HLL;rw[hek];clear hek;obtain⟨Ho,i⟩:=ek;simp only at c0 c1 HLF HLL⊢
  by_cases h0:i=0
  ·subst h0
   have E1:=U (HLF.o rfl)
   gi_wp2
   exact⟨KeepsFrom.refl _ _,eP.refl _ _ _,⟨by rw[E1.o];exact⟨v,hv,hrow⟩,hz,hB⟩⟩
  ·have t0:((i:Int)!=0)=true:=by simp;omega
   have t1:(i !=0)=true:=by simp;omega
   have E1:=U (HLL.o h0);have hvl:∀g,v.ownBlock=some g->w5.heap.size+1<=g:=λg e=>(hrow.lt g e).1;have HVL:=U hvl;clear h0 hvl
   gi_wp2_with (gi_at_builtin;refine wpListIn_append_own _ rfl _ _ 88 rfl (w5.heap.size+1) 202 i0 (γ #[σ ⟨#[]⟩,ι F 0]) 2 24 underlying88 hi hz0 hz1 hz2 rfl (by decide) _ _ _ rfl (hrow.alloc _) ⟨W.heap.size,0,none⟩ 1 1 [σ (B Ho),ι F i] rfl rfl ?c1 ?c2 (by unfold maxLen;omega) (by omega) (by simp;omega) ?_)
   case c1=>
    intro j u hu;have e:((⟨W.heap.size,0,none⟩:Addr).add j)=⟨W.heap.size,j,none⟩:=by unfold Addr.add;simp;omega
    rw[e,(aN.new W 202 #[σ (B Ho),ι F i]).cell j]
    simpa using hu
   case c2=>
    intro u hu;simp only[List.mem_cons,List.not_mem_nil,or_false]at hu
    rcases hu with rfl|rfl<;>rfl
   intro v' W2 hown2 hgrow2 _
   obtain⟨g',cap',rfl,hg'⟩:∃g' cap',v'=θ (some ⟨g',0,none⟩) ((lQ s pre).length+1) cap'/\w5.heap.size+1<=g':=by
    rcases hown2.2 with⟨_,e0⟩|⟨g',cap',cur',rfl,hg,_⟩
    ·omega
    ·exact⟨g',cap',rfl,hg⟩
   have hne:∀x,x<w5.heap.size+1->some x≠v.ownBlock:=λx hx e=>by have:=HVL.o _ e.symm;omega
   have hv2:Boxed W2 w.heap.size 88 v:=(hv.alloc _).kept hgrow2 (hne _ (by omega));have c3:=hv2.cell;have f3:=hv2.frozen;have hB2:Below w.heap.size w W2:=(hB.alloc hB.size _).grown hgrow2 (by have:=hB.size;simp;omega) (λk e=>by have:=HVL.o _ e;omega);have hbx2:eP w5.heap.size 9 W W2:=λu hu=>(hu.alloc _).kept hgrow2 (hne _ (by omega))
   have hk2:∀bb,KeepsFrom bb W W2:=by
    intro bb;refine⟨aD (by simp) hgrow2.size,λq o hk0 hk ho=>?_⟩;have hk4:(W.alloc (aH #[σ (B Ho),ι F i] 202)).heap[q]? =some o:=(Below.heap_alloc _ _ _ (Array.getElem?_eq_some_iff.1 hk).1).trans hk;refine(hgrow2.block q (Array.getElem?_eq_some_iff.1 hk4).1 (λe=>?_)).trans hk4
    rcases hrow.2 with⟨rfl,_⟩|⟨g,cap,cur,rfl,_,hgb,_⟩
    ·simp[Value.ownBlock]at e
    ·simp only[Value.ownBlock,Option.some.injEq]at e
     subst e;rw[hgb]at hk;cases hk;cases ho
   have hsz2:w5.heap.size+1<=W2.heap.size:=aD hz (aD (by simp) hgrow2.size);have HG2:=U hgrow2;have HO2:=U hown2;have UG:=U hk2;have fU:=U hbx2;have HB2:=U hB2;have Se:=U hv2;have HR:=U hrow;have hlt2:=hv2.lt;clear hgrow2 hown2 hne hv2 hB2 hbx2 hk2 hv hrow hB cv fv hg'
   gi_wp2
   refine⟨(UG.o _).trans ((KeepsOthers.setCell _ _ _).from _),λu hu=>(fU.o u hu).other (by omega) _,⟨⟨_,Se.o.set _,?_⟩,aD hsz2 (KeepsWalks.setCell W2 _ _).size,HB2.o.setCell (p:=⟨w.heap.size,0,none⟩) (ah _) _⟩⟩;rw[E1.o,DF,List.length_append];exact ownsRow_setCell_below HO2.o (a:=⟨w.heap.size,0,none⟩) (by show w.heap.size<w5.heap.size+1;omega) _
 case done=>
  rintro D ys W hD rfl ⟨⟨v,hv,hrow⟩,hz,hB⟩ hK;have hl:lQ s (List.range (s.size/32))=live (bX (L s)):=by unfold lQ;rw[jT]
  rw[hl]at hrow
  obtain⟨ao,cap,hva⟩:∃ao cap,v=θ ao (live (bX (L s))).length cap:=by
   rcases hrow.2 with⟨rfl,e0⟩|⟨g,cap,cur,rfl,_⟩
   ·exact⟨none,0,by rw[e0]⟩
   ·exact⟨_,_,rfl⟩
  subst hva;have hbase:∀g,Value.ownBlock (θ ao (live (bX (L s))).length cap)=some g->w5.heap.size+1<=g:=λg e=>(hrow.lt g e).1;have cv:=hv.cell;have fv:=hv.frozen;have HRW:=U hrow;have HBS:=U hbase;clear hrow hl hbase bS kO MU CK SA
  generalize hml:(live (bX (L s))).length=ml at*
  have HML:=U hml;clear hml
  gi_wp2
  have hK2:=(KeepsOthers.setCell W ⟨w.heap.size,0,none⟩ (θ ao ml cap)).same D _ hK rfl;refine⟨by simp,.inl ⟨_,_,rfl,run_takeDeferred hK2,?_⟩⟩;have c5:=cell_kept (hv.set (θ ao ml cap)).cell (grownBy_putObj' _ D (.deferred none)) (λr e=>by cases e;exact⟨_,hK2,rfl⟩);have gR:Below w.heap.size w (W.setCell ⟨w.heap.size,0,none⟩ (θ ao ml cap)):=hB.setCell (p:=⟨w.heap.size,0,none⟩) (ah _) _;refine⟨θ ao ml cap,?_,_,rfl,?_,gR.trans (belowK_b (w:=w) (ah _) _ D _ _ (by simp at hD;omega) hK2 rfl rfl)⟩
  ·simp[results,f95,go_sem,c5]
  ·rw[HML.o]
   have h1:=ownsRow_setCell_below HRW.o (a:=⟨w.heap.size,0,none⟩) (by show w.heap.size<w5.heap.size+1;omega) (θ ao ml cap);exact ZP (rV (B:=0) h1 (grownBy_putObj' _ D (.deferred none)) (λr e=>by cases e;exact⟨aB _,_,hK2,rfl⟩)) (by omega)
 case stop=>
  rintro D c pre W _ _ h _;exact h.elim
theorem Fs (n:Nat) (hn:4<=n) (s:ByteArray) (w:World) (hs:s.size<=maxLen) (ce:Int) (hce:dh (L s)=ce) (h0:ce≠0):
 CallsIn Fence.wide n prog 95 #[σ s] w (IU [] w):=by
 have CK:=U (λW=>fZ s W hs);rw[hce]at CK;have q1:(ce !=0)=true:=by simpa using h0
 have q2:(ce==0)=false:=by simpa using h0
 clear h0 hce hs;refine callsIn_of_wp_marks func95 rfl trivial ?_ rfl;simp only[ntmps95,List.size_toArray,List.length_cons,List.length_nil,Nat.reduceAdd,Nat.reduceSub,Array.replicate_succ,Array.replicate_zero,List.push_toArray,List.append_toArray,List.nil_append,List.cons_append]
 gi_wp2_with fail
 refine⟨trivial,(λh=>by cases h),?_⟩;refine(callsIn_wide.2 (CK.o _)).mono ?_;rintro e w5 ⟨rfl,b5⟩;have kO:Boxed w5 w.heap.size 88 (θ none 0 0):=(b5.block _ (by simp)).trans (Boxed.new w _ _);have MU:Below w.heap.size w w5:=((aj _ w).alloc (ah _) _).trans (b5.mono (by simp));have cO:=kO.cell;have fO:=kO.frozen;have hl5:=kO.lt;clear b5
 gi_wp2
 have c5:=(kO.set (θ none 0 0)).cell;refine⟨θ none 0 0,?_,_,rfl,World.ownsRow_nil _ _ _ _,MU.setCell (p:=⟨w.heap.size,0,none⟩) (ah _) _⟩
 simp[results,f95,go_sem,c5]
theorem CF (s:ByteArray) (w:World) (hs:s.size<=maxLen):
 Calls prog 95 #[σ s] w (IU (iH (L s)) w):=by
 by_cases hce:dh (L s)=0
 ·have e:iH (L s)=live (bX (L s)):=by unfold iH;rw[if_pos hce]
  rw[e];exact(callsIn_wide (n:=4)).1 (Fr 4 (ah _) s w hs hce)
 ·have e:iH (L s)=[]:=by unfold iH;rw[if_neg hce]
  rw[e];exact(callsIn_wide (n:=4)).1 (Fs 4 (ah _) s w hs _ rfl hce)
end
end Dir
namespace lC
open Go.RowKit Go.Shelf Go.Maps Oct Dev mU Tx Geo qX Bm Dir
abbrev Flt:=Nat×Nat×Nat
def oN (L:Nat->List Nat):Nat->List (Nat×Nat)
 |0=>[]
 |n+1=>oN L n++(L (n+1)).map λb=>(b,n+1)
theorem FV (L:Nat->List Nat):∀n,∀p∈oN L n,1<=p.2
 |0,p,h=>by cases h
 |n+1,p,h=>by
  have e:oN L (n+1)=oN L n++(L (n+1)).map λb=>(b,n+1):=rfl;rw[e]at h
  rcases List.mem_append.1 h with h|h
  ·exact FV L n p h
  ·obtain⟨b,_,rfl⟩:=List.mem_map.1 h
   exact Nat.succ_le_succ (aB _)
def FG (l:List (Nat×Nat)) (b:Nat):Nat:=(l.filter λp=>decide (p.1=b)).length
def VA (l:List (Nat×Nat)) (b:Nat):Nat:=((l.filter λp=>decide (p.1=b)).head?.map Prod.snd).getD 0
theorem VB {l:List (Nat×Nat)} {b:Nat} (h:(l.map Prod.fst).Nodup):FG l b=if b∈l.map Prod.fst then 1 else 0:=by
 induction l with
 |nil=>simp[FG]
 |cons p r ih=>
  rw[List.map_cons,List.nodup_cons]at h;have:=ih h.2;unfold FG at this⊢
  by_cases e:p.1=b
  ·subst e
   rw[if_neg h.1]at this;rw[if_pos (by simp),List.filter_cons_of_pos (by simp),List.length_cons,this]
  ·rw[List.filter_cons_of_neg (by simpa using e),this]
   simp only[List.map_cons,List.mem_cons,show¬b=p.1 from λq=>e q.symm,false_or]
theorem FO {l:List (Nat×Nat)} {b:Nat} (h:b∉l.map Prod.fst):VA l b=0:=by
 unfold VA;rw[List.filter_eq_nil_iff.2 (λp hp hb=>h (List.mem_map.2 ⟨p,hp,by simpa using hb⟩))]
 rfl
theorem ZQ {l:List (Nat×Nat)} {b:Nat} (h:b∈l.map Prod.fst) (h1:∀p∈l,1<=p.2):1<=VA l b:=by
 obtain⟨p,hp,rfl⟩:=List.mem_map.1 h;unfold VA;cases e:l.filter λq=>decide (q.1=p.1)with
 |nil=>exact absurd (List.filter_eq_nil_iff.1 e p hp) (by simp)
 |cons a r=>exact h1 a ((List.mem_filter.1 (show a∈l.filter (λq=>decide (q.1=p.1))by rw[e];exact List.mem_cons_self ..)).1)
theorem wf_u16 (x:Nat) (h:x<65536):(Lit.int I (x:Int)).wf=true:=by
 simp only[Lit.wf,Bool.and_eq_true,decide_eq_true_eq];exact⟨by show(0:Int)<=x;omega,by show(x:Int)<=65535;omega⟩
theorem FW (L:Nat->List Nat):∀n,(oN L n).map Prod.fst=uE L n
 |0=>rfl
 |n+1=>by
  have e:oN L (n+1)=oN L n++(L (n+1)).map λb=>(b,n+1):=rfl;have e2:uE L (n+1)=uE L n++L (n+1):=rfl;rw[e,e2,List.map_append,FW L n,List.map_map]
  congr 1
  exact List.map_id _
def We (i:Nat) (ino:Nat->aP) (n:Nat):Bool:=decide (1<=n/\n<=i/\(ino n).kind≠0)
def Gw (i:Nat) (ino:Nat->aP) (es:List bC) (q:Nat):List Flt:=if(es.getD q ([],0)).2<2\/We i ino (es.getD q ([],0)).2=false then[(4,1,q)]else[]
section
variable {E:Im} {D:aZ} {ino:Nat->aP} {vs:Nat->List Nat}
theorem bP.cnt (h:bP E D ino vs) (b:Nat) (h1:1<=b) (hb:b<=E.bl):FG (oN (λm=>blks (ino m) (vs m)) E.i) b=(if dn (D (fr E 3)) b=true then 1 else 0)/\(dn (D (fr E 3)) b=true->1<=VA (oN (λm=>blks (ino m) (vs m)) E.i) b)/\(dn (D (fr E 3)) b=false->VA (oN (λm=>blks (ino m) (vs m)) E.i) b=0):=by
 have e:=FW (λm=>blks (ino m) (vs m)) E.i
 have hm:b∈uE (λm=>blks (ino m) (vs m)) E.i↔dn (D (fr E 3)) b=true:=by
  rw[h.bit b h1 hb];exact lu E.i
 have hn:=h.CB E.i (ah _);unfold gH at hn;rw[<-e]at hn hm;refine⟨?_,λq=>ZQ (hm.2 q) (FV _ _),λq=>FO (λhh=>by rw[hm.1 hh]at q;cases q)⟩;rw[VB hn]
 by_cases q:dn (D (fr E 3)) b=true
 ·rw[if_pos q,if_pos (hm.2 q)]
 ·rw[if_neg q,if_neg (λhh=>q (hm.1 hh))]
end
structure Qg (E:Im) (D:aZ) (x:aP) (v:List Nat) (es:List bC):Prop where
 dir:Dir es
 kind:x.kind=2
 links:x.links=1
 size:x.size=(B (dW es)).size
 pg:∀p,p<aQ x.size->xw E D x v p=chunk (B (dW es)) p
structure CX (E:Im) (D:aZ) (ino:Nat->aP) (vs:Nat->List Nat) (es:List bC):Prop where
 own:bP E D ino vs
 root:Qg E D (ino 1) (vs 1) es
 two:∀n,2<=n->n<=E.i->(ino n).kind≠2
 has:∀p,p<aQ (ino 1).size->aT (ino 1) (vs 1) p≠0
theorem Mt (s:ByteArray) (a b:Nat) (h:a<=b):s.extract 0 a++s.extract a b=s.extract 0 b:=by
 apply iL
 show(s.extract 0 a++s.extract a b).data.toList=(s.extract 0 b).data.toList;rw[ByteArray.data_append,Array.toList_append,ByteArray.data_extract,ByteArray.data_extract,ByteArray.data_extract,Array.toList_extract,Array.toList_extract,Array.toList_extract];simp only[List.extract_eq_take_drop,List.drop_zero,Nat.sub_zero];obtain⟨c,rfl⟩:=Nat.exists_eq_add_of_le h;rw[Nat.add_sub_cancel_left,List.take_add]
theorem zn {E:Im} {D:aZ} {x:aP} {v:List Nat} {s:ByteArray}:∀k,(∀p,p<k->xw E D x v p=chunk s p)->kr E D x v k=s.extract 0 (k*64)
 |0,_=>by
  simp[kr]
  rfl
 |k+1,h=>by
  have e:kr E D x v (k+1)=kr E D x v k++xw E D x v k:=rfl;rw[e,zn k (λp hp=>h p (by omega)),h k (by omega)];unfold chunk;exact Mt s (k*64) ((k+1)*64) (by omega)
theorem yA {es:List bC} (d:Dir es):aQ (B (dW es)).size*64=(B (dW es)).size:=by
 have:=pX d;unfold aQ;omega
theorem Qg.text {E:Im} {D:aZ} {x:aP} {v:List Nat} {es:List bC} (h:Qg E D x v es):kr E D x v (aQ x.size)=B (dW es):=by
 rw[zn (aQ x.size) h.pg,h.size,yA h.dir];exact Ij _ _ rfl
section
variable {E:Im} {D D':aZ} {ino:Nat->aP} {vs:Nat->List Nat} {es:List bC}
def Nc (E:Im) (D D':aZ) (ino:Nat->aP) (vs:Nat->List Nat) (n:Nat):Prop:=D' (fr E 2)=D (fr E 2)/\∀m b,1<=m->m<=E.i->m≠n->b∈blks (ino m) (vs m)->D' (dq E b)=D (dq E b)
theorem SP.MV {n p:Nat} {s:ByteArray} {y:aP} {us:List Nat} (h:bP E D ino vs) (hs:Small E) (h1:1<=n) (hn:n<=E.i) (hs3:(D (fr E 3)).size=64) (g:SP E D n (ino n) (vs n) p s D' y us):Nc E D D' ino vs n:=by
 obtain⟨q23,q2t,VD⟩:=wY (E:=E) hs;have hl:=(h.ind n h1 hn).len;have page:aT (ino n) (vs n) p≠0->aT (ino n) (vs n) p∈blks (ino n) (vs n):=λq=>(eY hl _).2 ⟨q,(jk q).elim .inl (λr=>.inr (.inl r))⟩;have indb:(ino n).ind≠0->(ino n).ind∈blks (ino n) (vs n):=λq=>(eY hl _).2 ⟨q,.inr (.inr rfl)⟩;have ne:∀m b c,1<=m->m<=E.i->m≠n->b∈blks (ino m) (vs m)->c∈blks (ino n) (vs n)->b≠c:=λm b c m1 m2 hm hb hc e=>hm (h.one m n b m1 m2 h1 hn hb (e▸hc));have nef:∀m b c,1<=m->m<=E.i->b∈blks (ino m) (vs m)->1<=c->c<=E.bl->dn (D (fr E 3)) c=false->b≠c:=λm b c m1 m2 hb c1 c2 c3 e=>h.free c c1 c2 c3 m m1 m2 (e▸hb);have FX:∀b c,1<=b->1<=c->b≠c->dq E b≠dq E c:=λb c b1 c1 hne e=>hne (fF hs b1 c1 e)
 rcases g with⟨g1,rfl,_,_⟩|⟨b,g1,g2,g3,g4,g5,g6,rfl,_,_⟩|⟨b,g1,g2,g3,g4,g5,g6,rfl,_,_⟩|⟨d,b,g1,g2,g3,g4,g5,g6,g7,g8,g9,rfl,_,_⟩
 ·have hp1:=(h.fD h1 hn (page g1)).1
  refine⟨by rw[upd_ne _ _ (VD _ hp1),bU (q2t n)],λm c m1 m2 hm hc=>?_⟩;have hc1:=(h.fD m1 m2 hc).1;rw[upd_ne _ _ (FX _ _ hc1 hp1 (ne m c _ m1 m2 hm hc (page g1))),bU (fu hs hc1 h1 hn)]
 ·refine⟨by rw[upd_ne _ _ (VD _ g3),bU (q2t n),eT hs q23 (VD _ g3)],λm c m1 m2 hm hc=>?_⟩
  have hc1:=(h.fD m1 m2 hc).1;have e:=FX _ _ hc1 g3 (nef m c b m1 m2 hc g3 g4 g5);rw[upd_ne _ _ e,bU (fu hs hc1 h1 hn),eT hs (fP hs hc1) e]
 ·have hi1:1<=(ino n).ind:=by omega
  refine⟨by rw[upd_ne _ _ (VD _ g4),bU (q2t n),upd_ne _ _ (VD _ hi1),eT hs q23 (VD _ g4)],λm c m1 m2 hm hc=>?_⟩;have hc1:=(h.fD m1 m2 hc).1;have e:=FX _ _ hc1 g4 (nef m c b m1 m2 hc g4 g5 g6);rw[upd_ne _ _ e,bU (fu hs hc1 h1 hn),upd_ne _ _ (FX _ _ hc1 hi1 (ne m c _ m1 m2 hm hc (indb g2))),eT hs (fP hs hc1) e]
 ·have hb3:dn (D (fr E 3)) b=false:=by
   have h3:(upd (fM E D d) (dq E d) (dQ [])) (fr E 3)=gV (D (fr E 3)) d true:=by rw[upd_ne _ _ (fP hs g3).symm,oo hs g3]
   have hbl:=hs.hb;rw[h3,fE _ _ _ _ (by omega)]at g8
   split at g8
   ·cases g8
   ·exact g8
  refine⟨by rw[upd_ne _ _ (VD _ g6),bU (q2t n),upd_ne _ _ (VD _ g3),eT hs q23 (VD _ g6),upd_ne _ _ (VD _ g3),eT hs q23 (VD _ g3)],λm c m1 m2 hm hc=>?_⟩;have hc1:=(h.fD m1 m2 hc).1;have e:=FX _ _ hc1 g6 (nef m c b m1 m2 hc g6 g7 hb3);have e2:=FX _ _ hc1 g3 (nef m c d m1 m2 hc g3 g4 g5);rw[upd_ne _ _ e,bU (fu hs hc1 h1 hn),upd_ne _ _ e2,eT hs (fP hs hc1) e,upd_ne _ _ e2,eT hs (fP hs hc1) e2]
theorem bP.Qh (h:bP E D ino vs) (hs:Small E) (n s:Nat) (h1:1<=n) (hn:n<=E.i):Nc E D (Dx E D n (ino n) (vs n) s) ino vs n:=by
 obtain⟨q23,q2t,VD⟩:=wY (E:=E) hs;have hv:=h.ind n h1 hn;have hl:=hv.len
 have key:∀q,q≠tq E n->q≠fr E 3->(∀c∈blks (ino n) (vs n),q≠dq E c)->Dx E D n (ino n) (vs n) s q=D q:=by
  intro q a1 a2 a3;unfold Dx;rw[bU a1,pW,sN a2,wU hv.no]
  ·intro h0
   exact a3 _ ((eY hl _).2 ⟨h0,.inr (.inr rfl)⟩)
  ·intro h0
   refine a3 _ ((h.cut n (aQ s) h1 hn).2 _ |>.2 (.inr ?_));have hl2:(cutV (ino n) (vs n) (aQ s)).length=32:=wT hl;unfold uW at h0⊢
   split at h0
   ·exact absurd rfl h0
   ·rename_i hm
    rw[if_neg hm];have e:∀z,aT (sized (bf (ino n) (aQ s)) s) (cutV (ino n) (vs n) (aQ s)) z=aT (bf (ino n) (aQ s)) (cutV (ino n) (vs n) (aQ s)) z:=λz=>rfl;rw[e]at h0⊢;exact(eY hl2 _).2 ⟨h0,(jk h0).elim .inl (λr=>.inr (.inl r))⟩
 refine⟨key _ (q2t n) q23 (λc hc=>VD c (h.fD h1 hn hc).1),λm b m1 m2 hm hb=>?_⟩;have hb1:=(h.fD m1 m2 hb).1;refine key _ (fu hs hb1 h1 hn) (fP hs hb1) (λc hc e=>hm ?_);have:=fF hs hb1 (h.fD h1 hn hc).1 e;subst this;exact h.one m n b m1 m2 h1 hn hb hc
theorem Nc.pg {n:Nat} (h:Nc E D D' ino vs n) (o:bP E D ino vs) {m:Nat} (m1:1<=m) (m2:m<=E.i) (hm:m≠n) (p:Nat):xw E D' (ino m) (vs m) p=xw E D (ino m) (vs m) p:=by
 unfold xw
 split
 ·rfl
 ·rename_i q
  exact h.2 m _ m1 m2 hm ((eY (o.ind m m1 m2).len _).2 ⟨q,(jk q).elim .inl (λr=>.inr (.inl r))⟩)
theorem CX.file (h:CX E D ino vs es) {n:Nat} (h2:2<=n) (hn:n<=E.i) {y:aP} {us:List Nat} (o:bP E D' (dO ino n y) (dO vs n us)) (ho:Nc E D D' ino vs n) (hy:y.kind≠2):CX E D' (dO ino n y) (dO vs n us) es:=by
 have e1:dO ino n y 1=ino 1:=dD _ _ (by omega);have e2:dO vs n us 1=vs 1:=dD _ _ (by omega);refine⟨o,⟨h.root.dir,by rw[e1];exact h.root.kind,by rw[e1];exact h.root.links,by rw[e1];exact h.root.size,λp hp=>?_⟩,λm m2 hm=>?_,λp hp=>?_⟩
 ·rw[e1]at hp
  rw[e1,e2,ho.pg h.own (ah 1) (by omega) (by omega)];exact h.root.pg p hp
 ·by_cases q:m=n
  ·subst q
   rw[bH];exact hy
  ·rw[dD _ _ q]
   exact h.two m m2 hm
 ·rw[e1]at hp
  rw[e1,e2];exact h.has p hp
end
def zo (E:Im) (q:Nat):Prop:=fr E 2<=q
theorem ZR {E:Im} (hs:Small E):zo E (fr E 2)/\zo E (fr E 3)/\(∀n,zo E (tq E n))/\∀b,1<=b->zo E (dq E b):=by
 have hv:=hs.vals;unfold zo tq dq;exact⟨ah _,by omega,λn=>by omega,λb hb=>by omega⟩
def Keeps (E:Im) (aM:aZ->(Nat->aP)->Prop):Prop:=∀D ino D' n y,1<=n->n<=E.i->aM D ino->D' (fr E 2)=D (fr E 2)->y.kind=(ino n).kind->y.links=(ino n).links->aM D' (dO ino n y)
def Wh (E:Im) (aM:aZ->(Nat->aP)->Prop) (W:World):Prop:=∃D ino vs,IS W E D (zo E)/\bP E D ino vs/\aM D ino
def An (E:Im) (aM:aZ->(Nat->aP)->Prop) (w:World) (e:Ending) (w':World):Prop:=∃c:Int,e=aG (ι J c)/\aR (λc=>c=E.T.m) w w'/\(c=0->Wh E aM w')
section
variable {E:Im} {D:aZ} {ino:Nat->aP} {vs:Nat->List Nat} {aM:aZ->(Nat->aP)->Prop}
theorem Wh.later {W W':World} (h:Wh E aM W) (hb:Below W.heap.size W W'):Wh E aM W':=by
 obtain⟨D,ino,vs,h1,h2⟩:=h;exact⟨D,ino,vs,h1.later hb,h2⟩
theorem An.below {w w':World} (c:Int) (hc:c≠0) (hb:Below w.heap.size w w'):An E aM w (aG (ι J c)) w':=⟨c,rfl,aR.of_below hb,λq=>absurd q hc⟩
theorem CG (n p:Nat) (s:ByteArray) (w:World) (hs:Small E) (h:IS w E D (zo E)) (o:bP E D ino vs) (h1:1<=n) (hn:n<=E.i) (hk:(ino n).kind≠0) (hp:p*64<(ino n).size) (h64:s.size=64):
 Calls prog 201 #[E.M,ι F n,ι J p,σ s] w (Out (ι J 0) (ι J 4) (λW=>(∃D' y us,IS W E D' (zo E)/\bP E D' (dO ino n y) (dO vs n us)/\y.kind=(ino n).kind/\y.size=(ino n).size/\y.links=(ino n).links/\D' (fr E 2)=D (fr E 2))/\aR (λc=>c=E.T.m) w W) (λW=>aR (λc=>c=E.T.m) w W)):=by
 have hok:=o.ok n h1 hn;have hu:(ino n).Used:=hok.resolve_left (λe=>hk (by rw[e];rfl));refine(oM (Q:=True) n p s w hs h o h1 hn hk hp h64 (ZR hs).2.1 ((ZR hs).2.2.1 n) (λb h _ _=>(ZR hs).2.2.2 b h) (λ_=>trivial) (λ_=>trivial)).mono ?_;rintro e W (⟨rfl,D',y,us,g,g2⟩|⟨rfl,g⟩)
 ·refine .inl ⟨rfl,⟨D',y,us,g2.1,?_,g.same.1,g.same.2.2,g.same.2.1,(g.MV o hs h1 hn (h.sec (jo hs h (.inr rfl)))).1⟩,g2.2⟩
  exact g.owns o hs h1 hn (h.sec (pQ hs h.len h1 hn)) (h.sec (jo hs h (.inr rfl))) (by have:=hu.size;omega)
 ·exact .inr ⟨rfl,g.2⟩
theorem Qi (n:Nat) (p:Int) (s:ByteArray) (w:World) (hs:Small E) (hG:Keeps E aM) (h:Wh E aM w) (hn:n<4294967296) (h64:s.size=64):
 Calls prog 201 #[E.M,ι F n,ι J p,σ s] w (An E aM w):=by
 obtain⟨D,ino,vs,g,o,hg⟩:=h
 by_cases hb:n<1\/E.i<n
 ·refine(LJ n p s w hs g hn hb).mono ?_
  rintro e w' ⟨rfl,b⟩;exact An.below 2 (by decide) b
 ·have h1:1<=n:=by omega
  have h2:n<=E.i:=by omega
  by_cases hk:(ino n).kind=0
  ·refine(IE n p s (ino n) w hs g h1 h2 (o.is n h1 h2) (o.ok n h1 h2) hk).mono ?_
   rintro e w' ⟨rfl,b⟩;exact An.below 3 (by decide) b
  ·by_cases hp:p<0\/36<=p\/((ino n).size:Int)<=p*64
   ·refine(LP n p s (ino n) w hs g h1 h2 (o.is n h1 h2) (o.ok n h1 h2) hk h64 hp).mono ?_
    rintro e w' ⟨rfl,b⟩;exact An.below 2 (by decide) b
   ·obtain⟨q,rfl⟩:∃q:Nat,p=q:=⟨p.toNat,by omega⟩
    refine(CG n q s w hs g o h1 h2 hk (by omega) h64).mono ?_;rintro e W (⟨rfl,⟨D',y,us,a1,a2,a3,_,a4,a5⟩,t⟩|⟨rfl,t⟩)
    ·exact⟨0,rfl,t,λ_=>⟨D',_,_,a1,a2,hG _ _ _ _ _ h1 h2 hg a5 a3 a4⟩⟩
    ·exact⟨4,rfl,t,λq=>by cases q⟩
theorem yB (n s:Nat) (w:World) (hs:Small E) (h:IS w E D (zo E)) (o:bP E D ino vs) (h1:1<=n) (hn:n<=E.i) (hk:(ino n).kind≠0) (hl:s<=2304) (hd:(ino n).kind=2->s%64=0):
 Calls prog 197 #[E.M,ι F n,ι F s] w (Out (ι J 0) (ι J 4) (λW=>(∃D' y us,IS W E D' (zo E)/\bP E D' (dO ino n y) (dO vs n us)/\y.kind=(ino n).kind/\y.size=s/\y.links=(ino n).links/\D' (fr E 2)=D (fr E 2))/\aR (λc=>c=E.T.m) w W) (λW=>aR (λc=>c=E.T.m) w W)):=by
 have hok:=o.ok n h1 hn;have hu:(ino n).Used:=hok.resolve_left (λe=>hk (by rw[e];rfl));have hs3:(D (fr E 3)).size=64:=h.sec (jo hs h (.inr rfl));have hst:=h.sec (pQ hs h.len h1 hn);refine(yc (Q:=True) n s (ino n) (vs n) w hs h h1 hn (o.is n h1 hn) hok hk (o.ing n h1 hn) (o.ind n h1 hn) hl hd (o.hfr hs n _ h1 hn hs3) (uh hu hl hd) (qJ (o.ing n h1 hn)) (o.hyv hs n _ h1 hn) (ZR hs).2.1 ((ZR hs).2.2.1 n) (λb h _ _=>(ZR hs).2.2.2 b h) (λ_=>trivial)).mono ?_;rintro e W (⟨rfl,g⟩|⟨rfl,g⟩)
 ·refine .inl ⟨rfl,⟨_,_,_,g.1,o.rsz hs n s h1 hn hst hs3 hu hl hd,?_,rfl,?_,(o.Qh hs n s h1 hn).1⟩,g.2⟩
  iterate 2
   ·unfold sized bf
    split<;>rfl
 ·exact .inr ⟨rfl,g.2⟩
theorem VE (n s:Nat) (w:World) (hs:Small E) (hG:Keeps E aM) (h:Wh E aM w) (hn:n<4294967296) (hs32:s<4294967296):
 Calls prog 197 #[E.M,ι F n,ι F s] w (An E aM w):=by
 obtain⟨D,ino,vs,g,o,hg⟩:=h
 by_cases hb:n<1\/E.i<n
 ·refine(Pp n s w hs g hn hb).mono ?_
  rintro e w' ⟨rfl,b⟩;exact An.below 2 (by decide) b
 ·have h1:1<=n:=by omega
  have h2:n<=E.i:=by omega
  by_cases hk:(ino n).kind=0
  ·refine(LM n s (ino n) w hs g h1 h2 (o.is n h1 h2) (o.ok n h1 h2) hk).mono ?_
   rintro e w' ⟨rfl,b⟩;exact An.below 3 (by decide) b
  ·by_cases hp:2304<s\/((ino n).kind=2/\s%64≠0)
   ·refine(Pq n s (ino n) w hs g h1 h2 (o.is n h1 h2) (o.ok n h1 h2) hk hs32 hp).mono ?_
    rintro e w' ⟨rfl,b⟩;exact An.below 2 (by decide) b
   ·refine(yB n s w hs g o h1 h2 hk (by omega) (λq=>Classical.byContradiction λr=>hp (.inr ⟨q,r⟩))).mono ?_
    rintro e W (⟨rfl,⟨D',y,us,a1,a2,a3,_,a4,a5⟩,t⟩|⟨rfl,t⟩)
    ·exact⟨0,rfl,t,λ_=>⟨D',_,_,a1,a2,hG _ _ _ _ _ h1 h2 hg a5 a3 a4⟩⟩
    ·exact⟨4,rfl,t,λq=>by cases q⟩
theorem FY (n:Nat) (a b:ByteArray) (w:World) (hs:Small E) (hG:Keeps E aM) (h:IS w E D (zo E)) (o:bP E D ino vs) (hg:aM D ino) (h1:1<=n) (hn:n<=E.i) (hk:(ino n).kind=2) (ha:a.size=(ino n).size) (hb:b.size<=2304) (hb2:b.size%64=0):
 Calls prog 260 #[E.M,ι F n,σ a,σ b] w (An E aM w):=by
 have hok:=o.ok n h1 hn;have hu:(ino n).Used:=hok.resolve_left (λe=>by rw[e]at hk;cases hk);have hsz:=hu.size;refine(Cj E.M n a b w (λ_ W=>(∃D ino vs,IS W E D (zo E)/\bP E D ino vs/\aM D ino/\(ino n).kind=2/\b.size<=(ino n).size)/\aR (λc=>c=E.T.m) w W) (λW=>aR (λc=>c=E.T.m) w W) (by omega) (by omega) ?_ ?_ ?_ ?_).mono ?_
 ·rintro k W W' ⟨⟨D,ino,vs,g1,g2⟩,t⟩ hb
  exact⟨⟨D,ino,vs,g1.later hb,g2⟩,t.trans (aR.of_below hb)⟩
 ·intro hab
  refine(yB n b.size w hs h o h1 hn (by omega) hb (λ_=>hb2)).mono ?_;rintro e W (⟨rfl,⟨D',y,us,a1,a2,a3,a4,a5,a6⟩,t⟩|⟨rfl,t⟩)
  ·exact .inl ⟨rfl,⟨D',_,_,a1,a2,hG _ _ _ _ _ h1 hn hg a6 a3 a5,by rw[bH,a3];exact hk,by rw[bH,a4];exact ah _⟩,t⟩
  ·exact .inr ⟨rfl,t⟩
 ·intro hab
  exact⟨⟨D,ino,vs,h,o,hg,hk,by omega⟩,aR.of_below (aj _ _)⟩
 ·rintro k hk2 W ⟨⟨D,ino,vs,g1,g2,g0,g3,g4⟩,t⟩
  refine⟨λ_=>⟨⟨D,ino,vs,g1,g2,g0,g3,g4⟩,t⟩,λ_=>?_⟩
  have hc:(chunk b k).size=64:=by
   unfold chunk;rw[ByteArray.size_extract];omega
  refine(CG n k (chunk b k) W hs g1 g2 h1 hn (by omega) (by omega) hc).mono ?_;rintro e W2 (⟨rfl,⟨D',y,us,a1,a2,a3,a4,a5,a6⟩,t2⟩|⟨rfl,t2⟩)
  ·exact .inl ⟨rfl,⟨D',_,_,a1,a2,hG _ _ _ _ _ h1 hn g0 a6 a3 a5,by rw[bH,a3];exact g3,by rw[bH,a4];exact g4⟩,t.trans t2⟩
  ·exact .inr ⟨rfl,t.trans t2⟩
 ·rintro e W (⟨rfl,⟨D,ino,vs,g1,g2,g3,_⟩,t⟩|⟨rfl,t⟩)
  ·exact⟨0,rfl,t,λ_=>⟨D,ino,vs,g1,g2,g3⟩⟩
  ·exact⟨4,rfl,t,λq=>by cases q⟩
end
def AnR (E:Im) (aM:aZ->(Nat->aP)->Prop) (w:World) (c:Int) (W:World):Prop:=aR (λc=>c=E.T.m) w W/\(c=0->Wh E aM W)
section
variable {E:Im} {aM:aZ->(Nat->aP)->Prop}
theorem AnR.later {w W W':World} {c:Int} (h:AnR E aM w c W) (hb:Below W.heap.size W W'):AnR E aM w c W':=⟨h.1.trans (aR.of_below hb),λq=>(h.2 q).later hb⟩
theorem ZT (n i:Nat) (nm:ByteArray) (w:World) (hs:Small E) (hG:Keeps E aM) (h:Wh E aM w) (hn:n<4294967296) (hi:i<4294967296) (hnm:nm.size<=maxLen):
 Calls prog 179 #[E.M,ι F n,σ nm,ι F i] w (An E aM w):=by
 obtain⟨D,ino,vs,g,o,hg⟩:=h
 by_cases hb:n<1\/E.i<n
 ·refine(Cg (E:=E) n 2 nm i w (by decide) (LQ n w hs g hn hb)).mono ?_
  rintro e w' ⟨rfl,b⟩;exact An.below 2 (by decide) b
 ·have h1:1<=n:=by omega
  have h2:n<=E.i:=by omega
  by_cases hk:(ino n).kind=0
  ·refine(Cg (E:=E) n 3 nm i w (by decide) (Fx n (ino n) w hs g h1 h2 (o.is n h1 h2) (o.ok n h1 h2) hk)).mono ?_
   rintro e w' ⟨rfl,b⟩;exact An.below 3 (by decide) b
  ·by_cases hk2:(ino n).kind=2
   ·have hok:=o.ok n h1 h2
    have hu:(ino n).Used:=hok.resolve_left (λe=>hk (by rw[e];rfl));have hsz:=hu.size;have TX:=Aa n (ino n) (vs n) w hs g h1 h2 (o.is n h1 h2) hok hk2 (o.ing n h1 h2) (o.ind n h1 h2);have hts:=(uj hs g (o.ing n h1 h2) (o.ind n h1 h2) (aQ (ino n).size)).trans (Cz hu hk2)
    generalize kr E D (ino n) (vs n) (aQ (ino n).size)=s at*
    refine Mq E.M n i nm s _ _ w (AnR E aM w) TX (λW=>Dir.Ra s nm i W (by unfold maxLen;omega) hnm hi) ?_ ?_ (λc W W' q b=>q.later b)
    ·intro hc W b
     exact⟨aR.of_below b,λq=>absurd q hc⟩
    ·intro hc W b
     obtain⟨_,es',_,e2,d⟩:=Dir.ZK hi hc;rw[e2];have hz:=Dir.pX d;refine(FY n s _ W hs hG (g.later b) o hg h1 h2 hk2 hts hz.2 hz.1).mono ?_;rintro e W' ⟨c',rfl,t1,t2⟩;exact⟨c',rfl,(aR.of_below b).trans t1,t2⟩
   ·refine(Cg (E:=E) n 180 nm i w (by decide) (Fy n (ino n) w hs g h1 h2 (o.is n h1 h2) (o.ok n h1 h2) hk hk2)).mono ?_
    rintro e w' ⟨rfl,b⟩;exact An.below 180 (by decide) b
def AnL (E:Im) (aM:aZ->(Nat->aP)->Prop) (w:World) (e:Ending) (w':World):Prop:=∃(u:Nat) (c:Int),e=aG (τ #[ι F u,ι J c])/\aR (λc=>c=E.T.m) w w'/\(c=0->Wh E aM w')
theorem AnL.below {w w':World} (c:Int) (hc:c≠0) (hb:Below w.heap.size w w'):AnL E aM w (aG (τ #[ι F 0,ι J c])) w':=⟨0,c,rfl,aR.of_below hb,λq=>absurd q hc⟩
theorem ZU (n:Nat) (nm:ByteArray) (w:World) (hs:Small E) (hG:Keeps E aM) (h:Wh E aM w) (hn:n<4294967296) (hnm:nm.size<=maxLen):
 Calls prog 261 #[E.M,ι F n,σ nm] w (AnL E aM w):=by
 obtain⟨D,ino,vs,g,o,hg⟩:=h
 by_cases hb:n<1\/E.i<n
 ·refine(Ci (E:=E) n 2 nm w (by decide) (LQ n w hs g hn hb)).mono ?_
  rintro e w' ⟨rfl,b⟩;exact AnL.below 2 (by decide) b
 ·have h1:1<=n:=by omega
  have h2:n<=E.i:=by omega
  by_cases hk:(ino n).kind=0
  ·refine(Ci (E:=E) n 3 nm w (by decide) (Fx n (ino n) w hs g h1 h2 (o.is n h1 h2) (o.ok n h1 h2) hk)).mono ?_
   rintro e w' ⟨rfl,b⟩;exact AnL.below 3 (by decide) b
  ·by_cases hk2:(ino n).kind=2
   ·have hok:=o.ok n h1 h2
    have hu:(ino n).Used:=hok.resolve_left (λe=>hk (by rw[e];rfl));have hsz:=hu.size;have TX:=Aa n (ino n) (vs n) w hs g h1 h2 (o.is n h1 h2) hok hk2 (o.ing n h1 h2) (o.ind n h1 h2);have hts:=(uj hs g (o.ing n h1 h2) (o.ind n h1 h2) (aQ (ino n).size)).trans (Cz hu hk2)
    generalize kr E D (ino n) (vs n) (aQ (ino n).size)=s at*
    refine(Mr E.M n _ nm s _ _ w (AnR E aM w) TX (λW=>Dir.QZ s nm W (by unfold maxLen;omega) hnm) ?_ ?_ (λc W W' q b=>q.later b)).mono ?_
    ·intro hc W b
     exact⟨aR.of_below b,λq=>absurd q hc⟩
    ·intro hc W b
     obtain⟨_,es',_,e2,_,d⟩:=Dir.ZM hc;rw[e2];have hz:=Dir.pX d;refine(FY n s _ W hs hG (g.later b) o hg h1 h2 hk2 hts hz.2 hz.1).mono ?_;rintro e W' ⟨c',rfl,t1,t2⟩;exact⟨c',rfl,(aR.of_below b).trans t1,t2⟩
    ·rintro e W ⟨u,c',rfl,r,_⟩
     exact⟨u,c',rfl,r.1,r.2⟩
   ·refine(Ci (E:=E) n 180 nm w (by decide) (Fy n (ino n) w hs g h1 h2 (o.is n h1 h2) (o.ok n h1 h2) hk hk2)).mono ?_
    rintro e w' ⟨rfl,b⟩;exact AnL.below 180 (by decide) b
end
section
variable {E:Im} {D:aZ} {Z:Nat->Prop} {Q:Prop}
def ZV (E:Im) (D:aZ) (n:Nat):aZ:=dI E (upd D (fr E 2) (gV (D (fr E 2)) n false)) n dY
theorem Si (n:Nat) (w:World) (hs:Small E) (h:IS w E D Z) (h1:1<=n) (hn:n<=E.i) (hb:dn (D (fr E 2)) n=true) (hz:Z (fr E 2)) (lL:Z (tq E n)) (hQ:fV E Z->Q):
 Calls prog 271 #[E.M,ι F n] w (Out (ι J 0) (ι J 4) (Wr E (ZV E D n) Z w) (Fu E Q w)):=by
 have hi:=hs.hi;have TK:=U (BP n w hs h h1 hn);rw[hb]at TK;have MK:=U (λW (h:IS W E D Z)=>zY 2 n false W hs h (.inl rfl) (by omega) hz hQ);have SI:=U (λW (h:IS W E (upd D (fr E 2) (gV (D (fr E 2)) n false)) Z)=>jg n dY W hs h h1 hn (.inl rfl) lL hQ);have H:=U h;show Calls _ _ _ _ (Out _ _ (Wr E (dI E (upd D (fr E 2) (gV (D (fr E 2)) n false)) n dY) Z w) (Fu E Q w))
 generalize dI E (upd D (fr E 2) (gV (D (fr E 2)) n false)) n dY=D3 at*
 generalize upd D (fr E 2) (gV (D (fr E 2)) n false)=f2 at*
 clear h hb hz lL hQ;unfold aP.val dY at SI
 dsimp only at SI
 go_enter func271,ntmps271
 go_wp2_with fail;refine TK.o.mono ?_;rintro e w1 ⟨rfl,b1⟩;have H2:=U (H.o.later b1);have B1:=U b1;clear b1;go_wp2_with fail;refine(MK.o _ H2.o).mono ?_;rintro e w2 (⟨rfl,aM⟩|⟨rfl,aM⟩)
 ·have aM:=U (aM.pre B1.o)
  go_wp2_with fail;refine(SI.o _ aM.o.1).mono ?_;rintro e w3 (⟨rfl,G3⟩|⟨rfl,G3⟩)
  ·have G3:=U (G3.then_ aM.o)
   go_wp2
   go_ret;exact .inl ⟨rfl,G3.o⟩
  ·have G3:=U (G3.then_ aM.o)
   go_wp2
   go_ret;exact .inr ⟨rfl,G3.o⟩
 ·have aM:=U (aM.pre B1.o)
  go_wp2
  go_ret;exact .inr ⟨rfl,aM.o⟩
end
end lC
namespace Ap
open Go.RowKit Go.Shelf Go.Maps Oct Dev mU Tx Geo qX Bm lC
def Tie (E:Im) (K:Nat->Nat×Nat) (D:aZ) (ino:Nat->aP):Prop:=dn (D (fr E 2)) 0=true/\∀n,1<=n->n<=E.i->dn (D (fr E 2)) n=decide ((K n).1≠0)/\((ino n).kind,(ino n).links)=K n
abbrev PK (E:Im) (K:Nat->Nat×Nat):World->Prop:=Wh E (Tie E K)
abbrev R1 (E:Im) (R:World->Prop):World->Ending->World->Prop:=Rs (λc=>c=E.T.m) True R
def Tk (E:Im) (K:Nat->Nat×Nat) (n:Nat) (W:World):Prop:=∃D ino vs,bP E D ino vs/\Tie E K D ino/\IS W E (upd D (fr E 2) (gV (D (fr E 2)) n true)) (zo E)
def Gv (E:Im) (K:Nat->Nat×Nat) (n:Nat) (W:World):Prop:=∃D ino vs,IS W E D (zo E)/\bP E D ino vs/\Tie E K D ino/\(ino n).size=0
section
variable {E:Im} {D D':aZ} {ino:Nat->aP} {vs:Nat->List Nat} {K:Nat->Nat×Nat} {aM:aZ->(Nat->aP)->Prop} {w:World} {n:Nat}
theorem Tie.keeps:Keeps E (Tie E K):=λD ino D' n y h1 hn hg e2 ek el=>by
 refine⟨by rw[e2];exact hg.1,λm m1 m2=>⟨by rw[e2];exact(hg.2 m m1 m2).1,?_⟩⟩
 by_cases q:m=n
 ·subst q;rw[bH,ek,el];exact(hg.2 m m1 m2).2
 ·rw[dD _ _ q];exact(hg.2 m m1 m2).2
theorem Tie.kind (h:Tie E K D ino) (h1:1<=n) (hn:n<=E.i):(ino n).kind=(K n).1:=congrArg Prod.fst (h.2 n h1 hn).2
theorem Tie.links (h:Tie E K D ino) (h1:1<=n) (hn:n<=E.i):(ino n).links=(K n).2:=congrArg Prod.snd (h.2 n h1 hn).2
theorem Tie.put (h:Tie E K D ino) {y:aP} (b:Bool) (e0:∀m,dn (D' (fr E 2)) m=if m=n then b else dn (D (fr E 2)) m) (h1:1<=n) (hb:b=decide (y.kind≠0)):Tie E (dO K n (y.kind,y.links)) D' (dO ino n y):=by
 refine⟨by rw[e0,if_neg (by omega)];exact h.1,λm m1 m2=>?_⟩
 by_cases q:m=n
 ·subst q;rw[bH,bH,e0,if_pos rfl];exact⟨hb,rfl⟩
 ·rw[dD _ _ q,dD _ _ q,e0,if_neg q];exact h.2 m m1 m2
theorem FZ {Z:Nat->Prop}:qY E.T.m (λW=>IS W E D Z):=⟨λW W' h hb=>h.later hb,λW h=>sD h⟩
theorem uF:qY E.T.m (Wh E aM):=⟨λW W' h hb=>h.later hb,λW ⟨D,ino,vs,h,_⟩=>sD h⟩
theorem IW {R:World->Prop} {e:Ending} {W:World} (h:Out (ι J 0) (ι J 4) (Wr E D' (zo E) w) (Fu E True w) e W) (hR:IS W E D' (zo E)->R W):R1 E R w e W:=by
 rcases h with⟨rfl,g⟩|⟨rfl,g⟩
 ·exact⟨0,rfl,g.2,λ_=>hR g.1,λ_=>trivial⟩
 ·exact⟨4,rfl,g.2,(λq=>by cases q),λ_=>trivial⟩
theorem ZW {e:Ending} {W:World} (h:An E aM w e W):R1 E (Wh E aM) w e W:=by
 obtain⟨c,e,t,h⟩:=h;exact⟨c,e,t,h,λ_=>trivial⟩
theorem Rs.to {S:Nat->Prop} {Q:Prop} {R R':World->Prop} {e:Ending} {W:World} (h:Rs S Q R w e W) (hR:∀W,R W->R' W):Rs S Q R' w e W:=by
 obtain⟨c,e,t,h1,h2⟩:=h;exact⟨c,e,t,λq=>hR _ (h1 q),h2⟩
theorem Wf (hs:Small E) (h1:1<=n) (hn:n<=E.i) (hk:(K n).1=0) (h:PK E K w):Calls prog 175 #[E.M,ι F n] w (R1 E (Tk E K n) w):=by
 obtain⟨D,ino,vs,g,o,t⟩:=h;have hb:dn (D (fr E 2)) n=false:=by rw[(t.2 n h1 hn).1,hk];rfl
 exact(RF (Q:=True) n w hs g h1 hn hb (ZR hs).1 (λ_=>trivial)).mono λe W h=>IW h λg=>⟨D,ino,vs,o,t,g⟩
theorem Wg (hs:Small E) (h1:1<=n) (hn:n<=E.i) (hk:(K n).1=0) (k:Nat) (k12:k=1\/k=2) (h:Tk E K n w):Calls prog 177 #[E.M,ι F n,γ #[ι aF k,ι I 1,ι F 0,ι I 0,ι I 0,ι I 0,ι I 0,ι I 0]] w (R1 E (PK E (dO K n (k,1))) w):=by
 obtain⟨D,ino,vs,o,t,g⟩:=h
 have hx:(⟨k,1,0,0,0,0,0,0⟩:aP).Ok:=.inr ⟨k12,Nat.le_of_ble_eq_true rfl,aB _,λ_=>rfl,λj v hj hv=>by
  have hm:=List.mem_of_getElem? hj
  simp[aP.row]at hm
  exact absurd hm hv,λv hv=>by simp[aP.row]at hv;omega⟩
 have e0:ino n=dY:=(o.ok n h1 hn).resolve_right λu=>by have:=u.kind;rw[t.kind h1 hn,hk]at this;omega
 have hst:=g.sec (pQ hs g.len h1 hn);refine(jg (Q:=True) n ⟨k,1,0,0,0,0,0,0⟩ w hs g h1 hn hx ((ZR hs).2.2.1 n) (λ_=>trivial)).mono λe W h=>IW h λg2=>⟨_,_,_,g2,(o.Wc hs _).dI hs n ⟨k,1,0,0,0,0,0,0⟩ h1 hn hst hx (by rw[e0];rfl),?_⟩
 have h64:(D (fr E 2)).size=64:=by
  have:=g.sec (jo hs g (.inl rfl))
  rwa [upd_same,jG]at this
 refine t.put (y:=⟨k,1,0,0,0,0,0,0⟩) true (λm=>?_) h1 ?_
 ·rw[bU ((wY hs).2.1 n),upd_same]
  exact fE _ _ _ _ (by have:=hs.hi;omega)
 ·rcases k12 with rfl|rfl<;>rfl
theorem Mb (hs:Small E) (h1:1<=n) (hn:n<=E.i) (hk:(K n).1≠0) (l:Nat) (hl:l<=200) (h:IS w E D (zo E)) (o:bP E D ino vs) (t:Tie E K D ino):Calls prog 177 #[E.M,ι F n,({ino n with links:=l}:aP).val] w (R1 E (PK E (dO K n ((K n).1,l))) w):=by
 have hu:(ino n).Used:=(o.ok n h1 hn).resolve_left (λe=>hk (by rw[<-t.kind h1 hn,e];rfl));have hx:({ino n with links:=l}:aP).Ok:=.inr ⟨hu.kind,hl,hu.size,hu.dir,hu.row,hu.lt⟩;have hst:=h.sec (pQ hs h.len h1 hn);refine(jg (Q:=True) n {ino n with links:=l} w hs h h1 hn hx ((ZR hs).2.2.1 n) (λ_=>trivial)).mono λe W h=>IW h λg2=>⟨_,_,_,g2,o.dI hs n {ino n with links:=l} h1 hn hst hx rfl,?_⟩;have hkn:=t.kind h1 hn
 have:=t.put (D':=dI E D n {ino n with links:=l}) (n:=n) (y:={ino n with links:=l}) true (λm=>?_) h1 (by
  show true=decide ((ino n).kind≠0);rw[hkn];simp[hk])
 ·rw[<-hkn];exact this
 ·rw[bU ((wY hs).2.1 n)]
  by_cases q:m=n
  ·rw[if_pos q,q,(t.2 n h1 hn).1];simp[hk]
  ·rw[if_neg q]
theorem Mm (hs:Small E) (h1:1<=n) (hn:n<=E.i) (hk:(K n).1≠0) (h:PK E K w):Calls prog 197 #[E.M,ι F n,ι F (0:Nat)] w (R1 E (Gv E K n) w):=by
 obtain⟨D,ino,vs,g,o,t⟩:=h;refine(yB n 0 w hs g o h1 hn (by rw[t.kind h1 hn];exact hk) (aB _) (λ_=>rfl)).mono ?_;rintro e W (⟨rfl,⟨D',y,us,a1,a2,a3,a4,a5,a6⟩,b⟩|⟨rfl,b⟩)
 ·exact⟨0,rfl,b,λ_=>⟨D',_,_,a1,a2,Tie.keeps _ _ _ _ _ h1 hn t a6 a3 a5,by rw[bH];exact a4⟩,λ_=>trivial⟩
 ·exact⟨4,rfl,b,(λq=>by cases q),λ_=>trivial⟩
theorem row_zero {x:aP} (h:x.Used) (h0:x.size=0):x.row=dY.row:=by
 have hr:=h.row;rw[h0]at hr;have z:∀(k v:Nat),x.row[k]? =some v->v=0:=λk v hk=>Classical.byContradiction λq=>by have:=(hr k v hk q).1;exact absurd this (by unfold aQ;omega)
 show[x.d0,x.d1,x.d2,x.d3,x.ind]=[0,0,0,0,0];rw[z 0 x.d0 rfl,z 1 x.d1 rfl,z 2 x.d2 rfl,z 3 x.d3 rfl,z 4 x.ind rfl]
theorem ZX (hs:Small E) (h1:1<=n) (hn:n<=E.i) (hk:(K n).1≠0) (h:Gv E K n w):Calls prog 271 #[E.M,ι F n] w (R1 E (PK E (dO K n (0,0))) w):=by
 obtain⟨D,ino,vs,g,o,t,h0⟩:=h;have hu:(ino n).Used:=(o.ok n h1 hn).resolve_left (λe=>hk (by rw[<-t.kind h1 hn,e];rfl));have hb:dn (D (fr E 2)) n=true:=by rw[(t.2 n h1 hn).1];simp[hk]
 have hst:=g.sec (pQ hs g.len h1 hn);have h64:=g.sec (jo hs g (.inl rfl));refine(Si (Q:=True) n w hs g h1 hn hb (ZR hs).1 ((ZR hs).2.2.1 n) (λ_=>trivial)).mono λe W h=>IW h λg2=>⟨_,_,_,g2,(o.Wc hs _).dI hs n dY h1 hn ?_ (.inl rfl) (row_zero hu h0).symm,t.put (y:=dY) false (λm=>?_) h1 rfl⟩
 ·rw[upd_ne _ _ ((wY hs).2.1 n).symm];exact hst
 ·unfold ZV
  rw[bU ((wY hs).2.1 n),upd_same];exact fE _ _ _ _ (by have:=hs.hi;omega)
theorem IX (hs:Small E) (d i:Nat) (nm:ByteArray) (hd:d<4294967296) (hnm:nm.size<=maxLen) (h:PK E K w):Calls prog 188 #[γ #[E.M],ι F d,σ nm,ι F i] w (R1 E (PK E K) w):=by
 refine Kz (A:=PK E K) d i nm (λW hW=>(ZU d nm W hs Tie.keeps hW hd hnm).mono ?_) uF h;rintro e W' ⟨u,c,rfl,t,h⟩;exact⟨u,c,rfl,t,λq _=>h q,λ_=>trivial⟩
theorem Ac (hs:Small E) (d i:Nat) (nm:ByteArray) (hd:d<4294967296) (hi:i<4294967296) (hnm:nm.size<=maxLen) (h:PK E K w):Calls prog 179 #[E.M,ι F d,σ nm,ι F i] w (R1 E (PK E K) w):=
 (ZT d i nm w hs Tie.keeps h hd hi hnm).mono λe W h=>ZW h
theorem CJ (hs:Small E) (s:Nat) (hn:n<4294967296) (h32:s<4294967296) (h:PK E K w):Calls prog 197 #[E.M,ι F n,ι F s] w (R1 E (PK E K) w):=
 (VE n s w hs Tie.keeps h hn h32).mono λe W h=>ZW h
theorem Wk (hs:Small E) (p:Int) (s:ByteArray) (hn:n<4294967296) (h64:s.size=64) (h:PK E K w):Calls prog 201 #[E.M,ι F n,ι J p,σ s] w (R1 E (PK E K) w):=
 (Qi n p s w hs Tie.keeps h hn h64).mono λe W h=>ZW h
theorem um (hs:Small E) (h1:1<=n) (hn:n<=E.i) (o:bP E D ino vs) (h:IS w E D (zo E)):Calls prog 48 #[E.M,ι F n] w (Rd (τ #[(ino n).val,ι J 0]) w):=
 wO n (ino n) w hs h h1 hn (o.is n h1 hn) (o.ok n h1 hn)
theorem WD (s:ByteArray) (W:World) (hs:s.size<=4096):Calls prog 95 #[σ s] W λe w'=>∃(p:Option Addr) (k c:Nat),e=aG (θ p k c)/\Below W.heap.size W w':=by
 refine(Dir.CF s W (by unfold maxLen;omega)).mono ?_;rintro e w' ⟨v,rfl,hO,hb⟩
 rcases hO.2 with⟨rfl,e⟩|⟨g,cap,cur,rfl,_⟩
 ·exact⟨none,0,0,rfl,hb⟩
 ·exact⟨_,_,_,rfl,hb⟩
def goK (K:Nat->Nat×Nat) (n:Nat):Nat->Nat×Nat:=dO K n (if(K n).1=2 then(0,0)else((K n).1,(K n).2-1))
theorem Sj (hs:Small E) (h1:1<=n) (hn:n<=E.i) (k:Nat) (hk:(K n).1=k) (k12:k=1\/k=2) (hl:k=1->1<=(K n).2) (h:PK E K w):Calls prog 190 #[γ #[E.M],ι F n,ι aF k] w (R1 E (PK E (goK K n)) w):=by
 obtain⟨D,ino,vs,g,o,t⟩:=h;have ek:=t.kind h1 hn;have el:=t.links h1 hn;have hu:(ino n).Used:=(o.ok n h1 hn).resolve_left (λe=>by rw[e]at ek;rw[<-ek]at hk;have hk:0=k:=hk;omega)
 rcases k12 with rfl|rfl
 ·have hu2:=hu.links
  refine QT (x:=ino n) (A:=λW=>IS W E D (zo E)) (by rw[ek];exact hk) (by rw[el];exact hl rfl) hu2 (λW h=>um hs h1 hn o h) (λW h=>?_) FZ g;unfold goK;rw[if_neg (by rw[hk];decide),<-el];exact Mb hs h1 hn (by rw[hk];decide) ((ino n).links-1) (by omega) h o t
 ·have hts:=(uj hs g (o.ing n h1 hn) (o.ind n h1 hn) (aQ (ino n).size)).trans (Cz hu (by rw[ek];exact hk))
  have hz:=hu.size;refine tE (x:=ino n) (A:=λW=>IS W E D (zo E)) (B:=Gv E K n) (by rw[ek];exact hk) (λW h=>um hs h1 hn o h) (λW h=>?_) (λs W hs=>WD s W hs) (λW h=>Mm hs h1 hn (by rw[hk];decide) ⟨D,ino,vs,h,o,t⟩) (λW h=>?_) FZ g
  ·refine(Aa n (ino n) (vs n) W hs h h1 hn (o.is n h1 hn) (o.ok n h1 hn) (by rw[ek];exact hk) (o.ing n h1 hn) (o.ind n h1 hn)).mono ?_
   rintro e W' ⟨rfl,hb⟩;exact⟨_,rfl,by omega,hb⟩
  ·unfold goK
   rw[if_pos hk];exact ZX hs h1 hn (by rw[hk];decide) h
end
open Re (Rw dX)
def kl (S:Tr.T) (n:Nat):Nat×Nat:=((S.n n).kind,(S.n n).links)
def Hd (S:Tr.T):Prop:=∀x,(S.n x).kind=1->(S.n x).held=1
theorem yC (S:Tr.T) (n:Nat) (v:Tr.Nd) (l:Nat->Tr.Nm->Nat):kl ⟨Tr.aS S.n n v,l⟩=dO (kl S) n (v.kind,v.links):=by
 funext m
 show((Tr.aS S.n n v m).kind,(Tr.aS S.n n v m).links)=_;unfold Tr.aS dO
 split<;>rfl
theorem Ad (S:Tr.T) (n:Nat) (v:Tr.Nd) (l:Nat->Tr.Nm->Nat) (h:v.kind=(S.n n).kind/\v.links=(S.n n).links):kl ⟨Tr.aS S.n n v,l⟩=kl S:=by
 rw[yC]
 funext m
 unfold dO
 split
 ·next e=>subst e;rw[h.1,h.2];rfl
 ·rfl
theorem Sk {S:Tr.T} (hH:Hd S) {n:Nat} (h12:(S.n n).kind=1\/(S.n n).kind=2):((Tr.lose (S.n n)).kind,(Tr.lose (S.n n)).links)=if(kl S n).1=2 then(0,0)else((kl S n).1,(kl S n).2-1):=by
 unfold Tr.lose
 rcases h12 with h|h
 ·have:=hH n h
  rw[if_neg (by rw[h];decide),if_neg (show¬(kl S n).1=2 by show¬(S.n n).kind=2;rw[h];decide)];unfold Tr.zA;rw[if_neg (by simp only;omega)]
  rfl
 ·rw[if_pos h,if_pos (show(kl S n).1=2 from h)];rfl
theorem Hd.next {room:Nat} {r:Tr.Rc} {S:Tr.T} (hI:Tr.Inv room S) (hm:Tr.May r) (h:Hd S) (ho:Tr.Ok room r S):Hd (Tr.next r S):=by
 have hf:∀(v:Tr.Nd),v.kind=1->v.held=1->(Tr.zA v).kind=1->(Tr.zA v).held=1:=λv _ hv _=>by
  unfold Tr.zA at*;rw[if_neg (by omega)];exact hv
 have hl:∀(v:Tr.Nd),(v.kind=1->v.held=1)->(Tr.lose v).kind=1->(Tr.lose v).held=1:=λv hv=>by
  unfold Tr.lose
  split
  ·intro q;cases q
  ·intro q
   have hk:v.kind=1:=by
    unfold Tr.zA at q
    split at q
    ·cases q
    ·exact q
   exact hf _ hk (hv hk) q
 have hs:∀(N:Nat->Tr.Nd) (n:Nat) (v:Tr.Nd),(∀x,(N x).kind=1->(N x).held=1)->(v.kind=1->v.held=1)->∀x,(Tr.aS N n v x).kind=1->(Tr.aS N n v x).held=1:=λN n v hN hv x=>by
  unfold Tr.aS
  split
  ·exact hv
  ·exact hN x
 obtain⟨m1,m2,_⟩:=hm;have hop:r.op=1\/r.op=2\/r.op=3\/r.op=4\/r.op=5\/r.op=6\/r.op=7:=by omega
 rcases hop with e|e|e|e|e|e|e
 ·rw[Tr.Aw e]
  exact hs _ _ _ h (λq=>by simp only at q⊢;rw[if_pos q])
 ·rw[Tr.Gn e]
  exact hs _ _ _ h (λq=>h _ q)
 ·rw[Tr.Ay e]
  exact hs _ _ _ h (hl _ (h _))
 ·rw[Tr.Gp e]
  split
  ·exact h
  ·refine hs _ _ _ ?_ ?_
   ·split
    ·exact h
    ·exact hs _ _ _ h (hl _ (h _))
   ·split
    ·exact λq=>h _ q
    ·exact h _
 ·rw[Tr.Gq e]
  exact hs _ _ _ h (λq=>h _ q)
 ·rw[Tr.Gs e]
  exact hs _ _ _ h (λq=>h _ q)
 ·rw[Tr.Gt e]
  rw[Tr.Nw e]at ho;refine hs _ _ _ h (λq=>?_);have:=h _ ho.1;unfold Tr.zA at q;rw[if_pos ⟨by simp only;omega,ho.2.1⟩]at q;cases q
section
variable {E:Im} {S:Tr.T} {w:World} {r:Rw}
theorem qL (hI:Tr.Inv E.i S) {n:Nat} (h:(S.n n).kind≠0):1<=n/\n<=E.i:=hI.rng n h
theorem Ga (hI:Tr.Inv E.i S) {n d:Nat} {s:Tr.Nm} (hk:(S.n n).kind=1) (hd:S.l d s=n):1<=(S.n n).links:=by
 have:=(hI.cnt n hk).pos hd;omega
theorem act1 (hs:Small E) (hIn:r.In) (hm:Re.May r.rc) (hI:Tr.Inv E.i S) (e:r.op=1) (ho:Tr.Ok E.i r.rc S) (h:PK E (kl S) w):Calls prog 107 #[γ #[E.M],γ (dX r)] w (R1 E (PK E (kl (Tr.next r.rc S))) w):=by
 rw[Tr.WI (show r.rc.op=1 from e)]at ho;rw[Tr.Aw (show r.rc.op=1 from e),yC];obtain⟨_,_,o3,o4,o5⟩:=ho;have hd:=hm.dir;have hk:r.kind=1\/r.kind=2:=hm.JS (by show Re.nk r.op=true;rw[e];rfl);have hi:=hs.hi;exact QU (A:=PK E (kl S)) (B:=Tk E (kl S) r.ino) (C:=PK E (dO (kl S) r.ino (r.kind,1))) (λW h=>Wf hs o4 o5 o3 h) (λW h=>Wg hs o4 o5 o3 r.kind hk h) (λW h=>Ac hs r.dir r.ino r.name (by show r.rc.dir<_;omega) (by show r.rc.ino<_;omega) hIn.name h) uF h
theorem act2 (hs:Small E) (hIn:r.In) (hm:Re.May r.rc) (hI:Tr.Inv E.i S) (e:r.op=2) (ho:Tr.Ok E.i r.rc S) (h:PK E (kl S) w):Calls prog 108 #[γ #[E.M],γ (dX r)] w (R1 E (PK E (kl (Tr.next r.rc S))) w):=by
 rw[Tr.oR (show r.rc.op=2 from e)]at ho;rw[Tr.Gn (show r.rc.op=2 from e),yC];obtain⟨_,_,o3,o4⟩:=ho;obtain⟨h1,hn⟩:=qL hI (n:=r.ino) (by show(S.n r.rc.ino).kind≠0;omega);obtain⟨D,ino,vs,g,o,t⟩:=h;have ek:(ino r.ino).kind=(S.n r.ino).kind:=t.kind h1 hn;have el:(ino r.ino).links=(S.n r.ino).links:=t.links h1 hn;have hd:=hm.dir;have hi:=hs.hi;refine tI (x:=ino r.ino) (A:=λW=>IS W E D (zo E)) (by rw[ek];exact o3) (by rw[el];exact o4) (λW h=>um hs h1 hn o h) (λW h=>?_) (λW h=>Ac hs r.dir r.ino r.name (by show r.rc.dir<_;omega) (by omega) hIn.name h) FZ g;rw[el];exact Mb hs h1 hn (by show(S.n r.rc.ino).kind≠0;omega) ((S.n r.ino).links+1) (by have:(S.n r.ino).links<200:=o4;omega) h o t
theorem act3 (hs:Small E) (hIn:r.In) (hm:Re.May r.rc) (hI:Tr.Inv E.i S) (hH:Hd S) (e:r.op=3) (ho:Tr.Ok E.i r.rc S) (h:PK E (kl S) w):Calls prog 109 #[γ #[E.M],γ (dX r)] w (R1 E (PK E (kl (Tr.next r.rc S))) w):=by
 rw[Tr.JB (show r.rc.op=3 from e)]at ho;rw[Tr.Ay (show r.rc.op=3 from e),yC];obtain⟨_,o2,o3,o4,_⟩:=ho;have hk:r.kind=1\/r.kind=2:=hm.JS (by show Re.nk r.op=true;rw[e];rfl);have o4:(S.n r.ino).kind=r.kind:=o4;obtain⟨h1,hn⟩:=qL hI (n:=r.ino) (by omega);have hd:=hm.dir;have hi:=hs.hi;rw[show(Tr.lose (S.n r.rc.ino))=Tr.lose (S.n r.ino)from rfl,Sk hH (by omega)];exact EI (A:=PK E (kl S)) (B:=PK E (kl S)) (λW h=>IX hs r.dir r.ino r.name (by show r.rc.dir<_;omega) hIn.name h) (λW h=>Sj hs h1 hn r.kind o4 hk (λq=>Ga hI (by omega) o2) h) uF h
theorem act4 (hs:Small E) (hIn:r.In) (hm:Re.May r.rc) (hI:Tr.Inv E.i S) (hH:Hd S) (e:r.op=4) (ho:Tr.Ok E.i r.rc S) (h:PK E (kl S) w):Calls prog 110 #[γ #[E.M],γ (dX r)] w (R1 E (PK E (kl (Tr.next r.rc S))) w):=by
 rw[Tr.JC (show r.rc.op=4 from e)]at ho;rw[Tr.Gp (show r.rc.op=4 from e)];obtain⟨_,o2,o3,o4,_,o6,_,o8⟩:=ho;have hk:r.kind=1\/r.kind=2:=hm.JS (by show Re.nk r.op=true;rw[e];rfl);have o4:(S.n r.ino).kind=r.kind:=o4;have hd:=hm.dir;have hd2:=hm.bV;have hi:=hs.hi;obtain⟨h1,hn⟩:=qL hI (n:=r.ino) (by omega);have LV:=λW (h:PK E (kl S) W)=>IX hs r.dir r.ino r.name (by show r.rc.dir<_;omega) hIn.name h
 by_cases q:r.old=r.ino
 ·rw[if_pos (show r.rc.old=r.rc.ino from q)]
  exact KA q uF h
 ·rw[if_neg (show¬r.rc.old=r.rc.ino from q)]
  by_cases q0:r.old=0
  ·rw[if_pos (show r.rc.old=0 from q0),Ad S r.rc.ino (if r.rc.kind=2 then{S.n r.rc.ino with up:=r.rc.bV}else S.n r.rc.ino) _ (by split<;>exact⟨rfl,rfl⟩)]
   exact KC (B:=PK E (kl S)) LV (λW h=>Ac hs r.bV r.ino r.name2 (by show r.rc.bV<_;omega) (by omega) hIn.name2 h) uF uF h q q0
  ·rw[if_neg (show¬r.rc.old=0 from q0)]
   obtain⟨k1,_⟩:=o8 q0 q;have k1:(S.n r.old).kind=r.kind:=k1;obtain⟨g1,gn⟩:=qL hI (n:=r.old) (by omega);have hsame:Tr.aS S.n r.old (Tr.lose (S.n r.old)) r.ino=S.n r.ino:=by unfold Tr.aS;rw[if_neg (λe=>q e.symm)]
   have hK:=Ad ⟨Tr.aS S.n r.old (Tr.lose (S.n r.old)),S.l⟩ r.ino (if r.rc.kind=2 then{S.n r.rc.ino with up:=r.rc.bV}else S.n r.rc.ino) (Tr.aY (Tr.aY S.l r.rc.dir r.rc.name 0) r.rc.bV r.rc.name2 r.rc.ino) (by rw[show(⟨Tr.aS S.n r.old (Tr.lose (S.n r.old)),S.l⟩:Tr.T).n r.ino=S.n r.ino from hsame];split<;>exact⟨rfl,rfl⟩);have h2:=hK.trans (yC S r.old (Tr.lose (S.n r.old)) S.l);rw[Sk hH (by rw[k1];exact hk)]at h2;rw[show kl ⟨Tr.aS (Tr.aS S.n r.rc.old (Tr.lose (S.n r.rc.old))) r.rc.ino (if r.rc.kind=2 then{S.n r.rc.ino with up:=r.rc.bV}else S.n r.rc.ino),Tr.aY (Tr.aY S.l r.rc.dir r.rc.name 0) r.rc.bV r.rc.name2 r.rc.ino⟩=_ from h2];exact KE (B:=PK E (kl S)) (C:=PK E (kl S)) LV (λW h=>IX hs r.bV r.old r.name2 (by show r.rc.bV<_;omega) hIn.name2 h) (λW h=>Sj hs g1 gn r.kind k1 hk (λz=>Ga hI (n:=r.old) (k1.trans z) o6) h) (λW h=>Ac hs r.bV r.ino r.name2 (by show r.rc.bV<_;omega) (by omega) hIn.name2 h) uF uF h q q0
theorem act5 (hs:Small E) (hm:Re.May r.rc) (hI:Tr.Inv E.i S) (e:r.op=5) (ho:Tr.Ok E.i r.rc S) (h:PK E (kl S) w):Calls prog 111 #[γ #[E.M],γ (dX r)] w (R1 E (PK E (kl (Tr.next r.rc S))) w):=by
 rw[Tr.oS (show r.rc.op=5 from e)]at ho;rw[Tr.Gq (show r.rc.op=5 from e),Ad S r.rc.ino {S.n r.rc.ino with data:=Tr.jq (S.n r.rc.ino).data r.rc.size} S.l ⟨rfl,rfl⟩];obtain⟨h1,hn⟩:=qL hI (n:=r.ino) (by show(S.n r.rc.ino).kind≠0;omega);obtain⟨D,ino,vs,g,o,t⟩:=h;have ek:(ino r.ino).kind=(S.n r.ino).kind:=t.kind h1 hn;have hi:=hs.hi;have hz:r.rc.size<=2304:=hm.siz (by show Re.oF r.op=true;rw[e];rfl);exact tM (x:=ino r.ino) (A:=λW=>IS W E D (zo E)) (by rw[ek];exact ho) (λW h=>um hs h1 hn o h) (λW h=>CJ hs r.size (by omega) (by show r.rc.size<_;omega) ⟨D,ino,vs,h,o,t⟩) FZ g
theorem act6 (hs:Small E) (hm:Re.May r.rc) (hpg:0<=r.page) (hI:Tr.Inv E.i S) (e:r.op=6) (ho:Tr.Ok E.i r.rc S) (h:PK E (kl S) w):Calls prog 112 #[γ #[E.M],γ (dX r)] w (R1 E (PK E (kl (Tr.next r.rc S))) w):=by
 rw[Tr.oT (show r.rc.op=6 from e)]at ho;rw[Tr.Gs (show r.rc.op=6 from e),Ad S r.rc.ino {S.n r.rc.ino with data:=Tr.jq (Tr.wr (S.n r.rc.ino).data r.rc.page r.rc.data) r.rc.size} S.l ⟨rfl,rfl⟩];obtain⟨h1,hn⟩:=qL hI (n:=r.ino) (by show(S.n r.rc.ino).kind≠0;omega);obtain⟨D,ino,vs,g,o,t⟩:=h;have ek:(ino r.ino).kind=(S.n r.ino).kind:=t.kind h1 hn;have hu:(ino r.ino).Used:=(o.ok _ h1 hn).resolve_left (λe=>by rw[e]at ek;have ek:0=(S.n r.rc.ino).kind:=ek;omega);have hzu:=hu.size;have hi:=hs.hi;have hz:r.rc.size<=2304:=hm.siz (by show Re.oF r.op=true;rw[e];rfl);obtain⟨hp,hda⟩:=hm.dat (by show Re.pG r.op=true;rw[e];rfl);have hda:r.data.size=64:=by rw[<-bZ];exact hda
 have hpe:r.page=(r.page.toNat:Int):=(Int.toNat_of_nonneg hpg).symm;have hp:r.page.toNat<36:=hp;exact QV (x:=ino r.ino) (A:=λW=>IS W E D (zo E)) (B:=PK E (kl S)) (C:=PK E (kl S)) r.page.toNat (r.page.toNat*64+64) hpe hp rfl (by rw[ek];exact ho) (λW h=>um hs h1 hn o h) (λv hv W h=>CJ hs v (by omega) (by omega) ⟨D,ino,vs,h,o,t⟩) (λW h=>Wk hs r.page r.data (by omega) hda h) (λW h=>CJ hs r.size (by omega) (by show r.rc.size<_;omega) h) FZ g
theorem act7 (hs:Small E) (hI:Tr.Inv E.i S) (hH:Hd S) (e:r.op=7) (ho:Tr.Ok E.i r.rc S) (h:PK E (kl S) w):Calls prog 113 #[γ #[E.M],γ (dX r)] w (R1 E (PK E (kl (Tr.next r.rc S))) w):=by
 rw[Tr.Nw (show r.rc.op=7 from e)]at ho;rw[Tr.Gt (show r.rc.op=7 from e),yC];obtain⟨o1,o2,o3⟩:=ho;obtain⟨h1,hn⟩:=qL hI (n:=r.ino) (by show(S.n r.rc.ino).kind≠0;omega);obtain⟨D,ino,vs,g,o,t⟩:=h;have ek:(ino r.ino).kind=(S.n r.ino).kind:=t.kind h1 hn;have el:(ino r.ino).links=(S.n r.ino).links:=t.links h1 hn;have hi:=hs.hi;have hk:(kl S r.ino).1≠0:=by show(S.n r.rc.ino).kind≠0;omega
 have e0:Tr.zA {S.n r.rc.ino with held:=(S.n r.rc.ino).held-1}=Tr.Nd.no:=by
  unfold Tr.zA;rw[if_pos ⟨by have:=hH _ o1;simp only;omega,o2⟩]
 rw[e0];exact QW (x:=ino r.ino) (A:=λW=>IS W E D (zo E)) (B:=Gv E (kl S) r.ino) (by rw[ek];exact o1) (by rw[el];exact o2) (λW h=>um hs h1 hn o h) (λW h=>Mm hs h1 hn hk ⟨D,ino,vs,h,o,t⟩) (λW h=>ZX hs h1 hn hk h) FZ g
end
